/- How long an operand's text can be. No program in this text. -/
import Derived.Test.YtmlpobecilbknaaDoorDevT
namespace DevT
open Go ItoP
theorem size_le (k n p : Int) : (txt k n p).size ≤ 50 := by
  cases h : DevP.ok k n p with
  | false => rw [txt_no h]; decide
  | true =>
    have hr := DevP.ok_range h
    by_cases h1 : k ≤ 10
    · rw [txt_dev h1 h, ByteArray.size_append]
      rw [DevP.ok_dev ⟨hr.1, h1⟩] at h
      have h := of_decide_eq_true h
      have hs : DevP.size k ≤ 64 := by unfold DevP.size; repeat (first | split | omega)
      have := itoaB_size (n := n) (by omega) (by omega)
      have hl : (letter k).size = 1 := rfl
      omega
    by_cases h2 : k = 11
    · subst h2
      rw [txt_11 h]
      rw [DevP.ok_int] at h
      have h := of_decide_eq_true h
      have := itoaB_size (n := n) (by omega) (by omega)
      omega
    by_cases h3 : k = 12
    · subst h3
      rw [txt_12 h]
      rw [DevP.ok_dec] at h
      have h := of_decide_eq_true h
      unfold decD
      split
      · rw [decN_neg, ByteArray.size_append]
        have := decN_size (g := ⟨#[]⟩) (u := (-n).toNat) (p := p.toNat) rfl (by omega) (by omega)
        have : (⟨#[45]⟩ : ByteArray).size = 1 := rfl
        omega
      · have := decN_size (g := ⟨#[]⟩) (u := n.toNat) (p := p.toNat) rfl (by omega) (by omega)
        omega
    · obtain rfl : k = 13 := by omega
      rw [txt_13 h]
      unfold word
      repeat (first | decide | split)
end DevT
