import Derived.Test.YtikcabmohlaanaaDoorDevB
namespace DevB
open Go Lib ItoP DevT
/-- an operand has a text just where it is ok -/
theorem txt_ne {k n p : Int} (h : DevP.ok k n p = true) : txt k n p ≠ ⟨#[]⟩ := by
  intro e
  obtain ⟨a, _⟩ := complete k n p h
  have hr := DevP.ok_range h
  rw [e] at a
  have : gw gi ⟨#[]⟩ = (11, 0, 0) := by decide
  rw [this] at a
  obtain ⟨h1, h2⟩ := Prod.mk.inj a
  obtain ⟨h2, h3⟩ := Prod.mk.inj h2
  subst h1 h2 h3
  rw [txt_11 h] at e
  have hl := congrArg ByteArray.size e
  have : (itoaB 0).size = 1 := by
    have : itoaB 0 = ⟨#[48]⟩ := by
      have := itoaB_nat 0
      rw [dig_small (by decide)] at this
      exact this
    rw [this]
    rfl
  rw [this] at hl
  exact absurd hl (by decide)
/-- what is written is read back -/
theorem back {k n p : Int} (h : DevP.ok k n p = true) : readBy gi (txt k n p) = some (k, n, p) := (read_of h rfl (txt_ne h)).1
theorem back_no {k n p : Int} (h : DevP.ok k n p = false) : readBy gi (txt k n p) = none := by
  rw [txt_no h]; unfold readBy; rw [if_pos rfl]
theorem txt_size (k n p : Int) : (txt k n p).size ≤ 50 := by
  cases h : DevP.ok k n p with
  | false => rw [txt_no h]; decide
  | true =>
    have hr := DevP.ok_range h
    by_cases h1 : k ≤ 10
    · rw [txt_dev h1 h, ByteArray.size_append]
      rw [DevP.ok_dev ⟨hr.1, h1⟩] at h
      have h := of_decide_eq_true h
      have hs : DevP.size k ≤ 64 := by unfold DevP.size; repeat (first | split | omega)
      have := itoaB_size (n := n) (by omega) (by omega)
      have hl : (letter k).size = 1 := rfl
      omega
    by_cases h2 : k = 11
    · subst h2
      rw [txt_11 h]
      rw [DevP.ok_int] at h
      have h := of_decide_eq_true h
      have := itoaB_size (n := n) (by omega) (by omega)
      omega
    by_cases h3 : k = 12
    · subst h3
      rw [txt_12 h]
      rw [DevP.ok_dec] at h
      have h := of_decide_eq_true h
      unfold decD
      split
      · rw [decN_neg, ByteArray.size_append]
        have := decN_size (g := ⟨#[]⟩) (u := (-n).toNat) (p := p.toNat) rfl (by omega) (by omega)
        have : (⟨#[45]⟩ : ByteArray).size = 1 := rfl
        omega
      · have := decN_size (g := ⟨#[]⟩) (u := n.toNat) (p := p.toNat) rfl (by omega) (by omega)
        omega
    · obtain rfl : k = 13 := by omega
      rw [txt_13 h]
      unfold word
      repeat (first | decide | split)
end DevB
