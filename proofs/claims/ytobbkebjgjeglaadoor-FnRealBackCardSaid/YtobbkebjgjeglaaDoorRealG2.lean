/-
  TEXTS OF REAL NUMBERS READ, PLAINLY, ON: what a reading answers. No program in this text.
-/
import Derived.Test.YtobbkebjgjeglaaDoorRealG
namespace RealG
open Go Lib ItoP RealP Fl RealR Ieee

def tNan : ByteArray := ⟨#[110, 97, 110]⟩
def tInf : ByteArray := ⟨#[105, 110, 102]⟩
def tNinf : ByteArray := ⟨#[45, 105, 110, 102]⟩
def tZero : ByteArray := ⟨#[48]⟩
def tNzero : ByteArray := ⟨#[45, 48]⟩
def Special (t : ByteArray) : Prop := t = tNan ∨ t = tInf ∨ t = tNinf ∨ t = tZero ∨ t = tNzero
theorem txt_nan {b : Nat} (h : isNaN b) : txt b = tNan := by unfold txt; rw [if_pos h]; rfl
theorem txt_inf {b : Nat} (h : rung b = 9218868437227405312) : txt b = if neg b = true then tNinf else tInf := by
  unfold txt; rw [if_neg (by unfold isNaN; omega), if_pos h]; rfl
theorem txt_zero {b : Nat} (h : rung b = 0) : txt b = if neg b = true then tNzero else tZero := by
  unfold txt; rw [if_neg (by unfold isNaN; omega), if_neg (by omega), if_pos h]; rfl
theorem good_of {t : ByteArray} {b : Nat} (hb : b < 18446744073709551616) (h : txt b = t) (hs : ¬ Special t) : Good t b := by
  by_cases h1 : isNaN b
  · exact absurd (.inl (h.symm.trans (txt_nan h1))) hs
  by_cases h2 : rung b = 9218868437227405312
  · have := h.symm.trans (txt_inf h2)
    refine absurd ?_ hs
    unfold Special
    revert this
    generalize neg b = x
    intro this
    cases x with
    | true => exact .inr (.inr (.inl this))
    | false => exact .inr (.inl this)
  by_cases h3 : rung b = 0
  · have := h.symm.trans (txt_zero h3)
    refine absurd ?_ hs
    unfold Special
    revert this
    generalize neg b = x
    intro this
    cases x with
    | true => exact .inr (.inr (.inr (.inr this)))
    | false => exact .inr (.inr (.inr (.inl this)))
  · exact ⟨hb, by unfold isNaN at h1; omega, h3, h⟩
theorem num_star {V : Nat} : (42 : UInt8) ∈ (num V).data.toList := by
  unfold num
  rw [app_list, app_list, star_list]
  exact List.mem_append_left _ (List.mem_append_right _ List.mem_cons_self)
theorem Good.not_special {t : ByteArray} {b : Nat} (h : Good t b) : ¬ Special t := by
  have h1 : (42 : UInt8) ∈ t.data.toList := by
    rw [← h.tx, txt_of h.fin h.nz]
    split
    · rw [app_list]; exact List.mem_append_right _ num_star
    · exact num_star
  unfold Special
  rintro (rfl | rfl | rfl | rfl | rfl) <;> exact absurd h1 (by decide)
theorem Good.not_empty {t : ByteArray} {b : Nat} (h : Good t b) : t.data.toList ≠ [] := by
  intro e
  have h1 : (42 : UInt8) ∈ t.data.toList := by
    rw [← h.tx, txt_of h.fin h.nz]
    split
    · rw [app_list]; exact List.mem_append_right _ num_star
    · exact num_star
  rw [e] at h1
  cases h1
theorem special_ne : tNan ≠ tInf ∧ tNan ≠ tNinf ∧ tNan ≠ tZero ∧ tNan ≠ tNzero ∧ tInf ≠ tNinf ∧ tInf ≠ tZero ∧ tInf ≠ tNzero ∧ tNinf ≠ tZero ∧ tNinf ≠ tNzero ∧ tZero ≠ tNzero := by decide
theorem nan_of_txt {b : Nat} (hb : b < 18446744073709551616) (h : txt b = tNan) : isNaN b := by
  by_cases h1 : isNaN b
  · exact h1
  obtain ⟨a1, a2, a3, a4, _⟩ := special_ne
  by_cases h2 : rung b = 9218868437227405312
  · rw [txt_inf h2] at h
    split at h
    · exact absurd h.symm a2
    · exact absurd h.symm a1
  by_cases h3 : rung b = 0
  · rw [txt_zero h3] at h
    split at h
    · exact absurd h.symm a4
    · exact absurd h.symm a3
  · have : Good tNan b := ⟨hb, by unfold isNaN at h1; omega, h3, h⟩
    exact absurd (.inl rfl) this.not_special
theorem same_word {b c : Nat} (hb : b < 18446744073709551616) (hc : c < 18446744073709551616) (h1 : rung b = rung c) (h2 : neg b = neg c) : b = c := by rw [word_of hb, word_of hc, h1, h2]
theorem inf_of_txt {b : Nat} {s : Bool} (hb : b < 18446744073709551616) (h : txt b = if s = true then tNinf else tInf) : rung b = 9218868437227405312 ∧ neg b = s := by
  obtain ⟨a1, a2, a3, a4, a5, a6, a7, a8, a9, a10⟩ := special_ne
  have hsp : Special (if s = true then tNinf else tInf) := by
    unfold Special; cases s with
    | true => exact .inr (.inr (.inl rfl))
    | false => exact .inr (.inl rfl)
  by_cases h1 : isNaN b
  · rw [txt_nan h1] at h
    cases s with
    | true => exact absurd h a2
    | false => exact absurd h a1
  by_cases h2 : rung b = 9218868437227405312
  · refine ⟨h2, ?_⟩
    rw [txt_inf h2] at h
    revert h
    generalize neg b = x
    intro h
    cases x <;> cases s
    · rfl
    · exact absurd h a5
    · exact absurd h.symm a5
    · rfl
  by_cases h3 : rung b = 0
  · exfalso
    rw [txt_zero h3] at h
    revert h
    generalize neg b = x
    intro h
    cases x <;> cases s
    · exact absurd h.symm a6
    · exact absurd h.symm a8
    · exact absurd h.symm a7
    · exact absurd h.symm a9
  · have : Good (if s = true then tNinf else tInf) b := ⟨hb, by unfold isNaN at h1; omega, h3, h⟩
    exact absurd hsp this.not_special
theorem zero_of_txt {b : Nat} {s : Bool} (hb : b < 18446744073709551616) (h : txt b = if s = true then tNzero else tZero) : rung b = 0 ∧ neg b = s := by
  obtain ⟨a1, a2, a3, a4, a5, a6, a7, a8, a9, a10⟩ := special_ne
  have hsp : Special (if s = true then tNzero else tZero) := by
    unfold Special; cases s with
    | true => exact .inr (.inr (.inr (.inr rfl)))
    | false => exact .inr (.inr (.inr (.inl rfl)))
  by_cases h1 : isNaN b
  · rw [txt_nan h1] at h
    cases s with
    | true => exact absurd h a4
    | false => exact absurd h a3
  by_cases h2 : rung b = 9218868437227405312
  · exfalso
    rw [txt_inf h2] at h
    revert h
    generalize neg b = x
    intro h
    cases x <;> cases s
    · exact absurd h a6
    · exact absurd h a7
    · exact absurd h a8
    · exact absurd h a9
  by_cases h3 : rung b = 0
  · refine ⟨h3, ?_⟩
    rw [txt_zero h3] at h
    revert h
    generalize neg b = x
    intro h
    cases x <;> cases s
    · rfl
    · exact absurd h a10
    · exact absurd h.symm a10
    · rfl
  · have : Good (if s = true then tNzero else tZero) b := ⟨hb, by unfold isNaN at h1; omega, h3, h⟩
    exact absurd hsp this.not_special
/-- one text is one number -/
theorem txt_inj {b c : Nat} (hb : b < 18446744073709551616) (hc : c < 18446744073709551616) (h : txt b = txt c) : (isNaN b ∧ isNaN c) ∨ b = c := by
  by_cases h1 : isNaN c
  · exact .inl ⟨nan_of_txt hb (h.trans (txt_nan h1)), h1⟩
  by_cases h2 : rung c = 9218868437227405312
  · obtain ⟨e1, e2⟩ := inf_of_txt hb (h.trans (txt_inf h2))
    exact .inr (same_word hb hc (e1.trans h2.symm) e2)
  by_cases h3 : rung c = 0
  · obtain ⟨e1, e2⟩ := zero_of_txt hb (h.trans (txt_zero h3))
    exact .inr (same_word hb hc (e1.trans h3.symm) e2)
  · have k : Good (txt c) c := ⟨hc, by unfold isNaN at h1; omega, h3, rfl⟩
    exact .inr ((good_of hb h k.not_special).inj k)
/-- what a reading answers -/
def Reads (t : ByteArray) (b : Nat) (ok : Bool) : Prop := b < 18446744073709551616 ∧ ((ok = true ∧ txt b = t) ∨ (ok = false ∧ b = 0 ∧ ∀ c, c < 18446744073709551616 → txt c ≠ t))
theorem Reads.same {t : ByteArray} {b c : Nat} {x y : Bool} (h : Reads t b x) (k : Reads t c y) : x = y ∧ ((isNaN b ∧ isNaN c) ∨ b = c) := by
  obtain ⟨hb, h⟩ := h
  obtain ⟨hc, k⟩ := k
  rcases h with ⟨rfl, h⟩ | ⟨rfl, rfl, h⟩ <;> rcases k with ⟨rfl, k⟩ | ⟨rfl, rfl, k⟩
  · exact ⟨rfl, txt_inj hb hc (h.trans k.symm)⟩
  · exact absurd h (k _ hb)
  · exact absurd k (h _ hc)
  · exact ⟨rfl, .inr rfl⟩
theorem no_good {t : ByteArray} (hs : ¬ Special t) (h : ∀ c, ¬ Good t c) : ∀ c, c < 18446744073709551616 → txt c ≠ t := fun c hc e => h c (good_of hc e hs)
/-- what is read where a text stands for a number -/
theorem good_parts {t : ByteArray} {c : Nat} (h : Good t c) : ∃ n e : Int, Lib.cut t.data.toList [42, 50, 94] = ((itoaB n).data.toList, (itoaB e).data.toList, true) ∧ n.natAbs < 9007199254740992 ∧ -1074 ≤ e ∧ e ≤ 1023 ∧
    ∀ r : Nat, (∀ T : Nat, (T : Int) = e + 1074 → n ≠ 0 → Rep (n.natAbs * p2 T) → Is r (decide (n < 0)) (n.natAbs * p2 T)) → r = c := by
  rcases good_cases h with h' | ⟨u, rfl, h'⟩
  · obtain ⟨n, T, k, hT, hI⟩ := h'.cut
    have ho := k.od
    refine ⟨n, (T : Int) - 1074, by rw [k.list]; exact cut_star no_star, by have := k.lt; omega, by omega, by omega, fun r hr => ?_⟩
    have := hr T (by omega) (by omega)
    rw [Int.natAbs_natCast, decide_eq_false (by omega)] at this
    exact (this hI.rep).unique hI
  · obtain ⟨n, T, k, hT, hI⟩ := h'.cut
    have ho := k.od
    refine ⟨-(n : Int), (T : Int) - 1074, ?_, by have := k.lt; omega, by omega, by omega, fun r hr => ?_⟩
    · rw [dash_list, k.list, nat_list, ← List.cons_append, ← neg_list (by omega)]
      exact cut_star no_star
    · have := hr T (by omega) (by omega)
      rw [Int.natAbs_neg, Int.natAbs_natCast, decide_eq_true (by omega)] at this
      have h1 := this hI.rep
      have h2 := hI.turned
      have h3 := h1.unique h2
      have h4 : r < 18446744073709551616 := by
        obtain ⟨q, hq, e, _⟩ := h1
        rw [e]; simp [word]; omega
      have e1 := word_of h.lt
      have e2 : Op.negFloat .f64 (Op.negFloat .f64 c) = c := by
        have hn := negFloat_lt h.lt
        refine same_word (negFloat_lt hn) h.lt (by rw [rung_neg hn, rung_neg h.lt]) ?_
        rw [neg_neg hn, neg_neg h.lt]
        cases neg c <;> rfl
      rw [h3, e2]
end RealG
