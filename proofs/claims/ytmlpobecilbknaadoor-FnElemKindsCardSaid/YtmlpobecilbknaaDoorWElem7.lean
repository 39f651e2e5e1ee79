/- The contracts of ElemIsContact and ElemIsCoil. -/
import Derived.Test.YtmlpobecilbknaaDoorRows
import Derived.Test.YtmlpobecilbknaaDoorWElem3
import Derived.Test.YtmlpobecilbknaaDoorWElem5
import Derived.Test.YtmlpobecilbknaaDoorElemP2
import Derived.WalkKit
import Derived.WalkSpells
import Derived.WalkLawsBesides
import Derived.OpenShut
namespace Go.Proofs.YtmlpobecilbknaaDoor
open Go.RowKit Bx ElemP
set_option linter.unusedVariables false

/-- a slice of operands -/
def Arr (w : World) (a : Option Addr) (n c : Nat) (xs : List Arg) : Prop := n = xs.length ∧ n ≤ c ∧ c ≤ maxLen ∧ n ≤ 1048576 ∧ (xs = [] ∨ ∃ g, a = some ⟨g, 0, none⟩ ∧ Lie w g 0 xs)
theorem Arr.kept {w w' : World} {a : Option Addr} {n c : Nat} {xs : List Arg} (h : Arr w a n c xs) (hb : Below w.heap.size w w') : Arr w' a n c xs := by
  obtain ⟨h1, h2, h3, h4, h5⟩ := h
  refine ⟨h1, h2, h3, h4, ?_⟩
  rcases h5 with h | ⟨g, e, hl⟩
  · exact .inl h
  · exact .inr ⟨g, e, hl.kept hb⟩
theorem contact_i_any (op : Int) (a : Option Addr) (n c : Nat) (xs : List Arg) (w : World) (h : Arr w a n c xs) : Calls Tryd.prog 14 #[.agg #[.int .i64 op, .slice a n c]] w fun e w' => e = .returned (.bool (contact op xs)) ∧ Below w.heap.size w w' := by
  obtain ⟨hn, hc, hm, h3, hx⟩ := h
  by_cases hin : 1 ≤ op ∧ op ≤ 10
  · have hin2 : (decide (1 ≤ op) && decide (op ≤ 10)) = true := by simp; omega
    by_cases hl : n = arity op
    · have hne : xs ≠ [] := by
        intro e
        have : 1 ≤ arity op := by unfold arity; repeat (first | split | omega)
        rw [e] at hn
        simp at hn
        omega
      rcases hx with hx | ⟨g, rfl, hlie⟩
      · exact absurd hx hne
      cases hall : xs.any (fun x => !okA x) with
      | true =>
        rw [contact_no (fun h => by have := any_not.2 h.2.2; rw [this] at hall; cases hall)]
        exact contact_i_bad op _ n c hin2 w (fun w' hb => by have := argsOk_yes op g 0 n c xs hn h3 hl w' (hlie.kept hb); rw [hall] at this; exact this)
      | false =>
        have hok := any_not.1 hall
        have ha : ∀ w', Below w.heap.size w w' → Calls Tryd.prog 31 #[.agg #[.int .i64 op, .slice (some ⟨g, 0, none⟩) n c]] w' fun e w'' => e = .returned (.bool true) ∧ Below w'.heap.size w' w'' := fun w' hb => by have := argsOk_yes op g 0 n c xs hn h3 hl w' (hlie.kept hb); rw [hall] at this; exact this
        have hk : op = 1 ∨ op = 2 ∨ op = 3 ∨ op = 4 ∨ op = 5 ∨ op = 6 ∨ op = 7 ∨ op = 8 ∨ op = 9 ∨ op = 10 := by omega
        rcases hk with rfl | rfl | rfl | rfl | rfl | rfl | rfl | rfl | rfl | rfl
        · obtain rfl : n = 1 := hl
          obtain ⟨k0, n0, p0, rfl⟩ := len1 hn.symm
          have o0 : okA (k0, n0, p0) = true := hok _ (by simp)
          rw [v1 (by omega)]; exact contact_i_1 k0 n0 p0 g c w hlie ha
        · obtain rfl : n = 1 := hl
          obtain ⟨k0, n0, p0, rfl⟩ := len1 hn.symm
          have o0 : okA (k0, n0, p0) = true := hok _ (by simp)
          rw [v1 (by omega)]; exact contact_i_2 k0 n0 p0 g c w hlie ha
        · obtain rfl : n = 2 := hl
          obtain ⟨k0, n0, p0, k1, n1, p1, rfl⟩ := len2 hn.symm
          have o0 : okA (k0, n0, p0) = true := hok _ (by simp)
          have o1 : okA (k1, n1, p1) = true := hok _ (by simp)
          rw [v3 (by omega), o1, Bool.true_and]; exact contact_i_3 k0 n0 p0 k1 n1 p1 g c w hlie ha
        · obtain rfl : n = 2 := hl
          obtain ⟨k0, n0, p0, k1, n1, p1, rfl⟩ := len2 hn.symm
          have o0 : okA (k0, n0, p0) = true := hok _ (by simp)
          have o1 : okA (k1, n1, p1) = true := hok _ (by simp)
          rw [v3 (by omega), o1, Bool.true_and]; exact contact_i_4 k0 n0 p0 k1 n1 p1 g c w hlie ha
        · obtain rfl : n = 2 := hl
          obtain ⟨k0, n0, p0, k1, n1, p1, rfl⟩ := len2 hn.symm
          have o0 : okA (k0, n0, p0) = true := hok _ (by simp)
          have o1 : okA (k1, n1, p1) = true := hok _ (by simp)
          rw [v5 (by omega)]; exact contact_i_5 k0 n0 p0 k1 n1 p1 g c w hlie ha
        · obtain rfl : n = 2 := hl
          obtain ⟨k0, n0, p0, k1, n1, p1, rfl⟩ := len2 hn.symm
          have o0 : okA (k0, n0, p0) = true := hok _ (by simp)
          have o1 : okA (k1, n1, p1) = true := hok _ (by simp)
          rw [v5 (by omega)]; exact contact_i_6 k0 n0 p0 k1 n1 p1 g c w hlie ha
        · obtain rfl : n = 2 := hl
          obtain ⟨k0, n0, p0, k1, n1, p1, rfl⟩ := len2 hn.symm
          have o0 : okA (k0, n0, p0) = true := hok _ (by simp)
          have o1 : okA (k1, n1, p1) = true := hok _ (by simp)
          rw [v5 (by omega)]; exact contact_i_7 k0 n0 p0 k1 n1 p1 g c w hlie ha
        · obtain rfl : n = 2 := hl
          obtain ⟨k0, n0, p0, k1, n1, p1, rfl⟩ := len2 hn.symm
          have o0 : okA (k0, n0, p0) = true := hok _ (by simp)
          have o1 : okA (k1, n1, p1) = true := hok _ (by simp)
          rw [v5 (by omega)]; exact contact_i_8 k0 n0 p0 k1 n1 p1 g c w hlie ha
        · obtain rfl : n = 2 := hl
          obtain ⟨k0, n0, p0, k1, n1, p1, rfl⟩ := len2 hn.symm
          have o0 : okA (k0, n0, p0) = true := hok _ (by simp)
          have o1 : okA (k1, n1, p1) = true := hok _ (by simp)
          rw [v5 (by omega)]; exact contact_i_9 k0 n0 p0 k1 n1 p1 g c w hlie ha
        · obtain rfl : n = 2 := hl
          obtain ⟨k0, n0, p0, k1, n1, p1, rfl⟩ := len2 hn.symm
          have o0 : okA (k0, n0, p0) = true := hok _ (by simp)
          have o1 : okA (k1, n1, p1) = true := hok _ (by simp)
          rw [v5 (by omega)]; exact contact_i_10 k0 n0 p0 k1 n1 p1 g c w hlie ha
    · rw [contact_no (fun h => hl (hn.trans h.2.1))]
      exact contact_i_bad op a n c hin2 w (fun w' hb => argsOk_no op a n c hl w')
  · rw [contact_no (fun h => hin h.1)]
    exact contact_i_out op a n c (by by_cases h1 : 1 ≤ op <;> simp <;> omega) w
theorem coil_i_any (op : Int) (a : Option Addr) (n c : Nat) (xs : List Arg) (w : World) (h : Arr w a n c xs) : Calls Tryd.prog 15 #[.agg #[.int .i64 op, .slice a n c]] w fun e w' => e = .returned (.bool (coil op xs)) ∧ Below w.heap.size w w' := by
  obtain ⟨hn, hc, hm, h3, hx⟩ := h
  by_cases hin : 21 ≤ op ∧ op ≤ 37
  · have hin2 : (decide (21 ≤ op) && decide (op ≤ 37)) = true := by simp; omega
    by_cases hl : n = arity op
    · have hne : xs ≠ [] := by
        intro e
        have : 1 ≤ arity op := by unfold arity; repeat (first | split | omega)
        rw [e] at hn
        simp at hn
        omega
      rcases hx with hx | ⟨g, rfl, hlie⟩
      · exact absurd hx hne
      cases hall : xs.any (fun x => !okA x) with
      | true =>
        rw [coil_no (fun h => by have := any_not.2 h.2.2; rw [this] at hall; cases hall)]
        exact coil_i_bad op _ n c hin2 w (fun w' hb => by have := argsOk_yes op g 0 n c xs hn h3 hl w' (hlie.kept hb); rw [hall] at this; exact this)
      | false =>
        have hok := any_not.1 hall
        have ha : ∀ w', Below w.heap.size w w' → Calls Tryd.prog 31 #[.agg #[.int .i64 op, .slice (some ⟨g, 0, none⟩) n c]] w' fun e w'' => e = .returned (.bool true) ∧ Below w'.heap.size w' w'' := fun w' hb => by have := argsOk_yes op g 0 n c xs hn h3 hl w' (hlie.kept hb); rw [hall] at this; exact this
        have hk : op = 21 ∨ op = 22 ∨ op = 23 ∨ op = 24 ∨ op = 25 ∨ op = 26 ∨ op = 27 ∨ op = 28 ∨ op = 29 ∨ op = 30 ∨ op = 31 ∨ op = 32 ∨ op = 33 ∨ op = 34 ∨ op = 35 ∨ op = 36 ∨ op = 37 := by omega
        rcases hk with rfl | rfl | rfl | rfl | rfl | rfl | rfl | rfl | rfl | rfl | rfl | rfl | rfl | rfl | rfl | rfl | rfl
        · obtain rfl : n = 1 := hl
          obtain ⟨k0, n0, p0, rfl⟩ := len1 hn.symm
          have o0 : okA (k0, n0, p0) = true := hok _ (by simp)
          rw [u21 o0]
          by_cases hc1 : c = 1
          · subst hc1; exact coil_i_21_one k0 n0 p0 g w hlie _ rfl ha
          · exact coil_i_21_more k0 n0 p0 g c ⟨by omega, hm⟩ w hlie _ rfl ha
        · obtain rfl : n = 1 := hl
          obtain ⟨k0, n0, p0, rfl⟩ := len1 hn.symm
          have o0 : okA (k0, n0, p0) = true := hok _ (by simp)
          rw [u22 o0]
          by_cases hc1 : c = 1
          · subst hc1; exact coil_i_22_one k0 n0 p0 g w hlie _ rfl ha
          · exact coil_i_22_more k0 n0 p0 g c ⟨by omega, hm⟩ w hlie _ rfl ha
        · obtain rfl : n = 1 := hl
          obtain ⟨k0, n0, p0, rfl⟩ := len1 hn.symm
          have o0 : okA (k0, n0, p0) = true := hok _ (by simp)
          rw [u23 o0]
          by_cases hc1 : c = 1
          · subst hc1; exact coil_i_23_one k0 n0 p0 g w hlie _ rfl ha
          · exact coil_i_23_more k0 n0 p0 g c ⟨by omega, hm⟩ w hlie _ rfl ha
        · obtain rfl : n = 2 := hl
          obtain ⟨k0, n0, p0, k1, n1, p1, rfl⟩ := len2 hn.symm
          have o0 : okA (k0, n0, p0) = true := hok _ (by simp)
          have o1 : okA (k1, n1, p1) = true := hok _ (by simp)
          rw [u24 o0 o1]; exact coil_i_24 k0 n0 p0 k1 n1 p1 g c ⟨hc, hm⟩ w hlie (wholeA (k1, n1, p1)) (realA (k1, n1, p1)) (by simp) (by simp) _ rfl _ rfl ha
        · obtain rfl : n = 1 := hl
          obtain ⟨k0, n0, p0, rfl⟩ := len1 hn.symm
          have o0 : okA (k0, n0, p0) = true := hok _ (by simp)
          rw [u25 o0]
          by_cases hc1 : c = 1
          · subst hc1; exact coil_i_25_one k0 n0 p0 g w hlie _ rfl ha
          · exact coil_i_25_more k0 n0 p0 g c ⟨by omega, hm⟩ w hlie _ rfl ha
        · obtain rfl : n = 2 := hl
          obtain ⟨k0, n0, p0, k1, n1, p1, rfl⟩ := len2 hn.symm
          have o0 : okA (k0, n0, p0) = true := hok _ (by simp)
          have o1 : okA (k1, n1, p1) = true := hok _ (by simp)
          rw [u26 (by omega) o0 o1]; exact coil_i_26 k0 n0 p0 k1 n1 p1 g c ⟨hc, hm⟩ w hlie (wholeA (k1, n1, p1)) (realA (k1, n1, p1)) (by simp) (by simp) _ rfl _ rfl ha
        · obtain rfl : n = 2 := hl
          obtain ⟨k0, n0, p0, k1, n1, p1, rfl⟩ := len2 hn.symm
          have o0 : okA (k0, n0, p0) = true := hok _ (by simp)
          have o1 : okA (k1, n1, p1) = true := hok _ (by simp)
          rw [u26 (by omega) o0 o1]; exact coil_i_27 k0 n0 p0 k1 n1 p1 g c ⟨hc, hm⟩ w hlie (wholeA (k1, n1, p1)) (realA (k1, n1, p1)) (by simp) (by simp) _ rfl _ rfl ha
        · obtain rfl : n = 2 := hl
          obtain ⟨k0, n0, p0, k1, n1, p1, rfl⟩ := len2 hn.symm
          have o0 : okA (k0, n0, p0) = true := hok _ (by simp)
          have o1 : okA (k1, n1, p1) = true := hok _ (by simp)
          rw [u26 (by omega) o0 o1]; exact coil_i_28 k0 n0 p0 k1 n1 p1 g c ⟨hc, hm⟩ w hlie (wholeA (k1, n1, p1)) (realA (k1, n1, p1)) (by simp) (by simp) _ rfl _ rfl ha
        · obtain rfl : n = 2 := hl
          obtain ⟨k0, n0, p0, k1, n1, p1, rfl⟩ := len2 hn.symm
          have o0 : okA (k0, n0, p0) = true := hok _ (by simp)
          have o1 : okA (k1, n1, p1) = true := hok _ (by simp)
          rw [u29 o0 o1]; exact coil_i_29 k0 n0 p0 k1 n1 p1 g c ⟨hc, hm⟩ w hlie (wholeA (k1, n1, p1)) (realA (k1, n1, p1)) (by simp) (by simp) _ rfl _ rfl ha
        · obtain rfl : n = 2 := hl
          obtain ⟨k0, n0, p0, k1, n1, p1, rfl⟩ := len2 hn.symm
          have o0 : okA (k0, n0, p0) = true := hok _ (by simp)
          have o1 : okA (k1, n1, p1) = true := hok _ (by simp)
          rw [u30 o0]; exact coil_i_30 k0 n0 p0 k1 n1 p1 g c ⟨hc, hm⟩ w hlie (wholeA (k1, n1, p1)) (realA (k1, n1, p1)) (by simp) (by simp) _ rfl _ rfl ha
        · obtain rfl : n = 3 := hl
          obtain ⟨k0, n0, p0, k1, n1, p1, k2, n2, p2, rfl⟩ := len3 hn.symm
          have o0 : okA (k0, n0, p0) = true := hok _ (by simp)
          have o1 : okA (k1, n1, p1) = true := hok _ (by simp)
          rw [u31 (by omega) o0]; exact coil_i_31 k0 n0 p0 k1 n1 p1 k2 n2 p2 g c ⟨hc, hm⟩ w hlie (wholeA (k1, n1, p1) && wholeA (k2, n2, p2)) (realA (k1, n1, p1) && realA (k2, n2, p2)) (by simp [Bool.not_or]) (by simp [Bool.not_or]) _ rfl _ rfl ha
        · obtain rfl : n = 3 := hl
          obtain ⟨k0, n0, p0, k1, n1, p1, k2, n2, p2, rfl⟩ := len3 hn.symm
          have o0 : okA (k0, n0, p0) = true := hok _ (by simp)
          have o1 : okA (k1, n1, p1) = true := hok _ (by simp)
          rw [u31 (by omega) o0]; exact coil_i_32 k0 n0 p0 k1 n1 p1 k2 n2 p2 g c ⟨hc, hm⟩ w hlie (wholeA (k1, n1, p1) && wholeA (k2, n2, p2)) (realA (k1, n1, p1) && realA (k2, n2, p2)) (by simp [Bool.not_or]) (by simp [Bool.not_or]) _ rfl _ rfl ha
        · obtain rfl : n = 3 := hl
          obtain ⟨k0, n0, p0, k1, n1, p1, k2, n2, p2, rfl⟩ := len3 hn.symm
          have o0 : okA (k0, n0, p0) = true := hok _ (by simp)
          have o1 : okA (k1, n1, p1) = true := hok _ (by simp)
          rw [u31 (by omega) o0]; exact coil_i_33 k0 n0 p0 k1 n1 p1 k2 n2 p2 g c ⟨hc, hm⟩ w hlie (wholeA (k1, n1, p1) && wholeA (k2, n2, p2)) (realA (k1, n1, p1) && realA (k2, n2, p2)) (by simp [Bool.not_or]) (by simp [Bool.not_or]) _ rfl _ rfl ha
        · obtain rfl : n = 3 := hl
          obtain ⟨k0, n0, p0, k1, n1, p1, k2, n2, p2, rfl⟩ := len3 hn.symm
          have o0 : okA (k0, n0, p0) = true := hok _ (by simp)
          have o1 : okA (k1, n1, p1) = true := hok _ (by simp)
          rw [u31 (by omega) o0]; exact coil_i_34 k0 n0 p0 k1 n1 p1 k2 n2 p2 g c ⟨hc, hm⟩ w hlie (wholeA (k1, n1, p1) && wholeA (k2, n2, p2)) (realA (k1, n1, p1) && realA (k2, n2, p2)) (by simp [Bool.not_or]) (by simp [Bool.not_or]) _ rfl _ rfl ha
        · obtain rfl : n = 3 := hl
          obtain ⟨k0, n0, p0, k1, n1, p1, k2, n2, p2, rfl⟩ := len3 hn.symm
          have o0 : okA (k0, n0, p0) = true := hok _ (by simp)
          have o1 : okA (k1, n1, p1) = true := hok _ (by simp)
          rw [u35 o0]; exact coil_i_35 k0 n0 p0 k1 n1 p1 k2 n2 p2 g c ⟨hc, hm⟩ w hlie (wholeA (k1, n1, p1) && wholeA (k2, n2, p2)) (realA (k1, n1, p1) && realA (k2, n2, p2)) (by simp [Bool.not_or]) (by simp [Bool.not_or]) _ rfl ha
        · obtain rfl : n = 2 := hl
          obtain ⟨k0, n0, p0, k1, n1, p1, rfl⟩ := len2 hn.symm
          have o0 : okA (k0, n0, p0) = true := hok _ (by simp)
          have o1 : okA (k1, n1, p1) = true := hok _ (by simp)
          rw [u36 o0]; exact coil_i_36 k0 n0 p0 k1 n1 p1 g c ⟨hc, hm⟩ w hlie (wholeA (k1, n1, p1)) (realA (k1, n1, p1)) (by simp) (by simp) _ rfl ha
        · obtain rfl : n = 2 := hl
          obtain ⟨k0, n0, p0, k1, n1, p1, rfl⟩ := len2 hn.symm
          have o0 : okA (k0, n0, p0) = true := hok _ (by simp)
          have o1 : okA (k1, n1, p1) = true := hok _ (by simp)
          rw [u37 o0]; exact coil_i_37 k0 n0 p0 k1 n1 p1 g c ⟨hc, hm⟩ w hlie (wholeA (k1, n1, p1)) (realA (k1, n1, p1)) (by simp) (by simp) _ rfl ha
    · rw [coil_no (fun h => hl (hn.trans h.2.1))]
      exact coil_i_bad op a n c hin2 w (fun w' hb => argsOk_no op a n c hl w')
  · rw [coil_no (fun h => hin h.1)]
    exact coil_i_out op a n c (by by_cases h1 : 21 ≤ op <;> simp <;> omega) w
theorem contact_s_any (op : Int) (a : Option Addr) (n c : Nat) (xs : List Arg) (w : World) (h : Arr w a n c xs) : Calls Tryd.prog 16 #[.agg #[.int .i64 op, .slice a n c]] w fun e w' => e = .returned (.bool (contact op xs)) ∧ Below w.heap.size w w' := by
  obtain ⟨hn, hc, hm, h3, hx⟩ := h
  by_cases h1 : op < 1
  · rw [contact_no (fun h => by have := h.1; omega)]; exact contact_s_low op a n c h1 w
  by_cases h2 : 10 < op
  · rw [contact_no (fun h => by have := h.1; omega)]; exact contact_s_high op a n c h2 w
  by_cases hl : n = arity op
  · have hne : xs ≠ [] := by
      intro e
      have : 1 ≤ arity op := by unfold arity; repeat (first | split | omega)
      rw [e] at hn
      simp at hn
      omega
    rcases hx with hx | ⟨g, rfl, hlie⟩
    · exact absurd hx hne
    have hk : op = 1 ∨ op = 2 ∨ op = 3 ∨ op = 4 ∨ op = 5 ∨ op = 6 ∨ op = 7 ∨ op = 8 ∨ op = 9 ∨ op = 10 := by omega
    rcases hk with rfl | rfl | rfl | rfl | rfl | rfl | rfl | rfl | rfl | rfl
    · obtain rfl : n = 1 := hl
      obtain ⟨k0, n0, p0, rfl⟩ := len1 hn.symm
      rw [v1 (by omega)]; exact contact_s_1 k0 n0 p0 g c w hlie _ rfl
    · obtain rfl : n = 1 := hl
      obtain ⟨k0, n0, p0, rfl⟩ := len1 hn.symm
      rw [v1 (by omega)]; exact contact_s_2 k0 n0 p0 g c w hlie _ rfl
    · obtain rfl : n = 2 := hl
      obtain ⟨k0, n0, p0, k1, n1, p1, rfl⟩ := len2 hn.symm
      rw [v3 (by omega)]; exact contact_s_3 k0 n0 p0 k1 n1 p1 g c w hlie _ rfl _ rfl
    · obtain rfl : n = 2 := hl
      obtain ⟨k0, n0, p0, k1, n1, p1, rfl⟩ := len2 hn.symm
      rw [v3 (by omega)]; exact contact_s_4 k0 n0 p0 k1 n1 p1 g c w hlie _ rfl _ rfl
    · obtain rfl : n = 2 := hl
      obtain ⟨k0, n0, p0, k1, n1, p1, rfl⟩ := len2 hn.symm
      rw [v5 (by omega)]; exact contact_s_5 k0 n0 p0 k1 n1 p1 g c w hlie _ rfl _ rfl _ rfl _ rfl
    · obtain rfl : n = 2 := hl
      obtain ⟨k0, n0, p0, k1, n1, p1, rfl⟩ := len2 hn.symm
      rw [v5 (by omega)]; exact contact_s_6 k0 n0 p0 k1 n1 p1 g c w hlie _ rfl _ rfl _ rfl _ rfl
    · obtain rfl : n = 2 := hl
      obtain ⟨k0, n0, p0, k1, n1, p1, rfl⟩ := len2 hn.symm
      rw [v5 (by omega)]; exact contact_s_7 k0 n0 p0 k1 n1 p1 g c w hlie _ rfl _ rfl _ rfl _ rfl
    · obtain rfl : n = 2 := hl
      obtain ⟨k0, n0, p0, k1, n1, p1, rfl⟩ := len2 hn.symm
      rw [v5 (by omega)]; exact contact_s_8 k0 n0 p0 k1 n1 p1 g c w hlie _ rfl _ rfl _ rfl _ rfl
    · obtain rfl : n = 2 := hl
      obtain ⟨k0, n0, p0, k1, n1, p1, rfl⟩ := len2 hn.symm
      rw [v5 (by omega)]; exact contact_s_9 k0 n0 p0 k1 n1 p1 g c w hlie _ rfl _ rfl _ rfl _ rfl
    · obtain rfl : n = 2 := hl
      obtain ⟨k0, n0, p0, k1, n1, p1, rfl⟩ := len2 hn.symm
      rw [v5 (by omega)]; exact contact_s_10 k0 n0 p0 k1 n1 p1 g c w hlie _ rfl _ rfl _ rfl _ rfl
  · rw [contact_no (fun h => hl (hn.trans h.2.1))]
    exact contact_s_len op a n c (by omega) (by omega) hl w
theorem coil_s_any (op : Int) (a : Option Addr) (n c : Nat) (xs : List Arg) (w : World) (h : Arr w a n c xs) : Calls Tryd.prog 17 #[.agg #[.int .i64 op, .slice a n c]] w fun e w' => e = .returned (.bool (coil op xs)) ∧ Below w.heap.size w w' := by
  obtain ⟨hn, hc, hm, h3, hx⟩ := h
  by_cases h1 : op < 21
  · rw [coil_no (fun h => by have := h.1; omega)]; exact coil_s_low op a n c h1 w
  by_cases h2 : 37 < op
  · rw [coil_no (fun h => by have := h.1; omega)]; exact coil_s_high op a n c h2 w
  by_cases hl : n = arity op
  · have hne : xs ≠ [] := by
      intro e
      have : 1 ≤ arity op := by unfold arity; repeat (first | split | omega)
      rw [e] at hn
      simp at hn
      omega
    rcases hx with hx | ⟨g, rfl, hlie⟩
    · exact absurd hx hne
    have hk : op = 21 ∨ op = 22 ∨ op = 23 ∨ op = 24 ∨ op = 25 ∨ op = 26 ∨ op = 27 ∨ op = 28 ∨ op = 29 ∨ op = 30 ∨ op = 31 ∨ op = 32 ∨ op = 33 ∨ op = 34 ∨ op = 35 ∨ op = 36 ∨ op = 37 := by omega
    rcases hk with rfl | rfl | rfl | rfl | rfl | rfl | rfl | rfl | rfl | rfl | rfl | rfl | rfl | rfl | rfl | rfl | rfl
    · obtain rfl : n = 1 := hl
      obtain ⟨k0, n0, p0, rfl⟩ := len1 hn.symm
      exact coil_s_21 k0 n0 p0 g c w hlie _ rfl
    · obtain rfl : n = 1 := hl
      obtain ⟨k0, n0, p0, rfl⟩ := len1 hn.symm
      exact coil_s_22 k0 n0 p0 g c w hlie _ rfl _ rfl
    · obtain rfl : n = 1 := hl
      obtain ⟨k0, n0, p0, rfl⟩ := len1 hn.symm
      exact coil_s_23 k0 n0 p0 g c w hlie _ rfl _ rfl _ rfl
    · obtain rfl : n = 2 := hl
      obtain ⟨k0, n0, p0, k1, n1, p1, rfl⟩ := len2 hn.symm
      exact coil_s_24 k0 n0 p0 k1 n1 p1 g c w hlie _ rfl _ rfl
    · obtain rfl : n = 1 := hl
      obtain ⟨k0, n0, p0, rfl⟩ := len1 hn.symm
      exact coil_s_25 k0 n0 p0 g c w hlie _ rfl
    · obtain rfl : n = 2 := hl
      obtain ⟨k0, n0, p0, k1, n1, p1, rfl⟩ := len2 hn.symm
      exact coil_s_26 k0 n0 p0 k1 n1 p1 g c w hlie _ rfl _ rfl
    · obtain rfl : n = 2 := hl
      obtain ⟨k0, n0, p0, k1, n1, p1, rfl⟩ := len2 hn.symm
      exact coil_s_27 k0 n0 p0 k1 n1 p1 g c w hlie _ rfl _ rfl
    · obtain rfl : n = 2 := hl
      obtain ⟨k0, n0, p0, k1, n1, p1, rfl⟩ := len2 hn.symm
      exact coil_s_28 k0 n0 p0 k1 n1 p1 g c w hlie _ rfl _ rfl
    · obtain rfl : n = 2 := hl
      obtain ⟨k0, n0, p0, k1, n1, p1, rfl⟩ := len2 hn.symm
      exact coil_s_29 k0 n0 p0 k1 n1 p1 g c w hlie _ rfl _ rfl
    · obtain rfl : n = 2 := hl
      obtain ⟨k0, n0, p0, k1, n1, p1, rfl⟩ := len2 hn.symm
      rw [calc_eq (by first | exact .inl ⟨rfl, rfl⟩ | exact .inr ⟨by omega, by omega, rfl⟩)]
      cases hP : (k0 == 9) with
      | true =>
        rw [if_pos rfl]
        exact coil_s_30 k0 n0 p0 k1 n1 p1 g c w hlie _ (fun w' hl' => calc_true 30 k0 n0 p0 [(k1, n1, p1)] g 2 c rfl (by omega) w' hl' _ rfl hP _ rfl)
      | false =>
        rw [if_neg (by decide)]
        exact coil_s_30 k0 n0 p0 k1 n1 p1 g c w hlie _ (fun w' hl' => calc_false 30 k0 n0 p0 [(k1, n1, p1)] g 2 c rfl (by omega) w' hl' _ rfl hP _ rfl)
    · obtain rfl : n = 3 := hl
      obtain ⟨k0, n0, p0, k1, n1, p1, k2, n2, p2, rfl⟩ := len3 hn.symm
      rw [calc_eq (by first | exact .inl ⟨rfl, rfl⟩ | exact .inr ⟨by omega, by omega, rfl⟩)]
      cases hP : (k0 == 9) with
      | true =>
        rw [if_pos rfl]
        exact coil_s_31 k0 n0 p0 k1 n1 p1 k2 n2 p2 g c w hlie _ (fun w' hl' => calc_true 31 k0 n0 p0 [(k1, n1, p1), (k2, n2, p2)] g 3 c rfl (by omega) w' hl' _ rfl hP _ rfl)
      | false =>
        rw [if_neg (by decide)]
        exact coil_s_31 k0 n0 p0 k1 n1 p1 k2 n2 p2 g c w hlie _ (fun w' hl' => calc_false 31 k0 n0 p0 [(k1, n1, p1), (k2, n2, p2)] g 3 c rfl (by omega) w' hl' _ rfl hP _ rfl)
    · obtain rfl : n = 3 := hl
      obtain ⟨k0, n0, p0, k1, n1, p1, k2, n2, p2, rfl⟩ := len3 hn.symm
      rw [calc_eq (by first | exact .inl ⟨rfl, rfl⟩ | exact .inr ⟨by omega, by omega, rfl⟩)]
      cases hP : (k0 == 9) with
      | true =>
        rw [if_pos rfl]
        exact coil_s_32 k0 n0 p0 k1 n1 p1 k2 n2 p2 g c w hlie _ (fun w' hl' => calc_true 32 k0 n0 p0 [(k1, n1, p1), (k2, n2, p2)] g 3 c rfl (by omega) w' hl' _ rfl hP _ rfl)
      | false =>
        rw [if_neg (by decide)]
        exact coil_s_32 k0 n0 p0 k1 n1 p1 k2 n2 p2 g c w hlie _ (fun w' hl' => calc_false 32 k0 n0 p0 [(k1, n1, p1), (k2, n2, p2)] g 3 c rfl (by omega) w' hl' _ rfl hP _ rfl)
    · obtain rfl : n = 3 := hl
      obtain ⟨k0, n0, p0, k1, n1, p1, k2, n2, p2, rfl⟩ := len3 hn.symm
      rw [calc_eq (by first | exact .inl ⟨rfl, rfl⟩ | exact .inr ⟨by omega, by omega, rfl⟩)]
      cases hP : (k0 == 9) with
      | true =>
        rw [if_pos rfl]
        exact coil_s_33 k0 n0 p0 k1 n1 p1 k2 n2 p2 g c w hlie _ (fun w' hl' => calc_true 33 k0 n0 p0 [(k1, n1, p1), (k2, n2, p2)] g 3 c rfl (by omega) w' hl' _ rfl hP _ rfl)
      | false =>
        rw [if_neg (by decide)]
        exact coil_s_33 k0 n0 p0 k1 n1 p1 k2 n2 p2 g c w hlie _ (fun w' hl' => calc_false 33 k0 n0 p0 [(k1, n1, p1), (k2, n2, p2)] g 3 c rfl (by omega) w' hl' _ rfl hP _ rfl)
    · obtain rfl : n = 3 := hl
      obtain ⟨k0, n0, p0, k1, n1, p1, k2, n2, p2, rfl⟩ := len3 hn.symm
      rw [calc_eq (by first | exact .inl ⟨rfl, rfl⟩ | exact .inr ⟨by omega, by omega, rfl⟩)]
      cases hP : (k0 == 9) with
      | true =>
        rw [if_pos rfl]
        exact coil_s_34 k0 n0 p0 k1 n1 p1 k2 n2 p2 g c w hlie _ (fun w' hl' => calc_true 34 k0 n0 p0 [(k1, n1, p1), (k2, n2, p2)] g 3 c rfl (by omega) w' hl' _ rfl hP _ rfl)
      | false =>
        rw [if_neg (by decide)]
        exact coil_s_34 k0 n0 p0 k1 n1 p1 k2 n2 p2 g c w hlie _ (fun w' hl' => calc_false 34 k0 n0 p0 [(k1, n1, p1), (k2, n2, p2)] g 3 c rfl (by omega) w' hl' _ rfl hP _ rfl)
    · obtain rfl : n = 3 := hl
      obtain ⟨k0, n0, p0, k1, n1, p1, k2, n2, p2, rfl⟩ := len3 hn.symm
      rw [calc_eq (by first | exact .inl ⟨rfl, rfl⟩ | exact .inr ⟨by omega, by omega, rfl⟩)]
      cases hP : (k0 == 9) with
      | true =>
        rw [if_pos rfl]
        exact coil_s_35 k0 n0 p0 k1 n1 p1 k2 n2 p2 g c w hlie _ (fun w' hl' => calc_true 35 k0 n0 p0 [(k1, n1, p1), (k2, n2, p2)] g 3 c rfl (by omega) w' hl' _ rfl hP _ rfl)
      | false =>
        rw [if_neg (by decide)]
        exact coil_s_35 k0 n0 p0 k1 n1 p1 k2 n2 p2 g c w hlie _ (fun w' hl' => calc_false 35 k0 n0 p0 [(k1, n1, p1), (k2, n2, p2)] g 3 c rfl (by omega) w' hl' _ rfl hP _ rfl)
    · obtain rfl : n = 2 := hl
      obtain ⟨k0, n0, p0, k1, n1, p1, rfl⟩ := len2 hn.symm
      exact coil_s_36 k0 n0 p0 k1 n1 p1 g c w hlie _ rfl _ rfl
    · obtain rfl : n = 2 := hl
      obtain ⟨k0, n0, p0, k1, n1, p1, rfl⟩ := len2 hn.symm
      exact coil_s_37 k0 n0 p0 k1 n1 p1 g c w hlie _ rfl _ rfl
  · rw [coil_no (fun h => hl (hn.trans h.2.1))]
    exact coil_s_len op a n c (by omega) (by omega) hl w
end Go.Proofs.YtmlpobecilbknaaDoor
