/- The walk of FnExactRealArg. -/
import Derived.Test.YtikcabmohlaanaaRows
import Derived.Test.YtikcabmohlaanaaWRArg
import Derived.WalkKit
import Derived.WalkSpells
import Derived.WalkLawsBesides
import Derived.OpenShut
import Derived.OwnWalk
import Derived.IntWalk
import Derived.Lib.Hide
namespace Go.Proofs.Ytikcabmohlaanaa
open Go.RowKit Bx
set_option linter.unusedVariables false

theorem powers {p : Int} (h : 1 ≤ p ∧ p ≤ 6) : ∃ P c : Nat, p = (P : Int) ∧ P ≤ 6 ∧ tn P * c = 1000000 ∧ ((tn P = 10 ∧ c = 100000) ∨ (tn P = 100 ∧ c = 10000) ∨ (tn P = 1000 ∧ c = 1000) ∨ (tn P = 10000 ∧ c = 100) ∨ (tn P = 100000 ∧ c = 10) ∨ (tn P = 1000000 ∧ c = 1)) ∧ c = 10 ^ (6 - P) ∧ (tn P = 10 ↔ p = 1) := by
  have h6 : p = 1 ∨ p = 2 ∨ p = 3 ∨ p = 4 ∨ p = 5 ∨ p = 6 := by omega
  rcases h6 with rfl | rfl | rfl | rfl | rfl | rfl
  · exact ⟨1, 100000, rfl, by decide, by decide, by decide, by decide, by decide⟩
  · exact ⟨2, 10000, rfl, by decide, by decide, by decide, by decide, by decide⟩
  · exact ⟨3, 1000, rfl, by decide, by decide, by decide, by decide, by decide⟩
  · exact ⟨4, 100, rfl, by decide, by decide, by decide, by decide, by decide⟩
  · exact ⟨5, 10, rfl, by decide, by decide, by decide, by decide, by decide⟩
  · exact ⟨6, 1, rfl, by decide, by decide, by decide, by decide, by decide⟩
/-- the program's and the reference's answers: the same double, or NaN both -/
theorem realArg_both (k n p : Int) : (∃ r : Nat, r < 18446744073709551616 ∧ (∀ w, Calls Try.prog 8 #[.agg #[.int .i64 k, .int .i64 n, .int .i64 p]] w fun e w' => e = .returned (.float .f64 r) ∧ Below w.heap.size w w') ∧ (∀ w, Calls Try.prog 6 #[.agg #[.int .i64 k, .int .i64 n, .int .i64 p]] w fun e w' => e = .returned (.float .f64 r) ∧ Below w.heap.size w w')) ∨
    ((∀ w, Calls Try.prog 8 #[.agg #[.int .i64 k, .int .i64 n, .int .i64 p]] w fun e w' => e = .returned (.float .f64 9221120237041090561) ∧ Below w.heap.size w w') ∧ (∀ w, Calls Try.prog 6 #[.agg #[.int .i64 k, .int .i64 n, .int .i64 p]] w fun e w' => ∃ b : Nat, e = .returned (.float .f64 b) ∧ Fl.isNaN b ∧ Below w.heap.size w w')) := by
  cases hok : DevP.ok k n p
  · exact .inl ⟨0, by omega, fun w => realArg_i_no k n p hok w, fun w => realArg_s_no k n p hok w⟩
  by_cases h2 : k = 13
  · subst h2
    rw [DevP.ok_word] at hok
    have h := of_decide_eq_true hok
    obtain ⟨h0, h3, rfl⟩ := h
    have hn : n = 0 ∨ n = 1 ∨ n = 2 ∨ n = 3 := by omega
    rcases hn with rfl | rfl | rfl | rfl
    · exact .inr ⟨fun w => realArg_i_word0 w, fun w => realArg_s_word0 w⟩
    · exact .inl ⟨9218868437227405312, by omega, fun w => realArg_i_word1 w, fun w => realArg_s_word1 w⟩
    · exact .inl ⟨18442240474082181120, by omega, fun w => realArg_i_word2 w, fun w => realArg_s_word2 w⟩
    · exact .inl ⟨9223372036854775808, by omega, fun w => realArg_i_word3 w, fun w => realArg_s_word3 w⟩
  by_cases h1 : k = 12
  · subst h1
    have h := hok
    rw [DevP.ok_dec] at h
    have h := of_decide_eq_true h
    obtain ⟨P, c, rfl, hP, hc, _⟩ := powers ⟨h.2.2.1, h.2.2.2.1⟩
    obtain ⟨r, hr, hnear⟩ := Fl.dec_near (n := n) (by omega) hc
    exact .inl ⟨r, hnear.1, fun w => realArg_i_dec n P r hok hP hr w, fun w => realArg_s_dec n P r hok hP hr w⟩
  · exact .inl ⟨0, by omega, fun w => realArg_i_other k n p hok h1 h2 w, fun w => realArg_s_other k n p hok h1 h2 w⟩
set_option maxRecDepth 100000 in
set_option maxHeartbeats 1000000 in
theorem FnExactRealArg_same (k n p : Int) (r : Nat) (hr : r < 18446744073709551616) (hi : ∀ w, Calls Try.prog 8 #[.agg #[.int .i64 k, .int .i64 n, .int .i64 p]] w fun e w' => e = .returned (.float .f64 r) ∧ Below w.heap.size w w') (hs : ∀ w, Calls Try.prog 6 #[.agg #[.int .i64 k, .int .i64 n, .int .i64 p]] w fun e w' => e = .returned (.float .f64 r) ∧ Below w.heap.size w w') (w : World) :
    Calls Try.prog 3 #[.agg #[.int .i64 k, .int .i64 n, .int .i64 p]] w fun e w' => e = .returned (.bool true) ∧ Below w.heap.size w w' := by
  go_enter Try.func3, Try.ntmps3
  go_wp2_with fail
  refine (toDevArg_any k n p _).mono ?_
  rintro e w1 ⟨rfl, hb1⟩
  have b1 := (Box.new w #[.int .i64 k, .int .i64 n, .int .i64 p] 23).kept hb1
  have hB1 : Below w.heap.size w w1 := bel_step ((Below.refl _ _).alloc (Nat.le_refl _) _) hb1 (by simp)
  clear hb1
  go_wp2_with fail
  refine (hs _).mono ?_
  rintro e w2 ⟨rfl, hb2⟩
  have b2 := b1.kept hb2
  have hB2 := bel_step hB1 hb2 hB1.size
  have c0 : w2.cell? ⟨w.heap.size, 0, none⟩ = some (.int .i64 k) := b2.cell 0
  have c1 : w2.cell? ⟨w.heap.size, 1, none⟩ = some (.int .i64 n) := b2.cell 1
  have c2 : w2.cell? ⟨w.heap.size, 2, none⟩ = some (.int .i64 p) := b2.cell 2
  clear hb2 hB1 b1
  go_wp2_with fail
  refine (toDevArg_any k n p _).mono ?_
  rintro e w3 ⟨rfl, hb3⟩
  have hB3 := bel_step hB2 hb3 hB2.size
  clear hb3 hB2 c0 c1 c2 b2
  go_wp2_with fail
  refine (hi _).mono ?_
  rintro e w4 ⟨rfl, hb4⟩
  have hB4 := bel_step hB3 hb4 hB3.size
  clear hb4 hB3
  go_wp2_with fail
  refine (sameFloat_same r hr _).mono ?_
  rintro e w5 ⟨rfl, rfl⟩
  go_wp2
  go_ret
  exact ⟨rfl, hB4⟩
set_option maxRecDepth 100000 in
set_option maxHeartbeats 1000000 in
theorem FnExactRealArg_nan (k n p : Int) (hi : ∀ w, Calls Try.prog 8 #[.agg #[.int .i64 k, .int .i64 n, .int .i64 p]] w fun e w' => e = .returned (.float .f64 9221120237041090561) ∧ Below w.heap.size w w') (hs : ∀ w, Calls Try.prog 6 #[.agg #[.int .i64 k, .int .i64 n, .int .i64 p]] w fun e w' => ∃ b : Nat, e = .returned (.float .f64 b) ∧ Fl.isNaN b ∧ Below w.heap.size w w') (w : World) :
    Calls Try.prog 3 #[.agg #[.int .i64 k, .int .i64 n, .int .i64 p]] w fun e w' => e = .returned (.bool true) ∧ Below w.heap.size w w' := by
  go_enter Try.func3, Try.ntmps3
  go_wp2_with fail
  refine (toDevArg_any k n p _).mono ?_
  rintro e w1 ⟨rfl, hb1⟩
  have b1 := (Box.new w #[.int .i64 k, .int .i64 n, .int .i64 p] 23).kept hb1
  have hB1 : Below w.heap.size w w1 := bel_step ((Below.refl _ _).alloc (Nat.le_refl _) _) hb1 (by simp)
  clear hb1
  go_wp2_with fail
  refine (hs _).mono ?_
  rintro e w2 ⟨b, rfl, hnb, hb2⟩
  have b2 := b1.kept hb2
  have hB2 := bel_step hB1 hb2 hB1.size
  have c0 : w2.cell? ⟨w.heap.size, 0, none⟩ = some (.int .i64 k) := b2.cell 0
  have c1 : w2.cell? ⟨w.heap.size, 1, none⟩ = some (.int .i64 n) := b2.cell 1
  have c2 : w2.cell? ⟨w.heap.size, 2, none⟩ = some (.int .i64 p) := b2.cell 2
  clear hb2 hB1 b1
  go_wp2_with fail
  refine (toDevArg_any k n p _).mono ?_
  rintro e w3 ⟨rfl, hb3⟩
  have hB3 := bel_step hB2 hb3 hB2.size
  clear hb3 hB2 c0 c1 c2 b2
  go_wp2_with fail
  refine (hi _).mono ?_
  rintro e w4 ⟨rfl, hb4⟩
  have hB4 := bel_step hB3 hb4 hB3.size
  clear hb4 hB3
  go_wp2_with fail
  refine (sameFloat_nan 9221120237041090561 b nan_const hnb _).mono ?_
  rintro e w5 ⟨rfl, rfl⟩
  go_wp2
  go_ret
  exact ⟨rfl, hB4⟩
theorem FnExactRealArg_walk (a00 : Int) (w00 : (Lit.int .i64 a00).wf = true) (a01 : Int) (w01 : (Lit.int .i64 a01).wf = true) (a02 : Int) (w02 : (Lit.int .i64 a02).wf = true) (w : World) : Calls Try.prog 3 #[.agg #[.int .i64 a00, .int .i64 a01, .int .i64 a02]] w fun e w' => e = .returned (.bool true) ∧ Below w.heap.size w w' := by
  rcases realArg_both a00 a01 a02 with ⟨r, hr, hi, hs⟩ | ⟨hi, hs⟩
  · exact FnExactRealArg_same a00 a01 a02 r hr hi hs w
  · exact FnExactRealArg_nan a00 a01 a02 hi hs w
end Go.Proofs.Ytikcabmohlaanaa
