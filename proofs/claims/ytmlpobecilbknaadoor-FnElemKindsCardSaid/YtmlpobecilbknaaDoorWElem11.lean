/- The reference's ElemText. -/
import Derived.Test.YtmlpobecilbknaaDoorRows
import Derived.Test.YtmlpobecilbknaaDoorWElem9
import Derived.WalkKit
import Derived.WalkSpells
import Derived.WalkLawsBesides
import Derived.OpenShut
import Derived.IntWalk
import Derived.Lib.Hide
import Derived.OwnWalk
import Derived.Deep.QuietTactic
import Derived.BigQuiet
import Derived.Deep.RegionHeld3
import Derived.Deep.RegionWith
namespace Go.Proofs.YtmlpobecilbknaaDoor
open Go.RowKit Bx ElemP ElemT
set_option linter.unusedVariables false

theorem step_size (out : ByteArray) (b : Arg) : (ElemT.step out b).size ≤ out.size + 51 := by
  have := txA_size b
  have : (⟨#[44]⟩ : ByteArray).size = 1 := rfl
  unfold ElemT.step
  rw [ByteArray.size_append, ByteArray.size_append]
  omega
theorem fold_size (l : List Arg) : ∀ s : ByteArray, (l.foldl ElemT.step s).size ≤ s.size + 51 * l.length := by
  induction l with
  | nil => intro s; simp
  | cons b l ih =>
    intro s
    have h1 := ih (ElemT.step s b)
    have h2 := step_size s b
    rw [List.foldl_cons, List.length_cons]
    omega
theorem fold_snoc {l : List Arg} {k : Nat} {z : Arg} (hz : l[k]? = some z) (s : ByteArray) : (l.take (k + 1)).foldl ElemT.step s = ElemT.step ((l.take k).foldl ElemT.step s) z := by
  rw [List.take_add_one, hz, List.foldl_append]; rfl
set_option maxRecDepth 100000 in
set_option maxHeartbeats 4000000 in
theorem stext_1 (k0 n0 p0 : Int) (g c : Nat) (w : World) (hl : Lie w g 0 [(k0, n0, p0)]) (t0 : ByteArray) (z0 : t0.size ≤ 50) (h0 : ∀ w', Below w.heap.size w w' → Calls Tryd.prog 22 #[.agg #[.int .i64 k0, .int .i64 n0, .int .i64 p0]] w' fun e w'' => e = .returned (.string t0) ∧ Below w'.heap.size w' w'') 
    (hco : ∀ w', Below w.heap.size w w' → Calls Tryd.prog 17 #[.agg #[.int .i64 1, .slice (some ⟨g, 0, none⟩) 1 c]] w' fun e w'' => e = .returned (.bool false) ∧ Below w'.heap.size w' w'')
    (hct : ∀ w', Below w.heap.size w w' → Calls Tryd.prog 16 #[.agg #[.int .i64 1, .slice (some ⟨g, 0, none⟩) 1 c]] w' fun e w'' => e = .returned (.bool true) ∧ Below w'.heap.size w' w'') : Calls Tryd.prog 9 #[.agg #[.int .i64 1, .slice (some ⟨g, 0, none⟩) 1 c]] w fun e w' => e = .returned (.string t0) ∧ Below w.heap.size w w' := by
  have b1 := Box.new w #[.int .i64 1, .slice (some ⟨g, 0, none⟩) 1 c] 31
  have hB1 : Below w.heap.size w (w.alloc (.cells #[.int .i64 1, .slice (some ⟨g, 0, none⟩) 1 c] 31)) := by repeat (first | exact Below.refl _ _ | assumption | refine Below.setCell ?_ (by first | (simp; done) | (simp; omega) | omega) _ | refine Below.alloc ?_ (by first | (simp; done) | (simp; omega) | omega) _ | refine Bx.bel_drewN ?_ _ | refine Below.drew ?_)
  have HL := Lib.hid hl
  clear hl
  go_enter Tryd.func9, Tryd.ntmps9
  go_wp2_with fail
  refine (hco _ hB1).mono ?_
  rintro e w1 ⟨rfl, hb1⟩
  have b2 := b1.kept hb1
  have hB2 := bel_step hB1 hb1 hB1.size
  have c0 : w1.cell? ⟨w.heap.size, 0, none⟩ = some (.int .i64 1) := b2.cell 0
  have c1 : w1.cell? ⟨w.heap.size, 1, none⟩ = some (.slice (some ⟨g, 0, none⟩) 1 c) := b2.cell 1
  clear hb1 b1 hB1 hco
  go_wp2_with fail
  refine (hct _ hB2).mono ?_
  rintro e w2 ⟨rfl, hb2⟩
  have b3 := b2.kept hb2
  have hB3 := bel_step hB2 hb2 hB2.size
  clear hb2 b2 hB2 hct c0 c1
  have hl3 := HL.out.kept hB3
  have c0 : w2.cell? ⟨w.heap.size, 0, none⟩ = some (.int .i64 1) := b3.cell 0
  have c1 : w2.cell? ⟨w.heap.size, 1, none⟩ = some (.slice (some ⟨g, 0, none⟩) 1 c) := b3.cell 1
  have q00 : w2.cell? ⟨g, 0, none⟩ = some (.int .i64 k0) := (hl3.at 0 _ rfl).1
  have q01 : w2.cell? ⟨g, 1, none⟩ = some (.int .i64 n0) := (hl3.at 0 _ rfl).2.1
  have q02 : w2.cell? ⟨g, 2, none⟩ = some (.int .i64 p0) := (hl3.at 0 _ rfl).2.2
  clear hl3 b3 HL
  go_wp2_with fail
  refine (h0 _ hB3).mono ?_
  rintro e w3 ⟨rfl, hb3⟩
  have hB4 := bel_step hB3 hb3 hB3.size
  clear hb3 h0 hB3 c0 c1 q00 q01 q02
  go_wp2
  go_ret
  exact ⟨rfl, hB4⟩
set_option maxRecDepth 100000 in
set_option maxHeartbeats 4000000 in
theorem stext_2 (k0 n0 p0 : Int) (g c : Nat) (w : World) (hl : Lie w g 0 [(k0, n0, p0)]) (t0 : ByteArray) (z0 : t0.size ≤ 50) (h0 : ∀ w', Below w.heap.size w w' → Calls Tryd.prog 22 #[.agg #[.int .i64 k0, .int .i64 n0, .int .i64 p0]] w' fun e w'' => e = .returned (.string t0) ∧ Below w'.heap.size w' w'') 
    (hco : ∀ w', Below w.heap.size w w' → Calls Tryd.prog 17 #[.agg #[.int .i64 2, .slice (some ⟨g, 0, none⟩) 1 c]] w' fun e w'' => e = .returned (.bool false) ∧ Below w'.heap.size w' w'')
    (hct : ∀ w', Below w.heap.size w w' → Calls Tryd.prog 16 #[.agg #[.int .i64 2, .slice (some ⟨g, 0, none⟩) 1 c]] w' fun e w'' => e = .returned (.bool true) ∧ Below w'.heap.size w' w'') : Calls Tryd.prog 9 #[.agg #[.int .i64 2, .slice (some ⟨g, 0, none⟩) 1 c]] w fun e w' => e = .returned (.string (⟨#[47]⟩ ++ t0)) ∧ Below w.heap.size w w' := by
  have s1 : ¬ (⟨#[47]⟩ : ByteArray).size + t0.size > 9223372036854775807 := by have : (⟨#[47]⟩ : ByteArray).size = 1 := rfl; omega
  have b1 := Box.new w #[.int .i64 2, .slice (some ⟨g, 0, none⟩) 1 c] 31
  have hB1 : Below w.heap.size w (w.alloc (.cells #[.int .i64 2, .slice (some ⟨g, 0, none⟩) 1 c] 31)) := by repeat (first | exact Below.refl _ _ | assumption | refine Below.setCell ?_ (by first | (simp; done) | (simp; omega) | omega) _ | refine Below.alloc ?_ (by first | (simp; done) | (simp; omega) | omega) _ | refine Bx.bel_drewN ?_ _ | refine Below.drew ?_)
  have HL := Lib.hid hl
  clear hl
  go_enter Tryd.func9, Tryd.ntmps9
  go_wp2_with fail
  refine (hco _ hB1).mono ?_
  rintro e w1 ⟨rfl, hb1⟩
  have b2 := b1.kept hb1
  have hB2 := bel_step hB1 hb1 hB1.size
  have c0 : w1.cell? ⟨w.heap.size, 0, none⟩ = some (.int .i64 2) := b2.cell 0
  have c1 : w1.cell? ⟨w.heap.size, 1, none⟩ = some (.slice (some ⟨g, 0, none⟩) 1 c) := b2.cell 1
  clear hb1 b1 hB1 hco
  go_wp2_with fail
  refine (hct _ hB2).mono ?_
  rintro e w2 ⟨rfl, hb2⟩
  have b3 := b2.kept hb2
  have hB3 := bel_step hB2 hb2 hB2.size
  clear hb2 b2 hB2 hct c0 c1
  have hl3 := HL.out.kept hB3
  have c0 : w2.cell? ⟨w.heap.size, 0, none⟩ = some (.int .i64 2) := b3.cell 0
  have c1 : w2.cell? ⟨w.heap.size, 1, none⟩ = some (.slice (some ⟨g, 0, none⟩) 1 c) := b3.cell 1
  have q00 : w2.cell? ⟨g, 0, none⟩ = some (.int .i64 k0) := (hl3.at 0 _ rfl).1
  have q01 : w2.cell? ⟨g, 1, none⟩ = some (.int .i64 n0) := (hl3.at 0 _ rfl).2.1
  have q02 : w2.cell? ⟨g, 2, none⟩ = some (.int .i64 p0) := (hl3.at 0 _ rfl).2.2
  clear hl3 b3 HL
  go_wp2_with fail
  refine (h0 _ hB3).mono ?_
  rintro e w3 ⟨rfl, hb3⟩
  have hB4 := bel_step hB3 hb3 hB3.size
  clear hb3 h0 hB3 c0 c1 q00 q01 q02
  go_wp2
  go_ret
  exact ⟨rfl, hB4⟩
set_option maxRecDepth 100000 in
set_option maxHeartbeats 4000000 in
theorem stext_3 (k0 n0 p0 k1 n1 p1 : Int) (g c : Nat) (w : World) (hl : Lie w g 0 [(k0, n0, p0), (k1, n1, p1)]) (t0 : ByteArray) (z0 : t0.size ≤ 50) (h0 : ∀ w', Below w.heap.size w w' → Calls Tryd.prog 22 #[.agg #[.int .i64 k0, .int .i64 n0, .int .i64 p0]] w' fun e w'' => e = .returned (.string t0) ∧ Below w'.heap.size w' w'') (t1 : ByteArray) (z1 : t1.size ≤ 50) (h1 : ∀ w', Below w.heap.size w w' → Calls Tryd.prog 22 #[.agg #[.int .i64 k1, .int .i64 n1, .int .i64 p1]] w' fun e w'' => e = .returned (.string t1) ∧ Below w'.heap.size w' w'') 
    (hco : ∀ w', Below w.heap.size w w' → Calls Tryd.prog 17 #[.agg #[.int .i64 3, .slice (some ⟨g, 0, none⟩) 2 c]] w' fun e w'' => e = .returned (.bool false) ∧ Below w'.heap.size w' w'')
    (hct : ∀ w', Below w.heap.size w w' → Calls Tryd.prog 16 #[.agg #[.int .i64 3, .slice (some ⟨g, 0, none⟩) 2 c]] w' fun e w'' => e = .returned (.bool true) ∧ Below w'.heap.size w' w'') : Calls Tryd.prog 9 #[.agg #[.int .i64 3, .slice (some ⟨g, 0, none⟩) 2 c]] w fun e w' => e = .returned (.string (((⟨#[43]⟩ ++ t0) ++ ⟨#[58]⟩) ++ t1)) ∧ Below w.heap.size w w' := by
  have l1 : (⟨#[43]⟩ : ByteArray).size = 1 := rfl
  have l2 : (⟨#[58]⟩ : ByteArray).size = 1 := rfl
  have s1 : ¬ (⟨#[43]⟩ : ByteArray).size + t0.size > 9223372036854775807 := by omega
  have s2 : ¬ ((⟨#[43]⟩ : ByteArray) ++ t0).size + (⟨#[58]⟩ : ByteArray).size > 9223372036854775807 := by rw [ByteArray.size_append]; omega
  have s3 : ¬ (((⟨#[43]⟩ : ByteArray) ++ t0) ++ (⟨#[58]⟩ : ByteArray)).size + t1.size > 9223372036854775807 := by rw [ByteArray.size_append, ByteArray.size_append]; omega
  have s4 : ¬ (⟨#[43]⟩ : ByteArray).size + t0.size + (⟨#[58]⟩ : ByteArray).size > 9223372036854775807 := by omega
  have s5 : ¬ (⟨#[43]⟩ : ByteArray).size + t0.size + (⟨#[58]⟩ : ByteArray).size + t1.size > 9223372036854775807 := by omega
  obtain ⟨R, hR⟩ : ∃ R, R = (((⟨#[43]⟩ : ByteArray) ++ t0) ++ ⟨#[58]⟩) ++ t1 := ⟨_, rfl⟩
  rw [← hR]
  have HT := Lib.hid hR
  clear hR l1 l2
  have b1 := Box.new w #[.int .i64 3, .slice (some ⟨g, 0, none⟩) 2 c] 31
  have hB1 : Below w.heap.size w (w.alloc (.cells #[.int .i64 3, .slice (some ⟨g, 0, none⟩) 2 c] 31)) := by repeat (first | exact Below.refl _ _ | assumption | refine Below.setCell ?_ (by first | (simp; done) | (simp; omega) | omega) _ | refine Below.alloc ?_ (by first | (simp; done) | (simp; omega) | omega) _ | refine Bx.bel_drewN ?_ _ | refine Below.drew ?_)
  have HL := Lib.hid hl
  clear hl
  go_enter Tryd.func9, Tryd.ntmps9
  go_wp2_with fail
  refine (hco _ hB1).mono ?_
  rintro e w1 ⟨rfl, hb1⟩
  have b2 := b1.kept hb1
  have hB2 := bel_step hB1 hb1 hB1.size
  have c0 : w1.cell? ⟨w.heap.size, 0, none⟩ = some (.int .i64 3) := b2.cell 0
  have c1 : w1.cell? ⟨w.heap.size, 1, none⟩ = some (.slice (some ⟨g, 0, none⟩) 2 c) := b2.cell 1
  clear hb1 b1 hB1 hco
  go_wp2_with fail
  refine (hct _ hB2).mono ?_
  rintro e w2 ⟨rfl, hb2⟩
  have b3 := b2.kept hb2
  have hB3 := bel_step hB2 hb2 hB2.size
  clear hb2 b2 hB2 hct c0 c1
  have hl3 := HL.out.kept hB3
  have c0 : w2.cell? ⟨w.heap.size, 0, none⟩ = some (.int .i64 3) := b3.cell 0
  have c1 : w2.cell? ⟨w.heap.size, 1, none⟩ = some (.slice (some ⟨g, 0, none⟩) 2 c) := b3.cell 1
  have q00 : w2.cell? ⟨g, 0, none⟩ = some (.int .i64 k0) := (hl3.at 0 _ rfl).1
  have q01 : w2.cell? ⟨g, 1, none⟩ = some (.int .i64 n0) := (hl3.at 0 _ rfl).2.1
  have q02 : w2.cell? ⟨g, 2, none⟩ = some (.int .i64 p0) := (hl3.at 0 _ rfl).2.2
  have q10 : w2.cell? ⟨g, 3, none⟩ = some (.int .i64 k1) := (hl3.at 1 _ rfl).1
  have q11 : w2.cell? ⟨g, 4, none⟩ = some (.int .i64 n1) := (hl3.at 1 _ rfl).2.1
  have q12 : w2.cell? ⟨g, 5, none⟩ = some (.int .i64 p1) := (hl3.at 1 _ rfl).2.2
  have hS : ∀ w', Below w2.heap.size w2 w' → w'.cell? ⟨w.heap.size, 0, none⟩ = some (.int .i64 3) ∧ w'.cell? ⟨w.heap.size, 1, none⟩ = some (.slice (some ⟨g, 0, none⟩) 2 c) ∧ w'.cell? ⟨g, 0, none⟩ = some (.int .i64 k0) ∧ w'.cell? ⟨g, 1, none⟩ = some (.int .i64 n0) ∧ w'.cell? ⟨g, 2, none⟩ = some (.int .i64 p0) ∧ w'.cell? ⟨g, 3, none⟩ = some (.int .i64 k1) ∧ w'.cell? ⟨g, 4, none⟩ = some (.int .i64 n1) ∧ w'.cell? ⟨g, 5, none⟩ = some (.int .i64 p1) ∧ Below w2.heap.size w2 w' := fun w' hb => ⟨(b3.kept hb).cell 0, (b3.kept hb).cell 1, ((hl3.kept hb).at 0 _ rfl).1, ((hl3.kept hb).at 0 _ rfl).2.1, ((hl3.kept hb).at 0 _ rfl).2.2, ((hl3.kept hb).at 1 _ rfl).1, ((hl3.kept hb).at 1 _ rfl).2.1, ((hl3.kept hb).at 1 _ rfl).2.2, hb⟩
  clear c0 c1 q00 q01 q02 q10 q11 q12
  have c0 := (hS _ (Below.refl _ _)).1
  go_wp2_with fail
  generalize (⟨#[43]⟩ : ByteArray) = col at s1 s2 s3 s4 s5 HT ⊢
  generalize (⟨#[58]⟩ : ByteArray) = col2 at s2 s3 s4 s5 HT ⊢
  go_region_held3 (fun w' => w'.cell? ⟨w.heap.size, 0, none⟩ = some (.int .i64 3) ∧ w'.cell? ⟨w.heap.size, 1, none⟩ = some (.slice (some ⟨g, 0, none⟩) 2 c) ∧ w'.cell? ⟨g, 0, none⟩ = some (.int .i64 k0) ∧ w'.cell? ⟨g, 1, none⟩ = some (.int .i64 n0) ∧ w'.cell? ⟨g, 2, none⟩ = some (.int .i64 p0) ∧ w'.cell? ⟨g, 3, none⟩ = some (.int .i64 k1) ∧ w'.cell? ⟨g, 4, none⟩ = some (.int .i64 n1) ∧ w'.cell? ⟨g, 5, none⟩ = some (.int .i64 p1) ∧ Below w2.heap.size w2 w')
    (first | assumption | exact hS _ (Below.refl _ _).drew | (obtain ⟨_, _, _, _, _, _, _, _, hq⟩ := (by assumption : _ ∧ _ ∧ _ ∧ _ ∧ _ ∧ _ ∧ _ ∧ _ ∧ Below w2.heap.size w2 _); exact hS _ (bel_step hq hbx hq.size)))
    (first | (go_at_call_of 22 k0; (with_reducible refine (h0 _ (bel_step hB3 (by first | exact (Below.refl _ _).drew | exact (by assumption : _ ∧ _ ∧ _ ∧ _ ∧ _ ∧ _ ∧ _ ∧ _ ∧ Below w2.heap.size w2 _).2.2.2.2.2.2.2.2) hB3.size)).mono ?_); rintro e w' ⟨rfl, hbx⟩) | (go_at_call_of 22 k1; (with_reducible refine (h1 _ (bel_step hB3 (by first | exact (Below.refl _ _).drew | exact (by assumption : _ ∧ _ ∧ _ ∧ _ ∧ _ ∧ _ ∧ _ ∧ _ ∧ Below w2.heap.size w2 _).2.2.2.2.2.2.2.2) hB3.size)).mono ?_); rintro e w' ⟨rfl, hbx⟩))
  all_goals
    obtain ⟨_, _, _, _, _, _, _, _, hq⟩ := (by assumption : _ ∧ _ ∧ _ ∧ _ ∧ _ ∧ _ ∧ _ ∧ _ ∧ Below w2.heap.size w2 _)
    have hB4 := bel_step hB3 hq hB3.size
    clear hq hS b3 hl3 hB3
    go_wp2
    go_ret
    exact ⟨by rw [HT.out]; rfl, hB4⟩
set_option maxRecDepth 100000 in
set_option maxHeartbeats 4000000 in
theorem stext_4 (k0 n0 p0 k1 n1 p1 : Int) (g c : Nat) (w : World) (hl : Lie w g 0 [(k0, n0, p0), (k1, n1, p1)]) (t0 : ByteArray) (z0 : t0.size ≤ 50) (h0 : ∀ w', Below w.heap.size w w' → Calls Tryd.prog 22 #[.agg #[.int .i64 k0, .int .i64 n0, .int .i64 p0]] w' fun e w'' => e = .returned (.string t0) ∧ Below w'.heap.size w' w'') (t1 : ByteArray) (z1 : t1.size ≤ 50) (h1 : ∀ w', Below w.heap.size w w' → Calls Tryd.prog 22 #[.agg #[.int .i64 k1, .int .i64 n1, .int .i64 p1]] w' fun e w'' => e = .returned (.string t1) ∧ Below w'.heap.size w' w'') 
    (hco : ∀ w', Below w.heap.size w w' → Calls Tryd.prog 17 #[.agg #[.int .i64 4, .slice (some ⟨g, 0, none⟩) 2 c]] w' fun e w'' => e = .returned (.bool false) ∧ Below w'.heap.size w' w'')
    (hct : ∀ w', Below w.heap.size w w' → Calls Tryd.prog 16 #[.agg #[.int .i64 4, .slice (some ⟨g, 0, none⟩) 2 c]] w' fun e w'' => e = .returned (.bool true) ∧ Below w'.heap.size w' w'') : Calls Tryd.prog 9 #[.agg #[.int .i64 4, .slice (some ⟨g, 0, none⟩) 2 c]] w fun e w' => e = .returned (.string (((⟨#[45]⟩ ++ t0) ++ ⟨#[58]⟩) ++ t1)) ∧ Below w.heap.size w w' := by
  have l1 : (⟨#[45]⟩ : ByteArray).size = 1 := rfl
  have l2 : (⟨#[58]⟩ : ByteArray).size = 1 := rfl
  have s1 : ¬ (⟨#[45]⟩ : ByteArray).size + t0.size > 9223372036854775807 := by omega
  have s2 : ¬ ((⟨#[45]⟩ : ByteArray) ++ t0).size + (⟨#[58]⟩ : ByteArray).size > 9223372036854775807 := by rw [ByteArray.size_append]; omega
  have s3 : ¬ (((⟨#[45]⟩ : ByteArray) ++ t0) ++ (⟨#[58]⟩ : ByteArray)).size + t1.size > 9223372036854775807 := by rw [ByteArray.size_append, ByteArray.size_append]; omega
  have s4 : ¬ (⟨#[45]⟩ : ByteArray).size + t0.size + (⟨#[58]⟩ : ByteArray).size > 9223372036854775807 := by omega
  have s5 : ¬ (⟨#[45]⟩ : ByteArray).size + t0.size + (⟨#[58]⟩ : ByteArray).size + t1.size > 9223372036854775807 := by omega
  obtain ⟨R, hR⟩ : ∃ R, R = (((⟨#[45]⟩ : ByteArray) ++ t0) ++ ⟨#[58]⟩) ++ t1 := ⟨_, rfl⟩
  rw [← hR]
  have HT := Lib.hid hR
  clear hR l1 l2
  have b1 := Box.new w #[.int .i64 4, .slice (some ⟨g, 0, none⟩) 2 c] 31
  have hB1 : Below w.heap.size w (w.alloc (.cells #[.int .i64 4, .slice (some ⟨g, 0, none⟩) 2 c] 31)) := by repeat (first | exact Below.refl _ _ | assumption | refine Below.setCell ?_ (by first | (simp; done) | (simp; omega) | omega) _ | refine Below.alloc ?_ (by first | (simp; done) | (simp; omega) | omega) _ | refine Bx.bel_drewN ?_ _ | refine Below.drew ?_)
  have HL := Lib.hid hl
  clear hl
  go_enter Tryd.func9, Tryd.ntmps9
  go_wp2_with fail
  refine (hco _ hB1).mono ?_
  rintro e w1 ⟨rfl, hb1⟩
  have b2 := b1.kept hb1
  have hB2 := bel_step hB1 hb1 hB1.size
  have c0 : w1.cell? ⟨w.heap.size, 0, none⟩ = some (.int .i64 4) := b2.cell 0
  have c1 : w1.cell? ⟨w.heap.size, 1, none⟩ = some (.slice (some ⟨g, 0, none⟩) 2 c) := b2.cell 1
  clear hb1 b1 hB1 hco
  go_wp2_with fail
  refine (hct _ hB2).mono ?_
  rintro e w2 ⟨rfl, hb2⟩
  have b3 := b2.kept hb2
  have hB3 := bel_step hB2 hb2 hB2.size
  clear hb2 b2 hB2 hct c0 c1
  have hl3 := HL.out.kept hB3
  have c0 : w2.cell? ⟨w.heap.size, 0, none⟩ = some (.int .i64 4) := b3.cell 0
  have c1 : w2.cell? ⟨w.heap.size, 1, none⟩ = some (.slice (some ⟨g, 0, none⟩) 2 c) := b3.cell 1
  have q00 : w2.cell? ⟨g, 0, none⟩ = some (.int .i64 k0) := (hl3.at 0 _ rfl).1
  have q01 : w2.cell? ⟨g, 1, none⟩ = some (.int .i64 n0) := (hl3.at 0 _ rfl).2.1
  have q02 : w2.cell? ⟨g, 2, none⟩ = some (.int .i64 p0) := (hl3.at 0 _ rfl).2.2
  have q10 : w2.cell? ⟨g, 3, none⟩ = some (.int .i64 k1) := (hl3.at 1 _ rfl).1
  have q11 : w2.cell? ⟨g, 4, none⟩ = some (.int .i64 n1) := (hl3.at 1 _ rfl).2.1
  have q12 : w2.cell? ⟨g, 5, none⟩ = some (.int .i64 p1) := (hl3.at 1 _ rfl).2.2
  have hS : ∀ w', Below w2.heap.size w2 w' → w'.cell? ⟨w.heap.size, 0, none⟩ = some (.int .i64 4) ∧ w'.cell? ⟨w.heap.size, 1, none⟩ = some (.slice (some ⟨g, 0, none⟩) 2 c) ∧ w'.cell? ⟨g, 0, none⟩ = some (.int .i64 k0) ∧ w'.cell? ⟨g, 1, none⟩ = some (.int .i64 n0) ∧ w'.cell? ⟨g, 2, none⟩ = some (.int .i64 p0) ∧ w'.cell? ⟨g, 3, none⟩ = some (.int .i64 k1) ∧ w'.cell? ⟨g, 4, none⟩ = some (.int .i64 n1) ∧ w'.cell? ⟨g, 5, none⟩ = some (.int .i64 p1) ∧ Below w2.heap.size w2 w' := fun w' hb => ⟨(b3.kept hb).cell 0, (b3.kept hb).cell 1, ((hl3.kept hb).at 0 _ rfl).1, ((hl3.kept hb).at 0 _ rfl).2.1, ((hl3.kept hb).at 0 _ rfl).2.2, ((hl3.kept hb).at 1 _ rfl).1, ((hl3.kept hb).at 1 _ rfl).2.1, ((hl3.kept hb).at 1 _ rfl).2.2, hb⟩
  clear c0 c1 q00 q01 q02 q10 q11 q12
  have c0 := (hS _ (Below.refl _ _)).1
  go_wp2_with fail
  generalize (⟨#[45]⟩ : ByteArray) = col at s1 s2 s3 s4 s5 HT ⊢
  generalize (⟨#[58]⟩ : ByteArray) = col2 at s2 s3 s4 s5 HT ⊢
  go_region_held3 (fun w' => w'.cell? ⟨w.heap.size, 0, none⟩ = some (.int .i64 4) ∧ w'.cell? ⟨w.heap.size, 1, none⟩ = some (.slice (some ⟨g, 0, none⟩) 2 c) ∧ w'.cell? ⟨g, 0, none⟩ = some (.int .i64 k0) ∧ w'.cell? ⟨g, 1, none⟩ = some (.int .i64 n0) ∧ w'.cell? ⟨g, 2, none⟩ = some (.int .i64 p0) ∧ w'.cell? ⟨g, 3, none⟩ = some (.int .i64 k1) ∧ w'.cell? ⟨g, 4, none⟩ = some (.int .i64 n1) ∧ w'.cell? ⟨g, 5, none⟩ = some (.int .i64 p1) ∧ Below w2.heap.size w2 w')
    (first | assumption | exact hS _ (Below.refl _ _).drew | (obtain ⟨_, _, _, _, _, _, _, _, hq⟩ := (by assumption : _ ∧ _ ∧ _ ∧ _ ∧ _ ∧ _ ∧ _ ∧ _ ∧ Below w2.heap.size w2 _); exact hS _ (bel_step hq hbx hq.size)))
    (first | (go_at_call_of 22 k0; (with_reducible refine (h0 _ (bel_step hB3 (by first | exact (Below.refl _ _).drew | exact (by assumption : _ ∧ _ ∧ _ ∧ _ ∧ _ ∧ _ ∧ _ ∧ _ ∧ Below w2.heap.size w2 _).2.2.2.2.2.2.2.2) hB3.size)).mono ?_); rintro e w' ⟨rfl, hbx⟩) | (go_at_call_of 22 k1; (with_reducible refine (h1 _ (bel_step hB3 (by first | exact (Below.refl _ _).drew | exact (by assumption : _ ∧ _ ∧ _ ∧ _ ∧ _ ∧ _ ∧ _ ∧ _ ∧ Below w2.heap.size w2 _).2.2.2.2.2.2.2.2) hB3.size)).mono ?_); rintro e w' ⟨rfl, hbx⟩))
  all_goals
    obtain ⟨_, _, _, _, _, _, _, _, hq⟩ := (by assumption : _ ∧ _ ∧ _ ∧ _ ∧ _ ∧ _ ∧ _ ∧ _ ∧ Below w2.heap.size w2 _)
    have hB4 := bel_step hB3 hq hB3.size
    clear hq hS b3 hl3 hB3
    go_wp2
    go_ret
    exact ⟨by rw [HT.out]; rfl, hB4⟩
set_option maxRecDepth 100000 in
set_option maxHeartbeats 4000000 in
theorem stext_5 (k0 n0 p0 k1 n1 p1 : Int) (g c : Nat) (w : World) (hl : Lie w g 0 [(k0, n0, p0), (k1, n1, p1)]) (t0 : ByteArray) (z0 : t0.size ≤ 50) (h0 : ∀ w', Below w.heap.size w w' → Calls Tryd.prog 22 #[.agg #[.int .i64 k0, .int .i64 n0, .int .i64 p0]] w' fun e w'' => e = .returned (.string t0) ∧ Below w'.heap.size w' w'') (t1 : ByteArray) (z1 : t1.size ≤ 50) (h1 : ∀ w', Below w.heap.size w w' → Calls Tryd.prog 22 #[.agg #[.int .i64 k1, .int .i64 n1, .int .i64 p1]] w' fun e w'' => e = .returned (.string t1) ∧ Below w'.heap.size w' w'') (sg : ByteArray) (zs : sg.size ≤ 2) (hg : ∀ w, Calls Tryd.prog 23 #[.int .i64 5] w fun e w' => e = .returned (.string sg) ∧ Below w.heap.size w w') 
    (hco : ∀ w', Below w.heap.size w w' → Calls Tryd.prog 17 #[.agg #[.int .i64 5, .slice (some ⟨g, 0, none⟩) 2 c]] w' fun e w'' => e = .returned (.bool false) ∧ Below w'.heap.size w' w'')
    (hct : ∀ w', Below w.heap.size w w' → Calls Tryd.prog 16 #[.agg #[.int .i64 5, .slice (some ⟨g, 0, none⟩) 2 c]] w' fun e w'' => e = .returned (.bool true) ∧ Below w'.heap.size w' w'') : Calls Tryd.prog 9 #[.agg #[.int .i64 5, .slice (some ⟨g, 0, none⟩) 2 c]] w fun e w' => e = .returned (.string ((t0 ++ sg) ++ t1)) ∧ Below w.heap.size w w' := by
  have s1 : ¬ t0.size + sg.size > 9223372036854775807 := by omega
  have s2 : ¬ (t0 ++ sg).size + t1.size > 9223372036854775807 := by rw [ByteArray.size_append]; omega
  have s3 : ¬ t0.size + sg.size + t1.size > 9223372036854775807 := by omega
  have b1 := Box.new w #[.int .i64 5, .slice (some ⟨g, 0, none⟩) 2 c] 31
  have hB1 : Below w.heap.size w (w.alloc (.cells #[.int .i64 5, .slice (some ⟨g, 0, none⟩) 2 c] 31)) := by repeat (first | exact Below.refl _ _ | assumption | refine Below.setCell ?_ (by first | (simp; done) | (simp; omega) | omega) _ | refine Below.alloc ?_ (by first | (simp; done) | (simp; omega) | omega) _ | refine Bx.bel_drewN ?_ _ | refine Below.drew ?_)
  have HL := Lib.hid hl
  clear hl
  go_enter Tryd.func9, Tryd.ntmps9
  go_wp2_with fail
  refine (hco _ hB1).mono ?_
  rintro e w1 ⟨rfl, hb1⟩
  have b2 := b1.kept hb1
  have hB2 := bel_step hB1 hb1 hB1.size
  have c0 : w1.cell? ⟨w.heap.size, 0, none⟩ = some (.int .i64 5) := b2.cell 0
  have c1 : w1.cell? ⟨w.heap.size, 1, none⟩ = some (.slice (some ⟨g, 0, none⟩) 2 c) := b2.cell 1
  clear hb1 b1 hB1 hco
  go_wp2_with fail
  refine (hct _ hB2).mono ?_
  rintro e w2 ⟨rfl, hb2⟩
  have b3 := b2.kept hb2
  have hB3 := bel_step hB2 hb2 hB2.size
  clear hb2 b2 hB2 hct c0 c1
  have hl3 := HL.out.kept hB3
  have c0 : w2.cell? ⟨w.heap.size, 0, none⟩ = some (.int .i64 5) := b3.cell 0
  have c1 : w2.cell? ⟨w.heap.size, 1, none⟩ = some (.slice (some ⟨g, 0, none⟩) 2 c) := b3.cell 1
  have q00 : w2.cell? ⟨g, 0, none⟩ = some (.int .i64 k0) := (hl3.at 0 _ rfl).1
  have q01 : w2.cell? ⟨g, 1, none⟩ = some (.int .i64 n0) := (hl3.at 0 _ rfl).2.1
  have q02 : w2.cell? ⟨g, 2, none⟩ = some (.int .i64 p0) := (hl3.at 0 _ rfl).2.2
  have q10 : w2.cell? ⟨g, 3, none⟩ = some (.int .i64 k1) := (hl3.at 1 _ rfl).1
  have q11 : w2.cell? ⟨g, 4, none⟩ = some (.int .i64 n1) := (hl3.at 1 _ rfl).2.1
  have q12 : w2.cell? ⟨g, 5, none⟩ = some (.int .i64 p1) := (hl3.at 1 _ rfl).2.2
  have hS : ∀ w', Below w2.heap.size w2 w' → w'.cell? ⟨w.heap.size, 0, none⟩ = some (.int .i64 5) ∧ w'.cell? ⟨w.heap.size, 1, none⟩ = some (.slice (some ⟨g, 0, none⟩) 2 c) ∧ w'.cell? ⟨g, 0, none⟩ = some (.int .i64 k0) ∧ w'.cell? ⟨g, 1, none⟩ = some (.int .i64 n0) ∧ w'.cell? ⟨g, 2, none⟩ = some (.int .i64 p0) ∧ w'.cell? ⟨g, 3, none⟩ = some (.int .i64 k1) ∧ w'.cell? ⟨g, 4, none⟩ = some (.int .i64 n1) ∧ w'.cell? ⟨g, 5, none⟩ = some (.int .i64 p1) ∧ Below w2.heap.size w2 w' := fun w' hb => ⟨(b3.kept hb).cell 0, (b3.kept hb).cell 1, ((hl3.kept hb).at 0 _ rfl).1, ((hl3.kept hb).at 0 _ rfl).2.1, ((hl3.kept hb).at 0 _ rfl).2.2, ((hl3.kept hb).at 1 _ rfl).1, ((hl3.kept hb).at 1 _ rfl).2.1, ((hl3.kept hb).at 1 _ rfl).2.2, hb⟩
  clear c0 c1 q00 q01 q02 q10 q11 q12
  have c0 := (hS _ (Below.refl _ _)).1
  go_wp2_with fail
  go_region_held3 (fun w' => w'.cell? ⟨w.heap.size, 0, none⟩ = some (.int .i64 5) ∧ w'.cell? ⟨w.heap.size, 1, none⟩ = some (.slice (some ⟨g, 0, none⟩) 2 c) ∧ w'.cell? ⟨g, 0, none⟩ = some (.int .i64 k0) ∧ w'.cell? ⟨g, 1, none⟩ = some (.int .i64 n0) ∧ w'.cell? ⟨g, 2, none⟩ = some (.int .i64 p0) ∧ w'.cell? ⟨g, 3, none⟩ = some (.int .i64 k1) ∧ w'.cell? ⟨g, 4, none⟩ = some (.int .i64 n1) ∧ w'.cell? ⟨g, 5, none⟩ = some (.int .i64 p1) ∧ Below w2.heap.size w2 w')
    (first | assumption | exact hS _ (Below.refl _ _).drew | (obtain ⟨_, _, _, _, _, _, _, _, hq⟩ := (by assumption : _ ∧ _ ∧ _ ∧ _ ∧ _ ∧ _ ∧ _ ∧ _ ∧ Below w2.heap.size w2 _); exact hS _ (bel_step hq hbx hq.size)))
    (first | (go_at_call_of 22 k0; (with_reducible refine (h0 _ (bel_step hB3 (by first | exact (Below.refl _ _).drew | exact (by assumption : _ ∧ _ ∧ _ ∧ _ ∧ _ ∧ _ ∧ _ ∧ _ ∧ Below w2.heap.size w2 _).2.2.2.2.2.2.2.2) hB3.size)).mono ?_); rintro e w' ⟨rfl, hbx⟩) | (go_at_call_of 22 k1; (with_reducible refine (h1 _ (bel_step hB3 (by first | exact (Below.refl _ _).drew | exact (by assumption : _ ∧ _ ∧ _ ∧ _ ∧ _ ∧ _ ∧ _ ∧ _ ∧ Below w2.heap.size w2 _).2.2.2.2.2.2.2.2) hB3.size)).mono ?_); rintro e w' ⟨rfl, hbx⟩) | (go_at_call 23; (with_reducible refine (hg _).mono ?_); rintro e w' ⟨rfl, hbx⟩))
  all_goals
    obtain ⟨_, _, _, _, _, _, _, _, hq⟩ := (by assumption : _ ∧ _ ∧ _ ∧ _ ∧ _ ∧ _ ∧ _ ∧ _ ∧ Below w2.heap.size w2 _)
    have hB4 := bel_step hB3 hq hB3.size
    clear hq hS b3 hl3 hB3
    go_wp2
    go_ret
    exact ⟨rfl, hB4⟩
set_option maxRecDepth 100000 in
set_option maxHeartbeats 4000000 in
theorem stext_6 (k0 n0 p0 k1 n1 p1 : Int) (g c : Nat) (w : World) (hl : Lie w g 0 [(k0, n0, p0), (k1, n1, p1)]) (t0 : ByteArray) (z0 : t0.size ≤ 50) (h0 : ∀ w', Below w.heap.size w w' → Calls Tryd.prog 22 #[.agg #[.int .i64 k0, .int .i64 n0, .int .i64 p0]] w' fun e w'' => e = .returned (.string t0) ∧ Below w'.heap.size w' w'') (t1 : ByteArray) (z1 : t1.size ≤ 50) (h1 : ∀ w', Below w.heap.size w w' → Calls Tryd.prog 22 #[.agg #[.int .i64 k1, .int .i64 n1, .int .i64 p1]] w' fun e w'' => e = .returned (.string t1) ∧ Below w'.heap.size w' w'') (sg : ByteArray) (zs : sg.size ≤ 2) (hg : ∀ w, Calls Tryd.prog 23 #[.int .i64 6] w fun e w' => e = .returned (.string sg) ∧ Below w.heap.size w w') 
    (hco : ∀ w', Below w.heap.size w w' → Calls Tryd.prog 17 #[.agg #[.int .i64 6, .slice (some ⟨g, 0, none⟩) 2 c]] w' fun e w'' => e = .returned (.bool false) ∧ Below w'.heap.size w' w'')
    (hct : ∀ w', Below w.heap.size w w' → Calls Tryd.prog 16 #[.agg #[.int .i64 6, .slice (some ⟨g, 0, none⟩) 2 c]] w' fun e w'' => e = .returned (.bool true) ∧ Below w'.heap.size w' w'') : Calls Tryd.prog 9 #[.agg #[.int .i64 6, .slice (some ⟨g, 0, none⟩) 2 c]] w fun e w' => e = .returned (.string ((t0 ++ sg) ++ t1)) ∧ Below w.heap.size w w' := by
  have s1 : ¬ t0.size + sg.size > 9223372036854775807 := by omega
  have s2 : ¬ (t0 ++ sg).size + t1.size > 9223372036854775807 := by rw [ByteArray.size_append]; omega
  have s3 : ¬ t0.size + sg.size + t1.size > 9223372036854775807 := by omega
  have b1 := Box.new w #[.int .i64 6, .slice (some ⟨g, 0, none⟩) 2 c] 31
  have hB1 : Below w.heap.size w (w.alloc (.cells #[.int .i64 6, .slice (some ⟨g, 0, none⟩) 2 c] 31)) := by repeat (first | exact Below.refl _ _ | assumption | refine Below.setCell ?_ (by first | (simp; done) | (simp; omega) | omega) _ | refine Below.alloc ?_ (by first | (simp; done) | (simp; omega) | omega) _ | refine Bx.bel_drewN ?_ _ | refine Below.drew ?_)
  have HL := Lib.hid hl
  clear hl
  go_enter Tryd.func9, Tryd.ntmps9
  go_wp2_with fail
  refine (hco _ hB1).mono ?_
  rintro e w1 ⟨rfl, hb1⟩
  have b2 := b1.kept hb1
  have hB2 := bel_step hB1 hb1 hB1.size
  have c0 : w1.cell? ⟨w.heap.size, 0, none⟩ = some (.int .i64 6) := b2.cell 0
  have c1 : w1.cell? ⟨w.heap.size, 1, none⟩ = some (.slice (some ⟨g, 0, none⟩) 2 c) := b2.cell 1
  clear hb1 b1 hB1 hco
  go_wp2_with fail
  refine (hct _ hB2).mono ?_
  rintro e w2 ⟨rfl, hb2⟩
  have b3 := b2.kept hb2
  have hB3 := bel_step hB2 hb2 hB2.size
  clear hb2 b2 hB2 hct c0 c1
  have hl3 := HL.out.kept hB3
  have c0 : w2.cell? ⟨w.heap.size, 0, none⟩ = some (.int .i64 6) := b3.cell 0
  have c1 : w2.cell? ⟨w.heap.size, 1, none⟩ = some (.slice (some ⟨g, 0, none⟩) 2 c) := b3.cell 1
  have q00 : w2.cell? ⟨g, 0, none⟩ = some (.int .i64 k0) := (hl3.at 0 _ rfl).1
  have q01 : w2.cell? ⟨g, 1, none⟩ = some (.int .i64 n0) := (hl3.at 0 _ rfl).2.1
  have q02 : w2.cell? ⟨g, 2, none⟩ = some (.int .i64 p0) := (hl3.at 0 _ rfl).2.2
  have q10 : w2.cell? ⟨g, 3, none⟩ = some (.int .i64 k1) := (hl3.at 1 _ rfl).1
  have q11 : w2.cell? ⟨g, 4, none⟩ = some (.int .i64 n1) := (hl3.at 1 _ rfl).2.1
  have q12 : w2.cell? ⟨g, 5, none⟩ = some (.int .i64 p1) := (hl3.at 1 _ rfl).2.2
  have hS : ∀ w', Below w2.heap.size w2 w' → w'.cell? ⟨w.heap.size, 0, none⟩ = some (.int .i64 6) ∧ w'.cell? ⟨w.heap.size, 1, none⟩ = some (.slice (some ⟨g, 0, none⟩) 2 c) ∧ w'.cell? ⟨g, 0, none⟩ = some (.int .i64 k0) ∧ w'.cell? ⟨g, 1, none⟩ = some (.int .i64 n0) ∧ w'.cell? ⟨g, 2, none⟩ = some (.int .i64 p0) ∧ w'.cell? ⟨g, 3, none⟩ = some (.int .i64 k1) ∧ w'.cell? ⟨g, 4, none⟩ = some (.int .i64 n1) ∧ w'.cell? ⟨g, 5, none⟩ = some (.int .i64 p1) ∧ Below w2.heap.size w2 w' := fun w' hb => ⟨(b3.kept hb).cell 0, (b3.kept hb).cell 1, ((hl3.kept hb).at 0 _ rfl).1, ((hl3.kept hb).at 0 _ rfl).2.1, ((hl3.kept hb).at 0 _ rfl).2.2, ((hl3.kept hb).at 1 _ rfl).1, ((hl3.kept hb).at 1 _ rfl).2.1, ((hl3.kept hb).at 1 _ rfl).2.2, hb⟩
  clear c0 c1 q00 q01 q02 q10 q11 q12
  have c0 := (hS _ (Below.refl _ _)).1
  go_wp2_with fail
  go_region_held3 (fun w' => w'.cell? ⟨w.heap.size, 0, none⟩ = some (.int .i64 6) ∧ w'.cell? ⟨w.heap.size, 1, none⟩ = some (.slice (some ⟨g, 0, none⟩) 2 c) ∧ w'.cell? ⟨g, 0, none⟩ = some (.int .i64 k0) ∧ w'.cell? ⟨g, 1, none⟩ = some (.int .i64 n0) ∧ w'.cell? ⟨g, 2, none⟩ = some (.int .i64 p0) ∧ w'.cell? ⟨g, 3, none⟩ = some (.int .i64 k1) ∧ w'.cell? ⟨g, 4, none⟩ = some (.int .i64 n1) ∧ w'.cell? ⟨g, 5, none⟩ = some (.int .i64 p1) ∧ Below w2.heap.size w2 w')
    (first | assumption | exact hS _ (Below.refl _ _).drew | (obtain ⟨_, _, _, _, _, _, _, _, hq⟩ := (by assumption : _ ∧ _ ∧ _ ∧ _ ∧ _ ∧ _ ∧ _ ∧ _ ∧ Below w2.heap.size w2 _); exact hS _ (bel_step hq hbx hq.size)))
    (first | (go_at_call_of 22 k0; (with_reducible refine (h0 _ (bel_step hB3 (by first | exact (Below.refl _ _).drew | exact (by assumption : _ ∧ _ ∧ _ ∧ _ ∧ _ ∧ _ ∧ _ ∧ _ ∧ Below w2.heap.size w2 _).2.2.2.2.2.2.2.2) hB3.size)).mono ?_); rintro e w' ⟨rfl, hbx⟩) | (go_at_call_of 22 k1; (with_reducible refine (h1 _ (bel_step hB3 (by first | exact (Below.refl _ _).drew | exact (by assumption : _ ∧ _ ∧ _ ∧ _ ∧ _ ∧ _ ∧ _ ∧ _ ∧ Below w2.heap.size w2 _).2.2.2.2.2.2.2.2) hB3.size)).mono ?_); rintro e w' ⟨rfl, hbx⟩) | (go_at_call 23; (with_reducible refine (hg _).mono ?_); rintro e w' ⟨rfl, hbx⟩))
  all_goals
    obtain ⟨_, _, _, _, _, _, _, _, hq⟩ := (by assumption : _ ∧ _ ∧ _ ∧ _ ∧ _ ∧ _ ∧ _ ∧ _ ∧ Below w2.heap.size w2 _)
    have hB4 := bel_step hB3 hq hB3.size
    clear hq hS b3 hl3 hB3
    go_wp2
    go_ret
    exact ⟨rfl, hB4⟩
set_option maxRecDepth 100000 in
set_option maxHeartbeats 4000000 in
theorem stext_7 (k0 n0 p0 k1 n1 p1 : Int) (g c : Nat) (w : World) (hl : Lie w g 0 [(k0, n0, p0), (k1, n1, p1)]) (t0 : ByteArray) (z0 : t0.size ≤ 50) (h0 : ∀ w', Below w.heap.size w w' → Calls Tryd.prog 22 #[.agg #[.int .i64 k0, .int .i64 n0, .int .i64 p0]] w' fun e w'' => e = .returned (.string t0) ∧ Below w'.heap.size w' w'') (t1 : ByteArray) (z1 : t1.size ≤ 50) (h1 : ∀ w', Below w.heap.size w w' → Calls Tryd.prog 22 #[.agg #[.int .i64 k1, .int .i64 n1, .int .i64 p1]] w' fun e w'' => e = .returned (.string t1) ∧ Below w'.heap.size w' w'') (sg : ByteArray) (zs : sg.size ≤ 2) (hg : ∀ w, Calls Tryd.prog 23 #[.int .i64 7] w fun e w' => e = .returned (.string sg) ∧ Below w.heap.size w w') 
    (hco : ∀ w', Below w.heap.size w w' → Calls Tryd.prog 17 #[.agg #[.int .i64 7, .slice (some ⟨g, 0, none⟩) 2 c]] w' fun e w'' => e = .returned (.bool false) ∧ Below w'.heap.size w' w'')
    (hct : ∀ w', Below w.heap.size w w' → Calls Tryd.prog 16 #[.agg #[.int .i64 7, .slice (some ⟨g, 0, none⟩) 2 c]] w' fun e w'' => e = .returned (.bool true) ∧ Below w'.heap.size w' w'') : Calls Tryd.prog 9 #[.agg #[.int .i64 7, .slice (some ⟨g, 0, none⟩) 2 c]] w fun e w' => e = .returned (.string ((t0 ++ sg) ++ t1)) ∧ Below w.heap.size w w' := by
  have s1 : ¬ t0.size + sg.size > 9223372036854775807 := by omega
  have s2 : ¬ (t0 ++ sg).size + t1.size > 9223372036854775807 := by rw [ByteArray.size_append]; omega
  have s3 : ¬ t0.size + sg.size + t1.size > 9223372036854775807 := by omega
  have b1 := Box.new w #[.int .i64 7, .slice (some ⟨g, 0, none⟩) 2 c] 31
  have hB1 : Below w.heap.size w (w.alloc (.cells #[.int .i64 7, .slice (some ⟨g, 0, none⟩) 2 c] 31)) := by repeat (first | exact Below.refl _ _ | assumption | refine Below.setCell ?_ (by first | (simp; done) | (simp; omega) | omega) _ | refine Below.alloc ?_ (by first | (simp; done) | (simp; omega) | omega) _ | refine Bx.bel_drewN ?_ _ | refine Below.drew ?_)
  have HL := Lib.hid hl
  clear hl
  go_enter Tryd.func9, Tryd.ntmps9
  go_wp2_with fail
  refine (hco _ hB1).mono ?_
  rintro e w1 ⟨rfl, hb1⟩
  have b2 := b1.kept hb1
  have hB2 := bel_step hB1 hb1 hB1.size
  have c0 : w1.cell? ⟨w.heap.size, 0, none⟩ = some (.int .i64 7) := b2.cell 0
  have c1 : w1.cell? ⟨w.heap.size, 1, none⟩ = some (.slice (some ⟨g, 0, none⟩) 2 c) := b2.cell 1
  clear hb1 b1 hB1 hco
  go_wp2_with fail
  refine (hct _ hB2).mono ?_
  rintro e w2 ⟨rfl, hb2⟩
  have b3 := b2.kept hb2
  have hB3 := bel_step hB2 hb2 hB2.size
  clear hb2 b2 hB2 hct c0 c1
  have hl3 := HL.out.kept hB3
  have c0 : w2.cell? ⟨w.heap.size, 0, none⟩ = some (.int .i64 7) := b3.cell 0
  have c1 : w2.cell? ⟨w.heap.size, 1, none⟩ = some (.slice (some ⟨g, 0, none⟩) 2 c) := b3.cell 1
  have q00 : w2.cell? ⟨g, 0, none⟩ = some (.int .i64 k0) := (hl3.at 0 _ rfl).1
  have q01 : w2.cell? ⟨g, 1, none⟩ = some (.int .i64 n0) := (hl3.at 0 _ rfl).2.1
  have q02 : w2.cell? ⟨g, 2, none⟩ = some (.int .i64 p0) := (hl3.at 0 _ rfl).2.2
  have q10 : w2.cell? ⟨g, 3, none⟩ = some (.int .i64 k1) := (hl3.at 1 _ rfl).1
  have q11 : w2.cell? ⟨g, 4, none⟩ = some (.int .i64 n1) := (hl3.at 1 _ rfl).2.1
  have q12 : w2.cell? ⟨g, 5, none⟩ = some (.int .i64 p1) := (hl3.at 1 _ rfl).2.2
  have hS : ∀ w', Below w2.heap.size w2 w' → w'.cell? ⟨w.heap.size, 0, none⟩ = some (.int .i64 7) ∧ w'.cell? ⟨w.heap.size, 1, none⟩ = some (.slice (some ⟨g, 0, none⟩) 2 c) ∧ w'.cell? ⟨g, 0, none⟩ = some (.int .i64 k0) ∧ w'.cell? ⟨g, 1, none⟩ = some (.int .i64 n0) ∧ w'.cell? ⟨g, 2, none⟩ = some (.int .i64 p0) ∧ w'.cell? ⟨g, 3, none⟩ = some (.int .i64 k1) ∧ w'.cell? ⟨g, 4, none⟩ = some (.int .i64 n1) ∧ w'.cell? ⟨g, 5, none⟩ = some (.int .i64 p1) ∧ Below w2.heap.size w2 w' := fun w' hb => ⟨(b3.kept hb).cell 0, (b3.kept hb).cell 1, ((hl3.kept hb).at 0 _ rfl).1, ((hl3.kept hb).at 0 _ rfl).2.1, ((hl3.kept hb).at 0 _ rfl).2.2, ((hl3.kept hb).at 1 _ rfl).1, ((hl3.kept hb).at 1 _ rfl).2.1, ((hl3.kept hb).at 1 _ rfl).2.2, hb⟩
  clear c0 c1 q00 q01 q02 q10 q11 q12
  have c0 := (hS _ (Below.refl _ _)).1
  go_wp2_with fail
  go_region_held3 (fun w' => w'.cell? ⟨w.heap.size, 0, none⟩ = some (.int .i64 7) ∧ w'.cell? ⟨w.heap.size, 1, none⟩ = some (.slice (some ⟨g, 0, none⟩) 2 c) ∧ w'.cell? ⟨g, 0, none⟩ = some (.int .i64 k0) ∧ w'.cell? ⟨g, 1, none⟩ = some (.int .i64 n0) ∧ w'.cell? ⟨g, 2, none⟩ = some (.int .i64 p0) ∧ w'.cell? ⟨g, 3, none⟩ = some (.int .i64 k1) ∧ w'.cell? ⟨g, 4, none⟩ = some (.int .i64 n1) ∧ w'.cell? ⟨g, 5, none⟩ = some (.int .i64 p1) ∧ Below w2.heap.size w2 w')
    (first | assumption | exact hS _ (Below.refl _ _).drew | (obtain ⟨_, _, _, _, _, _, _, _, hq⟩ := (by assumption : _ ∧ _ ∧ _ ∧ _ ∧ _ ∧ _ ∧ _ ∧ _ ∧ Below w2.heap.size w2 _); exact hS _ (bel_step hq hbx hq.size)))
    (first | (go_at_call_of 22 k0; (with_reducible refine (h0 _ (bel_step hB3 (by first | exact (Below.refl _ _).drew | exact (by assumption : _ ∧ _ ∧ _ ∧ _ ∧ _ ∧ _ ∧ _ ∧ _ ∧ Below w2.heap.size w2 _).2.2.2.2.2.2.2.2) hB3.size)).mono ?_); rintro e w' ⟨rfl, hbx⟩) | (go_at_call_of 22 k1; (with_reducible refine (h1 _ (bel_step hB3 (by first | exact (Below.refl _ _).drew | exact (by assumption : _ ∧ _ ∧ _ ∧ _ ∧ _ ∧ _ ∧ _ ∧ _ ∧ Below w2.heap.size w2 _).2.2.2.2.2.2.2.2) hB3.size)).mono ?_); rintro e w' ⟨rfl, hbx⟩) | (go_at_call 23; (with_reducible refine (hg _).mono ?_); rintro e w' ⟨rfl, hbx⟩))
  all_goals
    obtain ⟨_, _, _, _, _, _, _, _, hq⟩ := (by assumption : _ ∧ _ ∧ _ ∧ _ ∧ _ ∧ _ ∧ _ ∧ _ ∧ Below w2.heap.size w2 _)
    have hB4 := bel_step hB3 hq hB3.size
    clear hq hS b3 hl3 hB3
    go_wp2
    go_ret
    exact ⟨rfl, hB4⟩
set_option maxRecDepth 100000 in
set_option maxHeartbeats 4000000 in
theorem stext_8 (k0 n0 p0 k1 n1 p1 : Int) (g c : Nat) (w : World) (hl : Lie w g 0 [(k0, n0, p0), (k1, n1, p1)]) (t0 : ByteArray) (z0 : t0.size ≤ 50) (h0 : ∀ w', Below w.heap.size w w' → Calls Tryd.prog 22 #[.agg #[.int .i64 k0, .int .i64 n0, .int .i64 p0]] w' fun e w'' => e = .returned (.string t0) ∧ Below w'.heap.size w' w'') (t1 : ByteArray) (z1 : t1.size ≤ 50) (h1 : ∀ w', Below w.heap.size w w' → Calls Tryd.prog 22 #[.agg #[.int .i64 k1, .int .i64 n1, .int .i64 p1]] w' fun e w'' => e = .returned (.string t1) ∧ Below w'.heap.size w' w'') (sg : ByteArray) (zs : sg.size ≤ 2) (hg : ∀ w, Calls Tryd.prog 23 #[.int .i64 8] w fun e w' => e = .returned (.string sg) ∧ Below w.heap.size w w') 
    (hco : ∀ w', Below w.heap.size w w' → Calls Tryd.prog 17 #[.agg #[.int .i64 8, .slice (some ⟨g, 0, none⟩) 2 c]] w' fun e w'' => e = .returned (.bool false) ∧ Below w'.heap.size w' w'')
    (hct : ∀ w', Below w.heap.size w w' → Calls Tryd.prog 16 #[.agg #[.int .i64 8, .slice (some ⟨g, 0, none⟩) 2 c]] w' fun e w'' => e = .returned (.bool true) ∧ Below w'.heap.size w' w'') : Calls Tryd.prog 9 #[.agg #[.int .i64 8, .slice (some ⟨g, 0, none⟩) 2 c]] w fun e w' => e = .returned (.string ((t0 ++ sg) ++ t1)) ∧ Below w.heap.size w w' := by
  have s1 : ¬ t0.size + sg.size > 9223372036854775807 := by omega
  have s2 : ¬ (t0 ++ sg).size + t1.size > 9223372036854775807 := by rw [ByteArray.size_append]; omega
  have s3 : ¬ t0.size + sg.size + t1.size > 9223372036854775807 := by omega
  have b1 := Box.new w #[.int .i64 8, .slice (some ⟨g, 0, none⟩) 2 c] 31
  have hB1 : Below w.heap.size w (w.alloc (.cells #[.int .i64 8, .slice (some ⟨g, 0, none⟩) 2 c] 31)) := by repeat (first | exact Below.refl _ _ | assumption | refine Below.setCell ?_ (by first | (simp; done) | (simp; omega) | omega) _ | refine Below.alloc ?_ (by first | (simp; done) | (simp; omega) | omega) _ | refine Bx.bel_drewN ?_ _ | refine Below.drew ?_)
  have HL := Lib.hid hl
  clear hl
  go_enter Tryd.func9, Tryd.ntmps9
  go_wp2_with fail
  refine (hco _ hB1).mono ?_
  rintro e w1 ⟨rfl, hb1⟩
  have b2 := b1.kept hb1
  have hB2 := bel_step hB1 hb1 hB1.size
  have c0 : w1.cell? ⟨w.heap.size, 0, none⟩ = some (.int .i64 8) := b2.cell 0
  have c1 : w1.cell? ⟨w.heap.size, 1, none⟩ = some (.slice (some ⟨g, 0, none⟩) 2 c) := b2.cell 1
  clear hb1 b1 hB1 hco
  go_wp2_with fail
  refine (hct _ hB2).mono ?_
  rintro e w2 ⟨rfl, hb2⟩
  have b3 := b2.kept hb2
  have hB3 := bel_step hB2 hb2 hB2.size
  clear hb2 b2 hB2 hct c0 c1
  have hl3 := HL.out.kept hB3
  have c0 : w2.cell? ⟨w.heap.size, 0, none⟩ = some (.int .i64 8) := b3.cell 0
  have c1 : w2.cell? ⟨w.heap.size, 1, none⟩ = some (.slice (some ⟨g, 0, none⟩) 2 c) := b3.cell 1
  have q00 : w2.cell? ⟨g, 0, none⟩ = some (.int .i64 k0) := (hl3.at 0 _ rfl).1
  have q01 : w2.cell? ⟨g, 1, none⟩ = some (.int .i64 n0) := (hl3.at 0 _ rfl).2.1
  have q02 : w2.cell? ⟨g, 2, none⟩ = some (.int .i64 p0) := (hl3.at 0 _ rfl).2.2
  have q10 : w2.cell? ⟨g, 3, none⟩ = some (.int .i64 k1) := (hl3.at 1 _ rfl).1
  have q11 : w2.cell? ⟨g, 4, none⟩ = some (.int .i64 n1) := (hl3.at 1 _ rfl).2.1
  have q12 : w2.cell? ⟨g, 5, none⟩ = some (.int .i64 p1) := (hl3.at 1 _ rfl).2.2
  have hS : ∀ w', Below w2.heap.size w2 w' → w'.cell? ⟨w.heap.size, 0, none⟩ = some (.int .i64 8) ∧ w'.cell? ⟨w.heap.size, 1, none⟩ = some (.slice (some ⟨g, 0, none⟩) 2 c) ∧ w'.cell? ⟨g, 0, none⟩ = some (.int .i64 k0) ∧ w'.cell? ⟨g, 1, none⟩ = some (.int .i64 n0) ∧ w'.cell? ⟨g, 2, none⟩ = some (.int .i64 p0) ∧ w'.cell? ⟨g, 3, none⟩ = some (.int .i64 k1) ∧ w'.cell? ⟨g, 4, none⟩ = some (.int .i64 n1) ∧ w'.cell? ⟨g, 5, none⟩ = some (.int .i64 p1) ∧ Below w2.heap.size w2 w' := fun w' hb => ⟨(b3.kept hb).cell 0, (b3.kept hb).cell 1, ((hl3.kept hb).at 0 _ rfl).1, ((hl3.kept hb).at 0 _ rfl).2.1, ((hl3.kept hb).at 0 _ rfl).2.2, ((hl3.kept hb).at 1 _ rfl).1, ((hl3.kept hb).at 1 _ rfl).2.1, ((hl3.kept hb).at 1 _ rfl).2.2, hb⟩
  clear c0 c1 q00 q01 q02 q10 q11 q12
  have c0 := (hS _ (Below.refl _ _)).1
  go_wp2_with fail
  go_region_held3 (fun w' => w'.cell? ⟨w.heap.size, 0, none⟩ = some (.int .i64 8) ∧ w'.cell? ⟨w.heap.size, 1, none⟩ = some (.slice (some ⟨g, 0, none⟩) 2 c) ∧ w'.cell? ⟨g, 0, none⟩ = some (.int .i64 k0) ∧ w'.cell? ⟨g, 1, none⟩ = some (.int .i64 n0) ∧ w'.cell? ⟨g, 2, none⟩ = some (.int .i64 p0) ∧ w'.cell? ⟨g, 3, none⟩ = some (.int .i64 k1) ∧ w'.cell? ⟨g, 4, none⟩ = some (.int .i64 n1) ∧ w'.cell? ⟨g, 5, none⟩ = some (.int .i64 p1) ∧ Below w2.heap.size w2 w')
    (first | assumption | exact hS _ (Below.refl _ _).drew | (obtain ⟨_, _, _, _, _, _, _, _, hq⟩ := (by assumption : _ ∧ _ ∧ _ ∧ _ ∧ _ ∧ _ ∧ _ ∧ _ ∧ Below w2.heap.size w2 _); exact hS _ (bel_step hq hbx hq.size)))
    (first | (go_at_call_of 22 k0; (with_reducible refine (h0 _ (bel_step hB3 (by first | exact (Below.refl _ _).drew | exact (by assumption : _ ∧ _ ∧ _ ∧ _ ∧ _ ∧ _ ∧ _ ∧ _ ∧ Below w2.heap.size w2 _).2.2.2.2.2.2.2.2) hB3.size)).mono ?_); rintro e w' ⟨rfl, hbx⟩) | (go_at_call_of 22 k1; (with_reducible refine (h1 _ (bel_step hB3 (by first | exact (Below.refl _ _).drew | exact (by assumption : _ ∧ _ ∧ _ ∧ _ ∧ _ ∧ _ ∧ _ ∧ _ ∧ Below w2.heap.size w2 _).2.2.2.2.2.2.2.2) hB3.size)).mono ?_); rintro e w' ⟨rfl, hbx⟩) | (go_at_call 23; (with_reducible refine (hg _).mono ?_); rintro e w' ⟨rfl, hbx⟩))
  all_goals
    obtain ⟨_, _, _, _, _, _, _, _, hq⟩ := (by assumption : _ ∧ _ ∧ _ ∧ _ ∧ _ ∧ _ ∧ _ ∧ _ ∧ Below w2.heap.size w2 _)
    have hB4 := bel_step hB3 hq hB3.size
    clear hq hS b3 hl3 hB3
    go_wp2
    go_ret
    exact ⟨rfl, hB4⟩
set_option maxRecDepth 100000 in
set_option maxHeartbeats 4000000 in
theorem stext_9 (k0 n0 p0 k1 n1 p1 : Int) (g c : Nat) (w : World) (hl : Lie w g 0 [(k0, n0, p0), (k1, n1, p1)]) (t0 : ByteArray) (z0 : t0.size ≤ 50) (h0 : ∀ w', Below w.heap.size w w' → Calls Tryd.prog 22 #[.agg #[.int .i64 k0, .int .i64 n0, .int .i64 p0]] w' fun e w'' => e = .returned (.string t0) ∧ Below w'.heap.size w' w'') (t1 : ByteArray) (z1 : t1.size ≤ 50) (h1 : ∀ w', Below w.heap.size w w' → Calls Tryd.prog 22 #[.agg #[.int .i64 k1, .int .i64 n1, .int .i64 p1]] w' fun e w'' => e = .returned (.string t1) ∧ Below w'.heap.size w' w'') (sg : ByteArray) (zs : sg.size ≤ 2) (hg : ∀ w, Calls Tryd.prog 23 #[.int .i64 9] w fun e w' => e = .returned (.string sg) ∧ Below w.heap.size w w') 
    (hco : ∀ w', Below w.heap.size w w' → Calls Tryd.prog 17 #[.agg #[.int .i64 9, .slice (some ⟨g, 0, none⟩) 2 c]] w' fun e w'' => e = .returned (.bool false) ∧ Below w'.heap.size w' w'')
    (hct : ∀ w', Below w.heap.size w w' → Calls Tryd.prog 16 #[.agg #[.int .i64 9, .slice (some ⟨g, 0, none⟩) 2 c]] w' fun e w'' => e = .returned (.bool true) ∧ Below w'.heap.size w' w'') : Calls Tryd.prog 9 #[.agg #[.int .i64 9, .slice (some ⟨g, 0, none⟩) 2 c]] w fun e w' => e = .returned (.string ((t0 ++ sg) ++ t1)) ∧ Below w.heap.size w w' := by
  have s1 : ¬ t0.size + sg.size > 9223372036854775807 := by omega
  have s2 : ¬ (t0 ++ sg).size + t1.size > 9223372036854775807 := by rw [ByteArray.size_append]; omega
  have s3 : ¬ t0.size + sg.size + t1.size > 9223372036854775807 := by omega
  have b1 := Box.new w #[.int .i64 9, .slice (some ⟨g, 0, none⟩) 2 c] 31
  have hB1 : Below w.heap.size w (w.alloc (.cells #[.int .i64 9, .slice (some ⟨g, 0, none⟩) 2 c] 31)) := by repeat (first | exact Below.refl _ _ | assumption | refine Below.setCell ?_ (by first | (simp; done) | (simp; omega) | omega) _ | refine Below.alloc ?_ (by first | (simp; done) | (simp; omega) | omega) _ | refine Bx.bel_drewN ?_ _ | refine Below.drew ?_)
  have HL := Lib.hid hl
  clear hl
  go_enter Tryd.func9, Tryd.ntmps9
  go_wp2_with fail
  refine (hco _ hB1).mono ?_
  rintro e w1 ⟨rfl, hb1⟩
  have b2 := b1.kept hb1
  have hB2 := bel_step hB1 hb1 hB1.size
  have c0 : w1.cell? ⟨w.heap.size, 0, none⟩ = some (.int .i64 9) := b2.cell 0
  have c1 : w1.cell? ⟨w.heap.size, 1, none⟩ = some (.slice (some ⟨g, 0, none⟩) 2 c) := b2.cell 1
  clear hb1 b1 hB1 hco
  go_wp2_with fail
  refine (hct _ hB2).mono ?_
  rintro e w2 ⟨rfl, hb2⟩
  have b3 := b2.kept hb2
  have hB3 := bel_step hB2 hb2 hB2.size
  clear hb2 b2 hB2 hct c0 c1
  have hl3 := HL.out.kept hB3
  have c0 : w2.cell? ⟨w.heap.size, 0, none⟩ = some (.int .i64 9) := b3.cell 0
  have c1 : w2.cell? ⟨w.heap.size, 1, none⟩ = some (.slice (some ⟨g, 0, none⟩) 2 c) := b3.cell 1
  have q00 : w2.cell? ⟨g, 0, none⟩ = some (.int .i64 k0) := (hl3.at 0 _ rfl).1
  have q01 : w2.cell? ⟨g, 1, none⟩ = some (.int .i64 n0) := (hl3.at 0 _ rfl).2.1
  have q02 : w2.cell? ⟨g, 2, none⟩ = some (.int .i64 p0) := (hl3.at 0 _ rfl).2.2
  have q10 : w2.cell? ⟨g, 3, none⟩ = some (.int .i64 k1) := (hl3.at 1 _ rfl).1
  have q11 : w2.cell? ⟨g, 4, none⟩ = some (.int .i64 n1) := (hl3.at 1 _ rfl).2.1
  have q12 : w2.cell? ⟨g, 5, none⟩ = some (.int .i64 p1) := (hl3.at 1 _ rfl).2.2
  have hS : ∀ w', Below w2.heap.size w2 w' → w'.cell? ⟨w.heap.size, 0, none⟩ = some (.int .i64 9) ∧ w'.cell? ⟨w.heap.size, 1, none⟩ = some (.slice (some ⟨g, 0, none⟩) 2 c) ∧ w'.cell? ⟨g, 0, none⟩ = some (.int .i64 k0) ∧ w'.cell? ⟨g, 1, none⟩ = some (.int .i64 n0) ∧ w'.cell? ⟨g, 2, none⟩ = some (.int .i64 p0) ∧ w'.cell? ⟨g, 3, none⟩ = some (.int .i64 k1) ∧ w'.cell? ⟨g, 4, none⟩ = some (.int .i64 n1) ∧ w'.cell? ⟨g, 5, none⟩ = some (.int .i64 p1) ∧ Below w2.heap.size w2 w' := fun w' hb => ⟨(b3.kept hb).cell 0, (b3.kept hb).cell 1, ((hl3.kept hb).at 0 _ rfl).1, ((hl3.kept hb).at 0 _ rfl).2.1, ((hl3.kept hb).at 0 _ rfl).2.2, ((hl3.kept hb).at 1 _ rfl).1, ((hl3.kept hb).at 1 _ rfl).2.1, ((hl3.kept hb).at 1 _ rfl).2.2, hb⟩
  clear c0 c1 q00 q01 q02 q10 q11 q12
  have c0 := (hS _ (Below.refl _ _)).1
  go_wp2_with fail
  go_region_held3 (fun w' => w'.cell? ⟨w.heap.size, 0, none⟩ = some (.int .i64 9) ∧ w'.cell? ⟨w.heap.size, 1, none⟩ = some (.slice (some ⟨g, 0, none⟩) 2 c) ∧ w'.cell? ⟨g, 0, none⟩ = some (.int .i64 k0) ∧ w'.cell? ⟨g, 1, none⟩ = some (.int .i64 n0) ∧ w'.cell? ⟨g, 2, none⟩ = some (.int .i64 p0) ∧ w'.cell? ⟨g, 3, none⟩ = some (.int .i64 k1) ∧ w'.cell? ⟨g, 4, none⟩ = some (.int .i64 n1) ∧ w'.cell? ⟨g, 5, none⟩ = some (.int .i64 p1) ∧ Below w2.heap.size w2 w')
    (first | assumption | exact hS _ (Below.refl _ _).drew | (obtain ⟨_, _, _, _, _, _, _, _, hq⟩ := (by assumption : _ ∧ _ ∧ _ ∧ _ ∧ _ ∧ _ ∧ _ ∧ _ ∧ Below w2.heap.size w2 _); exact hS _ (bel_step hq hbx hq.size)))
    (first | (go_at_call_of 22 k0; (with_reducible refine (h0 _ (bel_step hB3 (by first | exact (Below.refl _ _).drew | exact (by assumption : _ ∧ _ ∧ _ ∧ _ ∧ _ ∧ _ ∧ _ ∧ _ ∧ Below w2.heap.size w2 _).2.2.2.2.2.2.2.2) hB3.size)).mono ?_); rintro e w' ⟨rfl, hbx⟩) | (go_at_call_of 22 k1; (with_reducible refine (h1 _ (bel_step hB3 (by first | exact (Below.refl _ _).drew | exact (by assumption : _ ∧ _ ∧ _ ∧ _ ∧ _ ∧ _ ∧ _ ∧ _ ∧ Below w2.heap.size w2 _).2.2.2.2.2.2.2.2) hB3.size)).mono ?_); rintro e w' ⟨rfl, hbx⟩) | (go_at_call 23; (with_reducible refine (hg _).mono ?_); rintro e w' ⟨rfl, hbx⟩))
  all_goals
    obtain ⟨_, _, _, _, _, _, _, _, hq⟩ := (by assumption : _ ∧ _ ∧ _ ∧ _ ∧ _ ∧ _ ∧ _ ∧ _ ∧ Below w2.heap.size w2 _)
    have hB4 := bel_step hB3 hq hB3.size
    clear hq hS b3 hl3 hB3
    go_wp2
    go_ret
    exact ⟨rfl, hB4⟩
set_option maxRecDepth 100000 in
set_option maxHeartbeats 4000000 in
theorem stext_10 (k0 n0 p0 k1 n1 p1 : Int) (g c : Nat) (w : World) (hl : Lie w g 0 [(k0, n0, p0), (k1, n1, p1)]) (t0 : ByteArray) (z0 : t0.size ≤ 50) (h0 : ∀ w', Below w.heap.size w w' → Calls Tryd.prog 22 #[.agg #[.int .i64 k0, .int .i64 n0, .int .i64 p0]] w' fun e w'' => e = .returned (.string t0) ∧ Below w'.heap.size w' w'') (t1 : ByteArray) (z1 : t1.size ≤ 50) (h1 : ∀ w', Below w.heap.size w w' → Calls Tryd.prog 22 #[.agg #[.int .i64 k1, .int .i64 n1, .int .i64 p1]] w' fun e w'' => e = .returned (.string t1) ∧ Below w'.heap.size w' w'') (sg : ByteArray) (zs : sg.size ≤ 2) (hg : ∀ w, Calls Tryd.prog 23 #[.int .i64 10] w fun e w' => e = .returned (.string sg) ∧ Below w.heap.size w w') 
    (hco : ∀ w', Below w.heap.size w w' → Calls Tryd.prog 17 #[.agg #[.int .i64 10, .slice (some ⟨g, 0, none⟩) 2 c]] w' fun e w'' => e = .returned (.bool false) ∧ Below w'.heap.size w' w'')
    (hct : ∀ w', Below w.heap.size w w' → Calls Tryd.prog 16 #[.agg #[.int .i64 10, .slice (some ⟨g, 0, none⟩) 2 c]] w' fun e w'' => e = .returned (.bool true) ∧ Below w'.heap.size w' w'') : Calls Tryd.prog 9 #[.agg #[.int .i64 10, .slice (some ⟨g, 0, none⟩) 2 c]] w fun e w' => e = .returned (.string ((t0 ++ sg) ++ t1)) ∧ Below w.heap.size w w' := by
  have s1 : ¬ t0.size + sg.size > 9223372036854775807 := by omega
  have s2 : ¬ (t0 ++ sg).size + t1.size > 9223372036854775807 := by rw [ByteArray.size_append]; omega
  have s3 : ¬ t0.size + sg.size + t1.size > 9223372036854775807 := by omega
  have b1 := Box.new w #[.int .i64 10, .slice (some ⟨g, 0, none⟩) 2 c] 31
  have hB1 : Below w.heap.size w (w.alloc (.cells #[.int .i64 10, .slice (some ⟨g, 0, none⟩) 2 c] 31)) := by repeat (first | exact Below.refl _ _ | assumption | refine Below.setCell ?_ (by first | (simp; done) | (simp; omega) | omega) _ | refine Below.alloc ?_ (by first | (simp; done) | (simp; omega) | omega) _ | refine Bx.bel_drewN ?_ _ | refine Below.drew ?_)
  have HL := Lib.hid hl
  clear hl
  go_enter Tryd.func9, Tryd.ntmps9
  go_wp2_with fail
  refine (hco _ hB1).mono ?_
  rintro e w1 ⟨rfl, hb1⟩
  have b2 := b1.kept hb1
  have hB2 := bel_step hB1 hb1 hB1.size
  have c0 : w1.cell? ⟨w.heap.size, 0, none⟩ = some (.int .i64 10) := b2.cell 0
  have c1 : w1.cell? ⟨w.heap.size, 1, none⟩ = some (.slice (some ⟨g, 0, none⟩) 2 c) := b2.cell 1
  clear hb1 b1 hB1 hco
  go_wp2_with fail
  refine (hct _ hB2).mono ?_
  rintro e w2 ⟨rfl, hb2⟩
  have b3 := b2.kept hb2
  have hB3 := bel_step hB2 hb2 hB2.size
  clear hb2 b2 hB2 hct c0 c1
  have hl3 := HL.out.kept hB3
  have c0 : w2.cell? ⟨w.heap.size, 0, none⟩ = some (.int .i64 10) := b3.cell 0
  have c1 : w2.cell? ⟨w.heap.size, 1, none⟩ = some (.slice (some ⟨g, 0, none⟩) 2 c) := b3.cell 1
  have q00 : w2.cell? ⟨g, 0, none⟩ = some (.int .i64 k0) := (hl3.at 0 _ rfl).1
  have q01 : w2.cell? ⟨g, 1, none⟩ = some (.int .i64 n0) := (hl3.at 0 _ rfl).2.1
  have q02 : w2.cell? ⟨g, 2, none⟩ = some (.int .i64 p0) := (hl3.at 0 _ rfl).2.2
  have q10 : w2.cell? ⟨g, 3, none⟩ = some (.int .i64 k1) := (hl3.at 1 _ rfl).1
  have q11 : w2.cell? ⟨g, 4, none⟩ = some (.int .i64 n1) := (hl3.at 1 _ rfl).2.1
  have q12 : w2.cell? ⟨g, 5, none⟩ = some (.int .i64 p1) := (hl3.at 1 _ rfl).2.2
  have hS : ∀ w', Below w2.heap.size w2 w' → w'.cell? ⟨w.heap.size, 0, none⟩ = some (.int .i64 10) ∧ w'.cell? ⟨w.heap.size, 1, none⟩ = some (.slice (some ⟨g, 0, none⟩) 2 c) ∧ w'.cell? ⟨g, 0, none⟩ = some (.int .i64 k0) ∧ w'.cell? ⟨g, 1, none⟩ = some (.int .i64 n0) ∧ w'.cell? ⟨g, 2, none⟩ = some (.int .i64 p0) ∧ w'.cell? ⟨g, 3, none⟩ = some (.int .i64 k1) ∧ w'.cell? ⟨g, 4, none⟩ = some (.int .i64 n1) ∧ w'.cell? ⟨g, 5, none⟩ = some (.int .i64 p1) ∧ Below w2.heap.size w2 w' := fun w' hb => ⟨(b3.kept hb).cell 0, (b3.kept hb).cell 1, ((hl3.kept hb).at 0 _ rfl).1, ((hl3.kept hb).at 0 _ rfl).2.1, ((hl3.kept hb).at 0 _ rfl).2.2, ((hl3.kept hb).at 1 _ rfl).1, ((hl3.kept hb).at 1 _ rfl).2.1, ((hl3.kept hb).at 1 _ rfl).2.2, hb⟩
  clear c0 c1 q00 q01 q02 q10 q11 q12
  have c0 := (hS _ (Below.refl _ _)).1
  go_wp2_with fail
  go_region_held3 (fun w' => w'.cell? ⟨w.heap.size, 0, none⟩ = some (.int .i64 10) ∧ w'.cell? ⟨w.heap.size, 1, none⟩ = some (.slice (some ⟨g, 0, none⟩) 2 c) ∧ w'.cell? ⟨g, 0, none⟩ = some (.int .i64 k0) ∧ w'.cell? ⟨g, 1, none⟩ = some (.int .i64 n0) ∧ w'.cell? ⟨g, 2, none⟩ = some (.int .i64 p0) ∧ w'.cell? ⟨g, 3, none⟩ = some (.int .i64 k1) ∧ w'.cell? ⟨g, 4, none⟩ = some (.int .i64 n1) ∧ w'.cell? ⟨g, 5, none⟩ = some (.int .i64 p1) ∧ Below w2.heap.size w2 w')
    (first | assumption | exact hS _ (Below.refl _ _).drew | (obtain ⟨_, _, _, _, _, _, _, _, hq⟩ := (by assumption : _ ∧ _ ∧ _ ∧ _ ∧ _ ∧ _ ∧ _ ∧ _ ∧ Below w2.heap.size w2 _); exact hS _ (bel_step hq hbx hq.size)))
    (first | (go_at_call_of 22 k0; (with_reducible refine (h0 _ (bel_step hB3 (by first | exact (Below.refl _ _).drew | exact (by assumption : _ ∧ _ ∧ _ ∧ _ ∧ _ ∧ _ ∧ _ ∧ _ ∧ Below w2.heap.size w2 _).2.2.2.2.2.2.2.2) hB3.size)).mono ?_); rintro e w' ⟨rfl, hbx⟩) | (go_at_call_of 22 k1; (with_reducible refine (h1 _ (bel_step hB3 (by first | exact (Below.refl _ _).drew | exact (by assumption : _ ∧ _ ∧ _ ∧ _ ∧ _ ∧ _ ∧ _ ∧ _ ∧ Below w2.heap.size w2 _).2.2.2.2.2.2.2.2) hB3.size)).mono ?_); rintro e w' ⟨rfl, hbx⟩) | (go_at_call 23; (with_reducible refine (hg _).mono ?_); rintro e w' ⟨rfl, hbx⟩))
  all_goals
    obtain ⟨_, _, _, _, _, _, _, _, hq⟩ := (by assumption : _ ∧ _ ∧ _ ∧ _ ∧ _ ∧ _ ∧ _ ∧ _ ∧ Below w2.heap.size w2 _)
    have hB4 := bel_step hB3 hq hB3.size
    clear hq hS b3 hl3 hB3
    go_wp2
    go_ret
    exact ⟨rfl, hB4⟩
set_option maxRecDepth 100000 in
set_option maxHeartbeats 4000000 in
theorem stext_coil (op k0 n0 p0 : Int) (rest : List Arg) (g n c : Nat) (hn : n = rest.length + 1) (h2 : rest.length ≤ 2) (w : World) (hl : Lie w g 0 ((k0, n0, p0) :: rest)) (N : ByteArray) (zN : N.size ≤ 5)
    (hna : ∀ w', Below w.heap.size w w' → Calls Tryd.prog 6 #[.int .i64 op] w' fun e w'' => e = .returned (.string N) ∧ Below w'.heap.size w' w'')
    (hdt : ∀ (x : Arg) w', Below w.heap.size w w' → Calls Tryd.prog 22 #[.agg #[.int .i64 x.1, .int .i64 x.2.1, .int .i64 x.2.2]] w' fun e w'' => e = .returned (.string (txA x)) ∧ Below w'.heap.size w' w'')
    (hco : ∀ w', Below w.heap.size w w' → Calls Tryd.prog 17 #[.agg #[.int .i64 op, .slice (some ⟨g, 0, none⟩) n c]] w' fun e w'' => e = .returned (.bool true) ∧ Below w'.heap.size w' w'') : Calls Tryd.prog 9 #[.agg #[.int .i64 op, .slice (some ⟨g, 0, none⟩) n c]] w fun e w' => e = .returned (.string (rest.foldl ElemT.step ((N ++ ⟨#[58]⟩) ++ txA (k0, n0, p0)))) ∧ Below w.heap.size w w' := by
  have h0 := hdt (k0, n0, p0)
  simp only at h0
  have z0 := txA_size (k0, n0, p0)
  generalize txA (k0, n0, p0) = t0 at h0 z0 ⊢
  obtain ⟨R, hR⟩ : ∃ R, R = (N ++ (⟨#[58]⟩ : ByteArray)) ++ t0 := ⟨_, rfl⟩
  have zR : R.size ≤ 60 := by rw [hR, ByteArray.size_append, ByteArray.size_append]; have : (⟨#[58]⟩ : ByteArray).size = 1 := rfl; omega
  rw [← hR]
  have HT := Lib.hid hR
  have s1 : ¬ N.size + (⟨#[58]⟩ : ByteArray).size > 9223372036854775807 := by have : (⟨#[58]⟩ : ByteArray).size = 1 := rfl; omega
  have s2 : ¬ (N ++ (⟨#[58]⟩ : ByteArray)).size + t0.size > 9223372036854775807 := by rw [ByteArray.size_append]; have : (⟨#[58]⟩ : ByteArray).size = 1 := rfl; omega
  have s3 : ¬ N.size + (⟨#[58]⟩ : ByteArray).size + t0.size > 9223372036854775807 := by have : (⟨#[58]⟩ : ByteArray).size = 1 := rfl; omega
  have HN := Lib.hid (And.intro hn h2)
  have b1 := Box.new w #[.int .i64 op, .slice (some ⟨g, 0, none⟩) n c] 31
  have hB1 : Below w.heap.size w (w.alloc (.cells #[.int .i64 op, .slice (some ⟨g, 0, none⟩) n c] 31)) := by repeat (first | exact Below.refl _ _ | assumption | refine Below.setCell ?_ (by first | (simp; done) | (simp; omega) | omega) _ | refine Below.alloc ?_ (by first | (simp; done) | (simp; omega) | omega) _ | refine Bx.bel_drewN ?_ _ | refine Below.drew ?_)
  have HL := Lib.hid hl
  have HD := Lib.hid hdt
  clear hl hn h2 hdt hR
  go_enter Tryd.func9, Tryd.ntmps9
  go_wp2_with fail
  refine (hco _ hB1).mono ?_
  rintro e w1 ⟨rfl, hb1⟩
  have b2 := b1.kept hb1
  have hB2 := bel_step hB1 hb1 hB1.size
  have hl2 := HL.out.kept hB2
  clear hb1 b1 hB1 hco
  have hS : ∀ w', Below w1.heap.size w1 w' → w'.cell? ⟨w.heap.size, 0, none⟩ = some (.int .i64 op) ∧ w'.cell? ⟨w.heap.size, 1, none⟩ = some (.slice (some ⟨g, 0, none⟩) n c) ∧ w'.cell? ⟨g, 0, none⟩ = some (.int .i64 k0) ∧ w'.cell? ⟨g, 1, none⟩ = some (.int .i64 n0) ∧ w'.cell? ⟨g, 2, none⟩ = some (.int .i64 p0) ∧ Below w1.heap.size w1 w' := fun w' hb => ⟨(b2.kept hb).cell 0, (b2.kept hb).cell 1, ((hl2.kept hb).at 0 _ rfl).1, ((hl2.kept hb).at 0 _ rfl).2.1, ((hl2.kept hb).at 0 _ rfl).2.2, hb⟩
  have hn1 : (0 : Int) < n := by have := HN.out.1; omega
  have hn2 : 0 < n := by have := HN.out.1; omega
  have hn3 : n ≤ 3 := by have := HN.out; omega
  go_wp2_with fail
  generalize (⟨#[58]⟩ : ByteArray) = col at s1 s2 s3 HT ⊢
  go_region_held3 (fun w' => w'.cell? ⟨w.heap.size, 0, none⟩ = some (.int .i64 op) ∧ w'.cell? ⟨w.heap.size, 1, none⟩ = some (.slice (some ⟨g, 0, none⟩) n c) ∧ w'.cell? ⟨g, 0, none⟩ = some (.int .i64 k0) ∧ w'.cell? ⟨g, 1, none⟩ = some (.int .i64 n0) ∧ w'.cell? ⟨g, 2, none⟩ = some (.int .i64 p0) ∧ Below w1.heap.size w1 w')
    (first | assumption | exact hS _ (Below.refl _ _).drew | (obtain ⟨_, _, _, _, _, hq⟩ := (by assumption : _ ∧ _ ∧ _ ∧ _ ∧ _ ∧ Below w1.heap.size w1 _); exact hS _ (bel_step hq hbx hq.size)))
    (first | (go_at_call 22; (with_reducible refine (h0 _ (bel_step hB2 (by first | exact (Below.refl _ _).drew | exact (by assumption : _ ∧ _ ∧ _ ∧ _ ∧ _ ∧ Below w1.heap.size w1 _).2.2.2.2.2) hB2.size)).mono ?_); rintro e w' ⟨rfl, hbx⟩) | (go_at_call 6; (with_reducible refine (hna _ (bel_step hB2 (by first | exact (Below.refl _ _).drew | exact (by assumption : _ ∧ _ ∧ _ ∧ _ ∧ _ ∧ Below w1.heap.size w1 _).2.2.2.2.2) hB2.size)).mono ?_); rintro e w' ⟨rfl, hbx⟩))
  all_goals
    obtain ⟨_, _, _, _, _, hq⟩ := (by assumption : _ ∧ _ ∧ _ ∧ _ ∧ _ ∧ Below w1.heap.size w1 _)
    have hB3 := bel_step hB2 hq hB2.size
    have b3 := b2.kept hq
    have HB := Lib.hid (And.intro b3 hB3)
    rw [← HT.out]
    clear hq hS hB2 b2 hl2 h0 hna s1 s2 s3 hB3 b3
    go_wp2_with fail
    go_loopw [3, 4] (fun v i wr => ∃ (k : Nat) (s : ByteArray), 1 ≤ k ∧ k ≤ n ∧ v = .string s ∧ i = .int .i64 k ∧ s = (rest.take (k - 1)).foldl ElemT.step R ∧ Box wr w.heap.size #[.int .i64 op, .slice (some ⟨g, 0, none⟩) n c] 31 ∧ Below w.heap.size w wr) (fun _ i _ => n - (intOf i).toNat)
    case atStart => exact ⟨1, R, by omega, by omega, rfl, rfl, rfl, HB.out.1, HB.out.2⟩
    case round =>
      obtain ⟨k, s, hk1, hk, rfl, rfl, hs, hbox, hbel⟩ := hrel
      have hsz : s.size ≤ 60 + 51 * 2 := by
        rw [hs]
        have h1 := fold_size (rest.take (k - 1)) R
        have h2 : (rest.take (k - 1)).length ≤ 2 := by rw [List.length_take]; have := HN.out.2; omega
        omega
      have HS := Lib.hid hs
      clear hs
      have c0 : wr.cell? ⟨w.heap.size, 0, none⟩ = some (.int .i64 op) := hbox.cell 0
      have c1 : wr.cell? ⟨w.heap.size, 1, none⟩ = some (.slice (some ⟨g, 0, none⟩) n c) := hbox.cell 1
      by_cases hlt : k < n
      · obtain ⟨z, hz⟩ : ∃ z, rest[k - 1]? = some z := ⟨_, List.getElem?_eq_getElem (by have := HN.out.1; omega)⟩
        have hz2 : ((k0, n0, p0) :: rest)[k]? = some z := by
          rw [show k = (k - 1) + 1 by omega, List.getElem?_cons_succ]; exact hz
        have hl := HL.out.kept hbel
        have hcz := HD.out z
        have ztz := txA_size z
        have HZ := Lib.hid hz
        have hz3 := hl.at k z hz2
        have HZ2 := Lib.hid hz2
        obtain ⟨z0, z1, z2⟩ := z
        simp only at hz3 hcz
        obtain ⟨tz, htz⟩ : ∃ tz, txA (z0, z1, z2) = tz := ⟨_, rfl⟩
        rw [htz] at hcz ztz
        have HTZ := Lib.hid htz
        have d1 : (k : Int) < (n : Int) := by omega
        have s1 : ¬ s.size + (⟨#[44]⟩ : ByteArray).size > 9223372036854775807 := by have : (⟨#[44]⟩ : ByteArray).size = 1 := rfl; omega
        have s2 : ¬ (s ++ (⟨#[44]⟩ : ByteArray)).size + tz.size > 9223372036854775807 := by rw [ByteArray.size_append]; have : (⟨#[44]⟩ : ByteArray).size = 1 := rfl; omega
        have s3 : ¬ s.size + (⟨#[44]⟩ : ByteArray).size + tz.size > 9223372036854775807 := by have : (⟨#[44]⟩ : ByteArray).size = 1 := rfl; omega
        have hS : ∀ w', Below wr.heap.size wr w' → w'.cell? ⟨w.heap.size, 0, none⟩ = some (.int .i64 op) ∧ w'.cell? ⟨w.heap.size, 1, none⟩ = some (.slice (some ⟨g, 0, none⟩) n c) ∧ w'.cell? ⟨g, k * 3, none⟩ = some (.int .i64 z0) ∧ w'.cell? ⟨g, k * 3 + 1, none⟩ = some (.int .i64 z1) ∧ w'.cell? ⟨g, k * 3 + 2, none⟩ = some (.int .i64 z2) ∧ Below wr.heap.size wr w' := fun w' hb => ⟨(hbox.kept hb).cell 0, (hbox.kept hb).cell 1, ((hl.kept hb).at k _ HZ2.out).1, ((hl.kept hb).at k _ HZ2.out).2.1, ((hl.kept hb).at k _ HZ2.out).2.2, hb⟩
        have HC : Hid ((s ++ (⟨#[44]⟩ : ByteArray)) ++ tz = ElemT.step s (z0, z1, z2)) := Lib.hid (by rw [← HTZ.out]; rfl)
        clear hz hz2 htz
        clear hS
        go_wp2_with fail
        generalize (⟨#[44]⟩ : ByteArray) = col2 at s1 s2 s3 HC ⊢
        refine (hcz _ hbel).mono ?_
        rintro e w3 ⟨rfl, hb3⟩
        have hB3 := bel_step hbel hb3 hbel.size
        have b3 := hbox.kept hb3
        have HB3 := Lib.hid (And.intro b3 hB3)
        clear hb3 hcz hbel hbox hz3 hl b3 hB3 c0 c1
        go_wp2
        go_roundw
        case rel => exact ⟨k + 1, (s ++ col2) ++ tz, by omega, by omega, rfl, by go_num, by rw [HC.out, show k + 1 - 1 = (k - 1) + 1 by omega, fold_snoc HZ.out, ← HS.out], HB3.out.1, HB3.out.2⟩
        case measure => simp [intOf]; omega
      · obtain rfl : k = n := by omega
        have ht : rest.take (k - 1) = rest := List.take_of_length_le (by have := HN.out.1; omega)
        have HR : Hid (s = rest.foldl ElemT.step R) := Lib.hid (by have := HS.out; rwa [ht] at this)
        clear ht hlt
        go_wp2
        go_ret
        exact ⟨by rw [← HR.out]; rfl, hbel⟩
set_option maxRecDepth 100000 in
set_option maxHeartbeats 4000000 in
theorem stext_no (op : Int) (a : Option Addr) (n c : Nat) (w : World)
    (hco : ∀ w', Below w.heap.size w w' → Calls Tryd.prog 17 #[.agg #[.int .i64 op, .slice a n c]] w' fun e w'' => e = .returned (.bool false) ∧ Below w'.heap.size w' w'')
    (hct : ∀ w', Below w.heap.size w w' → Calls Tryd.prog 16 #[.agg #[.int .i64 op, .slice a n c]] w' fun e w'' => e = .returned (.bool false) ∧ Below w'.heap.size w' w'') : Calls Tryd.prog 9 #[.agg #[.int .i64 op, .slice a n c]] w fun e w' => e = .returned (.string ⟨#[]⟩) ∧ Below w.heap.size w w' := by
  have b1 := Box.new w #[.int .i64 op, .slice a n c] 31
  have hB1 : Below w.heap.size w (w.alloc (.cells #[.int .i64 op, .slice a n c] 31)) := by repeat (first | exact Below.refl _ _ | assumption | refine Below.setCell ?_ (by first | (simp; done) | (simp; omega) | omega) _ | refine Below.alloc ?_ (by first | (simp; done) | (simp; omega) | omega) _ | refine Bx.bel_drewN ?_ _ | refine Below.drew ?_)
  go_enter Tryd.func9, Tryd.ntmps9
  go_wp2_with fail
  refine (hco _ hB1).mono ?_
  rintro e w1 ⟨rfl, hb1⟩
  have b2 := b1.kept hb1
  have hB2 := bel_step hB1 hb1 hB1.size
  have c0 : w1.cell? ⟨w.heap.size, 0, none⟩ = some (.int .i64 op) := b2.cell 0
  have c1 : w1.cell? ⟨w.heap.size, 1, none⟩ = some (.slice a n c) := b2.cell 1
  clear hb1 b1 hB1 hco
  go_wp2_with fail
  refine (hct _ hB2).mono ?_
  rintro e w2 ⟨rfl, hb2⟩
  have hB3 := bel_step hB2 hb2 hB2.size
  clear hb2 b2 hB2 hct c0 c1
  go_wp2
  go_ret
  exact ⟨rfl, hB3⟩
theorem elemText_s_any (op : Int) (a : Option Addr) (n c : Nat) (xs : List Arg) (w : World) (h : Arr w a n c xs) (henv : EEnv w) : Calls Tryd.prog 9 #[.agg #[.int .i64 op, .slice a n c]] w fun e w' => e = .returned (.string (etxt op xs)) ∧ Below w.heap.size w w' := by
  have hco := fun w' (hb : Below w.heap.size w w') => coil_s_any op a n c xs w' (h.kept hb)
  have hct := fun w' (hb : Below w.heap.size w w') => contact_s_any op a n c xs w' (h.kept hb)
  obtain ⟨hn, hc, hm, h3, hx⟩ := h
  have hdt := fun (x : Arg) w' (hb : Below w.heap.size w w') => devText_s_any x.1 x.2.1 x.2.2 w' (henv.kept hb).tab (henv.kept hb).wd
  unfold etxt
  cases hC : coil op xs with
  | true =>
    obtain ⟨hr, hl, _⟩ := coil_in hC
    rw [hC] at hco
    rw [if_pos rfl]
    have h1 : 1 ≤ xs.length ∧ xs.length ≤ 3 := by rw [hl]; unfold arity; constructor <;> repeat (first | split | omega)
    rcases hx with hx | ⟨g, rfl, hlie⟩
    · rw [hx] at h1; simp at h1
    obtain ⟨x, rest, rfl⟩ : ∃ x rest, xs = x :: rest := by
      cases xs with
      | nil => simp at h1
      | cons x rest => exact ⟨x, rest, rfl⟩
    obtain ⟨k0, n0, p0⟩ := x
    have h2 : rest.length ≤ 2 := by simp at h1; omega
    rw [coilT_fold h2]
    exact stext_coil op k0 n0 p0 rest g n c (by simpa using hn) h2 w hlie (cname op) (cname_size op) (fun w' hb => name_s_any op w' (henv.kept hb)) hdt hco
  | false =>
    rw [hC] at hco
    rw [if_neg (by decide)]
    cases hK : contact op xs with
    | false =>
      rw [hK] at hct
      rw [if_neg (by decide)]
      exact stext_no op a n c w hco hct
    | true =>
      obtain ⟨hr, hl, _⟩ := contact_in hK
      rw [hK] at hct
      rw [if_pos rfl]
      have h1 : 1 ≤ xs.length := by rw [hl]; unfold arity; repeat (first | split | omega)
      rcases hx with hx | ⟨g, rfl, hlie⟩
      · rw [hx] at h1; simp at h1
      have hop : op = 1 ∨ op = 2 ∨ op = 3 ∨ op = 4 ∨ op = 5 ∨ op = 6 ∨ op = 7 ∨ op = 8 ∨ op = 9 ∨ op = 10 := by omega
      rcases hop with rfl | rfl | rfl | rfl | rfl | rfl | rfl | rfl | rfl | rfl
      · obtain ⟨k0, n0, p0, rfl⟩ := len1 hl
        obtain rfl : n = 1 := hn
        exact stext_1 k0 n0 p0 g c w hlie _ (txA_size (k0, n0, p0)) (hdt (k0, n0, p0)) hco hct
      · obtain ⟨k0, n0, p0, rfl⟩ := len1 hl
        obtain rfl : n = 1 := hn
        exact stext_2 k0 n0 p0 g c w hlie _ (txA_size (k0, n0, p0)) (hdt (k0, n0, p0)) hco hct
      · obtain ⟨k0, n0, p0, k1, n1, p1, rfl⟩ := len2 hl
        obtain rfl : n = 2 := hn
        exact stext_3 k0 n0 p0 k1 n1 p1 g c w hlie _ (txA_size (k0, n0, p0)) (hdt (k0, n0, p0)) _ (txA_size (k1, n1, p1)) (hdt (k1, n1, p1)) hco hct
      · obtain ⟨k0, n0, p0, k1, n1, p1, rfl⟩ := len2 hl
        obtain rfl : n = 2 := hn
        exact stext_4 k0 n0 p0 k1 n1 p1 g c w hlie _ (txA_size (k0, n0, p0)) (hdt (k0, n0, p0)) _ (txA_size (k1, n1, p1)) (hdt (k1, n1, p1)) hco hct
      · obtain ⟨k0, n0, p0, k1, n1, p1, rfl⟩ := len2 hl
        obtain rfl : n = 2 := hn
        exact stext_5 k0 n0 p0 k1 n1 p1 g c w hlie _ (txA_size (k0, n0, p0)) (hdt (k0, n0, p0)) _ (txA_size (k1, n1, p1)) (hdt (k1, n1, p1)) _ (sign_size 5) (fun w => sign_s_any 5 (by omega) w) hco hct
      · obtain ⟨k0, n0, p0, k1, n1, p1, rfl⟩ := len2 hl
        obtain rfl : n = 2 := hn
        exact stext_6 k0 n0 p0 k1 n1 p1 g c w hlie _ (txA_size (k0, n0, p0)) (hdt (k0, n0, p0)) _ (txA_size (k1, n1, p1)) (hdt (k1, n1, p1)) _ (sign_size 6) (fun w => sign_s_any 6 (by omega) w) hco hct
      · obtain ⟨k0, n0, p0, k1, n1, p1, rfl⟩ := len2 hl
        obtain rfl : n = 2 := hn
        exact stext_7 k0 n0 p0 k1 n1 p1 g c w hlie _ (txA_size (k0, n0, p0)) (hdt (k0, n0, p0)) _ (txA_size (k1, n1, p1)) (hdt (k1, n1, p1)) _ (sign_size 7) (fun w => sign_s_any 7 (by omega) w) hco hct
      · obtain ⟨k0, n0, p0, k1, n1, p1, rfl⟩ := len2 hl
        obtain rfl : n = 2 := hn
        exact stext_8 k0 n0 p0 k1 n1 p1 g c w hlie _ (txA_size (k0, n0, p0)) (hdt (k0, n0, p0)) _ (txA_size (k1, n1, p1)) (hdt (k1, n1, p1)) _ (sign_size 8) (fun w => sign_s_any 8 (by omega) w) hco hct
      · obtain ⟨k0, n0, p0, k1, n1, p1, rfl⟩ := len2 hl
        obtain rfl : n = 2 := hn
        exact stext_9 k0 n0 p0 k1 n1 p1 g c w hlie _ (txA_size (k0, n0, p0)) (hdt (k0, n0, p0)) _ (txA_size (k1, n1, p1)) (hdt (k1, n1, p1)) _ (sign_size 9) (fun w => sign_s_any 9 (by omega) w) hco hct
      · obtain ⟨k0, n0, p0, k1, n1, p1, rfl⟩ := len2 hl
        obtain rfl : n = 2 := hn
        exact stext_10 k0 n0 p0 k1 n1 p1 g c w hlie _ (txA_size (k0, n0, p0)) (hdt (k0, n0, p0)) _ (txA_size (k1, n1, p1)) (hdt (k1, n1, p1)) _ (sign_size 10) (fun w => sign_s_any 10 (by omega) w) hco hct
end Go.Proofs.YtmlpobecilbknaaDoor
