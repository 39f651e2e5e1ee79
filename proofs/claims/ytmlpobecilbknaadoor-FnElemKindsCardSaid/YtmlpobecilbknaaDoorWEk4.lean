/- The draws of FnElemKinds: coils of one drawn operand and one at hand. -/
import Derived.Test.YtmlpobecilbknaaDoorRows
import Derived.Test.YtmlpobecilbknaaDoorWEk3
import Derived.WalkKit
import Derived.WalkSpells
import Derived.WalkLawsBesides
import Derived.OpenShut
import Derived.OwnWalk
import Derived.IntWalk
import Derived.Lib.Hide
import Derived.Deep.QuietTactic
import Derived.BigQuiet
namespace Go.Proofs.YtmlpobecilbknaaDoor
open Go.RowKit Bx Rdr
set_option linter.unusedVariables false

set_option maxRecDepth 100000 in
set_option maxHeartbeats 2000000 in
theorem l4Coil_24 (w : World) (g k : Nat) (h : Rd 82 w g k) (hk : k ≤ 80000) (hn : Calls Tryd.prog 77 #[.pointer (some ⟨g, 0, none⟩), .slice (some ⟨w.heap.size + 1, 0, none⟩) 22 22] ((w.alloc (.cells #[.int .i64 0, .slice none 0 0] 31)).alloc (.cells (([21, 21, 21, 22, 23, 24, 25, 26, 26, 27, 28, 29, 29, 30, 31, 31, 32, 33, 34, 35, 36, 37] : List Int).map (Value.int .i64)).toArray 3)) fun e w1 => e = .returned (.int .i64 24) ∧ Rd 82 w1 g (k + 1) ∧ Only g ((w.alloc (.cells #[.int .i64 0, .slice none 0 0] 31)).alloc (.cells (([21, 21, 21, 22, 23, 24, 25, 26, 26, 27, 28, 29, 29, 30, 31, 31, 32, 33, 34, 35, 36, 37] : List Int).map (Value.int .i64)).toArray 3)) w1) : Calls Tryd.prog 75 #[.pointer (some ⟨g, 0, none⟩)] w (DrewE 40 w g k) := by
  have hlt := h.lt
  have b0 := (Box.new w #[.int .i64 0, .slice none 0 0] 31).alloc (.cells (([21, 21, 21, 22, 23, 24, 25, 26, 26, 27, 28, 29, 29, 30, 31, 31, 32, 33, 34, 35, 36, 37] : List Int).map (Value.int .i64)).toArray 3)
  have o0 : Only g w ((w.alloc (.cells #[.int .i64 0, .slice none 0 0] 31)).alloc (.cells (([21, 21, 21, 22, 23, 24, 25, 26, 26, 27, 28, 29, 29, 30, 31, 31, 32, 33, 34, 35, 36, 37] : List Int).map (Value.int .i64)).toArray 3)) := ((Only.refl g w).alloc _).alloc _
  have HB := Lib.hid (And.intro b0 o0)
  clear b0 o0 h
  go_enter Tryd.func75, Tryd.ntmps75
  go_wp2_with fail
  refine hn.mono ?_
  rintro e w1 ⟨rfl, r1, ow1⟩
  have bw1 := box_only HB.out.1 ow1 (by omega)
  have tw1 := HB.out.2.trans ow1
  clear ow1 hn HB
  go_wp2_with fail
  refine (pick_any w1 g (k + 1) 2 r1 (by omega)).mono ?_
  rintro e w2 ⟨y, rfl, hy0, hy1, _, r2, ow2⟩
  have bw2 := box_only (bw1) ow2 (by omega)
  have tw2 := (tw1).trans ow2
  have lr2 := r2.lt
  have ls2 := tw2.size_le
  have lbw2 := bw2.lt
  clear ow2
  clear bw1 r1 tw1
  have hy2 := hy1 (by omega)
  clear hy1
  go_wp2_with fail
  refine (l2Arg_any w2 g (k + 1 + 1) (2 + y) r2 (by omega)).mono ?_
  rintro e w3 ⟨a, b, c, rfl, r3, ow3⟩
  have bw3 := box_only (bw2) ow3 (by omega)
  have tw3 := (tw2).trans ow3
  have lr3 := r3.lt
  have ls3 := tw3.size_le
  have lbw3 := bw3.lt
  clear ow3
  clear bw2 r2 tw2
  have ba0 := Box.new w3 #[.int .i64 a, .int .i64 b, .int .i64 c] 40
  go_wp2_with fail
  refine (l2Arg_any (w3.alloc (.cells #[.int .i64 a, .int .i64 b, .int .i64 c] 40)) g (k + 1 + 1 + 4) 11 (r3.alloc _) (by omega)).mono ?_
  rintro e w4 ⟨p, q, r, rfl, r4, ow4⟩
  have bw4 := box_only (bw3.alloc _) ow4 (by omega)
  have ba4 := box_only (ba0) ow4 (by omega)
  have tw4 := (tw3.alloc _).trans ow4
  have lr4 := r4.lt
  have ls4 := tw4.size_le
  have lbw4 := bw4.lt
  have lba4 := ba4.lt
  clear ow4
  clear bw3 r3 tw3 ba0
  have bb0 := Box.new w4 #[.int .i64 p, .int .i64 q, .int .i64 r] 40
  by_cases hq : q < 0
  · have tw40 := tw4.alloc (.cells #[.int .i64 p, .int .i64 q, .int .i64 r] 40)
    have ba40 : Box (w4.alloc (.cells #[.int .i64 p, .int .i64 q, .int .i64 r] 40)) w3.heap.size #[.int .i64 a, .int .i64 b, .int .i64 c] 40 := ba4.alloc _
    have m0 : (w4.alloc (.cells #[.int .i64 p, .int .i64 q, .int .i64 r] 40)).cell? ⟨w3.heap.size, 0, none⟩ = some (.int .i64 a) := (ba40.cell 0).trans (by rfl)
    have mf0 : (w4.alloc (.cells #[.int .i64 p, .int .i64 q, .int .i64 r] 40)).frozen? ⟨w3.heap.size, 0, none⟩ = false := ba40.free 0
    have m1 : (w4.alloc (.cells #[.int .i64 p, .int .i64 q, .int .i64 r] 40)).cell? ⟨w3.heap.size, 1, none⟩ = some (.int .i64 b) := (ba40.cell 1).trans (by rfl)
    have mf1 : (w4.alloc (.cells #[.int .i64 p, .int .i64 q, .int .i64 r] 40)).frozen? ⟨w3.heap.size, 1, none⟩ = false := ba40.free 1
    have m2 : (w4.alloc (.cells #[.int .i64 p, .int .i64 q, .int .i64 r] 40)).cell? ⟨w3.heap.size, 2, none⟩ = some (.int .i64 c) := (ba40.cell 2).trans (by rfl)
    have mf2 : (w4.alloc (.cells #[.int .i64 p, .int .i64 q, .int .i64 r] 40)).frozen? ⟨w3.heap.size, 2, none⟩ = false := ba40.free 2
    have n0 : (w4.alloc (.cells #[.int .i64 p, .int .i64 q, .int .i64 r] 40)).cell? ⟨w4.heap.size, 0, none⟩ = some (.int .i64 p) := (bb0.cell 0).trans (by rfl)
    have nf0 : (w4.alloc (.cells #[.int .i64 p, .int .i64 q, .int .i64 r] 40)).frozen? ⟨w4.heap.size, 0, none⟩ = false := bb0.free 0
    have n1 : (w4.alloc (.cells #[.int .i64 p, .int .i64 q, .int .i64 r] 40)).cell? ⟨w4.heap.size, 1, none⟩ = some (.int .i64 q) := (bb0.cell 1).trans (by rfl)
    have nf1 : (w4.alloc (.cells #[.int .i64 p, .int .i64 q, .int .i64 r] 40)).frozen? ⟨w4.heap.size, 1, none⟩ = false := bb0.free 1
    have n2 : (w4.alloc (.cells #[.int .i64 p, .int .i64 q, .int .i64 r] 40)).cell? ⟨w4.heap.size, 2, none⟩ = some (.int .i64 r) := (bb0.cell 2).trans (by rfl)
    have nf2 : (w4.alloc (.cells #[.int .i64 p, .int .i64 q, .int .i64 r] 40)).frozen? ⟨w4.heap.size, 2, none⟩ = false := bb0.free 2
    go_wp2_with fail
    refine (pick_any (w4.alloc (.cells #[.int .i64 p, .int .i64 q, .int .i64 r] 40)) g (k + 1 + 1 + 4 + 4) 9 (r4.alloc _) (by omega)).mono ?_
    rintro e w5 ⟨u, rfl, hu0, hu1, _, r5, ow5⟩
    have bw5 := box_only (bw4.alloc _) ow5 (by omega)
    have ba5 := box_only (ba4.alloc _) ow5 (by omega)
    have bb5 := box_only (bb0) ow5 (by omega)
    have tw5 := (tw4.alloc _).trans ow5
    have lr5 := r5.lt
    have ls5 := tw5.size_le
    have lbw5 := bw5.lt
    have lba5 := ba5.lt
    have lbb5 := bb5.lt
    clear ow5
    clear m0 mf0 m1 mf1 m2 mf2 n0 nf0 n1 nf1 n2 nf2 bw4 r4 tw4 ba4 ba40 bb0 tw40 hu1 hq
    have bw6 : Box (w5.setCell ⟨w4.heap.size, 1, none⟩ (.int .i64 u)) w.heap.size #[.int .i64 0, .slice none 0 0] 31 := bw5.far (p := ⟨w4.heap.size, 1, none⟩) (by simp; omega) _
    have ba6 : Box (w5.setCell ⟨w4.heap.size, 1, none⟩ (.int .i64 u)) w3.heap.size #[.int .i64 a, .int .i64 b, .int .i64 c] 40 := ba5.far (p := ⟨w4.heap.size, 1, none⟩) (by simp; omega) _
    have bb6 : Box (w5.setCell ⟨w4.heap.size, 1, none⟩ (.int .i64 u)) w4.heap.size #[.int .i64 p, .int .i64 u, .int .i64 r] 40 := bb5.set 1 (.int .i64 u)
    have r6 : Rd 82 (w5.setCell ⟨w4.heap.size, 1, none⟩ (.int .i64 u)) g (k + 15) := (r5.setCell (by simp; omega) _).mono (by omega)
    have tw6 : Only g w (w5.setCell ⟨w4.heap.size, 1, none⟩ (.int .i64 u)) := tw5.setCell (.inr (by simp; omega)) _
    have lw6 := bw6.lt
    have la6 := ba6.lt
    have lb6 := bb6.lt
    have lr6 := r6.lt
    have ls6 := tw6.size_le
    have m0 : w5.cell? ⟨w3.heap.size, 0, none⟩ = some (.int .i64 a) := (ba5.cell 0).trans (by rfl)
    have mf0 : w5.frozen? ⟨w3.heap.size, 0, none⟩ = false := ba5.free 0
    have m1 : w5.cell? ⟨w3.heap.size, 1, none⟩ = some (.int .i64 b) := (ba5.cell 1).trans (by rfl)
    have mf1 : w5.frozen? ⟨w3.heap.size, 1, none⟩ = false := ba5.free 1
    have m2 : w5.cell? ⟨w3.heap.size, 2, none⟩ = some (.int .i64 c) := (ba5.cell 2).trans (by rfl)
    have mf2 : w5.frozen? ⟨w3.heap.size, 2, none⟩ = false := ba5.free 2
    have n0 : w5.cell? ⟨w4.heap.size, 0, none⟩ = some (.int .i64 p) := (bb5.cell 0).trans (by rfl)
    have nf0 : w5.frozen? ⟨w4.heap.size, 0, none⟩ = false := bb5.free 0
    have n1 : w5.cell? ⟨w4.heap.size, 1, none⟩ = some (.int .i64 q) := (bb5.cell 1).trans (by rfl)
    have nf1 : w5.frozen? ⟨w4.heap.size, 1, none⟩ = false := bb5.free 1
    have n2 : w5.cell? ⟨w4.heap.size, 2, none⟩ = some (.int .i64 r) := (bb5.cell 2).trans (by rfl)
    have nf2 : w5.frozen? ⟨w4.heap.size, 2, none⟩ = false := bb5.free 2
    have e0 : w5.cell? ⟨w.heap.size, 0, none⟩ = some (.int .i64 0) := by have := bw5.cell 0; simpa using this
    have e1 : w5.cell? ⟨w.heap.size, 1, none⟩ = some (.slice none 0 0) := by have := bw5.cell 1; simpa using this
    have f0 : w5.frozen? ⟨w.heap.size, 0, none⟩ = false := bw5.free 0
    have f1 : w5.frozen? ⟨w.heap.size, 1, none⟩ = false := bw5.free 1
    have lz := bw5.lt
    have lzr := r5.lt
    have lzs := tw5.size_le
    go_wp2_with fail
    generalize (w5.setCell ⟨w4.heap.size, 1, none⟩ (.int .i64 u)) = w6 at bw6 ba6 bb6 r6 tw6 lw6 la6 lb6 lr6 ls6 ⊢
    have hS : ∀ w', Box w' w3.heap.size #[.int .i64 a, .int .i64 b, .int .i64 c] 40 → (fun w' => w'.cell? ⟨w3.heap.size, 0, none⟩ = some (.int .i64 a) ∧ w'.cell? ⟨w3.heap.size, 1, none⟩ = some (.int .i64 b) ∧ w'.cell? ⟨w3.heap.size, 2, none⟩ = some (.int .i64 c) ∧ Box w' w3.heap.size #[.int .i64 a, .int .i64 b, .int .i64 c] 40) w' := fun w' h1 => ⟨h1.cell 0, h1.cell 1, h1.cell 2, h1⟩
    have e0 : w6.cell? ⟨w.heap.size, 0, none⟩ = some (.int .i64 0) := by have := bw6.cell 0; simpa using this
    have e1 : w6.cell? ⟨w.heap.size, 1, none⟩ = some (.slice none 0 0) := by have := bw6.cell 1; simpa using this
    have f0 : w6.frozen? ⟨w.heap.size, 0, none⟩ = false := bw6.free 0
    have f1 : w6.frozen? ⟨w.heap.size, 1, none⟩ = false := bw6.free 1
    have lz := bw6.lt
    have lzr := r6.lt
    have lzs := tw6.size_le
    go_region_held3 (fun w' => w'.cell? ⟨w3.heap.size, 0, none⟩ = some (.int .i64 a) ∧ w'.cell? ⟨w3.heap.size, 1, none⟩ = some (.int .i64 b) ∧ w'.cell? ⟨w3.heap.size, 2, none⟩ = some (.int .i64 c) ∧ Box w' w3.heap.size #[.int .i64 a, .int .i64 b, .int .i64 c] 40)
      (first | assumption | exact hS _ ba6 | (refine hS _ ?_; repeat (first | exact ba6 | exact ba9 | refine Box.far ?_ (by simp; omega) _ | refine Box.alloc ?_ _)))
      (first | (go_at_call 84; refine (l2Arg_any _ g (k + 15) 5 (by exact r6) (by omega)).mono ?_; rintro e w9 ⟨a2, b2, c2, rfl, r9, ow9⟩; have bw9 := box_only (by exact bw6 : Box _ w.heap.size #[.int .i64 0, .slice none 0 0] 31) ow9 (by omega); have e90 : w9.cell? ⟨w.heap.size, 0, none⟩ = some (.int .i64 0) := bw9.cell 0; have e91 : w9.cell? ⟨w.heap.size, 1, none⟩ = some (.slice none 0 0) := bw9.cell 1; have f90 : w9.frozen? ⟨w.heap.size, 0, none⟩ = false := bw9.free 0; have f91 : w9.frozen? ⟨w.heap.size, 1, none⟩ = false := bw9.free 1; have lz9 := bw9.lt; obtain ⟨_, _, _, hA⟩ := (by assumption : _ ∧ _ ∧ _ ∧ Box _ w3.heap.size #[.int .i64 a, .int .i64 b, .int .i64 c] 40); have ba9 := box_only hA ow9 (by omega)))
    have tw9 := tw6.drew.trans ow9
    have lr9 := r9.lt
    have ls9 := tw9.size_le
    clear hS
    go_wp2
    have bz := ((bw9.set 0 (.int .i64 24)).set 1 (.slice (some ⟨w9.heap.size, 0, none⟩) 2 2)).alloc (.cells #[.int .i64 a, .int .i64 b, .int .i64 c, .int .i64 a2, .int .i64 b2, .int .i64 c2] 40)
    have d0 := bz.cell 0
    have d1 := bz.cell 1
    replace d0 := d0.trans (show _ = some (.int .i64 24) by rfl)
    replace d1 := d1.trans (show _ = some (.slice (some ⟨w9.heap.size, 0, none⟩) 2 2) by rfl)
    clear bz
    refine bodyPost_ret (v := .agg #[.int .i64 24, .slice (some ⟨w9.heap.size, 0, none⟩) 2 2]) (by simp [results, Tryd.results75, go_sem, d0, d1]) rfl ⟨24, _, 2, 2, [(a, b, c), (a2, b2, c2)], rfl, ⟨rfl, by omega, by omega, by omega, .inr ⟨_, rfl, by omega, lie_lit2 _ _ _ a b c a2 b2 c2 (by simp)⟩⟩, ?_, ?_⟩
    · repeat (first | exact r9.mono (by omega) | refine Rd.setCell ?_ (by simp; try omega) _ | refine Rd.alloc ?_ _)
    · repeat (first | exact tw9 | refine Only.setCell ?_ (by right; simp; try omega) _ | refine Only.alloc ?_ _)
  · have bw6 : Box (w4.alloc (.cells #[.int .i64 p, .int .i64 q, .int .i64 r] 40)) w.heap.size #[.int .i64 0, .slice none 0 0] 31 := bw4.alloc _
    have ba6 : Box (w4.alloc (.cells #[.int .i64 p, .int .i64 q, .int .i64 r] 40)) w3.heap.size #[.int .i64 a, .int .i64 b, .int .i64 c] 40 := ba4.alloc _
    have bb6 : Box (w4.alloc (.cells #[.int .i64 p, .int .i64 q, .int .i64 r] 40)) w4.heap.size #[.int .i64 p, .int .i64 q, .int .i64 r] 40 := bb0
    have r6 : Rd 82 (w4.alloc (.cells #[.int .i64 p, .int .i64 q, .int .i64 r] 40)) g (k + 15) := (r4.alloc _).mono (by omega)
    have tw6 : Only g w (w4.alloc (.cells #[.int .i64 p, .int .i64 q, .int .i64 r] 40)) := tw4.alloc _
    have lw6 := bw6.lt
    have la6 := ba6.lt
    have lb6 := bb6.lt
    have lr6 := r6.lt
    have ls6 := tw6.size_le
    have m0 : (w4.alloc (.cells #[.int .i64 p, .int .i64 q, .int .i64 r] 40)).cell? ⟨w3.heap.size, 0, none⟩ = some (.int .i64 a) := (ba6.cell 0).trans (by rfl)
    have mf0 : (w4.alloc (.cells #[.int .i64 p, .int .i64 q, .int .i64 r] 40)).frozen? ⟨w3.heap.size, 0, none⟩ = false := ba6.free 0
    have m1 : (w4.alloc (.cells #[.int .i64 p, .int .i64 q, .int .i64 r] 40)).cell? ⟨w3.heap.size, 1, none⟩ = some (.int .i64 b) := (ba6.cell 1).trans (by rfl)
    have mf1 : (w4.alloc (.cells #[.int .i64 p, .int .i64 q, .int .i64 r] 40)).frozen? ⟨w3.heap.size, 1, none⟩ = false := ba6.free 1
    have m2 : (w4.alloc (.cells #[.int .i64 p, .int .i64 q, .int .i64 r] 40)).cell? ⟨w3.heap.size, 2, none⟩ = some (.int .i64 c) := (ba6.cell 2).trans (by rfl)
    have mf2 : (w4.alloc (.cells #[.int .i64 p, .int .i64 q, .int .i64 r] 40)).frozen? ⟨w3.heap.size, 2, none⟩ = false := ba6.free 2
    have n0 : (w4.alloc (.cells #[.int .i64 p, .int .i64 q, .int .i64 r] 40)).cell? ⟨w4.heap.size, 0, none⟩ = some (.int .i64 p) := (bb6.cell 0).trans (by rfl)
    have nf0 : (w4.alloc (.cells #[.int .i64 p, .int .i64 q, .int .i64 r] 40)).frozen? ⟨w4.heap.size, 0, none⟩ = false := bb6.free 0
    have n1 : (w4.alloc (.cells #[.int .i64 p, .int .i64 q, .int .i64 r] 40)).cell? ⟨w4.heap.size, 1, none⟩ = some (.int .i64 q) := (bb6.cell 1).trans (by rfl)
    have nf1 : (w4.alloc (.cells #[.int .i64 p, .int .i64 q, .int .i64 r] 40)).frozen? ⟨w4.heap.size, 1, none⟩ = false := bb6.free 1
    have n2 : (w4.alloc (.cells #[.int .i64 p, .int .i64 q, .int .i64 r] 40)).cell? ⟨w4.heap.size, 2, none⟩ = some (.int .i64 r) := (bb6.cell 2).trans (by rfl)
    have nf2 : (w4.alloc (.cells #[.int .i64 p, .int .i64 q, .int .i64 r] 40)).frozen? ⟨w4.heap.size, 2, none⟩ = false := bb6.free 2
    have l0 : w4.cell? ⟨w3.heap.size, 0, none⟩ = some (.int .i64 a) := (ba4.cell 0).trans (by rfl)
    have lf0 : w4.frozen? ⟨w3.heap.size, 0, none⟩ = false := ba4.free 0
    have l1 : w4.cell? ⟨w3.heap.size, 1, none⟩ = some (.int .i64 b) := (ba4.cell 1).trans (by rfl)
    have lf1 : w4.frozen? ⟨w3.heap.size, 1, none⟩ = false := ba4.free 1
    have l2 : w4.cell? ⟨w3.heap.size, 2, none⟩ = some (.int .i64 c) := (ba4.cell 2).trans (by rfl)
    have lf2 : w4.frozen? ⟨w3.heap.size, 2, none⟩ = false := ba4.free 2
    have e0 : w4.cell? ⟨w.heap.size, 0, none⟩ = some (.int .i64 0) := by have := bw4.cell 0; simpa using this
    have e1 : w4.cell? ⟨w.heap.size, 1, none⟩ = some (.slice none 0 0) := by have := bw4.cell 1; simpa using this
    have f0 : w4.frozen? ⟨w.heap.size, 0, none⟩ = false := bw4.free 0
    have f1 : w4.frozen? ⟨w.heap.size, 1, none⟩ = false := bw4.free 1
    have lz := bw4.lt
    have lzr := r4.lt
    have lzs := tw4.size_le
    go_wp2_with fail
    generalize (w4.alloc (.cells #[.int .i64 p, .int .i64 q, .int .i64 r] 40)) = w6 at bw6 ba6 bb6 r6 tw6 lw6 la6 lb6 lr6 ls6 ⊢
    have hS : ∀ w', Box w' w3.heap.size #[.int .i64 a, .int .i64 b, .int .i64 c] 40 → (fun w' => w'.cell? ⟨w3.heap.size, 0, none⟩ = some (.int .i64 a) ∧ w'.cell? ⟨w3.heap.size, 1, none⟩ = some (.int .i64 b) ∧ w'.cell? ⟨w3.heap.size, 2, none⟩ = some (.int .i64 c) ∧ Box w' w3.heap.size #[.int .i64 a, .int .i64 b, .int .i64 c] 40) w' := fun w' h1 => ⟨h1.cell 0, h1.cell 1, h1.cell 2, h1⟩
    have e0 : w6.cell? ⟨w.heap.size, 0, none⟩ = some (.int .i64 0) := by have := bw6.cell 0; simpa using this
    have e1 : w6.cell? ⟨w.heap.size, 1, none⟩ = some (.slice none 0 0) := by have := bw6.cell 1; simpa using this
    have f0 : w6.frozen? ⟨w.heap.size, 0, none⟩ = false := bw6.free 0
    have f1 : w6.frozen? ⟨w.heap.size, 1, none⟩ = false := bw6.free 1
    have lz := bw6.lt
    have lzr := r6.lt
    have lzs := tw6.size_le
    go_region_held3 (fun w' => w'.cell? ⟨w3.heap.size, 0, none⟩ = some (.int .i64 a) ∧ w'.cell? ⟨w3.heap.size, 1, none⟩ = some (.int .i64 b) ∧ w'.cell? ⟨w3.heap.size, 2, none⟩ = some (.int .i64 c) ∧ Box w' w3.heap.size #[.int .i64 a, .int .i64 b, .int .i64 c] 40)
      (first | assumption | exact hS _ ba6 | (refine hS _ ?_; repeat (first | exact ba6 | exact ba9 | refine Box.far ?_ (by simp; omega) _ | refine Box.alloc ?_ _)))
      (first | (go_at_call 84; refine (l2Arg_any _ g (k + 15) 5 (by exact r6) (by omega)).mono ?_; rintro e w9 ⟨a2, b2, c2, rfl, r9, ow9⟩; have bw9 := box_only (by exact bw6 : Box _ w.heap.size #[.int .i64 0, .slice none 0 0] 31) ow9 (by omega); have e90 : w9.cell? ⟨w.heap.size, 0, none⟩ = some (.int .i64 0) := bw9.cell 0; have e91 : w9.cell? ⟨w.heap.size, 1, none⟩ = some (.slice none 0 0) := bw9.cell 1; have f90 : w9.frozen? ⟨w.heap.size, 0, none⟩ = false := bw9.free 0; have f91 : w9.frozen? ⟨w.heap.size, 1, none⟩ = false := bw9.free 1; have lz9 := bw9.lt; obtain ⟨_, _, _, hA⟩ := (by assumption : _ ∧ _ ∧ _ ∧ Box _ w3.heap.size #[.int .i64 a, .int .i64 b, .int .i64 c] 40); have ba9 := box_only hA ow9 (by omega)))
    have tw9 := tw6.drew.trans ow9
    have lr9 := r9.lt
    have ls9 := tw9.size_le
    clear hS
    go_wp2
    have bz := ((bw9.set 0 (.int .i64 24)).set 1 (.slice (some ⟨w9.heap.size, 0, none⟩) 2 2)).alloc (.cells #[.int .i64 a, .int .i64 b, .int .i64 c, .int .i64 a2, .int .i64 b2, .int .i64 c2] 40)
    have d0 := bz.cell 0
    have d1 := bz.cell 1
    replace d0 := d0.trans (show _ = some (.int .i64 24) by rfl)
    replace d1 := d1.trans (show _ = some (.slice (some ⟨w9.heap.size, 0, none⟩) 2 2) by rfl)
    clear bz
    refine bodyPost_ret (v := .agg #[.int .i64 24, .slice (some ⟨w9.heap.size, 0, none⟩) 2 2]) (by simp [results, Tryd.results75, go_sem, d0, d1]) rfl ⟨24, _, 2, 2, [(a, b, c), (a2, b2, c2)], rfl, ⟨rfl, by omega, by omega, by omega, .inr ⟨_, rfl, by omega, lie_lit2 _ _ _ a b c a2 b2 c2 (by simp)⟩⟩, ?_, ?_⟩
    · repeat (first | exact r9.mono (by omega) | refine Rd.setCell ?_ (by simp; try omega) _ | refine Rd.alloc ?_ _)
    · repeat (first | exact tw9 | refine Only.setCell ?_ (by right; simp; try omega) _ | refine Only.alloc ?_ _)
set_option maxRecDepth 100000 in
set_option maxHeartbeats 2000000 in
theorem l4Coil_26 (w : World) (g k : Nat) (h : Rd 82 w g k) (hk : k ≤ 80000) (hn : Calls Tryd.prog 77 #[.pointer (some ⟨g, 0, none⟩), .slice (some ⟨w.heap.size + 1, 0, none⟩) 22 22] ((w.alloc (.cells #[.int .i64 0, .slice none 0 0] 31)).alloc (.cells (([21, 21, 21, 22, 23, 24, 25, 26, 26, 27, 28, 29, 29, 30, 31, 31, 32, 33, 34, 35, 36, 37] : List Int).map (Value.int .i64)).toArray 3)) fun e w1 => e = .returned (.int .i64 26) ∧ Rd 82 w1 g (k + 1) ∧ Only g ((w.alloc (.cells #[.int .i64 0, .slice none 0 0] 31)).alloc (.cells (([21, 21, 21, 22, 23, 24, 25, 26, 26, 27, 28, 29, 29, 30, 31, 31, 32, 33, 34, 35, 36, 37] : List Int).map (Value.int .i64)).toArray 3)) w1) : Calls Tryd.prog 75 #[.pointer (some ⟨g, 0, none⟩)] w (DrewE 40 w g k) := by
  have hlt := h.lt
  have b0 := (Box.new w #[.int .i64 0, .slice none 0 0] 31).alloc (.cells (([21, 21, 21, 22, 23, 24, 25, 26, 26, 27, 28, 29, 29, 30, 31, 31, 32, 33, 34, 35, 36, 37] : List Int).map (Value.int .i64)).toArray 3)
  have o0 : Only g w ((w.alloc (.cells #[.int .i64 0, .slice none 0 0] 31)).alloc (.cells (([21, 21, 21, 22, 23, 24, 25, 26, 26, 27, 28, 29, 29, 30, 31, 31, 32, 33, 34, 35, 36, 37] : List Int).map (Value.int .i64)).toArray 3)) := ((Only.refl g w).alloc _).alloc _
  have HB := Lib.hid (And.intro b0 o0)
  clear b0 o0 h
  go_enter Tryd.func75, Tryd.ntmps75
  go_wp2_with fail
  refine hn.mono ?_
  rintro e w1 ⟨rfl, r1, ow1⟩
  have bw1 := box_only HB.out.1 ow1 (by omega)
  have tw1 := HB.out.2.trans ow1
  clear ow1 hn HB
  go_wp2_with fail
  refine (pick_any w1 g (k + 1) 2 r1 (by omega)).mono ?_
  rintro e w2 ⟨y, rfl, hy0, hy1, _, r2, ow2⟩
  have bw2 := box_only (bw1) ow2 (by omega)
  have tw2 := (tw1).trans ow2
  have lr2 := r2.lt
  have ls2 := tw2.size_le
  have lbw2 := bw2.lt
  clear ow2
  clear bw1 r1 tw1
  have hy2 := hy1 (by omega)
  clear hy1
  go_wp2_with fail
  refine (l2Arg_any w2 g (k + 1 + 1) (2 + y) r2 (by omega)).mono ?_
  rintro e w3 ⟨a, b, c, rfl, r3, ow3⟩
  have bw3 := box_only (bw2) ow3 (by omega)
  have tw3 := (tw2).trans ow3
  have lr3 := r3.lt
  have ls3 := tw3.size_le
  have lbw3 := bw3.lt
  clear ow3
  clear bw2 r2 tw2
  have ba0 := Box.new w3 #[.int .i64 a, .int .i64 b, .int .i64 c] 40
  go_wp2_with fail
  refine (l2Arg_any (w3.alloc (.cells #[.int .i64 a, .int .i64 b, .int .i64 c] 40)) g (k + 1 + 1 + 4) 11 (r3.alloc _) (by omega)).mono ?_
  rintro e w4 ⟨p, q, r, rfl, r4, ow4⟩
  have bw4 := box_only (bw3.alloc _) ow4 (by omega)
  have ba4 := box_only (ba0) ow4 (by omega)
  have tw4 := (tw3.alloc _).trans ow4
  have lr4 := r4.lt
  have ls4 := tw4.size_le
  have lbw4 := bw4.lt
  have lba4 := ba4.lt
  clear ow4
  clear bw3 r3 tw3 ba0
  have bb0 := Box.new w4 #[.int .i64 p, .int .i64 q, .int .i64 r] 40
  by_cases hq : q < 0
  · have tw40 := tw4.alloc (.cells #[.int .i64 p, .int .i64 q, .int .i64 r] 40)
    have ba40 : Box (w4.alloc (.cells #[.int .i64 p, .int .i64 q, .int .i64 r] 40)) w3.heap.size #[.int .i64 a, .int .i64 b, .int .i64 c] 40 := ba4.alloc _
    have m0 : (w4.alloc (.cells #[.int .i64 p, .int .i64 q, .int .i64 r] 40)).cell? ⟨w3.heap.size, 0, none⟩ = some (.int .i64 a) := (ba40.cell 0).trans (by rfl)
    have mf0 : (w4.alloc (.cells #[.int .i64 p, .int .i64 q, .int .i64 r] 40)).frozen? ⟨w3.heap.size, 0, none⟩ = false := ba40.free 0
    have m1 : (w4.alloc (.cells #[.int .i64 p, .int .i64 q, .int .i64 r] 40)).cell? ⟨w3.heap.size, 1, none⟩ = some (.int .i64 b) := (ba40.cell 1).trans (by rfl)
    have mf1 : (w4.alloc (.cells #[.int .i64 p, .int .i64 q, .int .i64 r] 40)).frozen? ⟨w3.heap.size, 1, none⟩ = false := ba40.free 1
    have m2 : (w4.alloc (.cells #[.int .i64 p, .int .i64 q, .int .i64 r] 40)).cell? ⟨w3.heap.size, 2, none⟩ = some (.int .i64 c) := (ba40.cell 2).trans (by rfl)
    have mf2 : (w4.alloc (.cells #[.int .i64 p, .int .i64 q, .int .i64 r] 40)).frozen? ⟨w3.heap.size, 2, none⟩ = false := ba40.free 2
    have n0 : (w4.alloc (.cells #[.int .i64 p, .int .i64 q, .int .i64 r] 40)).cell? ⟨w4.heap.size, 0, none⟩ = some (.int .i64 p) := (bb0.cell 0).trans (by rfl)
    have nf0 : (w4.alloc (.cells #[.int .i64 p, .int .i64 q, .int .i64 r] 40)).frozen? ⟨w4.heap.size, 0, none⟩ = false := bb0.free 0
    have n1 : (w4.alloc (.cells #[.int .i64 p, .int .i64 q, .int .i64 r] 40)).cell? ⟨w4.heap.size, 1, none⟩ = some (.int .i64 q) := (bb0.cell 1).trans (by rfl)
    have nf1 : (w4.alloc (.cells #[.int .i64 p, .int .i64 q, .int .i64 r] 40)).frozen? ⟨w4.heap.size, 1, none⟩ = false := bb0.free 1
    have n2 : (w4.alloc (.cells #[.int .i64 p, .int .i64 q, .int .i64 r] 40)).cell? ⟨w4.heap.size, 2, none⟩ = some (.int .i64 r) := (bb0.cell 2).trans (by rfl)
    have nf2 : (w4.alloc (.cells #[.int .i64 p, .int .i64 q, .int .i64 r] 40)).frozen? ⟨w4.heap.size, 2, none⟩ = false := bb0.free 2
    go_wp2_with fail
    refine (pick_any (w4.alloc (.cells #[.int .i64 p, .int .i64 q, .int .i64 r] 40)) g (k + 1 + 1 + 4 + 4) 9 (r4.alloc _) (by omega)).mono ?_
    rintro e w5 ⟨u, rfl, hu0, hu1, _, r5, ow5⟩
    have bw5 := box_only (bw4.alloc _) ow5 (by omega)
    have ba5 := box_only (ba4.alloc _) ow5 (by omega)
    have bb5 := box_only (bb0) ow5 (by omega)
    have tw5 := (tw4.alloc _).trans ow5
    have lr5 := r5.lt
    have ls5 := tw5.size_le
    have lbw5 := bw5.lt
    have lba5 := ba5.lt
    have lbb5 := bb5.lt
    clear ow5
    clear m0 mf0 m1 mf1 m2 mf2 n0 nf0 n1 nf1 n2 nf2 bw4 r4 tw4 ba4 ba40 bb0 tw40 hu1 hq
    have bw6 : Box (w5.setCell ⟨w4.heap.size, 1, none⟩ (.int .i64 u)) w.heap.size #[.int .i64 0, .slice none 0 0] 31 := bw5.far (p := ⟨w4.heap.size, 1, none⟩) (by simp; omega) _
    have ba6 : Box (w5.setCell ⟨w4.heap.size, 1, none⟩ (.int .i64 u)) w3.heap.size #[.int .i64 a, .int .i64 b, .int .i64 c] 40 := ba5.far (p := ⟨w4.heap.size, 1, none⟩) (by simp; omega) _
    have bb6 : Box (w5.setCell ⟨w4.heap.size, 1, none⟩ (.int .i64 u)) w4.heap.size #[.int .i64 p, .int .i64 u, .int .i64 r] 40 := bb5.set 1 (.int .i64 u)
    have r6 : Rd 82 (w5.setCell ⟨w4.heap.size, 1, none⟩ (.int .i64 u)) g (k + 15) := (r5.setCell (by simp; omega) _).mono (by omega)
    have tw6 : Only g w (w5.setCell ⟨w4.heap.size, 1, none⟩ (.int .i64 u)) := tw5.setCell (.inr (by simp; omega)) _
    have lw6 := bw6.lt
    have la6 := ba6.lt
    have lb6 := bb6.lt
    have lr6 := r6.lt
    have ls6 := tw6.size_le
    have m0 : w5.cell? ⟨w3.heap.size, 0, none⟩ = some (.int .i64 a) := (ba5.cell 0).trans (by rfl)
    have mf0 : w5.frozen? ⟨w3.heap.size, 0, none⟩ = false := ba5.free 0
    have m1 : w5.cell? ⟨w3.heap.size, 1, none⟩ = some (.int .i64 b) := (ba5.cell 1).trans (by rfl)
    have mf1 : w5.frozen? ⟨w3.heap.size, 1, none⟩ = false := ba5.free 1
    have m2 : w5.cell? ⟨w3.heap.size, 2, none⟩ = some (.int .i64 c) := (ba5.cell 2).trans (by rfl)
    have mf2 : w5.frozen? ⟨w3.heap.size, 2, none⟩ = false := ba5.free 2
    have n0 : w5.cell? ⟨w4.heap.size, 0, none⟩ = some (.int .i64 p) := (bb5.cell 0).trans (by rfl)
    have nf0 : w5.frozen? ⟨w4.heap.size, 0, none⟩ = false := bb5.free 0
    have n1 : w5.cell? ⟨w4.heap.size, 1, none⟩ = some (.int .i64 q) := (bb5.cell 1).trans (by rfl)
    have nf1 : w5.frozen? ⟨w4.heap.size, 1, none⟩ = false := bb5.free 1
    have n2 : w5.cell? ⟨w4.heap.size, 2, none⟩ = some (.int .i64 r) := (bb5.cell 2).trans (by rfl)
    have nf2 : w5.frozen? ⟨w4.heap.size, 2, none⟩ = false := bb5.free 2
    have e0 : w5.cell? ⟨w.heap.size, 0, none⟩ = some (.int .i64 0) := by have := bw5.cell 0; simpa using this
    have e1 : w5.cell? ⟨w.heap.size, 1, none⟩ = some (.slice none 0 0) := by have := bw5.cell 1; simpa using this
    have f0 : w5.frozen? ⟨w.heap.size, 0, none⟩ = false := bw5.free 0
    have f1 : w5.frozen? ⟨w.heap.size, 1, none⟩ = false := bw5.free 1
    have lz := bw5.lt
    have lzr := r5.lt
    have lzs := tw5.size_le
    go_wp2_with fail
    generalize (w5.setCell ⟨w4.heap.size, 1, none⟩ (.int .i64 u)) = w6 at bw6 ba6 bb6 r6 tw6 lw6 la6 lb6 lr6 ls6 ⊢
    have hS : ∀ w', Box w' w4.heap.size #[.int .i64 p, .int .i64 u, .int .i64 r] 40 → (fun w' => w'.cell? ⟨w4.heap.size, 0, none⟩ = some (.int .i64 p) ∧ w'.cell? ⟨w4.heap.size, 1, none⟩ = some (.int .i64 u) ∧ w'.cell? ⟨w4.heap.size, 2, none⟩ = some (.int .i64 r) ∧ Box w' w4.heap.size #[.int .i64 p, .int .i64 u, .int .i64 r] 40) w' := fun w' h1 => ⟨h1.cell 0, h1.cell 1, h1.cell 2, h1⟩
    have e0 : w6.cell? ⟨w.heap.size, 0, none⟩ = some (.int .i64 0) := by have := bw6.cell 0; simpa using this
    have e1 : w6.cell? ⟨w.heap.size, 1, none⟩ = some (.slice none 0 0) := by have := bw6.cell 1; simpa using this
    have f0 : w6.frozen? ⟨w.heap.size, 0, none⟩ = false := bw6.free 0
    have f1 : w6.frozen? ⟨w.heap.size, 1, none⟩ = false := bw6.free 1
    have lz := bw6.lt
    have lzr := r6.lt
    have lzs := tw6.size_le
    go_region_held3 (fun w' => w'.cell? ⟨w4.heap.size, 0, none⟩ = some (.int .i64 p) ∧ w'.cell? ⟨w4.heap.size, 1, none⟩ = some (.int .i64 u) ∧ w'.cell? ⟨w4.heap.size, 2, none⟩ = some (.int .i64 r) ∧ Box w' w4.heap.size #[.int .i64 p, .int .i64 u, .int .i64 r] 40)
      (first | assumption | exact hS _ bb6 | (refine hS _ ?_; repeat (first | exact bb6 | exact bb9 | refine Box.far ?_ (by simp; omega) _ | refine Box.alloc ?_ _)))
      (first | (go_at_call 84; refine (l2Arg_any _ g (k + 15) 7 (by exact r6) (by omega)).mono ?_; rintro e w9 ⟨a2, b2, c2, rfl, r9, ow9⟩; have bw9 := box_only (by exact bw6 : Box _ w.heap.size #[.int .i64 0, .slice none 0 0] 31) ow9 (by omega); have e90 : w9.cell? ⟨w.heap.size, 0, none⟩ = some (.int .i64 0) := bw9.cell 0; have e91 : w9.cell? ⟨w.heap.size, 1, none⟩ = some (.slice none 0 0) := bw9.cell 1; have f90 : w9.frozen? ⟨w.heap.size, 0, none⟩ = false := bw9.free 0; have f91 : w9.frozen? ⟨w.heap.size, 1, none⟩ = false := bw9.free 1; have lz9 := bw9.lt; obtain ⟨_, _, _, hA⟩ := (by assumption : _ ∧ _ ∧ _ ∧ Box _ w4.heap.size #[.int .i64 p, .int .i64 u, .int .i64 r] 40); have bb9 := box_only hA ow9 (by omega)))
    have tw9 := tw6.drew.trans ow9
    have lr9 := r9.lt
    have ls9 := tw9.size_le
    clear hS
    go_wp2
    have bz := ((bw9.set 0 (.int .i64 26)).set 1 (.slice (some ⟨w9.heap.size, 0, none⟩) 2 2)).alloc (.cells #[.int .i64 a2, .int .i64 b2, .int .i64 c2, .int .i64 p, .int .i64 u, .int .i64 r] 40)
    have d0 := bz.cell 0
    have d1 := bz.cell 1
    replace d0 := d0.trans (show _ = some (.int .i64 26) by rfl)
    replace d1 := d1.trans (show _ = some (.slice (some ⟨w9.heap.size, 0, none⟩) 2 2) by rfl)
    clear bz
    refine bodyPost_ret (v := .agg #[.int .i64 26, .slice (some ⟨w9.heap.size, 0, none⟩) 2 2]) (by simp [results, Tryd.results75, go_sem, d0, d1]) rfl ⟨26, _, 2, 2, [(a2, b2, c2), (p, u, r)], rfl, ⟨rfl, by omega, by omega, by omega, .inr ⟨_, rfl, by omega, lie_lit2 _ _ _ a2 b2 c2 p u r (by simp)⟩⟩, ?_, ?_⟩
    · repeat (first | exact r9.mono (by omega) | refine Rd.setCell ?_ (by simp; try omega) _ | refine Rd.alloc ?_ _)
    · repeat (first | exact tw9 | refine Only.setCell ?_ (by right; simp; try omega) _ | refine Only.alloc ?_ _)
  · have bw6 : Box (w4.alloc (.cells #[.int .i64 p, .int .i64 q, .int .i64 r] 40)) w.heap.size #[.int .i64 0, .slice none 0 0] 31 := bw4.alloc _
    have ba6 : Box (w4.alloc (.cells #[.int .i64 p, .int .i64 q, .int .i64 r] 40)) w3.heap.size #[.int .i64 a, .int .i64 b, .int .i64 c] 40 := ba4.alloc _
    have bb6 : Box (w4.alloc (.cells #[.int .i64 p, .int .i64 q, .int .i64 r] 40)) w4.heap.size #[.int .i64 p, .int .i64 q, .int .i64 r] 40 := bb0
    have r6 : Rd 82 (w4.alloc (.cells #[.int .i64 p, .int .i64 q, .int .i64 r] 40)) g (k + 15) := (r4.alloc _).mono (by omega)
    have tw6 : Only g w (w4.alloc (.cells #[.int .i64 p, .int .i64 q, .int .i64 r] 40)) := tw4.alloc _
    have lw6 := bw6.lt
    have la6 := ba6.lt
    have lb6 := bb6.lt
    have lr6 := r6.lt
    have ls6 := tw6.size_le
    have m0 : (w4.alloc (.cells #[.int .i64 p, .int .i64 q, .int .i64 r] 40)).cell? ⟨w3.heap.size, 0, none⟩ = some (.int .i64 a) := (ba6.cell 0).trans (by rfl)
    have mf0 : (w4.alloc (.cells #[.int .i64 p, .int .i64 q, .int .i64 r] 40)).frozen? ⟨w3.heap.size, 0, none⟩ = false := ba6.free 0
    have m1 : (w4.alloc (.cells #[.int .i64 p, .int .i64 q, .int .i64 r] 40)).cell? ⟨w3.heap.size, 1, none⟩ = some (.int .i64 b) := (ba6.cell 1).trans (by rfl)
    have mf1 : (w4.alloc (.cells #[.int .i64 p, .int .i64 q, .int .i64 r] 40)).frozen? ⟨w3.heap.size, 1, none⟩ = false := ba6.free 1
    have m2 : (w4.alloc (.cells #[.int .i64 p, .int .i64 q, .int .i64 r] 40)).cell? ⟨w3.heap.size, 2, none⟩ = some (.int .i64 c) := (ba6.cell 2).trans (by rfl)
    have mf2 : (w4.alloc (.cells #[.int .i64 p, .int .i64 q, .int .i64 r] 40)).frozen? ⟨w3.heap.size, 2, none⟩ = false := ba6.free 2
    have n0 : (w4.alloc (.cells #[.int .i64 p, .int .i64 q, .int .i64 r] 40)).cell? ⟨w4.heap.size, 0, none⟩ = some (.int .i64 p) := (bb6.cell 0).trans (by rfl)
    have nf0 : (w4.alloc (.cells #[.int .i64 p, .int .i64 q, .int .i64 r] 40)).frozen? ⟨w4.heap.size, 0, none⟩ = false := bb6.free 0
    have n1 : (w4.alloc (.cells #[.int .i64 p, .int .i64 q, .int .i64 r] 40)).cell? ⟨w4.heap.size, 1, none⟩ = some (.int .i64 q) := (bb6.cell 1).trans (by rfl)
    have nf1 : (w4.alloc (.cells #[.int .i64 p, .int .i64 q, .int .i64 r] 40)).frozen? ⟨w4.heap.size, 1, none⟩ = false := bb6.free 1
    have n2 : (w4.alloc (.cells #[.int .i64 p, .int .i64 q, .int .i64 r] 40)).cell? ⟨w4.heap.size, 2, none⟩ = some (.int .i64 r) := (bb6.cell 2).trans (by rfl)
    have nf2 : (w4.alloc (.cells #[.int .i64 p, .int .i64 q, .int .i64 r] 40)).frozen? ⟨w4.heap.size, 2, none⟩ = false := bb6.free 2
    have l0 : w4.cell? ⟨w3.heap.size, 0, none⟩ = some (.int .i64 a) := (ba4.cell 0).trans (by rfl)
    have lf0 : w4.frozen? ⟨w3.heap.size, 0, none⟩ = false := ba4.free 0
    have l1 : w4.cell? ⟨w3.heap.size, 1, none⟩ = some (.int .i64 b) := (ba4.cell 1).trans (by rfl)
    have lf1 : w4.frozen? ⟨w3.heap.size, 1, none⟩ = false := ba4.free 1
    have l2 : w4.cell? ⟨w3.heap.size, 2, none⟩ = some (.int .i64 c) := (ba4.cell 2).trans (by rfl)
    have lf2 : w4.frozen? ⟨w3.heap.size, 2, none⟩ = false := ba4.free 2
    have e0 : w4.cell? ⟨w.heap.size, 0, none⟩ = some (.int .i64 0) := by have := bw4.cell 0; simpa using this
    have e1 : w4.cell? ⟨w.heap.size, 1, none⟩ = some (.slice none 0 0) := by have := bw4.cell 1; simpa using this
    have f0 : w4.frozen? ⟨w.heap.size, 0, none⟩ = false := bw4.free 0
    have f1 : w4.frozen? ⟨w.heap.size, 1, none⟩ = false := bw4.free 1
    have lz := bw4.lt
    have lzr := r4.lt
    have lzs := tw4.size_le
    go_wp2_with fail
    generalize (w4.alloc (.cells #[.int .i64 p, .int .i64 q, .int .i64 r] 40)) = w6 at bw6 ba6 bb6 r6 tw6 lw6 la6 lb6 lr6 ls6 ⊢
    have hS : ∀ w', Box w' w4.heap.size #[.int .i64 p, .int .i64 q, .int .i64 r] 40 → (fun w' => w'.cell? ⟨w4.heap.size, 0, none⟩ = some (.int .i64 p) ∧ w'.cell? ⟨w4.heap.size, 1, none⟩ = some (.int .i64 q) ∧ w'.cell? ⟨w4.heap.size, 2, none⟩ = some (.int .i64 r) ∧ Box w' w4.heap.size #[.int .i64 p, .int .i64 q, .int .i64 r] 40) w' := fun w' h1 => ⟨h1.cell 0, h1.cell 1, h1.cell 2, h1⟩
    have e0 : w6.cell? ⟨w.heap.size, 0, none⟩ = some (.int .i64 0) := by have := bw6.cell 0; simpa using this
    have e1 : w6.cell? ⟨w.heap.size, 1, none⟩ = some (.slice none 0 0) := by have := bw6.cell 1; simpa using this
    have f0 : w6.frozen? ⟨w.heap.size, 0, none⟩ = false := bw6.free 0
    have f1 : w6.frozen? ⟨w.heap.size, 1, none⟩ = false := bw6.free 1
    have lz := bw6.lt
    have lzr := r6.lt
    have lzs := tw6.size_le
    go_region_held3 (fun w' => w'.cell? ⟨w4.heap.size, 0, none⟩ = some (.int .i64 p) ∧ w'.cell? ⟨w4.heap.size, 1, none⟩ = some (.int .i64 q) ∧ w'.cell? ⟨w4.heap.size, 2, none⟩ = some (.int .i64 r) ∧ Box w' w4.heap.size #[.int .i64 p, .int .i64 q, .int .i64 r] 40)
      (first | assumption | exact hS _ bb6 | (refine hS _ ?_; repeat (first | exact bb6 | exact bb9 | refine Box.far ?_ (by simp; omega) _ | refine Box.alloc ?_ _)))
      (first | (go_at_call 84; refine (l2Arg_any _ g (k + 15) 7 (by exact r6) (by omega)).mono ?_; rintro e w9 ⟨a2, b2, c2, rfl, r9, ow9⟩; have bw9 := box_only (by exact bw6 : Box _ w.heap.size #[.int .i64 0, .slice none 0 0] 31) ow9 (by omega); have e90 : w9.cell? ⟨w.heap.size, 0, none⟩ = some (.int .i64 0) := bw9.cell 0; have e91 : w9.cell? ⟨w.heap.size, 1, none⟩ = some (.slice none 0 0) := bw9.cell 1; have f90 : w9.frozen? ⟨w.heap.size, 0, none⟩ = false := bw9.free 0; have f91 : w9.frozen? ⟨w.heap.size, 1, none⟩ = false := bw9.free 1; have lz9 := bw9.lt; obtain ⟨_, _, _, hA⟩ := (by assumption : _ ∧ _ ∧ _ ∧ Box _ w4.heap.size #[.int .i64 p, .int .i64 q, .int .i64 r] 40); have bb9 := box_only hA ow9 (by omega)))
    have tw9 := tw6.drew.trans ow9
    have lr9 := r9.lt
    have ls9 := tw9.size_le
    clear hS
    go_wp2
    have bz := ((bw9.set 0 (.int .i64 26)).set 1 (.slice (some ⟨w9.heap.size, 0, none⟩) 2 2)).alloc (.cells #[.int .i64 a2, .int .i64 b2, .int .i64 c2, .int .i64 p, .int .i64 q, .int .i64 r] 40)
    have d0 := bz.cell 0
    have d1 := bz.cell 1
    replace d0 := d0.trans (show _ = some (.int .i64 26) by rfl)
    replace d1 := d1.trans (show _ = some (.slice (some ⟨w9.heap.size, 0, none⟩) 2 2) by rfl)
    clear bz
    refine bodyPost_ret (v := .agg #[.int .i64 26, .slice (some ⟨w9.heap.size, 0, none⟩) 2 2]) (by simp [results, Tryd.results75, go_sem, d0, d1]) rfl ⟨26, _, 2, 2, [(a2, b2, c2), (p, q, r)], rfl, ⟨rfl, by omega, by omega, by omega, .inr ⟨_, rfl, by omega, lie_lit2 _ _ _ a2 b2 c2 p q r (by simp)⟩⟩, ?_, ?_⟩
    · repeat (first | exact r9.mono (by omega) | refine Rd.setCell ?_ (by simp; try omega) _ | refine Rd.alloc ?_ _)
    · repeat (first | exact tw9 | refine Only.setCell ?_ (by right; simp; try omega) _ | refine Only.alloc ?_ _)
set_option maxRecDepth 100000 in
set_option maxHeartbeats 2000000 in
theorem l4Coil_27 (w : World) (g k : Nat) (h : Rd 82 w g k) (hk : k ≤ 80000) (hn : Calls Tryd.prog 77 #[.pointer (some ⟨g, 0, none⟩), .slice (some ⟨w.heap.size + 1, 0, none⟩) 22 22] ((w.alloc (.cells #[.int .i64 0, .slice none 0 0] 31)).alloc (.cells (([21, 21, 21, 22, 23, 24, 25, 26, 26, 27, 28, 29, 29, 30, 31, 31, 32, 33, 34, 35, 36, 37] : List Int).map (Value.int .i64)).toArray 3)) fun e w1 => e = .returned (.int .i64 27) ∧ Rd 82 w1 g (k + 1) ∧ Only g ((w.alloc (.cells #[.int .i64 0, .slice none 0 0] 31)).alloc (.cells (([21, 21, 21, 22, 23, 24, 25, 26, 26, 27, 28, 29, 29, 30, 31, 31, 32, 33, 34, 35, 36, 37] : List Int).map (Value.int .i64)).toArray 3)) w1) : Calls Tryd.prog 75 #[.pointer (some ⟨g, 0, none⟩)] w (DrewE 40 w g k) := by
  have hlt := h.lt
  have b0 := (Box.new w #[.int .i64 0, .slice none 0 0] 31).alloc (.cells (([21, 21, 21, 22, 23, 24, 25, 26, 26, 27, 28, 29, 29, 30, 31, 31, 32, 33, 34, 35, 36, 37] : List Int).map (Value.int .i64)).toArray 3)
  have o0 : Only g w ((w.alloc (.cells #[.int .i64 0, .slice none 0 0] 31)).alloc (.cells (([21, 21, 21, 22, 23, 24, 25, 26, 26, 27, 28, 29, 29, 30, 31, 31, 32, 33, 34, 35, 36, 37] : List Int).map (Value.int .i64)).toArray 3)) := ((Only.refl g w).alloc _).alloc _
  have HB := Lib.hid (And.intro b0 o0)
  clear b0 o0 h
  go_enter Tryd.func75, Tryd.ntmps75
  go_wp2_with fail
  refine hn.mono ?_
  rintro e w1 ⟨rfl, r1, ow1⟩
  have bw1 := box_only HB.out.1 ow1 (by omega)
  have tw1 := HB.out.2.trans ow1
  clear ow1 hn HB
  go_wp2_with fail
  refine (pick_any w1 g (k + 1) 2 r1 (by omega)).mono ?_
  rintro e w2 ⟨y, rfl, hy0, hy1, _, r2, ow2⟩
  have bw2 := box_only (bw1) ow2 (by omega)
  have tw2 := (tw1).trans ow2
  have lr2 := r2.lt
  have ls2 := tw2.size_le
  have lbw2 := bw2.lt
  clear ow2
  clear bw1 r1 tw1
  have hy2 := hy1 (by omega)
  clear hy1
  go_wp2_with fail
  refine (l2Arg_any w2 g (k + 1 + 1) (2 + y) r2 (by omega)).mono ?_
  rintro e w3 ⟨a, b, c, rfl, r3, ow3⟩
  have bw3 := box_only (bw2) ow3 (by omega)
  have tw3 := (tw2).trans ow3
  have lr3 := r3.lt
  have ls3 := tw3.size_le
  have lbw3 := bw3.lt
  clear ow3
  clear bw2 r2 tw2
  have ba0 := Box.new w3 #[.int .i64 a, .int .i64 b, .int .i64 c] 40
  go_wp2_with fail
  refine (l2Arg_any (w3.alloc (.cells #[.int .i64 a, .int .i64 b, .int .i64 c] 40)) g (k + 1 + 1 + 4) 11 (r3.alloc _) (by omega)).mono ?_
  rintro e w4 ⟨p, q, r, rfl, r4, ow4⟩
  have bw4 := box_only (bw3.alloc _) ow4 (by omega)
  have ba4 := box_only (ba0) ow4 (by omega)
  have tw4 := (tw3.alloc _).trans ow4
  have lr4 := r4.lt
  have ls4 := tw4.size_le
  have lbw4 := bw4.lt
  have lba4 := ba4.lt
  clear ow4
  clear bw3 r3 tw3 ba0
  have bb0 := Box.new w4 #[.int .i64 p, .int .i64 q, .int .i64 r] 40
  by_cases hq : q < 0
  · have tw40 := tw4.alloc (.cells #[.int .i64 p, .int .i64 q, .int .i64 r] 40)
    have ba40 : Box (w4.alloc (.cells #[.int .i64 p, .int .i64 q, .int .i64 r] 40)) w3.heap.size #[.int .i64 a, .int .i64 b, .int .i64 c] 40 := ba4.alloc _
    have m0 : (w4.alloc (.cells #[.int .i64 p, .int .i64 q, .int .i64 r] 40)).cell? ⟨w3.heap.size, 0, none⟩ = some (.int .i64 a) := (ba40.cell 0).trans (by rfl)
    have mf0 : (w4.alloc (.cells #[.int .i64 p, .int .i64 q, .int .i64 r] 40)).frozen? ⟨w3.heap.size, 0, none⟩ = false := ba40.free 0
    have m1 : (w4.alloc (.cells #[.int .i64 p, .int .i64 q, .int .i64 r] 40)).cell? ⟨w3.heap.size, 1, none⟩ = some (.int .i64 b) := (ba40.cell 1).trans (by rfl)
    have mf1 : (w4.alloc (.cells #[.int .i64 p, .int .i64 q, .int .i64 r] 40)).frozen? ⟨w3.heap.size, 1, none⟩ = false := ba40.free 1
    have m2 : (w4.alloc (.cells #[.int .i64 p, .int .i64 q, .int .i64 r] 40)).cell? ⟨w3.heap.size, 2, none⟩ = some (.int .i64 c) := (ba40.cell 2).trans (by rfl)
    have mf2 : (w4.alloc (.cells #[.int .i64 p, .int .i64 q, .int .i64 r] 40)).frozen? ⟨w3.heap.size, 2, none⟩ = false := ba40.free 2
    have n0 : (w4.alloc (.cells #[.int .i64 p, .int .i64 q, .int .i64 r] 40)).cell? ⟨w4.heap.size, 0, none⟩ = some (.int .i64 p) := (bb0.cell 0).trans (by rfl)
    have nf0 : (w4.alloc (.cells #[.int .i64 p, .int .i64 q, .int .i64 r] 40)).frozen? ⟨w4.heap.size, 0, none⟩ = false := bb0.free 0
    have n1 : (w4.alloc (.cells #[.int .i64 p, .int .i64 q, .int .i64 r] 40)).cell? ⟨w4.heap.size, 1, none⟩ = some (.int .i64 q) := (bb0.cell 1).trans (by rfl)
    have nf1 : (w4.alloc (.cells #[.int .i64 p, .int .i64 q, .int .i64 r] 40)).frozen? ⟨w4.heap.size, 1, none⟩ = false := bb0.free 1
    have n2 : (w4.alloc (.cells #[.int .i64 p, .int .i64 q, .int .i64 r] 40)).cell? ⟨w4.heap.size, 2, none⟩ = some (.int .i64 r) := (bb0.cell 2).trans (by rfl)
    have nf2 : (w4.alloc (.cells #[.int .i64 p, .int .i64 q, .int .i64 r] 40)).frozen? ⟨w4.heap.size, 2, none⟩ = false := bb0.free 2
    go_wp2_with fail
    refine (pick_any (w4.alloc (.cells #[.int .i64 p, .int .i64 q, .int .i64 r] 40)) g (k + 1 + 1 + 4 + 4) 9 (r4.alloc _) (by omega)).mono ?_
    rintro e w5 ⟨u, rfl, hu0, hu1, _, r5, ow5⟩
    have bw5 := box_only (bw4.alloc _) ow5 (by omega)
    have ba5 := box_only (ba4.alloc _) ow5 (by omega)
    have bb5 := box_only (bb0) ow5 (by omega)
    have tw5 := (tw4.alloc _).trans ow5
    have lr5 := r5.lt
    have ls5 := tw5.size_le
    have lbw5 := bw5.lt
    have lba5 := ba5.lt
    have lbb5 := bb5.lt
    clear ow5
    clear m0 mf0 m1 mf1 m2 mf2 n0 nf0 n1 nf1 n2 nf2 bw4 r4 tw4 ba4 ba40 bb0 tw40 hu1 hq
    have bw6 : Box (w5.setCell ⟨w4.heap.size, 1, none⟩ (.int .i64 u)) w.heap.size #[.int .i64 0, .slice none 0 0] 31 := bw5.far (p := ⟨w4.heap.size, 1, none⟩) (by simp; omega) _
    have ba6 : Box (w5.setCell ⟨w4.heap.size, 1, none⟩ (.int .i64 u)) w3.heap.size #[.int .i64 a, .int .i64 b, .int .i64 c] 40 := ba5.far (p := ⟨w4.heap.size, 1, none⟩) (by simp; omega) _
    have bb6 : Box (w5.setCell ⟨w4.heap.size, 1, none⟩ (.int .i64 u)) w4.heap.size #[.int .i64 p, .int .i64 u, .int .i64 r] 40 := bb5.set 1 (.int .i64 u)
    have r6 : Rd 82 (w5.setCell ⟨w4.heap.size, 1, none⟩ (.int .i64 u)) g (k + 15) := (r5.setCell (by simp; omega) _).mono (by omega)
    have tw6 : Only g w (w5.setCell ⟨w4.heap.size, 1, none⟩ (.int .i64 u)) := tw5.setCell (.inr (by simp; omega)) _
    have lw6 := bw6.lt
    have la6 := ba6.lt
    have lb6 := bb6.lt
    have lr6 := r6.lt
    have ls6 := tw6.size_le
    have m0 : w5.cell? ⟨w3.heap.size, 0, none⟩ = some (.int .i64 a) := (ba5.cell 0).trans (by rfl)
    have mf0 : w5.frozen? ⟨w3.heap.size, 0, none⟩ = false := ba5.free 0
    have m1 : w5.cell? ⟨w3.heap.size, 1, none⟩ = some (.int .i64 b) := (ba5.cell 1).trans (by rfl)
    have mf1 : w5.frozen? ⟨w3.heap.size, 1, none⟩ = false := ba5.free 1
    have m2 : w5.cell? ⟨w3.heap.size, 2, none⟩ = some (.int .i64 c) := (ba5.cell 2).trans (by rfl)
    have mf2 : w5.frozen? ⟨w3.heap.size, 2, none⟩ = false := ba5.free 2
    have n0 : w5.cell? ⟨w4.heap.size, 0, none⟩ = some (.int .i64 p) := (bb5.cell 0).trans (by rfl)
    have nf0 : w5.frozen? ⟨w4.heap.size, 0, none⟩ = false := bb5.free 0
    have n1 : w5.cell? ⟨w4.heap.size, 1, none⟩ = some (.int .i64 q) := (bb5.cell 1).trans (by rfl)
    have nf1 : w5.frozen? ⟨w4.heap.size, 1, none⟩ = false := bb5.free 1
    have n2 : w5.cell? ⟨w4.heap.size, 2, none⟩ = some (.int .i64 r) := (bb5.cell 2).trans (by rfl)
    have nf2 : w5.frozen? ⟨w4.heap.size, 2, none⟩ = false := bb5.free 2
    have e0 : w5.cell? ⟨w.heap.size, 0, none⟩ = some (.int .i64 0) := by have := bw5.cell 0; simpa using this
    have e1 : w5.cell? ⟨w.heap.size, 1, none⟩ = some (.slice none 0 0) := by have := bw5.cell 1; simpa using this
    have f0 : w5.frozen? ⟨w.heap.size, 0, none⟩ = false := bw5.free 0
    have f1 : w5.frozen? ⟨w.heap.size, 1, none⟩ = false := bw5.free 1
    have lz := bw5.lt
    have lzr := r5.lt
    have lzs := tw5.size_le
    go_wp2_with fail
    generalize (w5.setCell ⟨w4.heap.size, 1, none⟩ (.int .i64 u)) = w6 at bw6 ba6 bb6 r6 tw6 lw6 la6 lb6 lr6 ls6 ⊢
    have hS : ∀ w', Box w' w4.heap.size #[.int .i64 p, .int .i64 u, .int .i64 r] 40 → (fun w' => w'.cell? ⟨w4.heap.size, 0, none⟩ = some (.int .i64 p) ∧ w'.cell? ⟨w4.heap.size, 1, none⟩ = some (.int .i64 u) ∧ w'.cell? ⟨w4.heap.size, 2, none⟩ = some (.int .i64 r) ∧ Box w' w4.heap.size #[.int .i64 p, .int .i64 u, .int .i64 r] 40) w' := fun w' h1 => ⟨h1.cell 0, h1.cell 1, h1.cell 2, h1⟩
    have e0 : w6.cell? ⟨w.heap.size, 0, none⟩ = some (.int .i64 0) := by have := bw6.cell 0; simpa using this
    have e1 : w6.cell? ⟨w.heap.size, 1, none⟩ = some (.slice none 0 0) := by have := bw6.cell 1; simpa using this
    have f0 : w6.frozen? ⟨w.heap.size, 0, none⟩ = false := bw6.free 0
    have f1 : w6.frozen? ⟨w.heap.size, 1, none⟩ = false := bw6.free 1
    have lz := bw6.lt
    have lzr := r6.lt
    have lzs := tw6.size_le
    go_region_held3 (fun w' => w'.cell? ⟨w4.heap.size, 0, none⟩ = some (.int .i64 p) ∧ w'.cell? ⟨w4.heap.size, 1, none⟩ = some (.int .i64 u) ∧ w'.cell? ⟨w4.heap.size, 2, none⟩ = some (.int .i64 r) ∧ Box w' w4.heap.size #[.int .i64 p, .int .i64 u, .int .i64 r] 40)
      (first | assumption | exact hS _ bb6 | (refine hS _ ?_; repeat (first | exact bb6 | exact bb9 | refine Box.far ?_ (by simp; omega) _ | refine Box.alloc ?_ _)))
      (first | (go_at_call 84; refine (l2Arg_any _ g (k + 15) 7 (by exact r6) (by omega)).mono ?_; rintro e w9 ⟨a2, b2, c2, rfl, r9, ow9⟩; have bw9 := box_only (by exact bw6 : Box _ w.heap.size #[.int .i64 0, .slice none 0 0] 31) ow9 (by omega); have e90 : w9.cell? ⟨w.heap.size, 0, none⟩ = some (.int .i64 0) := bw9.cell 0; have e91 : w9.cell? ⟨w.heap.size, 1, none⟩ = some (.slice none 0 0) := bw9.cell 1; have f90 : w9.frozen? ⟨w.heap.size, 0, none⟩ = false := bw9.free 0; have f91 : w9.frozen? ⟨w.heap.size, 1, none⟩ = false := bw9.free 1; have lz9 := bw9.lt; obtain ⟨_, _, _, hA⟩ := (by assumption : _ ∧ _ ∧ _ ∧ Box _ w4.heap.size #[.int .i64 p, .int .i64 u, .int .i64 r] 40); have bb9 := box_only hA ow9 (by omega)))
    have tw9 := tw6.drew.trans ow9
    have lr9 := r9.lt
    have ls9 := tw9.size_le
    clear hS
    go_wp2
    have bz := ((bw9.set 0 (.int .i64 27)).set 1 (.slice (some ⟨w9.heap.size, 0, none⟩) 2 2)).alloc (.cells #[.int .i64 a2, .int .i64 b2, .int .i64 c2, .int .i64 p, .int .i64 u, .int .i64 r] 40)
    have d0 := bz.cell 0
    have d1 := bz.cell 1
    replace d0 := d0.trans (show _ = some (.int .i64 27) by rfl)
    replace d1 := d1.trans (show _ = some (.slice (some ⟨w9.heap.size, 0, none⟩) 2 2) by rfl)
    clear bz
    refine bodyPost_ret (v := .agg #[.int .i64 27, .slice (some ⟨w9.heap.size, 0, none⟩) 2 2]) (by simp [results, Tryd.results75, go_sem, d0, d1]) rfl ⟨27, _, 2, 2, [(a2, b2, c2), (p, u, r)], rfl, ⟨rfl, by omega, by omega, by omega, .inr ⟨_, rfl, by omega, lie_lit2 _ _ _ a2 b2 c2 p u r (by simp)⟩⟩, ?_, ?_⟩
    · repeat (first | exact r9.mono (by omega) | refine Rd.setCell ?_ (by simp; try omega) _ | refine Rd.alloc ?_ _)
    · repeat (first | exact tw9 | refine Only.setCell ?_ (by right; simp; try omega) _ | refine Only.alloc ?_ _)
  · have bw6 : Box (w4.alloc (.cells #[.int .i64 p, .int .i64 q, .int .i64 r] 40)) w.heap.size #[.int .i64 0, .slice none 0 0] 31 := bw4.alloc _
    have ba6 : Box (w4.alloc (.cells #[.int .i64 p, .int .i64 q, .int .i64 r] 40)) w3.heap.size #[.int .i64 a, .int .i64 b, .int .i64 c] 40 := ba4.alloc _
    have bb6 : Box (w4.alloc (.cells #[.int .i64 p, .int .i64 q, .int .i64 r] 40)) w4.heap.size #[.int .i64 p, .int .i64 q, .int .i64 r] 40 := bb0
    have r6 : Rd 82 (w4.alloc (.cells #[.int .i64 p, .int .i64 q, .int .i64 r] 40)) g (k + 15) := (r4.alloc _).mono (by omega)
    have tw6 : Only g w (w4.alloc (.cells #[.int .i64 p, .int .i64 q, .int .i64 r] 40)) := tw4.alloc _
    have lw6 := bw6.lt
    have la6 := ba6.lt
    have lb6 := bb6.lt
    have lr6 := r6.lt
    have ls6 := tw6.size_le
    have m0 : (w4.alloc (.cells #[.int .i64 p, .int .i64 q, .int .i64 r] 40)).cell? ⟨w3.heap.size, 0, none⟩ = some (.int .i64 a) := (ba6.cell 0).trans (by rfl)
    have mf0 : (w4.alloc (.cells #[.int .i64 p, .int .i64 q, .int .i64 r] 40)).frozen? ⟨w3.heap.size, 0, none⟩ = false := ba6.free 0
    have m1 : (w4.alloc (.cells #[.int .i64 p, .int .i64 q, .int .i64 r] 40)).cell? ⟨w3.heap.size, 1, none⟩ = some (.int .i64 b) := (ba6.cell 1).trans (by rfl)
    have mf1 : (w4.alloc (.cells #[.int .i64 p, .int .i64 q, .int .i64 r] 40)).frozen? ⟨w3.heap.size, 1, none⟩ = false := ba6.free 1
    have m2 : (w4.alloc (.cells #[.int .i64 p, .int .i64 q, .int .i64 r] 40)).cell? ⟨w3.heap.size, 2, none⟩ = some (.int .i64 c) := (ba6.cell 2).trans (by rfl)
    have mf2 : (w4.alloc (.cells #[.int .i64 p, .int .i64 q, .int .i64 r] 40)).frozen? ⟨w3.heap.size, 2, none⟩ = false := ba6.free 2
    have n0 : (w4.alloc (.cells #[.int .i64 p, .int .i64 q, .int .i64 r] 40)).cell? ⟨w4.heap.size, 0, none⟩ = some (.int .i64 p) := (bb6.cell 0).trans (by rfl)
    have nf0 : (w4.alloc (.cells #[.int .i64 p, .int .i64 q, .int .i64 r] 40)).frozen? ⟨w4.heap.size, 0, none⟩ = false := bb6.free 0
    have n1 : (w4.alloc (.cells #[.int .i64 p, .int .i64 q, .int .i64 r] 40)).cell? ⟨w4.heap.size, 1, none⟩ = some (.int .i64 q) := (bb6.cell 1).trans (by rfl)
    have nf1 : (w4.alloc (.cells #[.int .i64 p, .int .i64 q, .int .i64 r] 40)).frozen? ⟨w4.heap.size, 1, none⟩ = false := bb6.free 1
    have n2 : (w4.alloc (.cells #[.int .i64 p, .int .i64 q, .int .i64 r] 40)).cell? ⟨w4.heap.size, 2, none⟩ = some (.int .i64 r) := (bb6.cell 2).trans (by rfl)
    have nf2 : (w4.alloc (.cells #[.int .i64 p, .int .i64 q, .int .i64 r] 40)).frozen? ⟨w4.heap.size, 2, none⟩ = false := bb6.free 2
    have l0 : w4.cell? ⟨w3.heap.size, 0, none⟩ = some (.int .i64 a) := (ba4.cell 0).trans (by rfl)
    have lf0 : w4.frozen? ⟨w3.heap.size, 0, none⟩ = false := ba4.free 0
    have l1 : w4.cell? ⟨w3.heap.size, 1, none⟩ = some (.int .i64 b) := (ba4.cell 1).trans (by rfl)
    have lf1 : w4.frozen? ⟨w3.heap.size, 1, none⟩ = false := ba4.free 1
    have l2 : w4.cell? ⟨w3.heap.size, 2, none⟩ = some (.int .i64 c) := (ba4.cell 2).trans (by rfl)
    have lf2 : w4.frozen? ⟨w3.heap.size, 2, none⟩ = false := ba4.free 2
    have e0 : w4.cell? ⟨w.heap.size, 0, none⟩ = some (.int .i64 0) := by have := bw4.cell 0; simpa using this
    have e1 : w4.cell? ⟨w.heap.size, 1, none⟩ = some (.slice none 0 0) := by have := bw4.cell 1; simpa using this
    have f0 : w4.frozen? ⟨w.heap.size, 0, none⟩ = false := bw4.free 0
    have f1 : w4.frozen? ⟨w.heap.size, 1, none⟩ = false := bw4.free 1
    have lz := bw4.lt
    have lzr := r4.lt
    have lzs := tw4.size_le
    go_wp2_with fail
    generalize (w4.alloc (.cells #[.int .i64 p, .int .i64 q, .int .i64 r] 40)) = w6 at bw6 ba6 bb6 r6 tw6 lw6 la6 lb6 lr6 ls6 ⊢
    have hS : ∀ w', Box w' w4.heap.size #[.int .i64 p, .int .i64 q, .int .i64 r] 40 → (fun w' => w'.cell? ⟨w4.heap.size, 0, none⟩ = some (.int .i64 p) ∧ w'.cell? ⟨w4.heap.size, 1, none⟩ = some (.int .i64 q) ∧ w'.cell? ⟨w4.heap.size, 2, none⟩ = some (.int .i64 r) ∧ Box w' w4.heap.size #[.int .i64 p, .int .i64 q, .int .i64 r] 40) w' := fun w' h1 => ⟨h1.cell 0, h1.cell 1, h1.cell 2, h1⟩
    have e0 : w6.cell? ⟨w.heap.size, 0, none⟩ = some (.int .i64 0) := by have := bw6.cell 0; simpa using this
    have e1 : w6.cell? ⟨w.heap.size, 1, none⟩ = some (.slice none 0 0) := by have := bw6.cell 1; simpa using this
    have f0 : w6.frozen? ⟨w.heap.size, 0, none⟩ = false := bw6.free 0
    have f1 : w6.frozen? ⟨w.heap.size, 1, none⟩ = false := bw6.free 1
    have lz := bw6.lt
    have lzr := r6.lt
    have lzs := tw6.size_le
    go_region_held3 (fun w' => w'.cell? ⟨w4.heap.size, 0, none⟩ = some (.int .i64 p) ∧ w'.cell? ⟨w4.heap.size, 1, none⟩ = some (.int .i64 q) ∧ w'.cell? ⟨w4.heap.size, 2, none⟩ = some (.int .i64 r) ∧ Box w' w4.heap.size #[.int .i64 p, .int .i64 q, .int .i64 r] 40)
      (first | assumption | exact hS _ bb6 | (refine hS _ ?_; repeat (first | exact bb6 | exact bb9 | refine Box.far ?_ (by simp; omega) _ | refine Box.alloc ?_ _)))
      (first | (go_at_call 84; refine (l2Arg_any _ g (k + 15) 7 (by exact r6) (by omega)).mono ?_; rintro e w9 ⟨a2, b2, c2, rfl, r9, ow9⟩; have bw9 := box_only (by exact bw6 : Box _ w.heap.size #[.int .i64 0, .slice none 0 0] 31) ow9 (by omega); have e90 : w9.cell? ⟨w.heap.size, 0, none⟩ = some (.int .i64 0) := bw9.cell 0; have e91 : w9.cell? ⟨w.heap.size, 1, none⟩ = some (.slice none 0 0) := bw9.cell 1; have f90 : w9.frozen? ⟨w.heap.size, 0, none⟩ = false := bw9.free 0; have f91 : w9.frozen? ⟨w.heap.size, 1, none⟩ = false := bw9.free 1; have lz9 := bw9.lt; obtain ⟨_, _, _, hA⟩ := (by assumption : _ ∧ _ ∧ _ ∧ Box _ w4.heap.size #[.int .i64 p, .int .i64 q, .int .i64 r] 40); have bb9 := box_only hA ow9 (by omega)))
    have tw9 := tw6.drew.trans ow9
    have lr9 := r9.lt
    have ls9 := tw9.size_le
    clear hS
    go_wp2
    have bz := ((bw9.set 0 (.int .i64 27)).set 1 (.slice (some ⟨w9.heap.size, 0, none⟩) 2 2)).alloc (.cells #[.int .i64 a2, .int .i64 b2, .int .i64 c2, .int .i64 p, .int .i64 q, .int .i64 r] 40)
    have d0 := bz.cell 0
    have d1 := bz.cell 1
    replace d0 := d0.trans (show _ = some (.int .i64 27) by rfl)
    replace d1 := d1.trans (show _ = some (.slice (some ⟨w9.heap.size, 0, none⟩) 2 2) by rfl)
    clear bz
    refine bodyPost_ret (v := .agg #[.int .i64 27, .slice (some ⟨w9.heap.size, 0, none⟩) 2 2]) (by simp [results, Tryd.results75, go_sem, d0, d1]) rfl ⟨27, _, 2, 2, [(a2, b2, c2), (p, q, r)], rfl, ⟨rfl, by omega, by omega, by omega, .inr ⟨_, rfl, by omega, lie_lit2 _ _ _ a2 b2 c2 p q r (by simp)⟩⟩, ?_, ?_⟩
    · repeat (first | exact r9.mono (by omega) | refine Rd.setCell ?_ (by simp; try omega) _ | refine Rd.alloc ?_ _)
    · repeat (first | exact tw9 | refine Only.setCell ?_ (by right; simp; try omega) _ | refine Only.alloc ?_ _)
set_option maxRecDepth 100000 in
set_option maxHeartbeats 2000000 in
theorem l4Coil_28 (w : World) (g k : Nat) (h : Rd 82 w g k) (hk : k ≤ 80000) (hn : Calls Tryd.prog 77 #[.pointer (some ⟨g, 0, none⟩), .slice (some ⟨w.heap.size + 1, 0, none⟩) 22 22] ((w.alloc (.cells #[.int .i64 0, .slice none 0 0] 31)).alloc (.cells (([21, 21, 21, 22, 23, 24, 25, 26, 26, 27, 28, 29, 29, 30, 31, 31, 32, 33, 34, 35, 36, 37] : List Int).map (Value.int .i64)).toArray 3)) fun e w1 => e = .returned (.int .i64 28) ∧ Rd 82 w1 g (k + 1) ∧ Only g ((w.alloc (.cells #[.int .i64 0, .slice none 0 0] 31)).alloc (.cells (([21, 21, 21, 22, 23, 24, 25, 26, 26, 27, 28, 29, 29, 30, 31, 31, 32, 33, 34, 35, 36, 37] : List Int).map (Value.int .i64)).toArray 3)) w1) : Calls Tryd.prog 75 #[.pointer (some ⟨g, 0, none⟩)] w (DrewE 40 w g k) := by
  have hlt := h.lt
  have b0 := (Box.new w #[.int .i64 0, .slice none 0 0] 31).alloc (.cells (([21, 21, 21, 22, 23, 24, 25, 26, 26, 27, 28, 29, 29, 30, 31, 31, 32, 33, 34, 35, 36, 37] : List Int).map (Value.int .i64)).toArray 3)
  have o0 : Only g w ((w.alloc (.cells #[.int .i64 0, .slice none 0 0] 31)).alloc (.cells (([21, 21, 21, 22, 23, 24, 25, 26, 26, 27, 28, 29, 29, 30, 31, 31, 32, 33, 34, 35, 36, 37] : List Int).map (Value.int .i64)).toArray 3)) := ((Only.refl g w).alloc _).alloc _
  have HB := Lib.hid (And.intro b0 o0)
  clear b0 o0 h
  go_enter Tryd.func75, Tryd.ntmps75
  go_wp2_with fail
  refine hn.mono ?_
  rintro e w1 ⟨rfl, r1, ow1⟩
  have bw1 := box_only HB.out.1 ow1 (by omega)
  have tw1 := HB.out.2.trans ow1
  clear ow1 hn HB
  go_wp2_with fail
  refine (pick_any w1 g (k + 1) 2 r1 (by omega)).mono ?_
  rintro e w2 ⟨y, rfl, hy0, hy1, _, r2, ow2⟩
  have bw2 := box_only (bw1) ow2 (by omega)
  have tw2 := (tw1).trans ow2
  have lr2 := r2.lt
  have ls2 := tw2.size_le
  have lbw2 := bw2.lt
  clear ow2
  clear bw1 r1 tw1
  have hy2 := hy1 (by omega)
  clear hy1
  go_wp2_with fail
  refine (l2Arg_any w2 g (k + 1 + 1) (2 + y) r2 (by omega)).mono ?_
  rintro e w3 ⟨a, b, c, rfl, r3, ow3⟩
  have bw3 := box_only (bw2) ow3 (by omega)
  have tw3 := (tw2).trans ow3
  have lr3 := r3.lt
  have ls3 := tw3.size_le
  have lbw3 := bw3.lt
  clear ow3
  clear bw2 r2 tw2
  have ba0 := Box.new w3 #[.int .i64 a, .int .i64 b, .int .i64 c] 40
  go_wp2_with fail
  refine (l2Arg_any (w3.alloc (.cells #[.int .i64 a, .int .i64 b, .int .i64 c] 40)) g (k + 1 + 1 + 4) 11 (r3.alloc _) (by omega)).mono ?_
  rintro e w4 ⟨p, q, r, rfl, r4, ow4⟩
  have bw4 := box_only (bw3.alloc _) ow4 (by omega)
  have ba4 := box_only (ba0) ow4 (by omega)
  have tw4 := (tw3.alloc _).trans ow4
  have lr4 := r4.lt
  have ls4 := tw4.size_le
  have lbw4 := bw4.lt
  have lba4 := ba4.lt
  clear ow4
  clear bw3 r3 tw3 ba0
  have bb0 := Box.new w4 #[.int .i64 p, .int .i64 q, .int .i64 r] 40
  by_cases hq : q < 0
  · have tw40 := tw4.alloc (.cells #[.int .i64 p, .int .i64 q, .int .i64 r] 40)
    have ba40 : Box (w4.alloc (.cells #[.int .i64 p, .int .i64 q, .int .i64 r] 40)) w3.heap.size #[.int .i64 a, .int .i64 b, .int .i64 c] 40 := ba4.alloc _
    have m0 : (w4.alloc (.cells #[.int .i64 p, .int .i64 q, .int .i64 r] 40)).cell? ⟨w3.heap.size, 0, none⟩ = some (.int .i64 a) := (ba40.cell 0).trans (by rfl)
    have mf0 : (w4.alloc (.cells #[.int .i64 p, .int .i64 q, .int .i64 r] 40)).frozen? ⟨w3.heap.size, 0, none⟩ = false := ba40.free 0
    have m1 : (w4.alloc (.cells #[.int .i64 p, .int .i64 q, .int .i64 r] 40)).cell? ⟨w3.heap.size, 1, none⟩ = some (.int .i64 b) := (ba40.cell 1).trans (by rfl)
    have mf1 : (w4.alloc (.cells #[.int .i64 p, .int .i64 q, .int .i64 r] 40)).frozen? ⟨w3.heap.size, 1, none⟩ = false := ba40.free 1
    have m2 : (w4.alloc (.cells #[.int .i64 p, .int .i64 q, .int .i64 r] 40)).cell? ⟨w3.heap.size, 2, none⟩ = some (.int .i64 c) := (ba40.cell 2).trans (by rfl)
    have mf2 : (w4.alloc (.cells #[.int .i64 p, .int .i64 q, .int .i64 r] 40)).frozen? ⟨w3.heap.size, 2, none⟩ = false := ba40.free 2
    have n0 : (w4.alloc (.cells #[.int .i64 p, .int .i64 q, .int .i64 r] 40)).cell? ⟨w4.heap.size, 0, none⟩ = some (.int .i64 p) := (bb0.cell 0).trans (by rfl)
    have nf0 : (w4.alloc (.cells #[.int .i64 p, .int .i64 q, .int .i64 r] 40)).frozen? ⟨w4.heap.size, 0, none⟩ = false := bb0.free 0
    have n1 : (w4.alloc (.cells #[.int .i64 p, .int .i64 q, .int .i64 r] 40)).cell? ⟨w4.heap.size, 1, none⟩ = some (.int .i64 q) := (bb0.cell 1).trans (by rfl)
    have nf1 : (w4.alloc (.cells #[.int .i64 p, .int .i64 q, .int .i64 r] 40)).frozen? ⟨w4.heap.size, 1, none⟩ = false := bb0.free 1
    have n2 : (w4.alloc (.cells #[.int .i64 p, .int .i64 q, .int .i64 r] 40)).cell? ⟨w4.heap.size, 2, none⟩ = some (.int .i64 r) := (bb0.cell 2).trans (by rfl)
    have nf2 : (w4.alloc (.cells #[.int .i64 p, .int .i64 q, .int .i64 r] 40)).frozen? ⟨w4.heap.size, 2, none⟩ = false := bb0.free 2
    go_wp2_with fail
    refine (pick_any (w4.alloc (.cells #[.int .i64 p, .int .i64 q, .int .i64 r] 40)) g (k + 1 + 1 + 4 + 4) 9 (r4.alloc _) (by omega)).mono ?_
    rintro e w5 ⟨u, rfl, hu0, hu1, _, r5, ow5⟩
    have bw5 := box_only (bw4.alloc _) ow5 (by omega)
    have ba5 := box_only (ba4.alloc _) ow5 (by omega)
    have bb5 := box_only (bb0) ow5 (by omega)
    have tw5 := (tw4.alloc _).trans ow5
    have lr5 := r5.lt
    have ls5 := tw5.size_le
    have lbw5 := bw5.lt
    have lba5 := ba5.lt
    have lbb5 := bb5.lt
    clear ow5
    clear m0 mf0 m1 mf1 m2 mf2 n0 nf0 n1 nf1 n2 nf2 bw4 r4 tw4 ba4 ba40 bb0 tw40 hu1 hq
    have bw6 : Box (w5.setCell ⟨w4.heap.size, 1, none⟩ (.int .i64 u)) w.heap.size #[.int .i64 0, .slice none 0 0] 31 := bw5.far (p := ⟨w4.heap.size, 1, none⟩) (by simp; omega) _
    have ba6 : Box (w5.setCell ⟨w4.heap.size, 1, none⟩ (.int .i64 u)) w3.heap.size #[.int .i64 a, .int .i64 b, .int .i64 c] 40 := ba5.far (p := ⟨w4.heap.size, 1, none⟩) (by simp; omega) _
    have bb6 : Box (w5.setCell ⟨w4.heap.size, 1, none⟩ (.int .i64 u)) w4.heap.size #[.int .i64 p, .int .i64 u, .int .i64 r] 40 := bb5.set 1 (.int .i64 u)
    have r6 : Rd 82 (w5.setCell ⟨w4.heap.size, 1, none⟩ (.int .i64 u)) g (k + 15) := (r5.setCell (by simp; omega) _).mono (by omega)
    have tw6 : Only g w (w5.setCell ⟨w4.heap.size, 1, none⟩ (.int .i64 u)) := tw5.setCell (.inr (by simp; omega)) _
    have lw6 := bw6.lt
    have la6 := ba6.lt
    have lb6 := bb6.lt
    have lr6 := r6.lt
    have ls6 := tw6.size_le
    have m0 : w5.cell? ⟨w3.heap.size, 0, none⟩ = some (.int .i64 a) := (ba5.cell 0).trans (by rfl)
    have mf0 : w5.frozen? ⟨w3.heap.size, 0, none⟩ = false := ba5.free 0
    have m1 : w5.cell? ⟨w3.heap.size, 1, none⟩ = some (.int .i64 b) := (ba5.cell 1).trans (by rfl)
    have mf1 : w5.frozen? ⟨w3.heap.size, 1, none⟩ = false := ba5.free 1
    have m2 : w5.cell? ⟨w3.heap.size, 2, none⟩ = some (.int .i64 c) := (ba5.cell 2).trans (by rfl)
    have mf2 : w5.frozen? ⟨w3.heap.size, 2, none⟩ = false := ba5.free 2
    have n0 : w5.cell? ⟨w4.heap.size, 0, none⟩ = some (.int .i64 p) := (bb5.cell 0).trans (by rfl)
    have nf0 : w5.frozen? ⟨w4.heap.size, 0, none⟩ = false := bb5.free 0
    have n1 : w5.cell? ⟨w4.heap.size, 1, none⟩ = some (.int .i64 q) := (bb5.cell 1).trans (by rfl)
    have nf1 : w5.frozen? ⟨w4.heap.size, 1, none⟩ = false := bb5.free 1
    have n2 : w5.cell? ⟨w4.heap.size, 2, none⟩ = some (.int .i64 r) := (bb5.cell 2).trans (by rfl)
    have nf2 : w5.frozen? ⟨w4.heap.size, 2, none⟩ = false := bb5.free 2
    have e0 : w5.cell? ⟨w.heap.size, 0, none⟩ = some (.int .i64 0) := by have := bw5.cell 0; simpa using this
    have e1 : w5.cell? ⟨w.heap.size, 1, none⟩ = some (.slice none 0 0) := by have := bw5.cell 1; simpa using this
    have f0 : w5.frozen? ⟨w.heap.size, 0, none⟩ = false := bw5.free 0
    have f1 : w5.frozen? ⟨w.heap.size, 1, none⟩ = false := bw5.free 1
    have lz := bw5.lt
    have lzr := r5.lt
    have lzs := tw5.size_le
    go_wp2_with fail
    generalize (w5.setCell ⟨w4.heap.size, 1, none⟩ (.int .i64 u)) = w6 at bw6 ba6 bb6 r6 tw6 lw6 la6 lb6 lr6 ls6 ⊢
    have hS : ∀ w', Box w' w4.heap.size #[.int .i64 p, .int .i64 u, .int .i64 r] 40 → (fun w' => w'.cell? ⟨w4.heap.size, 0, none⟩ = some (.int .i64 p) ∧ w'.cell? ⟨w4.heap.size, 1, none⟩ = some (.int .i64 u) ∧ w'.cell? ⟨w4.heap.size, 2, none⟩ = some (.int .i64 r) ∧ Box w' w4.heap.size #[.int .i64 p, .int .i64 u, .int .i64 r] 40) w' := fun w' h1 => ⟨h1.cell 0, h1.cell 1, h1.cell 2, h1⟩
    have e0 : w6.cell? ⟨w.heap.size, 0, none⟩ = some (.int .i64 0) := by have := bw6.cell 0; simpa using this
    have e1 : w6.cell? ⟨w.heap.size, 1, none⟩ = some (.slice none 0 0) := by have := bw6.cell 1; simpa using this
    have f0 : w6.frozen? ⟨w.heap.size, 0, none⟩ = false := bw6.free 0
    have f1 : w6.frozen? ⟨w.heap.size, 1, none⟩ = false := bw6.free 1
    have lz := bw6.lt
    have lzr := r6.lt
    have lzs := tw6.size_le
    go_region_held3 (fun w' => w'.cell? ⟨w4.heap.size, 0, none⟩ = some (.int .i64 p) ∧ w'.cell? ⟨w4.heap.size, 1, none⟩ = some (.int .i64 u) ∧ w'.cell? ⟨w4.heap.size, 2, none⟩ = some (.int .i64 r) ∧ Box w' w4.heap.size #[.int .i64 p, .int .i64 u, .int .i64 r] 40)
      (first | assumption | exact hS _ bb6 | (refine hS _ ?_; repeat (first | exact bb6 | exact bb9 | refine Box.far ?_ (by simp; omega) _ | refine Box.alloc ?_ _)))
      (first | (go_at_call 84; refine (l2Arg_any _ g (k + 15) 7 (by exact r6) (by omega)).mono ?_; rintro e w9 ⟨a2, b2, c2, rfl, r9, ow9⟩; have bw9 := box_only (by exact bw6 : Box _ w.heap.size #[.int .i64 0, .slice none 0 0] 31) ow9 (by omega); have e90 : w9.cell? ⟨w.heap.size, 0, none⟩ = some (.int .i64 0) := bw9.cell 0; have e91 : w9.cell? ⟨w.heap.size, 1, none⟩ = some (.slice none 0 0) := bw9.cell 1; have f90 : w9.frozen? ⟨w.heap.size, 0, none⟩ = false := bw9.free 0; have f91 : w9.frozen? ⟨w.heap.size, 1, none⟩ = false := bw9.free 1; have lz9 := bw9.lt; obtain ⟨_, _, _, hA⟩ := (by assumption : _ ∧ _ ∧ _ ∧ Box _ w4.heap.size #[.int .i64 p, .int .i64 u, .int .i64 r] 40); have bb9 := box_only hA ow9 (by omega)))
    have tw9 := tw6.drew.trans ow9
    have lr9 := r9.lt
    have ls9 := tw9.size_le
    clear hS
    go_wp2
    have bz := ((bw9.set 0 (.int .i64 28)).set 1 (.slice (some ⟨w9.heap.size, 0, none⟩) 2 2)).alloc (.cells #[.int .i64 a2, .int .i64 b2, .int .i64 c2, .int .i64 p, .int .i64 u, .int .i64 r] 40)
    have d0 := bz.cell 0
    have d1 := bz.cell 1
    replace d0 := d0.trans (show _ = some (.int .i64 28) by rfl)
    replace d1 := d1.trans (show _ = some (.slice (some ⟨w9.heap.size, 0, none⟩) 2 2) by rfl)
    clear bz
    refine bodyPost_ret (v := .agg #[.int .i64 28, .slice (some ⟨w9.heap.size, 0, none⟩) 2 2]) (by simp [results, Tryd.results75, go_sem, d0, d1]) rfl ⟨28, _, 2, 2, [(a2, b2, c2), (p, u, r)], rfl, ⟨rfl, by omega, by omega, by omega, .inr ⟨_, rfl, by omega, lie_lit2 _ _ _ a2 b2 c2 p u r (by simp)⟩⟩, ?_, ?_⟩
    · repeat (first | exact r9.mono (by omega) | refine Rd.setCell ?_ (by simp; try omega) _ | refine Rd.alloc ?_ _)
    · repeat (first | exact tw9 | refine Only.setCell ?_ (by right; simp; try omega) _ | refine Only.alloc ?_ _)
  · have bw6 : Box (w4.alloc (.cells #[.int .i64 p, .int .i64 q, .int .i64 r] 40)) w.heap.size #[.int .i64 0, .slice none 0 0] 31 := bw4.alloc _
    have ba6 : Box (w4.alloc (.cells #[.int .i64 p, .int .i64 q, .int .i64 r] 40)) w3.heap.size #[.int .i64 a, .int .i64 b, .int .i64 c] 40 := ba4.alloc _
    have bb6 : Box (w4.alloc (.cells #[.int .i64 p, .int .i64 q, .int .i64 r] 40)) w4.heap.size #[.int .i64 p, .int .i64 q, .int .i64 r] 40 := bb0
    have r6 : Rd 82 (w4.alloc (.cells #[.int .i64 p, .int .i64 q, .int .i64 r] 40)) g (k + 15) := (r4.alloc _).mono (by omega)
    have tw6 : Only g w (w4.alloc (.cells #[.int .i64 p, .int .i64 q, .int .i64 r] 40)) := tw4.alloc _
    have lw6 := bw6.lt
    have la6 := ba6.lt
    have lb6 := bb6.lt
    have lr6 := r6.lt
    have ls6 := tw6.size_le
    have m0 : (w4.alloc (.cells #[.int .i64 p, .int .i64 q, .int .i64 r] 40)).cell? ⟨w3.heap.size, 0, none⟩ = some (.int .i64 a) := (ba6.cell 0).trans (by rfl)
    have mf0 : (w4.alloc (.cells #[.int .i64 p, .int .i64 q, .int .i64 r] 40)).frozen? ⟨w3.heap.size, 0, none⟩ = false := ba6.free 0
    have m1 : (w4.alloc (.cells #[.int .i64 p, .int .i64 q, .int .i64 r] 40)).cell? ⟨w3.heap.size, 1, none⟩ = some (.int .i64 b) := (ba6.cell 1).trans (by rfl)
    have mf1 : (w4.alloc (.cells #[.int .i64 p, .int .i64 q, .int .i64 r] 40)).frozen? ⟨w3.heap.size, 1, none⟩ = false := ba6.free 1
    have m2 : (w4.alloc (.cells #[.int .i64 p, .int .i64 q, .int .i64 r] 40)).cell? ⟨w3.heap.size, 2, none⟩ = some (.int .i64 c) := (ba6.cell 2).trans (by rfl)
    have mf2 : (w4.alloc (.cells #[.int .i64 p, .int .i64 q, .int .i64 r] 40)).frozen? ⟨w3.heap.size, 2, none⟩ = false := ba6.free 2
    have n0 : (w4.alloc (.cells #[.int .i64 p, .int .i64 q, .int .i64 r] 40)).cell? ⟨w4.heap.size, 0, none⟩ = some (.int .i64 p) := (bb6.cell 0).trans (by rfl)
    have nf0 : (w4.alloc (.cells #[.int .i64 p, .int .i64 q, .int .i64 r] 40)).frozen? ⟨w4.heap.size, 0, none⟩ = false := bb6.free 0
    have n1 : (w4.alloc (.cells #[.int .i64 p, .int .i64 q, .int .i64 r] 40)).cell? ⟨w4.heap.size, 1, none⟩ = some (.int .i64 q) := (bb6.cell 1).trans (by rfl)
    have nf1 : (w4.alloc (.cells #[.int .i64 p, .int .i64 q, .int .i64 r] 40)).frozen? ⟨w4.heap.size, 1, none⟩ = false := bb6.free 1
    have n2 : (w4.alloc (.cells #[.int .i64 p, .int .i64 q, .int .i64 r] 40)).cell? ⟨w4.heap.size, 2, none⟩ = some (.int .i64 r) := (bb6.cell 2).trans (by rfl)
    have nf2 : (w4.alloc (.cells #[.int .i64 p, .int .i64 q, .int .i64 r] 40)).frozen? ⟨w4.heap.size, 2, none⟩ = false := bb6.free 2
    have l0 : w4.cell? ⟨w3.heap.size, 0, none⟩ = some (.int .i64 a) := (ba4.cell 0).trans (by rfl)
    have lf0 : w4.frozen? ⟨w3.heap.size, 0, none⟩ = false := ba4.free 0
    have l1 : w4.cell? ⟨w3.heap.size, 1, none⟩ = some (.int .i64 b) := (ba4.cell 1).trans (by rfl)
    have lf1 : w4.frozen? ⟨w3.heap.size, 1, none⟩ = false := ba4.free 1
    have l2 : w4.cell? ⟨w3.heap.size, 2, none⟩ = some (.int .i64 c) := (ba4.cell 2).trans (by rfl)
    have lf2 : w4.frozen? ⟨w3.heap.size, 2, none⟩ = false := ba4.free 2
    have e0 : w4.cell? ⟨w.heap.size, 0, none⟩ = some (.int .i64 0) := by have := bw4.cell 0; simpa using this
    have e1 : w4.cell? ⟨w.heap.size, 1, none⟩ = some (.slice none 0 0) := by have := bw4.cell 1; simpa using this
    have f0 : w4.frozen? ⟨w.heap.size, 0, none⟩ = false := bw4.free 0
    have f1 : w4.frozen? ⟨w.heap.size, 1, none⟩ = false := bw4.free 1
    have lz := bw4.lt
    have lzr := r4.lt
    have lzs := tw4.size_le
    go_wp2_with fail
    generalize (w4.alloc (.cells #[.int .i64 p, .int .i64 q, .int .i64 r] 40)) = w6 at bw6 ba6 bb6 r6 tw6 lw6 la6 lb6 lr6 ls6 ⊢
    have hS : ∀ w', Box w' w4.heap.size #[.int .i64 p, .int .i64 q, .int .i64 r] 40 → (fun w' => w'.cell? ⟨w4.heap.size, 0, none⟩ = some (.int .i64 p) ∧ w'.cell? ⟨w4.heap.size, 1, none⟩ = some (.int .i64 q) ∧ w'.cell? ⟨w4.heap.size, 2, none⟩ = some (.int .i64 r) ∧ Box w' w4.heap.size #[.int .i64 p, .int .i64 q, .int .i64 r] 40) w' := fun w' h1 => ⟨h1.cell 0, h1.cell 1, h1.cell 2, h1⟩
    have e0 : w6.cell? ⟨w.heap.size, 0, none⟩ = some (.int .i64 0) := by have := bw6.cell 0; simpa using this
    have e1 : w6.cell? ⟨w.heap.size, 1, none⟩ = some (.slice none 0 0) := by have := bw6.cell 1; simpa using this
    have f0 : w6.frozen? ⟨w.heap.size, 0, none⟩ = false := bw6.free 0
    have f1 : w6.frozen? ⟨w.heap.size, 1, none⟩ = false := bw6.free 1
    have lz := bw6.lt
    have lzr := r6.lt
    have lzs := tw6.size_le
    go_region_held3 (fun w' => w'.cell? ⟨w4.heap.size, 0, none⟩ = some (.int .i64 p) ∧ w'.cell? ⟨w4.heap.size, 1, none⟩ = some (.int .i64 q) ∧ w'.cell? ⟨w4.heap.size, 2, none⟩ = some (.int .i64 r) ∧ Box w' w4.heap.size #[.int .i64 p, .int .i64 q, .int .i64 r] 40)
      (first | assumption | exact hS _ bb6 | (refine hS _ ?_; repeat (first | exact bb6 | exact bb9 | refine Box.far ?_ (by simp; omega) _ | refine Box.alloc ?_ _)))
      (first | (go_at_call 84; refine (l2Arg_any _ g (k + 15) 7 (by exact r6) (by omega)).mono ?_; rintro e w9 ⟨a2, b2, c2, rfl, r9, ow9⟩; have bw9 := box_only (by exact bw6 : Box _ w.heap.size #[.int .i64 0, .slice none 0 0] 31) ow9 (by omega); have e90 : w9.cell? ⟨w.heap.size, 0, none⟩ = some (.int .i64 0) := bw9.cell 0; have e91 : w9.cell? ⟨w.heap.size, 1, none⟩ = some (.slice none 0 0) := bw9.cell 1; have f90 : w9.frozen? ⟨w.heap.size, 0, none⟩ = false := bw9.free 0; have f91 : w9.frozen? ⟨w.heap.size, 1, none⟩ = false := bw9.free 1; have lz9 := bw9.lt; obtain ⟨_, _, _, hA⟩ := (by assumption : _ ∧ _ ∧ _ ∧ Box _ w4.heap.size #[.int .i64 p, .int .i64 q, .int .i64 r] 40); have bb9 := box_only hA ow9 (by omega)))
    have tw9 := tw6.drew.trans ow9
    have lr9 := r9.lt
    have ls9 := tw9.size_le
    clear hS
    go_wp2
    have bz := ((bw9.set 0 (.int .i64 28)).set 1 (.slice (some ⟨w9.heap.size, 0, none⟩) 2 2)).alloc (.cells #[.int .i64 a2, .int .i64 b2, .int .i64 c2, .int .i64 p, .int .i64 q, .int .i64 r] 40)
    have d0 := bz.cell 0
    have d1 := bz.cell 1
    replace d0 := d0.trans (show _ = some (.int .i64 28) by rfl)
    replace d1 := d1.trans (show _ = some (.slice (some ⟨w9.heap.size, 0, none⟩) 2 2) by rfl)
    clear bz
    refine bodyPost_ret (v := .agg #[.int .i64 28, .slice (some ⟨w9.heap.size, 0, none⟩) 2 2]) (by simp [results, Tryd.results75, go_sem, d0, d1]) rfl ⟨28, _, 2, 2, [(a2, b2, c2), (p, q, r)], rfl, ⟨rfl, by omega, by omega, by omega, .inr ⟨_, rfl, by omega, lie_lit2 _ _ _ a2 b2 c2 p q r (by simp)⟩⟩, ?_, ?_⟩
    · repeat (first | exact r9.mono (by omega) | refine Rd.setCell ?_ (by simp; try omega) _ | refine Rd.alloc ?_ _)
    · repeat (first | exact tw9 | refine Only.setCell ?_ (by right; simp; try omega) _ | refine Only.alloc ?_ _)
set_option maxRecDepth 100000 in
set_option maxHeartbeats 2000000 in
theorem l4Coil_29 (w : World) (g k : Nat) (h : Rd 82 w g k) (hk : k ≤ 80000) (hn : Calls Tryd.prog 77 #[.pointer (some ⟨g, 0, none⟩), .slice (some ⟨w.heap.size + 1, 0, none⟩) 22 22] ((w.alloc (.cells #[.int .i64 0, .slice none 0 0] 31)).alloc (.cells (([21, 21, 21, 22, 23, 24, 25, 26, 26, 27, 28, 29, 29, 30, 31, 31, 32, 33, 34, 35, 36, 37] : List Int).map (Value.int .i64)).toArray 3)) fun e w1 => e = .returned (.int .i64 29) ∧ Rd 82 w1 g (k + 1) ∧ Only g ((w.alloc (.cells #[.int .i64 0, .slice none 0 0] 31)).alloc (.cells (([21, 21, 21, 22, 23, 24, 25, 26, 26, 27, 28, 29, 29, 30, 31, 31, 32, 33, 34, 35, 36, 37] : List Int).map (Value.int .i64)).toArray 3)) w1) : Calls Tryd.prog 75 #[.pointer (some ⟨g, 0, none⟩)] w (DrewE 40 w g k) := by
  have hlt := h.lt
  have b0 := (Box.new w #[.int .i64 0, .slice none 0 0] 31).alloc (.cells (([21, 21, 21, 22, 23, 24, 25, 26, 26, 27, 28, 29, 29, 30, 31, 31, 32, 33, 34, 35, 36, 37] : List Int).map (Value.int .i64)).toArray 3)
  have o0 : Only g w ((w.alloc (.cells #[.int .i64 0, .slice none 0 0] 31)).alloc (.cells (([21, 21, 21, 22, 23, 24, 25, 26, 26, 27, 28, 29, 29, 30, 31, 31, 32, 33, 34, 35, 36, 37] : List Int).map (Value.int .i64)).toArray 3)) := ((Only.refl g w).alloc _).alloc _
  have HB := Lib.hid (And.intro b0 o0)
  clear b0 o0 h
  go_enter Tryd.func75, Tryd.ntmps75
  go_wp2_with fail
  refine hn.mono ?_
  rintro e w1 ⟨rfl, r1, ow1⟩
  have bw1 := box_only HB.out.1 ow1 (by omega)
  have tw1 := HB.out.2.trans ow1
  clear ow1 hn HB
  go_wp2_with fail
  refine (pick_any w1 g (k + 1) 2 r1 (by omega)).mono ?_
  rintro e w2 ⟨y, rfl, hy0, hy1, _, r2, ow2⟩
  have bw2 := box_only (bw1) ow2 (by omega)
  have tw2 := (tw1).trans ow2
  have lr2 := r2.lt
  have ls2 := tw2.size_le
  have lbw2 := bw2.lt
  clear ow2
  clear bw1 r1 tw1
  have hy2 := hy1 (by omega)
  clear hy1
  go_wp2_with fail
  refine (l2Arg_any w2 g (k + 1 + 1) (2 + y) r2 (by omega)).mono ?_
  rintro e w3 ⟨a, b, c, rfl, r3, ow3⟩
  have bw3 := box_only (bw2) ow3 (by omega)
  have tw3 := (tw2).trans ow3
  have lr3 := r3.lt
  have ls3 := tw3.size_le
  have lbw3 := bw3.lt
  clear ow3
  clear bw2 r2 tw2
  have ba0 := Box.new w3 #[.int .i64 a, .int .i64 b, .int .i64 c] 40
  go_wp2_with fail
  refine (l2Arg_any (w3.alloc (.cells #[.int .i64 a, .int .i64 b, .int .i64 c] 40)) g (k + 1 + 1 + 4) 11 (r3.alloc _) (by omega)).mono ?_
  rintro e w4 ⟨p, q, r, rfl, r4, ow4⟩
  have bw4 := box_only (bw3.alloc _) ow4 (by omega)
  have ba4 := box_only (ba0) ow4 (by omega)
  have tw4 := (tw3.alloc _).trans ow4
  have lr4 := r4.lt
  have ls4 := tw4.size_le
  have lbw4 := bw4.lt
  have lba4 := ba4.lt
  clear ow4
  clear bw3 r3 tw3 ba0
  have bb0 := Box.new w4 #[.int .i64 p, .int .i64 q, .int .i64 r] 40
  by_cases hq : q < 0
  · have tw40 := tw4.alloc (.cells #[.int .i64 p, .int .i64 q, .int .i64 r] 40)
    have ba40 : Box (w4.alloc (.cells #[.int .i64 p, .int .i64 q, .int .i64 r] 40)) w3.heap.size #[.int .i64 a, .int .i64 b, .int .i64 c] 40 := ba4.alloc _
    have m0 : (w4.alloc (.cells #[.int .i64 p, .int .i64 q, .int .i64 r] 40)).cell? ⟨w3.heap.size, 0, none⟩ = some (.int .i64 a) := (ba40.cell 0).trans (by rfl)
    have mf0 : (w4.alloc (.cells #[.int .i64 p, .int .i64 q, .int .i64 r] 40)).frozen? ⟨w3.heap.size, 0, none⟩ = false := ba40.free 0
    have m1 : (w4.alloc (.cells #[.int .i64 p, .int .i64 q, .int .i64 r] 40)).cell? ⟨w3.heap.size, 1, none⟩ = some (.int .i64 b) := (ba40.cell 1).trans (by rfl)
    have mf1 : (w4.alloc (.cells #[.int .i64 p, .int .i64 q, .int .i64 r] 40)).frozen? ⟨w3.heap.size, 1, none⟩ = false := ba40.free 1
    have m2 : (w4.alloc (.cells #[.int .i64 p, .int .i64 q, .int .i64 r] 40)).cell? ⟨w3.heap.size, 2, none⟩ = some (.int .i64 c) := (ba40.cell 2).trans (by rfl)
    have mf2 : (w4.alloc (.cells #[.int .i64 p, .int .i64 q, .int .i64 r] 40)).frozen? ⟨w3.heap.size, 2, none⟩ = false := ba40.free 2
    have n0 : (w4.alloc (.cells #[.int .i64 p, .int .i64 q, .int .i64 r] 40)).cell? ⟨w4.heap.size, 0, none⟩ = some (.int .i64 p) := (bb0.cell 0).trans (by rfl)
    have nf0 : (w4.alloc (.cells #[.int .i64 p, .int .i64 q, .int .i64 r] 40)).frozen? ⟨w4.heap.size, 0, none⟩ = false := bb0.free 0
    have n1 : (w4.alloc (.cells #[.int .i64 p, .int .i64 q, .int .i64 r] 40)).cell? ⟨w4.heap.size, 1, none⟩ = some (.int .i64 q) := (bb0.cell 1).trans (by rfl)
    have nf1 : (w4.alloc (.cells #[.int .i64 p, .int .i64 q, .int .i64 r] 40)).frozen? ⟨w4.heap.size, 1, none⟩ = false := bb0.free 1
    have n2 : (w4.alloc (.cells #[.int .i64 p, .int .i64 q, .int .i64 r] 40)).cell? ⟨w4.heap.size, 2, none⟩ = some (.int .i64 r) := (bb0.cell 2).trans (by rfl)
    have nf2 : (w4.alloc (.cells #[.int .i64 p, .int .i64 q, .int .i64 r] 40)).frozen? ⟨w4.heap.size, 2, none⟩ = false := bb0.free 2
    go_wp2_with fail
    refine (pick_any (w4.alloc (.cells #[.int .i64 p, .int .i64 q, .int .i64 r] 40)) g (k + 1 + 1 + 4 + 4) 9 (r4.alloc _) (by omega)).mono ?_
    rintro e w5 ⟨u, rfl, hu0, hu1, _, r5, ow5⟩
    have bw5 := box_only (bw4.alloc _) ow5 (by omega)
    have ba5 := box_only (ba4.alloc _) ow5 (by omega)
    have bb5 := box_only (bb0) ow5 (by omega)
    have tw5 := (tw4.alloc _).trans ow5
    have lr5 := r5.lt
    have ls5 := tw5.size_le
    have lbw5 := bw5.lt
    have lba5 := ba5.lt
    have lbb5 := bb5.lt
    clear ow5
    clear m0 mf0 m1 mf1 m2 mf2 n0 nf0 n1 nf1 n2 nf2 bw4 r4 tw4 ba4 ba40 bb0 tw40 hu1 hq
    have bw6 : Box (w5.setCell ⟨w4.heap.size, 1, none⟩ (.int .i64 u)) w.heap.size #[.int .i64 0, .slice none 0 0] 31 := bw5.far (p := ⟨w4.heap.size, 1, none⟩) (by simp; omega) _
    have ba6 : Box (w5.setCell ⟨w4.heap.size, 1, none⟩ (.int .i64 u)) w3.heap.size #[.int .i64 a, .int .i64 b, .int .i64 c] 40 := ba5.far (p := ⟨w4.heap.size, 1, none⟩) (by simp; omega) _
    have bb6 : Box (w5.setCell ⟨w4.heap.size, 1, none⟩ (.int .i64 u)) w4.heap.size #[.int .i64 p, .int .i64 u, .int .i64 r] 40 := bb5.set 1 (.int .i64 u)
    have r6 : Rd 82 (w5.setCell ⟨w4.heap.size, 1, none⟩ (.int .i64 u)) g (k + 15) := (r5.setCell (by simp; omega) _).mono (by omega)
    have tw6 : Only g w (w5.setCell ⟨w4.heap.size, 1, none⟩ (.int .i64 u)) := tw5.setCell (.inr (by simp; omega)) _
    have lw6 := bw6.lt
    have la6 := ba6.lt
    have lb6 := bb6.lt
    have lr6 := r6.lt
    have ls6 := tw6.size_le
    have m0 : w5.cell? ⟨w3.heap.size, 0, none⟩ = some (.int .i64 a) := (ba5.cell 0).trans (by rfl)
    have mf0 : w5.frozen? ⟨w3.heap.size, 0, none⟩ = false := ba5.free 0
    have m1 : w5.cell? ⟨w3.heap.size, 1, none⟩ = some (.int .i64 b) := (ba5.cell 1).trans (by rfl)
    have mf1 : w5.frozen? ⟨w3.heap.size, 1, none⟩ = false := ba5.free 1
    have m2 : w5.cell? ⟨w3.heap.size, 2, none⟩ = some (.int .i64 c) := (ba5.cell 2).trans (by rfl)
    have mf2 : w5.frozen? ⟨w3.heap.size, 2, none⟩ = false := ba5.free 2
    have n0 : w5.cell? ⟨w4.heap.size, 0, none⟩ = some (.int .i64 p) := (bb5.cell 0).trans (by rfl)
    have nf0 : w5.frozen? ⟨w4.heap.size, 0, none⟩ = false := bb5.free 0
    have n1 : w5.cell? ⟨w4.heap.size, 1, none⟩ = some (.int .i64 q) := (bb5.cell 1).trans (by rfl)
    have nf1 : w5.frozen? ⟨w4.heap.size, 1, none⟩ = false := bb5.free 1
    have n2 : w5.cell? ⟨w4.heap.size, 2, none⟩ = some (.int .i64 r) := (bb5.cell 2).trans (by rfl)
    have nf2 : w5.frozen? ⟨w4.heap.size, 2, none⟩ = false := bb5.free 2
    have e0 : w5.cell? ⟨w.heap.size, 0, none⟩ = some (.int .i64 0) := by have := bw5.cell 0; simpa using this
    have e1 : w5.cell? ⟨w.heap.size, 1, none⟩ = some (.slice none 0 0) := by have := bw5.cell 1; simpa using this
    have f0 : w5.frozen? ⟨w.heap.size, 0, none⟩ = false := bw5.free 0
    have f1 : w5.frozen? ⟨w.heap.size, 1, none⟩ = false := bw5.free 1
    have lz := bw5.lt
    have lzr := r5.lt
    have lzs := tw5.size_le
    go_wp2_with fail
    generalize (w5.setCell ⟨w4.heap.size, 1, none⟩ (.int .i64 u)) = w6 at bw6 ba6 bb6 r6 tw6 lw6 la6 lb6 lr6 ls6 ⊢
    have hS : ∀ w', Box w' w4.heap.size #[.int .i64 p, .int .i64 u, .int .i64 r] 40 → (fun w' => w'.cell? ⟨w4.heap.size, 0, none⟩ = some (.int .i64 p) ∧ w'.cell? ⟨w4.heap.size, 1, none⟩ = some (.int .i64 u) ∧ w'.cell? ⟨w4.heap.size, 2, none⟩ = some (.int .i64 r) ∧ Box w' w4.heap.size #[.int .i64 p, .int .i64 u, .int .i64 r] 40) w' := fun w' h1 => ⟨h1.cell 0, h1.cell 1, h1.cell 2, h1⟩
    have e0 : w6.cell? ⟨w.heap.size, 0, none⟩ = some (.int .i64 0) := by have := bw6.cell 0; simpa using this
    have e1 : w6.cell? ⟨w.heap.size, 1, none⟩ = some (.slice none 0 0) := by have := bw6.cell 1; simpa using this
    have f0 : w6.frozen? ⟨w.heap.size, 0, none⟩ = false := bw6.free 0
    have f1 : w6.frozen? ⟨w.heap.size, 1, none⟩ = false := bw6.free 1
    have lz := bw6.lt
    have lzr := r6.lt
    have lzs := tw6.size_le
    go_region_held3 (fun w' => w'.cell? ⟨w4.heap.size, 0, none⟩ = some (.int .i64 p) ∧ w'.cell? ⟨w4.heap.size, 1, none⟩ = some (.int .i64 u) ∧ w'.cell? ⟨w4.heap.size, 2, none⟩ = some (.int .i64 r) ∧ Box w' w4.heap.size #[.int .i64 p, .int .i64 u, .int .i64 r] 40)
      (first | assumption | exact hS _ bb6 | (refine hS _ ?_; repeat (first | exact bb6 | exact bb9 | refine Box.far ?_ (by simp; omega) _ | refine Box.alloc ?_ _)))
      (first | (go_at_call 84; refine (l2Arg_any _ g (k + 15) 8 (by exact r6) (by omega)).mono ?_; rintro e w9 ⟨a2, b2, c2, rfl, r9, ow9⟩; have bw9 := box_only (by exact bw6 : Box _ w.heap.size #[.int .i64 0, .slice none 0 0] 31) ow9 (by omega); have e90 : w9.cell? ⟨w.heap.size, 0, none⟩ = some (.int .i64 0) := bw9.cell 0; have e91 : w9.cell? ⟨w.heap.size, 1, none⟩ = some (.slice none 0 0) := bw9.cell 1; have f90 : w9.frozen? ⟨w.heap.size, 0, none⟩ = false := bw9.free 0; have f91 : w9.frozen? ⟨w.heap.size, 1, none⟩ = false := bw9.free 1; have lz9 := bw9.lt; obtain ⟨_, _, _, hA⟩ := (by assumption : _ ∧ _ ∧ _ ∧ Box _ w4.heap.size #[.int .i64 p, .int .i64 u, .int .i64 r] 40); have bb9 := box_only hA ow9 (by omega)))
    have tw9 := tw6.drew.trans ow9
    have lr9 := r9.lt
    have ls9 := tw9.size_le
    clear hS
    go_wp2
    have bz := ((bw9.set 0 (.int .i64 29)).set 1 (.slice (some ⟨w9.heap.size, 0, none⟩) 2 2)).alloc (.cells #[.int .i64 a2, .int .i64 b2, .int .i64 c2, .int .i64 p, .int .i64 u, .int .i64 r] 40)
    have d0 := bz.cell 0
    have d1 := bz.cell 1
    replace d0 := d0.trans (show _ = some (.int .i64 29) by rfl)
    replace d1 := d1.trans (show _ = some (.slice (some ⟨w9.heap.size, 0, none⟩) 2 2) by rfl)
    clear bz
    refine bodyPost_ret (v := .agg #[.int .i64 29, .slice (some ⟨w9.heap.size, 0, none⟩) 2 2]) (by simp [results, Tryd.results75, go_sem, d0, d1]) rfl ⟨29, _, 2, 2, [(a2, b2, c2), (p, u, r)], rfl, ⟨rfl, by omega, by omega, by omega, .inr ⟨_, rfl, by omega, lie_lit2 _ _ _ a2 b2 c2 p u r (by simp)⟩⟩, ?_, ?_⟩
    · repeat (first | exact r9.mono (by omega) | refine Rd.setCell ?_ (by simp; try omega) _ | refine Rd.alloc ?_ _)
    · repeat (first | exact tw9 | refine Only.setCell ?_ (by right; simp; try omega) _ | refine Only.alloc ?_ _)
  · have bw6 : Box (w4.alloc (.cells #[.int .i64 p, .int .i64 q, .int .i64 r] 40)) w.heap.size #[.int .i64 0, .slice none 0 0] 31 := bw4.alloc _
    have ba6 : Box (w4.alloc (.cells #[.int .i64 p, .int .i64 q, .int .i64 r] 40)) w3.heap.size #[.int .i64 a, .int .i64 b, .int .i64 c] 40 := ba4.alloc _
    have bb6 : Box (w4.alloc (.cells #[.int .i64 p, .int .i64 q, .int .i64 r] 40)) w4.heap.size #[.int .i64 p, .int .i64 q, .int .i64 r] 40 := bb0
    have r6 : Rd 82 (w4.alloc (.cells #[.int .i64 p, .int .i64 q, .int .i64 r] 40)) g (k + 15) := (r4.alloc _).mono (by omega)
    have tw6 : Only g w (w4.alloc (.cells #[.int .i64 p, .int .i64 q, .int .i64 r] 40)) := tw4.alloc _
    have lw6 := bw6.lt
    have la6 := ba6.lt
    have lb6 := bb6.lt
    have lr6 := r6.lt
    have ls6 := tw6.size_le
    have m0 : (w4.alloc (.cells #[.int .i64 p, .int .i64 q, .int .i64 r] 40)).cell? ⟨w3.heap.size, 0, none⟩ = some (.int .i64 a) := (ba6.cell 0).trans (by rfl)
    have mf0 : (w4.alloc (.cells #[.int .i64 p, .int .i64 q, .int .i64 r] 40)).frozen? ⟨w3.heap.size, 0, none⟩ = false := ba6.free 0
    have m1 : (w4.alloc (.cells #[.int .i64 p, .int .i64 q, .int .i64 r] 40)).cell? ⟨w3.heap.size, 1, none⟩ = some (.int .i64 b) := (ba6.cell 1).trans (by rfl)
    have mf1 : (w4.alloc (.cells #[.int .i64 p, .int .i64 q, .int .i64 r] 40)).frozen? ⟨w3.heap.size, 1, none⟩ = false := ba6.free 1
    have m2 : (w4.alloc (.cells #[.int .i64 p, .int .i64 q, .int .i64 r] 40)).cell? ⟨w3.heap.size, 2, none⟩ = some (.int .i64 c) := (ba6.cell 2).trans (by rfl)
    have mf2 : (w4.alloc (.cells #[.int .i64 p, .int .i64 q, .int .i64 r] 40)).frozen? ⟨w3.heap.size, 2, none⟩ = false := ba6.free 2
    have n0 : (w4.alloc (.cells #[.int .i64 p, .int .i64 q, .int .i64 r] 40)).cell? ⟨w4.heap.size, 0, none⟩ = some (.int .i64 p) := (bb6.cell 0).trans (by rfl)
    have nf0 : (w4.alloc (.cells #[.int .i64 p, .int .i64 q, .int .i64 r] 40)).frozen? ⟨w4.heap.size, 0, none⟩ = false := bb6.free 0
    have n1 : (w4.alloc (.cells #[.int .i64 p, .int .i64 q, .int .i64 r] 40)).cell? ⟨w4.heap.size, 1, none⟩ = some (.int .i64 q) := (bb6.cell 1).trans (by rfl)
    have nf1 : (w4.alloc (.cells #[.int .i64 p, .int .i64 q, .int .i64 r] 40)).frozen? ⟨w4.heap.size, 1, none⟩ = false := bb6.free 1
    have n2 : (w4.alloc (.cells #[.int .i64 p, .int .i64 q, .int .i64 r] 40)).cell? ⟨w4.heap.size, 2, none⟩ = some (.int .i64 r) := (bb6.cell 2).trans (by rfl)
    have nf2 : (w4.alloc (.cells #[.int .i64 p, .int .i64 q, .int .i64 r] 40)).frozen? ⟨w4.heap.size, 2, none⟩ = false := bb6.free 2
    have l0 : w4.cell? ⟨w3.heap.size, 0, none⟩ = some (.int .i64 a) := (ba4.cell 0).trans (by rfl)
    have lf0 : w4.frozen? ⟨w3.heap.size, 0, none⟩ = false := ba4.free 0
    have l1 : w4.cell? ⟨w3.heap.size, 1, none⟩ = some (.int .i64 b) := (ba4.cell 1).trans (by rfl)
    have lf1 : w4.frozen? ⟨w3.heap.size, 1, none⟩ = false := ba4.free 1
    have l2 : w4.cell? ⟨w3.heap.size, 2, none⟩ = some (.int .i64 c) := (ba4.cell 2).trans (by rfl)
    have lf2 : w4.frozen? ⟨w3.heap.size, 2, none⟩ = false := ba4.free 2
    have e0 : w4.cell? ⟨w.heap.size, 0, none⟩ = some (.int .i64 0) := by have := bw4.cell 0; simpa using this
    have e1 : w4.cell? ⟨w.heap.size, 1, none⟩ = some (.slice none 0 0) := by have := bw4.cell 1; simpa using this
    have f0 : w4.frozen? ⟨w.heap.size, 0, none⟩ = false := bw4.free 0
    have f1 : w4.frozen? ⟨w.heap.size, 1, none⟩ = false := bw4.free 1
    have lz := bw4.lt
    have lzr := r4.lt
    have lzs := tw4.size_le
    go_wp2_with fail
    generalize (w4.alloc (.cells #[.int .i64 p, .int .i64 q, .int .i64 r] 40)) = w6 at bw6 ba6 bb6 r6 tw6 lw6 la6 lb6 lr6 ls6 ⊢
    have hS : ∀ w', Box w' w4.heap.size #[.int .i64 p, .int .i64 q, .int .i64 r] 40 → (fun w' => w'.cell? ⟨w4.heap.size, 0, none⟩ = some (.int .i64 p) ∧ w'.cell? ⟨w4.heap.size, 1, none⟩ = some (.int .i64 q) ∧ w'.cell? ⟨w4.heap.size, 2, none⟩ = some (.int .i64 r) ∧ Box w' w4.heap.size #[.int .i64 p, .int .i64 q, .int .i64 r] 40) w' := fun w' h1 => ⟨h1.cell 0, h1.cell 1, h1.cell 2, h1⟩
    have e0 : w6.cell? ⟨w.heap.size, 0, none⟩ = some (.int .i64 0) := by have := bw6.cell 0; simpa using this
    have e1 : w6.cell? ⟨w.heap.size, 1, none⟩ = some (.slice none 0 0) := by have := bw6.cell 1; simpa using this
    have f0 : w6.frozen? ⟨w.heap.size, 0, none⟩ = false := bw6.free 0
    have f1 : w6.frozen? ⟨w.heap.size, 1, none⟩ = false := bw6.free 1
    have lz := bw6.lt
    have lzr := r6.lt
    have lzs := tw6.size_le
    go_region_held3 (fun w' => w'.cell? ⟨w4.heap.size, 0, none⟩ = some (.int .i64 p) ∧ w'.cell? ⟨w4.heap.size, 1, none⟩ = some (.int .i64 q) ∧ w'.cell? ⟨w4.heap.size, 2, none⟩ = some (.int .i64 r) ∧ Box w' w4.heap.size #[.int .i64 p, .int .i64 q, .int .i64 r] 40)
      (first | assumption | exact hS _ bb6 | (refine hS _ ?_; repeat (first | exact bb6 | exact bb9 | refine Box.far ?_ (by simp; omega) _ | refine Box.alloc ?_ _)))
      (first | (go_at_call 84; refine (l2Arg_any _ g (k + 15) 8 (by exact r6) (by omega)).mono ?_; rintro e w9 ⟨a2, b2, c2, rfl, r9, ow9⟩; have bw9 := box_only (by exact bw6 : Box _ w.heap.size #[.int .i64 0, .slice none 0 0] 31) ow9 (by omega); have e90 : w9.cell? ⟨w.heap.size, 0, none⟩ = some (.int .i64 0) := bw9.cell 0; have e91 : w9.cell? ⟨w.heap.size, 1, none⟩ = some (.slice none 0 0) := bw9.cell 1; have f90 : w9.frozen? ⟨w.heap.size, 0, none⟩ = false := bw9.free 0; have f91 : w9.frozen? ⟨w.heap.size, 1, none⟩ = false := bw9.free 1; have lz9 := bw9.lt; obtain ⟨_, _, _, hA⟩ := (by assumption : _ ∧ _ ∧ _ ∧ Box _ w4.heap.size #[.int .i64 p, .int .i64 q, .int .i64 r] 40); have bb9 := box_only hA ow9 (by omega)))
    have tw9 := tw6.drew.trans ow9
    have lr9 := r9.lt
    have ls9 := tw9.size_le
    clear hS
    go_wp2
    have bz := ((bw9.set 0 (.int .i64 29)).set 1 (.slice (some ⟨w9.heap.size, 0, none⟩) 2 2)).alloc (.cells #[.int .i64 a2, .int .i64 b2, .int .i64 c2, .int .i64 p, .int .i64 q, .int .i64 r] 40)
    have d0 := bz.cell 0
    have d1 := bz.cell 1
    replace d0 := d0.trans (show _ = some (.int .i64 29) by rfl)
    replace d1 := d1.trans (show _ = some (.slice (some ⟨w9.heap.size, 0, none⟩) 2 2) by rfl)
    clear bz
    refine bodyPost_ret (v := .agg #[.int .i64 29, .slice (some ⟨w9.heap.size, 0, none⟩) 2 2]) (by simp [results, Tryd.results75, go_sem, d0, d1]) rfl ⟨29, _, 2, 2, [(a2, b2, c2), (p, q, r)], rfl, ⟨rfl, by omega, by omega, by omega, .inr ⟨_, rfl, by omega, lie_lit2 _ _ _ a2 b2 c2 p q r (by simp)⟩⟩, ?_, ?_⟩
    · repeat (first | exact r9.mono (by omega) | refine Rd.setCell ?_ (by simp; try omega) _ | refine Rd.alloc ?_ _)
    · repeat (first | exact tw9 | refine Only.setCell ?_ (by right; simp; try omega) _ | refine Only.alloc ?_ _)
end Go.Proofs.YtmlpobecilbknaaDoor
