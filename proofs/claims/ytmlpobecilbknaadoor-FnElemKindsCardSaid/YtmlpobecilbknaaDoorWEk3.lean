/- The draws of FnElemKinds: coils. -/
import Derived.Test.YtmlpobecilbknaaDoorRows
import Derived.Test.YtmlpobecilbknaaDoorWEk2
import Derived.WalkKit
import Derived.WalkSpells
import Derived.WalkLawsBesides
import Derived.OpenShut
import Derived.OwnWalk
import Derived.IntWalk
import Derived.Lib.Hide
import Derived.Deep.QuietTactic
import Derived.BigQuiet
namespace Go.Proofs.YtmlpobecilbknaaDoor
open Go.RowKit Bx Rdr
set_option linter.unusedVariables false

set_option maxRecDepth 100000 in
set_option maxHeartbeats 2000000 in
theorem num_fix (w : World) (g k b n c : Nat) (P : Int → Prop) (h : Rd 82 w g k) (hk : k ≤ 1000000) (h1 : 1 ≤ n) (hn : n ≤ 1000) (hb : b < w.heap.size) (hne : b ≠ g)
    (hc : ∀ i, i < n → ∃ x : Int, P x ∧ w.cell? ⟨b, i, none⟩ = some (.int .i64 x)) :
    ∃ x, P x ∧ Calls Tryd.prog 77 #[.pointer (some ⟨g, 0, none⟩), .slice (some ⟨b, 0, none⟩) n c] w fun e w' => e = .returned (.int .i64 x) ∧ Rd 82 w' g (k + 1) ∧ Only g w w' := by
  obtain ⟨y, h0, hy, _, hp⟩ := pick_fix w g k n h hk
  have hy2 := hy (by omega)
  obtain ⟨y, rfl⟩ := Int.eq_ofNat_of_zero_le h0
  obtain ⟨v, hv, hcell⟩ := hc y (by omega)
  refine ⟨v, hv, ?_⟩
  clear hy hc
  go_enter Tryd.func77, Tryd.ntmps77
  go_wp2_with fail
  refine hp.mono ?_
  rintro e w1 ⟨rfl, hrd, ho⟩
  have hcell1 : w1.cell? ⟨b, y, none⟩ = some (.int .i64 v) := (ho.cell (p := ⟨b, y, none⟩) hb hne).trans hcell
  clear hcell h hp
  go_wp2
  go_ret
  exact ⟨rfl, hrd, ho⟩
set_option maxRecDepth 100000 in
set_option maxHeartbeats 2000000 in
theorem l4Coil_21 (w : World) (g k : Nat) (h : Rd 82 w g k) (hk : k ≤ 80000) (hn : Calls Tryd.prog 77 #[.pointer (some ⟨g, 0, none⟩), .slice (some ⟨w.heap.size + 1, 0, none⟩) 22 22] ((w.alloc (.cells #[.int .i64 0, .slice none 0 0] 31)).alloc (.cells (([21, 21, 21, 22, 23, 24, 25, 26, 26, 27, 28, 29, 29, 30, 31, 31, 32, 33, 34, 35, 36, 37] : List Int).map (Value.int .i64)).toArray 3)) fun e w1 => e = .returned (.int .i64 21) ∧ Rd 82 w1 g (k + 1) ∧ Only g ((w.alloc (.cells #[.int .i64 0, .slice none 0 0] 31)).alloc (.cells (([21, 21, 21, 22, 23, 24, 25, 26, 26, 27, 28, 29, 29, 30, 31, 31, 32, 33, 34, 35, 36, 37] : List Int).map (Value.int .i64)).toArray 3)) w1) : Calls Tryd.prog 75 #[.pointer (some ⟨g, 0, none⟩)] w (DrewE 40 w g k) := by
  have hlt := h.lt
  have b0 := (Box.new w #[.int .i64 0, .slice none 0 0] 31).alloc (.cells (([21, 21, 21, 22, 23, 24, 25, 26, 26, 27, 28, 29, 29, 30, 31, 31, 32, 33, 34, 35, 36, 37] : List Int).map (Value.int .i64)).toArray 3)
  have o0 : Only g w ((w.alloc (.cells #[.int .i64 0, .slice none 0 0] 31)).alloc (.cells (([21, 21, 21, 22, 23, 24, 25, 26, 26, 27, 28, 29, 29, 30, 31, 31, 32, 33, 34, 35, 36, 37] : List Int).map (Value.int .i64)).toArray 3)) := ((Only.refl g w).alloc _).alloc _
  have HB := Lib.hid (And.intro b0 o0)
  clear b0 o0 h
  go_enter Tryd.func75, Tryd.ntmps75
  go_wp2_with fail
  refine hn.mono ?_
  rintro e w1 ⟨rfl, r1, ow1⟩
  have bw1 := box_only HB.out.1 ow1 (by omega)
  have tw1 := HB.out.2.trans ow1
  clear ow1 hn HB
  go_wp2_with fail
  refine (pick_any w1 g (k + 1) 2 r1 (by omega)).mono ?_
  rintro e w2 ⟨y, rfl, hy0, hy1, _, r2, ow2⟩
  have bw2 := box_only (bw1) ow2 (by omega)
  have tw2 := (tw1).trans ow2
  have lr2 := r2.lt
  have ls2 := tw2.size_le
  have lbw2 := bw2.lt
  clear ow2
  clear bw1 r1 tw1
  have hy2 := hy1 (by omega)
  clear hy1
  go_wp2_with fail
  refine (l2Arg_any w2 g (k + 1 + 1) (2 + y) r2 (by omega)).mono ?_
  rintro e w3 ⟨a, b, c, rfl, r3, ow3⟩
  have bw3 := box_only (bw2) ow3 (by omega)
  have tw3 := (tw2).trans ow3
  have lr3 := r3.lt
  have ls3 := tw3.size_le
  have lbw3 := bw3.lt
  clear ow3
  clear bw2 r2 tw2
  have ba0 := Box.new w3 #[.int .i64 a, .int .i64 b, .int .i64 c] 40
  go_wp2_with fail
  refine (l2Arg_any (w3.alloc (.cells #[.int .i64 a, .int .i64 b, .int .i64 c] 40)) g (k + 1 + 1 + 4) 11 (r3.alloc _) (by omega)).mono ?_
  rintro e w4 ⟨p, q, r, rfl, r4, ow4⟩
  have bw4 := box_only (bw3.alloc _) ow4 (by omega)
  have ba4 := box_only (ba0) ow4 (by omega)
  have tw4 := (tw3.alloc _).trans ow4
  have lr4 := r4.lt
  have ls4 := tw4.size_le
  have lbw4 := bw4.lt
  have lba4 := ba4.lt
  clear ow4
  clear bw3 r3 tw3 ba0
  have bb0 := Box.new w4 #[.int .i64 p, .int .i64 q, .int .i64 r] 40
  by_cases hq : q < 0
  · have tw40 := tw4.alloc (.cells #[.int .i64 p, .int .i64 q, .int .i64 r] 40)
    have ba40 : Box (w4.alloc (.cells #[.int .i64 p, .int .i64 q, .int .i64 r] 40)) w3.heap.size #[.int .i64 a, .int .i64 b, .int .i64 c] 40 := ba4.alloc _
    have m0 : (w4.alloc (.cells #[.int .i64 p, .int .i64 q, .int .i64 r] 40)).cell? ⟨w3.heap.size, 0, none⟩ = some (.int .i64 a) := (ba40.cell 0).trans (by rfl)
    have mf0 : (w4.alloc (.cells #[.int .i64 p, .int .i64 q, .int .i64 r] 40)).frozen? ⟨w3.heap.size, 0, none⟩ = false := ba40.free 0
    have m1 : (w4.alloc (.cells #[.int .i64 p, .int .i64 q, .int .i64 r] 40)).cell? ⟨w3.heap.size, 1, none⟩ = some (.int .i64 b) := (ba40.cell 1).trans (by rfl)
    have mf1 : (w4.alloc (.cells #[.int .i64 p, .int .i64 q, .int .i64 r] 40)).frozen? ⟨w3.heap.size, 1, none⟩ = false := ba40.free 1
    have m2 : (w4.alloc (.cells #[.int .i64 p, .int .i64 q, .int .i64 r] 40)).cell? ⟨w3.heap.size, 2, none⟩ = some (.int .i64 c) := (ba40.cell 2).trans (by rfl)
    have mf2 : (w4.alloc (.cells #[.int .i64 p, .int .i64 q, .int .i64 r] 40)).frozen? ⟨w3.heap.size, 2, none⟩ = false := ba40.free 2
    have n0 : (w4.alloc (.cells #[.int .i64 p, .int .i64 q, .int .i64 r] 40)).cell? ⟨w4.heap.size, 0, none⟩ = some (.int .i64 p) := (bb0.cell 0).trans (by rfl)
    have nf0 : (w4.alloc (.cells #[.int .i64 p, .int .i64 q, .int .i64 r] 40)).frozen? ⟨w4.heap.size, 0, none⟩ = false := bb0.free 0
    have n1 : (w4.alloc (.cells #[.int .i64 p, .int .i64 q, .int .i64 r] 40)).cell? ⟨w4.heap.size, 1, none⟩ = some (.int .i64 q) := (bb0.cell 1).trans (by rfl)
    have nf1 : (w4.alloc (.cells #[.int .i64 p, .int .i64 q, .int .i64 r] 40)).frozen? ⟨w4.heap.size, 1, none⟩ = false := bb0.free 1
    have n2 : (w4.alloc (.cells #[.int .i64 p, .int .i64 q, .int .i64 r] 40)).cell? ⟨w4.heap.size, 2, none⟩ = some (.int .i64 r) := (bb0.cell 2).trans (by rfl)
    have nf2 : (w4.alloc (.cells #[.int .i64 p, .int .i64 q, .int .i64 r] 40)).frozen? ⟨w4.heap.size, 2, none⟩ = false := bb0.free 2
    go_wp2_with fail
    refine (pick_any (w4.alloc (.cells #[.int .i64 p, .int .i64 q, .int .i64 r] 40)) g (k + 1 + 1 + 4 + 4) 9 (r4.alloc _) (by omega)).mono ?_
    rintro e w5 ⟨u, rfl, hu0, hu1, _, r5, ow5⟩
    have bw5 := box_only (bw4.alloc _) ow5 (by omega)
    have ba5 := box_only (ba4.alloc _) ow5 (by omega)
    have bb5 := box_only (bb0) ow5 (by omega)
    have tw5 := (tw4.alloc _).trans ow5
    have lr5 := r5.lt
    have ls5 := tw5.size_le
    have lbw5 := bw5.lt
    have lba5 := ba5.lt
    have lbb5 := bb5.lt
    clear ow5
    clear m0 mf0 m1 mf1 m2 mf2 n0 nf0 n1 nf1 n2 nf2 bw4 r4 tw4 ba4 ba40 bb0 tw40 hu1 hq
    have bw6 : Box (w5.setCell ⟨w4.heap.size, 1, none⟩ (.int .i64 u)) w.heap.size #[.int .i64 0, .slice none 0 0] 31 := bw5.far (p := ⟨w4.heap.size, 1, none⟩) (by simp; omega) _
    have ba6 : Box (w5.setCell ⟨w4.heap.size, 1, none⟩ (.int .i64 u)) w3.heap.size #[.int .i64 a, .int .i64 b, .int .i64 c] 40 := ba5.far (p := ⟨w4.heap.size, 1, none⟩) (by simp; omega) _
    have bb6 : Box (w5.setCell ⟨w4.heap.size, 1, none⟩ (.int .i64 u)) w4.heap.size #[.int .i64 p, .int .i64 u, .int .i64 r] 40 := bb5.set 1 (.int .i64 u)
    have r6 : Rd 82 (w5.setCell ⟨w4.heap.size, 1, none⟩ (.int .i64 u)) g (k + 15) := (r5.setCell (by simp; omega) _).mono (by omega)
    have tw6 : Only g w (w5.setCell ⟨w4.heap.size, 1, none⟩ (.int .i64 u)) := tw5.setCell (.inr (by simp; omega)) _
    have lw6 := bw6.lt
    have la6 := ba6.lt
    have lb6 := bb6.lt
    have lr6 := r6.lt
    have ls6 := tw6.size_le
    have m0 : w5.cell? ⟨w3.heap.size, 0, none⟩ = some (.int .i64 a) := (ba5.cell 0).trans (by rfl)
    have mf0 : w5.frozen? ⟨w3.heap.size, 0, none⟩ = false := ba5.free 0
    have m1 : w5.cell? ⟨w3.heap.size, 1, none⟩ = some (.int .i64 b) := (ba5.cell 1).trans (by rfl)
    have mf1 : w5.frozen? ⟨w3.heap.size, 1, none⟩ = false := ba5.free 1
    have m2 : w5.cell? ⟨w3.heap.size, 2, none⟩ = some (.int .i64 c) := (ba5.cell 2).trans (by rfl)
    have mf2 : w5.frozen? ⟨w3.heap.size, 2, none⟩ = false := ba5.free 2
    have n0 : w5.cell? ⟨w4.heap.size, 0, none⟩ = some (.int .i64 p) := (bb5.cell 0).trans (by rfl)
    have nf0 : w5.frozen? ⟨w4.heap.size, 0, none⟩ = false := bb5.free 0
    have n1 : w5.cell? ⟨w4.heap.size, 1, none⟩ = some (.int .i64 q) := (bb5.cell 1).trans (by rfl)
    have nf1 : w5.frozen? ⟨w4.heap.size, 1, none⟩ = false := bb5.free 1
    have n2 : w5.cell? ⟨w4.heap.size, 2, none⟩ = some (.int .i64 r) := (bb5.cell 2).trans (by rfl)
    have nf2 : w5.frozen? ⟨w4.heap.size, 2, none⟩ = false := bb5.free 2
    have e0 : w5.cell? ⟨w.heap.size, 0, none⟩ = some (.int .i64 0) := by have := bw5.cell 0; simpa using this
    have e1 : w5.cell? ⟨w.heap.size, 1, none⟩ = some (.slice none 0 0) := by have := bw5.cell 1; simpa using this
    have f0 : w5.frozen? ⟨w.heap.size, 0, none⟩ = false := bw5.free 0
    have f1 : w5.frozen? ⟨w.heap.size, 1, none⟩ = false := bw5.free 1
    have lz := bw5.lt
    have lzr := r5.lt
    have lzs := tw5.size_le
    go_wp2
    have bz := ((bw6.set 0 (.int .i64 21)).set 1 (.slice (some ⟨w5.heap.size, 0, none⟩) 1 1)).alloc (.cells #[.int .i64 a, .int .i64 b, .int .i64 c] 40)
    have d0 := bz.cell 0
    have d1 := bz.cell 1
    replace d0 := d0.trans (show _ = some (.int .i64 21) by rfl)
    replace d1 := d1.trans (show _ = some (.slice (some ⟨w5.heap.size, 0, none⟩) 1 1) by rfl)
    clear bz
    refine bodyPost_ret (v := .agg #[.int .i64 21, .slice (some ⟨w5.heap.size, 0, none⟩) 1 1]) (by simp [results, Tryd.results75, go_sem, d0, d1]) rfl ⟨21, _, 1, 1, [(a, b, c)], rfl, ⟨rfl, by omega, by omega, by omega, .inr ⟨_, rfl, by omega, lie_lit1 _ _ _ a b c (by simp)⟩⟩, ?_, ?_⟩
    · repeat (first | exact r6.mono (by omega) | refine Rd.setCell ?_ (by simp; try omega) _ | refine Rd.alloc ?_ _)
    · repeat (first | exact tw6 | refine Only.setCell ?_ (by right; simp; try omega) _ | refine Only.alloc ?_ _)
  · have bw6 : Box (w4.alloc (.cells #[.int .i64 p, .int .i64 q, .int .i64 r] 40)) w.heap.size #[.int .i64 0, .slice none 0 0] 31 := bw4.alloc _
    have ba6 : Box (w4.alloc (.cells #[.int .i64 p, .int .i64 q, .int .i64 r] 40)) w3.heap.size #[.int .i64 a, .int .i64 b, .int .i64 c] 40 := ba4.alloc _
    have bb6 : Box (w4.alloc (.cells #[.int .i64 p, .int .i64 q, .int .i64 r] 40)) w4.heap.size #[.int .i64 p, .int .i64 q, .int .i64 r] 40 := bb0
    have r6 : Rd 82 (w4.alloc (.cells #[.int .i64 p, .int .i64 q, .int .i64 r] 40)) g (k + 15) := (r4.alloc _).mono (by omega)
    have tw6 : Only g w (w4.alloc (.cells #[.int .i64 p, .int .i64 q, .int .i64 r] 40)) := tw4.alloc _
    have lw6 := bw6.lt
    have la6 := ba6.lt
    have lb6 := bb6.lt
    have lr6 := r6.lt
    have ls6 := tw6.size_le
    have m0 : (w4.alloc (.cells #[.int .i64 p, .int .i64 q, .int .i64 r] 40)).cell? ⟨w3.heap.size, 0, none⟩ = some (.int .i64 a) := (ba6.cell 0).trans (by rfl)
    have mf0 : (w4.alloc (.cells #[.int .i64 p, .int .i64 q, .int .i64 r] 40)).frozen? ⟨w3.heap.size, 0, none⟩ = false := ba6.free 0
    have m1 : (w4.alloc (.cells #[.int .i64 p, .int .i64 q, .int .i64 r] 40)).cell? ⟨w3.heap.size, 1, none⟩ = some (.int .i64 b) := (ba6.cell 1).trans (by rfl)
    have mf1 : (w4.alloc (.cells #[.int .i64 p, .int .i64 q, .int .i64 r] 40)).frozen? ⟨w3.heap.size, 1, none⟩ = false := ba6.free 1
    have m2 : (w4.alloc (.cells #[.int .i64 p, .int .i64 q, .int .i64 r] 40)).cell? ⟨w3.heap.size, 2, none⟩ = some (.int .i64 c) := (ba6.cell 2).trans (by rfl)
    have mf2 : (w4.alloc (.cells #[.int .i64 p, .int .i64 q, .int .i64 r] 40)).frozen? ⟨w3.heap.size, 2, none⟩ = false := ba6.free 2
    have n0 : (w4.alloc (.cells #[.int .i64 p, .int .i64 q, .int .i64 r] 40)).cell? ⟨w4.heap.size, 0, none⟩ = some (.int .i64 p) := (bb6.cell 0).trans (by rfl)
    have nf0 : (w4.alloc (.cells #[.int .i64 p, .int .i64 q, .int .i64 r] 40)).frozen? ⟨w4.heap.size, 0, none⟩ = false := bb6.free 0
    have n1 : (w4.alloc (.cells #[.int .i64 p, .int .i64 q, .int .i64 r] 40)).cell? ⟨w4.heap.size, 1, none⟩ = some (.int .i64 q) := (bb6.cell 1).trans (by rfl)
    have nf1 : (w4.alloc (.cells #[.int .i64 p, .int .i64 q, .int .i64 r] 40)).frozen? ⟨w4.heap.size, 1, none⟩ = false := bb6.free 1
    have n2 : (w4.alloc (.cells #[.int .i64 p, .int .i64 q, .int .i64 r] 40)).cell? ⟨w4.heap.size, 2, none⟩ = some (.int .i64 r) := (bb6.cell 2).trans (by rfl)
    have nf2 : (w4.alloc (.cells #[.int .i64 p, .int .i64 q, .int .i64 r] 40)).frozen? ⟨w4.heap.size, 2, none⟩ = false := bb6.free 2
    have l0 : w4.cell? ⟨w3.heap.size, 0, none⟩ = some (.int .i64 a) := (ba4.cell 0).trans (by rfl)
    have lf0 : w4.frozen? ⟨w3.heap.size, 0, none⟩ = false := ba4.free 0
    have l1 : w4.cell? ⟨w3.heap.size, 1, none⟩ = some (.int .i64 b) := (ba4.cell 1).trans (by rfl)
    have lf1 : w4.frozen? ⟨w3.heap.size, 1, none⟩ = false := ba4.free 1
    have l2 : w4.cell? ⟨w3.heap.size, 2, none⟩ = some (.int .i64 c) := (ba4.cell 2).trans (by rfl)
    have lf2 : w4.frozen? ⟨w3.heap.size, 2, none⟩ = false := ba4.free 2
    have e0 : w4.cell? ⟨w.heap.size, 0, none⟩ = some (.int .i64 0) := by have := bw4.cell 0; simpa using this
    have e1 : w4.cell? ⟨w.heap.size, 1, none⟩ = some (.slice none 0 0) := by have := bw4.cell 1; simpa using this
    have f0 : w4.frozen? ⟨w.heap.size, 0, none⟩ = false := bw4.free 0
    have f1 : w4.frozen? ⟨w.heap.size, 1, none⟩ = false := bw4.free 1
    have lz := bw4.lt
    have lzr := r4.lt
    have lzs := tw4.size_le
    go_wp2
    have bz := (((bw4.set 0 (.int .i64 21)).set 1 (.slice (some ⟨w4.heap.size + 1, 0, none⟩) 1 1)).alloc (.cells #[.int .i64 p, .int .i64 q, .int .i64 r] 40)).alloc (.cells #[.int .i64 a, .int .i64 b, .int .i64 c] 40)
    have d0 := bz.cell 0
    have d1 := bz.cell 1
    replace d0 := d0.trans (show _ = some (.int .i64 21) by rfl)
    replace d1 := d1.trans (show _ = some (.slice (some ⟨w4.heap.size + 1, 0, none⟩) 1 1) by rfl)
    clear bz
    refine bodyPost_ret (v := .agg #[.int .i64 21, .slice (some ⟨w4.heap.size + 1, 0, none⟩) 1 1]) (by simp [results, Tryd.results75, go_sem, d0, d1]) rfl ⟨21, _, 1, 1, [(a, b, c)], rfl, ⟨rfl, by omega, by omega, by omega, .inr ⟨_, rfl, by omega, lie_lit1 _ _ _ a b c (by simp)⟩⟩, ?_, ?_⟩
    · repeat (first | exact r4.mono (by omega) | refine Rd.setCell ?_ (by simp; try omega) _ | refine Rd.alloc ?_ _)
    · repeat (first | exact tw4 | refine Only.setCell ?_ (by right; simp; try omega) _ | refine Only.alloc ?_ _)
set_option maxRecDepth 100000 in
set_option maxHeartbeats 2000000 in
theorem l4Coil_22 (w : World) (g k : Nat) (h : Rd 82 w g k) (hk : k ≤ 80000) (hn : Calls Tryd.prog 77 #[.pointer (some ⟨g, 0, none⟩), .slice (some ⟨w.heap.size + 1, 0, none⟩) 22 22] ((w.alloc (.cells #[.int .i64 0, .slice none 0 0] 31)).alloc (.cells (([21, 21, 21, 22, 23, 24, 25, 26, 26, 27, 28, 29, 29, 30, 31, 31, 32, 33, 34, 35, 36, 37] : List Int).map (Value.int .i64)).toArray 3)) fun e w1 => e = .returned (.int .i64 22) ∧ Rd 82 w1 g (k + 1) ∧ Only g ((w.alloc (.cells #[.int .i64 0, .slice none 0 0] 31)).alloc (.cells (([21, 21, 21, 22, 23, 24, 25, 26, 26, 27, 28, 29, 29, 30, 31, 31, 32, 33, 34, 35, 36, 37] : List Int).map (Value.int .i64)).toArray 3)) w1) : Calls Tryd.prog 75 #[.pointer (some ⟨g, 0, none⟩)] w (DrewE 40 w g k) := by
  have hlt := h.lt
  have b0 := (Box.new w #[.int .i64 0, .slice none 0 0] 31).alloc (.cells (([21, 21, 21, 22, 23, 24, 25, 26, 26, 27, 28, 29, 29, 30, 31, 31, 32, 33, 34, 35, 36, 37] : List Int).map (Value.int .i64)).toArray 3)
  have o0 : Only g w ((w.alloc (.cells #[.int .i64 0, .slice none 0 0] 31)).alloc (.cells (([21, 21, 21, 22, 23, 24, 25, 26, 26, 27, 28, 29, 29, 30, 31, 31, 32, 33, 34, 35, 36, 37] : List Int).map (Value.int .i64)).toArray 3)) := ((Only.refl g w).alloc _).alloc _
  have HB := Lib.hid (And.intro b0 o0)
  clear b0 o0 h
  go_enter Tryd.func75, Tryd.ntmps75
  go_wp2_with fail
  refine hn.mono ?_
  rintro e w1 ⟨rfl, r1, ow1⟩
  have bw1 := box_only HB.out.1 ow1 (by omega)
  have tw1 := HB.out.2.trans ow1
  clear ow1 hn HB
  go_wp2_with fail
  refine (pick_any w1 g (k + 1) 2 r1 (by omega)).mono ?_
  rintro e w2 ⟨y, rfl, hy0, hy1, _, r2, ow2⟩
  have bw2 := box_only (bw1) ow2 (by omega)
  have tw2 := (tw1).trans ow2
  have lr2 := r2.lt
  have ls2 := tw2.size_le
  have lbw2 := bw2.lt
  clear ow2
  clear bw1 r1 tw1
  have hy2 := hy1 (by omega)
  clear hy1
  go_wp2_with fail
  refine (l2Arg_any w2 g (k + 1 + 1) (2 + y) r2 (by omega)).mono ?_
  rintro e w3 ⟨a, b, c, rfl, r3, ow3⟩
  have bw3 := box_only (bw2) ow3 (by omega)
  have tw3 := (tw2).trans ow3
  have lr3 := r3.lt
  have ls3 := tw3.size_le
  have lbw3 := bw3.lt
  clear ow3
  clear bw2 r2 tw2
  have ba0 := Box.new w3 #[.int .i64 a, .int .i64 b, .int .i64 c] 40
  go_wp2_with fail
  refine (l2Arg_any (w3.alloc (.cells #[.int .i64 a, .int .i64 b, .int .i64 c] 40)) g (k + 1 + 1 + 4) 11 (r3.alloc _) (by omega)).mono ?_
  rintro e w4 ⟨p, q, r, rfl, r4, ow4⟩
  have bw4 := box_only (bw3.alloc _) ow4 (by omega)
  have ba4 := box_only (ba0) ow4 (by omega)
  have tw4 := (tw3.alloc _).trans ow4
  have lr4 := r4.lt
  have ls4 := tw4.size_le
  have lbw4 := bw4.lt
  have lba4 := ba4.lt
  clear ow4
  clear bw3 r3 tw3 ba0
  have bb0 := Box.new w4 #[.int .i64 p, .int .i64 q, .int .i64 r] 40
  by_cases hq : q < 0
  · have tw40 := tw4.alloc (.cells #[.int .i64 p, .int .i64 q, .int .i64 r] 40)
    have ba40 : Box (w4.alloc (.cells #[.int .i64 p, .int .i64 q, .int .i64 r] 40)) w3.heap.size #[.int .i64 a, .int .i64 b, .int .i64 c] 40 := ba4.alloc _
    have m0 : (w4.alloc (.cells #[.int .i64 p, .int .i64 q, .int .i64 r] 40)).cell? ⟨w3.heap.size, 0, none⟩ = some (.int .i64 a) := (ba40.cell 0).trans (by rfl)
    have mf0 : (w4.alloc (.cells #[.int .i64 p, .int .i64 q, .int .i64 r] 40)).frozen? ⟨w3.heap.size, 0, none⟩ = false := ba40.free 0
    have m1 : (w4.alloc (.cells #[.int .i64 p, .int .i64 q, .int .i64 r] 40)).cell? ⟨w3.heap.size, 1, none⟩ = some (.int .i64 b) := (ba40.cell 1).trans (by rfl)
    have mf1 : (w4.alloc (.cells #[.int .i64 p, .int .i64 q, .int .i64 r] 40)).frozen? ⟨w3.heap.size, 1, none⟩ = false := ba40.free 1
    have m2 : (w4.alloc (.cells #[.int .i64 p, .int .i64 q, .int .i64 r] 40)).cell? ⟨w3.heap.size, 2, none⟩ = some (.int .i64 c) := (ba40.cell 2).trans (by rfl)
    have mf2 : (w4.alloc (.cells #[.int .i64 p, .int .i64 q, .int .i64 r] 40)).frozen? ⟨w3.heap.size, 2, none⟩ = false := ba40.free 2
    have n0 : (w4.alloc (.cells #[.int .i64 p, .int .i64 q, .int .i64 r] 40)).cell? ⟨w4.heap.size, 0, none⟩ = some (.int .i64 p) := (bb0.cell 0).trans (by rfl)
    have nf0 : (w4.alloc (.cells #[.int .i64 p, .int .i64 q, .int .i64 r] 40)).frozen? ⟨w4.heap.size, 0, none⟩ = false := bb0.free 0
    have n1 : (w4.alloc (.cells #[.int .i64 p, .int .i64 q, .int .i64 r] 40)).cell? ⟨w4.heap.size, 1, none⟩ = some (.int .i64 q) := (bb0.cell 1).trans (by rfl)
    have nf1 : (w4.alloc (.cells #[.int .i64 p, .int .i64 q, .int .i64 r] 40)).frozen? ⟨w4.heap.size, 1, none⟩ = false := bb0.free 1
    have n2 : (w4.alloc (.cells #[.int .i64 p, .int .i64 q, .int .i64 r] 40)).cell? ⟨w4.heap.size, 2, none⟩ = some (.int .i64 r) := (bb0.cell 2).trans (by rfl)
    have nf2 : (w4.alloc (.cells #[.int .i64 p, .int .i64 q, .int .i64 r] 40)).frozen? ⟨w4.heap.size, 2, none⟩ = false := bb0.free 2
    go_wp2_with fail
    refine (pick_any (w4.alloc (.cells #[.int .i64 p, .int .i64 q, .int .i64 r] 40)) g (k + 1 + 1 + 4 + 4) 9 (r4.alloc _) (by omega)).mono ?_
    rintro e w5 ⟨u, rfl, hu0, hu1, _, r5, ow5⟩
    have bw5 := box_only (bw4.alloc _) ow5 (by omega)
    have ba5 := box_only (ba4.alloc _) ow5 (by omega)
    have bb5 := box_only (bb0) ow5 (by omega)
    have tw5 := (tw4.alloc _).trans ow5
    have lr5 := r5.lt
    have ls5 := tw5.size_le
    have lbw5 := bw5.lt
    have lba5 := ba5.lt
    have lbb5 := bb5.lt
    clear ow5
    clear m0 mf0 m1 mf1 m2 mf2 n0 nf0 n1 nf1 n2 nf2 bw4 r4 tw4 ba4 ba40 bb0 tw40 hu1 hq
    have bw6 : Box (w5.setCell ⟨w4.heap.size, 1, none⟩ (.int .i64 u)) w.heap.size #[.int .i64 0, .slice none 0 0] 31 := bw5.far (p := ⟨w4.heap.size, 1, none⟩) (by simp; omega) _
    have ba6 : Box (w5.setCell ⟨w4.heap.size, 1, none⟩ (.int .i64 u)) w3.heap.size #[.int .i64 a, .int .i64 b, .int .i64 c] 40 := ba5.far (p := ⟨w4.heap.size, 1, none⟩) (by simp; omega) _
    have bb6 : Box (w5.setCell ⟨w4.heap.size, 1, none⟩ (.int .i64 u)) w4.heap.size #[.int .i64 p, .int .i64 u, .int .i64 r] 40 := bb5.set 1 (.int .i64 u)
    have r6 : Rd 82 (w5.setCell ⟨w4.heap.size, 1, none⟩ (.int .i64 u)) g (k + 15) := (r5.setCell (by simp; omega) _).mono (by omega)
    have tw6 : Only g w (w5.setCell ⟨w4.heap.size, 1, none⟩ (.int .i64 u)) := tw5.setCell (.inr (by simp; omega)) _
    have lw6 := bw6.lt
    have la6 := ba6.lt
    have lb6 := bb6.lt
    have lr6 := r6.lt
    have ls6 := tw6.size_le
    have m0 : w5.cell? ⟨w3.heap.size, 0, none⟩ = some (.int .i64 a) := (ba5.cell 0).trans (by rfl)
    have mf0 : w5.frozen? ⟨w3.heap.size, 0, none⟩ = false := ba5.free 0
    have m1 : w5.cell? ⟨w3.heap.size, 1, none⟩ = some (.int .i64 b) := (ba5.cell 1).trans (by rfl)
    have mf1 : w5.frozen? ⟨w3.heap.size, 1, none⟩ = false := ba5.free 1
    have m2 : w5.cell? ⟨w3.heap.size, 2, none⟩ = some (.int .i64 c) := (ba5.cell 2).trans (by rfl)
    have mf2 : w5.frozen? ⟨w3.heap.size, 2, none⟩ = false := ba5.free 2
    have n0 : w5.cell? ⟨w4.heap.size, 0, none⟩ = some (.int .i64 p) := (bb5.cell 0).trans (by rfl)
    have nf0 : w5.frozen? ⟨w4.heap.size, 0, none⟩ = false := bb5.free 0
    have n1 : w5.cell? ⟨w4.heap.size, 1, none⟩ = some (.int .i64 q) := (bb5.cell 1).trans (by rfl)
    have nf1 : w5.frozen? ⟨w4.heap.size, 1, none⟩ = false := bb5.free 1
    have n2 : w5.cell? ⟨w4.heap.size, 2, none⟩ = some (.int .i64 r) := (bb5.cell 2).trans (by rfl)
    have nf2 : w5.frozen? ⟨w4.heap.size, 2, none⟩ = false := bb5.free 2
    have e0 : w5.cell? ⟨w.heap.size, 0, none⟩ = some (.int .i64 0) := by have := bw5.cell 0; simpa using this
    have e1 : w5.cell? ⟨w.heap.size, 1, none⟩ = some (.slice none 0 0) := by have := bw5.cell 1; simpa using this
    have f0 : w5.frozen? ⟨w.heap.size, 0, none⟩ = false := bw5.free 0
    have f1 : w5.frozen? ⟨w.heap.size, 1, none⟩ = false := bw5.free 1
    have lz := bw5.lt
    have lzr := r5.lt
    have lzs := tw5.size_le
    go_wp2_with fail
    refine (pick_any (w5.setCell ⟨w4.heap.size, 1, none⟩ (.int .i64 u)) g (k + 15) 3 r6 (by omega)).mono ?_
    rintro e w7 ⟨z, rfl, hz0, hz1, _, r7, ow7⟩
    have bw7 := box_only (bw6) ow7 (by omega)
    have tw7 := (tw6).trans ow7
    have lr7 := r7.lt
    have ls7 := tw7.size_le
    have lbw7 := bw7.lt
    clear ow7
    go_wp2_with fail
    refine (l2Arg_any w7 g (k + 15 + 1) (2 + z) r7 (by omega)).mono ?_
    rintro e w8 ⟨a2, b2, c2, rfl, r8, ow8⟩
    have bw8 := box_only (bw7) ow8 (by omega)
    have tw8 := (tw7).trans ow8
    have lr8 := r8.lt
    have ls8 := tw8.size_le
    have lbw8 := bw8.lt
    clear ow8
    have e0 : w8.cell? ⟨w.heap.size, 0, none⟩ = some (.int .i64 0) := by have := bw8.cell 0; simpa using this
    have e1 : w8.cell? ⟨w.heap.size, 1, none⟩ = some (.slice none 0 0) := by have := bw8.cell 1; simpa using this
    have f0 : w8.frozen? ⟨w.heap.size, 0, none⟩ = false := bw8.free 0
    have f1 : w8.frozen? ⟨w.heap.size, 1, none⟩ = false := bw8.free 1
    have lz := bw8.lt
    have lzr := r8.lt
    have lzs := tw8.size_le
    go_wp2
    have bz := ((bw8.set 0 (.int .i64 22)).set 1 (.slice (some ⟨w8.heap.size, 0, none⟩) 1 1)).alloc (.cells #[.int .i64 a2, .int .i64 b2, .int .i64 c2] 40)
    have d0 := bz.cell 0
    have d1 := bz.cell 1
    replace d0 := d0.trans (show _ = some (.int .i64 22) by rfl)
    replace d1 := d1.trans (show _ = some (.slice (some ⟨w8.heap.size, 0, none⟩) 1 1) by rfl)
    clear bz
    refine bodyPost_ret (v := .agg #[.int .i64 22, .slice (some ⟨w8.heap.size, 0, none⟩) 1 1]) (by simp [results, Tryd.results75, go_sem, d0, d1]) rfl ⟨22, _, 1, 1, [(a2, b2, c2)], rfl, ⟨rfl, by omega, by omega, by omega, .inr ⟨_, rfl, by omega, lie_lit1 _ _ _ a2 b2 c2 (by simp)⟩⟩, ?_, ?_⟩
    · repeat (first | exact r8.mono (by omega) | refine Rd.setCell ?_ (by simp; try omega) _ | refine Rd.alloc ?_ _)
    · repeat (first | exact tw8 | refine Only.setCell ?_ (by right; simp; try omega) _ | refine Only.alloc ?_ _)
  · have bw6 : Box (w4.alloc (.cells #[.int .i64 p, .int .i64 q, .int .i64 r] 40)) w.heap.size #[.int .i64 0, .slice none 0 0] 31 := bw4.alloc _
    have ba6 : Box (w4.alloc (.cells #[.int .i64 p, .int .i64 q, .int .i64 r] 40)) w3.heap.size #[.int .i64 a, .int .i64 b, .int .i64 c] 40 := ba4.alloc _
    have bb6 : Box (w4.alloc (.cells #[.int .i64 p, .int .i64 q, .int .i64 r] 40)) w4.heap.size #[.int .i64 p, .int .i64 q, .int .i64 r] 40 := bb0
    have r6 : Rd 82 (w4.alloc (.cells #[.int .i64 p, .int .i64 q, .int .i64 r] 40)) g (k + 15) := (r4.alloc _).mono (by omega)
    have tw6 : Only g w (w4.alloc (.cells #[.int .i64 p, .int .i64 q, .int .i64 r] 40)) := tw4.alloc _
    have lw6 := bw6.lt
    have la6 := ba6.lt
    have lb6 := bb6.lt
    have lr6 := r6.lt
    have ls6 := tw6.size_le
    have m0 : (w4.alloc (.cells #[.int .i64 p, .int .i64 q, .int .i64 r] 40)).cell? ⟨w3.heap.size, 0, none⟩ = some (.int .i64 a) := (ba6.cell 0).trans (by rfl)
    have mf0 : (w4.alloc (.cells #[.int .i64 p, .int .i64 q, .int .i64 r] 40)).frozen? ⟨w3.heap.size, 0, none⟩ = false := ba6.free 0
    have m1 : (w4.alloc (.cells #[.int .i64 p, .int .i64 q, .int .i64 r] 40)).cell? ⟨w3.heap.size, 1, none⟩ = some (.int .i64 b) := (ba6.cell 1).trans (by rfl)
    have mf1 : (w4.alloc (.cells #[.int .i64 p, .int .i64 q, .int .i64 r] 40)).frozen? ⟨w3.heap.size, 1, none⟩ = false := ba6.free 1
    have m2 : (w4.alloc (.cells #[.int .i64 p, .int .i64 q, .int .i64 r] 40)).cell? ⟨w3.heap.size, 2, none⟩ = some (.int .i64 c) := (ba6.cell 2).trans (by rfl)
    have mf2 : (w4.alloc (.cells #[.int .i64 p, .int .i64 q, .int .i64 r] 40)).frozen? ⟨w3.heap.size, 2, none⟩ = false := ba6.free 2
    have n0 : (w4.alloc (.cells #[.int .i64 p, .int .i64 q, .int .i64 r] 40)).cell? ⟨w4.heap.size, 0, none⟩ = some (.int .i64 p) := (bb6.cell 0).trans (by rfl)
    have nf0 : (w4.alloc (.cells #[.int .i64 p, .int .i64 q, .int .i64 r] 40)).frozen? ⟨w4.heap.size, 0, none⟩ = false := bb6.free 0
    have n1 : (w4.alloc (.cells #[.int .i64 p, .int .i64 q, .int .i64 r] 40)).cell? ⟨w4.heap.size, 1, none⟩ = some (.int .i64 q) := (bb6.cell 1).trans (by rfl)
    have nf1 : (w4.alloc (.cells #[.int .i64 p, .int .i64 q, .int .i64 r] 40)).frozen? ⟨w4.heap.size, 1, none⟩ = false := bb6.free 1
    have n2 : (w4.alloc (.cells #[.int .i64 p, .int .i64 q, .int .i64 r] 40)).cell? ⟨w4.heap.size, 2, none⟩ = some (.int .i64 r) := (bb6.cell 2).trans (by rfl)
    have nf2 : (w4.alloc (.cells #[.int .i64 p, .int .i64 q, .int .i64 r] 40)).frozen? ⟨w4.heap.size, 2, none⟩ = false := bb6.free 2
    have l0 : w4.cell? ⟨w3.heap.size, 0, none⟩ = some (.int .i64 a) := (ba4.cell 0).trans (by rfl)
    have lf0 : w4.frozen? ⟨w3.heap.size, 0, none⟩ = false := ba4.free 0
    have l1 : w4.cell? ⟨w3.heap.size, 1, none⟩ = some (.int .i64 b) := (ba4.cell 1).trans (by rfl)
    have lf1 : w4.frozen? ⟨w3.heap.size, 1, none⟩ = false := ba4.free 1
    have l2 : w4.cell? ⟨w3.heap.size, 2, none⟩ = some (.int .i64 c) := (ba4.cell 2).trans (by rfl)
    have lf2 : w4.frozen? ⟨w3.heap.size, 2, none⟩ = false := ba4.free 2
    have e0 : w4.cell? ⟨w.heap.size, 0, none⟩ = some (.int .i64 0) := by have := bw4.cell 0; simpa using this
    have e1 : w4.cell? ⟨w.heap.size, 1, none⟩ = some (.slice none 0 0) := by have := bw4.cell 1; simpa using this
    have f0 : w4.frozen? ⟨w.heap.size, 0, none⟩ = false := bw4.free 0
    have f1 : w4.frozen? ⟨w.heap.size, 1, none⟩ = false := bw4.free 1
    have lz := bw4.lt
    have lzr := r4.lt
    have lzs := tw4.size_le
    go_wp2_with fail
    refine (pick_any (w4.alloc (.cells #[.int .i64 p, .int .i64 q, .int .i64 r] 40)) g (k + 15) 3 r6 (by omega)).mono ?_
    rintro e w7 ⟨z, rfl, hz0, hz1, _, r7, ow7⟩
    have bw7 := box_only (bw6) ow7 (by omega)
    have tw7 := (tw6).trans ow7
    have lr7 := r7.lt
    have ls7 := tw7.size_le
    have lbw7 := bw7.lt
    clear ow7
    go_wp2_with fail
    refine (l2Arg_any w7 g (k + 15 + 1) (2 + z) r7 (by omega)).mono ?_
    rintro e w8 ⟨a2, b2, c2, rfl, r8, ow8⟩
    have bw8 := box_only (bw7) ow8 (by omega)
    have tw8 := (tw7).trans ow8
    have lr8 := r8.lt
    have ls8 := tw8.size_le
    have lbw8 := bw8.lt
    clear ow8
    have e0 : w8.cell? ⟨w.heap.size, 0, none⟩ = some (.int .i64 0) := by have := bw8.cell 0; simpa using this
    have e1 : w8.cell? ⟨w.heap.size, 1, none⟩ = some (.slice none 0 0) := by have := bw8.cell 1; simpa using this
    have f0 : w8.frozen? ⟨w.heap.size, 0, none⟩ = false := bw8.free 0
    have f1 : w8.frozen? ⟨w.heap.size, 1, none⟩ = false := bw8.free 1
    have lz := bw8.lt
    have lzr := r8.lt
    have lzs := tw8.size_le
    go_wp2
    have bz := ((bw8.set 0 (.int .i64 22)).set 1 (.slice (some ⟨w8.heap.size, 0, none⟩) 1 1)).alloc (.cells #[.int .i64 a2, .int .i64 b2, .int .i64 c2] 40)
    have d0 := bz.cell 0
    have d1 := bz.cell 1
    replace d0 := d0.trans (show _ = some (.int .i64 22) by rfl)
    replace d1 := d1.trans (show _ = some (.slice (some ⟨w8.heap.size, 0, none⟩) 1 1) by rfl)
    clear bz
    refine bodyPost_ret (v := .agg #[.int .i64 22, .slice (some ⟨w8.heap.size, 0, none⟩) 1 1]) (by simp [results, Tryd.results75, go_sem, d0, d1]) rfl ⟨22, _, 1, 1, [(a2, b2, c2)], rfl, ⟨rfl, by omega, by omega, by omega, .inr ⟨_, rfl, by omega, lie_lit1 _ _ _ a2 b2 c2 (by simp)⟩⟩, ?_, ?_⟩
    · repeat (first | exact r8.mono (by omega) | refine Rd.setCell ?_ (by simp; try omega) _ | refine Rd.alloc ?_ _)
    · repeat (first | exact tw8 | refine Only.setCell ?_ (by right; simp; try omega) _ | refine Only.alloc ?_ _)
set_option maxRecDepth 100000 in
set_option maxHeartbeats 2000000 in
theorem l4Coil_25 (w : World) (g k : Nat) (h : Rd 82 w g k) (hk : k ≤ 80000) (hn : Calls Tryd.prog 77 #[.pointer (some ⟨g, 0, none⟩), .slice (some ⟨w.heap.size + 1, 0, none⟩) 22 22] ((w.alloc (.cells #[.int .i64 0, .slice none 0 0] 31)).alloc (.cells (([21, 21, 21, 22, 23, 24, 25, 26, 26, 27, 28, 29, 29, 30, 31, 31, 32, 33, 34, 35, 36, 37] : List Int).map (Value.int .i64)).toArray 3)) fun e w1 => e = .returned (.int .i64 25) ∧ Rd 82 w1 g (k + 1) ∧ Only g ((w.alloc (.cells #[.int .i64 0, .slice none 0 0] 31)).alloc (.cells (([21, 21, 21, 22, 23, 24, 25, 26, 26, 27, 28, 29, 29, 30, 31, 31, 32, 33, 34, 35, 36, 37] : List Int).map (Value.int .i64)).toArray 3)) w1) : Calls Tryd.prog 75 #[.pointer (some ⟨g, 0, none⟩)] w (DrewE 40 w g k) := by
  have hlt := h.lt
  have b0 := (Box.new w #[.int .i64 0, .slice none 0 0] 31).alloc (.cells (([21, 21, 21, 22, 23, 24, 25, 26, 26, 27, 28, 29, 29, 30, 31, 31, 32, 33, 34, 35, 36, 37] : List Int).map (Value.int .i64)).toArray 3)
  have o0 : Only g w ((w.alloc (.cells #[.int .i64 0, .slice none 0 0] 31)).alloc (.cells (([21, 21, 21, 22, 23, 24, 25, 26, 26, 27, 28, 29, 29, 30, 31, 31, 32, 33, 34, 35, 36, 37] : List Int).map (Value.int .i64)).toArray 3)) := ((Only.refl g w).alloc _).alloc _
  have HB := Lib.hid (And.intro b0 o0)
  clear b0 o0 h
  go_enter Tryd.func75, Tryd.ntmps75
  go_wp2_with fail
  refine hn.mono ?_
  rintro e w1 ⟨rfl, r1, ow1⟩
  have bw1 := box_only HB.out.1 ow1 (by omega)
  have tw1 := HB.out.2.trans ow1
  clear ow1 hn HB
  go_wp2_with fail
  refine (pick_any w1 g (k + 1) 2 r1 (by omega)).mono ?_
  rintro e w2 ⟨y, rfl, hy0, hy1, _, r2, ow2⟩
  have bw2 := box_only (bw1) ow2 (by omega)
  have tw2 := (tw1).trans ow2
  have lr2 := r2.lt
  have ls2 := tw2.size_le
  have lbw2 := bw2.lt
  clear ow2
  clear bw1 r1 tw1
  have hy2 := hy1 (by omega)
  clear hy1
  go_wp2_with fail
  refine (l2Arg_any w2 g (k + 1 + 1) (2 + y) r2 (by omega)).mono ?_
  rintro e w3 ⟨a, b, c, rfl, r3, ow3⟩
  have bw3 := box_only (bw2) ow3 (by omega)
  have tw3 := (tw2).trans ow3
  have lr3 := r3.lt
  have ls3 := tw3.size_le
  have lbw3 := bw3.lt
  clear ow3
  clear bw2 r2 tw2
  have ba0 := Box.new w3 #[.int .i64 a, .int .i64 b, .int .i64 c] 40
  go_wp2_with fail
  refine (l2Arg_any (w3.alloc (.cells #[.int .i64 a, .int .i64 b, .int .i64 c] 40)) g (k + 1 + 1 + 4) 11 (r3.alloc _) (by omega)).mono ?_
  rintro e w4 ⟨p, q, r, rfl, r4, ow4⟩
  have bw4 := box_only (bw3.alloc _) ow4 (by omega)
  have ba4 := box_only (ba0) ow4 (by omega)
  have tw4 := (tw3.alloc _).trans ow4
  have lr4 := r4.lt
  have ls4 := tw4.size_le
  have lbw4 := bw4.lt
  have lba4 := ba4.lt
  clear ow4
  clear bw3 r3 tw3 ba0
  have bb0 := Box.new w4 #[.int .i64 p, .int .i64 q, .int .i64 r] 40
  by_cases hq : q < 0
  · have tw40 := tw4.alloc (.cells #[.int .i64 p, .int .i64 q, .int .i64 r] 40)
    have ba40 : Box (w4.alloc (.cells #[.int .i64 p, .int .i64 q, .int .i64 r] 40)) w3.heap.size #[.int .i64 a, .int .i64 b, .int .i64 c] 40 := ba4.alloc _
    have m0 : (w4.alloc (.cells #[.int .i64 p, .int .i64 q, .int .i64 r] 40)).cell? ⟨w3.heap.size, 0, none⟩ = some (.int .i64 a) := (ba40.cell 0).trans (by rfl)
    have mf0 : (w4.alloc (.cells #[.int .i64 p, .int .i64 q, .int .i64 r] 40)).frozen? ⟨w3.heap.size, 0, none⟩ = false := ba40.free 0
    have m1 : (w4.alloc (.cells #[.int .i64 p, .int .i64 q, .int .i64 r] 40)).cell? ⟨w3.heap.size, 1, none⟩ = some (.int .i64 b) := (ba40.cell 1).trans (by rfl)
    have mf1 : (w4.alloc (.cells #[.int .i64 p, .int .i64 q, .int .i64 r] 40)).frozen? ⟨w3.heap.size, 1, none⟩ = false := ba40.free 1
    have m2 : (w4.alloc (.cells #[.int .i64 p, .int .i64 q, .int .i64 r] 40)).cell? ⟨w3.heap.size, 2, none⟩ = some (.int .i64 c) := (ba40.cell 2).trans (by rfl)
    have mf2 : (w4.alloc (.cells #[.int .i64 p, .int .i64 q, .int .i64 r] 40)).frozen? ⟨w3.heap.size, 2, none⟩ = false := ba40.free 2
    have n0 : (w4.alloc (.cells #[.int .i64 p, .int .i64 q, .int .i64 r] 40)).cell? ⟨w4.heap.size, 0, none⟩ = some (.int .i64 p) := (bb0.cell 0).trans (by rfl)
    have nf0 : (w4.alloc (.cells #[.int .i64 p, .int .i64 q, .int .i64 r] 40)).frozen? ⟨w4.heap.size, 0, none⟩ = false := bb0.free 0
    have n1 : (w4.alloc (.cells #[.int .i64 p, .int .i64 q, .int .i64 r] 40)).cell? ⟨w4.heap.size, 1, none⟩ = some (.int .i64 q) := (bb0.cell 1).trans (by rfl)
    have nf1 : (w4.alloc (.cells #[.int .i64 p, .int .i64 q, .int .i64 r] 40)).frozen? ⟨w4.heap.size, 1, none⟩ = false := bb0.free 1
    have n2 : (w4.alloc (.cells #[.int .i64 p, .int .i64 q, .int .i64 r] 40)).cell? ⟨w4.heap.size, 2, none⟩ = some (.int .i64 r) := (bb0.cell 2).trans (by rfl)
    have nf2 : (w4.alloc (.cells #[.int .i64 p, .int .i64 q, .int .i64 r] 40)).frozen? ⟨w4.heap.size, 2, none⟩ = false := bb0.free 2
    go_wp2_with fail
    refine (pick_any (w4.alloc (.cells #[.int .i64 p, .int .i64 q, .int .i64 r] 40)) g (k + 1 + 1 + 4 + 4) 9 (r4.alloc _) (by omega)).mono ?_
    rintro e w5 ⟨u, rfl, hu0, hu1, _, r5, ow5⟩
    have bw5 := box_only (bw4.alloc _) ow5 (by omega)
    have ba5 := box_only (ba4.alloc _) ow5 (by omega)
    have bb5 := box_only (bb0) ow5 (by omega)
    have tw5 := (tw4.alloc _).trans ow5
    have lr5 := r5.lt
    have ls5 := tw5.size_le
    have lbw5 := bw5.lt
    have lba5 := ba5.lt
    have lbb5 := bb5.lt
    clear ow5
    clear m0 mf0 m1 mf1 m2 mf2 n0 nf0 n1 nf1 n2 nf2 bw4 r4 tw4 ba4 ba40 bb0 tw40 hu1 hq
    have bw6 : Box (w5.setCell ⟨w4.heap.size, 1, none⟩ (.int .i64 u)) w.heap.size #[.int .i64 0, .slice none 0 0] 31 := bw5.far (p := ⟨w4.heap.size, 1, none⟩) (by simp; omega) _
    have ba6 : Box (w5.setCell ⟨w4.heap.size, 1, none⟩ (.int .i64 u)) w3.heap.size #[.int .i64 a, .int .i64 b, .int .i64 c] 40 := ba5.far (p := ⟨w4.heap.size, 1, none⟩) (by simp; omega) _
    have bb6 : Box (w5.setCell ⟨w4.heap.size, 1, none⟩ (.int .i64 u)) w4.heap.size #[.int .i64 p, .int .i64 u, .int .i64 r] 40 := bb5.set 1 (.int .i64 u)
    have r6 : Rd 82 (w5.setCell ⟨w4.heap.size, 1, none⟩ (.int .i64 u)) g (k + 15) := (r5.setCell (by simp; omega) _).mono (by omega)
    have tw6 : Only g w (w5.setCell ⟨w4.heap.size, 1, none⟩ (.int .i64 u)) := tw5.setCell (.inr (by simp; omega)) _
    have lw6 := bw6.lt
    have la6 := ba6.lt
    have lb6 := bb6.lt
    have lr6 := r6.lt
    have ls6 := tw6.size_le
    have m0 : w5.cell? ⟨w3.heap.size, 0, none⟩ = some (.int .i64 a) := (ba5.cell 0).trans (by rfl)
    have mf0 : w5.frozen? ⟨w3.heap.size, 0, none⟩ = false := ba5.free 0
    have m1 : w5.cell? ⟨w3.heap.size, 1, none⟩ = some (.int .i64 b) := (ba5.cell 1).trans (by rfl)
    have mf1 : w5.frozen? ⟨w3.heap.size, 1, none⟩ = false := ba5.free 1
    have m2 : w5.cell? ⟨w3.heap.size, 2, none⟩ = some (.int .i64 c) := (ba5.cell 2).trans (by rfl)
    have mf2 : w5.frozen? ⟨w3.heap.size, 2, none⟩ = false := ba5.free 2
    have n0 : w5.cell? ⟨w4.heap.size, 0, none⟩ = some (.int .i64 p) := (bb5.cell 0).trans (by rfl)
    have nf0 : w5.frozen? ⟨w4.heap.size, 0, none⟩ = false := bb5.free 0
    have n1 : w5.cell? ⟨w4.heap.size, 1, none⟩ = some (.int .i64 q) := (bb5.cell 1).trans (by rfl)
    have nf1 : w5.frozen? ⟨w4.heap.size, 1, none⟩ = false := bb5.free 1
    have n2 : w5.cell? ⟨w4.heap.size, 2, none⟩ = some (.int .i64 r) := (bb5.cell 2).trans (by rfl)
    have nf2 : w5.frozen? ⟨w4.heap.size, 2, none⟩ = false := bb5.free 2
    have e0 : w5.cell? ⟨w.heap.size, 0, none⟩ = some (.int .i64 0) := by have := bw5.cell 0; simpa using this
    have e1 : w5.cell? ⟨w.heap.size, 1, none⟩ = some (.slice none 0 0) := by have := bw5.cell 1; simpa using this
    have f0 : w5.frozen? ⟨w.heap.size, 0, none⟩ = false := bw5.free 0
    have f1 : w5.frozen? ⟨w.heap.size, 1, none⟩ = false := bw5.free 1
    have lz := bw5.lt
    have lzr := r5.lt
    have lzs := tw5.size_le
    go_wp2_with fail
    refine (l2Arg_any (w5.setCell ⟨w4.heap.size, 1, none⟩ (.int .i64 u)) g (k + 15) 4 r6 (by omega)).mono ?_
    rintro e w7 ⟨a2, b2, c2, rfl, r7, ow7⟩
    have bw7 := box_only (bw6) ow7 (by omega)
    have tw7 := (tw6).trans ow7
    have lr7 := r7.lt
    have ls7 := tw7.size_le
    have lbw7 := bw7.lt
    clear ow7
    have e0 : w7.cell? ⟨w.heap.size, 0, none⟩ = some (.int .i64 0) := by have := bw7.cell 0; simpa using this
    have e1 : w7.cell? ⟨w.heap.size, 1, none⟩ = some (.slice none 0 0) := by have := bw7.cell 1; simpa using this
    have f0 : w7.frozen? ⟨w.heap.size, 0, none⟩ = false := bw7.free 0
    have f1 : w7.frozen? ⟨w.heap.size, 1, none⟩ = false := bw7.free 1
    have lz := bw7.lt
    have lzr := r7.lt
    have lzs := tw7.size_le
    go_wp2
    have bz := ((bw7.set 0 (.int .i64 25)).set 1 (.slice (some ⟨w7.heap.size, 0, none⟩) 1 1)).alloc (.cells #[.int .i64 a2, .int .i64 b2, .int .i64 c2] 40)
    have d0 := bz.cell 0
    have d1 := bz.cell 1
    replace d0 := d0.trans (show _ = some (.int .i64 25) by rfl)
    replace d1 := d1.trans (show _ = some (.slice (some ⟨w7.heap.size, 0, none⟩) 1 1) by rfl)
    clear bz
    refine bodyPost_ret (v := .agg #[.int .i64 25, .slice (some ⟨w7.heap.size, 0, none⟩) 1 1]) (by simp [results, Tryd.results75, go_sem, d0, d1]) rfl ⟨25, _, 1, 1, [(a2, b2, c2)], rfl, ⟨rfl, by omega, by omega, by omega, .inr ⟨_, rfl, by omega, lie_lit1 _ _ _ a2 b2 c2 (by simp)⟩⟩, ?_, ?_⟩
    · repeat (first | exact r7.mono (by omega) | refine Rd.setCell ?_ (by simp; try omega) _ | refine Rd.alloc ?_ _)
    · repeat (first | exact tw7 | refine Only.setCell ?_ (by right; simp; try omega) _ | refine Only.alloc ?_ _)
  · have bw6 : Box (w4.alloc (.cells #[.int .i64 p, .int .i64 q, .int .i64 r] 40)) w.heap.size #[.int .i64 0, .slice none 0 0] 31 := bw4.alloc _
    have ba6 : Box (w4.alloc (.cells #[.int .i64 p, .int .i64 q, .int .i64 r] 40)) w3.heap.size #[.int .i64 a, .int .i64 b, .int .i64 c] 40 := ba4.alloc _
    have bb6 : Box (w4.alloc (.cells #[.int .i64 p, .int .i64 q, .int .i64 r] 40)) w4.heap.size #[.int .i64 p, .int .i64 q, .int .i64 r] 40 := bb0
    have r6 : Rd 82 (w4.alloc (.cells #[.int .i64 p, .int .i64 q, .int .i64 r] 40)) g (k + 15) := (r4.alloc _).mono (by omega)
    have tw6 : Only g w (w4.alloc (.cells #[.int .i64 p, .int .i64 q, .int .i64 r] 40)) := tw4.alloc _
    have lw6 := bw6.lt
    have la6 := ba6.lt
    have lb6 := bb6.lt
    have lr6 := r6.lt
    have ls6 := tw6.size_le
    have m0 : (w4.alloc (.cells #[.int .i64 p, .int .i64 q, .int .i64 r] 40)).cell? ⟨w3.heap.size, 0, none⟩ = some (.int .i64 a) := (ba6.cell 0).trans (by rfl)
    have mf0 : (w4.alloc (.cells #[.int .i64 p, .int .i64 q, .int .i64 r] 40)).frozen? ⟨w3.heap.size, 0, none⟩ = false := ba6.free 0
    have m1 : (w4.alloc (.cells #[.int .i64 p, .int .i64 q, .int .i64 r] 40)).cell? ⟨w3.heap.size, 1, none⟩ = some (.int .i64 b) := (ba6.cell 1).trans (by rfl)
    have mf1 : (w4.alloc (.cells #[.int .i64 p, .int .i64 q, .int .i64 r] 40)).frozen? ⟨w3.heap.size, 1, none⟩ = false := ba6.free 1
    have m2 : (w4.alloc (.cells #[.int .i64 p, .int .i64 q, .int .i64 r] 40)).cell? ⟨w3.heap.size, 2, none⟩ = some (.int .i64 c) := (ba6.cell 2).trans (by rfl)
    have mf2 : (w4.alloc (.cells #[.int .i64 p, .int .i64 q, .int .i64 r] 40)).frozen? ⟨w3.heap.size, 2, none⟩ = false := ba6.free 2
    have n0 : (w4.alloc (.cells #[.int .i64 p, .int .i64 q, .int .i64 r] 40)).cell? ⟨w4.heap.size, 0, none⟩ = some (.int .i64 p) := (bb6.cell 0).trans (by rfl)
    have nf0 : (w4.alloc (.cells #[.int .i64 p, .int .i64 q, .int .i64 r] 40)).frozen? ⟨w4.heap.size, 0, none⟩ = false := bb6.free 0
    have n1 : (w4.alloc (.cells #[.int .i64 p, .int .i64 q, .int .i64 r] 40)).cell? ⟨w4.heap.size, 1, none⟩ = some (.int .i64 q) := (bb6.cell 1).trans (by rfl)
    have nf1 : (w4.alloc (.cells #[.int .i64 p, .int .i64 q, .int .i64 r] 40)).frozen? ⟨w4.heap.size, 1, none⟩ = false := bb6.free 1
    have n2 : (w4.alloc (.cells #[.int .i64 p, .int .i64 q, .int .i64 r] 40)).cell? ⟨w4.heap.size, 2, none⟩ = some (.int .i64 r) := (bb6.cell 2).trans (by rfl)
    have nf2 : (w4.alloc (.cells #[.int .i64 p, .int .i64 q, .int .i64 r] 40)).frozen? ⟨w4.heap.size, 2, none⟩ = false := bb6.free 2
    have l0 : w4.cell? ⟨w3.heap.size, 0, none⟩ = some (.int .i64 a) := (ba4.cell 0).trans (by rfl)
    have lf0 : w4.frozen? ⟨w3.heap.size, 0, none⟩ = false := ba4.free 0
    have l1 : w4.cell? ⟨w3.heap.size, 1, none⟩ = some (.int .i64 b) := (ba4.cell 1).trans (by rfl)
    have lf1 : w4.frozen? ⟨w3.heap.size, 1, none⟩ = false := ba4.free 1
    have l2 : w4.cell? ⟨w3.heap.size, 2, none⟩ = some (.int .i64 c) := (ba4.cell 2).trans (by rfl)
    have lf2 : w4.frozen? ⟨w3.heap.size, 2, none⟩ = false := ba4.free 2
    have e0 : w4.cell? ⟨w.heap.size, 0, none⟩ = some (.int .i64 0) := by have := bw4.cell 0; simpa using this
    have e1 : w4.cell? ⟨w.heap.size, 1, none⟩ = some (.slice none 0 0) := by have := bw4.cell 1; simpa using this
    have f0 : w4.frozen? ⟨w.heap.size, 0, none⟩ = false := bw4.free 0
    have f1 : w4.frozen? ⟨w.heap.size, 1, none⟩ = false := bw4.free 1
    have lz := bw4.lt
    have lzr := r4.lt
    have lzs := tw4.size_le
    go_wp2_with fail
    refine (l2Arg_any (w4.alloc (.cells #[.int .i64 p, .int .i64 q, .int .i64 r] 40)) g (k + 15) 4 r6 (by omega)).mono ?_
    rintro e w7 ⟨a2, b2, c2, rfl, r7, ow7⟩
    have bw7 := box_only (bw6) ow7 (by omega)
    have tw7 := (tw6).trans ow7
    have lr7 := r7.lt
    have ls7 := tw7.size_le
    have lbw7 := bw7.lt
    clear ow7
    have e0 : w7.cell? ⟨w.heap.size, 0, none⟩ = some (.int .i64 0) := by have := bw7.cell 0; simpa using this
    have e1 : w7.cell? ⟨w.heap.size, 1, none⟩ = some (.slice none 0 0) := by have := bw7.cell 1; simpa using this
    have f0 : w7.frozen? ⟨w.heap.size, 0, none⟩ = false := bw7.free 0
    have f1 : w7.frozen? ⟨w.heap.size, 1, none⟩ = false := bw7.free 1
    have lz := bw7.lt
    have lzr := r7.lt
    have lzs := tw7.size_le
    go_wp2
    have bz := ((bw7.set 0 (.int .i64 25)).set 1 (.slice (some ⟨w7.heap.size, 0, none⟩) 1 1)).alloc (.cells #[.int .i64 a2, .int .i64 b2, .int .i64 c2] 40)
    have d0 := bz.cell 0
    have d1 := bz.cell 1
    replace d0 := d0.trans (show _ = some (.int .i64 25) by rfl)
    replace d1 := d1.trans (show _ = some (.slice (some ⟨w7.heap.size, 0, none⟩) 1 1) by rfl)
    clear bz
    refine bodyPost_ret (v := .agg #[.int .i64 25, .slice (some ⟨w7.heap.size, 0, none⟩) 1 1]) (by simp [results, Tryd.results75, go_sem, d0, d1]) rfl ⟨25, _, 1, 1, [(a2, b2, c2)], rfl, ⟨rfl, by omega, by omega, by omega, .inr ⟨_, rfl, by omega, lie_lit1 _ _ _ a2 b2 c2 (by simp)⟩⟩, ?_, ?_⟩
    · repeat (first | exact r7.mono (by omega) | refine Rd.setCell ?_ (by simp; try omega) _ | refine Rd.alloc ?_ _)
    · repeat (first | exact tw7 | refine Only.setCell ?_ (by right; simp; try omega) _ | refine Only.alloc ?_ _)
set_option maxRecDepth 100000 in
set_option maxHeartbeats 2000000 in
theorem l4Coil_36 (w : World) (g k : Nat) (h : Rd 82 w g k) (hk : k ≤ 80000) (hn : Calls Tryd.prog 77 #[.pointer (some ⟨g, 0, none⟩), .slice (some ⟨w.heap.size + 1, 0, none⟩) 22 22] ((w.alloc (.cells #[.int .i64 0, .slice none 0 0] 31)).alloc (.cells (([21, 21, 21, 22, 23, 24, 25, 26, 26, 27, 28, 29, 29, 30, 31, 31, 32, 33, 34, 35, 36, 37] : List Int).map (Value.int .i64)).toArray 3)) fun e w1 => e = .returned (.int .i64 36) ∧ Rd 82 w1 g (k + 1) ∧ Only g ((w.alloc (.cells #[.int .i64 0, .slice none 0 0] 31)).alloc (.cells (([21, 21, 21, 22, 23, 24, 25, 26, 26, 27, 28, 29, 29, 30, 31, 31, 32, 33, 34, 35, 36, 37] : List Int).map (Value.int .i64)).toArray 3)) w1) : Calls Tryd.prog 75 #[.pointer (some ⟨g, 0, none⟩)] w (DrewE 40 w g k) := by
  have hlt := h.lt
  have b0 := (Box.new w #[.int .i64 0, .slice none 0 0] 31).alloc (.cells (([21, 21, 21, 22, 23, 24, 25, 26, 26, 27, 28, 29, 29, 30, 31, 31, 32, 33, 34, 35, 36, 37] : List Int).map (Value.int .i64)).toArray 3)
  have o0 : Only g w ((w.alloc (.cells #[.int .i64 0, .slice none 0 0] 31)).alloc (.cells (([21, 21, 21, 22, 23, 24, 25, 26, 26, 27, 28, 29, 29, 30, 31, 31, 32, 33, 34, 35, 36, 37] : List Int).map (Value.int .i64)).toArray 3)) := ((Only.refl g w).alloc _).alloc _
  have HB := Lib.hid (And.intro b0 o0)
  clear b0 o0 h
  go_enter Tryd.func75, Tryd.ntmps75
  go_wp2_with fail
  refine hn.mono ?_
  rintro e w1 ⟨rfl, r1, ow1⟩
  have bw1 := box_only HB.out.1 ow1 (by omega)
  have tw1 := HB.out.2.trans ow1
  clear ow1 hn HB
  go_wp2_with fail
  refine (pick_any w1 g (k + 1) 2 r1 (by omega)).mono ?_
  rintro e w2 ⟨y, rfl, hy0, hy1, _, r2, ow2⟩
  have bw2 := box_only (bw1) ow2 (by omega)
  have tw2 := (tw1).trans ow2
  have lr2 := r2.lt
  have ls2 := tw2.size_le
  have lbw2 := bw2.lt
  clear ow2
  clear bw1 r1 tw1
  have hy2 := hy1 (by omega)
  clear hy1
  go_wp2_with fail
  refine (l2Arg_any w2 g (k + 1 + 1) (2 + y) r2 (by omega)).mono ?_
  rintro e w3 ⟨a, b, c, rfl, r3, ow3⟩
  have bw3 := box_only (bw2) ow3 (by omega)
  have tw3 := (tw2).trans ow3
  have lr3 := r3.lt
  have ls3 := tw3.size_le
  have lbw3 := bw3.lt
  clear ow3
  clear bw2 r2 tw2
  have ba0 := Box.new w3 #[.int .i64 a, .int .i64 b, .int .i64 c] 40
  go_wp2_with fail
  refine (l2Arg_any (w3.alloc (.cells #[.int .i64 a, .int .i64 b, .int .i64 c] 40)) g (k + 1 + 1 + 4) 11 (r3.alloc _) (by omega)).mono ?_
  rintro e w4 ⟨p, q, r, rfl, r4, ow4⟩
  have bw4 := box_only (bw3.alloc _) ow4 (by omega)
  have ba4 := box_only (ba0) ow4 (by omega)
  have tw4 := (tw3.alloc _).trans ow4
  have lr4 := r4.lt
  have ls4 := tw4.size_le
  have lbw4 := bw4.lt
  have lba4 := ba4.lt
  clear ow4
  clear bw3 r3 tw3 ba0
  have bb0 := Box.new w4 #[.int .i64 p, .int .i64 q, .int .i64 r] 40
  by_cases hq : q < 0
  · have tw40 := tw4.alloc (.cells #[.int .i64 p, .int .i64 q, .int .i64 r] 40)
    have ba40 : Box (w4.alloc (.cells #[.int .i64 p, .int .i64 q, .int .i64 r] 40)) w3.heap.size #[.int .i64 a, .int .i64 b, .int .i64 c] 40 := ba4.alloc _
    have m0 : (w4.alloc (.cells #[.int .i64 p, .int .i64 q, .int .i64 r] 40)).cell? ⟨w3.heap.size, 0, none⟩ = some (.int .i64 a) := (ba40.cell 0).trans (by rfl)
    have mf0 : (w4.alloc (.cells #[.int .i64 p, .int .i64 q, .int .i64 r] 40)).frozen? ⟨w3.heap.size, 0, none⟩ = false := ba40.free 0
    have m1 : (w4.alloc (.cells #[.int .i64 p, .int .i64 q, .int .i64 r] 40)).cell? ⟨w3.heap.size, 1, none⟩ = some (.int .i64 b) := (ba40.cell 1).trans (by rfl)
    have mf1 : (w4.alloc (.cells #[.int .i64 p, .int .i64 q, .int .i64 r] 40)).frozen? ⟨w3.heap.size, 1, none⟩ = false := ba40.free 1
    have m2 : (w4.alloc (.cells #[.int .i64 p, .int .i64 q, .int .i64 r] 40)).cell? ⟨w3.heap.size, 2, none⟩ = some (.int .i64 c) := (ba40.cell 2).trans (by rfl)
    have mf2 : (w4.alloc (.cells #[.int .i64 p, .int .i64 q, .int .i64 r] 40)).frozen? ⟨w3.heap.size, 2, none⟩ = false := ba40.free 2
    have n0 : (w4.alloc (.cells #[.int .i64 p, .int .i64 q, .int .i64 r] 40)).cell? ⟨w4.heap.size, 0, none⟩ = some (.int .i64 p) := (bb0.cell 0).trans (by rfl)
    have nf0 : (w4.alloc (.cells #[.int .i64 p, .int .i64 q, .int .i64 r] 40)).frozen? ⟨w4.heap.size, 0, none⟩ = false := bb0.free 0
    have n1 : (w4.alloc (.cells #[.int .i64 p, .int .i64 q, .int .i64 r] 40)).cell? ⟨w4.heap.size, 1, none⟩ = some (.int .i64 q) := (bb0.cell 1).trans (by rfl)
    have nf1 : (w4.alloc (.cells #[.int .i64 p, .int .i64 q, .int .i64 r] 40)).frozen? ⟨w4.heap.size, 1, none⟩ = false := bb0.free 1
    have n2 : (w4.alloc (.cells #[.int .i64 p, .int .i64 q, .int .i64 r] 40)).cell? ⟨w4.heap.size, 2, none⟩ = some (.int .i64 r) := (bb0.cell 2).trans (by rfl)
    have nf2 : (w4.alloc (.cells #[.int .i64 p, .int .i64 q, .int .i64 r] 40)).frozen? ⟨w4.heap.size, 2, none⟩ = false := bb0.free 2
    go_wp2_with fail
    refine (pick_any (w4.alloc (.cells #[.int .i64 p, .int .i64 q, .int .i64 r] 40)) g (k + 1 + 1 + 4 + 4) 9 (r4.alloc _) (by omega)).mono ?_
    rintro e w5 ⟨u, rfl, hu0, hu1, _, r5, ow5⟩
    have bw5 := box_only (bw4.alloc _) ow5 (by omega)
    have ba5 := box_only (ba4.alloc _) ow5 (by omega)
    have bb5 := box_only (bb0) ow5 (by omega)
    have tw5 := (tw4.alloc _).trans ow5
    have lr5 := r5.lt
    have ls5 := tw5.size_le
    have lbw5 := bw5.lt
    have lba5 := ba5.lt
    have lbb5 := bb5.lt
    clear ow5
    clear m0 mf0 m1 mf1 m2 mf2 n0 nf0 n1 nf1 n2 nf2 bw4 r4 tw4 ba4 ba40 bb0 tw40 hu1 hq
    have bw6 : Box (w5.setCell ⟨w4.heap.size, 1, none⟩ (.int .i64 u)) w.heap.size #[.int .i64 0, .slice none 0 0] 31 := bw5.far (p := ⟨w4.heap.size, 1, none⟩) (by simp; omega) _
    have ba6 : Box (w5.setCell ⟨w4.heap.size, 1, none⟩ (.int .i64 u)) w3.heap.size #[.int .i64 a, .int .i64 b, .int .i64 c] 40 := ba5.far (p := ⟨w4.heap.size, 1, none⟩) (by simp; omega) _
    have bb6 : Box (w5.setCell ⟨w4.heap.size, 1, none⟩ (.int .i64 u)) w4.heap.size #[.int .i64 p, .int .i64 u, .int .i64 r] 40 := bb5.set 1 (.int .i64 u)
    have r6 : Rd 82 (w5.setCell ⟨w4.heap.size, 1, none⟩ (.int .i64 u)) g (k + 15) := (r5.setCell (by simp; omega) _).mono (by omega)
    have tw6 : Only g w (w5.setCell ⟨w4.heap.size, 1, none⟩ (.int .i64 u)) := tw5.setCell (.inr (by simp; omega)) _
    have lw6 := bw6.lt
    have la6 := ba6.lt
    have lb6 := bb6.lt
    have lr6 := r6.lt
    have ls6 := tw6.size_le
    have m0 : w5.cell? ⟨w3.heap.size, 0, none⟩ = some (.int .i64 a) := (ba5.cell 0).trans (by rfl)
    have mf0 : w5.frozen? ⟨w3.heap.size, 0, none⟩ = false := ba5.free 0
    have m1 : w5.cell? ⟨w3.heap.size, 1, none⟩ = some (.int .i64 b) := (ba5.cell 1).trans (by rfl)
    have mf1 : w5.frozen? ⟨w3.heap.size, 1, none⟩ = false := ba5.free 1
    have m2 : w5.cell? ⟨w3.heap.size, 2, none⟩ = some (.int .i64 c) := (ba5.cell 2).trans (by rfl)
    have mf2 : w5.frozen? ⟨w3.heap.size, 2, none⟩ = false := ba5.free 2
    have n0 : w5.cell? ⟨w4.heap.size, 0, none⟩ = some (.int .i64 p) := (bb5.cell 0).trans (by rfl)
    have nf0 : w5.frozen? ⟨w4.heap.size, 0, none⟩ = false := bb5.free 0
    have n1 : w5.cell? ⟨w4.heap.size, 1, none⟩ = some (.int .i64 q) := (bb5.cell 1).trans (by rfl)
    have nf1 : w5.frozen? ⟨w4.heap.size, 1, none⟩ = false := bb5.free 1
    have n2 : w5.cell? ⟨w4.heap.size, 2, none⟩ = some (.int .i64 r) := (bb5.cell 2).trans (by rfl)
    have nf2 : w5.frozen? ⟨w4.heap.size, 2, none⟩ = false := bb5.free 2
    have e0 : w5.cell? ⟨w.heap.size, 0, none⟩ = some (.int .i64 0) := by have := bw5.cell 0; simpa using this
    have e1 : w5.cell? ⟨w.heap.size, 1, none⟩ = some (.slice none 0 0) := by have := bw5.cell 1; simpa using this
    have f0 : w5.frozen? ⟨w.heap.size, 0, none⟩ = false := bw5.free 0
    have f1 : w5.frozen? ⟨w.heap.size, 1, none⟩ = false := bw5.free 1
    have lz := bw5.lt
    have lzr := r5.lt
    have lzs := tw5.size_le
    go_wp2_with fail
    refine (l2Arg_any (w5.setCell ⟨w4.heap.size, 1, none⟩ (.int .i64 u)) g (k + 15) 10 r6 (by omega)).mono ?_
    rintro e w7 ⟨a2, b2, c2, rfl, r7, ow7⟩
    have bw7 := box_only (bw6) ow7 (by omega)
    have tw7 := (tw6).trans ow7
    have lr7 := r7.lt
    have ls7 := tw7.size_le
    have lbw7 := bw7.lt
    clear ow7
    go_wp2_with fail
    refine (l4Whole_any w7 g (k + 15 + 4) r7 (by omega)).mono ?_
    rintro e w8 ⟨a3, b3, c3, rfl, r8, ow8⟩
    have bw8 := box_only (bw7) ow8 (by omega)
    have tw8 := (tw7).trans ow8
    have lr8 := r8.lt
    have ls8 := tw8.size_le
    have lbw8 := bw8.lt
    clear ow8
    have e0 : w8.cell? ⟨w.heap.size, 0, none⟩ = some (.int .i64 0) := by have := bw8.cell 0; simpa using this
    have e1 : w8.cell? ⟨w.heap.size, 1, none⟩ = some (.slice none 0 0) := by have := bw8.cell 1; simpa using this
    have f0 : w8.frozen? ⟨w.heap.size, 0, none⟩ = false := bw8.free 0
    have f1 : w8.frozen? ⟨w.heap.size, 1, none⟩ = false := bw8.free 1
    have lz := bw8.lt
    have lzr := r8.lt
    have lzs := tw8.size_le
    go_wp2
    have bz := ((bw8.set 0 (.int .i64 36)).set 1 (.slice (some ⟨w8.heap.size, 0, none⟩) 2 2)).alloc (.cells #[.int .i64 a2, .int .i64 b2, .int .i64 c2, .int .i64 a3, .int .i64 b3, .int .i64 c3] 40)
    have d0 := bz.cell 0
    have d1 := bz.cell 1
    replace d0 := d0.trans (show _ = some (.int .i64 36) by rfl)
    replace d1 := d1.trans (show _ = some (.slice (some ⟨w8.heap.size, 0, none⟩) 2 2) by rfl)
    clear bz
    refine bodyPost_ret (v := .agg #[.int .i64 36, .slice (some ⟨w8.heap.size, 0, none⟩) 2 2]) (by simp [results, Tryd.results75, go_sem, d0, d1]) rfl ⟨36, _, 2, 2, [(a2, b2, c2), (a3, b3, c3)], rfl, ⟨rfl, by omega, by omega, by omega, .inr ⟨_, rfl, by omega, lie_lit2 _ _ _ a2 b2 c2 a3 b3 c3 (by simp)⟩⟩, ?_, ?_⟩
    · repeat (first | exact r8.mono (by omega) | refine Rd.setCell ?_ (by simp; try omega) _ | refine Rd.alloc ?_ _)
    · repeat (first | exact tw8 | refine Only.setCell ?_ (by right; simp; try omega) _ | refine Only.alloc ?_ _)
  · have bw6 : Box (w4.alloc (.cells #[.int .i64 p, .int .i64 q, .int .i64 r] 40)) w.heap.size #[.int .i64 0, .slice none 0 0] 31 := bw4.alloc _
    have ba6 : Box (w4.alloc (.cells #[.int .i64 p, .int .i64 q, .int .i64 r] 40)) w3.heap.size #[.int .i64 a, .int .i64 b, .int .i64 c] 40 := ba4.alloc _
    have bb6 : Box (w4.alloc (.cells #[.int .i64 p, .int .i64 q, .int .i64 r] 40)) w4.heap.size #[.int .i64 p, .int .i64 q, .int .i64 r] 40 := bb0
    have r6 : Rd 82 (w4.alloc (.cells #[.int .i64 p, .int .i64 q, .int .i64 r] 40)) g (k + 15) := (r4.alloc _).mono (by omega)
    have tw6 : Only g w (w4.alloc (.cells #[.int .i64 p, .int .i64 q, .int .i64 r] 40)) := tw4.alloc _
    have lw6 := bw6.lt
    have la6 := ba6.lt
    have lb6 := bb6.lt
    have lr6 := r6.lt
    have ls6 := tw6.size_le
    have m0 : (w4.alloc (.cells #[.int .i64 p, .int .i64 q, .int .i64 r] 40)).cell? ⟨w3.heap.size, 0, none⟩ = some (.int .i64 a) := (ba6.cell 0).trans (by rfl)
    have mf0 : (w4.alloc (.cells #[.int .i64 p, .int .i64 q, .int .i64 r] 40)).frozen? ⟨w3.heap.size, 0, none⟩ = false := ba6.free 0
    have m1 : (w4.alloc (.cells #[.int .i64 p, .int .i64 q, .int .i64 r] 40)).cell? ⟨w3.heap.size, 1, none⟩ = some (.int .i64 b) := (ba6.cell 1).trans (by rfl)
    have mf1 : (w4.alloc (.cells #[.int .i64 p, .int .i64 q, .int .i64 r] 40)).frozen? ⟨w3.heap.size, 1, none⟩ = false := ba6.free 1
    have m2 : (w4.alloc (.cells #[.int .i64 p, .int .i64 q, .int .i64 r] 40)).cell? ⟨w3.heap.size, 2, none⟩ = some (.int .i64 c) := (ba6.cell 2).trans (by rfl)
    have mf2 : (w4.alloc (.cells #[.int .i64 p, .int .i64 q, .int .i64 r] 40)).frozen? ⟨w3.heap.size, 2, none⟩ = false := ba6.free 2
    have n0 : (w4.alloc (.cells #[.int .i64 p, .int .i64 q, .int .i64 r] 40)).cell? ⟨w4.heap.size, 0, none⟩ = some (.int .i64 p) := (bb6.cell 0).trans (by rfl)
    have nf0 : (w4.alloc (.cells #[.int .i64 p, .int .i64 q, .int .i64 r] 40)).frozen? ⟨w4.heap.size, 0, none⟩ = false := bb6.free 0
    have n1 : (w4.alloc (.cells #[.int .i64 p, .int .i64 q, .int .i64 r] 40)).cell? ⟨w4.heap.size, 1, none⟩ = some (.int .i64 q) := (bb6.cell 1).trans (by rfl)
    have nf1 : (w4.alloc (.cells #[.int .i64 p, .int .i64 q, .int .i64 r] 40)).frozen? ⟨w4.heap.size, 1, none⟩ = false := bb6.free 1
    have n2 : (w4.alloc (.cells #[.int .i64 p, .int .i64 q, .int .i64 r] 40)).cell? ⟨w4.heap.size, 2, none⟩ = some (.int .i64 r) := (bb6.cell 2).trans (by rfl)
    have nf2 : (w4.alloc (.cells #[.int .i64 p, .int .i64 q, .int .i64 r] 40)).frozen? ⟨w4.heap.size, 2, none⟩ = false := bb6.free 2
    have l0 : w4.cell? ⟨w3.heap.size, 0, none⟩ = some (.int .i64 a) := (ba4.cell 0).trans (by rfl)
    have lf0 : w4.frozen? ⟨w3.heap.size, 0, none⟩ = false := ba4.free 0
    have l1 : w4.cell? ⟨w3.heap.size, 1, none⟩ = some (.int .i64 b) := (ba4.cell 1).trans (by rfl)
    have lf1 : w4.frozen? ⟨w3.heap.size, 1, none⟩ = false := ba4.free 1
    have l2 : w4.cell? ⟨w3.heap.size, 2, none⟩ = some (.int .i64 c) := (ba4.cell 2).trans (by rfl)
    have lf2 : w4.frozen? ⟨w3.heap.size, 2, none⟩ = false := ba4.free 2
    have e0 : w4.cell? ⟨w.heap.size, 0, none⟩ = some (.int .i64 0) := by have := bw4.cell 0; simpa using this
    have e1 : w4.cell? ⟨w.heap.size, 1, none⟩ = some (.slice none 0 0) := by have := bw4.cell 1; simpa using this
    have f0 : w4.frozen? ⟨w.heap.size, 0, none⟩ = false := bw4.free 0
    have f1 : w4.frozen? ⟨w.heap.size, 1, none⟩ = false := bw4.free 1
    have lz := bw4.lt
    have lzr := r4.lt
    have lzs := tw4.size_le
    go_wp2_with fail
    refine (l2Arg_any (w4.alloc (.cells #[.int .i64 p, .int .i64 q, .int .i64 r] 40)) g (k + 15) 10 r6 (by omega)).mono ?_
    rintro e w7 ⟨a2, b2, c2, rfl, r7, ow7⟩
    have bw7 := box_only (bw6) ow7 (by omega)
    have tw7 := (tw6).trans ow7
    have lr7 := r7.lt
    have ls7 := tw7.size_le
    have lbw7 := bw7.lt
    clear ow7
    go_wp2_with fail
    refine (l4Whole_any w7 g (k + 15 + 4) r7 (by omega)).mono ?_
    rintro e w8 ⟨a3, b3, c3, rfl, r8, ow8⟩
    have bw8 := box_only (bw7) ow8 (by omega)
    have tw8 := (tw7).trans ow8
    have lr8 := r8.lt
    have ls8 := tw8.size_le
    have lbw8 := bw8.lt
    clear ow8
    have e0 : w8.cell? ⟨w.heap.size, 0, none⟩ = some (.int .i64 0) := by have := bw8.cell 0; simpa using this
    have e1 : w8.cell? ⟨w.heap.size, 1, none⟩ = some (.slice none 0 0) := by have := bw8.cell 1; simpa using this
    have f0 : w8.frozen? ⟨w.heap.size, 0, none⟩ = false := bw8.free 0
    have f1 : w8.frozen? ⟨w.heap.size, 1, none⟩ = false := bw8.free 1
    have lz := bw8.lt
    have lzr := r8.lt
    have lzs := tw8.size_le
    go_wp2
    have bz := ((bw8.set 0 (.int .i64 36)).set 1 (.slice (some ⟨w8.heap.size, 0, none⟩) 2 2)).alloc (.cells #[.int .i64 a2, .int .i64 b2, .int .i64 c2, .int .i64 a3, .int .i64 b3, .int .i64 c3] 40)
    have d0 := bz.cell 0
    have d1 := bz.cell 1
    replace d0 := d0.trans (show _ = some (.int .i64 36) by rfl)
    replace d1 := d1.trans (show _ = some (.slice (some ⟨w8.heap.size, 0, none⟩) 2 2) by rfl)
    clear bz
    refine bodyPost_ret (v := .agg #[.int .i64 36, .slice (some ⟨w8.heap.size, 0, none⟩) 2 2]) (by simp [results, Tryd.results75, go_sem, d0, d1]) rfl ⟨36, _, 2, 2, [(a2, b2, c2), (a3, b3, c3)], rfl, ⟨rfl, by omega, by omega, by omega, .inr ⟨_, rfl, by omega, lie_lit2 _ _ _ a2 b2 c2 a3 b3 c3 (by simp)⟩⟩, ?_, ?_⟩
    · repeat (first | exact r8.mono (by omega) | refine Rd.setCell ?_ (by simp; try omega) _ | refine Rd.alloc ?_ _)
    · repeat (first | exact tw8 | refine Only.setCell ?_ (by right; simp; try omega) _ | refine Only.alloc ?_ _)
set_option maxRecDepth 100000 in
set_option maxHeartbeats 2000000 in
theorem l4Coil_37 (w : World) (g k : Nat) (h : Rd 82 w g k) (hk : k ≤ 80000) (hn : Calls Tryd.prog 77 #[.pointer (some ⟨g, 0, none⟩), .slice (some ⟨w.heap.size + 1, 0, none⟩) 22 22] ((w.alloc (.cells #[.int .i64 0, .slice none 0 0] 31)).alloc (.cells (([21, 21, 21, 22, 23, 24, 25, 26, 26, 27, 28, 29, 29, 30, 31, 31, 32, 33, 34, 35, 36, 37] : List Int).map (Value.int .i64)).toArray 3)) fun e w1 => e = .returned (.int .i64 37) ∧ Rd 82 w1 g (k + 1) ∧ Only g ((w.alloc (.cells #[.int .i64 0, .slice none 0 0] 31)).alloc (.cells (([21, 21, 21, 22, 23, 24, 25, 26, 26, 27, 28, 29, 29, 30, 31, 31, 32, 33, 34, 35, 36, 37] : List Int).map (Value.int .i64)).toArray 3)) w1) : Calls Tryd.prog 75 #[.pointer (some ⟨g, 0, none⟩)] w (DrewE 40 w g k) := by
  have hlt := h.lt
  have b0 := (Box.new w #[.int .i64 0, .slice none 0 0] 31).alloc (.cells (([21, 21, 21, 22, 23, 24, 25, 26, 26, 27, 28, 29, 29, 30, 31, 31, 32, 33, 34, 35, 36, 37] : List Int).map (Value.int .i64)).toArray 3)
  have o0 : Only g w ((w.alloc (.cells #[.int .i64 0, .slice none 0 0] 31)).alloc (.cells (([21, 21, 21, 22, 23, 24, 25, 26, 26, 27, 28, 29, 29, 30, 31, 31, 32, 33, 34, 35, 36, 37] : List Int).map (Value.int .i64)).toArray 3)) := ((Only.refl g w).alloc _).alloc _
  have HB := Lib.hid (And.intro b0 o0)
  clear b0 o0 h
  go_enter Tryd.func75, Tryd.ntmps75
  go_wp2_with fail
  refine hn.mono ?_
  rintro e w1 ⟨rfl, r1, ow1⟩
  have bw1 := box_only HB.out.1 ow1 (by omega)
  have tw1 := HB.out.2.trans ow1
  clear ow1 hn HB
  go_wp2_with fail
  refine (pick_any w1 g (k + 1) 2 r1 (by omega)).mono ?_
  rintro e w2 ⟨y, rfl, hy0, hy1, _, r2, ow2⟩
  have bw2 := box_only (bw1) ow2 (by omega)
  have tw2 := (tw1).trans ow2
  have lr2 := r2.lt
  have ls2 := tw2.size_le
  have lbw2 := bw2.lt
  clear ow2
  clear bw1 r1 tw1
  have hy2 := hy1 (by omega)
  clear hy1
  go_wp2_with fail
  refine (l2Arg_any w2 g (k + 1 + 1) (2 + y) r2 (by omega)).mono ?_
  rintro e w3 ⟨a, b, c, rfl, r3, ow3⟩
  have bw3 := box_only (bw2) ow3 (by omega)
  have tw3 := (tw2).trans ow3
  have lr3 := r3.lt
  have ls3 := tw3.size_le
  have lbw3 := bw3.lt
  clear ow3
  clear bw2 r2 tw2
  have ba0 := Box.new w3 #[.int .i64 a, .int .i64 b, .int .i64 c] 40
  go_wp2_with fail
  refine (l2Arg_any (w3.alloc (.cells #[.int .i64 a, .int .i64 b, .int .i64 c] 40)) g (k + 1 + 1 + 4) 11 (r3.alloc _) (by omega)).mono ?_
  rintro e w4 ⟨p, q, r, rfl, r4, ow4⟩
  have bw4 := box_only (bw3.alloc _) ow4 (by omega)
  have ba4 := box_only (ba0) ow4 (by omega)
  have tw4 := (tw3.alloc _).trans ow4
  have lr4 := r4.lt
  have ls4 := tw4.size_le
  have lbw4 := bw4.lt
  have lba4 := ba4.lt
  clear ow4
  clear bw3 r3 tw3 ba0
  have bb0 := Box.new w4 #[.int .i64 p, .int .i64 q, .int .i64 r] 40
  by_cases hq : q < 0
  · have tw40 := tw4.alloc (.cells #[.int .i64 p, .int .i64 q, .int .i64 r] 40)
    have ba40 : Box (w4.alloc (.cells #[.int .i64 p, .int .i64 q, .int .i64 r] 40)) w3.heap.size #[.int .i64 a, .int .i64 b, .int .i64 c] 40 := ba4.alloc _
    have m0 : (w4.alloc (.cells #[.int .i64 p, .int .i64 q, .int .i64 r] 40)).cell? ⟨w3.heap.size, 0, none⟩ = some (.int .i64 a) := (ba40.cell 0).trans (by rfl)
    have mf0 : (w4.alloc (.cells #[.int .i64 p, .int .i64 q, .int .i64 r] 40)).frozen? ⟨w3.heap.size, 0, none⟩ = false := ba40.free 0
    have m1 : (w4.alloc (.cells #[.int .i64 p, .int .i64 q, .int .i64 r] 40)).cell? ⟨w3.heap.size, 1, none⟩ = some (.int .i64 b) := (ba40.cell 1).trans (by rfl)
    have mf1 : (w4.alloc (.cells #[.int .i64 p, .int .i64 q, .int .i64 r] 40)).frozen? ⟨w3.heap.size, 1, none⟩ = false := ba40.free 1
    have m2 : (w4.alloc (.cells #[.int .i64 p, .int .i64 q, .int .i64 r] 40)).cell? ⟨w3.heap.size, 2, none⟩ = some (.int .i64 c) := (ba40.cell 2).trans (by rfl)
    have mf2 : (w4.alloc (.cells #[.int .i64 p, .int .i64 q, .int .i64 r] 40)).frozen? ⟨w3.heap.size, 2, none⟩ = false := ba40.free 2
    have n0 : (w4.alloc (.cells #[.int .i64 p, .int .i64 q, .int .i64 r] 40)).cell? ⟨w4.heap.size, 0, none⟩ = some (.int .i64 p) := (bb0.cell 0).trans (by rfl)
    have nf0 : (w4.alloc (.cells #[.int .i64 p, .int .i64 q, .int .i64 r] 40)).frozen? ⟨w4.heap.size, 0, none⟩ = false := bb0.free 0
    have n1 : (w4.alloc (.cells #[.int .i64 p, .int .i64 q, .int .i64 r] 40)).cell? ⟨w4.heap.size, 1, none⟩ = some (.int .i64 q) := (bb0.cell 1).trans (by rfl)
    have nf1 : (w4.alloc (.cells #[.int .i64 p, .int .i64 q, .int .i64 r] 40)).frozen? ⟨w4.heap.size, 1, none⟩ = false := bb0.free 1
    have n2 : (w4.alloc (.cells #[.int .i64 p, .int .i64 q, .int .i64 r] 40)).cell? ⟨w4.heap.size, 2, none⟩ = some (.int .i64 r) := (bb0.cell 2).trans (by rfl)
    have nf2 : (w4.alloc (.cells #[.int .i64 p, .int .i64 q, .int .i64 r] 40)).frozen? ⟨w4.heap.size, 2, none⟩ = false := bb0.free 2
    go_wp2_with fail
    refine (pick_any (w4.alloc (.cells #[.int .i64 p, .int .i64 q, .int .i64 r] 40)) g (k + 1 + 1 + 4 + 4) 9 (r4.alloc _) (by omega)).mono ?_
    rintro e w5 ⟨u, rfl, hu0, hu1, _, r5, ow5⟩
    have bw5 := box_only (bw4.alloc _) ow5 (by omega)
    have ba5 := box_only (ba4.alloc _) ow5 (by omega)
    have bb5 := box_only (bb0) ow5 (by omega)
    have tw5 := (tw4.alloc _).trans ow5
    have lr5 := r5.lt
    have ls5 := tw5.size_le
    have lbw5 := bw5.lt
    have lba5 := ba5.lt
    have lbb5 := bb5.lt
    clear ow5
    clear m0 mf0 m1 mf1 m2 mf2 n0 nf0 n1 nf1 n2 nf2 bw4 r4 tw4 ba4 ba40 bb0 tw40 hu1 hq
    have bw6 : Box (w5.setCell ⟨w4.heap.size, 1, none⟩ (.int .i64 u)) w.heap.size #[.int .i64 0, .slice none 0 0] 31 := bw5.far (p := ⟨w4.heap.size, 1, none⟩) (by simp; omega) _
    have ba6 : Box (w5.setCell ⟨w4.heap.size, 1, none⟩ (.int .i64 u)) w3.heap.size #[.int .i64 a, .int .i64 b, .int .i64 c] 40 := ba5.far (p := ⟨w4.heap.size, 1, none⟩) (by simp; omega) _
    have bb6 : Box (w5.setCell ⟨w4.heap.size, 1, none⟩ (.int .i64 u)) w4.heap.size #[.int .i64 p, .int .i64 u, .int .i64 r] 40 := bb5.set 1 (.int .i64 u)
    have r6 : Rd 82 (w5.setCell ⟨w4.heap.size, 1, none⟩ (.int .i64 u)) g (k + 15) := (r5.setCell (by simp; omega) _).mono (by omega)
    have tw6 : Only g w (w5.setCell ⟨w4.heap.size, 1, none⟩ (.int .i64 u)) := tw5.setCell (.inr (by simp; omega)) _
    have lw6 := bw6.lt
    have la6 := ba6.lt
    have lb6 := bb6.lt
    have lr6 := r6.lt
    have ls6 := tw6.size_le
    have m0 : w5.cell? ⟨w3.heap.size, 0, none⟩ = some (.int .i64 a) := (ba5.cell 0).trans (by rfl)
    have mf0 : w5.frozen? ⟨w3.heap.size, 0, none⟩ = false := ba5.free 0
    have m1 : w5.cell? ⟨w3.heap.size, 1, none⟩ = some (.int .i64 b) := (ba5.cell 1).trans (by rfl)
    have mf1 : w5.frozen? ⟨w3.heap.size, 1, none⟩ = false := ba5.free 1
    have m2 : w5.cell? ⟨w3.heap.size, 2, none⟩ = some (.int .i64 c) := (ba5.cell 2).trans (by rfl)
    have mf2 : w5.frozen? ⟨w3.heap.size, 2, none⟩ = false := ba5.free 2
    have n0 : w5.cell? ⟨w4.heap.size, 0, none⟩ = some (.int .i64 p) := (bb5.cell 0).trans (by rfl)
    have nf0 : w5.frozen? ⟨w4.heap.size, 0, none⟩ = false := bb5.free 0
    have n1 : w5.cell? ⟨w4.heap.size, 1, none⟩ = some (.int .i64 q) := (bb5.cell 1).trans (by rfl)
    have nf1 : w5.frozen? ⟨w4.heap.size, 1, none⟩ = false := bb5.free 1
    have n2 : w5.cell? ⟨w4.heap.size, 2, none⟩ = some (.int .i64 r) := (bb5.cell 2).trans (by rfl)
    have nf2 : w5.frozen? ⟨w4.heap.size, 2, none⟩ = false := bb5.free 2
    have e0 : w5.cell? ⟨w.heap.size, 0, none⟩ = some (.int .i64 0) := by have := bw5.cell 0; simpa using this
    have e1 : w5.cell? ⟨w.heap.size, 1, none⟩ = some (.slice none 0 0) := by have := bw5.cell 1; simpa using this
    have f0 : w5.frozen? ⟨w.heap.size, 0, none⟩ = false := bw5.free 0
    have f1 : w5.frozen? ⟨w.heap.size, 1, none⟩ = false := bw5.free 1
    have lz := bw5.lt
    have lzr := r5.lt
    have lzs := tw5.size_le
    go_wp2_with fail
    refine (l2Arg_any (w5.setCell ⟨w4.heap.size, 1, none⟩ (.int .i64 u)) g (k + 15) 9 r6 (by omega)).mono ?_
    rintro e w7 ⟨a2, b2, c2, rfl, r7, ow7⟩
    have bw7 := box_only (bw6) ow7 (by omega)
    have tw7 := (tw6).trans ow7
    have lr7 := r7.lt
    have ls7 := tw7.size_le
    have lbw7 := bw7.lt
    clear ow7
    go_wp2_with fail
    refine (l4Real_any w7 g (k + 15 + 4) r7 (by omega)).mono ?_
    rintro e w8 ⟨a3, b3, c3, rfl, r8, ow8⟩
    have bw8 := box_only (bw7) ow8 (by omega)
    have tw8 := (tw7).trans ow8
    have lr8 := r8.lt
    have ls8 := tw8.size_le
    have lbw8 := bw8.lt
    clear ow8
    have e0 : w8.cell? ⟨w.heap.size, 0, none⟩ = some (.int .i64 0) := by have := bw8.cell 0; simpa using this
    have e1 : w8.cell? ⟨w.heap.size, 1, none⟩ = some (.slice none 0 0) := by have := bw8.cell 1; simpa using this
    have f0 : w8.frozen? ⟨w.heap.size, 0, none⟩ = false := bw8.free 0
    have f1 : w8.frozen? ⟨w.heap.size, 1, none⟩ = false := bw8.free 1
    have lz := bw8.lt
    have lzr := r8.lt
    have lzs := tw8.size_le
    go_wp2
    have bz := ((bw8.set 0 (.int .i64 37)).set 1 (.slice (some ⟨w8.heap.size, 0, none⟩) 2 2)).alloc (.cells #[.int .i64 a2, .int .i64 b2, .int .i64 c2, .int .i64 a3, .int .i64 b3, .int .i64 c3] 40)
    have d0 := bz.cell 0
    have d1 := bz.cell 1
    replace d0 := d0.trans (show _ = some (.int .i64 37) by rfl)
    replace d1 := d1.trans (show _ = some (.slice (some ⟨w8.heap.size, 0, none⟩) 2 2) by rfl)
    clear bz
    refine bodyPost_ret (v := .agg #[.int .i64 37, .slice (some ⟨w8.heap.size, 0, none⟩) 2 2]) (by simp [results, Tryd.results75, go_sem, d0, d1]) rfl ⟨37, _, 2, 2, [(a2, b2, c2), (a3, b3, c3)], rfl, ⟨rfl, by omega, by omega, by omega, .inr ⟨_, rfl, by omega, lie_lit2 _ _ _ a2 b2 c2 a3 b3 c3 (by simp)⟩⟩, ?_, ?_⟩
    · repeat (first | exact r8.mono (by omega) | refine Rd.setCell ?_ (by simp; try omega) _ | refine Rd.alloc ?_ _)
    · repeat (first | exact tw8 | refine Only.setCell ?_ (by right; simp; try omega) _ | refine Only.alloc ?_ _)
  · have bw6 : Box (w4.alloc (.cells #[.int .i64 p, .int .i64 q, .int .i64 r] 40)) w.heap.size #[.int .i64 0, .slice none 0 0] 31 := bw4.alloc _
    have ba6 : Box (w4.alloc (.cells #[.int .i64 p, .int .i64 q, .int .i64 r] 40)) w3.heap.size #[.int .i64 a, .int .i64 b, .int .i64 c] 40 := ba4.alloc _
    have bb6 : Box (w4.alloc (.cells #[.int .i64 p, .int .i64 q, .int .i64 r] 40)) w4.heap.size #[.int .i64 p, .int .i64 q, .int .i64 r] 40 := bb0
    have r6 : Rd 82 (w4.alloc (.cells #[.int .i64 p, .int .i64 q, .int .i64 r] 40)) g (k + 15) := (r4.alloc _).mono (by omega)
    have tw6 : Only g w (w4.alloc (.cells #[.int .i64 p, .int .i64 q, .int .i64 r] 40)) := tw4.alloc _
    have lw6 := bw6.lt
    have la6 := ba6.lt
    have lb6 := bb6.lt
    have lr6 := r6.lt
    have ls6 := tw6.size_le
    have m0 : (w4.alloc (.cells #[.int .i64 p, .int .i64 q, .int .i64 r] 40)).cell? ⟨w3.heap.size, 0, none⟩ = some (.int .i64 a) := (ba6.cell 0).trans (by rfl)
    have mf0 : (w4.alloc (.cells #[.int .i64 p, .int .i64 q, .int .i64 r] 40)).frozen? ⟨w3.heap.size, 0, none⟩ = false := ba6.free 0
    have m1 : (w4.alloc (.cells #[.int .i64 p, .int .i64 q, .int .i64 r] 40)).cell? ⟨w3.heap.size, 1, none⟩ = some (.int .i64 b) := (ba6.cell 1).trans (by rfl)
    have mf1 : (w4.alloc (.cells #[.int .i64 p, .int .i64 q, .int .i64 r] 40)).frozen? ⟨w3.heap.size, 1, none⟩ = false := ba6.free 1
    have m2 : (w4.alloc (.cells #[.int .i64 p, .int .i64 q, .int .i64 r] 40)).cell? ⟨w3.heap.size, 2, none⟩ = some (.int .i64 c) := (ba6.cell 2).trans (by rfl)
    have mf2 : (w4.alloc (.cells #[.int .i64 p, .int .i64 q, .int .i64 r] 40)).frozen? ⟨w3.heap.size, 2, none⟩ = false := ba6.free 2
    have n0 : (w4.alloc (.cells #[.int .i64 p, .int .i64 q, .int .i64 r] 40)).cell? ⟨w4.heap.size, 0, none⟩ = some (.int .i64 p) := (bb6.cell 0).trans (by rfl)
    have nf0 : (w4.alloc (.cells #[.int .i64 p, .int .i64 q, .int .i64 r] 40)).frozen? ⟨w4.heap.size, 0, none⟩ = false := bb6.free 0
    have n1 : (w4.alloc (.cells #[.int .i64 p, .int .i64 q, .int .i64 r] 40)).cell? ⟨w4.heap.size, 1, none⟩ = some (.int .i64 q) := (bb6.cell 1).trans (by rfl)
    have nf1 : (w4.alloc (.cells #[.int .i64 p, .int .i64 q, .int .i64 r] 40)).frozen? ⟨w4.heap.size, 1, none⟩ = false := bb6.free 1
    have n2 : (w4.alloc (.cells #[.int .i64 p, .int .i64 q, .int .i64 r] 40)).cell? ⟨w4.heap.size, 2, none⟩ = some (.int .i64 r) := (bb6.cell 2).trans (by rfl)
    have nf2 : (w4.alloc (.cells #[.int .i64 p, .int .i64 q, .int .i64 r] 40)).frozen? ⟨w4.heap.size, 2, none⟩ = false := bb6.free 2
    have l0 : w4.cell? ⟨w3.heap.size, 0, none⟩ = some (.int .i64 a) := (ba4.cell 0).trans (by rfl)
    have lf0 : w4.frozen? ⟨w3.heap.size, 0, none⟩ = false := ba4.free 0
    have l1 : w4.cell? ⟨w3.heap.size, 1, none⟩ = some (.int .i64 b) := (ba4.cell 1).trans (by rfl)
    have lf1 : w4.frozen? ⟨w3.heap.size, 1, none⟩ = false := ba4.free 1
    have l2 : w4.cell? ⟨w3.heap.size, 2, none⟩ = some (.int .i64 c) := (ba4.cell 2).trans (by rfl)
    have lf2 : w4.frozen? ⟨w3.heap.size, 2, none⟩ = false := ba4.free 2
    have e0 : w4.cell? ⟨w.heap.size, 0, none⟩ = some (.int .i64 0) := by have := bw4.cell 0; simpa using this
    have e1 : w4.cell? ⟨w.heap.size, 1, none⟩ = some (.slice none 0 0) := by have := bw4.cell 1; simpa using this
    have f0 : w4.frozen? ⟨w.heap.size, 0, none⟩ = false := bw4.free 0
    have f1 : w4.frozen? ⟨w.heap.size, 1, none⟩ = false := bw4.free 1
    have lz := bw4.lt
    have lzr := r4.lt
    have lzs := tw4.size_le
    go_wp2_with fail
    refine (l2Arg_any (w4.alloc (.cells #[.int .i64 p, .int .i64 q, .int .i64 r] 40)) g (k + 15) 9 r6 (by omega)).mono ?_
    rintro e w7 ⟨a2, b2, c2, rfl, r7, ow7⟩
    have bw7 := box_only (bw6) ow7 (by omega)
    have tw7 := (tw6).trans ow7
    have lr7 := r7.lt
    have ls7 := tw7.size_le
    have lbw7 := bw7.lt
    clear ow7
    go_wp2_with fail
    refine (l4Real_any w7 g (k + 15 + 4) r7 (by omega)).mono ?_
    rintro e w8 ⟨a3, b3, c3, rfl, r8, ow8⟩
    have bw8 := box_only (bw7) ow8 (by omega)
    have tw8 := (tw7).trans ow8
    have lr8 := r8.lt
    have ls8 := tw8.size_le
    have lbw8 := bw8.lt
    clear ow8
    have e0 : w8.cell? ⟨w.heap.size, 0, none⟩ = some (.int .i64 0) := by have := bw8.cell 0; simpa using this
    have e1 : w8.cell? ⟨w.heap.size, 1, none⟩ = some (.slice none 0 0) := by have := bw8.cell 1; simpa using this
    have f0 : w8.frozen? ⟨w.heap.size, 0, none⟩ = false := bw8.free 0
    have f1 : w8.frozen? ⟨w.heap.size, 1, none⟩ = false := bw8.free 1
    have lz := bw8.lt
    have lzr := r8.lt
    have lzs := tw8.size_le
    go_wp2
    have bz := ((bw8.set 0 (.int .i64 37)).set 1 (.slice (some ⟨w8.heap.size, 0, none⟩) 2 2)).alloc (.cells #[.int .i64 a2, .int .i64 b2, .int .i64 c2, .int .i64 a3, .int .i64 b3, .int .i64 c3] 40)
    have d0 := bz.cell 0
    have d1 := bz.cell 1
    replace d0 := d0.trans (show _ = some (.int .i64 37) by rfl)
    replace d1 := d1.trans (show _ = some (.slice (some ⟨w8.heap.size, 0, none⟩) 2 2) by rfl)
    clear bz
    refine bodyPost_ret (v := .agg #[.int .i64 37, .slice (some ⟨w8.heap.size, 0, none⟩) 2 2]) (by simp [results, Tryd.results75, go_sem, d0, d1]) rfl ⟨37, _, 2, 2, [(a2, b2, c2), (a3, b3, c3)], rfl, ⟨rfl, by omega, by omega, by omega, .inr ⟨_, rfl, by omega, lie_lit2 _ _ _ a2 b2 c2 a3 b3 c3 (by simp)⟩⟩, ?_, ?_⟩
    · repeat (first | exact r8.mono (by omega) | refine Rd.setCell ?_ (by simp; try omega) _ | refine Rd.alloc ?_ _)
    · repeat (first | exact tw8 | refine Only.setCell ?_ (by right; simp; try omega) _ | refine Only.alloc ?_ _)
set_option maxRecDepth 100000 in
set_option maxHeartbeats 2000000 in
theorem l4Coil_23 (w : World) (g k : Nat) (h : Rd 82 w g k) (hk : k ≤ 80000) (hn : Calls Tryd.prog 77 #[.pointer (some ⟨g, 0, none⟩), .slice (some ⟨w.heap.size + 1, 0, none⟩) 22 22] ((w.alloc (.cells #[.int .i64 0, .slice none 0 0] 31)).alloc (.cells (([21, 21, 21, 22, 23, 24, 25, 26, 26, 27, 28, 29, 29, 30, 31, 31, 32, 33, 34, 35, 36, 37] : List Int).map (Value.int .i64)).toArray 3)) fun e w1 => e = .returned (.int .i64 23) ∧ Rd 82 w1 g (k + 1) ∧ Only g ((w.alloc (.cells #[.int .i64 0, .slice none 0 0] 31)).alloc (.cells (([21, 21, 21, 22, 23, 24, 25, 26, 26, 27, 28, 29, 29, 30, 31, 31, 32, 33, 34, 35, 36, 37] : List Int).map (Value.int .i64)).toArray 3)) w1) : Calls Tryd.prog 75 #[.pointer (some ⟨g, 0, none⟩)] w (DrewE 40 w g k) := by
  have hlt := h.lt
  have b0 := (Box.new w #[.int .i64 0, .slice none 0 0] 31).alloc (.cells (([21, 21, 21, 22, 23, 24, 25, 26, 26, 27, 28, 29, 29, 30, 31, 31, 32, 33, 34, 35, 36, 37] : List Int).map (Value.int .i64)).toArray 3)
  have o0 : Only g w ((w.alloc (.cells #[.int .i64 0, .slice none 0 0] 31)).alloc (.cells (([21, 21, 21, 22, 23, 24, 25, 26, 26, 27, 28, 29, 29, 30, 31, 31, 32, 33, 34, 35, 36, 37] : List Int).map (Value.int .i64)).toArray 3)) := ((Only.refl g w).alloc _).alloc _
  have HB := Lib.hid (And.intro b0 o0)
  clear b0 o0 h
  go_enter Tryd.func75, Tryd.ntmps75
  go_wp2_with fail
  refine hn.mono ?_
  rintro e w1 ⟨rfl, r1, ow1⟩
  have bw1 := box_only HB.out.1 ow1 (by omega)
  have tw1 := HB.out.2.trans ow1
  clear ow1 hn HB
  go_wp2_with fail
  refine (pick_any w1 g (k + 1) 2 r1 (by omega)).mono ?_
  rintro e w2 ⟨y, rfl, hy0, hy1, _, r2, ow2⟩
  have bw2 := box_only (bw1) ow2 (by omega)
  have tw2 := (tw1).trans ow2
  have lr2 := r2.lt
  have ls2 := tw2.size_le
  have lbw2 := bw2.lt
  clear ow2
  clear bw1 r1 tw1
  have hy2 := hy1 (by omega)
  clear hy1
  go_wp2_with fail
  refine (l2Arg_any w2 g (k + 1 + 1) (2 + y) r2 (by omega)).mono ?_
  rintro e w3 ⟨a, b, c, rfl, r3, ow3⟩
  have bw3 := box_only (bw2) ow3 (by omega)
  have tw3 := (tw2).trans ow3
  have lr3 := r3.lt
  have ls3 := tw3.size_le
  have lbw3 := bw3.lt
  clear ow3
  clear bw2 r2 tw2
  have ba0 := Box.new w3 #[.int .i64 a, .int .i64 b, .int .i64 c] 40
  go_wp2_with fail
  refine (l2Arg_any (w3.alloc (.cells #[.int .i64 a, .int .i64 b, .int .i64 c] 40)) g (k + 1 + 1 + 4) 11 (r3.alloc _) (by omega)).mono ?_
  rintro e w4 ⟨p, q, r, rfl, r4, ow4⟩
  have bw4 := box_only (bw3.alloc _) ow4 (by omega)
  have ba4 := box_only (ba0) ow4 (by omega)
  have tw4 := (tw3.alloc _).trans ow4
  have lr4 := r4.lt
  have ls4 := tw4.size_le
  have lbw4 := bw4.lt
  have lba4 := ba4.lt
  clear ow4
  clear bw3 r3 tw3 ba0
  have bb0 := Box.new w4 #[.int .i64 p, .int .i64 q, .int .i64 r] 40
  by_cases hq : q < 0
  · have tw40 := tw4.alloc (.cells #[.int .i64 p, .int .i64 q, .int .i64 r] 40)
    have ba40 : Box (w4.alloc (.cells #[.int .i64 p, .int .i64 q, .int .i64 r] 40)) w3.heap.size #[.int .i64 a, .int .i64 b, .int .i64 c] 40 := ba4.alloc _
    have m0 : (w4.alloc (.cells #[.int .i64 p, .int .i64 q, .int .i64 r] 40)).cell? ⟨w3.heap.size, 0, none⟩ = some (.int .i64 a) := (ba40.cell 0).trans (by rfl)
    have mf0 : (w4.alloc (.cells #[.int .i64 p, .int .i64 q, .int .i64 r] 40)).frozen? ⟨w3.heap.size, 0, none⟩ = false := ba40.free 0
    have m1 : (w4.alloc (.cells #[.int .i64 p, .int .i64 q, .int .i64 r] 40)).cell? ⟨w3.heap.size, 1, none⟩ = some (.int .i64 b) := (ba40.cell 1).trans (by rfl)
    have mf1 : (w4.alloc (.cells #[.int .i64 p, .int .i64 q, .int .i64 r] 40)).frozen? ⟨w3.heap.size, 1, none⟩ = false := ba40.free 1
    have m2 : (w4.alloc (.cells #[.int .i64 p, .int .i64 q, .int .i64 r] 40)).cell? ⟨w3.heap.size, 2, none⟩ = some (.int .i64 c) := (ba40.cell 2).trans (by rfl)
    have mf2 : (w4.alloc (.cells #[.int .i64 p, .int .i64 q, .int .i64 r] 40)).frozen? ⟨w3.heap.size, 2, none⟩ = false := ba40.free 2
    have n0 : (w4.alloc (.cells #[.int .i64 p, .int .i64 q, .int .i64 r] 40)).cell? ⟨w4.heap.size, 0, none⟩ = some (.int .i64 p) := (bb0.cell 0).trans (by rfl)
    have nf0 : (w4.alloc (.cells #[.int .i64 p, .int .i64 q, .int .i64 r] 40)).frozen? ⟨w4.heap.size, 0, none⟩ = false := bb0.free 0
    have n1 : (w4.alloc (.cells #[.int .i64 p, .int .i64 q, .int .i64 r] 40)).cell? ⟨w4.heap.size, 1, none⟩ = some (.int .i64 q) := (bb0.cell 1).trans (by rfl)
    have nf1 : (w4.alloc (.cells #[.int .i64 p, .int .i64 q, .int .i64 r] 40)).frozen? ⟨w4.heap.size, 1, none⟩ = false := bb0.free 1
    have n2 : (w4.alloc (.cells #[.int .i64 p, .int .i64 q, .int .i64 r] 40)).cell? ⟨w4.heap.size, 2, none⟩ = some (.int .i64 r) := (bb0.cell 2).trans (by rfl)
    have nf2 : (w4.alloc (.cells #[.int .i64 p, .int .i64 q, .int .i64 r] 40)).frozen? ⟨w4.heap.size, 2, none⟩ = false := bb0.free 2
    go_wp2_with fail
    refine (pick_any (w4.alloc (.cells #[.int .i64 p, .int .i64 q, .int .i64 r] 40)) g (k + 1 + 1 + 4 + 4) 9 (r4.alloc _) (by omega)).mono ?_
    rintro e w5 ⟨u, rfl, hu0, hu1, _, r5, ow5⟩
    have bw5 := box_only (bw4.alloc _) ow5 (by omega)
    have ba5 := box_only (ba4.alloc _) ow5 (by omega)
    have bb5 := box_only (bb0) ow5 (by omega)
    have tw5 := (tw4.alloc _).trans ow5
    have lr5 := r5.lt
    have ls5 := tw5.size_le
    have lbw5 := bw5.lt
    have lba5 := ba5.lt
    have lbb5 := bb5.lt
    clear ow5
    clear m0 mf0 m1 mf1 m2 mf2 n0 nf0 n1 nf1 n2 nf2 bw4 r4 tw4 ba4 ba40 bb0 tw40 hu1 hq
    have bw6 : Box (w5.setCell ⟨w4.heap.size, 1, none⟩ (.int .i64 u)) w.heap.size #[.int .i64 0, .slice none 0 0] 31 := bw5.far (p := ⟨w4.heap.size, 1, none⟩) (by simp; omega) _
    have ba6 : Box (w5.setCell ⟨w4.heap.size, 1, none⟩ (.int .i64 u)) w3.heap.size #[.int .i64 a, .int .i64 b, .int .i64 c] 40 := ba5.far (p := ⟨w4.heap.size, 1, none⟩) (by simp; omega) _
    have bb6 : Box (w5.setCell ⟨w4.heap.size, 1, none⟩ (.int .i64 u)) w4.heap.size #[.int .i64 p, .int .i64 u, .int .i64 r] 40 := bb5.set 1 (.int .i64 u)
    have r6 : Rd 82 (w5.setCell ⟨w4.heap.size, 1, none⟩ (.int .i64 u)) g (k + 15) := (r5.setCell (by simp; omega) _).mono (by omega)
    have tw6 : Only g w (w5.setCell ⟨w4.heap.size, 1, none⟩ (.int .i64 u)) := tw5.setCell (.inr (by simp; omega)) _
    have lw6 := bw6.lt
    have la6 := ba6.lt
    have lb6 := bb6.lt
    have lr6 := r6.lt
    have ls6 := tw6.size_le
    have m0 : w5.cell? ⟨w3.heap.size, 0, none⟩ = some (.int .i64 a) := (ba5.cell 0).trans (by rfl)
    have mf0 : w5.frozen? ⟨w3.heap.size, 0, none⟩ = false := ba5.free 0
    have m1 : w5.cell? ⟨w3.heap.size, 1, none⟩ = some (.int .i64 b) := (ba5.cell 1).trans (by rfl)
    have mf1 : w5.frozen? ⟨w3.heap.size, 1, none⟩ = false := ba5.free 1
    have m2 : w5.cell? ⟨w3.heap.size, 2, none⟩ = some (.int .i64 c) := (ba5.cell 2).trans (by rfl)
    have mf2 : w5.frozen? ⟨w3.heap.size, 2, none⟩ = false := ba5.free 2
    have n0 : w5.cell? ⟨w4.heap.size, 0, none⟩ = some (.int .i64 p) := (bb5.cell 0).trans (by rfl)
    have nf0 : w5.frozen? ⟨w4.heap.size, 0, none⟩ = false := bb5.free 0
    have n1 : w5.cell? ⟨w4.heap.size, 1, none⟩ = some (.int .i64 q) := (bb5.cell 1).trans (by rfl)
    have nf1 : w5.frozen? ⟨w4.heap.size, 1, none⟩ = false := bb5.free 1
    have n2 : w5.cell? ⟨w4.heap.size, 2, none⟩ = some (.int .i64 r) := (bb5.cell 2).trans (by rfl)
    have nf2 : w5.frozen? ⟨w4.heap.size, 2, none⟩ = false := bb5.free 2
    have e0 : w5.cell? ⟨w.heap.size, 0, none⟩ = some (.int .i64 0) := by have := bw5.cell 0; simpa using this
    have e1 : w5.cell? ⟨w.heap.size, 1, none⟩ = some (.slice none 0 0) := by have := bw5.cell 1; simpa using this
    have f0 : w5.frozen? ⟨w.heap.size, 0, none⟩ = false := bw5.free 0
    have f1 : w5.frozen? ⟨w.heap.size, 1, none⟩ = false := bw5.free 1
    have lz := bw5.lt
    have lzr := r5.lt
    have lzs := tw5.size_le
    have hlit := cells_lit (w5.setCell ⟨w4.heap.size, 1, none⟩ (.int .i64 u)) [2, 3, 4, 7, 8] 3 (fun _ => True) (fun _ _ => trivial)
    rw [show (w5.setCell ⟨w4.heap.size, 1, none⟩ (.int .i64 u)).heap.size = w5.heap.size by simp] at hlit
    go_wp2_with fail
    refine (num_any ((w5.setCell ⟨w4.heap.size, 1, none⟩ (.int .i64 u)).alloc (.cells (([2, 3, 4, 7, 8] : List Int).map (Value.int .i64)).toArray 3)) g (k + 15) (w5.heap.size) 5 5 (fun _ => True) (r6.alloc _) (by omega) (by omega) (by omega) (by simp) (by omega) hlit).mono ?_
    rintro e w7 ⟨z, rfl, _, r7, ow7⟩
    have bw7 := box_only (bw6.alloc _) ow7 (by omega)
    have tw7 := (tw6.alloc _).trans ow7
    have lr7 := r7.lt
    have ls7 := tw7.size_le
    have lbw7 := bw7.lt
    clear ow7 hlit
    go_wp2_with fail
    refine (l2Arg_any w7 g (k + 15 + 1) z r7 (by omega)).mono ?_
    rintro e w8 ⟨a2, b2, c2, rfl, r8, ow8⟩
    have bw8 := box_only (bw7) ow8 (by omega)
    have tw8 := (tw7).trans ow8
    have lr8 := r8.lt
    have ls8 := tw8.size_le
    have lbw8 := bw8.lt
    clear ow8
    have e0 : w8.cell? ⟨w.heap.size, 0, none⟩ = some (.int .i64 0) := by have := bw8.cell 0; simpa using this
    have e1 : w8.cell? ⟨w.heap.size, 1, none⟩ = some (.slice none 0 0) := by have := bw8.cell 1; simpa using this
    have f0 : w8.frozen? ⟨w.heap.size, 0, none⟩ = false := bw8.free 0
    have f1 : w8.frozen? ⟨w.heap.size, 1, none⟩ = false := bw8.free 1
    have lz := bw8.lt
    have lzr := r8.lt
    have lzs := tw8.size_le
    go_wp2
    have bz := ((bw8.set 0 (.int .i64 23)).set 1 (.slice (some ⟨w8.heap.size, 0, none⟩) 1 1)).alloc (.cells #[.int .i64 a2, .int .i64 b2, .int .i64 c2] 40)
    have d0 := bz.cell 0
    have d1 := bz.cell 1
    replace d0 := d0.trans (show _ = some (.int .i64 23) by rfl)
    replace d1 := d1.trans (show _ = some (.slice (some ⟨w8.heap.size, 0, none⟩) 1 1) by rfl)
    clear bz
    refine bodyPost_ret (v := .agg #[.int .i64 23, .slice (some ⟨w8.heap.size, 0, none⟩) 1 1]) (by simp [results, Tryd.results75, go_sem, d0, d1]) rfl ⟨23, _, 1, 1, [(a2, b2, c2)], rfl, ⟨rfl, by omega, by omega, by omega, .inr ⟨_, rfl, by omega, lie_lit1 _ _ _ a2 b2 c2 (by simp)⟩⟩, ?_, ?_⟩
    · repeat (first | exact r8.mono (by omega) | refine Rd.setCell ?_ (by simp; try omega) _ | refine Rd.alloc ?_ _)
    · repeat (first | exact tw8 | refine Only.setCell ?_ (by right; simp; try omega) _ | refine Only.alloc ?_ _)
  · have bw6 : Box (w4.alloc (.cells #[.int .i64 p, .int .i64 q, .int .i64 r] 40)) w.heap.size #[.int .i64 0, .slice none 0 0] 31 := bw4.alloc _
    have ba6 : Box (w4.alloc (.cells #[.int .i64 p, .int .i64 q, .int .i64 r] 40)) w3.heap.size #[.int .i64 a, .int .i64 b, .int .i64 c] 40 := ba4.alloc _
    have bb6 : Box (w4.alloc (.cells #[.int .i64 p, .int .i64 q, .int .i64 r] 40)) w4.heap.size #[.int .i64 p, .int .i64 q, .int .i64 r] 40 := bb0
    have r6 : Rd 82 (w4.alloc (.cells #[.int .i64 p, .int .i64 q, .int .i64 r] 40)) g (k + 15) := (r4.alloc _).mono (by omega)
    have tw6 : Only g w (w4.alloc (.cells #[.int .i64 p, .int .i64 q, .int .i64 r] 40)) := tw4.alloc _
    have lw6 := bw6.lt
    have la6 := ba6.lt
    have lb6 := bb6.lt
    have lr6 := r6.lt
    have ls6 := tw6.size_le
    have m0 : (w4.alloc (.cells #[.int .i64 p, .int .i64 q, .int .i64 r] 40)).cell? ⟨w3.heap.size, 0, none⟩ = some (.int .i64 a) := (ba6.cell 0).trans (by rfl)
    have mf0 : (w4.alloc (.cells #[.int .i64 p, .int .i64 q, .int .i64 r] 40)).frozen? ⟨w3.heap.size, 0, none⟩ = false := ba6.free 0
    have m1 : (w4.alloc (.cells #[.int .i64 p, .int .i64 q, .int .i64 r] 40)).cell? ⟨w3.heap.size, 1, none⟩ = some (.int .i64 b) := (ba6.cell 1).trans (by rfl)
    have mf1 : (w4.alloc (.cells #[.int .i64 p, .int .i64 q, .int .i64 r] 40)).frozen? ⟨w3.heap.size, 1, none⟩ = false := ba6.free 1
    have m2 : (w4.alloc (.cells #[.int .i64 p, .int .i64 q, .int .i64 r] 40)).cell? ⟨w3.heap.size, 2, none⟩ = some (.int .i64 c) := (ba6.cell 2).trans (by rfl)
    have mf2 : (w4.alloc (.cells #[.int .i64 p, .int .i64 q, .int .i64 r] 40)).frozen? ⟨w3.heap.size, 2, none⟩ = false := ba6.free 2
    have n0 : (w4.alloc (.cells #[.int .i64 p, .int .i64 q, .int .i64 r] 40)).cell? ⟨w4.heap.size, 0, none⟩ = some (.int .i64 p) := (bb6.cell 0).trans (by rfl)
    have nf0 : (w4.alloc (.cells #[.int .i64 p, .int .i64 q, .int .i64 r] 40)).frozen? ⟨w4.heap.size, 0, none⟩ = false := bb6.free 0
    have n1 : (w4.alloc (.cells #[.int .i64 p, .int .i64 q, .int .i64 r] 40)).cell? ⟨w4.heap.size, 1, none⟩ = some (.int .i64 q) := (bb6.cell 1).trans (by rfl)
    have nf1 : (w4.alloc (.cells #[.int .i64 p, .int .i64 q, .int .i64 r] 40)).frozen? ⟨w4.heap.size, 1, none⟩ = false := bb6.free 1
    have n2 : (w4.alloc (.cells #[.int .i64 p, .int .i64 q, .int .i64 r] 40)).cell? ⟨w4.heap.size, 2, none⟩ = some (.int .i64 r) := (bb6.cell 2).trans (by rfl)
    have nf2 : (w4.alloc (.cells #[.int .i64 p, .int .i64 q, .int .i64 r] 40)).frozen? ⟨w4.heap.size, 2, none⟩ = false := bb6.free 2
    have l0 : w4.cell? ⟨w3.heap.size, 0, none⟩ = some (.int .i64 a) := (ba4.cell 0).trans (by rfl)
    have lf0 : w4.frozen? ⟨w3.heap.size, 0, none⟩ = false := ba4.free 0
    have l1 : w4.cell? ⟨w3.heap.size, 1, none⟩ = some (.int .i64 b) := (ba4.cell 1).trans (by rfl)
    have lf1 : w4.frozen? ⟨w3.heap.size, 1, none⟩ = false := ba4.free 1
    have l2 : w4.cell? ⟨w3.heap.size, 2, none⟩ = some (.int .i64 c) := (ba4.cell 2).trans (by rfl)
    have lf2 : w4.frozen? ⟨w3.heap.size, 2, none⟩ = false := ba4.free 2
    have e0 : w4.cell? ⟨w.heap.size, 0, none⟩ = some (.int .i64 0) := by have := bw4.cell 0; simpa using this
    have e1 : w4.cell? ⟨w.heap.size, 1, none⟩ = some (.slice none 0 0) := by have := bw4.cell 1; simpa using this
    have f0 : w4.frozen? ⟨w.heap.size, 0, none⟩ = false := bw4.free 0
    have f1 : w4.frozen? ⟨w.heap.size, 1, none⟩ = false := bw4.free 1
    have lz := bw4.lt
    have lzr := r4.lt
    have lzs := tw4.size_le
    have hlit := cells_lit (w4.alloc (.cells #[.int .i64 p, .int .i64 q, .int .i64 r] 40)) [2, 3, 4, 7, 8] 3 (fun _ => True) (fun _ _ => trivial)
    rw [show (w4.alloc (.cells #[.int .i64 p, .int .i64 q, .int .i64 r] 40)).heap.size = w4.heap.size + 1 by simp] at hlit
    go_wp2_with fail
    refine (num_any ((w4.alloc (.cells #[.int .i64 p, .int .i64 q, .int .i64 r] 40)).alloc (.cells (([2, 3, 4, 7, 8] : List Int).map (Value.int .i64)).toArray 3)) g (k + 15) (w4.heap.size + 1) 5 5 (fun _ => True) (r6.alloc _) (by omega) (by omega) (by omega) (by simp) (by omega) hlit).mono ?_
    rintro e w7 ⟨z, rfl, _, r7, ow7⟩
    have bw7 := box_only (bw6.alloc _) ow7 (by omega)
    have tw7 := (tw6.alloc _).trans ow7
    have lr7 := r7.lt
    have ls7 := tw7.size_le
    have lbw7 := bw7.lt
    clear ow7 hlit
    go_wp2_with fail
    refine (l2Arg_any w7 g (k + 15 + 1) z r7 (by omega)).mono ?_
    rintro e w8 ⟨a2, b2, c2, rfl, r8, ow8⟩
    have bw8 := box_only (bw7) ow8 (by omega)
    have tw8 := (tw7).trans ow8
    have lr8 := r8.lt
    have ls8 := tw8.size_le
    have lbw8 := bw8.lt
    clear ow8
    have e0 : w8.cell? ⟨w.heap.size, 0, none⟩ = some (.int .i64 0) := by have := bw8.cell 0; simpa using this
    have e1 : w8.cell? ⟨w.heap.size, 1, none⟩ = some (.slice none 0 0) := by have := bw8.cell 1; simpa using this
    have f0 : w8.frozen? ⟨w.heap.size, 0, none⟩ = false := bw8.free 0
    have f1 : w8.frozen? ⟨w.heap.size, 1, none⟩ = false := bw8.free 1
    have lz := bw8.lt
    have lzr := r8.lt
    have lzs := tw8.size_le
    go_wp2
    have bz := ((bw8.set 0 (.int .i64 23)).set 1 (.slice (some ⟨w8.heap.size, 0, none⟩) 1 1)).alloc (.cells #[.int .i64 a2, .int .i64 b2, .int .i64 c2] 40)
    have d0 := bz.cell 0
    have d1 := bz.cell 1
    replace d0 := d0.trans (show _ = some (.int .i64 23) by rfl)
    replace d1 := d1.trans (show _ = some (.slice (some ⟨w8.heap.size, 0, none⟩) 1 1) by rfl)
    clear bz
    refine bodyPost_ret (v := .agg #[.int .i64 23, .slice (some ⟨w8.heap.size, 0, none⟩) 1 1]) (by simp [results, Tryd.results75, go_sem, d0, d1]) rfl ⟨23, _, 1, 1, [(a2, b2, c2)], rfl, ⟨rfl, by omega, by omega, by omega, .inr ⟨_, rfl, by omega, lie_lit1 _ _ _ a2 b2 c2 (by simp)⟩⟩, ?_, ?_⟩
    · repeat (first | exact r8.mono (by omega) | refine Rd.setCell ?_ (by simp; try omega) _ | refine Rd.alloc ?_ _)
    · repeat (first | exact tw8 | refine Only.setCell ?_ (by right; simp; try omega) _ | refine Only.alloc ?_ _)
end Go.Proofs.YtmlpobecilbknaaDoor
