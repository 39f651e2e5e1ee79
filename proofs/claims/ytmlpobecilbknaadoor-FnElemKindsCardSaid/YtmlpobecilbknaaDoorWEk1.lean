/- The draws of FnElemKinds: operands. -/
import Derived.Test.YtmlpobecilbknaaDoorRows
import Derived.Test.YtmlpobecilbknaaDoorWDArg2
import Derived.Test.YtmlpobecilbknaaDoorWElem7
import Derived.WalkKit
import Derived.WalkSpells
import Derived.WalkLawsBesides
import Derived.OpenShut
import Derived.OwnWalk
import Derived.IntWalk
import Derived.Lib.Hide
import Derived.Deep.QuietTactic
import Derived.BigQuiet
namespace Go.Proofs.YtmlpobecilbknaaDoor
open Go.RowKit Bx Rdr
set_option linter.unusedVariables false

set_option maxRecDepth 100000 in
set_option maxHeartbeats 2000000 in
theorem l4Bit_any (w : World) (g k : Nat) (h : Rd 82 w g k) (hk : k ≤ 90000) : Calls Tryd.prog 87 #[.pointer (some ⟨g, 0, none⟩)] w (DrewArg 5 w g k) := by
  have hlt := h.lt
  have r0 : Rd 82 (w.alloc (.cells #[.int .i64 0, .int .i64 0, .int .i64 0] 40)) g k := h.alloc _
  have b0 := Box.new w #[.int .i64 0, .int .i64 0, .int .i64 0] 40
  have o0 : Only g w (w.alloc (.cells #[.int .i64 0, .int .i64 0, .int .i64 0] 40)) := (Only.refl g w).alloc _
  have HB := Lib.hid (And.intro b0 o0)
  clear b0 o0 h
  go_enter Tryd.func87, Tryd.ntmps87
  have hlit := cells_lit (w.alloc (.cells #[.int .i64 0, .int .i64 0, .int .i64 0] 40)) [1, 1, 2, 3, 3, 4, 6, 7, 8] 3 (fun _ => True) (fun _ _ => trivial)
  rw [show (w.alloc (.cells #[.int .i64 0, .int .i64 0, .int .i64 0] 40)).heap.size = w.heap.size + 1 by simp] at hlit
  go_wp2_with fail
  refine (num_any ((w.alloc (.cells #[.int .i64 0, .int .i64 0, .int .i64 0] 40)).alloc (.cells (([1, 1, 2, 3, 3, 4, 6, 7, 8] : List Int).map (Value.int .i64)).toArray 3)) g k (w.heap.size + 1) 9 9 (fun _ => True) (r0.alloc _) (by omega) (by omega) (by omega) (by simp) (by omega) hlit).mono ?_
  rintro e w1 ⟨x, rfl, hx, r1, ow1⟩
  clear hlit
  have bw1 := box_only (HB.out.1.alloc _) ow1 (by omega)
  have tw1 := (HB.out.2.alloc _).trans ow1
  clear r0 ow1 hx
  go_wp2_with fail
  refine (l2Arg_any w1 g (k + 1) x r1 (by omega)).mono ?_
  rintro e w2 ⟨a, b, c, rfl, r2, ow2⟩
  have bw2 := box_only (bw1) ow2 (by omega)
  have tw2 := (tw1).trans ow2
  clear r1 ow2 bw1 tw1
  have e0 : w2.cell? ⟨w.heap.size, 0, none⟩ = some (.int .i64 0) := by have := bw2.cell 0; simpa using this
  have e1 : w2.cell? ⟨w.heap.size, 1, none⟩ = some (.int .i64 0) := by have := bw2.cell 1; simpa using this
  have e2 : w2.cell? ⟨w.heap.size, 2, none⟩ = some (.int .i64 0) := by have := bw2.cell 2; simpa using this
  have ef0 : w2.frozen? ⟨w.heap.size, 0, none⟩ = false := bw2.free 0
  have ef1 : w2.frozen? ⟨w.heap.size, 1, none⟩ = false := bw2.free 1
  have ef2 : w2.frozen? ⟨w.heap.size, 2, none⟩ = false := bw2.free 2
  have lz := bw2.lt
  have lzr := r2.lt
  have lzs := tw2.size_le
  clear bw2
  go_wp2
  refine bodyPost_ret (v := .agg #[.int .i64 a, .int .i64 b, .int .i64 c]) (by simp [results, Tryd.results87, go_sem, e0, e1, e2]) rfl ⟨a, b, c, rfl, ?_, ?_⟩
  · repeat (first | exact r2.mono (by omega) | refine Rd.setCell ?_ (by simp; try omega) _)
  · repeat (first | exact tw2 | refine Only.setCell ?_ (by right; simp; try omega) _)
set_option maxRecDepth 100000 in
set_option maxHeartbeats 2000000 in
theorem l4Whole_any (w : World) (g k : Nat) (h : Rd 82 w g k) (hk : k ≤ 90000) : Calls Tryd.prog 85 #[.pointer (some ⟨g, 0, none⟩)] w (DrewArg 5 w g k) := by
  have hlt := h.lt
  have r0 : Rd 82 (w.alloc (.cells #[.int .i64 0, .int .i64 0, .int .i64 0] 40)) g k := h.alloc _
  have b0 := Box.new w #[.int .i64 0, .int .i64 0, .int .i64 0] 40
  have o0 : Only g w (w.alloc (.cells #[.int .i64 0, .int .i64 0, .int .i64 0] 40)) := (Only.refl g w).alloc _
  have HB := Lib.hid (And.intro b0 o0)
  clear b0 o0 h
  go_enter Tryd.func85, Tryd.ntmps85
  have hlit := cells_lit (w.alloc (.cells #[.int .i64 0, .int .i64 0, .int .i64 0] 40)) [9, 9, 9, 11, 11, 7, 8] 3 (fun _ => True) (fun _ _ => trivial)
  rw [show (w.alloc (.cells #[.int .i64 0, .int .i64 0, .int .i64 0] 40)).heap.size = w.heap.size + 1 by simp] at hlit
  go_wp2_with fail
  refine (num_any ((w.alloc (.cells #[.int .i64 0, .int .i64 0, .int .i64 0] 40)).alloc (.cells (([9, 9, 9, 11, 11, 7, 8] : List Int).map (Value.int .i64)).toArray 3)) g k (w.heap.size + 1) 7 7 (fun _ => True) (r0.alloc _) (by omega) (by omega) (by omega) (by simp) (by omega) hlit).mono ?_
  rintro e w1 ⟨x, rfl, hx, r1, ow1⟩
  clear hlit
  have bw1 := box_only (HB.out.1.alloc _) ow1 (by omega)
  have tw1 := (HB.out.2.alloc _).trans ow1
  clear r0 ow1 hx
  go_wp2_with fail
  refine (l2Arg_any w1 g (k + 1) x r1 (by omega)).mono ?_
  rintro e w2 ⟨a, b, c, rfl, r2, ow2⟩
  have bw2 := box_only (bw1) ow2 (by omega)
  have tw2 := (tw1).trans ow2
  clear r1 ow2 bw1 tw1
  have e0 : w2.cell? ⟨w.heap.size, 0, none⟩ = some (.int .i64 0) := by have := bw2.cell 0; simpa using this
  have e1 : w2.cell? ⟨w.heap.size, 1, none⟩ = some (.int .i64 0) := by have := bw2.cell 1; simpa using this
  have e2 : w2.cell? ⟨w.heap.size, 2, none⟩ = some (.int .i64 0) := by have := bw2.cell 2; simpa using this
  have ef0 : w2.frozen? ⟨w.heap.size, 0, none⟩ = false := bw2.free 0
  have ef1 : w2.frozen? ⟨w.heap.size, 1, none⟩ = false := bw2.free 1
  have ef2 : w2.frozen? ⟨w.heap.size, 2, none⟩ = false := bw2.free 2
  have lz := bw2.lt
  have lzr := r2.lt
  have lzs := tw2.size_le
  clear bw2
  go_wp2
  refine bodyPost_ret (v := .agg #[.int .i64 a, .int .i64 b, .int .i64 c]) (by simp [results, Tryd.results85, go_sem, e0, e1, e2]) rfl ⟨a, b, c, rfl, ?_, ?_⟩
  · repeat (first | exact r2.mono (by omega) | refine Rd.setCell ?_ (by simp; try omega) _)
  · repeat (first | exact tw2 | refine Only.setCell ?_ (by right; simp; try omega) _)
set_option maxRecDepth 100000 in
set_option maxHeartbeats 2000000 in
theorem l4Real_any (w : World) (g k : Nat) (h : Rd 82 w g k) (hk : k ≤ 90000) : Calls Tryd.prog 86 #[.pointer (some ⟨g, 0, none⟩)] w (DrewArg 5 w g k) := by
  have hlt := h.lt
  have r0 : Rd 82 (w.alloc (.cells #[.int .i64 0, .int .i64 0, .int .i64 0] 40)) g k := h.alloc _
  have b0 := Box.new w #[.int .i64 0, .int .i64 0, .int .i64 0] 40
  have o0 : Only g w (w.alloc (.cells #[.int .i64 0, .int .i64 0, .int .i64 0] 40)) := (Only.refl g w).alloc _
  have HB := Lib.hid (And.intro b0 o0)
  clear b0 o0 h
  go_enter Tryd.func86, Tryd.ntmps86
  have hlit := cells_lit (w.alloc (.cells #[.int .i64 0, .int .i64 0, .int .i64 0] 40)) [10, 10, 10, 12, 13] 3 (fun _ => True) (fun _ _ => trivial)
  rw [show (w.alloc (.cells #[.int .i64 0, .int .i64 0, .int .i64 0] 40)).heap.size = w.heap.size + 1 by simp] at hlit
  go_wp2_with fail
  refine (num_any ((w.alloc (.cells #[.int .i64 0, .int .i64 0, .int .i64 0] 40)).alloc (.cells (([10, 10, 10, 12, 13] : List Int).map (Value.int .i64)).toArray 3)) g k (w.heap.size + 1) 5 5 (fun _ => True) (r0.alloc _) (by omega) (by omega) (by omega) (by simp) (by omega) hlit).mono ?_
  rintro e w1 ⟨x, rfl, hx, r1, ow1⟩
  clear hlit
  have bw1 := box_only (HB.out.1.alloc _) ow1 (by omega)
  have tw1 := (HB.out.2.alloc _).trans ow1
  clear r0 ow1 hx
  go_wp2_with fail
  refine (l2Arg_any w1 g (k + 1) x r1 (by omega)).mono ?_
  rintro e w2 ⟨a, b, c, rfl, r2, ow2⟩
  have bw2 := box_only (bw1) ow2 (by omega)
  have tw2 := (tw1).trans ow2
  clear r1 ow2 bw1 tw1
  have e0 : w2.cell? ⟨w.heap.size, 0, none⟩ = some (.int .i64 0) := by have := bw2.cell 0; simpa using this
  have e1 : w2.cell? ⟨w.heap.size, 1, none⟩ = some (.int .i64 0) := by have := bw2.cell 1; simpa using this
  have e2 : w2.cell? ⟨w.heap.size, 2, none⟩ = some (.int .i64 0) := by have := bw2.cell 2; simpa using this
  have ef0 : w2.frozen? ⟨w.heap.size, 0, none⟩ = false := bw2.free 0
  have ef1 : w2.frozen? ⟨w.heap.size, 1, none⟩ = false := bw2.free 1
  have ef2 : w2.frozen? ⟨w.heap.size, 2, none⟩ = false := bw2.free 2
  have lz := bw2.lt
  have lzr := r2.lt
  have lzs := tw2.size_le
  clear bw2
  go_wp2
  refine bodyPost_ret (v := .agg #[.int .i64 a, .int .i64 b, .int .i64 c]) (by simp [results, Tryd.results86, go_sem, e0, e1, e2]) rfl ⟨a, b, c, rfl, ?_, ?_⟩
  · repeat (first | exact r2.mono (by omega) | refine Rd.setCell ?_ (by simp; try omega) _)
  · repeat (first | exact tw2 | refine Only.setCell ?_ (by right; simp; try omega) _)
end Go.Proofs.YtmlpobecilbknaaDoor
