/- The draws of operands, on. -/
import Derived.Test.YtmlpobecilbknaaDoorRows
import Derived.Test.YtmlpobecilbknaaDoorWDArg
import Derived.WalkKit
import Derived.WalkSpells
import Derived.WalkLawsBesides
import Derived.OpenShut
import Derived.OwnWalk
import Derived.IntWalk
import Derived.Lib.Hide
namespace Go.Proofs.YtmlpobecilbknaaDoor
open Go.RowKit Bx Rdr
set_option linter.unusedVariables false

set_option maxRecDepth 100000 in
set_option maxHeartbeats 1000000 in
theorem l2Any_any (w : World) (g k : Nat) (h : Rd 82 w g k) (hk : k ≤ 50000) : Calls Tryd.prog 78 #[.pointer (some ⟨g, 0, none⟩)] w (DrewArg 10 w g k) := by
  have hlt := h.lt
  have r0 : Rd 82 (w.alloc (.cells #[.int .i64 0, .int .i64 0, .int .i64 0] 40)) g k := h.alloc _
  have b0 := Box.new w #[.int .i64 0, .int .i64 0, .int .i64 0] 40
  have o0 : Only g w (w.alloc (.cells #[.int .i64 0, .int .i64 0, .int .i64 0] 40)) := (Only.refl g w).alloc _
  have HB := Lib.hid (And.intro b0 o0)
  clear b0 o0 h
  go_enter Tryd.func78, Tryd.ntmps78
  go_wp2_with fail
  refine (pick_any (w.alloc (.cells #[.int .i64 0, .int .i64 0, .int .i64 0] 40)) g k 13 r0 (by omega)).mono ?_
  rintro e w1 ⟨y, rfl, hy0, hy1, _, r1, ow1⟩
  have hy1 := hy1 (by omega)
  have b1 := box_only HB.out.1 ow1 (by omega)
  have t1 := HB.out.2.trans ow1
  clear r0 ow1 HB
  go_wp2_with fail
  refine (l2Arg_any w1 g (k + 1) _ r1 (by omega)).mono ?_
  rintro e w2 ⟨a, b, c, rfl, r2, ow2⟩
  have b2 := box_only b1 ow2 (by omega)
  have t2 := t1.trans ow2
  clear r1 ow2 b1 t1
  have r3 : Rd 82 (w2.alloc (.cells #[.int .i64 a, .int .i64 b, .int .i64 c] 40)) g (k + 1 + 4) := r2.alloc _
  have b3 := b2.alloc (.cells #[.int .i64 a, .int .i64 b, .int .i64 c] 40)
  have x3 := Box.new w2 #[.int .i64 a, .int .i64 b, .int .i64 c] 40
  have t3 := t2.alloc (.cells #[.int .i64 a, .int .i64 b, .int .i64 c] 40)
  have l2 := b2.lt
  have l2r := r2.lt
  clear r2 b2 t2
  go_wp2_with fail
  refine (pick_any _ g (k + 1 + 4) 20 r3 (by omega)).mono ?_
  rintro e w4 ⟨z, rfl, hz0, _, _, r4, ow4⟩
  have b4 := box_only b3 ow4 (by omega)
  have x4 := box_only x3 ow4 (by omega)
  have t4 := t3.trans ow4
  clear r3 b3 x3 t3 ow4
  have d0 : w4.cell? ⟨w2.heap.size, 0, none⟩ = some (.int .i64 a) := by have := x4.cell 0; simpa using this
  have d1 : w4.cell? ⟨w2.heap.size, 1, none⟩ = some (.int .i64 b) := by have := x4.cell 1; simpa using this
  have d2 : w4.cell? ⟨w2.heap.size, 2, none⟩ = some (.int .i64 c) := by have := x4.cell 2; simpa using this
  by_cases hz : z = 0
  · subst hz
    go_wp2_with fail
    refine (l2Spoilt_any w4 g (k + 1 + 4 + 1) a b c r4 (by omega)).mono ?_
    rintro e w5 ⟨a', b', c', rfl, r5, ow5⟩
    have b5 := box_only b4 ow5 (by omega)
    have t5 := t4.trans ow5
    clear r4 b4 x4 t4 ow5 d0 d1 d2
    have e0 : w5.cell? ⟨w.heap.size, 0, none⟩ = some (.int .i64 0) := by have := b5.cell 0; simpa using this
    have e1 : w5.cell? ⟨w.heap.size, 1, none⟩ = some (.int .i64 0) := by have := b5.cell 1; simpa using this
    have e2 : w5.cell? ⟨w.heap.size, 2, none⟩ = some (.int .i64 0) := by have := b5.cell 2; simpa using this
    have ef0 : w5.frozen? ⟨w.heap.size, 0, none⟩ = false := b5.free 0
    have ef1 : w5.frozen? ⟨w.heap.size, 1, none⟩ = false := b5.free 1
    have ef2 : w5.frozen? ⟨w.heap.size, 2, none⟩ = false := b5.free 2
    have lz := b5.lt
    have lzr := r5.lt
    have lzs := t5.size_le
    clear b5
    go_wp2
    refine bodyPost_ret (v := .agg #[.int .i64 a', .int .i64 b', .int .i64 c']) (by simp [results, Tryd.results78, go_sem, e0, e1, e2]) rfl ⟨a', b', c', rfl, ?_, ?_⟩
    · repeat (first | exact r5.mono (by omega) | refine Rd.setCell ?_ (by simp; try omega) _)
    · repeat (first | exact t5 | refine Only.setCell ?_ (by right; simp; try omega) _)
  · have hz' : (z == 0) = false := by simpa using hz
    clear x4
    have e0 : w4.cell? ⟨w.heap.size, 0, none⟩ = some (.int .i64 0) := by have := b4.cell 0; simpa using this
    have e1 : w4.cell? ⟨w.heap.size, 1, none⟩ = some (.int .i64 0) := by have := b4.cell 1; simpa using this
    have e2 : w4.cell? ⟨w.heap.size, 2, none⟩ = some (.int .i64 0) := by have := b4.cell 2; simpa using this
    have ef0 : w4.frozen? ⟨w.heap.size, 0, none⟩ = false := b4.free 0
    have ef1 : w4.frozen? ⟨w.heap.size, 1, none⟩ = false := b4.free 1
    have ef2 : w4.frozen? ⟨w.heap.size, 2, none⟩ = false := b4.free 2
    have lz := b4.lt
    have lzr := r4.lt
    have lzs := t4.size_le
    clear b4
    go_wp2
    refine bodyPost_ret (v := .agg #[.int .i64 a, .int .i64 b, .int .i64 c]) (by simp [results, Tryd.results78, go_sem, e0, e1, e2]) rfl ⟨a, b, c, rfl, ?_, ?_⟩
    · repeat (first | exact r4.mono (by omega) | refine Rd.setCell ?_ (by simp; try omega) _)
    · repeat (first | exact t4 | refine Only.setCell ?_ (by right; simp; try omega) _)
end Go.Proofs.YtmlpobecilbknaaDoor
