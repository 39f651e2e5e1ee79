/- The draws of operands. -/
import Derived.Test.YtmlpobecilbknaaDoorRows
import Derived.Test.YtmlpobecilbknaaDoorWDev2
import Derived.Test.YtmlpobecilbknaaDoorWDraw2
import Derived.WalkKit
import Derived.WalkSpells
import Derived.WalkLawsBesides
import Derived.OpenShut
import Derived.OwnWalk
import Derived.IntWalk
import Derived.Lib.Hide
namespace Go.Proofs.YtmlpobecilbknaaDoor
open Go.RowKit Bx Rdr
set_option linter.unusedVariables false

theorem IsCode.below {w w' : World} {a : Option Addr} {n c : Nat} (h : IsCode w a n c) (hb : Below w.heap.size w w') : IsCode w' a n c := by
  rcases h with h | ⟨b, off, rfl, hc, hbl, hcell⟩
  · exact .inl h
  · refine .inr ⟨b, off, rfl, hc, Nat.lt_of_lt_of_le hbl hb.size, fun i hi => ?_⟩
    obtain ⟨u, hu, h1⟩ := hcell i hi
    exact ⟨u, hu, (hb.cell (p := ⟨b, off + i, none⟩) hbl).trans h1⟩
theorem box_only {w w' : World} {g b : Nat} {cs : Array Value} {t : TypeId} (h : Box w b cs t) (ho : Only g w w') (hne : b ≠ g) : Box w' b cs t := (ho.block b h.lt (by simp; exact hne)).trans h
theorem devSize_s_any (k : Int) (w : World) : Calls Tryd.prog 71 #[.int .i64 k] w fun e w' => e = .returned (.int .i64 (DevP.size k)) ∧ w = w' := by
  have key : Calls Tryd.prog 71 #[.int .i64 k] w fun e w' => e = .returned (.int .i64 (DevP.size k)) ∧ w' = w := by
    by_cases hl : k < 1
    · rw [show DevP.size k = 0 by unfold DevP.size; rw [if_neg (by omega), if_neg (by omega), if_neg (by omega), if_neg (by omega)]]; exact devSize_s_low k hl w
    by_cases hh : 10 < k
    · rw [show DevP.size k = 0 by unfold DevP.size; rw [if_neg (by omega), if_neg (by omega), if_neg (by omega), if_neg (by omega)]]; exact devSize_s_high k hh w
    have hk : k = 1 ∨ k = 2 ∨ k = 3 ∨ k = 4 ∨ k = 5 ∨ k = 6 ∨ k = 7 ∨ k = 8 ∨ k = 9 ∨ k = 10 := by omega
    rcases hk with rfl | rfl | rfl | rfl | rfl | rfl | rfl | rfl | rfl | rfl
    · exact devSize_s_1 w
    · exact devSize_s_2 w
    · exact devSize_s_3 w
    · exact devSize_s_4 w
    · exact devSize_s_5 w
    · exact devSize_s_6 w
    · exact devSize_s_7 w
    · exact devSize_s_8 w
    · exact devSize_s_9 w
    · exact devSize_s_10 w
  exact key.mono fun e w' ⟨he, hw⟩ => ⟨he, hw.symm⟩
theorem devSize_le (k : Int) : 0 ≤ DevP.size k ∧ DevP.size k ≤ 64 := by unfold DevP.size; repeat (first | split | omega)
/-- AN OPERAND, DRAWN: the reader goes on by at most d; no other block turns. -/
def DrewArg (d : Nat) (w : World) (g j : Nat) (e : Ending) (w' : World) : Prop :=
  ∃ k n p : Int, e = .returned (.agg #[.int .i64 k, .int .i64 n, .int .i64 p]) ∧ Rd 82 w' g (j + d) ∧ Only g w w'
set_option maxRecDepth 100000 in
set_option maxHeartbeats 2000000 in
theorem l2Arg_int (w : World) (g k : Nat)  (h : Rd 82 w g k) (hk : k ≤ 100000) : Calls Tryd.prog 84 #[.pointer (some ⟨g, 0, none⟩), .int .i64 11] w (DrewArg 4 w g k) := by
  have hlt := h.lt
  have r0 : Rd 82 (w.alloc (.cells #[.int .i64 0, .int .i64 0, .int .i64 0] 40)) g k := h.alloc _
  have b0 := Box.new w #[.int .i64 0, .int .i64 0, .int .i64 0] 40
  have o0 : Only g w (w.alloc (.cells #[.int .i64 0, .int .i64 0, .int .i64 0] 40)) := (Only.refl g w).alloc _
  have HB := Lib.hid (And.intro b0 o0)
  clear b0 o0 h
  go_enter Tryd.func84, Tryd.ntmps84
  have hlit := cells_lit (w.alloc (.cells #[.int .i64 0, .int .i64 0, .int .i64 0] 40)) [0, 1, 2, 3, 5, -1, -7, 10, 100, 32767, -32768, 1000] 3 (fun _ => True) (by simp)
  rw [show (w.alloc (.cells #[.int .i64 0, .int .i64 0, .int .i64 0] 40)).heap.size = w.heap.size + 1 by simp] at hlit
  go_wp2_with fail
  refine (num_any ((w.alloc (.cells #[.int .i64 0, .int .i64 0, .int .i64 0] 40)).alloc (.cells (([0, 1, 2, 3, 5, -1, -7, 10, 100, 32767, -32768, 1000] : List Int).map (Value.int .i64)).toArray 3)) g k (w.heap.size + 1) 12 12 (fun _ => True) (r0.alloc _) (by omega) (by omega) (by omega) (by simp) (by omega) hlit).mono ?_
  rintro e w1 ⟨x, rfl, hx, r1, ow1⟩
  clear hlit
  have bw1 := box_only (HB.out.1.alloc _) ow1 (by omega)
  have tw1 := (HB.out.2.alloc _).trans ow1
  clear r0 ow1
  have e0 : w1.cell? ⟨w.heap.size, 0, none⟩ = some (.int .i64 0) := by have := bw1.cell 0; simpa using this
  have e1 : w1.cell? ⟨w.heap.size, 1, none⟩ = some (.int .i64 0) := by have := bw1.cell 1; simpa using this
  have e2 : w1.cell? ⟨w.heap.size, 2, none⟩ = some (.int .i64 0) := by have := bw1.cell 2; simpa using this
  have ef0 : w1.frozen? ⟨w.heap.size, 0, none⟩ = false := bw1.free 0
  have ef1 : w1.frozen? ⟨w.heap.size, 1, none⟩ = false := bw1.free 1
  have ef2 : w1.frozen? ⟨w.heap.size, 2, none⟩ = false := bw1.free 2
  have lz := bw1.lt
  have lzr := r1.lt
  have lzs := tw1.size_le
  clear bw1
  go_wp2
  refine bodyPost_ret (v := .agg #[.int .i64 11, .int .i64 x, .int .i64 0]) (by simp [results, Tryd.results84, go_sem, e0, e1, e2]) rfl ⟨11, x, 0, rfl, ?_, ?_⟩
  · repeat (first | exact r1.mono (by omega) | refine Rd.setCell ?_ (by simp; try omega) _)
  · repeat (first | exact tw1 | refine Only.setCell ?_ (by right; simp; try omega) _)
set_option maxRecDepth 100000 in
set_option maxHeartbeats 2000000 in
theorem l2Arg_dec (w : World) (g k : Nat)  (h : Rd 82 w g k) (hk : k ≤ 100000) : Calls Tryd.prog 84 #[.pointer (some ⟨g, 0, none⟩), .int .i64 12] w (DrewArg 4 w g k) := by
  have hlt := h.lt
  have r0 : Rd 82 (w.alloc (.cells #[.int .i64 0, .int .i64 0, .int .i64 0] 40)) g k := h.alloc _
  have b0 := Box.new w #[.int .i64 0, .int .i64 0, .int .i64 0] 40
  have o0 : Only g w (w.alloc (.cells #[.int .i64 0, .int .i64 0, .int .i64 0] 40)) := (Only.refl g w).alloc _
  have HB := Lib.hid (And.intro b0 o0)
  clear b0 o0 h
  go_enter Tryd.func84, Tryd.ntmps84
  have hlit := cells_lit (w.alloc (.cells #[.int .i64 0, .int .i64 0, .int .i64 0] 40)) [0, 1, 5, -5, 25, -15, 999999999, -999999999, 3, 1001, 7] 3 (fun x => -999999999 ≤ x ∧ x ≤ 999999999) (by decide)
  rw [show (w.alloc (.cells #[.int .i64 0, .int .i64 0, .int .i64 0] 40)).heap.size = w.heap.size + 1 by simp] at hlit
  go_wp2_with fail
  refine (num_any ((w.alloc (.cells #[.int .i64 0, .int .i64 0, .int .i64 0] 40)).alloc (.cells (([0, 1, 5, -5, 25, -15, 999999999, -999999999, 3, 1001, 7] : List Int).map (Value.int .i64)).toArray 3)) g k (w.heap.size + 1) 11 11 (fun x => -999999999 ≤ x ∧ x ≤ 999999999) (r0.alloc _) (by omega) (by omega) (by omega) (by simp) (by omega) hlit).mono ?_
  rintro e w1 ⟨x, rfl, hx, r1, ow1⟩
  clear hlit
  have bw1 := box_only (HB.out.1.alloc _) ow1 (by omega)
  have tw1 := (HB.out.2.alloc _).trans ow1
  clear r0 ow1
  obtain ⟨hx1, hx2⟩ := hx
  go_wp2_with fail
  refine (pick_any w1 g (k + 1) 6 r1 (by omega)).mono ?_
  rintro e w2 ⟨y, rfl, hy0, hy1, _, r2, ow2⟩
  have hy1 := hy1 (by omega)
  have bw2 := box_only (bw1) ow2 (by omega)
  have tw2 := (tw1).trans ow2
  clear r1 ow2 bw1 tw1
  by_cases hz : x.tmod 10 = 0
  · have q : (x.tmod 10 == 0) = true := by simpa using hz
    clear hz
    have e0 : w2.cell? ⟨w.heap.size, 0, none⟩ = some (.int .i64 0) := by have := bw2.cell 0; simpa using this
    have e1 : w2.cell? ⟨w.heap.size, 1, none⟩ = some (.int .i64 0) := by have := bw2.cell 1; simpa using this
    have e2 : w2.cell? ⟨w.heap.size, 2, none⟩ = some (.int .i64 0) := by have := bw2.cell 2; simpa using this
    have ef0 : w2.frozen? ⟨w.heap.size, 0, none⟩ = false := bw2.free 0
    have ef1 : w2.frozen? ⟨w.heap.size, 1, none⟩ = false := bw2.free 1
    have ef2 : w2.frozen? ⟨w.heap.size, 2, none⟩ = false := bw2.free 2
    have lz := bw2.lt
    have lzr := r2.lt
    have lzs := tw2.size_le
    clear bw2
    go_wp2
    refine bodyPost_ret (v := .agg #[.int .i64 12, .int .i64 x, .int .i64 1]) (by simp [results, Tryd.results84, go_sem, e0, e1, e2]) rfl ⟨12, x, 1, rfl, ?_, ?_⟩
    · repeat (first | exact r2.mono (by omega) | refine Rd.setCell ?_ (by simp; try omega) _)
    · repeat (first | exact tw2 | refine Only.setCell ?_ (by right; simp; try omega) _)
  · have q : (x.tmod 10 == 0) = false := by simpa using hz
    clear hz
    have e0 : w2.cell? ⟨w.heap.size, 0, none⟩ = some (.int .i64 0) := by have := bw2.cell 0; simpa using this
    have e1 : w2.cell? ⟨w.heap.size, 1, none⟩ = some (.int .i64 0) := by have := bw2.cell 1; simpa using this
    have e2 : w2.cell? ⟨w.heap.size, 2, none⟩ = some (.int .i64 0) := by have := bw2.cell 2; simpa using this
    have ef0 : w2.frozen? ⟨w.heap.size, 0, none⟩ = false := bw2.free 0
    have ef1 : w2.frozen? ⟨w.heap.size, 1, none⟩ = false := bw2.free 1
    have ef2 : w2.frozen? ⟨w.heap.size, 2, none⟩ = false := bw2.free 2
    have lz := bw2.lt
    have lzr := r2.lt
    have lzs := tw2.size_le
    clear bw2
    go_wp2
    refine bodyPost_ret (v := .agg #[.int .i64 12, .int .i64 x, .int .i64 (1 + y)]) (by simp [results, Tryd.results84, go_sem, e0, e1, e2]) rfl ⟨12, x, (1 + y), rfl, ?_, ?_⟩
    · repeat (first | exact r2.mono (by omega) | refine Rd.setCell ?_ (by simp; try omega) _)
    · repeat (first | exact tw2 | refine Only.setCell ?_ (by right; simp; try omega) _)
set_option maxRecDepth 100000 in
set_option maxHeartbeats 2000000 in
theorem l2Arg_word (w : World) (g k : Nat)  (h : Rd 82 w g k) (hk : k ≤ 100000) : Calls Tryd.prog 84 #[.pointer (some ⟨g, 0, none⟩), .int .i64 13] w (DrewArg 4 w g k) := by
  have hlt := h.lt
  have r0 : Rd 82 (w.alloc (.cells #[.int .i64 0, .int .i64 0, .int .i64 0] 40)) g k := h.alloc _
  have b0 := Box.new w #[.int .i64 0, .int .i64 0, .int .i64 0] 40
  have o0 : Only g w (w.alloc (.cells #[.int .i64 0, .int .i64 0, .int .i64 0] 40)) := (Only.refl g w).alloc _
  have HB := Lib.hid (And.intro b0 o0)
  clear b0 o0 h
  go_enter Tryd.func84, Tryd.ntmps84
  go_wp2_with fail
  refine (pick_any (w.alloc (.cells #[.int .i64 0, .int .i64 0, .int .i64 0] 40)) g k 4 r0 (by omega)).mono ?_
  rintro e w1 ⟨y, rfl, hy0, hy1, _, r1, ow1⟩
  have bw1 := box_only (HB.out.1) ow1 (by omega)
  have tw1 := (HB.out.2).trans ow1
  clear r0 ow1 hy1
  have e0 : w1.cell? ⟨w.heap.size, 0, none⟩ = some (.int .i64 0) := by have := bw1.cell 0; simpa using this
  have e1 : w1.cell? ⟨w.heap.size, 1, none⟩ = some (.int .i64 0) := by have := bw1.cell 1; simpa using this
  have e2 : w1.cell? ⟨w.heap.size, 2, none⟩ = some (.int .i64 0) := by have := bw1.cell 2; simpa using this
  have ef0 : w1.frozen? ⟨w.heap.size, 0, none⟩ = false := bw1.free 0
  have ef1 : w1.frozen? ⟨w.heap.size, 1, none⟩ = false := bw1.free 1
  have ef2 : w1.frozen? ⟨w.heap.size, 2, none⟩ = false := bw1.free 2
  have lz := bw1.lt
  have lzr := r1.lt
  have lzs := tw1.size_le
  clear bw1
  go_wp2
  refine bodyPost_ret (v := .agg #[.int .i64 13, .int .i64 y, .int .i64 0]) (by simp [results, Tryd.results84, go_sem, e0, e1, e2]) rfl ⟨13, y, 0, rfl, ?_, ?_⟩
  · repeat (first | exact r1.mono (by omega) | refine Rd.setCell ?_ (by simp; try omega) _)
  · repeat (first | exact tw1 | refine Only.setCell ?_ (by right; simp; try omega) _)
set_option maxRecDepth 100000 in
set_option maxHeartbeats 2000000 in
theorem l2Arg_dev (w : World) (g k : Nat) (kd : Int) (h1 : ¬ kd = 11) (h2 : ¬ kd = 12) (h3 : ¬ kd = 13) (h : Rd 82 w g k) (hk : k ≤ 100000) : Calls Tryd.prog 84 #[.pointer (some ⟨g, 0, none⟩), .int .i64 kd] w (DrewArg 4 w g k) := by
  have k1 : (kd == 11) = false := by simpa using h1
  have k2 : (kd == 12) = false := by simpa using h2
  have k3 : (kd == 13) = false := by simpa using h3
  have hlt := h.lt
  have r0 : Rd 82 (w.alloc (.cells #[.int .i64 0, .int .i64 0, .int .i64 0] 40)) g k := h.alloc _
  have b0 := Box.new w #[.int .i64 0, .int .i64 0, .int .i64 0] 40
  have o0 : Only g w (w.alloc (.cells #[.int .i64 0, .int .i64 0, .int .i64 0] 40)) := (Only.refl g w).alloc _
  have HB := Lib.hid (And.intro b0 o0)
  clear b0 o0 h
  go_enter Tryd.func84, Tryd.ntmps84
  go_wp2_with fail
  refine (pick_any (w.alloc (.cells #[.int .i64 0, .int .i64 0, .int .i64 0] 40)) g k 4 r0 (by omega)).mono ?_
  rintro e w1 ⟨x, rfl, hx0, hx1, _, r1, ow1⟩
  have hx1 := hx1 (by omega)
  have bw1 := box_only (HB.out.1) ow1 (by omega)
  have tw1 := (HB.out.2).trans ow1
  clear r0 ow1
  go_wp2_with fail
  refine (pick_any w1 g (k + 1) 6 r1 (by omega)).mono ?_
  rintro e w2 ⟨y, rfl, hy0, hy1, _, r2, ow2⟩
  have bw2 := box_only (bw1) ow2 (by omega)
  have tw2 := (tw1).trans ow2
  clear r1 ow2 bw1 tw1 hy1
  by_cases hz : y = 0
  · subst hz
    go_wp2_with fail
    refine (devSize_s_any kd _).mono ?_
    rintro e w9 ⟨rfl, rfl⟩
    go_wp2_with fail
    refine (pick_any w2 g (k + 1 + 1) (DevP.size kd) r2 (by omega)).mono ?_
    rintro e w3 ⟨z, rfl, hz0, _, _, r3, ow3⟩
    have bw3 := box_only (bw2) ow3 (by omega)
    have tw3 := (tw2).trans ow3
    clear r2 ow3 bw2 tw2
    by_cases hge : DevP.size kd ≤ z
    · have q : decide (DevP.size kd ≤ z) = true := by simpa using hge
      clear hge
      go_wp2_with fail
      refine (devSize_s_any kd _).mono ?_
      rintro e w9 ⟨rfl, rfl⟩
      generalize DevP.size kd = s at q
      have e0 : w3.cell? ⟨w.heap.size, 0, none⟩ = some (.int .i64 0) := by have := bw3.cell 0; simpa using this
      have e1 : w3.cell? ⟨w.heap.size, 1, none⟩ = some (.int .i64 0) := by have := bw3.cell 1; simpa using this
      have e2 : w3.cell? ⟨w.heap.size, 2, none⟩ = some (.int .i64 0) := by have := bw3.cell 2; simpa using this
      have ef0 : w3.frozen? ⟨w.heap.size, 0, none⟩ = false := bw3.free 0
      have ef1 : w3.frozen? ⟨w.heap.size, 1, none⟩ = false := bw3.free 1
      have ef2 : w3.frozen? ⟨w.heap.size, 2, none⟩ = false := bw3.free 2
      have lz := bw3.lt
      have lzr := r3.lt
      have lzs := tw3.size_le
      clear bw3
      go_wp2
      refine bodyPost_ret (v := .agg #[.int .i64 kd, .int .i64 0, .int .i64 0]) (by simp [results, Tryd.results84, go_sem, e0, e1, e2]) rfl ⟨kd, 0, 0, rfl, ?_, ?_⟩
      · repeat (first | exact r3.mono (by omega) | refine Rd.setCell ?_ (by simp; try omega) _)
      · repeat (first | exact tw3 | refine Only.setCell ?_ (by right; simp; try omega) _)
    · have q : decide (DevP.size kd ≤ z) = false := by simpa using hge
      clear hge
      go_wp2_with fail
      refine (devSize_s_any kd _).mono ?_
      rintro e w9 ⟨rfl, rfl⟩
      generalize DevP.size kd = s at q
      have e0 : w3.cell? ⟨w.heap.size, 0, none⟩ = some (.int .i64 0) := by have := bw3.cell 0; simpa using this
      have e1 : w3.cell? ⟨w.heap.size, 1, none⟩ = some (.int .i64 0) := by have := bw3.cell 1; simpa using this
      have e2 : w3.cell? ⟨w.heap.size, 2, none⟩ = some (.int .i64 0) := by have := bw3.cell 2; simpa using this
      have ef0 : w3.frozen? ⟨w.heap.size, 0, none⟩ = false := bw3.free 0
      have ef1 : w3.frozen? ⟨w.heap.size, 1, none⟩ = false := bw3.free 1
      have ef2 : w3.frozen? ⟨w.heap.size, 2, none⟩ = false := bw3.free 2
      have lz := bw3.lt
      have lzr := r3.lt
      have lzs := tw3.size_le
      clear bw3
      go_wp2
      refine bodyPost_ret (v := .agg #[.int .i64 kd, .int .i64 z, .int .i64 0]) (by simp [results, Tryd.results84, go_sem, e0, e1, e2]) rfl ⟨kd, z, 0, rfl, ?_, ?_⟩
      · repeat (first | exact r3.mono (by omega) | refine Rd.setCell ?_ (by simp; try omega) _)
      · repeat (first | exact tw3 | refine Only.setCell ?_ (by right; simp; try omega) _)
  · have q0 : (y == 0) = false := by simpa using hz
    obtain ⟨z, hxz⟩ : ∃ z, z = x := ⟨_, rfl⟩
    rw [← hxz] at hx0 hx1 ⊢
    clear hxz
    have r3 := r2.mono (k' := k + 1 + 1 + 1) (by omega)
    clear r2
    by_cases hge : DevP.size kd ≤ z
    · have q : decide (DevP.size kd ≤ z) = true := by simpa using hge
      clear hge
      go_wp2_with fail
      refine (devSize_s_any kd _).mono ?_
      rintro e w9 ⟨rfl, rfl⟩
      generalize DevP.size kd = s at q
      have e0 : w2.cell? ⟨w.heap.size, 0, none⟩ = some (.int .i64 0) := by have := bw2.cell 0; simpa using this
      have e1 : w2.cell? ⟨w.heap.size, 1, none⟩ = some (.int .i64 0) := by have := bw2.cell 1; simpa using this
      have e2 : w2.cell? ⟨w.heap.size, 2, none⟩ = some (.int .i64 0) := by have := bw2.cell 2; simpa using this
      have ef0 : w2.frozen? ⟨w.heap.size, 0, none⟩ = false := bw2.free 0
      have ef1 : w2.frozen? ⟨w.heap.size, 1, none⟩ = false := bw2.free 1
      have ef2 : w2.frozen? ⟨w.heap.size, 2, none⟩ = false := bw2.free 2
      have lz := bw2.lt
      have lzr := r3.lt
      have lzs := tw2.size_le
      clear bw2
      go_wp2
      refine bodyPost_ret (v := .agg #[.int .i64 kd, .int .i64 0, .int .i64 0]) (by simp [results, Tryd.results84, go_sem, e0, e1, e2]) rfl ⟨kd, 0, 0, rfl, ?_, ?_⟩
      · repeat (first | exact r3.mono (by omega) | refine Rd.setCell ?_ (by simp; try omega) _)
      · repeat (first | exact tw2 | refine Only.setCell ?_ (by right; simp; try omega) _)
    · have q : decide (DevP.size kd ≤ z) = false := by simpa using hge
      clear hge
      go_wp2_with fail
      refine (devSize_s_any kd _).mono ?_
      rintro e w9 ⟨rfl, rfl⟩
      generalize DevP.size kd = s at q
      have e0 : w2.cell? ⟨w.heap.size, 0, none⟩ = some (.int .i64 0) := by have := bw2.cell 0; simpa using this
      have e1 : w2.cell? ⟨w.heap.size, 1, none⟩ = some (.int .i64 0) := by have := bw2.cell 1; simpa using this
      have e2 : w2.cell? ⟨w.heap.size, 2, none⟩ = some (.int .i64 0) := by have := bw2.cell 2; simpa using this
      have ef0 : w2.frozen? ⟨w.heap.size, 0, none⟩ = false := bw2.free 0
      have ef1 : w2.frozen? ⟨w.heap.size, 1, none⟩ = false := bw2.free 1
      have ef2 : w2.frozen? ⟨w.heap.size, 2, none⟩ = false := bw2.free 2
      have lz := bw2.lt
      have lzr := r3.lt
      have lzs := tw2.size_le
      clear bw2
      go_wp2
      refine bodyPost_ret (v := .agg #[.int .i64 kd, .int .i64 z, .int .i64 0]) (by simp [results, Tryd.results84, go_sem, e0, e1, e2]) rfl ⟨kd, z, 0, rfl, ?_, ?_⟩
      · repeat (first | exact r3.mono (by omega) | refine Rd.setCell ?_ (by simp; try omega) _)
      · repeat (first | exact tw2 | refine Only.setCell ?_ (by right; simp; try omega) _)
theorem l2Arg_any (w : World) (g k : Nat) (kd : Int) (h : Rd 82 w g k) (hk : k ≤ 100000) : Calls Tryd.prog 84 #[.pointer (some ⟨g, 0, none⟩), .int .i64 kd] w (DrewArg 4 w g k) := by
  by_cases h1 : kd = 11
  · subst h1; exact l2Arg_int w g k h hk
  by_cases h2 : kd = 12
  · subst h2; exact l2Arg_dec w g k h hk
  by_cases h3 : kd = 13
  · subst h3; exact l2Arg_word w g k h hk
  exact l2Arg_dev w g k kd h1 h2 h3 h hk
set_option maxRecDepth 100000 in
set_option maxHeartbeats 2000000 in
theorem l2Spoilt_any (w : World) (g k : Nat) (kd n p : Int) (h : Rd 82 w g k) (hk : k ≤ 100000) : Calls Tryd.prog 79 #[.pointer (some ⟨g, 0, none⟩), .agg #[.int .i64 kd, .int .i64 n, .int .i64 p]] w (DrewArg 2 w g k) := by
  have hlt := h.lt
  have r0 : Rd 82 ((w.alloc (.cells #[.int .i64 kd, .int .i64 n, .int .i64 p] 40)).alloc (.cells #[.int .i64 0, .int .i64 0, .int .i64 0] 40)) g k := (h.alloc _).alloc _
  have a0 := (Box.new w #[.int .i64 kd, .int .i64 n, .int .i64 p] 40).alloc (.cells #[.int .i64 0, .int .i64 0, .int .i64 0] 40)
  have b0 : Box ((w.alloc (.cells #[.int .i64 kd, .int .i64 n, .int .i64 p] 40)).alloc (.cells #[.int .i64 0, .int .i64 0, .int .i64 0] 40)) (w.heap.size + 1) #[.int .i64 0, .int .i64 0, .int .i64 0] 40 := by have := Box.new (w.alloc (.cells #[.int .i64 kd, .int .i64 n, .int .i64 p] 40)) #[.int .i64 0, .int .i64 0, .int .i64 0] 40; simpa using this
  have o0 : Only g w ((w.alloc (.cells #[.int .i64 kd, .int .i64 n, .int .i64 p] 40)).alloc (.cells #[.int .i64 0, .int .i64 0, .int .i64 0] 40)) := ((Only.refl g w).alloc _).alloc _
  have HB := Lib.hid (And.intro a0 (And.intro b0 o0))
  clear a0 b0 o0 h
  go_enter Tryd.func79, Tryd.ntmps79
  go_wp2_with fail
  refine (pick_any ((w.alloc (.cells #[.int .i64 kd, .int .i64 n, .int .i64 p] 40)).alloc (.cells #[.int .i64 0, .int .i64 0, .int .i64 0] 40)) g k 6 r0 (by omega)).mono ?_
  rintro e w1 ⟨z, rfl, hz0, hz1, _, r1, ow1⟩
  have hz1 := hz1 (by omega)
  have a1 := box_only HB.out.1 ow1 (by omega)
  have b1 := box_only HB.out.2.1 ow1 (by omega)
  have t1 := HB.out.2.2.trans ow1
  clear r0 ow1 HB
  have hz : z = 0 ∨ z = 1 ∨ z = 2 ∨ z = 3 ∨ z = 4 ∨ z = 5 := by omega
  clear hz0 hz1
  rcases hz with rfl | rfl | rfl | rfl | rfl | rfl
  · go_wp2_with fail
    refine (pick_any w1 g (k + 1) 16 r1 (by omega)).mono ?_
    rintro e w2 ⟨y, rfl, hy0, hy1, _, r2, ow2⟩
    have hy1 := hy1 (by omega)
    have a2 := box_only (a1) ow2 (by omega)
    have b2 := box_only (b1) ow2 (by omega)
    have t2 := (t1).trans ow2
    clear r1 ow2 a1 b1 t1
    have e0 : w2.cell? ⟨w.heap.size + 1, 0, none⟩ = some (.int .i64 0) := by have := b2.cell 0; simpa using this
    have e1 : w2.cell? ⟨w.heap.size + 1, 1, none⟩ = some (.int .i64 0) := by have := b2.cell 1; simpa using this
    have e2 : w2.cell? ⟨w.heap.size + 1, 2, none⟩ = some (.int .i64 0) := by have := b2.cell 2; simpa using this
    have ef0 : w2.frozen? ⟨w.heap.size + 1, 0, none⟩ = false := b2.free 0
    have ef1 : w2.frozen? ⟨w.heap.size + 1, 1, none⟩ = false := b2.free 1
    have ef2 : w2.frozen? ⟨w.heap.size + 1, 2, none⟩ = false := b2.free 2
    have d0 : w2.cell? ⟨w.heap.size, 0, none⟩ = some (.int .i64 kd) := by have := a2.cell 0; simpa using this
    have d1 : w2.cell? ⟨w.heap.size, 1, none⟩ = some (.int .i64 n) := by have := a2.cell 1; simpa using this
    have d2 : w2.cell? ⟨w.heap.size, 2, none⟩ = some (.int .i64 p) := by have := a2.cell 2; simpa using this
    have df0 : w2.frozen? ⟨w.heap.size, 0, none⟩ = false := a2.free 0
    have df1 : w2.frozen? ⟨w.heap.size, 1, none⟩ = false := a2.free 1
    have df2 : w2.frozen? ⟨w.heap.size, 2, none⟩ = false := a2.free 2
    have lz := b2.lt
    have lza := a2.lt
    have lzr := r2.lt
    have lzs := t2.size_le
    clear b2 a2
    go_wp2
    refine bodyPost_ret (v := .agg #[.int .i64 (y - 1), .int .i64 (n), .int .i64 (p)]) (by simp [results, Tryd.results79, go_sem, e0, e1, e2]) rfl ⟨(y - 1), (n), (p), rfl, ?_, ?_⟩
    · repeat (first | exact r2.mono (by omega) | refine Rd.setCell ?_ (by simp; try omega) _)
    · repeat (first | exact t2 | refine Only.setCell ?_ (by right; simp; try omega) _)
  · skip
    have hlit := cells_lit w1 [-1, 4, 5, 15, 16, 31, 32, 63, 64, 255, 32768, -32769, 1000000000, -1000000000, 20, 10] 3 (fun _ => True) (by simp)
    have hl1 := r1.lt
    go_wp2_with fail
    refine (num_any (w1.alloc (.cells (([-1, 4, 5, 15, 16, 31, 32, 63, 64, 255, 32768, -32769, 1000000000, -1000000000, 20, 10] : List Int).map (Value.int .i64)).toArray 3)) g (k + 1) w1.heap.size 16 16 (fun _ => True) (r1.alloc _) (by omega) (by omega) (by omega) (by simp) (by omega) hlit).mono ?_
    rintro e w2 ⟨x, rfl, _, r2, ow2⟩
    clear hlit
    have a2 := box_only (a1.alloc _) ow2 (by omega)
    have b2 := box_only (b1.alloc _) ow2 (by omega)
    have t2 := (t1.alloc _).trans ow2
    clear r1 ow2 a1 b1 t1
    have e0 : w2.cell? ⟨w.heap.size + 1, 0, none⟩ = some (.int .i64 0) := by have := b2.cell 0; simpa using this
    have e1 : w2.cell? ⟨w.heap.size + 1, 1, none⟩ = some (.int .i64 0) := by have := b2.cell 1; simpa using this
    have e2 : w2.cell? ⟨w.heap.size + 1, 2, none⟩ = some (.int .i64 0) := by have := b2.cell 2; simpa using this
    have ef0 : w2.frozen? ⟨w.heap.size + 1, 0, none⟩ = false := b2.free 0
    have ef1 : w2.frozen? ⟨w.heap.size + 1, 1, none⟩ = false := b2.free 1
    have ef2 : w2.frozen? ⟨w.heap.size + 1, 2, none⟩ = false := b2.free 2
    have d0 : w2.cell? ⟨w.heap.size, 0, none⟩ = some (.int .i64 kd) := by have := a2.cell 0; simpa using this
    have d1 : w2.cell? ⟨w.heap.size, 1, none⟩ = some (.int .i64 n) := by have := a2.cell 1; simpa using this
    have d2 : w2.cell? ⟨w.heap.size, 2, none⟩ = some (.int .i64 p) := by have := a2.cell 2; simpa using this
    have df0 : w2.frozen? ⟨w.heap.size, 0, none⟩ = false := a2.free 0
    have df1 : w2.frozen? ⟨w.heap.size, 1, none⟩ = false := a2.free 1
    have df2 : w2.frozen? ⟨w.heap.size, 2, none⟩ = false := a2.free 2
    have lz := b2.lt
    have lza := a2.lt
    have lzr := r2.lt
    have lzs := t2.size_le
    clear b2 a2
    go_wp2
    refine bodyPost_ret (v := .agg #[.int .i64 (kd), .int .i64 (x), .int .i64 (p)]) (by simp [results, Tryd.results79, go_sem, e0, e1, e2]) rfl ⟨(kd), (x), (p), rfl, ?_, ?_⟩
    · repeat (first | exact r2.mono (by omega) | refine Rd.setCell ?_ (by simp; try omega) _)
    · repeat (first | exact t2 | refine Only.setCell ?_ (by right; simp; try omega) _)
  · skip
    have hlit := cells_lit w1 [-1, 0, 1, 6, 7] 3 (fun _ => True) (by simp)
    have hl1 := r1.lt
    go_wp2_with fail
    refine (num_any (w1.alloc (.cells (([-1, 0, 1, 6, 7] : List Int).map (Value.int .i64)).toArray 3)) g (k + 1) w1.heap.size 5 5 (fun _ => True) (r1.alloc _) (by omega) (by omega) (by omega) (by simp) (by omega) hlit).mono ?_
    rintro e w2 ⟨x, rfl, _, r2, ow2⟩
    clear hlit
    have a2 := box_only (a1.alloc _) ow2 (by omega)
    have b2 := box_only (b1.alloc _) ow2 (by omega)
    have t2 := (t1.alloc _).trans ow2
    clear r1 ow2 a1 b1 t1
    have e0 : w2.cell? ⟨w.heap.size + 1, 0, none⟩ = some (.int .i64 0) := by have := b2.cell 0; simpa using this
    have e1 : w2.cell? ⟨w.heap.size + 1, 1, none⟩ = some (.int .i64 0) := by have := b2.cell 1; simpa using this
    have e2 : w2.cell? ⟨w.heap.size + 1, 2, none⟩ = some (.int .i64 0) := by have := b2.cell 2; simpa using this
    have ef0 : w2.frozen? ⟨w.heap.size + 1, 0, none⟩ = false := b2.free 0
    have ef1 : w2.frozen? ⟨w.heap.size + 1, 1, none⟩ = false := b2.free 1
    have ef2 : w2.frozen? ⟨w.heap.size + 1, 2, none⟩ = false := b2.free 2
    have d0 : w2.cell? ⟨w.heap.size, 0, none⟩ = some (.int .i64 kd) := by have := a2.cell 0; simpa using this
    have d1 : w2.cell? ⟨w.heap.size, 1, none⟩ = some (.int .i64 n) := by have := a2.cell 1; simpa using this
    have d2 : w2.cell? ⟨w.heap.size, 2, none⟩ = some (.int .i64 p) := by have := a2.cell 2; simpa using this
    have df0 : w2.frozen? ⟨w.heap.size, 0, none⟩ = false := a2.free 0
    have df1 : w2.frozen? ⟨w.heap.size, 1, none⟩ = false := a2.free 1
    have df2 : w2.frozen? ⟨w.heap.size, 2, none⟩ = false := a2.free 2
    have lz := b2.lt
    have lza := a2.lt
    have lzr := r2.lt
    have lzs := t2.size_le
    clear b2 a2
    go_wp2
    refine bodyPost_ret (v := .agg #[.int .i64 (kd), .int .i64 (n), .int .i64 (x)]) (by simp [results, Tryd.results79, go_sem, e0, e1, e2]) rfl ⟨(kd), (n), (x), rfl, ?_, ?_⟩
    · repeat (first | exact r2.mono (by omega) | refine Rd.setCell ?_ (by simp; try omega) _)
    · repeat (first | exact t2 | refine Only.setCell ?_ (by right; simp; try omega) _)
  · skip
    have d0 : w1.cell? ⟨w.heap.size, 0, none⟩ = some (.int .i64 kd) := by have := a1.cell 0; simpa using this
    have d1 : w1.cell? ⟨w.heap.size, 1, none⟩ = some (.int .i64 n) := by have := a1.cell 1; simpa using this
    have d2 : w1.cell? ⟨w.heap.size, 2, none⟩ = some (.int .i64 p) := by have := a1.cell 2; simpa using this
    have hs := devSize_le kd
    go_wp2_with fail
    refine (devSize_s_any kd _).mono ?_
    rintro e w9 ⟨rfl, rfl⟩
    generalize DevP.size kd = s at hs
    obtain ⟨hs0, hs1⟩ := hs
    clear d0 d1 d2
    have e0 : w1.cell? ⟨w.heap.size + 1, 0, none⟩ = some (.int .i64 0) := by have := b1.cell 0; simpa using this
    have e1 : w1.cell? ⟨w.heap.size + 1, 1, none⟩ = some (.int .i64 0) := by have := b1.cell 1; simpa using this
    have e2 : w1.cell? ⟨w.heap.size + 1, 2, none⟩ = some (.int .i64 0) := by have := b1.cell 2; simpa using this
    have ef0 : w1.frozen? ⟨w.heap.size + 1, 0, none⟩ = false := b1.free 0
    have ef1 : w1.frozen? ⟨w.heap.size + 1, 1, none⟩ = false := b1.free 1
    have ef2 : w1.frozen? ⟨w.heap.size + 1, 2, none⟩ = false := b1.free 2
    have d0 : w1.cell? ⟨w.heap.size, 0, none⟩ = some (.int .i64 kd) := by have := a1.cell 0; simpa using this
    have d1 : w1.cell? ⟨w.heap.size, 1, none⟩ = some (.int .i64 n) := by have := a1.cell 1; simpa using this
    have d2 : w1.cell? ⟨w.heap.size, 2, none⟩ = some (.int .i64 p) := by have := a1.cell 2; simpa using this
    have df0 : w1.frozen? ⟨w.heap.size, 0, none⟩ = false := a1.free 0
    have df1 : w1.frozen? ⟨w.heap.size, 1, none⟩ = false := a1.free 1
    have df2 : w1.frozen? ⟨w.heap.size, 2, none⟩ = false := a1.free 2
    have lz := b1.lt
    have lza := a1.lt
    have lzr := r1.lt
    have lzs := t1.size_le
    clear b1 a1
    go_wp2
    refine bodyPost_ret (v := .agg #[.int .i64 (kd), .int .i64 (s), .int .i64 (p)]) (by simp [results, Tryd.results79, go_sem, e0, e1, e2]) rfl ⟨(kd), (s), (p), rfl, ?_, ?_⟩
    · repeat (first | exact r1.mono (by omega) | refine Rd.setCell ?_ (by simp; try omega) _)
    · repeat (first | exact t1 | refine Only.setCell ?_ (by right; simp; try omega) _)
  · skip
    have d0 : w1.cell? ⟨w.heap.size, 0, none⟩ = some (.int .i64 kd) := by have := a1.cell 0; simpa using this
    have d1 : w1.cell? ⟨w.heap.size, 1, none⟩ = some (.int .i64 n) := by have := a1.cell 1; simpa using this
    have d2 : w1.cell? ⟨w.heap.size, 2, none⟩ = some (.int .i64 p) := by have := a1.cell 2; simpa using this
    have hs := devSize_le kd
    go_wp2_with fail
    refine (devSize_s_any kd _).mono ?_
    rintro e w9 ⟨rfl, rfl⟩
    generalize DevP.size kd = s at hs
    obtain ⟨hs0, hs1⟩ := hs
    clear d0 d1 d2
    have e0 : w1.cell? ⟨w.heap.size + 1, 0, none⟩ = some (.int .i64 0) := by have := b1.cell 0; simpa using this
    have e1 : w1.cell? ⟨w.heap.size + 1, 1, none⟩ = some (.int .i64 0) := by have := b1.cell 1; simpa using this
    have e2 : w1.cell? ⟨w.heap.size + 1, 2, none⟩ = some (.int .i64 0) := by have := b1.cell 2; simpa using this
    have ef0 : w1.frozen? ⟨w.heap.size + 1, 0, none⟩ = false := b1.free 0
    have ef1 : w1.frozen? ⟨w.heap.size + 1, 1, none⟩ = false := b1.free 1
    have ef2 : w1.frozen? ⟨w.heap.size + 1, 2, none⟩ = false := b1.free 2
    have d0 : w1.cell? ⟨w.heap.size, 0, none⟩ = some (.int .i64 kd) := by have := a1.cell 0; simpa using this
    have d1 : w1.cell? ⟨w.heap.size, 1, none⟩ = some (.int .i64 n) := by have := a1.cell 1; simpa using this
    have d2 : w1.cell? ⟨w.heap.size, 2, none⟩ = some (.int .i64 p) := by have := a1.cell 2; simpa using this
    have df0 : w1.frozen? ⟨w.heap.size, 0, none⟩ = false := a1.free 0
    have df1 : w1.frozen? ⟨w.heap.size, 1, none⟩ = false := a1.free 1
    have df2 : w1.frozen? ⟨w.heap.size, 2, none⟩ = false := a1.free 2
    have lz := b1.lt
    have lza := a1.lt
    have lzr := r1.lt
    have lzs := t1.size_le
    clear b1 a1
    go_wp2
    refine bodyPost_ret (v := .agg #[.int .i64 (kd), .int .i64 (s - 1), .int .i64 (p)]) (by simp [results, Tryd.results79, go_sem, e0, e1, e2]) rfl ⟨(kd), (s - 1), (p), rfl, ?_, ?_⟩
    · repeat (first | exact r1.mono (by omega) | refine Rd.setCell ?_ (by simp; try omega) _)
    · repeat (first | exact t1 | refine Only.setCell ?_ (by right; simp; try omega) _)
  · skip
    have e0 : w1.cell? ⟨w.heap.size + 1, 0, none⟩ = some (.int .i64 0) := by have := b1.cell 0; simpa using this
    have e1 : w1.cell? ⟨w.heap.size + 1, 1, none⟩ = some (.int .i64 0) := by have := b1.cell 1; simpa using this
    have e2 : w1.cell? ⟨w.heap.size + 1, 2, none⟩ = some (.int .i64 0) := by have := b1.cell 2; simpa using this
    have ef0 : w1.frozen? ⟨w.heap.size + 1, 0, none⟩ = false := b1.free 0
    have ef1 : w1.frozen? ⟨w.heap.size + 1, 1, none⟩ = false := b1.free 1
    have ef2 : w1.frozen? ⟨w.heap.size + 1, 2, none⟩ = false := b1.free 2
    have d0 : w1.cell? ⟨w.heap.size, 0, none⟩ = some (.int .i64 kd) := by have := a1.cell 0; simpa using this
    have d1 : w1.cell? ⟨w.heap.size, 1, none⟩ = some (.int .i64 n) := by have := a1.cell 1; simpa using this
    have d2 : w1.cell? ⟨w.heap.size, 2, none⟩ = some (.int .i64 p) := by have := a1.cell 2; simpa using this
    have df0 : w1.frozen? ⟨w.heap.size, 0, none⟩ = false := a1.free 0
    have df1 : w1.frozen? ⟨w.heap.size, 1, none⟩ = false := a1.free 1
    have df2 : w1.frozen? ⟨w.heap.size, 2, none⟩ = false := a1.free 2
    have lz := b1.lt
    have lza := a1.lt
    have lzr := r1.lt
    have lzs := t1.size_le
    clear b1 a1
    go_wp2
    refine bodyPost_ret (v := .agg #[.int .i64 (kd), .int .i64 (wrap64 (-n)), .int .i64 (p)]) (by simp [results, Tryd.results79, go_sem, e0, e1, e2]) rfl ⟨(kd), (wrap64 (-n)), (p), rfl, ?_, ?_⟩
    · repeat (first | exact r1.mono (by omega) | refine Rd.setCell ?_ (by simp; try omega) _)
    · repeat (first | exact t1 | refine Only.setCell ?_ (by right; simp; try omega) _)
end Go.Proofs.YtmlpobecilbknaaDoor
