/- The draws of FnElemKinds: coils that calculate; l4Coil. -/
import Derived.Test.YtmlpobecilbknaaDoorRows
import Derived.Test.YtmlpobecilbknaaDoorWEk4
import Derived.WalkKit
import Derived.WalkSpells
import Derived.WalkLawsBesides
import Derived.OpenShut
import Derived.OwnWalk
import Derived.IntWalk
import Derived.Lib.Hide
import Derived.Deep.QuietTactic
import Derived.BigQuiet
namespace Go.Proofs.YtmlpobecilbknaaDoor
open Go.RowKit Bx Rdr ElemP
set_option linter.unusedVariables false

theorem lie_box3_3 {X : World} {h : Nat} {t : TypeId} {a b c p q r x y z : Int} (hb : Box X h #[.int .i64 a, .int .i64 b, .int .i64 c, .int .i64 p, .int .i64 q, .int .i64 r, .int .i64 x, .int .i64 y, .int .i64 z] t) : Lie X h 0 [(a, b, c), (p, q, r), (x, y, z)] := by
  refine ⟨hb.lt, fun i v hx => ?_⟩
  have hi : i < 3 := by
    rcases Nat.lt_or_ge i 3 with h | h
    · exact h
    · rw [List.getElem?_eq_none (by simpa using h)] at hx; cases hx
  have hi2 : i = 0 ∨ i = 1 ∨ i = 2 := by omega
  rcases hi2 with rfl | rfl | rfl <;> (cases hx; exact ⟨hb.cell _, hb.cell _, hb.cell _⟩)
theorem lie_box3_2 {X : World} {h : Nat} {t : TypeId} {a b c p q r x y z : Int} (hb : Box X h #[.int .i64 a, .int .i64 b, .int .i64 c, .int .i64 p, .int .i64 q, .int .i64 r, .int .i64 x, .int .i64 y, .int .i64 z] t) : Lie X h 0 [(a, b, c), (p, q, r)] := by
  refine ⟨hb.lt, fun i v hx => ?_⟩
  have hi : i < 2 := by
    rcases Nat.lt_or_ge i 2 with h | h
    · exact h
    · rw [List.getElem?_eq_none (by simpa using h)] at hx; cases hx
  have hi2 : i = 0 ∨ i = 1 := by omega
  rcases hi2 with rfl | rfl <;> (cases hx; exact ⟨hb.cell _, hb.cell _, hb.cell _⟩)
set_option maxRecDepth 100000 in
set_option maxHeartbeats 2000000 in
theorem l4Coil_30 (w : World) (g k : Nat) (h : Rd 82 w g k) (hk : k ≤ 80000) (hn : Calls Tryd.prog 77 #[.pointer (some ⟨g, 0, none⟩), .slice (some ⟨w.heap.size + 1, 0, none⟩) 22 22] ((w.alloc (.cells #[.int .i64 0, .slice none 0 0] 31)).alloc (.cells (([21, 21, 21, 22, 23, 24, 25, 26, 26, 27, 28, 29, 29, 30, 31, 31, 32, 33, 34, 35, 36, 37] : List Int).map (Value.int .i64)).toArray 3)) fun e w1 => e = .returned (.int .i64 30) ∧ Rd 82 w1 g (k + 1) ∧ Only g ((w.alloc (.cells #[.int .i64 0, .slice none 0 0] 31)).alloc (.cells (([21, 21, 21, 22, 23, 24, 25, 26, 26, 27, 28, 29, 29, 30, 31, 31, 32, 33, 34, 35, 36, 37] : List Int).map (Value.int .i64)).toArray 3)) w1) : Calls Tryd.prog 75 #[.pointer (some ⟨g, 0, none⟩)] w (DrewE 40 w g k) := by
  have hlt := h.lt
  have b0 := (Box.new w #[.int .i64 0, .slice none 0 0] 31).alloc (.cells (([21, 21, 21, 22, 23, 24, 25, 26, 26, 27, 28, 29, 29, 30, 31, 31, 32, 33, 34, 35, 36, 37] : List Int).map (Value.int .i64)).toArray 3)
  have o0 : Only g w ((w.alloc (.cells #[.int .i64 0, .slice none 0 0] 31)).alloc (.cells (([21, 21, 21, 22, 23, 24, 25, 26, 26, 27, 28, 29, 29, 30, 31, 31, 32, 33, 34, 35, 36, 37] : List Int).map (Value.int .i64)).toArray 3)) := ((Only.refl g w).alloc _).alloc _
  have HB := Lib.hid (And.intro b0 o0)
  clear b0 o0 h
  go_enter Tryd.func75, Tryd.ntmps75
  go_wp2_with fail
  refine hn.mono ?_
  rintro e w1 ⟨rfl, r1, ow1⟩
  have bw1 := box_only HB.out.1 ow1 (by omega)
  have tw1 := HB.out.2.trans ow1
  clear ow1 hn HB
  go_wp2_with fail
  refine (pick_any w1 g (k + 1) 2 r1 (by omega)).mono ?_
  rintro e w2 ⟨y, rfl, hy0, hy1, _, r2, ow2⟩
  have bw2 := box_only (bw1) ow2 (by omega)
  have tw2 := (tw1).trans ow2
  have lr2 := r2.lt
  have ls2 := tw2.size_le
  have lbw2 := bw2.lt
  clear ow2
  clear bw1 r1 tw1
  have hy2 := hy1 (by omega)
  clear hy1
  go_wp2_with fail
  refine (l2Arg_any w2 g (k + 1 + 1) (2 + y) r2 (by omega)).mono ?_
  rintro e w3 ⟨a, b, c, rfl, r3, ow3⟩
  have bw3 := box_only (bw2) ow3 (by omega)
  have tw3 := (tw2).trans ow3
  have lr3 := r3.lt
  have ls3 := tw3.size_le
  have lbw3 := bw3.lt
  clear ow3
  clear bw2 r2 tw2
  have ba0 := Box.new w3 #[.int .i64 a, .int .i64 b, .int .i64 c] 40
  go_wp2_with fail
  refine (l2Arg_any (w3.alloc (.cells #[.int .i64 a, .int .i64 b, .int .i64 c] 40)) g (k + 1 + 1 + 4) 11 (r3.alloc _) (by omega)).mono ?_
  rintro e w4 ⟨p, q, r, rfl, r4, ow4⟩
  have bw4 := box_only (bw3.alloc _) ow4 (by omega)
  have ba4 := box_only (ba0) ow4 (by omega)
  have tw4 := (tw3.alloc _).trans ow4
  have lr4 := r4.lt
  have ls4 := tw4.size_le
  have lbw4 := bw4.lt
  have lba4 := ba4.lt
  clear ow4
  clear bw3 r3 tw3 ba0
  have bb0 := Box.new w4 #[.int .i64 p, .int .i64 q, .int .i64 r] 40
  by_cases hq : q < 0
  · have tw40 := tw4.alloc (.cells #[.int .i64 p, .int .i64 q, .int .i64 r] 40)
    have ba40 : Box (w4.alloc (.cells #[.int .i64 p, .int .i64 q, .int .i64 r] 40)) w3.heap.size #[.int .i64 a, .int .i64 b, .int .i64 c] 40 := ba4.alloc _
    have m0 : (w4.alloc (.cells #[.int .i64 p, .int .i64 q, .int .i64 r] 40)).cell? ⟨w3.heap.size, 0, none⟩ = some (.int .i64 a) := (ba40.cell 0).trans (by rfl)
    have mf0 : (w4.alloc (.cells #[.int .i64 p, .int .i64 q, .int .i64 r] 40)).frozen? ⟨w3.heap.size, 0, none⟩ = false := ba40.free 0
    have m1 : (w4.alloc (.cells #[.int .i64 p, .int .i64 q, .int .i64 r] 40)).cell? ⟨w3.heap.size, 1, none⟩ = some (.int .i64 b) := (ba40.cell 1).trans (by rfl)
    have mf1 : (w4.alloc (.cells #[.int .i64 p, .int .i64 q, .int .i64 r] 40)).frozen? ⟨w3.heap.size, 1, none⟩ = false := ba40.free 1
    have m2 : (w4.alloc (.cells #[.int .i64 p, .int .i64 q, .int .i64 r] 40)).cell? ⟨w3.heap.size, 2, none⟩ = some (.int .i64 c) := (ba40.cell 2).trans (by rfl)
    have mf2 : (w4.alloc (.cells #[.int .i64 p, .int .i64 q, .int .i64 r] 40)).frozen? ⟨w3.heap.size, 2, none⟩ = false := ba40.free 2
    have n0 : (w4.alloc (.cells #[.int .i64 p, .int .i64 q, .int .i64 r] 40)).cell? ⟨w4.heap.size, 0, none⟩ = some (.int .i64 p) := (bb0.cell 0).trans (by rfl)
    have nf0 : (w4.alloc (.cells #[.int .i64 p, .int .i64 q, .int .i64 r] 40)).frozen? ⟨w4.heap.size, 0, none⟩ = false := bb0.free 0
    have n1 : (w4.alloc (.cells #[.int .i64 p, .int .i64 q, .int .i64 r] 40)).cell? ⟨w4.heap.size, 1, none⟩ = some (.int .i64 q) := (bb0.cell 1).trans (by rfl)
    have nf1 : (w4.alloc (.cells #[.int .i64 p, .int .i64 q, .int .i64 r] 40)).frozen? ⟨w4.heap.size, 1, none⟩ = false := bb0.free 1
    have n2 : (w4.alloc (.cells #[.int .i64 p, .int .i64 q, .int .i64 r] 40)).cell? ⟨w4.heap.size, 2, none⟩ = some (.int .i64 r) := (bb0.cell 2).trans (by rfl)
    have nf2 : (w4.alloc (.cells #[.int .i64 p, .int .i64 q, .int .i64 r] 40)).frozen? ⟨w4.heap.size, 2, none⟩ = false := bb0.free 2
    go_wp2_with fail
    refine (pick_any (w4.alloc (.cells #[.int .i64 p, .int .i64 q, .int .i64 r] 40)) g (k + 1 + 1 + 4 + 4) 9 (r4.alloc _) (by omega)).mono ?_
    rintro e w5 ⟨u, rfl, hu0, hu1, _, r5, ow5⟩
    have bw5 := box_only (bw4.alloc _) ow5 (by omega)
    have ba5 := box_only (ba4.alloc _) ow5 (by omega)
    have bb5 := box_only (bb0) ow5 (by omega)
    have tw5 := (tw4.alloc _).trans ow5
    have lr5 := r5.lt
    have ls5 := tw5.size_le
    have lbw5 := bw5.lt
    have lba5 := ba5.lt
    have lbb5 := bb5.lt
    clear ow5
    clear m0 mf0 m1 mf1 m2 mf2 n0 nf0 n1 nf1 n2 nf2 bw4 r4 tw4 ba4 ba40 bb0 tw40 hu1 hq
    have bw6 : Box (w5.setCell ⟨w4.heap.size, 1, none⟩ (.int .i64 u)) w.heap.size #[.int .i64 0, .slice none 0 0] 31 := bw5.far (p := ⟨w4.heap.size, 1, none⟩) (by simp; omega) _
    have ba6 : Box (w5.setCell ⟨w4.heap.size, 1, none⟩ (.int .i64 u)) w3.heap.size #[.int .i64 a, .int .i64 b, .int .i64 c] 40 := ba5.far (p := ⟨w4.heap.size, 1, none⟩) (by simp; omega) _
    have bb6 : Box (w5.setCell ⟨w4.heap.size, 1, none⟩ (.int .i64 u)) w4.heap.size #[.int .i64 p, .int .i64 u, .int .i64 r] 40 := bb5.set 1 (.int .i64 u)
    have r6 : Rd 82 (w5.setCell ⟨w4.heap.size, 1, none⟩ (.int .i64 u)) g (k + 15) := (r5.setCell (by simp; omega) _).mono (by omega)
    have tw6 : Only g w (w5.setCell ⟨w4.heap.size, 1, none⟩ (.int .i64 u)) := tw5.setCell (.inr (by simp; omega)) _
    have lw6 := bw6.lt
    have la6 := ba6.lt
    have lb6 := bb6.lt
    have lr6 := r6.lt
    have ls6 := tw6.size_le
    have m0 : w5.cell? ⟨w3.heap.size, 0, none⟩ = some (.int .i64 a) := (ba5.cell 0).trans (by rfl)
    have mf0 : w5.frozen? ⟨w3.heap.size, 0, none⟩ = false := ba5.free 0
    have m1 : w5.cell? ⟨w3.heap.size, 1, none⟩ = some (.int .i64 b) := (ba5.cell 1).trans (by rfl)
    have mf1 : w5.frozen? ⟨w3.heap.size, 1, none⟩ = false := ba5.free 1
    have m2 : w5.cell? ⟨w3.heap.size, 2, none⟩ = some (.int .i64 c) := (ba5.cell 2).trans (by rfl)
    have mf2 : w5.frozen? ⟨w3.heap.size, 2, none⟩ = false := ba5.free 2
    have n0 : w5.cell? ⟨w4.heap.size, 0, none⟩ = some (.int .i64 p) := (bb5.cell 0).trans (by rfl)
    have nf0 : w5.frozen? ⟨w4.heap.size, 0, none⟩ = false := bb5.free 0
    have n1 : w5.cell? ⟨w4.heap.size, 1, none⟩ = some (.int .i64 q) := (bb5.cell 1).trans (by rfl)
    have nf1 : w5.frozen? ⟨w4.heap.size, 1, none⟩ = false := bb5.free 1
    have n2 : w5.cell? ⟨w4.heap.size, 2, none⟩ = some (.int .i64 r) := (bb5.cell 2).trans (by rfl)
    have nf2 : w5.frozen? ⟨w4.heap.size, 2, none⟩ = false := bb5.free 2
    have e0 : w5.cell? ⟨w.heap.size, 0, none⟩ = some (.int .i64 0) := by have := bw5.cell 0; simpa using this
    have e1 : w5.cell? ⟨w.heap.size, 1, none⟩ = some (.slice none 0 0) := by have := bw5.cell 1; simpa using this
    have f0 : w5.frozen? ⟨w.heap.size, 0, none⟩ = false := bw5.free 0
    have f1 : w5.frozen? ⟨w.heap.size, 1, none⟩ = false := bw5.free 1
    have lz := bw5.lt
    have lzr := r5.lt
    have lzs := tw5.size_le
    go_wp2_with fail
    refine (pick_any (w5.setCell ⟨w4.heap.size, 1, none⟩ (.int .i64 u)) g (k + 15) 2 r6 (by omega)).mono ?_
    rintro e w7 ⟨z, rfl, hz0, hz1, _, r7, ow7⟩
    have bw7 := box_only (bw6) ow7 (by omega)
    have tw7 := (tw6).trans ow7
    have lr7 := r7.lt
    have ls7 := tw7.size_le
    have lbw7 := bw7.lt
    clear ow7
    clear hz1 bw6 r6 tw6
    by_cases hz : z = 0
    · subst hz
      go_wp2_with fail
      refine (l2Arg_any w7 g (k + 15 + 1) 9 r7 (by omega)).mono ?_
      rintro e w8 ⟨a2, b2, c2, rfl, r8, ow8⟩
      have bw8 := box_only (bw7) ow8 (by omega)
      have tw8 := (tw7).trans ow8
      have lr8 := r8.lt
      have ls8 := tw8.size_le
      have lbw8 := bw8.lt
      clear ow8
      go_wp2_with fail
      refine (l4Whole_any w8 g ((k + 15 + 1) + 4) r8 (by omega)).mono ?_
      rintro e w9 ⟨a3, b3, c3, rfl, r9, ow9⟩
      have bw9 := box_only (bw8) ow9 (by omega)
      have tw9 := (tw8).trans ow9
      have lr9 := r9.lt
      have ls9 := tw9.size_le
      have lbw9 := bw9.lt
      clear ow9
      clear bw8 r8 tw8
      go_wp2_with fail
      refine (l4Whole_any w9 g ((k + 15 + 1) + 4 + 5) r9 (by omega)).mono ?_
      rintro e w10 ⟨a4, b4, c4, rfl, r10, ow10⟩
      have bw10 := box_only (bw9) ow10 (by omega)
      have tw10 := (tw9).trans ow10
      have lr10 := r10.lt
      have ls10 := tw10.size_le
      have lbw10 := bw10.lt
      clear ow10
      clear bw9 r9 tw9
      go_wp2_with fail
      refine (arity_s_30 _).mono ?_
      rintro e wz ⟨rfl, hz9⟩
      have bwz : Box wz w.heap.size #[.int .i64 0, .slice none 0 0] 31 := by rw [hz9]; exact bw10.alloc _
      have blz : Box wz w10.heap.size #[.int .i64 a2, .int .i64 b2, .int .i64 c2, .int .i64 a3, .int .i64 b3, .int .i64 c3, .int .i64 a4, .int .i64 b4, .int .i64 c4] 40 := by rw [hz9]; exact Box.new w10 _ _
      have rz : Rd 82 wz g (k + 40) := by rw [hz9]; exact (r10.alloc _).mono (by omega)
      have twz : Only g w wz := by rw [hz9]; exact tw10.alloc _
      have lblz := blz.lt
      have lrz := rz.lt
      have lsz := twz.size_le
      clear hz9 bw10 r10 tw10
      have e0 : wz.cell? ⟨w.heap.size, 0, none⟩ = some (.int .i64 0) := by have := bwz.cell 0; simpa using this
      have e1 : wz.cell? ⟨w.heap.size, 1, none⟩ = some (.slice none 0 0) := by have := bwz.cell 1; simpa using this
      have f0 : wz.frozen? ⟨w.heap.size, 0, none⟩ = false := bwz.free 0
      have f1 : wz.frozen? ⟨w.heap.size, 1, none⟩ = false := bwz.free 1
      have lz := bwz.lt
      have lzr := rz.lt
      have lzs := twz.size_le
      go_wp2
      have bz := (bwz.set 0 (.int .i64 30)).set 1 (.slice (some ⟨w10.heap.size, 0, none⟩) 2 3)
      have by9 := (blz.far (p := ⟨w.heap.size, 0, none⟩) (by simp; omega) (.int .i64 30)).far (p := ⟨w.heap.size, 1, none⟩) (by simp; omega) (.slice (some ⟨w10.heap.size, 0, none⟩) 2 3)
      have d0 := (bz.cell 0).trans (show _ = some (.int .i64 30) by rfl)
      have d1 := (bz.cell 1).trans (show _ = some (.slice (some ⟨w10.heap.size, 0, none⟩) 2 3) by rfl)
      clear bz
      refine bodyPost_ret (v := .agg #[.int .i64 30, .slice (some ⟨w10.heap.size, 0, none⟩) 2 3]) (by simp [results, Tryd.results75, go_sem, d0, d1]) rfl ⟨30, _, 2, 3, [(a2, b2, c2), (a3, b3, c3)], rfl, ⟨rfl, by omega, by omega, by omega, .inr ⟨_, rfl, by omega, lie_box3_2 by9⟩⟩, ?_, ?_⟩
      · repeat (first | exact rz.mono (by omega) | refine Rd.setCell ?_ (by simp; try omega) _ | refine Rd.alloc ?_ _)
      · repeat (first | exact twz | refine Only.setCell ?_ (by right; simp; try omega) _ | refine Only.alloc ?_ _)
    · have hz2 : (z == 0) = false := beq_eq_false_iff_ne.2 hz
      clear hz
      go_wp2_with fail
      refine (l2Arg_any w7 g (k + 15 + 1) 10 r7 (by omega)).mono ?_
      rintro e w8 ⟨a2, b2, c2, rfl, r8, ow8⟩
      have bw8 := box_only (bw7) ow8 (by omega)
      have tw8 := (tw7).trans ow8
      have lr8 := r8.lt
      have ls8 := tw8.size_le
      have lbw8 := bw8.lt
      clear ow8
      go_wp2_with fail
      refine (l4Real_any w8 g ((k + 15 + 1) + 4) r8 (by omega)).mono ?_
      rintro e w9 ⟨a3, b3, c3, rfl, r9, ow9⟩
      have bw9 := box_only (bw8) ow9 (by omega)
      have tw9 := (tw8).trans ow9
      have lr9 := r9.lt
      have ls9 := tw9.size_le
      have lbw9 := bw9.lt
      clear ow9
      clear bw8 r8 tw8
      go_wp2_with fail
      refine (l4Real_any w9 g ((k + 15 + 1) + 4 + 5) r9 (by omega)).mono ?_
      rintro e w10 ⟨a4, b4, c4, rfl, r10, ow10⟩
      have bw10 := box_only (bw9) ow10 (by omega)
      have tw10 := (tw9).trans ow10
      have lr10 := r10.lt
      have ls10 := tw10.size_le
      have lbw10 := bw10.lt
      clear ow10
      clear bw9 r9 tw9
      go_wp2_with fail
      refine (arity_s_30 _).mono ?_
      rintro e wz ⟨rfl, hz9⟩
      have bwz : Box wz w.heap.size #[.int .i64 0, .slice none 0 0] 31 := by rw [hz9]; exact bw10.alloc _
      have blz : Box wz w10.heap.size #[.int .i64 a2, .int .i64 b2, .int .i64 c2, .int .i64 a3, .int .i64 b3, .int .i64 c3, .int .i64 a4, .int .i64 b4, .int .i64 c4] 40 := by rw [hz9]; exact Box.new w10 _ _
      have rz : Rd 82 wz g (k + 40) := by rw [hz9]; exact (r10.alloc _).mono (by omega)
      have twz : Only g w wz := by rw [hz9]; exact tw10.alloc _
      have lblz := blz.lt
      have lrz := rz.lt
      have lsz := twz.size_le
      clear hz9 bw10 r10 tw10
      have e0 : wz.cell? ⟨w.heap.size, 0, none⟩ = some (.int .i64 0) := by have := bwz.cell 0; simpa using this
      have e1 : wz.cell? ⟨w.heap.size, 1, none⟩ = some (.slice none 0 0) := by have := bwz.cell 1; simpa using this
      have f0 : wz.frozen? ⟨w.heap.size, 0, none⟩ = false := bwz.free 0
      have f1 : wz.frozen? ⟨w.heap.size, 1, none⟩ = false := bwz.free 1
      have lz := bwz.lt
      have lzr := rz.lt
      have lzs := twz.size_le
      go_wp2
      have bz := (bwz.set 0 (.int .i64 30)).set 1 (.slice (some ⟨w10.heap.size, 0, none⟩) 2 3)
      have by9 := (blz.far (p := ⟨w.heap.size, 0, none⟩) (by simp; omega) (.int .i64 30)).far (p := ⟨w.heap.size, 1, none⟩) (by simp; omega) (.slice (some ⟨w10.heap.size, 0, none⟩) 2 3)
      have d0 := (bz.cell 0).trans (show _ = some (.int .i64 30) by rfl)
      have d1 := (bz.cell 1).trans (show _ = some (.slice (some ⟨w10.heap.size, 0, none⟩) 2 3) by rfl)
      clear bz
      refine bodyPost_ret (v := .agg #[.int .i64 30, .slice (some ⟨w10.heap.size, 0, none⟩) 2 3]) (by simp [results, Tryd.results75, go_sem, d0, d1]) rfl ⟨30, _, 2, 3, [(a2, b2, c2), (a3, b3, c3)], rfl, ⟨rfl, by omega, by omega, by omega, .inr ⟨_, rfl, by omega, lie_box3_2 by9⟩⟩, ?_, ?_⟩
      · repeat (first | exact rz.mono (by omega) | refine Rd.setCell ?_ (by simp; try omega) _ | refine Rd.alloc ?_ _)
      · repeat (first | exact twz | refine Only.setCell ?_ (by right; simp; try omega) _ | refine Only.alloc ?_ _)
  · have bw6 : Box (w4.alloc (.cells #[.int .i64 p, .int .i64 q, .int .i64 r] 40)) w.heap.size #[.int .i64 0, .slice none 0 0] 31 := bw4.alloc _
    have ba6 : Box (w4.alloc (.cells #[.int .i64 p, .int .i64 q, .int .i64 r] 40)) w3.heap.size #[.int .i64 a, .int .i64 b, .int .i64 c] 40 := ba4.alloc _
    have bb6 : Box (w4.alloc (.cells #[.int .i64 p, .int .i64 q, .int .i64 r] 40)) w4.heap.size #[.int .i64 p, .int .i64 q, .int .i64 r] 40 := bb0
    have r6 : Rd 82 (w4.alloc (.cells #[.int .i64 p, .int .i64 q, .int .i64 r] 40)) g (k + 15) := (r4.alloc _).mono (by omega)
    have tw6 : Only g w (w4.alloc (.cells #[.int .i64 p, .int .i64 q, .int .i64 r] 40)) := tw4.alloc _
    have lw6 := bw6.lt
    have la6 := ba6.lt
    have lb6 := bb6.lt
    have lr6 := r6.lt
    have ls6 := tw6.size_le
    have m0 : (w4.alloc (.cells #[.int .i64 p, .int .i64 q, .int .i64 r] 40)).cell? ⟨w3.heap.size, 0, none⟩ = some (.int .i64 a) := (ba6.cell 0).trans (by rfl)
    have mf0 : (w4.alloc (.cells #[.int .i64 p, .int .i64 q, .int .i64 r] 40)).frozen? ⟨w3.heap.size, 0, none⟩ = false := ba6.free 0
    have m1 : (w4.alloc (.cells #[.int .i64 p, .int .i64 q, .int .i64 r] 40)).cell? ⟨w3.heap.size, 1, none⟩ = some (.int .i64 b) := (ba6.cell 1).trans (by rfl)
    have mf1 : (w4.alloc (.cells #[.int .i64 p, .int .i64 q, .int .i64 r] 40)).frozen? ⟨w3.heap.size, 1, none⟩ = false := ba6.free 1
    have m2 : (w4.alloc (.cells #[.int .i64 p, .int .i64 q, .int .i64 r] 40)).cell? ⟨w3.heap.size, 2, none⟩ = some (.int .i64 c) := (ba6.cell 2).trans (by rfl)
    have mf2 : (w4.alloc (.cells #[.int .i64 p, .int .i64 q, .int .i64 r] 40)).frozen? ⟨w3.heap.size, 2, none⟩ = false := ba6.free 2
    have n0 : (w4.alloc (.cells #[.int .i64 p, .int .i64 q, .int .i64 r] 40)).cell? ⟨w4.heap.size, 0, none⟩ = some (.int .i64 p) := (bb6.cell 0).trans (by rfl)
    have nf0 : (w4.alloc (.cells #[.int .i64 p, .int .i64 q, .int .i64 r] 40)).frozen? ⟨w4.heap.size, 0, none⟩ = false := bb6.free 0
    have n1 : (w4.alloc (.cells #[.int .i64 p, .int .i64 q, .int .i64 r] 40)).cell? ⟨w4.heap.size, 1, none⟩ = some (.int .i64 q) := (bb6.cell 1).trans (by rfl)
    have nf1 : (w4.alloc (.cells #[.int .i64 p, .int .i64 q, .int .i64 r] 40)).frozen? ⟨w4.heap.size, 1, none⟩ = false := bb6.free 1
    have n2 : (w4.alloc (.cells #[.int .i64 p, .int .i64 q, .int .i64 r] 40)).cell? ⟨w4.heap.size, 2, none⟩ = some (.int .i64 r) := (bb6.cell 2).trans (by rfl)
    have nf2 : (w4.alloc (.cells #[.int .i64 p, .int .i64 q, .int .i64 r] 40)).frozen? ⟨w4.heap.size, 2, none⟩ = false := bb6.free 2
    have l0 : w4.cell? ⟨w3.heap.size, 0, none⟩ = some (.int .i64 a) := (ba4.cell 0).trans (by rfl)
    have lf0 : w4.frozen? ⟨w3.heap.size, 0, none⟩ = false := ba4.free 0
    have l1 : w4.cell? ⟨w3.heap.size, 1, none⟩ = some (.int .i64 b) := (ba4.cell 1).trans (by rfl)
    have lf1 : w4.frozen? ⟨w3.heap.size, 1, none⟩ = false := ba4.free 1
    have l2 : w4.cell? ⟨w3.heap.size, 2, none⟩ = some (.int .i64 c) := (ba4.cell 2).trans (by rfl)
    have lf2 : w4.frozen? ⟨w3.heap.size, 2, none⟩ = false := ba4.free 2
    have e0 : w4.cell? ⟨w.heap.size, 0, none⟩ = some (.int .i64 0) := by have := bw4.cell 0; simpa using this
    have e1 : w4.cell? ⟨w.heap.size, 1, none⟩ = some (.slice none 0 0) := by have := bw4.cell 1; simpa using this
    have f0 : w4.frozen? ⟨w.heap.size, 0, none⟩ = false := bw4.free 0
    have f1 : w4.frozen? ⟨w.heap.size, 1, none⟩ = false := bw4.free 1
    have lz := bw4.lt
    have lzr := r4.lt
    have lzs := tw4.size_le
    go_wp2_with fail
    refine (pick_any (w4.alloc (.cells #[.int .i64 p, .int .i64 q, .int .i64 r] 40)) g (k + 15) 2 r6 (by omega)).mono ?_
    rintro e w7 ⟨z, rfl, hz0, hz1, _, r7, ow7⟩
    have bw7 := box_only (bw6) ow7 (by omega)
    have tw7 := (tw6).trans ow7
    have lr7 := r7.lt
    have ls7 := tw7.size_le
    have lbw7 := bw7.lt
    clear ow7
    clear hz1 bw6 r6 tw6
    by_cases hz : z = 0
    · subst hz
      go_wp2_with fail
      refine (l2Arg_any w7 g (k + 15 + 1) 9 r7 (by omega)).mono ?_
      rintro e w8 ⟨a2, b2, c2, rfl, r8, ow8⟩
      have bw8 := box_only (bw7) ow8 (by omega)
      have tw8 := (tw7).trans ow8
      have lr8 := r8.lt
      have ls8 := tw8.size_le
      have lbw8 := bw8.lt
      clear ow8
      go_wp2_with fail
      refine (l4Whole_any w8 g ((k + 15 + 1) + 4) r8 (by omega)).mono ?_
      rintro e w9 ⟨a3, b3, c3, rfl, r9, ow9⟩
      have bw9 := box_only (bw8) ow9 (by omega)
      have tw9 := (tw8).trans ow9
      have lr9 := r9.lt
      have ls9 := tw9.size_le
      have lbw9 := bw9.lt
      clear ow9
      clear bw8 r8 tw8
      go_wp2_with fail
      refine (l4Whole_any w9 g ((k + 15 + 1) + 4 + 5) r9 (by omega)).mono ?_
      rintro e w10 ⟨a4, b4, c4, rfl, r10, ow10⟩
      have bw10 := box_only (bw9) ow10 (by omega)
      have tw10 := (tw9).trans ow10
      have lr10 := r10.lt
      have ls10 := tw10.size_le
      have lbw10 := bw10.lt
      clear ow10
      clear bw9 r9 tw9
      go_wp2_with fail
      refine (arity_s_30 _).mono ?_
      rintro e wz ⟨rfl, hz9⟩
      have bwz : Box wz w.heap.size #[.int .i64 0, .slice none 0 0] 31 := by rw [hz9]; exact bw10.alloc _
      have blz : Box wz w10.heap.size #[.int .i64 a2, .int .i64 b2, .int .i64 c2, .int .i64 a3, .int .i64 b3, .int .i64 c3, .int .i64 a4, .int .i64 b4, .int .i64 c4] 40 := by rw [hz9]; exact Box.new w10 _ _
      have rz : Rd 82 wz g (k + 40) := by rw [hz9]; exact (r10.alloc _).mono (by omega)
      have twz : Only g w wz := by rw [hz9]; exact tw10.alloc _
      have lblz := blz.lt
      have lrz := rz.lt
      have lsz := twz.size_le
      clear hz9 bw10 r10 tw10
      have e0 : wz.cell? ⟨w.heap.size, 0, none⟩ = some (.int .i64 0) := by have := bwz.cell 0; simpa using this
      have e1 : wz.cell? ⟨w.heap.size, 1, none⟩ = some (.slice none 0 0) := by have := bwz.cell 1; simpa using this
      have f0 : wz.frozen? ⟨w.heap.size, 0, none⟩ = false := bwz.free 0
      have f1 : wz.frozen? ⟨w.heap.size, 1, none⟩ = false := bwz.free 1
      have lz := bwz.lt
      have lzr := rz.lt
      have lzs := twz.size_le
      go_wp2
      have bz := (bwz.set 0 (.int .i64 30)).set 1 (.slice (some ⟨w10.heap.size, 0, none⟩) 2 3)
      have by9 := (blz.far (p := ⟨w.heap.size, 0, none⟩) (by simp; omega) (.int .i64 30)).far (p := ⟨w.heap.size, 1, none⟩) (by simp; omega) (.slice (some ⟨w10.heap.size, 0, none⟩) 2 3)
      have d0 := (bz.cell 0).trans (show _ = some (.int .i64 30) by rfl)
      have d1 := (bz.cell 1).trans (show _ = some (.slice (some ⟨w10.heap.size, 0, none⟩) 2 3) by rfl)
      clear bz
      refine bodyPost_ret (v := .agg #[.int .i64 30, .slice (some ⟨w10.heap.size, 0, none⟩) 2 3]) (by simp [results, Tryd.results75, go_sem, d0, d1]) rfl ⟨30, _, 2, 3, [(a2, b2, c2), (a3, b3, c3)], rfl, ⟨rfl, by omega, by omega, by omega, .inr ⟨_, rfl, by omega, lie_box3_2 by9⟩⟩, ?_, ?_⟩
      · repeat (first | exact rz.mono (by omega) | refine Rd.setCell ?_ (by simp; try omega) _ | refine Rd.alloc ?_ _)
      · repeat (first | exact twz | refine Only.setCell ?_ (by right; simp; try omega) _ | refine Only.alloc ?_ _)
    · have hz2 : (z == 0) = false := beq_eq_false_iff_ne.2 hz
      clear hz
      go_wp2_with fail
      refine (l2Arg_any w7 g (k + 15 + 1) 10 r7 (by omega)).mono ?_
      rintro e w8 ⟨a2, b2, c2, rfl, r8, ow8⟩
      have bw8 := box_only (bw7) ow8 (by omega)
      have tw8 := (tw7).trans ow8
      have lr8 := r8.lt
      have ls8 := tw8.size_le
      have lbw8 := bw8.lt
      clear ow8
      go_wp2_with fail
      refine (l4Real_any w8 g ((k + 15 + 1) + 4) r8 (by omega)).mono ?_
      rintro e w9 ⟨a3, b3, c3, rfl, r9, ow9⟩
      have bw9 := box_only (bw8) ow9 (by omega)
      have tw9 := (tw8).trans ow9
      have lr9 := r9.lt
      have ls9 := tw9.size_le
      have lbw9 := bw9.lt
      clear ow9
      clear bw8 r8 tw8
      go_wp2_with fail
      refine (l4Real_any w9 g ((k + 15 + 1) + 4 + 5) r9 (by omega)).mono ?_
      rintro e w10 ⟨a4, b4, c4, rfl, r10, ow10⟩
      have bw10 := box_only (bw9) ow10 (by omega)
      have tw10 := (tw9).trans ow10
      have lr10 := r10.lt
      have ls10 := tw10.size_le
      have lbw10 := bw10.lt
      clear ow10
      clear bw9 r9 tw9
      go_wp2_with fail
      refine (arity_s_30 _).mono ?_
      rintro e wz ⟨rfl, hz9⟩
      have bwz : Box wz w.heap.size #[.int .i64 0, .slice none 0 0] 31 := by rw [hz9]; exact bw10.alloc _
      have blz : Box wz w10.heap.size #[.int .i64 a2, .int .i64 b2, .int .i64 c2, .int .i64 a3, .int .i64 b3, .int .i64 c3, .int .i64 a4, .int .i64 b4, .int .i64 c4] 40 := by rw [hz9]; exact Box.new w10 _ _
      have rz : Rd 82 wz g (k + 40) := by rw [hz9]; exact (r10.alloc _).mono (by omega)
      have twz : Only g w wz := by rw [hz9]; exact tw10.alloc _
      have lblz := blz.lt
      have lrz := rz.lt
      have lsz := twz.size_le
      clear hz9 bw10 r10 tw10
      have e0 : wz.cell? ⟨w.heap.size, 0, none⟩ = some (.int .i64 0) := by have := bwz.cell 0; simpa using this
      have e1 : wz.cell? ⟨w.heap.size, 1, none⟩ = some (.slice none 0 0) := by have := bwz.cell 1; simpa using this
      have f0 : wz.frozen? ⟨w.heap.size, 0, none⟩ = false := bwz.free 0
      have f1 : wz.frozen? ⟨w.heap.size, 1, none⟩ = false := bwz.free 1
      have lz := bwz.lt
      have lzr := rz.lt
      have lzs := twz.size_le
      go_wp2
      have bz := (bwz.set 0 (.int .i64 30)).set 1 (.slice (some ⟨w10.heap.size, 0, none⟩) 2 3)
      have by9 := (blz.far (p := ⟨w.heap.size, 0, none⟩) (by simp; omega) (.int .i64 30)).far (p := ⟨w.heap.size, 1, none⟩) (by simp; omega) (.slice (some ⟨w10.heap.size, 0, none⟩) 2 3)
      have d0 := (bz.cell 0).trans (show _ = some (.int .i64 30) by rfl)
      have d1 := (bz.cell 1).trans (show _ = some (.slice (some ⟨w10.heap.size, 0, none⟩) 2 3) by rfl)
      clear bz
      refine bodyPost_ret (v := .agg #[.int .i64 30, .slice (some ⟨w10.heap.size, 0, none⟩) 2 3]) (by simp [results, Tryd.results75, go_sem, d0, d1]) rfl ⟨30, _, 2, 3, [(a2, b2, c2), (a3, b3, c3)], rfl, ⟨rfl, by omega, by omega, by omega, .inr ⟨_, rfl, by omega, lie_box3_2 by9⟩⟩, ?_, ?_⟩
      · repeat (first | exact rz.mono (by omega) | refine Rd.setCell ?_ (by simp; try omega) _ | refine Rd.alloc ?_ _)
      · repeat (first | exact twz | refine Only.setCell ?_ (by right; simp; try omega) _ | refine Only.alloc ?_ _)
set_option maxRecDepth 100000 in
set_option maxHeartbeats 2000000 in
theorem l4Coil_35 (w : World) (g k : Nat) (h : Rd 82 w g k) (hk : k ≤ 80000) (hn : Calls Tryd.prog 77 #[.pointer (some ⟨g, 0, none⟩), .slice (some ⟨w.heap.size + 1, 0, none⟩) 22 22] ((w.alloc (.cells #[.int .i64 0, .slice none 0 0] 31)).alloc (.cells (([21, 21, 21, 22, 23, 24, 25, 26, 26, 27, 28, 29, 29, 30, 31, 31, 32, 33, 34, 35, 36, 37] : List Int).map (Value.int .i64)).toArray 3)) fun e w1 => e = .returned (.int .i64 35) ∧ Rd 82 w1 g (k + 1) ∧ Only g ((w.alloc (.cells #[.int .i64 0, .slice none 0 0] 31)).alloc (.cells (([21, 21, 21, 22, 23, 24, 25, 26, 26, 27, 28, 29, 29, 30, 31, 31, 32, 33, 34, 35, 36, 37] : List Int).map (Value.int .i64)).toArray 3)) w1) : Calls Tryd.prog 75 #[.pointer (some ⟨g, 0, none⟩)] w (DrewE 40 w g k) := by
  have hlt := h.lt
  have b0 := (Box.new w #[.int .i64 0, .slice none 0 0] 31).alloc (.cells (([21, 21, 21, 22, 23, 24, 25, 26, 26, 27, 28, 29, 29, 30, 31, 31, 32, 33, 34, 35, 36, 37] : List Int).map (Value.int .i64)).toArray 3)
  have o0 : Only g w ((w.alloc (.cells #[.int .i64 0, .slice none 0 0] 31)).alloc (.cells (([21, 21, 21, 22, 23, 24, 25, 26, 26, 27, 28, 29, 29, 30, 31, 31, 32, 33, 34, 35, 36, 37] : List Int).map (Value.int .i64)).toArray 3)) := ((Only.refl g w).alloc _).alloc _
  have HB := Lib.hid (And.intro b0 o0)
  clear b0 o0 h
  go_enter Tryd.func75, Tryd.ntmps75
  go_wp2_with fail
  refine hn.mono ?_
  rintro e w1 ⟨rfl, r1, ow1⟩
  have bw1 := box_only HB.out.1 ow1 (by omega)
  have tw1 := HB.out.2.trans ow1
  clear ow1 hn HB
  go_wp2_with fail
  refine (pick_any w1 g (k + 1) 2 r1 (by omega)).mono ?_
  rintro e w2 ⟨y, rfl, hy0, hy1, _, r2, ow2⟩
  have bw2 := box_only (bw1) ow2 (by omega)
  have tw2 := (tw1).trans ow2
  have lr2 := r2.lt
  have ls2 := tw2.size_le
  have lbw2 := bw2.lt
  clear ow2
  clear bw1 r1 tw1
  have hy2 := hy1 (by omega)
  clear hy1
  go_wp2_with fail
  refine (l2Arg_any w2 g (k + 1 + 1) (2 + y) r2 (by omega)).mono ?_
  rintro e w3 ⟨a, b, c, rfl, r3, ow3⟩
  have bw3 := box_only (bw2) ow3 (by omega)
  have tw3 := (tw2).trans ow3
  have lr3 := r3.lt
  have ls3 := tw3.size_le
  have lbw3 := bw3.lt
  clear ow3
  clear bw2 r2 tw2
  have ba0 := Box.new w3 #[.int .i64 a, .int .i64 b, .int .i64 c] 40
  go_wp2_with fail
  refine (l2Arg_any (w3.alloc (.cells #[.int .i64 a, .int .i64 b, .int .i64 c] 40)) g (k + 1 + 1 + 4) 11 (r3.alloc _) (by omega)).mono ?_
  rintro e w4 ⟨p, q, r, rfl, r4, ow4⟩
  have bw4 := box_only (bw3.alloc _) ow4 (by omega)
  have ba4 := box_only (ba0) ow4 (by omega)
  have tw4 := (tw3.alloc _).trans ow4
  have lr4 := r4.lt
  have ls4 := tw4.size_le
  have lbw4 := bw4.lt
  have lba4 := ba4.lt
  clear ow4
  clear bw3 r3 tw3 ba0
  have bb0 := Box.new w4 #[.int .i64 p, .int .i64 q, .int .i64 r] 40
  by_cases hq : q < 0
  · have tw40 := tw4.alloc (.cells #[.int .i64 p, .int .i64 q, .int .i64 r] 40)
    have ba40 : Box (w4.alloc (.cells #[.int .i64 p, .int .i64 q, .int .i64 r] 40)) w3.heap.size #[.int .i64 a, .int .i64 b, .int .i64 c] 40 := ba4.alloc _
    have m0 : (w4.alloc (.cells #[.int .i64 p, .int .i64 q, .int .i64 r] 40)).cell? ⟨w3.heap.size, 0, none⟩ = some (.int .i64 a) := (ba40.cell 0).trans (by rfl)
    have mf0 : (w4.alloc (.cells #[.int .i64 p, .int .i64 q, .int .i64 r] 40)).frozen? ⟨w3.heap.size, 0, none⟩ = false := ba40.free 0
    have m1 : (w4.alloc (.cells #[.int .i64 p, .int .i64 q, .int .i64 r] 40)).cell? ⟨w3.heap.size, 1, none⟩ = some (.int .i64 b) := (ba40.cell 1).trans (by rfl)
    have mf1 : (w4.alloc (.cells #[.int .i64 p, .int .i64 q, .int .i64 r] 40)).frozen? ⟨w3.heap.size, 1, none⟩ = false := ba40.free 1
    have m2 : (w4.alloc (.cells #[.int .i64 p, .int .i64 q, .int .i64 r] 40)).cell? ⟨w3.heap.size, 2, none⟩ = some (.int .i64 c) := (ba40.cell 2).trans (by rfl)
    have mf2 : (w4.alloc (.cells #[.int .i64 p, .int .i64 q, .int .i64 r] 40)).frozen? ⟨w3.heap.size, 2, none⟩ = false := ba40.free 2
    have n0 : (w4.alloc (.cells #[.int .i64 p, .int .i64 q, .int .i64 r] 40)).cell? ⟨w4.heap.size, 0, none⟩ = some (.int .i64 p) := (bb0.cell 0).trans (by rfl)
    have nf0 : (w4.alloc (.cells #[.int .i64 p, .int .i64 q, .int .i64 r] 40)).frozen? ⟨w4.heap.size, 0, none⟩ = false := bb0.free 0
    have n1 : (w4.alloc (.cells #[.int .i64 p, .int .i64 q, .int .i64 r] 40)).cell? ⟨w4.heap.size, 1, none⟩ = some (.int .i64 q) := (bb0.cell 1).trans (by rfl)
    have nf1 : (w4.alloc (.cells #[.int .i64 p, .int .i64 q, .int .i64 r] 40)).frozen? ⟨w4.heap.size, 1, none⟩ = false := bb0.free 1
    have n2 : (w4.alloc (.cells #[.int .i64 p, .int .i64 q, .int .i64 r] 40)).cell? ⟨w4.heap.size, 2, none⟩ = some (.int .i64 r) := (bb0.cell 2).trans (by rfl)
    have nf2 : (w4.alloc (.cells #[.int .i64 p, .int .i64 q, .int .i64 r] 40)).frozen? ⟨w4.heap.size, 2, none⟩ = false := bb0.free 2
    go_wp2_with fail
    refine (pick_any (w4.alloc (.cells #[.int .i64 p, .int .i64 q, .int .i64 r] 40)) g (k + 1 + 1 + 4 + 4) 9 (r4.alloc _) (by omega)).mono ?_
    rintro e w5 ⟨u, rfl, hu0, hu1, _, r5, ow5⟩
    have bw5 := box_only (bw4.alloc _) ow5 (by omega)
    have ba5 := box_only (ba4.alloc _) ow5 (by omega)
    have bb5 := box_only (bb0) ow5 (by omega)
    have tw5 := (tw4.alloc _).trans ow5
    have lr5 := r5.lt
    have ls5 := tw5.size_le
    have lbw5 := bw5.lt
    have lba5 := ba5.lt
    have lbb5 := bb5.lt
    clear ow5
    clear m0 mf0 m1 mf1 m2 mf2 n0 nf0 n1 nf1 n2 nf2 bw4 r4 tw4 ba4 ba40 bb0 tw40 hu1 hq
    have bw6 : Box (w5.setCell ⟨w4.heap.size, 1, none⟩ (.int .i64 u)) w.heap.size #[.int .i64 0, .slice none 0 0] 31 := bw5.far (p := ⟨w4.heap.size, 1, none⟩) (by simp; omega) _
    have ba6 : Box (w5.setCell ⟨w4.heap.size, 1, none⟩ (.int .i64 u)) w3.heap.size #[.int .i64 a, .int .i64 b, .int .i64 c] 40 := ba5.far (p := ⟨w4.heap.size, 1, none⟩) (by simp; omega) _
    have bb6 : Box (w5.setCell ⟨w4.heap.size, 1, none⟩ (.int .i64 u)) w4.heap.size #[.int .i64 p, .int .i64 u, .int .i64 r] 40 := bb5.set 1 (.int .i64 u)
    have r6 : Rd 82 (w5.setCell ⟨w4.heap.size, 1, none⟩ (.int .i64 u)) g (k + 15) := (r5.setCell (by simp; omega) _).mono (by omega)
    have tw6 : Only g w (w5.setCell ⟨w4.heap.size, 1, none⟩ (.int .i64 u)) := tw5.setCell (.inr (by simp; omega)) _
    have lw6 := bw6.lt
    have la6 := ba6.lt
    have lb6 := bb6.lt
    have lr6 := r6.lt
    have ls6 := tw6.size_le
    have m0 : w5.cell? ⟨w3.heap.size, 0, none⟩ = some (.int .i64 a) := (ba5.cell 0).trans (by rfl)
    have mf0 : w5.frozen? ⟨w3.heap.size, 0, none⟩ = false := ba5.free 0
    have m1 : w5.cell? ⟨w3.heap.size, 1, none⟩ = some (.int .i64 b) := (ba5.cell 1).trans (by rfl)
    have mf1 : w5.frozen? ⟨w3.heap.size, 1, none⟩ = false := ba5.free 1
    have m2 : w5.cell? ⟨w3.heap.size, 2, none⟩ = some (.int .i64 c) := (ba5.cell 2).trans (by rfl)
    have mf2 : w5.frozen? ⟨w3.heap.size, 2, none⟩ = false := ba5.free 2
    have n0 : w5.cell? ⟨w4.heap.size, 0, none⟩ = some (.int .i64 p) := (bb5.cell 0).trans (by rfl)
    have nf0 : w5.frozen? ⟨w4.heap.size, 0, none⟩ = false := bb5.free 0
    have n1 : w5.cell? ⟨w4.heap.size, 1, none⟩ = some (.int .i64 q) := (bb5.cell 1).trans (by rfl)
    have nf1 : w5.frozen? ⟨w4.heap.size, 1, none⟩ = false := bb5.free 1
    have n2 : w5.cell? ⟨w4.heap.size, 2, none⟩ = some (.int .i64 r) := (bb5.cell 2).trans (by rfl)
    have nf2 : w5.frozen? ⟨w4.heap.size, 2, none⟩ = false := bb5.free 2
    have e0 : w5.cell? ⟨w.heap.size, 0, none⟩ = some (.int .i64 0) := by have := bw5.cell 0; simpa using this
    have e1 : w5.cell? ⟨w.heap.size, 1, none⟩ = some (.slice none 0 0) := by have := bw5.cell 1; simpa using this
    have f0 : w5.frozen? ⟨w.heap.size, 0, none⟩ = false := bw5.free 0
    have f1 : w5.frozen? ⟨w.heap.size, 1, none⟩ = false := bw5.free 1
    have lz := bw5.lt
    have lzr := r5.lt
    have lzs := tw5.size_le
    go_wp2_with fail
    refine (l2Arg_any (w5.setCell ⟨w4.heap.size, 1, none⟩ (.int .i64 u)) g (k + 15) 9 r6 (by omega)).mono ?_
    rintro e w7 ⟨a2, b2, c2, rfl, r7, ow7⟩
    have bw7 := box_only (bw6) ow7 (by omega)
    have tw7 := (tw6).trans ow7
    have lr7 := r7.lt
    have ls7 := tw7.size_le
    have lbw7 := bw7.lt
    clear ow7
    go_wp2_with fail
    refine (l4Whole_any w7 g ((k + 15) + 4) r7 (by omega)).mono ?_
    rintro e w8 ⟨a3, b3, c3, rfl, r8, ow8⟩
    have bw8 := box_only (bw7) ow8 (by omega)
    have tw8 := (tw7).trans ow8
    have lr8 := r8.lt
    have ls8 := tw8.size_le
    have lbw8 := bw8.lt
    clear ow8
    clear bw7 r7 tw7
    go_wp2_with fail
    refine (l4Whole_any w8 g ((k + 15) + 4 + 5) r8 (by omega)).mono ?_
    rintro e w9 ⟨a4, b4, c4, rfl, r9, ow9⟩
    have bw9 := box_only (bw8) ow9 (by omega)
    have tw9 := (tw8).trans ow9
    have lr9 := r9.lt
    have ls9 := tw9.size_le
    have lbw9 := bw9.lt
    clear ow9
    clear bw8 r8 tw8
    go_wp2_with fail
    refine (arity_s_35 _).mono ?_
    rintro e wz ⟨rfl, hz9⟩
    have bwz : Box wz w.heap.size #[.int .i64 0, .slice none 0 0] 31 := by rw [hz9]; exact bw9.alloc _
    have blz : Box wz w9.heap.size #[.int .i64 a2, .int .i64 b2, .int .i64 c2, .int .i64 a3, .int .i64 b3, .int .i64 c3, .int .i64 a4, .int .i64 b4, .int .i64 c4] 40 := by rw [hz9]; exact Box.new w9 _ _
    have rz : Rd 82 wz g (k + 40) := by rw [hz9]; exact (r9.alloc _).mono (by omega)
    have twz : Only g w wz := by rw [hz9]; exact tw9.alloc _
    have lblz := blz.lt
    have lrz := rz.lt
    have lsz := twz.size_le
    clear hz9 bw9 r9 tw9
    have e0 : wz.cell? ⟨w.heap.size, 0, none⟩ = some (.int .i64 0) := by have := bwz.cell 0; simpa using this
    have e1 : wz.cell? ⟨w.heap.size, 1, none⟩ = some (.slice none 0 0) := by have := bwz.cell 1; simpa using this
    have f0 : wz.frozen? ⟨w.heap.size, 0, none⟩ = false := bwz.free 0
    have f1 : wz.frozen? ⟨w.heap.size, 1, none⟩ = false := bwz.free 1
    have lz := bwz.lt
    have lzr := rz.lt
    have lzs := twz.size_le
    go_wp2
    have bz := (bwz.set 0 (.int .i64 35)).set 1 (.slice (some ⟨w9.heap.size, 0, none⟩) 3 3)
    have by9 := (blz.far (p := ⟨w.heap.size, 0, none⟩) (by simp; omega) (.int .i64 35)).far (p := ⟨w.heap.size, 1, none⟩) (by simp; omega) (.slice (some ⟨w9.heap.size, 0, none⟩) 3 3)
    have d0 := (bz.cell 0).trans (show _ = some (.int .i64 35) by rfl)
    have d1 := (bz.cell 1).trans (show _ = some (.slice (some ⟨w9.heap.size, 0, none⟩) 3 3) by rfl)
    clear bz
    refine bodyPost_ret (v := .agg #[.int .i64 35, .slice (some ⟨w9.heap.size, 0, none⟩) 3 3]) (by simp [results, Tryd.results75, go_sem, d0, d1]) rfl ⟨35, _, 3, 3, [(a2, b2, c2), (a3, b3, c3), (a4, b4, c4)], rfl, ⟨rfl, by omega, by omega, by omega, .inr ⟨_, rfl, by omega, lie_box3_3 by9⟩⟩, ?_, ?_⟩
    · repeat (first | exact rz.mono (by omega) | refine Rd.setCell ?_ (by simp; try omega) _ | refine Rd.alloc ?_ _)
    · repeat (first | exact twz | refine Only.setCell ?_ (by right; simp; try omega) _ | refine Only.alloc ?_ _)
  · have bw6 : Box (w4.alloc (.cells #[.int .i64 p, .int .i64 q, .int .i64 r] 40)) w.heap.size #[.int .i64 0, .slice none 0 0] 31 := bw4.alloc _
    have ba6 : Box (w4.alloc (.cells #[.int .i64 p, .int .i64 q, .int .i64 r] 40)) w3.heap.size #[.int .i64 a, .int .i64 b, .int .i64 c] 40 := ba4.alloc _
    have bb6 : Box (w4.alloc (.cells #[.int .i64 p, .int .i64 q, .int .i64 r] 40)) w4.heap.size #[.int .i64 p, .int .i64 q, .int .i64 r] 40 := bb0
    have r6 : Rd 82 (w4.alloc (.cells #[.int .i64 p, .int .i64 q, .int .i64 r] 40)) g (k + 15) := (r4.alloc _).mono (by omega)
    have tw6 : Only g w (w4.alloc (.cells #[.int .i64 p, .int .i64 q, .int .i64 r] 40)) := tw4.alloc _
    have lw6 := bw6.lt
    have la6 := ba6.lt
    have lb6 := bb6.lt
    have lr6 := r6.lt
    have ls6 := tw6.size_le
    have m0 : (w4.alloc (.cells #[.int .i64 p, .int .i64 q, .int .i64 r] 40)).cell? ⟨w3.heap.size, 0, none⟩ = some (.int .i64 a) := (ba6.cell 0).trans (by rfl)
    have mf0 : (w4.alloc (.cells #[.int .i64 p, .int .i64 q, .int .i64 r] 40)).frozen? ⟨w3.heap.size, 0, none⟩ = false := ba6.free 0
    have m1 : (w4.alloc (.cells #[.int .i64 p, .int .i64 q, .int .i64 r] 40)).cell? ⟨w3.heap.size, 1, none⟩ = some (.int .i64 b) := (ba6.cell 1).trans (by rfl)
    have mf1 : (w4.alloc (.cells #[.int .i64 p, .int .i64 q, .int .i64 r] 40)).frozen? ⟨w3.heap.size, 1, none⟩ = false := ba6.free 1
    have m2 : (w4.alloc (.cells #[.int .i64 p, .int .i64 q, .int .i64 r] 40)).cell? ⟨w3.heap.size, 2, none⟩ = some (.int .i64 c) := (ba6.cell 2).trans (by rfl)
    have mf2 : (w4.alloc (.cells #[.int .i64 p, .int .i64 q, .int .i64 r] 40)).frozen? ⟨w3.heap.size, 2, none⟩ = false := ba6.free 2
    have n0 : (w4.alloc (.cells #[.int .i64 p, .int .i64 q, .int .i64 r] 40)).cell? ⟨w4.heap.size, 0, none⟩ = some (.int .i64 p) := (bb6.cell 0).trans (by rfl)
    have nf0 : (w4.alloc (.cells #[.int .i64 p, .int .i64 q, .int .i64 r] 40)).frozen? ⟨w4.heap.size, 0, none⟩ = false := bb6.free 0
    have n1 : (w4.alloc (.cells #[.int .i64 p, .int .i64 q, .int .i64 r] 40)).cell? ⟨w4.heap.size, 1, none⟩ = some (.int .i64 q) := (bb6.cell 1).trans (by rfl)
    have nf1 : (w4.alloc (.cells #[.int .i64 p, .int .i64 q, .int .i64 r] 40)).frozen? ⟨w4.heap.size, 1, none⟩ = false := bb6.free 1
    have n2 : (w4.alloc (.cells #[.int .i64 p, .int .i64 q, .int .i64 r] 40)).cell? ⟨w4.heap.size, 2, none⟩ = some (.int .i64 r) := (bb6.cell 2).trans (by rfl)
    have nf2 : (w4.alloc (.cells #[.int .i64 p, .int .i64 q, .int .i64 r] 40)).frozen? ⟨w4.heap.size, 2, none⟩ = false := bb6.free 2
    have l0 : w4.cell? ⟨w3.heap.size, 0, none⟩ = some (.int .i64 a) := (ba4.cell 0).trans (by rfl)
    have lf0 : w4.frozen? ⟨w3.heap.size, 0, none⟩ = false := ba4.free 0
    have l1 : w4.cell? ⟨w3.heap.size, 1, none⟩ = some (.int .i64 b) := (ba4.cell 1).trans (by rfl)
    have lf1 : w4.frozen? ⟨w3.heap.size, 1, none⟩ = false := ba4.free 1
    have l2 : w4.cell? ⟨w3.heap.size, 2, none⟩ = some (.int .i64 c) := (ba4.cell 2).trans (by rfl)
    have lf2 : w4.frozen? ⟨w3.heap.size, 2, none⟩ = false := ba4.free 2
    have e0 : w4.cell? ⟨w.heap.size, 0, none⟩ = some (.int .i64 0) := by have := bw4.cell 0; simpa using this
    have e1 : w4.cell? ⟨w.heap.size, 1, none⟩ = some (.slice none 0 0) := by have := bw4.cell 1; simpa using this
    have f0 : w4.frozen? ⟨w.heap.size, 0, none⟩ = false := bw4.free 0
    have f1 : w4.frozen? ⟨w.heap.size, 1, none⟩ = false := bw4.free 1
    have lz := bw4.lt
    have lzr := r4.lt
    have lzs := tw4.size_le
    go_wp2_with fail
    refine (l2Arg_any (w4.alloc (.cells #[.int .i64 p, .int .i64 q, .int .i64 r] 40)) g (k + 15) 9 r6 (by omega)).mono ?_
    rintro e w7 ⟨a2, b2, c2, rfl, r7, ow7⟩
    have bw7 := box_only (bw6) ow7 (by omega)
    have tw7 := (tw6).trans ow7
    have lr7 := r7.lt
    have ls7 := tw7.size_le
    have lbw7 := bw7.lt
    clear ow7
    go_wp2_with fail
    refine (l4Whole_any w7 g ((k + 15) + 4) r7 (by omega)).mono ?_
    rintro e w8 ⟨a3, b3, c3, rfl, r8, ow8⟩
    have bw8 := box_only (bw7) ow8 (by omega)
    have tw8 := (tw7).trans ow8
    have lr8 := r8.lt
    have ls8 := tw8.size_le
    have lbw8 := bw8.lt
    clear ow8
    clear bw7 r7 tw7
    go_wp2_with fail
    refine (l4Whole_any w8 g ((k + 15) + 4 + 5) r8 (by omega)).mono ?_
    rintro e w9 ⟨a4, b4, c4, rfl, r9, ow9⟩
    have bw9 := box_only (bw8) ow9 (by omega)
    have tw9 := (tw8).trans ow9
    have lr9 := r9.lt
    have ls9 := tw9.size_le
    have lbw9 := bw9.lt
    clear ow9
    clear bw8 r8 tw8
    go_wp2_with fail
    refine (arity_s_35 _).mono ?_
    rintro e wz ⟨rfl, hz9⟩
    have bwz : Box wz w.heap.size #[.int .i64 0, .slice none 0 0] 31 := by rw [hz9]; exact bw9.alloc _
    have blz : Box wz w9.heap.size #[.int .i64 a2, .int .i64 b2, .int .i64 c2, .int .i64 a3, .int .i64 b3, .int .i64 c3, .int .i64 a4, .int .i64 b4, .int .i64 c4] 40 := by rw [hz9]; exact Box.new w9 _ _
    have rz : Rd 82 wz g (k + 40) := by rw [hz9]; exact (r9.alloc _).mono (by omega)
    have twz : Only g w wz := by rw [hz9]; exact tw9.alloc _
    have lblz := blz.lt
    have lrz := rz.lt
    have lsz := twz.size_le
    clear hz9 bw9 r9 tw9
    have e0 : wz.cell? ⟨w.heap.size, 0, none⟩ = some (.int .i64 0) := by have := bwz.cell 0; simpa using this
    have e1 : wz.cell? ⟨w.heap.size, 1, none⟩ = some (.slice none 0 0) := by have := bwz.cell 1; simpa using this
    have f0 : wz.frozen? ⟨w.heap.size, 0, none⟩ = false := bwz.free 0
    have f1 : wz.frozen? ⟨w.heap.size, 1, none⟩ = false := bwz.free 1
    have lz := bwz.lt
    have lzr := rz.lt
    have lzs := twz.size_le
    go_wp2
    have bz := (bwz.set 0 (.int .i64 35)).set 1 (.slice (some ⟨w9.heap.size, 0, none⟩) 3 3)
    have by9 := (blz.far (p := ⟨w.heap.size, 0, none⟩) (by simp; omega) (.int .i64 35)).far (p := ⟨w.heap.size, 1, none⟩) (by simp; omega) (.slice (some ⟨w9.heap.size, 0, none⟩) 3 3)
    have d0 := (bz.cell 0).trans (show _ = some (.int .i64 35) by rfl)
    have d1 := (bz.cell 1).trans (show _ = some (.slice (some ⟨w9.heap.size, 0, none⟩) 3 3) by rfl)
    clear bz
    refine bodyPost_ret (v := .agg #[.int .i64 35, .slice (some ⟨w9.heap.size, 0, none⟩) 3 3]) (by simp [results, Tryd.results75, go_sem, d0, d1]) rfl ⟨35, _, 3, 3, [(a2, b2, c2), (a3, b3, c3), (a4, b4, c4)], rfl, ⟨rfl, by omega, by omega, by omega, .inr ⟨_, rfl, by omega, lie_box3_3 by9⟩⟩, ?_, ?_⟩
    · repeat (first | exact rz.mono (by omega) | refine Rd.setCell ?_ (by simp; try omega) _ | refine Rd.alloc ?_ _)
    · repeat (first | exact twz | refine Only.setCell ?_ (by right; simp; try omega) _ | refine Only.alloc ?_ _)
set_option maxRecDepth 100000 in
set_option maxHeartbeats 2000000 in
theorem l4Coil_calc (op : Int) (hop : 31 ≤ op ∧ op ≤ 34) (har : ∀ w, Calls Tryd.prog 41 #[.int .i64 op] w fun e w' => e = .returned (.int .i64 3) ∧ w' = w) (w : World) (g k : Nat) (h : Rd 82 w g k) (hk : k ≤ 80000) (hn : Calls Tryd.prog 77 #[.pointer (some ⟨g, 0, none⟩), .slice (some ⟨w.heap.size + 1, 0, none⟩) 22 22] ((w.alloc (.cells #[.int .i64 0, .slice none 0 0] 31)).alloc (.cells (([21, 21, 21, 22, 23, 24, 25, 26, 26, 27, 28, 29, 29, 30, 31, 31, 32, 33, 34, 35, 36, 37] : List Int).map (Value.int .i64)).toArray 3)) fun e w1 => e = .returned (.int .i64 op) ∧ Rd 82 w1 g (k + 1) ∧ Only g ((w.alloc (.cells #[.int .i64 0, .slice none 0 0] 31)).alloc (.cells (([21, 21, 21, 22, 23, 24, 25, 26, 26, 27, 28, 29, 29, 30, 31, 31, 32, 33, 34, 35, 36, 37] : List Int).map (Value.int .i64)).toArray 3)) w1) : Calls Tryd.prog 75 #[.pointer (some ⟨g, 0, none⟩)] w (DrewE 40 w g k) := by
  have x21 : (op == 21) = false := beq_eq_false_iff_ne.2 (by omega)
  have x22 : (op == 22) = false := beq_eq_false_iff_ne.2 (by omega)
  have x23 : (op == 23) = false := beq_eq_false_iff_ne.2 (by omega)
  have x24 : (op == 24) = false := beq_eq_false_iff_ne.2 (by omega)
  have x25 : (op == 25) = false := beq_eq_false_iff_ne.2 (by omega)
  have x26 : (op == 26) = false := beq_eq_false_iff_ne.2 (by omega)
  have x27 : (op == 27) = false := beq_eq_false_iff_ne.2 (by omega)
  have x28 : (op == 28) = false := beq_eq_false_iff_ne.2 (by omega)
  have x29 : (op == 29) = false := beq_eq_false_iff_ne.2 (by omega)
  have x35 : (op == 35) = false := beq_eq_false_iff_ne.2 (by omega)
  have x36 : (op == 36) = false := beq_eq_false_iff_ne.2 (by omega)
  have x37 : (op == 37) = false := beq_eq_false_iff_ne.2 (by omega)
  have hlt := h.lt
  have b0 := (Box.new w #[.int .i64 0, .slice none 0 0] 31).alloc (.cells (([21, 21, 21, 22, 23, 24, 25, 26, 26, 27, 28, 29, 29, 30, 31, 31, 32, 33, 34, 35, 36, 37] : List Int).map (Value.int .i64)).toArray 3)
  have o0 : Only g w ((w.alloc (.cells #[.int .i64 0, .slice none 0 0] 31)).alloc (.cells (([21, 21, 21, 22, 23, 24, 25, 26, 26, 27, 28, 29, 29, 30, 31, 31, 32, 33, 34, 35, 36, 37] : List Int).map (Value.int .i64)).toArray 3)) := ((Only.refl g w).alloc _).alloc _
  have HB := Lib.hid (And.intro b0 o0)
  clear b0 o0 h
  go_enter Tryd.func75, Tryd.ntmps75
  go_wp2_with fail
  refine hn.mono ?_
  rintro e w1 ⟨rfl, r1, ow1⟩
  have bw1 := box_only HB.out.1 ow1 (by omega)
  have tw1 := HB.out.2.trans ow1
  clear ow1 hn HB
  go_wp2_with fail
  refine (pick_any w1 g (k + 1) 2 r1 (by omega)).mono ?_
  rintro e w2 ⟨y, rfl, hy0, hy1, _, r2, ow2⟩
  have bw2 := box_only (bw1) ow2 (by omega)
  have tw2 := (tw1).trans ow2
  have lr2 := r2.lt
  have ls2 := tw2.size_le
  have lbw2 := bw2.lt
  clear ow2
  clear bw1 r1 tw1
  have hy2 := hy1 (by omega)
  clear hy1
  go_wp2_with fail
  refine (l2Arg_any w2 g (k + 1 + 1) (2 + y) r2 (by omega)).mono ?_
  rintro e w3 ⟨a, b, c, rfl, r3, ow3⟩
  have bw3 := box_only (bw2) ow3 (by omega)
  have tw3 := (tw2).trans ow3
  have lr3 := r3.lt
  have ls3 := tw3.size_le
  have lbw3 := bw3.lt
  clear ow3
  clear bw2 r2 tw2
  have ba0 := Box.new w3 #[.int .i64 a, .int .i64 b, .int .i64 c] 40
  go_wp2_with fail
  refine (l2Arg_any (w3.alloc (.cells #[.int .i64 a, .int .i64 b, .int .i64 c] 40)) g (k + 1 + 1 + 4) 11 (r3.alloc _) (by omega)).mono ?_
  rintro e w4 ⟨p, q, r, rfl, r4, ow4⟩
  have bw4 := box_only (bw3.alloc _) ow4 (by omega)
  have ba4 := box_only (ba0) ow4 (by omega)
  have tw4 := (tw3.alloc _).trans ow4
  have lr4 := r4.lt
  have ls4 := tw4.size_le
  have lbw4 := bw4.lt
  have lba4 := ba4.lt
  clear ow4
  clear bw3 r3 tw3 ba0
  have bb0 := Box.new w4 #[.int .i64 p, .int .i64 q, .int .i64 r] 40
  by_cases hq : q < 0
  · have tw40 := tw4.alloc (.cells #[.int .i64 p, .int .i64 q, .int .i64 r] 40)
    have ba40 : Box (w4.alloc (.cells #[.int .i64 p, .int .i64 q, .int .i64 r] 40)) w3.heap.size #[.int .i64 a, .int .i64 b, .int .i64 c] 40 := ba4.alloc _
    have m0 : (w4.alloc (.cells #[.int .i64 p, .int .i64 q, .int .i64 r] 40)).cell? ⟨w3.heap.size, 0, none⟩ = some (.int .i64 a) := (ba40.cell 0).trans (by rfl)
    have mf0 : (w4.alloc (.cells #[.int .i64 p, .int .i64 q, .int .i64 r] 40)).frozen? ⟨w3.heap.size, 0, none⟩ = false := ba40.free 0
    have m1 : (w4.alloc (.cells #[.int .i64 p, .int .i64 q, .int .i64 r] 40)).cell? ⟨w3.heap.size, 1, none⟩ = some (.int .i64 b) := (ba40.cell 1).trans (by rfl)
    have mf1 : (w4.alloc (.cells #[.int .i64 p, .int .i64 q, .int .i64 r] 40)).frozen? ⟨w3.heap.size, 1, none⟩ = false := ba40.free 1
    have m2 : (w4.alloc (.cells #[.int .i64 p, .int .i64 q, .int .i64 r] 40)).cell? ⟨w3.heap.size, 2, none⟩ = some (.int .i64 c) := (ba40.cell 2).trans (by rfl)
    have mf2 : (w4.alloc (.cells #[.int .i64 p, .int .i64 q, .int .i64 r] 40)).frozen? ⟨w3.heap.size, 2, none⟩ = false := ba40.free 2
    have n0 : (w4.alloc (.cells #[.int .i64 p, .int .i64 q, .int .i64 r] 40)).cell? ⟨w4.heap.size, 0, none⟩ = some (.int .i64 p) := (bb0.cell 0).trans (by rfl)
    have nf0 : (w4.alloc (.cells #[.int .i64 p, .int .i64 q, .int .i64 r] 40)).frozen? ⟨w4.heap.size, 0, none⟩ = false := bb0.free 0
    have n1 : (w4.alloc (.cells #[.int .i64 p, .int .i64 q, .int .i64 r] 40)).cell? ⟨w4.heap.size, 1, none⟩ = some (.int .i64 q) := (bb0.cell 1).trans (by rfl)
    have nf1 : (w4.alloc (.cells #[.int .i64 p, .int .i64 q, .int .i64 r] 40)).frozen? ⟨w4.heap.size, 1, none⟩ = false := bb0.free 1
    have n2 : (w4.alloc (.cells #[.int .i64 p, .int .i64 q, .int .i64 r] 40)).cell? ⟨w4.heap.size, 2, none⟩ = some (.int .i64 r) := (bb0.cell 2).trans (by rfl)
    have nf2 : (w4.alloc (.cells #[.int .i64 p, .int .i64 q, .int .i64 r] 40)).frozen? ⟨w4.heap.size, 2, none⟩ = false := bb0.free 2
    go_wp2_with fail
    refine (pick_any (w4.alloc (.cells #[.int .i64 p, .int .i64 q, .int .i64 r] 40)) g (k + 1 + 1 + 4 + 4) 9 (r4.alloc _) (by omega)).mono ?_
    rintro e w5 ⟨u, rfl, hu0, hu1, _, r5, ow5⟩
    have bw5 := box_only (bw4.alloc _) ow5 (by omega)
    have ba5 := box_only (ba4.alloc _) ow5 (by omega)
    have bb5 := box_only (bb0) ow5 (by omega)
    have tw5 := (tw4.alloc _).trans ow5
    have lr5 := r5.lt
    have ls5 := tw5.size_le
    have lbw5 := bw5.lt
    have lba5 := ba5.lt
    have lbb5 := bb5.lt
    clear ow5
    clear m0 mf0 m1 mf1 m2 mf2 n0 nf0 n1 nf1 n2 nf2 bw4 r4 tw4 ba4 ba40 bb0 tw40 hu1 hq
    have bw6 : Box (w5.setCell ⟨w4.heap.size, 1, none⟩ (.int .i64 u)) w.heap.size #[.int .i64 0, .slice none 0 0] 31 := bw5.far (p := ⟨w4.heap.size, 1, none⟩) (by simp; omega) _
    have ba6 : Box (w5.setCell ⟨w4.heap.size, 1, none⟩ (.int .i64 u)) w3.heap.size #[.int .i64 a, .int .i64 b, .int .i64 c] 40 := ba5.far (p := ⟨w4.heap.size, 1, none⟩) (by simp; omega) _
    have bb6 : Box (w5.setCell ⟨w4.heap.size, 1, none⟩ (.int .i64 u)) w4.heap.size #[.int .i64 p, .int .i64 u, .int .i64 r] 40 := bb5.set 1 (.int .i64 u)
    have r6 : Rd 82 (w5.setCell ⟨w4.heap.size, 1, none⟩ (.int .i64 u)) g (k + 15) := (r5.setCell (by simp; omega) _).mono (by omega)
    have tw6 : Only g w (w5.setCell ⟨w4.heap.size, 1, none⟩ (.int .i64 u)) := tw5.setCell (.inr (by simp; omega)) _
    have lw6 := bw6.lt
    have la6 := ba6.lt
    have lb6 := bb6.lt
    have lr6 := r6.lt
    have ls6 := tw6.size_le
    have m0 : w5.cell? ⟨w3.heap.size, 0, none⟩ = some (.int .i64 a) := (ba5.cell 0).trans (by rfl)
    have mf0 : w5.frozen? ⟨w3.heap.size, 0, none⟩ = false := ba5.free 0
    have m1 : w5.cell? ⟨w3.heap.size, 1, none⟩ = some (.int .i64 b) := (ba5.cell 1).trans (by rfl)
    have mf1 : w5.frozen? ⟨w3.heap.size, 1, none⟩ = false := ba5.free 1
    have m2 : w5.cell? ⟨w3.heap.size, 2, none⟩ = some (.int .i64 c) := (ba5.cell 2).trans (by rfl)
    have mf2 : w5.frozen? ⟨w3.heap.size, 2, none⟩ = false := ba5.free 2
    have n0 : w5.cell? ⟨w4.heap.size, 0, none⟩ = some (.int .i64 p) := (bb5.cell 0).trans (by rfl)
    have nf0 : w5.frozen? ⟨w4.heap.size, 0, none⟩ = false := bb5.free 0
    have n1 : w5.cell? ⟨w4.heap.size, 1, none⟩ = some (.int .i64 q) := (bb5.cell 1).trans (by rfl)
    have nf1 : w5.frozen? ⟨w4.heap.size, 1, none⟩ = false := bb5.free 1
    have n2 : w5.cell? ⟨w4.heap.size, 2, none⟩ = some (.int .i64 r) := (bb5.cell 2).trans (by rfl)
    have nf2 : w5.frozen? ⟨w4.heap.size, 2, none⟩ = false := bb5.free 2
    have e0 : w5.cell? ⟨w.heap.size, 0, none⟩ = some (.int .i64 0) := by have := bw5.cell 0; simpa using this
    have e1 : w5.cell? ⟨w.heap.size, 1, none⟩ = some (.slice none 0 0) := by have := bw5.cell 1; simpa using this
    have f0 : w5.frozen? ⟨w.heap.size, 0, none⟩ = false := bw5.free 0
    have f1 : w5.frozen? ⟨w.heap.size, 1, none⟩ = false := bw5.free 1
    have lz := bw5.lt
    have lzr := r5.lt
    have lzs := tw5.size_le
    go_wp2_with fail
    refine (pick_any (w5.setCell ⟨w4.heap.size, 1, none⟩ (.int .i64 u)) g (k + 15) 2 r6 (by omega)).mono ?_
    rintro e w7 ⟨z, rfl, hz0, hz1, _, r7, ow7⟩
    have bw7 := box_only (bw6) ow7 (by omega)
    have tw7 := (tw6).trans ow7
    have lr7 := r7.lt
    have ls7 := tw7.size_le
    have lbw7 := bw7.lt
    clear ow7
    clear hz1 bw6 r6 tw6
    by_cases hz : z = 0
    · subst hz
      go_wp2_with fail
      refine (l2Arg_any w7 g (k + 15 + 1) 9 r7 (by omega)).mono ?_
      rintro e w8 ⟨a2, b2, c2, rfl, r8, ow8⟩
      have bw8 := box_only (bw7) ow8 (by omega)
      have tw8 := (tw7).trans ow8
      have lr8 := r8.lt
      have ls8 := tw8.size_le
      have lbw8 := bw8.lt
      clear ow8
      go_wp2_with fail
      refine (l4Whole_any w8 g ((k + 15 + 1) + 4) r8 (by omega)).mono ?_
      rintro e w9 ⟨a3, b3, c3, rfl, r9, ow9⟩
      have bw9 := box_only (bw8) ow9 (by omega)
      have tw9 := (tw8).trans ow9
      have lr9 := r9.lt
      have ls9 := tw9.size_le
      have lbw9 := bw9.lt
      clear ow9
      clear bw8 r8 tw8
      go_wp2_with fail
      refine (l4Whole_any w9 g ((k + 15 + 1) + 4 + 5) r9 (by omega)).mono ?_
      rintro e w10 ⟨a4, b4, c4, rfl, r10, ow10⟩
      have bw10 := box_only (bw9) ow10 (by omega)
      have tw10 := (tw9).trans ow10
      have lr10 := r10.lt
      have ls10 := tw10.size_le
      have lbw10 := bw10.lt
      clear ow10
      clear bw9 r9 tw9
      go_wp2_with fail
      refine (har _).mono ?_
      rintro e wz ⟨rfl, hz9⟩
      have bwz : Box wz w.heap.size #[.int .i64 0, .slice none 0 0] 31 := by rw [hz9]; exact bw10.alloc _
      have blz : Box wz w10.heap.size #[.int .i64 a2, .int .i64 b2, .int .i64 c2, .int .i64 a3, .int .i64 b3, .int .i64 c3, .int .i64 a4, .int .i64 b4, .int .i64 c4] 40 := by rw [hz9]; exact Box.new w10 _ _
      have rz : Rd 82 wz g (k + 40) := by rw [hz9]; exact (r10.alloc _).mono (by omega)
      have twz : Only g w wz := by rw [hz9]; exact tw10.alloc _
      have lblz := blz.lt
      have lrz := rz.lt
      have lsz := twz.size_le
      clear hz9 bw10 r10 tw10
      have e0 : wz.cell? ⟨w.heap.size, 0, none⟩ = some (.int .i64 0) := by have := bwz.cell 0; simpa using this
      have e1 : wz.cell? ⟨w.heap.size, 1, none⟩ = some (.slice none 0 0) := by have := bwz.cell 1; simpa using this
      have f0 : wz.frozen? ⟨w.heap.size, 0, none⟩ = false := bwz.free 0
      have f1 : wz.frozen? ⟨w.heap.size, 1, none⟩ = false := bwz.free 1
      have lz := bwz.lt
      have lzr := rz.lt
      have lzs := twz.size_le
      go_wp2
      have bz := (bwz.set 0 (.int .i64 op)).set 1 (.slice (some ⟨w10.heap.size, 0, none⟩) 3 3)
      have by9 := (blz.far (p := ⟨w.heap.size, 0, none⟩) (by simp; omega) (.int .i64 op)).far (p := ⟨w.heap.size, 1, none⟩) (by simp; omega) (.slice (some ⟨w10.heap.size, 0, none⟩) 3 3)
      have d0 := (bz.cell 0).trans (show _ = some (.int .i64 op) by rfl)
      have d1 := (bz.cell 1).trans (show _ = some (.slice (some ⟨w10.heap.size, 0, none⟩) 3 3) by rfl)
      clear bz
      refine bodyPost_ret (v := .agg #[.int .i64 op, .slice (some ⟨w10.heap.size, 0, none⟩) 3 3]) (by simp [results, Tryd.results75, go_sem, d0, d1]) rfl ⟨op, _, 3, 3, [(a2, b2, c2), (a3, b3, c3), (a4, b4, c4)], rfl, ⟨rfl, by omega, by omega, by omega, .inr ⟨_, rfl, by omega, lie_box3_3 by9⟩⟩, ?_, ?_⟩
      · repeat (first | exact rz.mono (by omega) | refine Rd.setCell ?_ (by simp; try omega) _ | refine Rd.alloc ?_ _)
      · repeat (first | exact twz | refine Only.setCell ?_ (by right; simp; try omega) _ | refine Only.alloc ?_ _)
    · have hz2 : (z == 0) = false := beq_eq_false_iff_ne.2 hz
      clear hz
      go_wp2_with fail
      refine (l2Arg_any w7 g (k + 15 + 1) 10 r7 (by omega)).mono ?_
      rintro e w8 ⟨a2, b2, c2, rfl, r8, ow8⟩
      have bw8 := box_only (bw7) ow8 (by omega)
      have tw8 := (tw7).trans ow8
      have lr8 := r8.lt
      have ls8 := tw8.size_le
      have lbw8 := bw8.lt
      clear ow8
      go_wp2_with fail
      refine (l4Real_any w8 g ((k + 15 + 1) + 4) r8 (by omega)).mono ?_
      rintro e w9 ⟨a3, b3, c3, rfl, r9, ow9⟩
      have bw9 := box_only (bw8) ow9 (by omega)
      have tw9 := (tw8).trans ow9
      have lr9 := r9.lt
      have ls9 := tw9.size_le
      have lbw9 := bw9.lt
      clear ow9
      clear bw8 r8 tw8
      go_wp2_with fail
      refine (l4Real_any w9 g ((k + 15 + 1) + 4 + 5) r9 (by omega)).mono ?_
      rintro e w10 ⟨a4, b4, c4, rfl, r10, ow10⟩
      have bw10 := box_only (bw9) ow10 (by omega)
      have tw10 := (tw9).trans ow10
      have lr10 := r10.lt
      have ls10 := tw10.size_le
      have lbw10 := bw10.lt
      clear ow10
      clear bw9 r9 tw9
      go_wp2_with fail
      refine (har _).mono ?_
      rintro e wz ⟨rfl, hz9⟩
      have bwz : Box wz w.heap.size #[.int .i64 0, .slice none 0 0] 31 := by rw [hz9]; exact bw10.alloc _
      have blz : Box wz w10.heap.size #[.int .i64 a2, .int .i64 b2, .int .i64 c2, .int .i64 a3, .int .i64 b3, .int .i64 c3, .int .i64 a4, .int .i64 b4, .int .i64 c4] 40 := by rw [hz9]; exact Box.new w10 _ _
      have rz : Rd 82 wz g (k + 40) := by rw [hz9]; exact (r10.alloc _).mono (by omega)
      have twz : Only g w wz := by rw [hz9]; exact tw10.alloc _
      have lblz := blz.lt
      have lrz := rz.lt
      have lsz := twz.size_le
      clear hz9 bw10 r10 tw10
      have e0 : wz.cell? ⟨w.heap.size, 0, none⟩ = some (.int .i64 0) := by have := bwz.cell 0; simpa using this
      have e1 : wz.cell? ⟨w.heap.size, 1, none⟩ = some (.slice none 0 0) := by have := bwz.cell 1; simpa using this
      have f0 : wz.frozen? ⟨w.heap.size, 0, none⟩ = false := bwz.free 0
      have f1 : wz.frozen? ⟨w.heap.size, 1, none⟩ = false := bwz.free 1
      have lz := bwz.lt
      have lzr := rz.lt
      have lzs := twz.size_le
      go_wp2
      have bz := (bwz.set 0 (.int .i64 op)).set 1 (.slice (some ⟨w10.heap.size, 0, none⟩) 3 3)
      have by9 := (blz.far (p := ⟨w.heap.size, 0, none⟩) (by simp; omega) (.int .i64 op)).far (p := ⟨w.heap.size, 1, none⟩) (by simp; omega) (.slice (some ⟨w10.heap.size, 0, none⟩) 3 3)
      have d0 := (bz.cell 0).trans (show _ = some (.int .i64 op) by rfl)
      have d1 := (bz.cell 1).trans (show _ = some (.slice (some ⟨w10.heap.size, 0, none⟩) 3 3) by rfl)
      clear bz
      refine bodyPost_ret (v := .agg #[.int .i64 op, .slice (some ⟨w10.heap.size, 0, none⟩) 3 3]) (by simp [results, Tryd.results75, go_sem, d0, d1]) rfl ⟨op, _, 3, 3, [(a2, b2, c2), (a3, b3, c3), (a4, b4, c4)], rfl, ⟨rfl, by omega, by omega, by omega, .inr ⟨_, rfl, by omega, lie_box3_3 by9⟩⟩, ?_, ?_⟩
      · repeat (first | exact rz.mono (by omega) | refine Rd.setCell ?_ (by simp; try omega) _ | refine Rd.alloc ?_ _)
      · repeat (first | exact twz | refine Only.setCell ?_ (by right; simp; try omega) _ | refine Only.alloc ?_ _)
  · have bw6 : Box (w4.alloc (.cells #[.int .i64 p, .int .i64 q, .int .i64 r] 40)) w.heap.size #[.int .i64 0, .slice none 0 0] 31 := bw4.alloc _
    have ba6 : Box (w4.alloc (.cells #[.int .i64 p, .int .i64 q, .int .i64 r] 40)) w3.heap.size #[.int .i64 a, .int .i64 b, .int .i64 c] 40 := ba4.alloc _
    have bb6 : Box (w4.alloc (.cells #[.int .i64 p, .int .i64 q, .int .i64 r] 40)) w4.heap.size #[.int .i64 p, .int .i64 q, .int .i64 r] 40 := bb0
    have r6 : Rd 82 (w4.alloc (.cells #[.int .i64 p, .int .i64 q, .int .i64 r] 40)) g (k + 15) := (r4.alloc _).mono (by omega)
    have tw6 : Only g w (w4.alloc (.cells #[.int .i64 p, .int .i64 q, .int .i64 r] 40)) := tw4.alloc _
    have lw6 := bw6.lt
    have la6 := ba6.lt
    have lb6 := bb6.lt
    have lr6 := r6.lt
    have ls6 := tw6.size_le
    have m0 : (w4.alloc (.cells #[.int .i64 p, .int .i64 q, .int .i64 r] 40)).cell? ⟨w3.heap.size, 0, none⟩ = some (.int .i64 a) := (ba6.cell 0).trans (by rfl)
    have mf0 : (w4.alloc (.cells #[.int .i64 p, .int .i64 q, .int .i64 r] 40)).frozen? ⟨w3.heap.size, 0, none⟩ = false := ba6.free 0
    have m1 : (w4.alloc (.cells #[.int .i64 p, .int .i64 q, .int .i64 r] 40)).cell? ⟨w3.heap.size, 1, none⟩ = some (.int .i64 b) := (ba6.cell 1).trans (by rfl)
    have mf1 : (w4.alloc (.cells #[.int .i64 p, .int .i64 q, .int .i64 r] 40)).frozen? ⟨w3.heap.size, 1, none⟩ = false := ba6.free 1
    have m2 : (w4.alloc (.cells #[.int .i64 p, .int .i64 q, .int .i64 r] 40)).cell? ⟨w3.heap.size, 2, none⟩ = some (.int .i64 c) := (ba6.cell 2).trans (by rfl)
    have mf2 : (w4.alloc (.cells #[.int .i64 p, .int .i64 q, .int .i64 r] 40)).frozen? ⟨w3.heap.size, 2, none⟩ = false := ba6.free 2
    have n0 : (w4.alloc (.cells #[.int .i64 p, .int .i64 q, .int .i64 r] 40)).cell? ⟨w4.heap.size, 0, none⟩ = some (.int .i64 p) := (bb6.cell 0).trans (by rfl)
    have nf0 : (w4.alloc (.cells #[.int .i64 p, .int .i64 q, .int .i64 r] 40)).frozen? ⟨w4.heap.size, 0, none⟩ = false := bb6.free 0
    have n1 : (w4.alloc (.cells #[.int .i64 p, .int .i64 q, .int .i64 r] 40)).cell? ⟨w4.heap.size, 1, none⟩ = some (.int .i64 q) := (bb6.cell 1).trans (by rfl)
    have nf1 : (w4.alloc (.cells #[.int .i64 p, .int .i64 q, .int .i64 r] 40)).frozen? ⟨w4.heap.size, 1, none⟩ = false := bb6.free 1
    have n2 : (w4.alloc (.cells #[.int .i64 p, .int .i64 q, .int .i64 r] 40)).cell? ⟨w4.heap.size, 2, none⟩ = some (.int .i64 r) := (bb6.cell 2).trans (by rfl)
    have nf2 : (w4.alloc (.cells #[.int .i64 p, .int .i64 q, .int .i64 r] 40)).frozen? ⟨w4.heap.size, 2, none⟩ = false := bb6.free 2
    have l0 : w4.cell? ⟨w3.heap.size, 0, none⟩ = some (.int .i64 a) := (ba4.cell 0).trans (by rfl)
    have lf0 : w4.frozen? ⟨w3.heap.size, 0, none⟩ = false := ba4.free 0
    have l1 : w4.cell? ⟨w3.heap.size, 1, none⟩ = some (.int .i64 b) := (ba4.cell 1).trans (by rfl)
    have lf1 : w4.frozen? ⟨w3.heap.size, 1, none⟩ = false := ba4.free 1
    have l2 : w4.cell? ⟨w3.heap.size, 2, none⟩ = some (.int .i64 c) := (ba4.cell 2).trans (by rfl)
    have lf2 : w4.frozen? ⟨w3.heap.size, 2, none⟩ = false := ba4.free 2
    have e0 : w4.cell? ⟨w.heap.size, 0, none⟩ = some (.int .i64 0) := by have := bw4.cell 0; simpa using this
    have e1 : w4.cell? ⟨w.heap.size, 1, none⟩ = some (.slice none 0 0) := by have := bw4.cell 1; simpa using this
    have f0 : w4.frozen? ⟨w.heap.size, 0, none⟩ = false := bw4.free 0
    have f1 : w4.frozen? ⟨w.heap.size, 1, none⟩ = false := bw4.free 1
    have lz := bw4.lt
    have lzr := r4.lt
    have lzs := tw4.size_le
    go_wp2_with fail
    refine (pick_any (w4.alloc (.cells #[.int .i64 p, .int .i64 q, .int .i64 r] 40)) g (k + 15) 2 r6 (by omega)).mono ?_
    rintro e w7 ⟨z, rfl, hz0, hz1, _, r7, ow7⟩
    have bw7 := box_only (bw6) ow7 (by omega)
    have tw7 := (tw6).trans ow7
    have lr7 := r7.lt
    have ls7 := tw7.size_le
    have lbw7 := bw7.lt
    clear ow7
    clear hz1 bw6 r6 tw6
    by_cases hz : z = 0
    · subst hz
      go_wp2_with fail
      refine (l2Arg_any w7 g (k + 15 + 1) 9 r7 (by omega)).mono ?_
      rintro e w8 ⟨a2, b2, c2, rfl, r8, ow8⟩
      have bw8 := box_only (bw7) ow8 (by omega)
      have tw8 := (tw7).trans ow8
      have lr8 := r8.lt
      have ls8 := tw8.size_le
      have lbw8 := bw8.lt
      clear ow8
      go_wp2_with fail
      refine (l4Whole_any w8 g ((k + 15 + 1) + 4) r8 (by omega)).mono ?_
      rintro e w9 ⟨a3, b3, c3, rfl, r9, ow9⟩
      have bw9 := box_only (bw8) ow9 (by omega)
      have tw9 := (tw8).trans ow9
      have lr9 := r9.lt
      have ls9 := tw9.size_le
      have lbw9 := bw9.lt
      clear ow9
      clear bw8 r8 tw8
      go_wp2_with fail
      refine (l4Whole_any w9 g ((k + 15 + 1) + 4 + 5) r9 (by omega)).mono ?_
      rintro e w10 ⟨a4, b4, c4, rfl, r10, ow10⟩
      have bw10 := box_only (bw9) ow10 (by omega)
      have tw10 := (tw9).trans ow10
      have lr10 := r10.lt
      have ls10 := tw10.size_le
      have lbw10 := bw10.lt
      clear ow10
      clear bw9 r9 tw9
      go_wp2_with fail
      refine (har _).mono ?_
      rintro e wz ⟨rfl, hz9⟩
      have bwz : Box wz w.heap.size #[.int .i64 0, .slice none 0 0] 31 := by rw [hz9]; exact bw10.alloc _
      have blz : Box wz w10.heap.size #[.int .i64 a2, .int .i64 b2, .int .i64 c2, .int .i64 a3, .int .i64 b3, .int .i64 c3, .int .i64 a4, .int .i64 b4, .int .i64 c4] 40 := by rw [hz9]; exact Box.new w10 _ _
      have rz : Rd 82 wz g (k + 40) := by rw [hz9]; exact (r10.alloc _).mono (by omega)
      have twz : Only g w wz := by rw [hz9]; exact tw10.alloc _
      have lblz := blz.lt
      have lrz := rz.lt
      have lsz := twz.size_le
      clear hz9 bw10 r10 tw10
      have e0 : wz.cell? ⟨w.heap.size, 0, none⟩ = some (.int .i64 0) := by have := bwz.cell 0; simpa using this
      have e1 : wz.cell? ⟨w.heap.size, 1, none⟩ = some (.slice none 0 0) := by have := bwz.cell 1; simpa using this
      have f0 : wz.frozen? ⟨w.heap.size, 0, none⟩ = false := bwz.free 0
      have f1 : wz.frozen? ⟨w.heap.size, 1, none⟩ = false := bwz.free 1
      have lz := bwz.lt
      have lzr := rz.lt
      have lzs := twz.size_le
      go_wp2
      have bz := (bwz.set 0 (.int .i64 op)).set 1 (.slice (some ⟨w10.heap.size, 0, none⟩) 3 3)
      have by9 := (blz.far (p := ⟨w.heap.size, 0, none⟩) (by simp; omega) (.int .i64 op)).far (p := ⟨w.heap.size, 1, none⟩) (by simp; omega) (.slice (some ⟨w10.heap.size, 0, none⟩) 3 3)
      have d0 := (bz.cell 0).trans (show _ = some (.int .i64 op) by rfl)
      have d1 := (bz.cell 1).trans (show _ = some (.slice (some ⟨w10.heap.size, 0, none⟩) 3 3) by rfl)
      clear bz
      refine bodyPost_ret (v := .agg #[.int .i64 op, .slice (some ⟨w10.heap.size, 0, none⟩) 3 3]) (by simp [results, Tryd.results75, go_sem, d0, d1]) rfl ⟨op, _, 3, 3, [(a2, b2, c2), (a3, b3, c3), (a4, b4, c4)], rfl, ⟨rfl, by omega, by omega, by omega, .inr ⟨_, rfl, by omega, lie_box3_3 by9⟩⟩, ?_, ?_⟩
      · repeat (first | exact rz.mono (by omega) | refine Rd.setCell ?_ (by simp; try omega) _ | refine Rd.alloc ?_ _)
      · repeat (first | exact twz | refine Only.setCell ?_ (by right; simp; try omega) _ | refine Only.alloc ?_ _)
    · have hz2 : (z == 0) = false := beq_eq_false_iff_ne.2 hz
      clear hz
      go_wp2_with fail
      refine (l2Arg_any w7 g (k + 15 + 1) 10 r7 (by omega)).mono ?_
      rintro e w8 ⟨a2, b2, c2, rfl, r8, ow8⟩
      have bw8 := box_only (bw7) ow8 (by omega)
      have tw8 := (tw7).trans ow8
      have lr8 := r8.lt
      have ls8 := tw8.size_le
      have lbw8 := bw8.lt
      clear ow8
      go_wp2_with fail
      refine (l4Real_any w8 g ((k + 15 + 1) + 4) r8 (by omega)).mono ?_
      rintro e w9 ⟨a3, b3, c3, rfl, r9, ow9⟩
      have bw9 := box_only (bw8) ow9 (by omega)
      have tw9 := (tw8).trans ow9
      have lr9 := r9.lt
      have ls9 := tw9.size_le
      have lbw9 := bw9.lt
      clear ow9
      clear bw8 r8 tw8
      go_wp2_with fail
      refine (l4Real_any w9 g ((k + 15 + 1) + 4 + 5) r9 (by omega)).mono ?_
      rintro e w10 ⟨a4, b4, c4, rfl, r10, ow10⟩
      have bw10 := box_only (bw9) ow10 (by omega)
      have tw10 := (tw9).trans ow10
      have lr10 := r10.lt
      have ls10 := tw10.size_le
      have lbw10 := bw10.lt
      clear ow10
      clear bw9 r9 tw9
      go_wp2_with fail
      refine (har _).mono ?_
      rintro e wz ⟨rfl, hz9⟩
      have bwz : Box wz w.heap.size #[.int .i64 0, .slice none 0 0] 31 := by rw [hz9]; exact bw10.alloc _
      have blz : Box wz w10.heap.size #[.int .i64 a2, .int .i64 b2, .int .i64 c2, .int .i64 a3, .int .i64 b3, .int .i64 c3, .int .i64 a4, .int .i64 b4, .int .i64 c4] 40 := by rw [hz9]; exact Box.new w10 _ _
      have rz : Rd 82 wz g (k + 40) := by rw [hz9]; exact (r10.alloc _).mono (by omega)
      have twz : Only g w wz := by rw [hz9]; exact tw10.alloc _
      have lblz := blz.lt
      have lrz := rz.lt
      have lsz := twz.size_le
      clear hz9 bw10 r10 tw10
      have e0 : wz.cell? ⟨w.heap.size, 0, none⟩ = some (.int .i64 0) := by have := bwz.cell 0; simpa using this
      have e1 : wz.cell? ⟨w.heap.size, 1, none⟩ = some (.slice none 0 0) := by have := bwz.cell 1; simpa using this
      have f0 : wz.frozen? ⟨w.heap.size, 0, none⟩ = false := bwz.free 0
      have f1 : wz.frozen? ⟨w.heap.size, 1, none⟩ = false := bwz.free 1
      have lz := bwz.lt
      have lzr := rz.lt
      have lzs := twz.size_le
      go_wp2
      have bz := (bwz.set 0 (.int .i64 op)).set 1 (.slice (some ⟨w10.heap.size, 0, none⟩) 3 3)
      have by9 := (blz.far (p := ⟨w.heap.size, 0, none⟩) (by simp; omega) (.int .i64 op)).far (p := ⟨w.heap.size, 1, none⟩) (by simp; omega) (.slice (some ⟨w10.heap.size, 0, none⟩) 3 3)
      have d0 := (bz.cell 0).trans (show _ = some (.int .i64 op) by rfl)
      have d1 := (bz.cell 1).trans (show _ = some (.slice (some ⟨w10.heap.size, 0, none⟩) 3 3) by rfl)
      clear bz
      refine bodyPost_ret (v := .agg #[.int .i64 op, .slice (some ⟨w10.heap.size, 0, none⟩) 3 3]) (by simp [results, Tryd.results75, go_sem, d0, d1]) rfl ⟨op, _, 3, 3, [(a2, b2, c2), (a3, b3, c3), (a4, b4, c4)], rfl, ⟨rfl, by omega, by omega, by omega, .inr ⟨_, rfl, by omega, lie_box3_3 by9⟩⟩, ?_, ?_⟩
      · repeat (first | exact rz.mono (by omega) | refine Rd.setCell ?_ (by simp; try omega) _ | refine Rd.alloc ?_ _)
      · repeat (first | exact twz | refine Only.setCell ?_ (by right; simp; try omega) _ | refine Only.alloc ?_ _)
theorem l4Coil_any (w : World) (g k : Nat) (h : Rd 82 w g k) (hk : k ≤ 80000) : Calls Tryd.prog 75 #[.pointer (some ⟨g, 0, none⟩)] w (DrewE 40 w g k) := by
  have hlt := h.lt
  have hlit := cells_lit (w.alloc (.cells #[.int .i64 0, .slice none 0 0] 31)) [21, 21, 21, 22, 23, 24, 25, 26, 26, 27, 28, 29, 29, 30, 31, 31, 32, 33, 34, 35, 36, 37] 3 (fun x : Int => 21 ≤ x ∧ x ≤ 37) (by decide)
  rw [show (w.alloc (.cells #[.int .i64 0, .slice none 0 0] 31)).heap.size = w.heap.size + 1 by simp] at hlit
  obtain ⟨x, hx, hn⟩ := num_fix ((w.alloc (.cells #[.int .i64 0, .slice none 0 0] 31)).alloc (.cells (([21, 21, 21, 22, 23, 24, 25, 26, 26, 27, 28, 29, 29, 30, 31, 31, 32, 33, 34, 35, 36, 37] : List Int).map (Value.int .i64)).toArray 3)) g k (w.heap.size + 1) 22 22 (fun x : Int => 21 ≤ x ∧ x ≤ 37) ((h.alloc _).alloc _) (by omega) (by omega) (by omega) (by simp) (by omega) hlit
  clear hlit
  have h3 : x = 21 ∨ x = 22 ∨ x = 23 ∨ x = 24 ∨ x = 25 ∨ x = 26 ∨ x = 27 ∨ x = 28 ∨ x = 29 ∨ x = 30 ∨ x = 31 ∨ x = 32 ∨ x = 33 ∨ x = 34 ∨ x = 35 ∨ x = 36 ∨ x = 37 := by omega
  rcases h3 with rfl | rfl | rfl | rfl | rfl | rfl | rfl | rfl | rfl | rfl | rfl | rfl | rfl | rfl | rfl | rfl | rfl
  · exact l4Coil_21 w g k h hk hn
  · exact l4Coil_22 w g k h hk hn
  · exact l4Coil_23 w g k h hk hn
  · exact l4Coil_24 w g k h hk hn
  · exact l4Coil_25 w g k h hk hn
  · exact l4Coil_26 w g k h hk hn
  · exact l4Coil_27 w g k h hk hn
  · exact l4Coil_28 w g k h hk hn
  · exact l4Coil_29 w g k h hk hn
  · exact l4Coil_30 w g k h hk hn
  · exact l4Coil_calc 31 (by omega) (fun w => arity_s_31 w) w g k h hk hn
  · exact l4Coil_calc 32 (by omega) (fun w => arity_s_32 w) w g k h hk hn
  · exact l4Coil_calc 33 (by omega) (fun w => arity_s_33 w) w g k h hk hn
  · exact l4Coil_calc 34 (by omega) (fun w => arity_s_34 w) w g k h hk hn
  · exact l4Coil_35 w g k h hk hn
  · exact l4Coil_36 w g k h hk hn
  · exact l4Coil_37 w g k h hk hn
end Go.Proofs.YtmlpobecilbknaaDoor
