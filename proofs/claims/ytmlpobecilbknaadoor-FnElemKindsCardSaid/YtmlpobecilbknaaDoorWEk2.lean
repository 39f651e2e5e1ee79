/- The draws of FnElemKinds: contacts. -/
import Derived.Test.YtmlpobecilbknaaDoorRows
import Derived.Test.YtmlpobecilbknaaDoorWEk1
import Derived.WalkKit
import Derived.WalkSpells
import Derived.WalkLawsBesides
import Derived.OpenShut
import Derived.OwnWalk
import Derived.IntWalk
import Derived.Lib.Hide
import Derived.Deep.QuietTactic
import Derived.BigQuiet
namespace Go.Proofs.YtmlpobecilbknaaDoor
open Go.RowKit Bx Rdr
set_option linter.unusedVariables false

/-- what a drawn element's operands are -/
def EArr (w : World) (g : Nat) (a : Option Addr) (n c : Nat) (xs : List ElemP.Arg) : Prop := n = xs.length ∧ n ≤ c ∧ c ≤ 100 ∧ n ≤ 4 ∧ (xs = [] ∨ ∃ b, a = some ⟨b, 0, none⟩ ∧ b ≠ g ∧ Lie w b 0 xs)
def DrewE (d : Nat) (w : World) (g j : Nat) (e : Ending) (w' : World) : Prop :=
  ∃ (op : Int) (a : Option Addr) (n c : Nat) (xs : List ElemP.Arg), e = .returned (.agg #[.int .i64 op, .slice a n c]) ∧ EArr w' g a n c xs ∧ Rd 82 w' g (j + d) ∧ Only g w w'
theorem lie_lit1 (X : World) (h : Nat) (t : TypeId) (a b c : Int) (hh : X.heap.size = h) : Lie (X.alloc (.cells #[.int .i64 a, .int .i64 b, .int .i64 c] t)) h 0 [(a, b, c)] := by
  subst hh
  refine ⟨by simp, fun i x hx => ?_⟩
  have hi : i < 1 := by
    rcases Nat.lt_or_ge i 1 with h | h
    · exact h
    · rw [List.getElem?_eq_none (by simpa using h)] at hx; cases hx
  have hi2 : i = 0 := by omega
  rcases hi2 with rfl <;> (cases hx; simp [World.cell?_alloc_mark])
theorem lie_lit2 (X : World) (h : Nat) (t : TypeId) (a b c p q r : Int) (hh : X.heap.size = h) : Lie (X.alloc (.cells #[.int .i64 a, .int .i64 b, .int .i64 c, .int .i64 p, .int .i64 q, .int .i64 r] t)) h 0 [(a, b, c), (p, q, r)] := by
  subst hh
  refine ⟨by simp, fun i x hx => ?_⟩
  have hi : i < 2 := by
    rcases Nat.lt_or_ge i 2 with h | h
    · exact h
    · rw [List.getElem?_eq_none (by simpa using h)] at hx; cases hx
  have hi2 : i = 0 ∨ i = 1 := by omega
  rcases hi2 with rfl | rfl <;> (cases hx; simp [World.cell?_alloc_mark])
theorem lie_lit3 (X : World) (h : Nat) (t : TypeId) (a b c p q r x y z : Int) (hh : X.heap.size = h) : Lie (X.alloc (.cells #[.int .i64 a, .int .i64 b, .int .i64 c, .int .i64 p, .int .i64 q, .int .i64 r, .int .i64 x, .int .i64 y, .int .i64 z] t)) h 0 [(a, b, c), (p, q, r), (x, y, z)] := by
  subst hh
  refine ⟨by simp, fun i x hx => ?_⟩
  have hi : i < 3 := by
    rcases Nat.lt_or_ge i 3 with h | h
    · exact h
    · rw [List.getElem?_eq_none (by simpa using h)] at hx; cases hx
  have hi2 : i = 0 ∨ i = 1 ∨ i = 2 := by omega
  rcases hi2 with rfl | rfl | rfl <;> (cases hx; simp [World.cell?_alloc_mark])
theorem lie_box2 {X : World} {h : Nat} {t : TypeId} {a b c p q r : Int} (hb : Box X h #[.int .i64 a, .int .i64 b, .int .i64 c, .int .i64 p, .int .i64 q, .int .i64 r] t) : Lie X h 0 [(a, b, c), (p, q, r)] := by
  refine ⟨hb.lt, fun i x hx => ?_⟩
  have hi : i < 2 := by
    rcases Nat.lt_or_ge i 2 with h | h
    · exact h
    · rw [List.getElem?_eq_none (by simpa using h)] at hx; cases hx
  have hi2 : i = 0 ∨ i = 1 := by omega
  rcases hi2 with rfl | rfl <;> (cases hx; exact ⟨hb.cell _, hb.cell _, hb.cell _⟩)
set_option maxRecDepth 100000 in
set_option maxHeartbeats 2000000 in
theorem l4Contact_open0 (w : World) (g k : Nat) (h : Rd 82 w g k) (hk : k ≤ 80000)  (hp : Calls Tryd.prog 66 #[.pointer (some ⟨g, 0, none⟩), .int .i64 8] (w.alloc (.cells #[.int .i64 0, .slice none 0 0] 31)) fun e w1 => e = .returned (.int .i64 0) ∧ Rd 82 w1 g (k + 1) ∧ Only g (w.alloc (.cells #[.int .i64 0, .slice none 0 0] 31)) w1) : Calls Tryd.prog 76 #[.pointer (some ⟨g, 0, none⟩)] w (DrewE 40 w g k) := by
  have hlt := h.lt
  have b0 := Box.new w #[.int .i64 0, .slice none 0 0] 31
  have o0 : Only g w (w.alloc (.cells #[.int .i64 0, .slice none 0 0] 31)) := (Only.refl g w).alloc _
  have HB := Lib.hid (And.intro b0 o0)
  clear b0 o0 h
  go_enter Tryd.func76, Tryd.ntmps76
  go_wp2_with fail
  refine hp.mono ?_
  rintro e w1 ⟨rfl, r1, ow1⟩
  have bw1 := box_only HB.out.1 ow1 (by omega)
  have tw1 := HB.out.2.trans ow1
  clear ow1 hp HB
  go_wp2_with fail
  refine (l4Bit_any w1 g (k + 1) r1 (by omega)).mono ?_
  rintro e w2 ⟨a, b, c, rfl, r2, ow2⟩
  have bw2 := box_only bw1 ow2 (by omega)
  have tw2 := tw1.trans ow2
  clear ow2 bw1 tw1 r1
  have e0 : w2.cell? ⟨w.heap.size, 0, none⟩ = some (.int .i64 0) := by have := bw2.cell 0; simpa using this
  have e1 : w2.cell? ⟨w.heap.size, 1, none⟩ = some (.slice none 0 0) := by have := bw2.cell 1; simpa using this
  have f0 : w2.frozen? ⟨w.heap.size, 0, none⟩ = false := bw2.free 0
  have f1 : w2.frozen? ⟨w.heap.size, 1, none⟩ = false := bw2.free 1
  have lz := bw2.lt
  have lzr := r2.lt
  have lzs := tw2.size_le
  go_wp2
  have bz := ((bw2.set 0 (.int .i64 1)).set 1 (.slice (some ⟨w2.heap.size, 0, none⟩) 1 1)).alloc (.cells #[.int .i64 a, .int .i64 b, .int .i64 c] 40)
  have d0 := bz.cell 0
  have d1 := bz.cell 1
  replace d0 := d0.trans (show _ = some (.int .i64 1) by rfl)
  replace d1 := d1.trans (show _ = some (.slice (some ⟨w2.heap.size, 0, none⟩) 1 1) by rfl)
  clear bz
  refine bodyPost_ret (v := .agg #[.int .i64 1, .slice (some ⟨w2.heap.size, 0, none⟩) 1 1]) (by simp [results, Tryd.results76, go_sem, d0, d1]) rfl ⟨1, _, 1, 1, [(a, b, c)], rfl, ⟨rfl, by omega, by omega, by omega, .inr ⟨_, rfl, by omega, lie_lit1 _ _ _ a b c (by simp)⟩⟩, ?_, ?_⟩
  · repeat (first | exact r2.mono (by omega) | refine Rd.setCell ?_ (by simp; try omega) _ | refine Rd.alloc ?_ _)
  · repeat (first | exact tw2 | refine Only.setCell ?_ (by right; simp; try omega) _ | refine Only.alloc ?_ _)
set_option maxRecDepth 100000 in
set_option maxHeartbeats 2000000 in
theorem l4Contact_open1 (w : World) (g k : Nat) (h : Rd 82 w g k) (hk : k ≤ 80000)  (hp : Calls Tryd.prog 66 #[.pointer (some ⟨g, 0, none⟩), .int .i64 8] (w.alloc (.cells #[.int .i64 0, .slice none 0 0] 31)) fun e w1 => e = .returned (.int .i64 1) ∧ Rd 82 w1 g (k + 1) ∧ Only g (w.alloc (.cells #[.int .i64 0, .slice none 0 0] 31)) w1) : Calls Tryd.prog 76 #[.pointer (some ⟨g, 0, none⟩)] w (DrewE 40 w g k) := by
  have hlt := h.lt
  have b0 := Box.new w #[.int .i64 0, .slice none 0 0] 31
  have o0 : Only g w (w.alloc (.cells #[.int .i64 0, .slice none 0 0] 31)) := (Only.refl g w).alloc _
  have HB := Lib.hid (And.intro b0 o0)
  clear b0 o0 h
  go_enter Tryd.func76, Tryd.ntmps76
  go_wp2_with fail
  refine hp.mono ?_
  rintro e w1 ⟨rfl, r1, ow1⟩
  have bw1 := box_only HB.out.1 ow1 (by omega)
  have tw1 := HB.out.2.trans ow1
  clear ow1 hp HB
  go_wp2_with fail
  refine (l4Bit_any w1 g (k + 1) r1 (by omega)).mono ?_
  rintro e w2 ⟨a, b, c, rfl, r2, ow2⟩
  have bw2 := box_only bw1 ow2 (by omega)
  have tw2 := tw1.trans ow2
  clear ow2 bw1 tw1 r1
  have e0 : w2.cell? ⟨w.heap.size, 0, none⟩ = some (.int .i64 0) := by have := bw2.cell 0; simpa using this
  have e1 : w2.cell? ⟨w.heap.size, 1, none⟩ = some (.slice none 0 0) := by have := bw2.cell 1; simpa using this
  have f0 : w2.frozen? ⟨w.heap.size, 0, none⟩ = false := bw2.free 0
  have f1 : w2.frozen? ⟨w.heap.size, 1, none⟩ = false := bw2.free 1
  have lz := bw2.lt
  have lzr := r2.lt
  have lzs := tw2.size_le
  go_wp2
  have bz := ((bw2.set 0 (.int .i64 1)).set 1 (.slice (some ⟨w2.heap.size, 0, none⟩) 1 1)).alloc (.cells #[.int .i64 a, .int .i64 b, .int .i64 c] 40)
  have d0 := bz.cell 0
  have d1 := bz.cell 1
  replace d0 := d0.trans (show _ = some (.int .i64 1) by rfl)
  replace d1 := d1.trans (show _ = some (.slice (some ⟨w2.heap.size, 0, none⟩) 1 1) by rfl)
  clear bz
  refine bodyPost_ret (v := .agg #[.int .i64 1, .slice (some ⟨w2.heap.size, 0, none⟩) 1 1]) (by simp [results, Tryd.results76, go_sem, d0, d1]) rfl ⟨1, _, 1, 1, [(a, b, c)], rfl, ⟨rfl, by omega, by omega, by omega, .inr ⟨_, rfl, by omega, lie_lit1 _ _ _ a b c (by simp)⟩⟩, ?_, ?_⟩
  · repeat (first | exact r2.mono (by omega) | refine Rd.setCell ?_ (by simp; try omega) _ | refine Rd.alloc ?_ _)
  · repeat (first | exact tw2 | refine Only.setCell ?_ (by right; simp; try omega) _ | refine Only.alloc ?_ _)
set_option maxRecDepth 100000 in
set_option maxHeartbeats 2000000 in
theorem l4Contact_open2 (w : World) (g k : Nat) (h : Rd 82 w g k) (hk : k ≤ 80000)  (hp : Calls Tryd.prog 66 #[.pointer (some ⟨g, 0, none⟩), .int .i64 8] (w.alloc (.cells #[.int .i64 0, .slice none 0 0] 31)) fun e w1 => e = .returned (.int .i64 2) ∧ Rd 82 w1 g (k + 1) ∧ Only g (w.alloc (.cells #[.int .i64 0, .slice none 0 0] 31)) w1) : Calls Tryd.prog 76 #[.pointer (some ⟨g, 0, none⟩)] w (DrewE 40 w g k) := by
  have hlt := h.lt
  have b0 := Box.new w #[.int .i64 0, .slice none 0 0] 31
  have o0 : Only g w (w.alloc (.cells #[.int .i64 0, .slice none 0 0] 31)) := (Only.refl g w).alloc _
  have HB := Lib.hid (And.intro b0 o0)
  clear b0 o0 h
  go_enter Tryd.func76, Tryd.ntmps76
  go_wp2_with fail
  refine hp.mono ?_
  rintro e w1 ⟨rfl, r1, ow1⟩
  have bw1 := box_only HB.out.1 ow1 (by omega)
  have tw1 := HB.out.2.trans ow1
  clear ow1 hp HB
  go_wp2_with fail
  refine (l4Bit_any w1 g (k + 1) r1 (by omega)).mono ?_
  rintro e w2 ⟨a, b, c, rfl, r2, ow2⟩
  have bw2 := box_only bw1 ow2 (by omega)
  have tw2 := tw1.trans ow2
  clear ow2 bw1 tw1 r1
  have e0 : w2.cell? ⟨w.heap.size, 0, none⟩ = some (.int .i64 0) := by have := bw2.cell 0; simpa using this
  have e1 : w2.cell? ⟨w.heap.size, 1, none⟩ = some (.slice none 0 0) := by have := bw2.cell 1; simpa using this
  have f0 : w2.frozen? ⟨w.heap.size, 0, none⟩ = false := bw2.free 0
  have f1 : w2.frozen? ⟨w.heap.size, 1, none⟩ = false := bw2.free 1
  have lz := bw2.lt
  have lzr := r2.lt
  have lzs := tw2.size_le
  go_wp2
  have bz := ((bw2.set 0 (.int .i64 1)).set 1 (.slice (some ⟨w2.heap.size, 0, none⟩) 1 1)).alloc (.cells #[.int .i64 a, .int .i64 b, .int .i64 c] 40)
  have d0 := bz.cell 0
  have d1 := bz.cell 1
  replace d0 := d0.trans (show _ = some (.int .i64 1) by rfl)
  replace d1 := d1.trans (show _ = some (.slice (some ⟨w2.heap.size, 0, none⟩) 1 1) by rfl)
  clear bz
  refine bodyPost_ret (v := .agg #[.int .i64 1, .slice (some ⟨w2.heap.size, 0, none⟩) 1 1]) (by simp [results, Tryd.results76, go_sem, d0, d1]) rfl ⟨1, _, 1, 1, [(a, b, c)], rfl, ⟨rfl, by omega, by omega, by omega, .inr ⟨_, rfl, by omega, lie_lit1 _ _ _ a b c (by simp)⟩⟩, ?_, ?_⟩
  · repeat (first | exact r2.mono (by omega) | refine Rd.setCell ?_ (by simp; try omega) _ | refine Rd.alloc ?_ _)
  · repeat (first | exact tw2 | refine Only.setCell ?_ (by right; simp; try omega) _ | refine Only.alloc ?_ _)
set_option maxRecDepth 100000 in
set_option maxHeartbeats 2000000 in
theorem l4Contact_shut3 (w : World) (g k : Nat) (h : Rd 82 w g k) (hk : k ≤ 80000)  (hp : Calls Tryd.prog 66 #[.pointer (some ⟨g, 0, none⟩), .int .i64 8] (w.alloc (.cells #[.int .i64 0, .slice none 0 0] 31)) fun e w1 => e = .returned (.int .i64 3) ∧ Rd 82 w1 g (k + 1) ∧ Only g (w.alloc (.cells #[.int .i64 0, .slice none 0 0] 31)) w1) : Calls Tryd.prog 76 #[.pointer (some ⟨g, 0, none⟩)] w (DrewE 40 w g k) := by
  have hlt := h.lt
  have b0 := Box.new w #[.int .i64 0, .slice none 0 0] 31
  have o0 : Only g w (w.alloc (.cells #[.int .i64 0, .slice none 0 0] 31)) := (Only.refl g w).alloc _
  have HB := Lib.hid (And.intro b0 o0)
  clear b0 o0 h
  go_enter Tryd.func76, Tryd.ntmps76
  go_wp2_with fail
  refine hp.mono ?_
  rintro e w1 ⟨rfl, r1, ow1⟩
  have bw1 := box_only HB.out.1 ow1 (by omega)
  have tw1 := HB.out.2.trans ow1
  clear ow1 hp HB
  go_wp2_with fail
  refine (l4Bit_any w1 g (k + 1) r1 (by omega)).mono ?_
  rintro e w2 ⟨a, b, c, rfl, r2, ow2⟩
  have bw2 := box_only bw1 ow2 (by omega)
  have tw2 := tw1.trans ow2
  clear ow2 bw1 tw1 r1
  have e0 : w2.cell? ⟨w.heap.size, 0, none⟩ = some (.int .i64 0) := by have := bw2.cell 0; simpa using this
  have e1 : w2.cell? ⟨w.heap.size, 1, none⟩ = some (.slice none 0 0) := by have := bw2.cell 1; simpa using this
  have f0 : w2.frozen? ⟨w.heap.size, 0, none⟩ = false := bw2.free 0
  have f1 : w2.frozen? ⟨w.heap.size, 1, none⟩ = false := bw2.free 1
  have lz := bw2.lt
  have lzr := r2.lt
  have lzs := tw2.size_le
  go_wp2
  have bz := ((bw2.set 0 (.int .i64 2)).set 1 (.slice (some ⟨w2.heap.size, 0, none⟩) 1 1)).alloc (.cells #[.int .i64 a, .int .i64 b, .int .i64 c] 40)
  have d0 := bz.cell 0
  have d1 := bz.cell 1
  replace d0 := d0.trans (show _ = some (.int .i64 2) by rfl)
  replace d1 := d1.trans (show _ = some (.slice (some ⟨w2.heap.size, 0, none⟩) 1 1) by rfl)
  clear bz
  refine bodyPost_ret (v := .agg #[.int .i64 2, .slice (some ⟨w2.heap.size, 0, none⟩) 1 1]) (by simp [results, Tryd.results76, go_sem, d0, d1]) rfl ⟨2, _, 1, 1, [(a, b, c)], rfl, ⟨rfl, by omega, by omega, by omega, .inr ⟨_, rfl, by omega, lie_lit1 _ _ _ a b c (by simp)⟩⟩, ?_, ?_⟩
  · repeat (first | exact r2.mono (by omega) | refine Rd.setCell ?_ (by simp; try omega) _ | refine Rd.alloc ?_ _)
  · repeat (first | exact tw2 | refine Only.setCell ?_ (by right; simp; try omega) _ | refine Only.alloc ?_ _)
set_option maxRecDepth 100000 in
set_option maxHeartbeats 2000000 in
theorem l4Contact_shut4 (w : World) (g k : Nat) (h : Rd 82 w g k) (hk : k ≤ 80000)  (hp : Calls Tryd.prog 66 #[.pointer (some ⟨g, 0, none⟩), .int .i64 8] (w.alloc (.cells #[.int .i64 0, .slice none 0 0] 31)) fun e w1 => e = .returned (.int .i64 4) ∧ Rd 82 w1 g (k + 1) ∧ Only g (w.alloc (.cells #[.int .i64 0, .slice none 0 0] 31)) w1) : Calls Tryd.prog 76 #[.pointer (some ⟨g, 0, none⟩)] w (DrewE 40 w g k) := by
  have hlt := h.lt
  have b0 := Box.new w #[.int .i64 0, .slice none 0 0] 31
  have o0 : Only g w (w.alloc (.cells #[.int .i64 0, .slice none 0 0] 31)) := (Only.refl g w).alloc _
  have HB := Lib.hid (And.intro b0 o0)
  clear b0 o0 h
  go_enter Tryd.func76, Tryd.ntmps76
  go_wp2_with fail
  refine hp.mono ?_
  rintro e w1 ⟨rfl, r1, ow1⟩
  have bw1 := box_only HB.out.1 ow1 (by omega)
  have tw1 := HB.out.2.trans ow1
  clear ow1 hp HB
  go_wp2_with fail
  refine (l4Bit_any w1 g (k + 1) r1 (by omega)).mono ?_
  rintro e w2 ⟨a, b, c, rfl, r2, ow2⟩
  have bw2 := box_only bw1 ow2 (by omega)
  have tw2 := tw1.trans ow2
  clear ow2 bw1 tw1 r1
  have e0 : w2.cell? ⟨w.heap.size, 0, none⟩ = some (.int .i64 0) := by have := bw2.cell 0; simpa using this
  have e1 : w2.cell? ⟨w.heap.size, 1, none⟩ = some (.slice none 0 0) := by have := bw2.cell 1; simpa using this
  have f0 : w2.frozen? ⟨w.heap.size, 0, none⟩ = false := bw2.free 0
  have f1 : w2.frozen? ⟨w.heap.size, 1, none⟩ = false := bw2.free 1
  have lz := bw2.lt
  have lzr := r2.lt
  have lzs := tw2.size_le
  go_wp2
  have bz := ((bw2.set 0 (.int .i64 2)).set 1 (.slice (some ⟨w2.heap.size, 0, none⟩) 1 1)).alloc (.cells #[.int .i64 a, .int .i64 b, .int .i64 c] 40)
  have d0 := bz.cell 0
  have d1 := bz.cell 1
  replace d0 := d0.trans (show _ = some (.int .i64 2) by rfl)
  replace d1 := d1.trans (show _ = some (.slice (some ⟨w2.heap.size, 0, none⟩) 1 1) by rfl)
  clear bz
  refine bodyPost_ret (v := .agg #[.int .i64 2, .slice (some ⟨w2.heap.size, 0, none⟩) 1 1]) (by simp [results, Tryd.results76, go_sem, d0, d1]) rfl ⟨2, _, 1, 1, [(a, b, c)], rfl, ⟨rfl, by omega, by omega, by omega, .inr ⟨_, rfl, by omega, lie_lit1 _ _ _ a b c (by simp)⟩⟩, ?_, ?_⟩
  · repeat (first | exact r2.mono (by omega) | refine Rd.setCell ?_ (by simp; try omega) _ | refine Rd.alloc ?_ _)
  · repeat (first | exact tw2 | refine Only.setCell ?_ (by right; simp; try omega) _ | refine Only.alloc ?_ _)
set_option maxRecDepth 100000 in
set_option maxHeartbeats 2000000 in
theorem l4Contact_edge (w : World) (g k : Nat) (h : Rd 82 w g k) (hk : k ≤ 80000)  (hp : Calls Tryd.prog 66 #[.pointer (some ⟨g, 0, none⟩), .int .i64 8] (w.alloc (.cells #[.int .i64 0, .slice none 0 0] 31)) fun e w1 => e = .returned (.int .i64 5) ∧ Rd 82 w1 g (k + 1) ∧ Only g (w.alloc (.cells #[.int .i64 0, .slice none 0 0] 31)) w1) : Calls Tryd.prog 76 #[.pointer (some ⟨g, 0, none⟩)] w (DrewE 40 w g k) := by
  have hlt := h.lt
  have b0 := Box.new w #[.int .i64 0, .slice none 0 0] 31
  have o0 : Only g w (w.alloc (.cells #[.int .i64 0, .slice none 0 0] 31)) := (Only.refl g w).alloc _
  have HB := Lib.hid (And.intro b0 o0)
  clear b0 o0 h
  go_enter Tryd.func76, Tryd.ntmps76
  go_wp2_with fail
  refine hp.mono ?_
  rintro e w1 ⟨rfl, r1, ow1⟩
  have bw1 := box_only HB.out.1 ow1 (by omega)
  have tw1 := HB.out.2.trans ow1
  clear ow1 hp HB
  go_wp2_with fail
  refine (pick_any w1 g (k + 1) 2 r1 (by omega)).mono ?_
  rintro e w2 ⟨y, rfl, hy0, hy1, _, r2, ow2⟩
  have bw2 := box_only bw1 ow2 (by omega)
  have tw2 := tw1.trans ow2
  clear ow2 bw1 tw1 r1
  go_wp2_with fail
  refine (l4Bit_any w2 g (k + 1 + 1) r2 (by omega)).mono ?_
  rintro e w3 ⟨a, b, c, rfl, r3, ow3⟩
  have bw3 := box_only bw2 ow3 (by omega)
  have tw3 := tw2.trans ow3
  clear ow3 bw2 tw2 r2
  go_wp2_with fail
  refine (l2Arg_any w3 g (k + 1 + 1 + 5) 5 r3 (by omega)).mono ?_
  rintro e w4 ⟨p, q, r, rfl, r4, ow4⟩
  have bw4 := box_only bw3 ow4 (by omega)
  have tw4 := tw3.trans ow4
  clear ow4 bw3 tw3 r3
  have e0 : w4.cell? ⟨w.heap.size, 0, none⟩ = some (.int .i64 0) := by have := bw4.cell 0; simpa using this
  have e1 : w4.cell? ⟨w.heap.size, 1, none⟩ = some (.slice none 0 0) := by have := bw4.cell 1; simpa using this
  have f0 : w4.frozen? ⟨w.heap.size, 0, none⟩ = false := bw4.free 0
  have f1 : w4.frozen? ⟨w.heap.size, 1, none⟩ = false := bw4.free 1
  have lz := bw4.lt
  have lzr := r4.lt
  have lzs := tw4.size_le
  go_wp2
  have bz := ((bw4.set 0 (.int .i64 (3 + y))).set 1 (.slice (some ⟨w4.heap.size, 0, none⟩) 2 2)).alloc (.cells #[.int .i64 a, .int .i64 b, .int .i64 c, .int .i64 p, .int .i64 q, .int .i64 r] 40)
  have d0 := bz.cell 0
  have d1 := bz.cell 1
  replace d0 := d0.trans (show _ = some (.int .i64 (3 + y)) by rfl)
  replace d1 := d1.trans (show _ = some (.slice (some ⟨w4.heap.size, 0, none⟩) 2 2) by rfl)
  clear bz
  refine bodyPost_ret (v := .agg #[.int .i64 (3 + y), .slice (some ⟨w4.heap.size, 0, none⟩) 2 2]) (by simp [results, Tryd.results76, go_sem, d0, d1]) rfl ⟨(3 + y), _, 2, 2, [(a, b, c), (p, q, r)], rfl, ⟨rfl, by omega, by omega, by omega, .inr ⟨_, rfl, by omega, lie_lit2 _ _ _ a b c p q r (by simp)⟩⟩, ?_, ?_⟩
  · repeat (first | exact r4.mono (by omega) | refine Rd.setCell ?_ (by simp; try omega) _ | refine Rd.alloc ?_ _)
  · repeat (first | exact tw4 | refine Only.setCell ?_ (by right; simp; try omega) _ | refine Only.alloc ?_ _)
set_option maxRecDepth 100000 in
set_option maxHeartbeats 2000000 in
theorem l4Contact_cmp (w : World) (g k : Nat) (h : Rd 82 w g k) (hk : k ≤ 80000) (x : Int) (hx : 6 ≤ x) (hp : Calls Tryd.prog 66 #[.pointer (some ⟨g, 0, none⟩), .int .i64 8] (w.alloc (.cells #[.int .i64 0, .slice none 0 0] 31)) fun e w1 => e = .returned (.int .i64 x) ∧ Rd 82 w1 g (k + 1) ∧ Only g (w.alloc (.cells #[.int .i64 0, .slice none 0 0] 31)) w1) : Calls Tryd.prog 76 #[.pointer (some ⟨g, 0, none⟩)] w (DrewE 40 w g k) := by
  have hlt := h.lt
  have b0 := Box.new w #[.int .i64 0, .slice none 0 0] 31
  have o0 : Only g w (w.alloc (.cells #[.int .i64 0, .slice none 0 0] 31)) := (Only.refl g w).alloc _
  have HB := Lib.hid (And.intro b0 o0)
  clear b0 o0 h
  go_enter Tryd.func76, Tryd.ntmps76
  go_wp2_with fail
  refine hp.mono ?_
  rintro e w1 ⟨rfl, r1, ow1⟩
  have bw1 := box_only HB.out.1 ow1 (by omega)
  have tw1 := HB.out.2.trans ow1
  clear ow1 hp HB
  have hx0 : (x == 0) = false := beq_eq_false_iff_ne.2 (by omega)
  have hx1 : (x == 1) = false := beq_eq_false_iff_ne.2 (by omega)
  have hx2 : (x == 2) = false := beq_eq_false_iff_ne.2 (by omega)
  have hx3 : (x == 3) = false := beq_eq_false_iff_ne.2 (by omega)
  have hx4 : (x == 4) = false := beq_eq_false_iff_ne.2 (by omega)
  have hx5 : (x == 5) = false := beq_eq_false_iff_ne.2 (by omega)
  go_wp2_with fail
  refine (l4Whole_any w1 g (k + 1) r1 (by omega)).mono ?_
  rintro e w2 ⟨a, b, c, rfl, r2, ow2⟩
  have bw2 := box_only (bw1) ow2 (by omega)
  have tw2 := (tw1).trans ow2
  have lr2 := r2.lt
  have ls2 := tw2.size_le
  have lbw2 := bw2.lt
  clear ow2
  have ba0 := Box.new w2 #[.int .i64 a, .int .i64 b, .int .i64 c] 40
  clear bw1 r1 tw1
  go_wp2_with fail
  refine (l4Whole_any (w2.alloc (.cells #[.int .i64 a, .int .i64 b, .int .i64 c] 40)) g (k + 1 + 5) (r2.alloc _) (by omega)).mono ?_
  rintro e w3 ⟨p, q, r, rfl, r3, ow3⟩
  have bw3 := box_only (bw2.alloc _) ow3 (by omega)
  have ba3 := box_only (ba0) ow3 (by omega)
  have tw3 := (tw2.alloc _).trans ow3
  have lr3 := r3.lt
  have ls3 := tw3.size_le
  have lbw3 := bw3.lt
  have lba3 := ba3.lt
  clear ow3
  have bb0 := Box.new w3 #[.int .i64 p, .int .i64 q, .int .i64 r] 40
  clear bw2 r2 tw2 ba0
  go_wp2_with fail
  refine (pick_any (w3.alloc (.cells #[.int .i64 p, .int .i64 q, .int .i64 r] 40)) g (k + 1 + 5 + 5) 2 (r3.alloc _) (by omega)).mono ?_
  rintro e w4 ⟨z, rfl, hz0, hz1, _, r4, ow4⟩
  have bw4 := box_only (bw3.alloc _) ow4 (by omega)
  have ba4 := box_only (ba3.alloc _) ow4 (by omega)
  have bb4 := box_only (bb0) ow4 (by omega)
  have tw4 := (tw3.alloc _).trans ow4
  have lr4 := r4.lt
  have ls4 := tw4.size_le
  have lbw4 := bw4.lt
  have lba4 := ba4.lt
  have lbb4 := bb4.lt
  clear ow4
  clear bw3 r3 tw3 ba3 bb0 hz1
  by_cases hz : z = 0
  · subst hz
    go_wp2_with fail
    refine (l4Real_any w4 g (k + 1 + 5 + 5 + 1) r4 (by omega)).mono ?_
    rintro e w5 ⟨a', b', c', rfl, r5, ow5⟩
    have bw5 := box_only (bw4) ow5 (by omega)
    have ba5 := box_only (ba4) ow5 (by omega)
    have bb5 := box_only (bb4) ow5 (by omega)
    have tw5 := (tw4).trans ow5
    have lr5 := r5.lt
    have ls5 := tw5.size_le
    have lbw5 := bw5.lt
    have lba5 := ba5.lt
    have lbb5 := bb5.lt
    clear ow5
    clear bw4 r4 tw4 ba4 bb4
    have m0 : w5.cell? ⟨w2.heap.size, 0, none⟩ = some (.int .i64 a) := by have := ba5.cell 0; simpa using this
    have mf0 : w5.frozen? ⟨w2.heap.size, 0, none⟩ = false := ba5.free 0
    have m1 : w5.cell? ⟨w2.heap.size, 1, none⟩ = some (.int .i64 b) := by have := ba5.cell 1; simpa using this
    have mf1 : w5.frozen? ⟨w2.heap.size, 1, none⟩ = false := ba5.free 1
    have m2 : w5.cell? ⟨w2.heap.size, 2, none⟩ = some (.int .i64 c) := by have := ba5.cell 2; simpa using this
    have mf2 : w5.frozen? ⟨w2.heap.size, 2, none⟩ = false := ba5.free 2
    go_wp2_with fail
    refine (l4Real_any (((w5.setCell ⟨w2.heap.size, 0, none⟩ (.int .i64 a')).setCell ⟨w2.heap.size, 1, none⟩ (.int .i64 b')).setCell ⟨w2.heap.size, 2, none⟩ (.int .i64 c')) g (k + 1 + 5 + 5 + 1 + 5) (((r5.setCell (by simp; omega) _).setCell (by simp; omega) _).setCell (by simp; omega) _) (by omega)).mono ?_
    rintro e w6 ⟨p', q', r', rfl, r6, ow6⟩
    have bw6 := box_only (((bw5.far (p := ⟨w2.heap.size, 0, none⟩) (by simp; omega) _).far (p := ⟨w2.heap.size, 1, none⟩) (by simp; omega) _).far (p := ⟨w2.heap.size, 2, none⟩) (by simp; omega) _) ow6 (by omega)
    have ba6 := box_only (((ba5.set 0 (.int .i64 a')).set 1 (.int .i64 b')).set 2 (.int .i64 c')) ow6 (by omega)
    have bb6 := box_only (((bb5.far (p := ⟨w2.heap.size, 0, none⟩) (by simp; omega) _).far (p := ⟨w2.heap.size, 1, none⟩) (by simp; omega) _).far (p := ⟨w2.heap.size, 2, none⟩) (by simp; omega) _) ow6 (by omega)
    have tw6 := ((((tw5.setCell (.inr (by simp; omega)) _).setCell (.inr (by simp; omega)) _).setCell (.inr (by simp; omega)) _)).trans ow6
    have lr6 := r6.lt
    have ls6 := tw6.size_le
    have lbw6 := bw6.lt
    have lba6 := ba6.lt
    have lbb6 := bb6.lt
    clear ow6
    clear bw5 r5 tw5 ba5 bb5 m0 m1 m2 mf0 mf1 mf2
    have n0 : w6.cell? ⟨w3.heap.size, 0, none⟩ = some (.int .i64 p) := by have := bb6.cell 0; simpa using this
    have nf0 : w6.frozen? ⟨w3.heap.size, 0, none⟩ = false := bb6.free 0
    have n1 : w6.cell? ⟨w3.heap.size, 1, none⟩ = some (.int .i64 q) := by have := bb6.cell 1; simpa using this
    have nf1 : w6.frozen? ⟨w3.heap.size, 1, none⟩ = false := bb6.free 1
    have n2 : w6.cell? ⟨w3.heap.size, 2, none⟩ = some (.int .i64 r) := by have := bb6.cell 2; simpa using this
    have nf2 : w6.frozen? ⟨w3.heap.size, 2, none⟩ = false := bb6.free 2
    go_wp2_with fail
    refine (pick_any (((w6.setCell ⟨w3.heap.size, 0, none⟩ (.int .i64 p')).setCell ⟨w3.heap.size, 1, none⟩ (.int .i64 q')).setCell ⟨w3.heap.size, 2, none⟩ (.int .i64 r')) g (k + 1 + 5 + 5 + 1 + 5 + 5) 4 (((r6.setCell (by simp; omega) _).setCell (by simp; omega) _).setCell (by simp; omega) _) (by omega)).mono ?_
    rintro e w7 ⟨u, rfl, hu0, hu1, _, r7, ow7⟩
    have bw7 := box_only (((bw6.far (p := ⟨w3.heap.size, 0, none⟩) (by simp; omega) _).far (p := ⟨w3.heap.size, 1, none⟩) (by simp; omega) _).far (p := ⟨w3.heap.size, 2, none⟩) (by simp; omega) _) ow7 (by omega)
    have ba7 := box_only (((ba6.far (p := ⟨w3.heap.size, 0, none⟩) (by simp; omega) _).far (p := ⟨w3.heap.size, 1, none⟩) (by simp; omega) _).far (p := ⟨w3.heap.size, 2, none⟩) (by simp; omega) _) ow7 (by omega)
    have bb7 := box_only (((bb6.set 0 (.int .i64 p')).set 1 (.int .i64 q')).set 2 (.int .i64 r')) ow7 (by omega)
    have tw7 := ((((tw6.setCell (.inr (by simp; omega)) _).setCell (.inr (by simp; omega)) _).setCell (.inr (by simp; omega)) _)).trans ow7
    have lr7 := r7.lt
    have ls7 := tw7.size_le
    have lbw7 := bw7.lt
    have lba7 := ba7.lt
    have lbb7 := bb7.lt
    clear ow7
    clear bw6 r6 tw6 ba6 bb6 n0 n1 n2 nf0 nf1 nf2
    clear hu1
    by_cases hu : u = 0
    · subst hu
      have m0 : w7.cell? ⟨w2.heap.size, 0, none⟩ = some (.int .i64 a') := by have := ba7.cell 0; simpa using this
      have mf0 : w7.frozen? ⟨w2.heap.size, 0, none⟩ = false := ba7.free 0
      have m1 : w7.cell? ⟨w2.heap.size, 1, none⟩ = some (.int .i64 b') := by have := ba7.cell 1; simpa using this
      have mf1 : w7.frozen? ⟨w2.heap.size, 1, none⟩ = false := ba7.free 1
      have m2 : w7.cell? ⟨w2.heap.size, 2, none⟩ = some (.int .i64 c') := by have := ba7.cell 2; simpa using this
      have mf2 : w7.frozen? ⟨w2.heap.size, 2, none⟩ = false := ba7.free 2
      have n0 : w7.cell? ⟨w3.heap.size, 0, none⟩ = some (.int .i64 p') := by have := bb7.cell 0; simpa using this
      have nf0 : w7.frozen? ⟨w3.heap.size, 0, none⟩ = false := bb7.free 0
      have n1 : w7.cell? ⟨w3.heap.size, 1, none⟩ = some (.int .i64 q') := by have := bb7.cell 1; simpa using this
      have nf1 : w7.frozen? ⟨w3.heap.size, 1, none⟩ = false := bb7.free 1
      have n2 : w7.cell? ⟨w3.heap.size, 2, none⟩ = some (.int .i64 r') := by have := bb7.cell 2; simpa using this
      have nf2 : w7.frozen? ⟨w3.heap.size, 2, none⟩ = false := bb7.free 2
      go_wp2_with fail
      have bw0 : Box (((w7.setCell ⟨w3.heap.size, 0, none⟩ (.int .i64 a')).setCell ⟨w3.heap.size, 1, none⟩ (.int .i64 b')).setCell ⟨w3.heap.size, 2, none⟩ (.int .i64 c')) w.heap.size #[.int .i64 0, .slice none 0 0] 31 := ((bw7.far (p := ⟨w3.heap.size, 0, none⟩) (by simp; omega) _).far (p := ⟨w3.heap.size, 1, none⟩) (by simp; omega) _).far (p := ⟨w3.heap.size, 2, none⟩) (by simp; omega) _
      have ba0 : Box (((w7.setCell ⟨w3.heap.size, 0, none⟩ (.int .i64 a')).setCell ⟨w3.heap.size, 1, none⟩ (.int .i64 b')).setCell ⟨w3.heap.size, 2, none⟩ (.int .i64 c')) w2.heap.size #[.int .i64 a', .int .i64 b', .int .i64 c'] 40 := ((ba7.far (p := ⟨w3.heap.size, 0, none⟩) (by simp; omega) _).far (p := ⟨w3.heap.size, 1, none⟩) (by simp; omega) _).far (p := ⟨w3.heap.size, 2, none⟩) (by simp; omega) _
      have bb0 : Box (((w7.setCell ⟨w3.heap.size, 0, none⟩ (.int .i64 a')).setCell ⟨w3.heap.size, 1, none⟩ (.int .i64 b')).setCell ⟨w3.heap.size, 2, none⟩ (.int .i64 c')) w3.heap.size #[.int .i64 a', .int .i64 b', .int .i64 c'] 40 := ((bb7.set 0 (.int .i64 a')).set 1 (.int .i64 b')).set 2 (.int .i64 c')
      have r0 : Rd 82 (((w7.setCell ⟨w3.heap.size, 0, none⟩ (.int .i64 a')).setCell ⟨w3.heap.size, 1, none⟩ (.int .i64 b')).setCell ⟨w3.heap.size, 2, none⟩ (.int .i64 c')) g ((k + 1 + 5 + 5 + 1 + 5 + 5) + 1) := (((r7.setCell (by simp; omega) _).setCell (by simp; omega) _).setCell (by simp; omega) _)
      have tw0 : Only g w (((w7.setCell ⟨w3.heap.size, 0, none⟩ (.int .i64 a')).setCell ⟨w3.heap.size, 1, none⟩ (.int .i64 b')).setCell ⟨w3.heap.size, 2, none⟩ (.int .i64 c')) := (((tw7.setCell (.inr (by simp; omega)) _).setCell (.inr (by simp; omega)) _).setCell (.inr (by simp; omega)) _)
      clear m0 mf0 m1 mf1 m2 mf2 n0 nf0 n1 nf1 n2 nf2 bw7 ba7 bb7 r7 tw7
      generalize (((w7.setCell ⟨w3.heap.size, 0, none⟩ (.int .i64 a')).setCell ⟨w3.heap.size, 1, none⟩ (.int .i64 b')).setCell ⟨w3.heap.size, 2, none⟩ (.int .i64 c')) = w0 at bw0 ba0 bb0 r0 tw0 ⊢
      have lgw0 := bw0.lt
      have lga0 := ba0.lt
      have lgb0 := bb0.lt
      have lgr0 := r0.lt
      have hS : ∀ w', Box w' w2.heap.size #[.int .i64 a', .int .i64 b', .int .i64 c'] 40 → Box w' w3.heap.size #[.int .i64 a', .int .i64 b', .int .i64 c'] 40 → (fun w' => w'.cell? ⟨w2.heap.size, 0, none⟩ = some (.int .i64 a') ∧ w'.cell? ⟨w2.heap.size, 1, none⟩ = some (.int .i64 b') ∧ w'.cell? ⟨w2.heap.size, 2, none⟩ = some (.int .i64 c') ∧ w'.cell? ⟨w3.heap.size, 0, none⟩ = some (.int .i64 a') ∧ w'.cell? ⟨w3.heap.size, 1, none⟩ = some (.int .i64 b') ∧ w'.cell? ⟨w3.heap.size, 2, none⟩ = some (.int .i64 c') ∧ Box w' w2.heap.size #[.int .i64 a', .int .i64 b', .int .i64 c'] 40 ∧ Box w' w3.heap.size #[.int .i64 a', .int .i64 b', .int .i64 c'] 40) w' := fun w' h1 h2 => ⟨h1.cell 0, h1.cell 1, h1.cell 2, h2.cell 0, h2.cell 1, h2.cell 2, h1, h2⟩
      have e0 : w0.cell? ⟨w.heap.size, 0, none⟩ = some (.int .i64 0) := by have := bw0.cell 0; simpa using this
      have e1 : w0.cell? ⟨w.heap.size, 1, none⟩ = some (.slice none 0 0) := by have := bw0.cell 1; simpa using this
      have f0 : w0.frozen? ⟨w.heap.size, 0, none⟩ = false := bw0.free 0
      have f1 : w0.frozen? ⟨w.heap.size, 1, none⟩ = false := bw0.free 1
      have lz := bw0.lt
      have lzr := r0.lt
      have lzs := tw0.size_le
      go_region_held3 (fun w' => w'.cell? ⟨w2.heap.size, 0, none⟩ = some (.int .i64 a') ∧ w'.cell? ⟨w2.heap.size, 1, none⟩ = some (.int .i64 b') ∧ w'.cell? ⟨w2.heap.size, 2, none⟩ = some (.int .i64 c') ∧ w'.cell? ⟨w3.heap.size, 0, none⟩ = some (.int .i64 a') ∧ w'.cell? ⟨w3.heap.size, 1, none⟩ = some (.int .i64 b') ∧ w'.cell? ⟨w3.heap.size, 2, none⟩ = some (.int .i64 c') ∧ Box w' w2.heap.size #[.int .i64 a', .int .i64 b', .int .i64 c'] 40 ∧ Box w' w3.heap.size #[.int .i64 a', .int .i64 b', .int .i64 c'] 40)
        (first | assumption | exact hS _ ba0 bb0 | (refine hS _ ?_ ?_ <;> repeat (first | exact ba0 | exact bb0 | exact bA9 | exact bB9 | refine Box.far ?_ (by simp; omega) _ | refine Box.alloc ?_ _)))
        (first | (go_at_call 66; refine (pick_any _ g ((k + 1 + 5 + 5 + 1 + 5 + 5) + 1) 6 (by repeat (first | exact r0 | refine Rd.drew ?_ | refine Rd.alloc ?_ _)) (by omega)).mono ?_; rintro e w9 ⟨y, rfl, hy0, hy1, _, r9, ow9⟩; have bw9 := box_only (by repeat (first | exact bw0 | refine Box.alloc ?_ _) : Box _ w.heap.size #[.int .i64 0, .slice none 0 0] 31) ow9 (by omega); have e90 : w9.cell? ⟨w.heap.size, 0, none⟩ = some (.int .i64 0) := bw9.cell 0; have e91 : w9.cell? ⟨w.heap.size, 1, none⟩ = some (.slice none 0 0) := bw9.cell 1; have f90 : w9.frozen? ⟨w.heap.size, 0, none⟩ = false := bw9.free 0; have f91 : w9.frozen? ⟨w.heap.size, 1, none⟩ = false := bw9.free 1; have lz9 := bw9.lt; have hy2 := hy1 (by omega); obtain ⟨_, _, _, _, _, _, hA, hB⟩ := (by assumption : _ ∧ _ ∧ _ ∧ _ ∧ _ ∧ _ ∧ Box _ w2.heap.size #[.int .i64 a', .int .i64 b', .int .i64 c'] 40 ∧ Box _ w3.heap.size #[.int .i64 a', .int .i64 b', .int .i64 c'] 40); have bA9 := box_only hA ow9 (by omega); have bB9 := box_only hB ow9 (by omega)))
      · have tw9 := tw0.drew.trans ow9
        have lr9 := r9.lt
        have ls9 := tw9.size_le
        clear hS
        go_wp2
        have bz := ((bw9.set 0 (.int .i64 (IntKind.i64.wrap (5 + y)))).set 1 (.slice (some ⟨w9.heap.size, 0, none⟩) 2 2)).alloc (.cells #[.int .i64 a', .int .i64 b', .int .i64 c', .int .i64 a', .int .i64 b', .int .i64 c'] 40)
        have d0 := bz.cell 0
        have d1 := bz.cell 1
        replace d0 := d0.trans (show _ = some (.int .i64 (IntKind.i64.wrap (5 + y))) by rfl)
        replace d1 := d1.trans (show _ = some (.slice (some ⟨w9.heap.size, 0, none⟩) 2 2) by rfl)
        clear bz
        refine bodyPost_ret (v := .agg #[.int .i64 (IntKind.i64.wrap (5 + y)), .slice (some ⟨w9.heap.size, 0, none⟩) 2 2]) (by simp [results, Tryd.results76, go_sem, d0, d1]) rfl ⟨(IntKind.i64.wrap (5 + y)), _, 2, 2, [(a', b', c'), (a', b', c')], rfl, ⟨rfl, by omega, by omega, by omega, .inr ⟨_, rfl, by omega, lie_lit2 _ _ _ a' b' c' a' b' c' (by simp)⟩⟩, ?_, ?_⟩
        · repeat (first | exact r9.mono (by omega) | refine Rd.setCell ?_ (by simp; try omega) _ | refine Rd.alloc ?_ _)
        · repeat (first | exact tw9 | refine Only.setCell ?_ (by right; simp; try omega) _ | refine Only.alloc ?_ _)
      · have bl9 : Box w9 w0.heap.size #[.int .i64 a', .int .i64 b', .int .i64 c', .int .i64 a', .int .i64 b', .int .i64 c'] 40 := box_only (Box.new w0.drew #[.int .i64 a', .int .i64 b', .int .i64 c', .int .i64 a', .int .i64 b', .int .i64 c'] 40) ow9 (by omega)
        have tw9 := (tw0.drew.alloc _).trans ow9
        have lr9 := r9.lt
        have ls9 := tw9.size_le
        have bz := (bw9.set 0 (.int .i64 (IntKind.i64.wrap (5 + y)))).set 1 (.slice (some ⟨w0.heap.size, 0, none⟩) 2 2)
        have by9 := (bl9.far (p := ⟨w.heap.size, 0, none⟩) (by simp; omega) (.int .i64 (IntKind.i64.wrap (5 + y)))).far (p := ⟨w.heap.size, 1, none⟩) (by simp; omega) (.slice (some ⟨w0.heap.size, 0, none⟩) 2 2)
        have d0 := (bz.cell 0).trans (show _ = some (.int .i64 (IntKind.i64.wrap (5 + y))) by rfl)
        have d1 := (bz.cell 1).trans (show _ = some (.slice (some ⟨w0.heap.size, 0, none⟩) 2 2) by rfl)
        clear bz hS
        go_wp2
        refine bodyPost_ret (v := .agg #[.int .i64 (IntKind.i64.wrap (5 + y)), .slice (some ⟨w0.heap.size, 0, none⟩) 2 2]) (by simp [results, Tryd.results76, go_sem, d0, d1]) rfl ⟨(IntKind.i64.wrap (5 + y)), _, 2, 2, [(a', b', c'), (a', b', c')], rfl, ⟨rfl, by omega, by omega, by omega, .inr ⟨_, rfl, by omega, lie_box2 by9⟩⟩, ?_, ?_⟩
        · repeat (first | exact r9.mono (by omega) | refine Rd.setCell ?_ (by simp; try omega) _ | refine Rd.alloc ?_ _)
        · repeat (first | exact tw9 | refine Only.setCell ?_ (by right; simp; try omega) _ | refine Only.alloc ?_ _)
    · have hu2 : (u == 0) = false := beq_eq_false_iff_ne.2 hu
      clear hu
      go_wp2_with fail
      have lgw7 := bw7.lt
      have lga7 := ba7.lt
      have lgb7 := bb7.lt
      have lgr7 := r7.lt
      have hS : ∀ w', Box w' w2.heap.size #[.int .i64 a', .int .i64 b', .int .i64 c'] 40 → Box w' w3.heap.size #[.int .i64 p', .int .i64 q', .int .i64 r'] 40 → (fun w' => w'.cell? ⟨w2.heap.size, 0, none⟩ = some (.int .i64 a') ∧ w'.cell? ⟨w2.heap.size, 1, none⟩ = some (.int .i64 b') ∧ w'.cell? ⟨w2.heap.size, 2, none⟩ = some (.int .i64 c') ∧ w'.cell? ⟨w3.heap.size, 0, none⟩ = some (.int .i64 p') ∧ w'.cell? ⟨w3.heap.size, 1, none⟩ = some (.int .i64 q') ∧ w'.cell? ⟨w3.heap.size, 2, none⟩ = some (.int .i64 r') ∧ Box w' w2.heap.size #[.int .i64 a', .int .i64 b', .int .i64 c'] 40 ∧ Box w' w3.heap.size #[.int .i64 p', .int .i64 q', .int .i64 r'] 40) w' := fun w' h1 h2 => ⟨h1.cell 0, h1.cell 1, h1.cell 2, h2.cell 0, h2.cell 1, h2.cell 2, h1, h2⟩
      have e0 : w7.cell? ⟨w.heap.size, 0, none⟩ = some (.int .i64 0) := by have := bw7.cell 0; simpa using this
      have e1 : w7.cell? ⟨w.heap.size, 1, none⟩ = some (.slice none 0 0) := by have := bw7.cell 1; simpa using this
      have f0 : w7.frozen? ⟨w.heap.size, 0, none⟩ = false := bw7.free 0
      have f1 : w7.frozen? ⟨w.heap.size, 1, none⟩ = false := bw7.free 1
      have lz := bw7.lt
      have lzr := r7.lt
      have lzs := tw7.size_le
      go_region_held3 (fun w' => w'.cell? ⟨w2.heap.size, 0, none⟩ = some (.int .i64 a') ∧ w'.cell? ⟨w2.heap.size, 1, none⟩ = some (.int .i64 b') ∧ w'.cell? ⟨w2.heap.size, 2, none⟩ = some (.int .i64 c') ∧ w'.cell? ⟨w3.heap.size, 0, none⟩ = some (.int .i64 p') ∧ w'.cell? ⟨w3.heap.size, 1, none⟩ = some (.int .i64 q') ∧ w'.cell? ⟨w3.heap.size, 2, none⟩ = some (.int .i64 r') ∧ Box w' w2.heap.size #[.int .i64 a', .int .i64 b', .int .i64 c'] 40 ∧ Box w' w3.heap.size #[.int .i64 p', .int .i64 q', .int .i64 r'] 40)
        (first | assumption | exact hS _ ba7 bb7 | (refine hS _ ?_ ?_ <;> repeat (first | exact ba7 | exact bb7 | exact bA9 | exact bB9 | refine Box.far ?_ (by simp; omega) _ | refine Box.alloc ?_ _)))
        (first | (go_at_call 66; refine (pick_any _ g ((k + 1 + 5 + 5 + 1 + 5 + 5) + 1) 6 (by repeat (first | exact r7 | refine Rd.drew ?_ | refine Rd.alloc ?_ _)) (by omega)).mono ?_; rintro e w9 ⟨y, rfl, hy0, hy1, _, r9, ow9⟩; have bw9 := box_only (by repeat (first | exact bw7 | refine Box.alloc ?_ _) : Box _ w.heap.size #[.int .i64 0, .slice none 0 0] 31) ow9 (by omega); have e90 : w9.cell? ⟨w.heap.size, 0, none⟩ = some (.int .i64 0) := bw9.cell 0; have e91 : w9.cell? ⟨w.heap.size, 1, none⟩ = some (.slice none 0 0) := bw9.cell 1; have f90 : w9.frozen? ⟨w.heap.size, 0, none⟩ = false := bw9.free 0; have f91 : w9.frozen? ⟨w.heap.size, 1, none⟩ = false := bw9.free 1; have lz9 := bw9.lt; have hy2 := hy1 (by omega); obtain ⟨_, _, _, _, _, _, hA, hB⟩ := (by assumption : _ ∧ _ ∧ _ ∧ _ ∧ _ ∧ _ ∧ Box _ w2.heap.size #[.int .i64 a', .int .i64 b', .int .i64 c'] 40 ∧ Box _ w3.heap.size #[.int .i64 p', .int .i64 q', .int .i64 r'] 40); have bA9 := box_only hA ow9 (by omega); have bB9 := box_only hB ow9 (by omega)))
      · have tw9 := tw7.drew.trans ow9
        have lr9 := r9.lt
        have ls9 := tw9.size_le
        clear hS
        go_wp2
        have bz := ((bw9.set 0 (.int .i64 (IntKind.i64.wrap (5 + y)))).set 1 (.slice (some ⟨w9.heap.size, 0, none⟩) 2 2)).alloc (.cells #[.int .i64 a', .int .i64 b', .int .i64 c', .int .i64 p', .int .i64 q', .int .i64 r'] 40)
        have d0 := bz.cell 0
        have d1 := bz.cell 1
        replace d0 := d0.trans (show _ = some (.int .i64 (IntKind.i64.wrap (5 + y))) by rfl)
        replace d1 := d1.trans (show _ = some (.slice (some ⟨w9.heap.size, 0, none⟩) 2 2) by rfl)
        clear bz
        refine bodyPost_ret (v := .agg #[.int .i64 (IntKind.i64.wrap (5 + y)), .slice (some ⟨w9.heap.size, 0, none⟩) 2 2]) (by simp [results, Tryd.results76, go_sem, d0, d1]) rfl ⟨(IntKind.i64.wrap (5 + y)), _, 2, 2, [(a', b', c'), (p', q', r')], rfl, ⟨rfl, by omega, by omega, by omega, .inr ⟨_, rfl, by omega, lie_lit2 _ _ _ a' b' c' p' q' r' (by simp)⟩⟩, ?_, ?_⟩
        · repeat (first | exact r9.mono (by omega) | refine Rd.setCell ?_ (by simp; try omega) _ | refine Rd.alloc ?_ _)
        · repeat (first | exact tw9 | refine Only.setCell ?_ (by right; simp; try omega) _ | refine Only.alloc ?_ _)
      · have bl9 : Box w9 w7.heap.size #[.int .i64 a', .int .i64 b', .int .i64 c', .int .i64 p', .int .i64 q', .int .i64 r'] 40 := box_only (Box.new w7.drew #[.int .i64 a', .int .i64 b', .int .i64 c', .int .i64 p', .int .i64 q', .int .i64 r'] 40) ow9 (by omega)
        have tw9 := (tw7.drew.alloc _).trans ow9
        have lr9 := r9.lt
        have ls9 := tw9.size_le
        have bz := (bw9.set 0 (.int .i64 (IntKind.i64.wrap (5 + y)))).set 1 (.slice (some ⟨w7.heap.size, 0, none⟩) 2 2)
        have by9 := (bl9.far (p := ⟨w.heap.size, 0, none⟩) (by simp; omega) (.int .i64 (IntKind.i64.wrap (5 + y)))).far (p := ⟨w.heap.size, 1, none⟩) (by simp; omega) (.slice (some ⟨w7.heap.size, 0, none⟩) 2 2)
        have d0 := (bz.cell 0).trans (show _ = some (.int .i64 (IntKind.i64.wrap (5 + y))) by rfl)
        have d1 := (bz.cell 1).trans (show _ = some (.slice (some ⟨w7.heap.size, 0, none⟩) 2 2) by rfl)
        clear bz hS
        go_wp2
        refine bodyPost_ret (v := .agg #[.int .i64 (IntKind.i64.wrap (5 + y)), .slice (some ⟨w7.heap.size, 0, none⟩) 2 2]) (by simp [results, Tryd.results76, go_sem, d0, d1]) rfl ⟨(IntKind.i64.wrap (5 + y)), _, 2, 2, [(a', b', c'), (p', q', r')], rfl, ⟨rfl, by omega, by omega, by omega, .inr ⟨_, rfl, by omega, lie_box2 by9⟩⟩, ?_, ?_⟩
        · repeat (first | exact r9.mono (by omega) | refine Rd.setCell ?_ (by simp; try omega) _ | refine Rd.alloc ?_ _)
        · repeat (first | exact tw9 | refine Only.setCell ?_ (by right; simp; try omega) _ | refine Only.alloc ?_ _)
  · have hz2 : (z == 0) = false := beq_eq_false_iff_ne.2 hz
    clear hz
    go_wp2_with fail
    refine (pick_any w4 g (k + 1 + 5 + 5 + 1) 4 r4 (by omega)).mono ?_
    rintro e w5 ⟨u, rfl, hu0, hu1, _, r5, ow5⟩
    have bw5 := box_only (bw4) ow5 (by omega)
    have ba5 := box_only (ba4) ow5 (by omega)
    have bb5 := box_only (bb4) ow5 (by omega)
    have tw5 := (tw4).trans ow5
    have lr5 := r5.lt
    have ls5 := tw5.size_le
    have lbw5 := bw5.lt
    have lba5 := ba5.lt
    have lbb5 := bb5.lt
    clear ow5
    clear r4 tw4 bw4 ba4 bb4 hu1
    by_cases hu : u = 0
    · subst hu
      have m0 : w5.cell? ⟨w2.heap.size, 0, none⟩ = some (.int .i64 a) := by have := ba5.cell 0; simpa using this
      have mf0 : w5.frozen? ⟨w2.heap.size, 0, none⟩ = false := ba5.free 0
      have m1 : w5.cell? ⟨w2.heap.size, 1, none⟩ = some (.int .i64 b) := by have := ba5.cell 1; simpa using this
      have mf1 : w5.frozen? ⟨w2.heap.size, 1, none⟩ = false := ba5.free 1
      have m2 : w5.cell? ⟨w2.heap.size, 2, none⟩ = some (.int .i64 c) := by have := ba5.cell 2; simpa using this
      have mf2 : w5.frozen? ⟨w2.heap.size, 2, none⟩ = false := ba5.free 2
      have n0 : w5.cell? ⟨w3.heap.size, 0, none⟩ = some (.int .i64 p) := by have := bb5.cell 0; simpa using this
      have nf0 : w5.frozen? ⟨w3.heap.size, 0, none⟩ = false := bb5.free 0
      have n1 : w5.cell? ⟨w3.heap.size, 1, none⟩ = some (.int .i64 q) := by have := bb5.cell 1; simpa using this
      have nf1 : w5.frozen? ⟨w3.heap.size, 1, none⟩ = false := bb5.free 1
      have n2 : w5.cell? ⟨w3.heap.size, 2, none⟩ = some (.int .i64 r) := by have := bb5.cell 2; simpa using this
      have nf2 : w5.frozen? ⟨w3.heap.size, 2, none⟩ = false := bb5.free 2
      go_wp2_with fail
      have bw0 : Box (((w5.setCell ⟨w3.heap.size, 0, none⟩ (.int .i64 a)).setCell ⟨w3.heap.size, 1, none⟩ (.int .i64 b)).setCell ⟨w3.heap.size, 2, none⟩ (.int .i64 c)) w.heap.size #[.int .i64 0, .slice none 0 0] 31 := ((bw5.far (p := ⟨w3.heap.size, 0, none⟩) (by simp; omega) _).far (p := ⟨w3.heap.size, 1, none⟩) (by simp; omega) _).far (p := ⟨w3.heap.size, 2, none⟩) (by simp; omega) _
      have ba0 : Box (((w5.setCell ⟨w3.heap.size, 0, none⟩ (.int .i64 a)).setCell ⟨w3.heap.size, 1, none⟩ (.int .i64 b)).setCell ⟨w3.heap.size, 2, none⟩ (.int .i64 c)) w2.heap.size #[.int .i64 a, .int .i64 b, .int .i64 c] 40 := ((ba5.far (p := ⟨w3.heap.size, 0, none⟩) (by simp; omega) _).far (p := ⟨w3.heap.size, 1, none⟩) (by simp; omega) _).far (p := ⟨w3.heap.size, 2, none⟩) (by simp; omega) _
      have bb0 : Box (((w5.setCell ⟨w3.heap.size, 0, none⟩ (.int .i64 a)).setCell ⟨w3.heap.size, 1, none⟩ (.int .i64 b)).setCell ⟨w3.heap.size, 2, none⟩ (.int .i64 c)) w3.heap.size #[.int .i64 a, .int .i64 b, .int .i64 c] 40 := ((bb5.set 0 (.int .i64 a)).set 1 (.int .i64 b)).set 2 (.int .i64 c)
      have r0 : Rd 82 (((w5.setCell ⟨w3.heap.size, 0, none⟩ (.int .i64 a)).setCell ⟨w3.heap.size, 1, none⟩ (.int .i64 b)).setCell ⟨w3.heap.size, 2, none⟩ (.int .i64 c)) g ((k + 1 + 5 + 5 + 1) + 1) := (((r5.setCell (by simp; omega) _).setCell (by simp; omega) _).setCell (by simp; omega) _)
      have tw0 : Only g w (((w5.setCell ⟨w3.heap.size, 0, none⟩ (.int .i64 a)).setCell ⟨w3.heap.size, 1, none⟩ (.int .i64 b)).setCell ⟨w3.heap.size, 2, none⟩ (.int .i64 c)) := (((tw5.setCell (.inr (by simp; omega)) _).setCell (.inr (by simp; omega)) _).setCell (.inr (by simp; omega)) _)
      clear m0 mf0 m1 mf1 m2 mf2 n0 nf0 n1 nf1 n2 nf2 bw5 ba5 bb5 r5 tw5
      generalize (((w5.setCell ⟨w3.heap.size, 0, none⟩ (.int .i64 a)).setCell ⟨w3.heap.size, 1, none⟩ (.int .i64 b)).setCell ⟨w3.heap.size, 2, none⟩ (.int .i64 c)) = w0 at bw0 ba0 bb0 r0 tw0 ⊢
      have lgw0 := bw0.lt
      have lga0 := ba0.lt
      have lgb0 := bb0.lt
      have lgr0 := r0.lt
      have hS : ∀ w', Box w' w2.heap.size #[.int .i64 a, .int .i64 b, .int .i64 c] 40 → Box w' w3.heap.size #[.int .i64 a, .int .i64 b, .int .i64 c] 40 → (fun w' => w'.cell? ⟨w2.heap.size, 0, none⟩ = some (.int .i64 a) ∧ w'.cell? ⟨w2.heap.size, 1, none⟩ = some (.int .i64 b) ∧ w'.cell? ⟨w2.heap.size, 2, none⟩ = some (.int .i64 c) ∧ w'.cell? ⟨w3.heap.size, 0, none⟩ = some (.int .i64 a) ∧ w'.cell? ⟨w3.heap.size, 1, none⟩ = some (.int .i64 b) ∧ w'.cell? ⟨w3.heap.size, 2, none⟩ = some (.int .i64 c) ∧ Box w' w2.heap.size #[.int .i64 a, .int .i64 b, .int .i64 c] 40 ∧ Box w' w3.heap.size #[.int .i64 a, .int .i64 b, .int .i64 c] 40) w' := fun w' h1 h2 => ⟨h1.cell 0, h1.cell 1, h1.cell 2, h2.cell 0, h2.cell 1, h2.cell 2, h1, h2⟩
      have e0 : w0.cell? ⟨w.heap.size, 0, none⟩ = some (.int .i64 0) := by have := bw0.cell 0; simpa using this
      have e1 : w0.cell? ⟨w.heap.size, 1, none⟩ = some (.slice none 0 0) := by have := bw0.cell 1; simpa using this
      have f0 : w0.frozen? ⟨w.heap.size, 0, none⟩ = false := bw0.free 0
      have f1 : w0.frozen? ⟨w.heap.size, 1, none⟩ = false := bw0.free 1
      have lz := bw0.lt
      have lzr := r0.lt
      have lzs := tw0.size_le
      go_region_held3 (fun w' => w'.cell? ⟨w2.heap.size, 0, none⟩ = some (.int .i64 a) ∧ w'.cell? ⟨w2.heap.size, 1, none⟩ = some (.int .i64 b) ∧ w'.cell? ⟨w2.heap.size, 2, none⟩ = some (.int .i64 c) ∧ w'.cell? ⟨w3.heap.size, 0, none⟩ = some (.int .i64 a) ∧ w'.cell? ⟨w3.heap.size, 1, none⟩ = some (.int .i64 b) ∧ w'.cell? ⟨w3.heap.size, 2, none⟩ = some (.int .i64 c) ∧ Box w' w2.heap.size #[.int .i64 a, .int .i64 b, .int .i64 c] 40 ∧ Box w' w3.heap.size #[.int .i64 a, .int .i64 b, .int .i64 c] 40)
        (first | assumption | exact hS _ ba0 bb0 | (refine hS _ ?_ ?_ <;> repeat (first | exact ba0 | exact bb0 | exact bA9 | exact bB9 | refine Box.far ?_ (by simp; omega) _ | refine Box.alloc ?_ _)))
        (first | (go_at_call 66; refine (pick_any _ g ((k + 1 + 5 + 5 + 1) + 1) 6 (by repeat (first | exact r0 | refine Rd.drew ?_ | refine Rd.alloc ?_ _)) (by omega)).mono ?_; rintro e w9 ⟨y, rfl, hy0, hy1, _, r9, ow9⟩; have bw9 := box_only (by repeat (first | exact bw0 | refine Box.alloc ?_ _) : Box _ w.heap.size #[.int .i64 0, .slice none 0 0] 31) ow9 (by omega); have e90 : w9.cell? ⟨w.heap.size, 0, none⟩ = some (.int .i64 0) := bw9.cell 0; have e91 : w9.cell? ⟨w.heap.size, 1, none⟩ = some (.slice none 0 0) := bw9.cell 1; have f90 : w9.frozen? ⟨w.heap.size, 0, none⟩ = false := bw9.free 0; have f91 : w9.frozen? ⟨w.heap.size, 1, none⟩ = false := bw9.free 1; have lz9 := bw9.lt; have hy2 := hy1 (by omega); obtain ⟨_, _, _, _, _, _, hA, hB⟩ := (by assumption : _ ∧ _ ∧ _ ∧ _ ∧ _ ∧ _ ∧ Box _ w2.heap.size #[.int .i64 a, .int .i64 b, .int .i64 c] 40 ∧ Box _ w3.heap.size #[.int .i64 a, .int .i64 b, .int .i64 c] 40); have bA9 := box_only hA ow9 (by omega); have bB9 := box_only hB ow9 (by omega)))
      · have tw9 := tw0.drew.trans ow9
        have lr9 := r9.lt
        have ls9 := tw9.size_le
        clear hS
        go_wp2
        have bz := ((bw9.set 0 (.int .i64 (IntKind.i64.wrap (5 + y)))).set 1 (.slice (some ⟨w9.heap.size, 0, none⟩) 2 2)).alloc (.cells #[.int .i64 a, .int .i64 b, .int .i64 c, .int .i64 a, .int .i64 b, .int .i64 c] 40)
        have d0 := bz.cell 0
        have d1 := bz.cell 1
        replace d0 := d0.trans (show _ = some (.int .i64 (IntKind.i64.wrap (5 + y))) by rfl)
        replace d1 := d1.trans (show _ = some (.slice (some ⟨w9.heap.size, 0, none⟩) 2 2) by rfl)
        clear bz
        refine bodyPost_ret (v := .agg #[.int .i64 (IntKind.i64.wrap (5 + y)), .slice (some ⟨w9.heap.size, 0, none⟩) 2 2]) (by simp [results, Tryd.results76, go_sem, d0, d1]) rfl ⟨(IntKind.i64.wrap (5 + y)), _, 2, 2, [(a, b, c), (a, b, c)], rfl, ⟨rfl, by omega, by omega, by omega, .inr ⟨_, rfl, by omega, lie_lit2 _ _ _ a b c a b c (by simp)⟩⟩, ?_, ?_⟩
        · repeat (first | exact r9.mono (by omega) | refine Rd.setCell ?_ (by simp; try omega) _ | refine Rd.alloc ?_ _)
        · repeat (first | exact tw9 | refine Only.setCell ?_ (by right; simp; try omega) _ | refine Only.alloc ?_ _)
      · have bl9 : Box w9 w0.heap.size #[.int .i64 a, .int .i64 b, .int .i64 c, .int .i64 a, .int .i64 b, .int .i64 c] 40 := box_only (Box.new w0.drew #[.int .i64 a, .int .i64 b, .int .i64 c, .int .i64 a, .int .i64 b, .int .i64 c] 40) ow9 (by omega)
        have tw9 := (tw0.drew.alloc _).trans ow9
        have lr9 := r9.lt
        have ls9 := tw9.size_le
        have bz := (bw9.set 0 (.int .i64 (IntKind.i64.wrap (5 + y)))).set 1 (.slice (some ⟨w0.heap.size, 0, none⟩) 2 2)
        have by9 := (bl9.far (p := ⟨w.heap.size, 0, none⟩) (by simp; omega) (.int .i64 (IntKind.i64.wrap (5 + y)))).far (p := ⟨w.heap.size, 1, none⟩) (by simp; omega) (.slice (some ⟨w0.heap.size, 0, none⟩) 2 2)
        have d0 := (bz.cell 0).trans (show _ = some (.int .i64 (IntKind.i64.wrap (5 + y))) by rfl)
        have d1 := (bz.cell 1).trans (show _ = some (.slice (some ⟨w0.heap.size, 0, none⟩) 2 2) by rfl)
        clear bz hS
        go_wp2
        refine bodyPost_ret (v := .agg #[.int .i64 (IntKind.i64.wrap (5 + y)), .slice (some ⟨w0.heap.size, 0, none⟩) 2 2]) (by simp [results, Tryd.results76, go_sem, d0, d1]) rfl ⟨(IntKind.i64.wrap (5 + y)), _, 2, 2, [(a, b, c), (a, b, c)], rfl, ⟨rfl, by omega, by omega, by omega, .inr ⟨_, rfl, by omega, lie_box2 by9⟩⟩, ?_, ?_⟩
        · repeat (first | exact r9.mono (by omega) | refine Rd.setCell ?_ (by simp; try omega) _ | refine Rd.alloc ?_ _)
        · repeat (first | exact tw9 | refine Only.setCell ?_ (by right; simp; try omega) _ | refine Only.alloc ?_ _)
    · have hu2 : (u == 0) = false := beq_eq_false_iff_ne.2 hu
      clear hu
      go_wp2_with fail
      have lgw5 := bw5.lt
      have lga5 := ba5.lt
      have lgb5 := bb5.lt
      have lgr5 := r5.lt
      have hS : ∀ w', Box w' w2.heap.size #[.int .i64 a, .int .i64 b, .int .i64 c] 40 → Box w' w3.heap.size #[.int .i64 p, .int .i64 q, .int .i64 r] 40 → (fun w' => w'.cell? ⟨w2.heap.size, 0, none⟩ = some (.int .i64 a) ∧ w'.cell? ⟨w2.heap.size, 1, none⟩ = some (.int .i64 b) ∧ w'.cell? ⟨w2.heap.size, 2, none⟩ = some (.int .i64 c) ∧ w'.cell? ⟨w3.heap.size, 0, none⟩ = some (.int .i64 p) ∧ w'.cell? ⟨w3.heap.size, 1, none⟩ = some (.int .i64 q) ∧ w'.cell? ⟨w3.heap.size, 2, none⟩ = some (.int .i64 r) ∧ Box w' w2.heap.size #[.int .i64 a, .int .i64 b, .int .i64 c] 40 ∧ Box w' w3.heap.size #[.int .i64 p, .int .i64 q, .int .i64 r] 40) w' := fun w' h1 h2 => ⟨h1.cell 0, h1.cell 1, h1.cell 2, h2.cell 0, h2.cell 1, h2.cell 2, h1, h2⟩
      have e0 : w5.cell? ⟨w.heap.size, 0, none⟩ = some (.int .i64 0) := by have := bw5.cell 0; simpa using this
      have e1 : w5.cell? ⟨w.heap.size, 1, none⟩ = some (.slice none 0 0) := by have := bw5.cell 1; simpa using this
      have f0 : w5.frozen? ⟨w.heap.size, 0, none⟩ = false := bw5.free 0
      have f1 : w5.frozen? ⟨w.heap.size, 1, none⟩ = false := bw5.free 1
      have lz := bw5.lt
      have lzr := r5.lt
      have lzs := tw5.size_le
      go_region_held3 (fun w' => w'.cell? ⟨w2.heap.size, 0, none⟩ = some (.int .i64 a) ∧ w'.cell? ⟨w2.heap.size, 1, none⟩ = some (.int .i64 b) ∧ w'.cell? ⟨w2.heap.size, 2, none⟩ = some (.int .i64 c) ∧ w'.cell? ⟨w3.heap.size, 0, none⟩ = some (.int .i64 p) ∧ w'.cell? ⟨w3.heap.size, 1, none⟩ = some (.int .i64 q) ∧ w'.cell? ⟨w3.heap.size, 2, none⟩ = some (.int .i64 r) ∧ Box w' w2.heap.size #[.int .i64 a, .int .i64 b, .int .i64 c] 40 ∧ Box w' w3.heap.size #[.int .i64 p, .int .i64 q, .int .i64 r] 40)
        (first | assumption | exact hS _ ba5 bb5 | (refine hS _ ?_ ?_ <;> repeat (first | exact ba5 | exact bb5 | exact bA9 | exact bB9 | refine Box.far ?_ (by simp; omega) _ | refine Box.alloc ?_ _)))
        (first | (go_at_call 66; refine (pick_any _ g ((k + 1 + 5 + 5 + 1) + 1) 6 (by repeat (first | exact r5 | refine Rd.drew ?_ | refine Rd.alloc ?_ _)) (by omega)).mono ?_; rintro e w9 ⟨y, rfl, hy0, hy1, _, r9, ow9⟩; have bw9 := box_only (by repeat (first | exact bw5 | refine Box.alloc ?_ _) : Box _ w.heap.size #[.int .i64 0, .slice none 0 0] 31) ow9 (by omega); have e90 : w9.cell? ⟨w.heap.size, 0, none⟩ = some (.int .i64 0) := bw9.cell 0; have e91 : w9.cell? ⟨w.heap.size, 1, none⟩ = some (.slice none 0 0) := bw9.cell 1; have f90 : w9.frozen? ⟨w.heap.size, 0, none⟩ = false := bw9.free 0; have f91 : w9.frozen? ⟨w.heap.size, 1, none⟩ = false := bw9.free 1; have lz9 := bw9.lt; have hy2 := hy1 (by omega); obtain ⟨_, _, _, _, _, _, hA, hB⟩ := (by assumption : _ ∧ _ ∧ _ ∧ _ ∧ _ ∧ _ ∧ Box _ w2.heap.size #[.int .i64 a, .int .i64 b, .int .i64 c] 40 ∧ Box _ w3.heap.size #[.int .i64 p, .int .i64 q, .int .i64 r] 40); have bA9 := box_only hA ow9 (by omega); have bB9 := box_only hB ow9 (by omega)))
      · have tw9 := tw5.drew.trans ow9
        have lr9 := r9.lt
        have ls9 := tw9.size_le
        clear hS
        go_wp2
        have bz := ((bw9.set 0 (.int .i64 (IntKind.i64.wrap (5 + y)))).set 1 (.slice (some ⟨w9.heap.size, 0, none⟩) 2 2)).alloc (.cells #[.int .i64 a, .int .i64 b, .int .i64 c, .int .i64 p, .int .i64 q, .int .i64 r] 40)
        have d0 := bz.cell 0
        have d1 := bz.cell 1
        replace d0 := d0.trans (show _ = some (.int .i64 (IntKind.i64.wrap (5 + y))) by rfl)
        replace d1 := d1.trans (show _ = some (.slice (some ⟨w9.heap.size, 0, none⟩) 2 2) by rfl)
        clear bz
        refine bodyPost_ret (v := .agg #[.int .i64 (IntKind.i64.wrap (5 + y)), .slice (some ⟨w9.heap.size, 0, none⟩) 2 2]) (by simp [results, Tryd.results76, go_sem, d0, d1]) rfl ⟨(IntKind.i64.wrap (5 + y)), _, 2, 2, [(a, b, c), (p, q, r)], rfl, ⟨rfl, by omega, by omega, by omega, .inr ⟨_, rfl, by omega, lie_lit2 _ _ _ a b c p q r (by simp)⟩⟩, ?_, ?_⟩
        · repeat (first | exact r9.mono (by omega) | refine Rd.setCell ?_ (by simp; try omega) _ | refine Rd.alloc ?_ _)
        · repeat (first | exact tw9 | refine Only.setCell ?_ (by right; simp; try omega) _ | refine Only.alloc ?_ _)
      · have bl9 : Box w9 w5.heap.size #[.int .i64 a, .int .i64 b, .int .i64 c, .int .i64 p, .int .i64 q, .int .i64 r] 40 := box_only (Box.new w5.drew #[.int .i64 a, .int .i64 b, .int .i64 c, .int .i64 p, .int .i64 q, .int .i64 r] 40) ow9 (by omega)
        have tw9 := (tw5.drew.alloc _).trans ow9
        have lr9 := r9.lt
        have ls9 := tw9.size_le
        have bz := (bw9.set 0 (.int .i64 (IntKind.i64.wrap (5 + y)))).set 1 (.slice (some ⟨w5.heap.size, 0, none⟩) 2 2)
        have by9 := (bl9.far (p := ⟨w.heap.size, 0, none⟩) (by simp; omega) (.int .i64 (IntKind.i64.wrap (5 + y)))).far (p := ⟨w.heap.size, 1, none⟩) (by simp; omega) (.slice (some ⟨w5.heap.size, 0, none⟩) 2 2)
        have d0 := (bz.cell 0).trans (show _ = some (.int .i64 (IntKind.i64.wrap (5 + y))) by rfl)
        have d1 := (bz.cell 1).trans (show _ = some (.slice (some ⟨w5.heap.size, 0, none⟩) 2 2) by rfl)
        clear bz hS
        go_wp2
        refine bodyPost_ret (v := .agg #[.int .i64 (IntKind.i64.wrap (5 + y)), .slice (some ⟨w5.heap.size, 0, none⟩) 2 2]) (by simp [results, Tryd.results76, go_sem, d0, d1]) rfl ⟨(IntKind.i64.wrap (5 + y)), _, 2, 2, [(a, b, c), (p, q, r)], rfl, ⟨rfl, by omega, by omega, by omega, .inr ⟨_, rfl, by omega, lie_box2 by9⟩⟩, ?_, ?_⟩
        · repeat (first | exact r9.mono (by omega) | refine Rd.setCell ?_ (by simp; try omega) _ | refine Rd.alloc ?_ _)
        · repeat (first | exact tw9 | refine Only.setCell ?_ (by right; simp; try omega) _ | refine Only.alloc ?_ _)
theorem l4Contact_any (w : World) (g k : Nat) (h : Rd 82 w g k) (hk : k ≤ 80000) : Calls Tryd.prog 76 #[.pointer (some ⟨g, 0, none⟩)] w (DrewE 40 w g k) := by
  obtain ⟨x, h0, hx, _, hp⟩ := pick_fix (w.alloc (.cells #[.int .i64 0, .slice none 0 0] 31)) g k 8 (h.alloc _) (by omega)
  by_cases h6 : 6 ≤ x
  · exact l4Contact_cmp w g k h hk x h6 hp
  have h3 : x = 0 ∨ x = 1 ∨ x = 2 ∨ x = 3 ∨ x = 4 ∨ x = 5 := by omega
  rcases h3 with rfl | rfl | rfl | rfl | rfl | rfl
  · exact l4Contact_open0 w g k h hk hp
  · exact l4Contact_open1 w g k h hk hp
  · exact l4Contact_open2 w g k h hk hp
  · exact l4Contact_shut3 w g k h hk hp
  · exact l4Contact_shut4 w g k h hk hp
  · exact l4Contact_edge w g k h hk hp
end Go.Proofs.YtmlpobecilbknaaDoor
