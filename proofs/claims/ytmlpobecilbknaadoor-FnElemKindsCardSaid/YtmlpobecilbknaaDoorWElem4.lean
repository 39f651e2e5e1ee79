/- The reference's ElemIsContact. -/
import Derived.Test.YtmlpobecilbknaaDoorRows
import Derived.Test.YtmlpobecilbknaaDoorWElem2
import Derived.WalkKit
import Derived.WalkSpells
import Derived.WalkLawsBesides
import Derived.OpenShut
import Derived.IntWalk
import Derived.Lib.Hide
import Derived.Deep.QuietTactic
import Derived.BigQuiet
import Derived.Deep.RegionHeld3
namespace Go.Proofs.YtmlpobecilbknaaDoor
open Go.RowKit Bx ElemP
set_option linter.unusedVariables false

set_option maxRecDepth 100000 in
set_option maxHeartbeats 1000000 in
theorem kind_any (k n p x y : Int) (w : World) : Calls Tryd.prog 46 #[.agg #[.int .i64 k, .int .i64 n, .int .i64 p], .int .i64 x, .int .i64 y] w fun e w' => e = .returned (.bool (kindA (k, n, p) x y)) ∧ Below w.heap.size w w' := by
  have ho := fun w => devOk_s_any k n p w
  have e1 : kindA (k, n, p) x y = (DevP.ok k n p && (k == x || k == y)) := rfl
  rw [e1]
  clear e1
  generalize DevP.ok k n p = r at ho ⊢
  obtain ⟨u, hu⟩ : ∃ u, (k == x) = u := ⟨_, rfl⟩
  obtain ⟨v, hv⟩ : ∃ v, (k == y) = v := ⟨_, rfl⟩
  rw [hu, hv]
  go_enter Tryd.func46, Tryd.ntmps46
  go_wp2_with fail
  refine (ho _).mono ?_
  rintro e w1 ⟨rfl, hb1⟩
  have b1 := (Box.new w #[.int .i64 k, .int .i64 n, .int .i64 p] 40).kept hb1
  have hB1 : Below w.heap.size w w1 := bel_step (by repeat (first | exact Below.refl _ _ | assumption | refine Below.setCell ?_ (by first | (simp; done) | (simp; omega) | omega) _ | refine Below.alloc ?_ (by first | (simp; done) | (simp; omega) | omega) _ | refine Bx.bel_drewN ?_ _ | refine Below.drew ?_)) hb1 (by simp)
  have c0 : w1.cell? ⟨w.heap.size, 0, none⟩ = some (.int .i64 k) := b1.cell 0
  clear hb1 ho
  cases r with
  | true =>
    cases u with
    | true =>
      go_wp2
      go_ret
      exact ⟨rfl, hB1⟩
    | false =>
      go_wp2
      go_ret
      exact ⟨rfl, hB1⟩
  | false =>
    go_wp2
    go_ret
    exact ⟨rfl, hB1⟩
set_option maxRecDepth 100000 in
set_option maxHeartbeats 1000000 in
theorem contact_s_low (op : Int) (a : Option Addr) (n c : Nat) (h : op < 1) (w : World) : Calls Tryd.prog 16 #[.agg #[.int .i64 op, .slice a n c]] w fun e w' => e = .returned (.bool false) ∧ Below w.heap.size w w' := by
  have d1 : decide (op < 1) = true := by simpa using h
  go_enter Tryd.func16, Tryd.ntmps16
  go_wp2_with fail
  first
    | (go_ret; exact ⟨rfl, by repeat (first | exact Below.refl _ _ | assumption | refine Below.setCell ?_ (by first | (simp; done) | (simp; omega) | omega) _ | refine Below.alloc ?_ (by first | (simp; done) | (simp; omega) | omega) _ | refine Bx.bel_drewN ?_ _ | refine Below.drew ?_)⟩)
    | (have b1 := Box.new w #[.int .i64 op, .slice a n c] 31
       have hB1 : Below w.heap.size w (w.alloc (.cells #[.int .i64 op, .slice a n c] 31)) := by repeat (first | exact Below.refl _ _ | assumption | refine Below.setCell ?_ (by first | (simp; done) | (simp; omega) | omega) _ | refine Below.alloc ?_ (by first | (simp; done) | (simp; omega) | omega) _ | refine Bx.bel_drewN ?_ _ | refine Below.drew ?_)
       generalize w.alloc (.cells #[.int .i64 op, .slice a n c] 31) = W1 at b1 hB1 ⊢
       have e0 : W1.cell? ⟨w.heap.size, 0, none⟩ = some (.int .i64 op) := b1.cell 0
       have e1 : W1.cell? ⟨w.heap.size, 1, none⟩ = some (.slice a n c) := b1.cell 1
       go_quiet (fail)
       go_wp2
       go_ret
       exact ⟨rfl, by first | exact hB1 | exact bel_drewN hB1 _⟩)
set_option maxRecDepth 100000 in
set_option maxHeartbeats 1000000 in
theorem contact_s_high (op : Int) (a : Option Addr) (n c : Nat) (h : 10 < op) (w : World) : Calls Tryd.prog 16 #[.agg #[.int .i64 op, .slice a n c]] w fun e w' => e = .returned (.bool false) ∧ Below w.heap.size w w' := by
  have d1 : decide (op < 1) = false := by simp; omega
  have d2 : decide (10 < op) = true := by simpa using h
  go_enter Tryd.func16, Tryd.ntmps16
  go_wp2_with fail
  first
    | (go_ret; exact ⟨rfl, by repeat (first | exact Below.refl _ _ | assumption | refine Below.setCell ?_ (by first | (simp; done) | (simp; omega) | omega) _ | refine Below.alloc ?_ (by first | (simp; done) | (simp; omega) | omega) _ | refine Bx.bel_drewN ?_ _ | refine Below.drew ?_)⟩)
    | (have b1 := Box.new w #[.int .i64 op, .slice a n c] 31
       have hB1 : Below w.heap.size w (w.alloc (.cells #[.int .i64 op, .slice a n c] 31)) := by repeat (first | exact Below.refl _ _ | assumption | refine Below.setCell ?_ (by first | (simp; done) | (simp; omega) | omega) _ | refine Below.alloc ?_ (by first | (simp; done) | (simp; omega) | omega) _ | refine Bx.bel_drewN ?_ _ | refine Below.drew ?_)
       generalize w.alloc (.cells #[.int .i64 op, .slice a n c] 31) = W1 at b1 hB1 ⊢
       have e0 : W1.cell? ⟨w.heap.size, 0, none⟩ = some (.int .i64 op) := b1.cell 0
       have e1 : W1.cell? ⟨w.heap.size, 1, none⟩ = some (.slice a n c) := b1.cell 1
       go_quiet (fail)
       go_wp2
       go_ret
       exact ⟨rfl, by first | exact hB1 | exact bel_drewN hB1 _⟩)
set_option maxRecDepth 100000 in
set_option maxHeartbeats 1000000 in
theorem contact_s_len (op : Int) (a : Option Addr) (n c : Nat) (h1 : 1 ≤ op) (h2 : op ≤ 10) (hne : n ≠ arity op) (w : World) : Calls Tryd.prog 16 #[.agg #[.int .i64 op, .slice a n c]] w fun e w' => e = .returned (.bool false) ∧ Below w.heap.size w w' := by
  have ha := fun w => arity_s_any op w
  generalize arity op = r at ha hne
  have d1 : decide (op < 1) = false := by simp; omega
  have d2 : decide (10 < op) = false := by simp; omega
  have hn2 : ((n : Int) == (r : Int)) = false := by simp; omega
  have hn3 : (n == r) = false := by simpa using hne
  have hn4 : ¬ (n : Int) = (r : Int) := by omega
  clear h1 h2
  have b1 := Box.new w #[.int .i64 op, .slice a n c] 31
  have hB1 : Below w.heap.size w (w.alloc (.cells #[.int .i64 op, .slice a n c] 31)) := by repeat (first | exact Below.refl _ _ | assumption | refine Below.setCell ?_ (by first | (simp; done) | (simp; omega) | omega) _ | refine Below.alloc ?_ (by first | (simp; done) | (simp; omega) | omega) _ | refine Bx.bel_drewN ?_ _ | refine Below.drew ?_)
  go_enter Tryd.func16, Tryd.ntmps16
  go_wp2_with fail
  generalize w.alloc (.cells #[.int .i64 op, .slice a n c] 31) = W1 at b1 hB1 ⊢
  have e0 : W1.cell? ⟨w.heap.size, 0, none⟩ = some (.int .i64 op) := b1.cell 0
  have e1 : W1.cell? ⟨w.heap.size, 1, none⟩ = some (.slice a n c) := b1.cell 1
  go_quiet ((go_at_call 41; exact Calls.quiet_of_same (ha _)))
  go_wp2
  go_ret
  exact ⟨rfl, bel_drewN hB1 _⟩
set_option maxRecDepth 100000 in
set_option maxHeartbeats 1000000 in
theorem contact_s_1 (k0 n0 p0 : Int) (g c : Nat) (w : World) (hl : Lie w g 0 [(k0, n0, p0)]) (r : Bool) (hr : bitA (k0, n0, p0) = r) : Calls Tryd.prog 16 #[.agg #[.int .i64 1, .slice (some ⟨g, 0, none⟩) 1 c]] w fun e w' => e = .returned (.bool r) ∧ Below w.heap.size w w' := by
  have ha := fun w => arity_s_1 w
  have cr := fun w => devIsBit_s_any k0 n0 p0 w
  rw [show DevP.isBit k0 n0 p0 = r from hr] at cr
  clear hr
  have b1 := Box.new w #[.int .i64 1, .slice (some ⟨g, 0, none⟩) 1 c] 31
  have hB1 : Below w.heap.size w (w.alloc (.cells #[.int .i64 1, .slice (some ⟨g, 0, none⟩) 1 c] 31)) := by repeat (first | exact Below.refl _ _ | assumption | refine Below.setCell ?_ (by first | (simp; done) | (simp; omega) | omega) _ | refine Below.alloc ?_ (by first | (simp; done) | (simp; omega) | omega) _ | refine Bx.bel_drewN ?_ _ | refine Below.drew ?_)
  have hl1 := hl.kept hB1
  clear hl
  go_enter Tryd.func16, Tryd.ntmps16
  go_wp2_with fail
  generalize w.alloc (.cells #[.int .i64 1, .slice (some ⟨g, 0, none⟩) 1 c] 31) = W1 at b1 hB1 hl1 ⊢
  have c0 : W1.cell? ⟨w.heap.size, 0, none⟩ = some (.int .i64 1) := b1.cell 0
  have c1 : W1.cell? ⟨w.heap.size, 1, none⟩ = some (.slice (some ⟨g, 0, none⟩) 1 c) := b1.cell 1
  have q00 : W1.cell? ⟨g, 0, none⟩ = some (.int .i64 k0) := (hl1.at 0 _ rfl).1
  have q01 : W1.cell? ⟨g, 1, none⟩ = some (.int .i64 n0) := (hl1.at 0 _ rfl).2.1
  have q02 : W1.cell? ⟨g, 2, none⟩ = some (.int .i64 p0) := (hl1.at 0 _ rfl).2.2
  go_quiet ((go_at_call 41; exact Calls.quiet_of_same (ha _)))
  have b1 := b1.drewN nq
  have hl1 : Lie (W1.drewN nq) g 0 [(k0, n0, p0)] := hl1
  have hB1 : Below w.heap.size w (W1.drewN nq) := bel_drewN hB1 _
  generalize W1.drewN nq = W2 at b1 hB1 hl1 ⊢
  clear c0 c1 q00 q01 q02 ha
  have c0 : W2.cell? ⟨w.heap.size, 0, none⟩ = some (.int .i64 1) := b1.cell 0
  have c1 : W2.cell? ⟨w.heap.size, 1, none⟩ = some (.slice (some ⟨g, 0, none⟩) 1 c) := b1.cell 1
  have q00 : W2.cell? ⟨g, 0, none⟩ = some (.int .i64 k0) := (hl1.at 0 _ rfl).1
  have q01 : W2.cell? ⟨g, 1, none⟩ = some (.int .i64 n0) := (hl1.at 0 _ rfl).2.1
  have q02 : W2.cell? ⟨g, 2, none⟩ = some (.int .i64 p0) := (hl1.at 0 _ rfl).2.2
  go_wp2_with fail
  refine (cr _).mono ?_
  rintro e v2 ⟨rfl, hb2⟩
  have b2 := b1.kept hb2
  have hl2 := hl1.kept hb2
  have hB2 : Below w.heap.size w v2 := bel_step hB1 hb2 hB1.size
  clear c0 c1 q00 q01 q02
  have c0 : v2.cell? ⟨w.heap.size, 0, none⟩ = some (.int .i64 1) := b2.cell 0
  have c1 : v2.cell? ⟨w.heap.size, 1, none⟩ = some (.slice (some ⟨g, 0, none⟩) 1 c) := b2.cell 1
  have q00 : v2.cell? ⟨g, 0, none⟩ = some (.int .i64 k0) := (hl2.at 0 _ rfl).1
  have q01 : v2.cell? ⟨g, 1, none⟩ = some (.int .i64 n0) := (hl2.at 0 _ rfl).2.1
  have q02 : v2.cell? ⟨g, 2, none⟩ = some (.int .i64 p0) := (hl2.at 0 _ rfl).2.2
  clear hb2
  go_wp2
  go_ret
  exact ⟨rfl, hB2⟩
set_option maxRecDepth 100000 in
set_option maxHeartbeats 1000000 in
theorem contact_s_2 (k0 n0 p0 : Int) (g c : Nat) (w : World) (hl : Lie w g 0 [(k0, n0, p0)]) (r : Bool) (hr : bitA (k0, n0, p0) = r) : Calls Tryd.prog 16 #[.agg #[.int .i64 2, .slice (some ⟨g, 0, none⟩) 1 c]] w fun e w' => e = .returned (.bool r) ∧ Below w.heap.size w w' := by
  have ha := fun w => arity_s_2 w
  have cr := fun w => devIsBit_s_any k0 n0 p0 w
  rw [show DevP.isBit k0 n0 p0 = r from hr] at cr
  clear hr
  have b1 := Box.new w #[.int .i64 2, .slice (some ⟨g, 0, none⟩) 1 c] 31
  have hB1 : Below w.heap.size w (w.alloc (.cells #[.int .i64 2, .slice (some ⟨g, 0, none⟩) 1 c] 31)) := by repeat (first | exact Below.refl _ _ | assumption | refine Below.setCell ?_ (by first | (simp; done) | (simp; omega) | omega) _ | refine Below.alloc ?_ (by first | (simp; done) | (simp; omega) | omega) _ | refine Bx.bel_drewN ?_ _ | refine Below.drew ?_)
  have hl1 := hl.kept hB1
  clear hl
  go_enter Tryd.func16, Tryd.ntmps16
  go_wp2_with fail
  generalize w.alloc (.cells #[.int .i64 2, .slice (some ⟨g, 0, none⟩) 1 c] 31) = W1 at b1 hB1 hl1 ⊢
  have c0 : W1.cell? ⟨w.heap.size, 0, none⟩ = some (.int .i64 2) := b1.cell 0
  have c1 : W1.cell? ⟨w.heap.size, 1, none⟩ = some (.slice (some ⟨g, 0, none⟩) 1 c) := b1.cell 1
  have q00 : W1.cell? ⟨g, 0, none⟩ = some (.int .i64 k0) := (hl1.at 0 _ rfl).1
  have q01 : W1.cell? ⟨g, 1, none⟩ = some (.int .i64 n0) := (hl1.at 0 _ rfl).2.1
  have q02 : W1.cell? ⟨g, 2, none⟩ = some (.int .i64 p0) := (hl1.at 0 _ rfl).2.2
  go_quiet ((go_at_call 41; exact Calls.quiet_of_same (ha _)))
  have b1 := b1.drewN nq
  have hl1 : Lie (W1.drewN nq) g 0 [(k0, n0, p0)] := hl1
  have hB1 : Below w.heap.size w (W1.drewN nq) := bel_drewN hB1 _
  generalize W1.drewN nq = W2 at b1 hB1 hl1 ⊢
  clear c0 c1 q00 q01 q02 ha
  have c0 : W2.cell? ⟨w.heap.size, 0, none⟩ = some (.int .i64 2) := b1.cell 0
  have c1 : W2.cell? ⟨w.heap.size, 1, none⟩ = some (.slice (some ⟨g, 0, none⟩) 1 c) := b1.cell 1
  have q00 : W2.cell? ⟨g, 0, none⟩ = some (.int .i64 k0) := (hl1.at 0 _ rfl).1
  have q01 : W2.cell? ⟨g, 1, none⟩ = some (.int .i64 n0) := (hl1.at 0 _ rfl).2.1
  have q02 : W2.cell? ⟨g, 2, none⟩ = some (.int .i64 p0) := (hl1.at 0 _ rfl).2.2
  go_wp2_with fail
  refine (cr _).mono ?_
  rintro e v2 ⟨rfl, hb2⟩
  have b2 := b1.kept hb2
  have hl2 := hl1.kept hb2
  have hB2 : Below w.heap.size w v2 := bel_step hB1 hb2 hB1.size
  clear c0 c1 q00 q01 q02
  have c0 : v2.cell? ⟨w.heap.size, 0, none⟩ = some (.int .i64 2) := b2.cell 0
  have c1 : v2.cell? ⟨w.heap.size, 1, none⟩ = some (.slice (some ⟨g, 0, none⟩) 1 c) := b2.cell 1
  have q00 : v2.cell? ⟨g, 0, none⟩ = some (.int .i64 k0) := (hl2.at 0 _ rfl).1
  have q01 : v2.cell? ⟨g, 1, none⟩ = some (.int .i64 n0) := (hl2.at 0 _ rfl).2.1
  have q02 : v2.cell? ⟨g, 2, none⟩ = some (.int .i64 p0) := (hl2.at 0 _ rfl).2.2
  clear hb2
  go_wp2
  go_ret
  exact ⟨rfl, hB2⟩
set_option maxRecDepth 100000 in
set_option maxHeartbeats 1000000 in
theorem contact_s_3 (k0 n0 p0 k1 n1 p1 : Int) (g c : Nat) (w : World) (hl : Lie w g 0 [(k0, n0, p0), (k1, n1, p1)]) (r : Bool) (hr : bitA (k0, n0, p0) = r) (s : Bool) (hs : okA (k1, n1, p1) = s) : Calls Tryd.prog 16 #[.agg #[.int .i64 3, .slice (some ⟨g, 0, none⟩) 2 c]] w fun e w' => e = .returned (.bool (r && (s && k1 == 5))) ∧ Below w.heap.size w w' := by
  have ha := fun w => arity_s_3 w
  have cr := fun w => devIsBit_s_any k0 n0 p0 w
  rw [show DevP.isBit k0 n0 p0 = r from hr] at cr
  clear hr
  have cs := fun w => devOk_s_any k1 n1 p1 w
  rw [show DevP.ok k1 n1 p1 = s from hs] at cs
  clear hs
  have b1 := Box.new w #[.int .i64 3, .slice (some ⟨g, 0, none⟩) 2 c] 31
  have hB1 : Below w.heap.size w (w.alloc (.cells #[.int .i64 3, .slice (some ⟨g, 0, none⟩) 2 c] 31)) := by repeat (first | exact Below.refl _ _ | assumption | refine Below.setCell ?_ (by first | (simp; done) | (simp; omega) | omega) _ | refine Below.alloc ?_ (by first | (simp; done) | (simp; omega) | omega) _ | refine Bx.bel_drewN ?_ _ | refine Below.drew ?_)
  have hl1 := hl.kept hB1
  clear hl
  go_enter Tryd.func16, Tryd.ntmps16
  go_wp2_with fail
  generalize w.alloc (.cells #[.int .i64 3, .slice (some ⟨g, 0, none⟩) 2 c] 31) = W1 at b1 hB1 hl1 ⊢
  have c0 : W1.cell? ⟨w.heap.size, 0, none⟩ = some (.int .i64 3) := b1.cell 0
  have c1 : W1.cell? ⟨w.heap.size, 1, none⟩ = some (.slice (some ⟨g, 0, none⟩) 2 c) := b1.cell 1
  have q00 : W1.cell? ⟨g, 0, none⟩ = some (.int .i64 k0) := (hl1.at 0 _ rfl).1
  have q01 : W1.cell? ⟨g, 1, none⟩ = some (.int .i64 n0) := (hl1.at 0 _ rfl).2.1
  have q02 : W1.cell? ⟨g, 2, none⟩ = some (.int .i64 p0) := (hl1.at 0 _ rfl).2.2
  have q10 : W1.cell? ⟨g, 3, none⟩ = some (.int .i64 k1) := (hl1.at 1 _ rfl).1
  have q11 : W1.cell? ⟨g, 4, none⟩ = some (.int .i64 n1) := (hl1.at 1 _ rfl).2.1
  have q12 : W1.cell? ⟨g, 5, none⟩ = some (.int .i64 p1) := (hl1.at 1 _ rfl).2.2
  go_quiet ((go_at_call 41; exact Calls.quiet_of_same (ha _)))
  have b1 := b1.drewN nq
  have hl1 : Lie (W1.drewN nq) g 0 [(k0, n0, p0), (k1, n1, p1)] := hl1
  have hB1 : Below w.heap.size w (W1.drewN nq) := bel_drewN hB1 _
  generalize W1.drewN nq = W2 at b1 hB1 hl1 ⊢
  clear c0 c1 q00 q01 q02 q10 q11 q12 ha
  have c0 : W2.cell? ⟨w.heap.size, 0, none⟩ = some (.int .i64 3) := b1.cell 0
  have c1 : W2.cell? ⟨w.heap.size, 1, none⟩ = some (.slice (some ⟨g, 0, none⟩) 2 c) := b1.cell 1
  have q00 : W2.cell? ⟨g, 0, none⟩ = some (.int .i64 k0) := (hl1.at 0 _ rfl).1
  have q01 : W2.cell? ⟨g, 1, none⟩ = some (.int .i64 n0) := (hl1.at 0 _ rfl).2.1
  have q02 : W2.cell? ⟨g, 2, none⟩ = some (.int .i64 p0) := (hl1.at 0 _ rfl).2.2
  have q10 : W2.cell? ⟨g, 3, none⟩ = some (.int .i64 k1) := (hl1.at 1 _ rfl).1
  have q11 : W2.cell? ⟨g, 4, none⟩ = some (.int .i64 n1) := (hl1.at 1 _ rfl).2.1
  have q12 : W2.cell? ⟨g, 5, none⟩ = some (.int .i64 p1) := (hl1.at 1 _ rfl).2.2
  go_wp2_with fail
  refine (cr _).mono ?_
  rintro e v2 ⟨rfl, hb2⟩
  have b2 := b1.kept hb2
  have hl2 := hl1.kept hb2
  have hB2 : Below w.heap.size w v2 := bel_step hB1 hb2 hB1.size
  clear c0 c1 q00 q01 q02 q10 q11 q12
  have c0 : v2.cell? ⟨w.heap.size, 0, none⟩ = some (.int .i64 3) := b2.cell 0
  have c1 : v2.cell? ⟨w.heap.size, 1, none⟩ = some (.slice (some ⟨g, 0, none⟩) 2 c) := b2.cell 1
  have q00 : v2.cell? ⟨g, 0, none⟩ = some (.int .i64 k0) := (hl2.at 0 _ rfl).1
  have q01 : v2.cell? ⟨g, 1, none⟩ = some (.int .i64 n0) := (hl2.at 0 _ rfl).2.1
  have q02 : v2.cell? ⟨g, 2, none⟩ = some (.int .i64 p0) := (hl2.at 0 _ rfl).2.2
  have q10 : v2.cell? ⟨g, 3, none⟩ = some (.int .i64 k1) := (hl2.at 1 _ rfl).1
  have q11 : v2.cell? ⟨g, 4, none⟩ = some (.int .i64 n1) := (hl2.at 1 _ rfl).2.1
  have q12 : v2.cell? ⟨g, 5, none⟩ = some (.int .i64 p1) := (hl2.at 1 _ rfl).2.2
  clear hb2
  cases r with
  | true =>
    go_wp2_with fail
    refine (cs _).mono ?_
    rintro e v3 ⟨rfl, hb3⟩
    have b3 := b2.kept hb3
    have hl3 := hl2.kept hb3
    have hB3 : Below w.heap.size w v3 := bel_step hB2 hb3 hB2.size
    clear c0 c1 q00 q01 q02 q10 q11 q12
    have c0 : v3.cell? ⟨w.heap.size, 0, none⟩ = some (.int .i64 3) := b3.cell 0
    have c1 : v3.cell? ⟨w.heap.size, 1, none⟩ = some (.slice (some ⟨g, 0, none⟩) 2 c) := b3.cell 1
    have q00 : v3.cell? ⟨g, 0, none⟩ = some (.int .i64 k0) := (hl3.at 0 _ rfl).1
    have q01 : v3.cell? ⟨g, 1, none⟩ = some (.int .i64 n0) := (hl3.at 0 _ rfl).2.1
    have q02 : v3.cell? ⟨g, 2, none⟩ = some (.int .i64 p0) := (hl3.at 0 _ rfl).2.2
    have q10 : v3.cell? ⟨g, 3, none⟩ = some (.int .i64 k1) := (hl3.at 1 _ rfl).1
    have q11 : v3.cell? ⟨g, 4, none⟩ = some (.int .i64 n1) := (hl3.at 1 _ rfl).2.1
    have q12 : v3.cell? ⟨g, 5, none⟩ = some (.int .i64 p1) := (hl3.at 1 _ rfl).2.2
    clear hb3
    cases s with
    | true =>
      go_wp2
      go_ret
      exact ⟨rfl, hB3⟩
    | false =>
      go_wp2
      go_ret
      exact ⟨rfl, hB3⟩
  | false =>
    go_wp2
    go_ret
    exact ⟨rfl, hB2⟩
set_option maxRecDepth 100000 in
set_option maxHeartbeats 1000000 in
theorem contact_s_4 (k0 n0 p0 k1 n1 p1 : Int) (g c : Nat) (w : World) (hl : Lie w g 0 [(k0, n0, p0), (k1, n1, p1)]) (r : Bool) (hr : bitA (k0, n0, p0) = r) (s : Bool) (hs : okA (k1, n1, p1) = s) : Calls Tryd.prog 16 #[.agg #[.int .i64 4, .slice (some ⟨g, 0, none⟩) 2 c]] w fun e w' => e = .returned (.bool (r && (s && k1 == 5))) ∧ Below w.heap.size w w' := by
  have ha := fun w => arity_s_4 w
  have cr := fun w => devIsBit_s_any k0 n0 p0 w
  rw [show DevP.isBit k0 n0 p0 = r from hr] at cr
  clear hr
  have cs := fun w => devOk_s_any k1 n1 p1 w
  rw [show DevP.ok k1 n1 p1 = s from hs] at cs
  clear hs
  have b1 := Box.new w #[.int .i64 4, .slice (some ⟨g, 0, none⟩) 2 c] 31
  have hB1 : Below w.heap.size w (w.alloc (.cells #[.int .i64 4, .slice (some ⟨g, 0, none⟩) 2 c] 31)) := by repeat (first | exact Below.refl _ _ | assumption | refine Below.setCell ?_ (by first | (simp; done) | (simp; omega) | omega) _ | refine Below.alloc ?_ (by first | (simp; done) | (simp; omega) | omega) _ | refine Bx.bel_drewN ?_ _ | refine Below.drew ?_)
  have hl1 := hl.kept hB1
  clear hl
  go_enter Tryd.func16, Tryd.ntmps16
  go_wp2_with fail
  generalize w.alloc (.cells #[.int .i64 4, .slice (some ⟨g, 0, none⟩) 2 c] 31) = W1 at b1 hB1 hl1 ⊢
  have c0 : W1.cell? ⟨w.heap.size, 0, none⟩ = some (.int .i64 4) := b1.cell 0
  have c1 : W1.cell? ⟨w.heap.size, 1, none⟩ = some (.slice (some ⟨g, 0, none⟩) 2 c) := b1.cell 1
  have q00 : W1.cell? ⟨g, 0, none⟩ = some (.int .i64 k0) := (hl1.at 0 _ rfl).1
  have q01 : W1.cell? ⟨g, 1, none⟩ = some (.int .i64 n0) := (hl1.at 0 _ rfl).2.1
  have q02 : W1.cell? ⟨g, 2, none⟩ = some (.int .i64 p0) := (hl1.at 0 _ rfl).2.2
  have q10 : W1.cell? ⟨g, 3, none⟩ = some (.int .i64 k1) := (hl1.at 1 _ rfl).1
  have q11 : W1.cell? ⟨g, 4, none⟩ = some (.int .i64 n1) := (hl1.at 1 _ rfl).2.1
  have q12 : W1.cell? ⟨g, 5, none⟩ = some (.int .i64 p1) := (hl1.at 1 _ rfl).2.2
  go_quiet ((go_at_call 41; exact Calls.quiet_of_same (ha _)))
  have b1 := b1.drewN nq
  have hl1 : Lie (W1.drewN nq) g 0 [(k0, n0, p0), (k1, n1, p1)] := hl1
  have hB1 : Below w.heap.size w (W1.drewN nq) := bel_drewN hB1 _
  generalize W1.drewN nq = W2 at b1 hB1 hl1 ⊢
  clear c0 c1 q00 q01 q02 q10 q11 q12 ha
  have c0 : W2.cell? ⟨w.heap.size, 0, none⟩ = some (.int .i64 4) := b1.cell 0
  have c1 : W2.cell? ⟨w.heap.size, 1, none⟩ = some (.slice (some ⟨g, 0, none⟩) 2 c) := b1.cell 1
  have q00 : W2.cell? ⟨g, 0, none⟩ = some (.int .i64 k0) := (hl1.at 0 _ rfl).1
  have q01 : W2.cell? ⟨g, 1, none⟩ = some (.int .i64 n0) := (hl1.at 0 _ rfl).2.1
  have q02 : W2.cell? ⟨g, 2, none⟩ = some (.int .i64 p0) := (hl1.at 0 _ rfl).2.2
  have q10 : W2.cell? ⟨g, 3, none⟩ = some (.int .i64 k1) := (hl1.at 1 _ rfl).1
  have q11 : W2.cell? ⟨g, 4, none⟩ = some (.int .i64 n1) := (hl1.at 1 _ rfl).2.1
  have q12 : W2.cell? ⟨g, 5, none⟩ = some (.int .i64 p1) := (hl1.at 1 _ rfl).2.2
  go_wp2_with fail
  refine (cr _).mono ?_
  rintro e v2 ⟨rfl, hb2⟩
  have b2 := b1.kept hb2
  have hl2 := hl1.kept hb2
  have hB2 : Below w.heap.size w v2 := bel_step hB1 hb2 hB1.size
  clear c0 c1 q00 q01 q02 q10 q11 q12
  have c0 : v2.cell? ⟨w.heap.size, 0, none⟩ = some (.int .i64 4) := b2.cell 0
  have c1 : v2.cell? ⟨w.heap.size, 1, none⟩ = some (.slice (some ⟨g, 0, none⟩) 2 c) := b2.cell 1
  have q00 : v2.cell? ⟨g, 0, none⟩ = some (.int .i64 k0) := (hl2.at 0 _ rfl).1
  have q01 : v2.cell? ⟨g, 1, none⟩ = some (.int .i64 n0) := (hl2.at 0 _ rfl).2.1
  have q02 : v2.cell? ⟨g, 2, none⟩ = some (.int .i64 p0) := (hl2.at 0 _ rfl).2.2
  have q10 : v2.cell? ⟨g, 3, none⟩ = some (.int .i64 k1) := (hl2.at 1 _ rfl).1
  have q11 : v2.cell? ⟨g, 4, none⟩ = some (.int .i64 n1) := (hl2.at 1 _ rfl).2.1
  have q12 : v2.cell? ⟨g, 5, none⟩ = some (.int .i64 p1) := (hl2.at 1 _ rfl).2.2
  clear hb2
  cases r with
  | true =>
    go_wp2_with fail
    refine (cs _).mono ?_
    rintro e v3 ⟨rfl, hb3⟩
    have b3 := b2.kept hb3
    have hl3 := hl2.kept hb3
    have hB3 : Below w.heap.size w v3 := bel_step hB2 hb3 hB2.size
    clear c0 c1 q00 q01 q02 q10 q11 q12
    have c0 : v3.cell? ⟨w.heap.size, 0, none⟩ = some (.int .i64 4) := b3.cell 0
    have c1 : v3.cell? ⟨w.heap.size, 1, none⟩ = some (.slice (some ⟨g, 0, none⟩) 2 c) := b3.cell 1
    have q00 : v3.cell? ⟨g, 0, none⟩ = some (.int .i64 k0) := (hl3.at 0 _ rfl).1
    have q01 : v3.cell? ⟨g, 1, none⟩ = some (.int .i64 n0) := (hl3.at 0 _ rfl).2.1
    have q02 : v3.cell? ⟨g, 2, none⟩ = some (.int .i64 p0) := (hl3.at 0 _ rfl).2.2
    have q10 : v3.cell? ⟨g, 3, none⟩ = some (.int .i64 k1) := (hl3.at 1 _ rfl).1
    have q11 : v3.cell? ⟨g, 4, none⟩ = some (.int .i64 n1) := (hl3.at 1 _ rfl).2.1
    have q12 : v3.cell? ⟨g, 5, none⟩ = some (.int .i64 p1) := (hl3.at 1 _ rfl).2.2
    clear hb3
    cases s with
    | true =>
      go_wp2
      go_ret
      exact ⟨rfl, hB3⟩
    | false =>
      go_wp2
      go_ret
      exact ⟨rfl, hB3⟩
  | false =>
    go_wp2
    go_ret
    exact ⟨rfl, hB2⟩
set_option maxRecDepth 100000 in
set_option maxHeartbeats 1000000 in
theorem contact_s_5 (k0 n0 p0 k1 n1 p1 : Int) (g c : Nat) (w : World) (hl : Lie w g 0 [(k0, n0, p0), (k1, n1, p1)]) (r : Bool) (hr : wholeA (k0, n0, p0) = r) (s : Bool) (hs : wholeA (k1, n1, p1) = s) (t : Bool) (ht : realA (k0, n0, p0) = t) (u : Bool) (hu : realA (k1, n1, p1) = u) : Calls Tryd.prog 16 #[.agg #[.int .i64 5, .slice (some ⟨g, 0, none⟩) 2 c]] w fun e w' => e = .returned (.bool (r && s || t && u)) ∧ Below w.heap.size w w' := by
  have ha := fun w => arity_s_5 w
  have cr := fun w => devIsWhole_s_any k0 n0 p0 w
  rw [show DevP.isWhole k0 n0 p0 = r from hr] at cr
  clear hr
  have cs := fun w => devIsWhole_s_any k1 n1 p1 w
  rw [show DevP.isWhole k1 n1 p1 = s from hs] at cs
  clear hs
  have ct := fun w => devIsReal_s_any k0 n0 p0 w
  rw [show DevP.isReal k0 n0 p0 = t from ht] at ct
  clear ht
  have cu := fun w => devIsReal_s_any k1 n1 p1 w
  rw [show DevP.isReal k1 n1 p1 = u from hu] at cu
  clear hu
  have b1 := Box.new w #[.int .i64 5, .slice (some ⟨g, 0, none⟩) 2 c] 31
  have hB1 : Below w.heap.size w (w.alloc (.cells #[.int .i64 5, .slice (some ⟨g, 0, none⟩) 2 c] 31)) := by repeat (first | exact Below.refl _ _ | assumption | refine Below.setCell ?_ (by first | (simp; done) | (simp; omega) | omega) _ | refine Below.alloc ?_ (by first | (simp; done) | (simp; omega) | omega) _ | refine Bx.bel_drewN ?_ _ | refine Below.drew ?_)
  have hl1 := hl.kept hB1
  clear hl
  go_enter Tryd.func16, Tryd.ntmps16
  go_wp2_with fail
  generalize w.alloc (.cells #[.int .i64 5, .slice (some ⟨g, 0, none⟩) 2 c] 31) = W1 at b1 hB1 hl1 ⊢
  have c0 : W1.cell? ⟨w.heap.size, 0, none⟩ = some (.int .i64 5) := b1.cell 0
  have c1 : W1.cell? ⟨w.heap.size, 1, none⟩ = some (.slice (some ⟨g, 0, none⟩) 2 c) := b1.cell 1
  have q00 : W1.cell? ⟨g, 0, none⟩ = some (.int .i64 k0) := (hl1.at 0 _ rfl).1
  have q01 : W1.cell? ⟨g, 1, none⟩ = some (.int .i64 n0) := (hl1.at 0 _ rfl).2.1
  have q02 : W1.cell? ⟨g, 2, none⟩ = some (.int .i64 p0) := (hl1.at 0 _ rfl).2.2
  have q10 : W1.cell? ⟨g, 3, none⟩ = some (.int .i64 k1) := (hl1.at 1 _ rfl).1
  have q11 : W1.cell? ⟨g, 4, none⟩ = some (.int .i64 n1) := (hl1.at 1 _ rfl).2.1
  have q12 : W1.cell? ⟨g, 5, none⟩ = some (.int .i64 p1) := (hl1.at 1 _ rfl).2.2
  go_quiet ((go_at_call 41; exact Calls.quiet_of_same (ha _)))
  have b1 := b1.drewN nq
  have hl1 : Lie (W1.drewN nq) g 0 [(k0, n0, p0), (k1, n1, p1)] := hl1
  have hB1 : Below w.heap.size w (W1.drewN nq) := bel_drewN hB1 _
  generalize W1.drewN nq = W2 at b1 hB1 hl1 ⊢
  clear c0 c1 q00 q01 q02 q10 q11 q12 ha
  have c0 : W2.cell? ⟨w.heap.size, 0, none⟩ = some (.int .i64 5) := b1.cell 0
  have c1 : W2.cell? ⟨w.heap.size, 1, none⟩ = some (.slice (some ⟨g, 0, none⟩) 2 c) := b1.cell 1
  have q00 : W2.cell? ⟨g, 0, none⟩ = some (.int .i64 k0) := (hl1.at 0 _ rfl).1
  have q01 : W2.cell? ⟨g, 1, none⟩ = some (.int .i64 n0) := (hl1.at 0 _ rfl).2.1
  have q02 : W2.cell? ⟨g, 2, none⟩ = some (.int .i64 p0) := (hl1.at 0 _ rfl).2.2
  have q10 : W2.cell? ⟨g, 3, none⟩ = some (.int .i64 k1) := (hl1.at 1 _ rfl).1
  have q11 : W2.cell? ⟨g, 4, none⟩ = some (.int .i64 n1) := (hl1.at 1 _ rfl).2.1
  have q12 : W2.cell? ⟨g, 5, none⟩ = some (.int .i64 p1) := (hl1.at 1 _ rfl).2.2
  go_wp2_with fail
  refine (cr _).mono ?_
  rintro e v2 ⟨rfl, hb2⟩
  have b2 := b1.kept hb2
  have hl2 := hl1.kept hb2
  have hB2 : Below w.heap.size w v2 := bel_step hB1 hb2 hB1.size
  clear c0 c1 q00 q01 q02 q10 q11 q12
  have c0 : v2.cell? ⟨w.heap.size, 0, none⟩ = some (.int .i64 5) := b2.cell 0
  have c1 : v2.cell? ⟨w.heap.size, 1, none⟩ = some (.slice (some ⟨g, 0, none⟩) 2 c) := b2.cell 1
  have q00 : v2.cell? ⟨g, 0, none⟩ = some (.int .i64 k0) := (hl2.at 0 _ rfl).1
  have q01 : v2.cell? ⟨g, 1, none⟩ = some (.int .i64 n0) := (hl2.at 0 _ rfl).2.1
  have q02 : v2.cell? ⟨g, 2, none⟩ = some (.int .i64 p0) := (hl2.at 0 _ rfl).2.2
  have q10 : v2.cell? ⟨g, 3, none⟩ = some (.int .i64 k1) := (hl2.at 1 _ rfl).1
  have q11 : v2.cell? ⟨g, 4, none⟩ = some (.int .i64 n1) := (hl2.at 1 _ rfl).2.1
  have q12 : v2.cell? ⟨g, 5, none⟩ = some (.int .i64 p1) := (hl2.at 1 _ rfl).2.2
  clear hb2
  cases r with
  | true =>
    go_wp2_with fail
    refine (cs _).mono ?_
    rintro e v3 ⟨rfl, hb3⟩
    have b3 := b2.kept hb3
    have hl3 := hl2.kept hb3
    have hB3 : Below w.heap.size w v3 := bel_step hB2 hb3 hB2.size
    clear c0 c1 q00 q01 q02 q10 q11 q12
    have c0 : v3.cell? ⟨w.heap.size, 0, none⟩ = some (.int .i64 5) := b3.cell 0
    have c1 : v3.cell? ⟨w.heap.size, 1, none⟩ = some (.slice (some ⟨g, 0, none⟩) 2 c) := b3.cell 1
    have q00 : v3.cell? ⟨g, 0, none⟩ = some (.int .i64 k0) := (hl3.at 0 _ rfl).1
    have q01 : v3.cell? ⟨g, 1, none⟩ = some (.int .i64 n0) := (hl3.at 0 _ rfl).2.1
    have q02 : v3.cell? ⟨g, 2, none⟩ = some (.int .i64 p0) := (hl3.at 0 _ rfl).2.2
    have q10 : v3.cell? ⟨g, 3, none⟩ = some (.int .i64 k1) := (hl3.at 1 _ rfl).1
    have q11 : v3.cell? ⟨g, 4, none⟩ = some (.int .i64 n1) := (hl3.at 1 _ rfl).2.1
    have q12 : v3.cell? ⟨g, 5, none⟩ = some (.int .i64 p1) := (hl3.at 1 _ rfl).2.2
    clear hb3
    cases s with
    | true =>
      go_wp2
      go_ret
      exact ⟨rfl, hB3⟩
    | false =>
      go_wp2_with fail
      refine (ct _).mono ?_
      rintro e v4 ⟨rfl, hb4⟩
      have b4 := b3.kept hb4
      have hl4 := hl3.kept hb4
      have hB4 : Below w.heap.size w v4 := bel_step hB3 hb4 hB3.size
      clear c0 c1 q00 q01 q02 q10 q11 q12
      have c0 : v4.cell? ⟨w.heap.size, 0, none⟩ = some (.int .i64 5) := b4.cell 0
      have c1 : v4.cell? ⟨w.heap.size, 1, none⟩ = some (.slice (some ⟨g, 0, none⟩) 2 c) := b4.cell 1
      have q00 : v4.cell? ⟨g, 0, none⟩ = some (.int .i64 k0) := (hl4.at 0 _ rfl).1
      have q01 : v4.cell? ⟨g, 1, none⟩ = some (.int .i64 n0) := (hl4.at 0 _ rfl).2.1
      have q02 : v4.cell? ⟨g, 2, none⟩ = some (.int .i64 p0) := (hl4.at 0 _ rfl).2.2
      have q10 : v4.cell? ⟨g, 3, none⟩ = some (.int .i64 k1) := (hl4.at 1 _ rfl).1
      have q11 : v4.cell? ⟨g, 4, none⟩ = some (.int .i64 n1) := (hl4.at 1 _ rfl).2.1
      have q12 : v4.cell? ⟨g, 5, none⟩ = some (.int .i64 p1) := (hl4.at 1 _ rfl).2.2
      clear hb4
      cases t with
      | true =>
        go_wp2_with fail
        refine (cu _).mono ?_
        rintro e v5 ⟨rfl, hb5⟩
        have b5 := b4.kept hb5
        have hl5 := hl4.kept hb5
        have hB5 : Below w.heap.size w v5 := bel_step hB4 hb5 hB4.size
        clear c0 c1 q00 q01 q02 q10 q11 q12
        have c0 : v5.cell? ⟨w.heap.size, 0, none⟩ = some (.int .i64 5) := b5.cell 0
        have c1 : v5.cell? ⟨w.heap.size, 1, none⟩ = some (.slice (some ⟨g, 0, none⟩) 2 c) := b5.cell 1
        have q00 : v5.cell? ⟨g, 0, none⟩ = some (.int .i64 k0) := (hl5.at 0 _ rfl).1
        have q01 : v5.cell? ⟨g, 1, none⟩ = some (.int .i64 n0) := (hl5.at 0 _ rfl).2.1
        have q02 : v5.cell? ⟨g, 2, none⟩ = some (.int .i64 p0) := (hl5.at 0 _ rfl).2.2
        have q10 : v5.cell? ⟨g, 3, none⟩ = some (.int .i64 k1) := (hl5.at 1 _ rfl).1
        have q11 : v5.cell? ⟨g, 4, none⟩ = some (.int .i64 n1) := (hl5.at 1 _ rfl).2.1
        have q12 : v5.cell? ⟨g, 5, none⟩ = some (.int .i64 p1) := (hl5.at 1 _ rfl).2.2
        clear hb5
        go_wp2
        go_ret
        exact ⟨rfl, hB5⟩
      | false =>
        go_wp2
        go_ret
        exact ⟨rfl, hB4⟩
  | false =>
    go_wp2_with fail
    refine (ct _).mono ?_
    rintro e v3 ⟨rfl, hb3⟩
    have b3 := b2.kept hb3
    have hl3 := hl2.kept hb3
    have hB3 : Below w.heap.size w v3 := bel_step hB2 hb3 hB2.size
    clear c0 c1 q00 q01 q02 q10 q11 q12
    have c0 : v3.cell? ⟨w.heap.size, 0, none⟩ = some (.int .i64 5) := b3.cell 0
    have c1 : v3.cell? ⟨w.heap.size, 1, none⟩ = some (.slice (some ⟨g, 0, none⟩) 2 c) := b3.cell 1
    have q00 : v3.cell? ⟨g, 0, none⟩ = some (.int .i64 k0) := (hl3.at 0 _ rfl).1
    have q01 : v3.cell? ⟨g, 1, none⟩ = some (.int .i64 n0) := (hl3.at 0 _ rfl).2.1
    have q02 : v3.cell? ⟨g, 2, none⟩ = some (.int .i64 p0) := (hl3.at 0 _ rfl).2.2
    have q10 : v3.cell? ⟨g, 3, none⟩ = some (.int .i64 k1) := (hl3.at 1 _ rfl).1
    have q11 : v3.cell? ⟨g, 4, none⟩ = some (.int .i64 n1) := (hl3.at 1 _ rfl).2.1
    have q12 : v3.cell? ⟨g, 5, none⟩ = some (.int .i64 p1) := (hl3.at 1 _ rfl).2.2
    clear hb3
    cases t with
    | true =>
      go_wp2_with fail
      refine (cu _).mono ?_
      rintro e v4 ⟨rfl, hb4⟩
      have b4 := b3.kept hb4
      have hl4 := hl3.kept hb4
      have hB4 : Below w.heap.size w v4 := bel_step hB3 hb4 hB3.size
      clear c0 c1 q00 q01 q02 q10 q11 q12
      have c0 : v4.cell? ⟨w.heap.size, 0, none⟩ = some (.int .i64 5) := b4.cell 0
      have c1 : v4.cell? ⟨w.heap.size, 1, none⟩ = some (.slice (some ⟨g, 0, none⟩) 2 c) := b4.cell 1
      have q00 : v4.cell? ⟨g, 0, none⟩ = some (.int .i64 k0) := (hl4.at 0 _ rfl).1
      have q01 : v4.cell? ⟨g, 1, none⟩ = some (.int .i64 n0) := (hl4.at 0 _ rfl).2.1
      have q02 : v4.cell? ⟨g, 2, none⟩ = some (.int .i64 p0) := (hl4.at 0 _ rfl).2.2
      have q10 : v4.cell? ⟨g, 3, none⟩ = some (.int .i64 k1) := (hl4.at 1 _ rfl).1
      have q11 : v4.cell? ⟨g, 4, none⟩ = some (.int .i64 n1) := (hl4.at 1 _ rfl).2.1
      have q12 : v4.cell? ⟨g, 5, none⟩ = some (.int .i64 p1) := (hl4.at 1 _ rfl).2.2
      clear hb4
      go_wp2
      go_ret
      exact ⟨rfl, hB4⟩
    | false =>
      go_wp2
      go_ret
      exact ⟨rfl, hB3⟩
set_option maxRecDepth 100000 in
set_option maxHeartbeats 1000000 in
theorem contact_s_6 (k0 n0 p0 k1 n1 p1 : Int) (g c : Nat) (w : World) (hl : Lie w g 0 [(k0, n0, p0), (k1, n1, p1)]) (r : Bool) (hr : wholeA (k0, n0, p0) = r) (s : Bool) (hs : wholeA (k1, n1, p1) = s) (t : Bool) (ht : realA (k0, n0, p0) = t) (u : Bool) (hu : realA (k1, n1, p1) = u) : Calls Tryd.prog 16 #[.agg #[.int .i64 6, .slice (some ⟨g, 0, none⟩) 2 c]] w fun e w' => e = .returned (.bool (r && s || t && u)) ∧ Below w.heap.size w w' := by
  have ha := fun w => arity_s_6 w
  have cr := fun w => devIsWhole_s_any k0 n0 p0 w
  rw [show DevP.isWhole k0 n0 p0 = r from hr] at cr
  clear hr
  have cs := fun w => devIsWhole_s_any k1 n1 p1 w
  rw [show DevP.isWhole k1 n1 p1 = s from hs] at cs
  clear hs
  have ct := fun w => devIsReal_s_any k0 n0 p0 w
  rw [show DevP.isReal k0 n0 p0 = t from ht] at ct
  clear ht
  have cu := fun w => devIsReal_s_any k1 n1 p1 w
  rw [show DevP.isReal k1 n1 p1 = u from hu] at cu
  clear hu
  have b1 := Box.new w #[.int .i64 6, .slice (some ⟨g, 0, none⟩) 2 c] 31
  have hB1 : Below w.heap.size w (w.alloc (.cells #[.int .i64 6, .slice (some ⟨g, 0, none⟩) 2 c] 31)) := by repeat (first | exact Below.refl _ _ | assumption | refine Below.setCell ?_ (by first | (simp; done) | (simp; omega) | omega) _ | refine Below.alloc ?_ (by first | (simp; done) | (simp; omega) | omega) _ | refine Bx.bel_drewN ?_ _ | refine Below.drew ?_)
  have hl1 := hl.kept hB1
  clear hl
  go_enter Tryd.func16, Tryd.ntmps16
  go_wp2_with fail
  generalize w.alloc (.cells #[.int .i64 6, .slice (some ⟨g, 0, none⟩) 2 c] 31) = W1 at b1 hB1 hl1 ⊢
  have c0 : W1.cell? ⟨w.heap.size, 0, none⟩ = some (.int .i64 6) := b1.cell 0
  have c1 : W1.cell? ⟨w.heap.size, 1, none⟩ = some (.slice (some ⟨g, 0, none⟩) 2 c) := b1.cell 1
  have q00 : W1.cell? ⟨g, 0, none⟩ = some (.int .i64 k0) := (hl1.at 0 _ rfl).1
  have q01 : W1.cell? ⟨g, 1, none⟩ = some (.int .i64 n0) := (hl1.at 0 _ rfl).2.1
  have q02 : W1.cell? ⟨g, 2, none⟩ = some (.int .i64 p0) := (hl1.at 0 _ rfl).2.2
  have q10 : W1.cell? ⟨g, 3, none⟩ = some (.int .i64 k1) := (hl1.at 1 _ rfl).1
  have q11 : W1.cell? ⟨g, 4, none⟩ = some (.int .i64 n1) := (hl1.at 1 _ rfl).2.1
  have q12 : W1.cell? ⟨g, 5, none⟩ = some (.int .i64 p1) := (hl1.at 1 _ rfl).2.2
  go_quiet ((go_at_call 41; exact Calls.quiet_of_same (ha _)))
  have b1 := b1.drewN nq
  have hl1 : Lie (W1.drewN nq) g 0 [(k0, n0, p0), (k1, n1, p1)] := hl1
  have hB1 : Below w.heap.size w (W1.drewN nq) := bel_drewN hB1 _
  generalize W1.drewN nq = W2 at b1 hB1 hl1 ⊢
  clear c0 c1 q00 q01 q02 q10 q11 q12 ha
  have c0 : W2.cell? ⟨w.heap.size, 0, none⟩ = some (.int .i64 6) := b1.cell 0
  have c1 : W2.cell? ⟨w.heap.size, 1, none⟩ = some (.slice (some ⟨g, 0, none⟩) 2 c) := b1.cell 1
  have q00 : W2.cell? ⟨g, 0, none⟩ = some (.int .i64 k0) := (hl1.at 0 _ rfl).1
  have q01 : W2.cell? ⟨g, 1, none⟩ = some (.int .i64 n0) := (hl1.at 0 _ rfl).2.1
  have q02 : W2.cell? ⟨g, 2, none⟩ = some (.int .i64 p0) := (hl1.at 0 _ rfl).2.2
  have q10 : W2.cell? ⟨g, 3, none⟩ = some (.int .i64 k1) := (hl1.at 1 _ rfl).1
  have q11 : W2.cell? ⟨g, 4, none⟩ = some (.int .i64 n1) := (hl1.at 1 _ rfl).2.1
  have q12 : W2.cell? ⟨g, 5, none⟩ = some (.int .i64 p1) := (hl1.at 1 _ rfl).2.2
  go_wp2_with fail
  refine (cr _).mono ?_
  rintro e v2 ⟨rfl, hb2⟩
  have b2 := b1.kept hb2
  have hl2 := hl1.kept hb2
  have hB2 : Below w.heap.size w v2 := bel_step hB1 hb2 hB1.size
  clear c0 c1 q00 q01 q02 q10 q11 q12
  have c0 : v2.cell? ⟨w.heap.size, 0, none⟩ = some (.int .i64 6) := b2.cell 0
  have c1 : v2.cell? ⟨w.heap.size, 1, none⟩ = some (.slice (some ⟨g, 0, none⟩) 2 c) := b2.cell 1
  have q00 : v2.cell? ⟨g, 0, none⟩ = some (.int .i64 k0) := (hl2.at 0 _ rfl).1
  have q01 : v2.cell? ⟨g, 1, none⟩ = some (.int .i64 n0) := (hl2.at 0 _ rfl).2.1
  have q02 : v2.cell? ⟨g, 2, none⟩ = some (.int .i64 p0) := (hl2.at 0 _ rfl).2.2
  have q10 : v2.cell? ⟨g, 3, none⟩ = some (.int .i64 k1) := (hl2.at 1 _ rfl).1
  have q11 : v2.cell? ⟨g, 4, none⟩ = some (.int .i64 n1) := (hl2.at 1 _ rfl).2.1
  have q12 : v2.cell? ⟨g, 5, none⟩ = some (.int .i64 p1) := (hl2.at 1 _ rfl).2.2
  clear hb2
  cases r with
  | true =>
    go_wp2_with fail
    refine (cs _).mono ?_
    rintro e v3 ⟨rfl, hb3⟩
    have b3 := b2.kept hb3
    have hl3 := hl2.kept hb3
    have hB3 : Below w.heap.size w v3 := bel_step hB2 hb3 hB2.size
    clear c0 c1 q00 q01 q02 q10 q11 q12
    have c0 : v3.cell? ⟨w.heap.size, 0, none⟩ = some (.int .i64 6) := b3.cell 0
    have c1 : v3.cell? ⟨w.heap.size, 1, none⟩ = some (.slice (some ⟨g, 0, none⟩) 2 c) := b3.cell 1
    have q00 : v3.cell? ⟨g, 0, none⟩ = some (.int .i64 k0) := (hl3.at 0 _ rfl).1
    have q01 : v3.cell? ⟨g, 1, none⟩ = some (.int .i64 n0) := (hl3.at 0 _ rfl).2.1
    have q02 : v3.cell? ⟨g, 2, none⟩ = some (.int .i64 p0) := (hl3.at 0 _ rfl).2.2
    have q10 : v3.cell? ⟨g, 3, none⟩ = some (.int .i64 k1) := (hl3.at 1 _ rfl).1
    have q11 : v3.cell? ⟨g, 4, none⟩ = some (.int .i64 n1) := (hl3.at 1 _ rfl).2.1
    have q12 : v3.cell? ⟨g, 5, none⟩ = some (.int .i64 p1) := (hl3.at 1 _ rfl).2.2
    clear hb3
    cases s with
    | true =>
      go_wp2
      go_ret
      exact ⟨rfl, hB3⟩
    | false =>
      go_wp2_with fail
      refine (ct _).mono ?_
      rintro e v4 ⟨rfl, hb4⟩
      have b4 := b3.kept hb4
      have hl4 := hl3.kept hb4
      have hB4 : Below w.heap.size w v4 := bel_step hB3 hb4 hB3.size
      clear c0 c1 q00 q01 q02 q10 q11 q12
      have c0 : v4.cell? ⟨w.heap.size, 0, none⟩ = some (.int .i64 6) := b4.cell 0
      have c1 : v4.cell? ⟨w.heap.size, 1, none⟩ = some (.slice (some ⟨g, 0, none⟩) 2 c) := b4.cell 1
      have q00 : v4.cell? ⟨g, 0, none⟩ = some (.int .i64 k0) := (hl4.at 0 _ rfl).1
      have q01 : v4.cell? ⟨g, 1, none⟩ = some (.int .i64 n0) := (hl4.at 0 _ rfl).2.1
      have q02 : v4.cell? ⟨g, 2, none⟩ = some (.int .i64 p0) := (hl4.at 0 _ rfl).2.2
      have q10 : v4.cell? ⟨g, 3, none⟩ = some (.int .i64 k1) := (hl4.at 1 _ rfl).1
      have q11 : v4.cell? ⟨g, 4, none⟩ = some (.int .i64 n1) := (hl4.at 1 _ rfl).2.1
      have q12 : v4.cell? ⟨g, 5, none⟩ = some (.int .i64 p1) := (hl4.at 1 _ rfl).2.2
      clear hb4
      cases t with
      | true =>
        go_wp2_with fail
        refine (cu _).mono ?_
        rintro e v5 ⟨rfl, hb5⟩
        have b5 := b4.kept hb5
        have hl5 := hl4.kept hb5
        have hB5 : Below w.heap.size w v5 := bel_step hB4 hb5 hB4.size
        clear c0 c1 q00 q01 q02 q10 q11 q12
        have c0 : v5.cell? ⟨w.heap.size, 0, none⟩ = some (.int .i64 6) := b5.cell 0
        have c1 : v5.cell? ⟨w.heap.size, 1, none⟩ = some (.slice (some ⟨g, 0, none⟩) 2 c) := b5.cell 1
        have q00 : v5.cell? ⟨g, 0, none⟩ = some (.int .i64 k0) := (hl5.at 0 _ rfl).1
        have q01 : v5.cell? ⟨g, 1, none⟩ = some (.int .i64 n0) := (hl5.at 0 _ rfl).2.1
        have q02 : v5.cell? ⟨g, 2, none⟩ = some (.int .i64 p0) := (hl5.at 0 _ rfl).2.2
        have q10 : v5.cell? ⟨g, 3, none⟩ = some (.int .i64 k1) := (hl5.at 1 _ rfl).1
        have q11 : v5.cell? ⟨g, 4, none⟩ = some (.int .i64 n1) := (hl5.at 1 _ rfl).2.1
        have q12 : v5.cell? ⟨g, 5, none⟩ = some (.int .i64 p1) := (hl5.at 1 _ rfl).2.2
        clear hb5
        go_wp2
        go_ret
        exact ⟨rfl, hB5⟩
      | false =>
        go_wp2
        go_ret
        exact ⟨rfl, hB4⟩
  | false =>
    go_wp2_with fail
    refine (ct _).mono ?_
    rintro e v3 ⟨rfl, hb3⟩
    have b3 := b2.kept hb3
    have hl3 := hl2.kept hb3
    have hB3 : Below w.heap.size w v3 := bel_step hB2 hb3 hB2.size
    clear c0 c1 q00 q01 q02 q10 q11 q12
    have c0 : v3.cell? ⟨w.heap.size, 0, none⟩ = some (.int .i64 6) := b3.cell 0
    have c1 : v3.cell? ⟨w.heap.size, 1, none⟩ = some (.slice (some ⟨g, 0, none⟩) 2 c) := b3.cell 1
    have q00 : v3.cell? ⟨g, 0, none⟩ = some (.int .i64 k0) := (hl3.at 0 _ rfl).1
    have q01 : v3.cell? ⟨g, 1, none⟩ = some (.int .i64 n0) := (hl3.at 0 _ rfl).2.1
    have q02 : v3.cell? ⟨g, 2, none⟩ = some (.int .i64 p0) := (hl3.at 0 _ rfl).2.2
    have q10 : v3.cell? ⟨g, 3, none⟩ = some (.int .i64 k1) := (hl3.at 1 _ rfl).1
    have q11 : v3.cell? ⟨g, 4, none⟩ = some (.int .i64 n1) := (hl3.at 1 _ rfl).2.1
    have q12 : v3.cell? ⟨g, 5, none⟩ = some (.int .i64 p1) := (hl3.at 1 _ rfl).2.2
    clear hb3
    cases t with
    | true =>
      go_wp2_with fail
      refine (cu _).mono ?_
      rintro e v4 ⟨rfl, hb4⟩
      have b4 := b3.kept hb4
      have hl4 := hl3.kept hb4
      have hB4 : Below w.heap.size w v4 := bel_step hB3 hb4 hB3.size
      clear c0 c1 q00 q01 q02 q10 q11 q12
      have c0 : v4.cell? ⟨w.heap.size, 0, none⟩ = some (.int .i64 6) := b4.cell 0
      have c1 : v4.cell? ⟨w.heap.size, 1, none⟩ = some (.slice (some ⟨g, 0, none⟩) 2 c) := b4.cell 1
      have q00 : v4.cell? ⟨g, 0, none⟩ = some (.int .i64 k0) := (hl4.at 0 _ rfl).1
      have q01 : v4.cell? ⟨g, 1, none⟩ = some (.int .i64 n0) := (hl4.at 0 _ rfl).2.1
      have q02 : v4.cell? ⟨g, 2, none⟩ = some (.int .i64 p0) := (hl4.at 0 _ rfl).2.2
      have q10 : v4.cell? ⟨g, 3, none⟩ = some (.int .i64 k1) := (hl4.at 1 _ rfl).1
      have q11 : v4.cell? ⟨g, 4, none⟩ = some (.int .i64 n1) := (hl4.at 1 _ rfl).2.1
      have q12 : v4.cell? ⟨g, 5, none⟩ = some (.int .i64 p1) := (hl4.at 1 _ rfl).2.2
      clear hb4
      go_wp2
      go_ret
      exact ⟨rfl, hB4⟩
    | false =>
      go_wp2
      go_ret
      exact ⟨rfl, hB3⟩
set_option maxRecDepth 100000 in
set_option maxHeartbeats 1000000 in
theorem contact_s_7 (k0 n0 p0 k1 n1 p1 : Int) (g c : Nat) (w : World) (hl : Lie w g 0 [(k0, n0, p0), (k1, n1, p1)]) (r : Bool) (hr : wholeA (k0, n0, p0) = r) (s : Bool) (hs : wholeA (k1, n1, p1) = s) (t : Bool) (ht : realA (k0, n0, p0) = t) (u : Bool) (hu : realA (k1, n1, p1) = u) : Calls Tryd.prog 16 #[.agg #[.int .i64 7, .slice (some ⟨g, 0, none⟩) 2 c]] w fun e w' => e = .returned (.bool (r && s || t && u)) ∧ Below w.heap.size w w' := by
  have ha := fun w => arity_s_7 w
  have cr := fun w => devIsWhole_s_any k0 n0 p0 w
  rw [show DevP.isWhole k0 n0 p0 = r from hr] at cr
  clear hr
  have cs := fun w => devIsWhole_s_any k1 n1 p1 w
  rw [show DevP.isWhole k1 n1 p1 = s from hs] at cs
  clear hs
  have ct := fun w => devIsReal_s_any k0 n0 p0 w
  rw [show DevP.isReal k0 n0 p0 = t from ht] at ct
  clear ht
  have cu := fun w => devIsReal_s_any k1 n1 p1 w
  rw [show DevP.isReal k1 n1 p1 = u from hu] at cu
  clear hu
  have b1 := Box.new w #[.int .i64 7, .slice (some ⟨g, 0, none⟩) 2 c] 31
  have hB1 : Below w.heap.size w (w.alloc (.cells #[.int .i64 7, .slice (some ⟨g, 0, none⟩) 2 c] 31)) := by repeat (first | exact Below.refl _ _ | assumption | refine Below.setCell ?_ (by first | (simp; done) | (simp; omega) | omega) _ | refine Below.alloc ?_ (by first | (simp; done) | (simp; omega) | omega) _ | refine Bx.bel_drewN ?_ _ | refine Below.drew ?_)
  have hl1 := hl.kept hB1
  clear hl
  go_enter Tryd.func16, Tryd.ntmps16
  go_wp2_with fail
  generalize w.alloc (.cells #[.int .i64 7, .slice (some ⟨g, 0, none⟩) 2 c] 31) = W1 at b1 hB1 hl1 ⊢
  have c0 : W1.cell? ⟨w.heap.size, 0, none⟩ = some (.int .i64 7) := b1.cell 0
  have c1 : W1.cell? ⟨w.heap.size, 1, none⟩ = some (.slice (some ⟨g, 0, none⟩) 2 c) := b1.cell 1
  have q00 : W1.cell? ⟨g, 0, none⟩ = some (.int .i64 k0) := (hl1.at 0 _ rfl).1
  have q01 : W1.cell? ⟨g, 1, none⟩ = some (.int .i64 n0) := (hl1.at 0 _ rfl).2.1
  have q02 : W1.cell? ⟨g, 2, none⟩ = some (.int .i64 p0) := (hl1.at 0 _ rfl).2.2
  have q10 : W1.cell? ⟨g, 3, none⟩ = some (.int .i64 k1) := (hl1.at 1 _ rfl).1
  have q11 : W1.cell? ⟨g, 4, none⟩ = some (.int .i64 n1) := (hl1.at 1 _ rfl).2.1
  have q12 : W1.cell? ⟨g, 5, none⟩ = some (.int .i64 p1) := (hl1.at 1 _ rfl).2.2
  go_quiet ((go_at_call 41; exact Calls.quiet_of_same (ha _)))
  have b1 := b1.drewN nq
  have hl1 : Lie (W1.drewN nq) g 0 [(k0, n0, p0), (k1, n1, p1)] := hl1
  have hB1 : Below w.heap.size w (W1.drewN nq) := bel_drewN hB1 _
  generalize W1.drewN nq = W2 at b1 hB1 hl1 ⊢
  clear c0 c1 q00 q01 q02 q10 q11 q12 ha
  have c0 : W2.cell? ⟨w.heap.size, 0, none⟩ = some (.int .i64 7) := b1.cell 0
  have c1 : W2.cell? ⟨w.heap.size, 1, none⟩ = some (.slice (some ⟨g, 0, none⟩) 2 c) := b1.cell 1
  have q00 : W2.cell? ⟨g, 0, none⟩ = some (.int .i64 k0) := (hl1.at 0 _ rfl).1
  have q01 : W2.cell? ⟨g, 1, none⟩ = some (.int .i64 n0) := (hl1.at 0 _ rfl).2.1
  have q02 : W2.cell? ⟨g, 2, none⟩ = some (.int .i64 p0) := (hl1.at 0 _ rfl).2.2
  have q10 : W2.cell? ⟨g, 3, none⟩ = some (.int .i64 k1) := (hl1.at 1 _ rfl).1
  have q11 : W2.cell? ⟨g, 4, none⟩ = some (.int .i64 n1) := (hl1.at 1 _ rfl).2.1
  have q12 : W2.cell? ⟨g, 5, none⟩ = some (.int .i64 p1) := (hl1.at 1 _ rfl).2.2
  go_wp2_with fail
  refine (cr _).mono ?_
  rintro e v2 ⟨rfl, hb2⟩
  have b2 := b1.kept hb2
  have hl2 := hl1.kept hb2
  have hB2 : Below w.heap.size w v2 := bel_step hB1 hb2 hB1.size
  clear c0 c1 q00 q01 q02 q10 q11 q12
  have c0 : v2.cell? ⟨w.heap.size, 0, none⟩ = some (.int .i64 7) := b2.cell 0
  have c1 : v2.cell? ⟨w.heap.size, 1, none⟩ = some (.slice (some ⟨g, 0, none⟩) 2 c) := b2.cell 1
  have q00 : v2.cell? ⟨g, 0, none⟩ = some (.int .i64 k0) := (hl2.at 0 _ rfl).1
  have q01 : v2.cell? ⟨g, 1, none⟩ = some (.int .i64 n0) := (hl2.at 0 _ rfl).2.1
  have q02 : v2.cell? ⟨g, 2, none⟩ = some (.int .i64 p0) := (hl2.at 0 _ rfl).2.2
  have q10 : v2.cell? ⟨g, 3, none⟩ = some (.int .i64 k1) := (hl2.at 1 _ rfl).1
  have q11 : v2.cell? ⟨g, 4, none⟩ = some (.int .i64 n1) := (hl2.at 1 _ rfl).2.1
  have q12 : v2.cell? ⟨g, 5, none⟩ = some (.int .i64 p1) := (hl2.at 1 _ rfl).2.2
  clear hb2
  cases r with
  | true =>
    go_wp2_with fail
    refine (cs _).mono ?_
    rintro e v3 ⟨rfl, hb3⟩
    have b3 := b2.kept hb3
    have hl3 := hl2.kept hb3
    have hB3 : Below w.heap.size w v3 := bel_step hB2 hb3 hB2.size
    clear c0 c1 q00 q01 q02 q10 q11 q12
    have c0 : v3.cell? ⟨w.heap.size, 0, none⟩ = some (.int .i64 7) := b3.cell 0
    have c1 : v3.cell? ⟨w.heap.size, 1, none⟩ = some (.slice (some ⟨g, 0, none⟩) 2 c) := b3.cell 1
    have q00 : v3.cell? ⟨g, 0, none⟩ = some (.int .i64 k0) := (hl3.at 0 _ rfl).1
    have q01 : v3.cell? ⟨g, 1, none⟩ = some (.int .i64 n0) := (hl3.at 0 _ rfl).2.1
    have q02 : v3.cell? ⟨g, 2, none⟩ = some (.int .i64 p0) := (hl3.at 0 _ rfl).2.2
    have q10 : v3.cell? ⟨g, 3, none⟩ = some (.int .i64 k1) := (hl3.at 1 _ rfl).1
    have q11 : v3.cell? ⟨g, 4, none⟩ = some (.int .i64 n1) := (hl3.at 1 _ rfl).2.1
    have q12 : v3.cell? ⟨g, 5, none⟩ = some (.int .i64 p1) := (hl3.at 1 _ rfl).2.2
    clear hb3
    cases s with
    | true =>
      go_wp2
      go_ret
      exact ⟨rfl, hB3⟩
    | false =>
      go_wp2_with fail
      refine (ct _).mono ?_
      rintro e v4 ⟨rfl, hb4⟩
      have b4 := b3.kept hb4
      have hl4 := hl3.kept hb4
      have hB4 : Below w.heap.size w v4 := bel_step hB3 hb4 hB3.size
      clear c0 c1 q00 q01 q02 q10 q11 q12
      have c0 : v4.cell? ⟨w.heap.size, 0, none⟩ = some (.int .i64 7) := b4.cell 0
      have c1 : v4.cell? ⟨w.heap.size, 1, none⟩ = some (.slice (some ⟨g, 0, none⟩) 2 c) := b4.cell 1
      have q00 : v4.cell? ⟨g, 0, none⟩ = some (.int .i64 k0) := (hl4.at 0 _ rfl).1
      have q01 : v4.cell? ⟨g, 1, none⟩ = some (.int .i64 n0) := (hl4.at 0 _ rfl).2.1
      have q02 : v4.cell? ⟨g, 2, none⟩ = some (.int .i64 p0) := (hl4.at 0 _ rfl).2.2
      have q10 : v4.cell? ⟨g, 3, none⟩ = some (.int .i64 k1) := (hl4.at 1 _ rfl).1
      have q11 : v4.cell? ⟨g, 4, none⟩ = some (.int .i64 n1) := (hl4.at 1 _ rfl).2.1
      have q12 : v4.cell? ⟨g, 5, none⟩ = some (.int .i64 p1) := (hl4.at 1 _ rfl).2.2
      clear hb4
      cases t with
      | true =>
        go_wp2_with fail
        refine (cu _).mono ?_
        rintro e v5 ⟨rfl, hb5⟩
        have b5 := b4.kept hb5
        have hl5 := hl4.kept hb5
        have hB5 : Below w.heap.size w v5 := bel_step hB4 hb5 hB4.size
        clear c0 c1 q00 q01 q02 q10 q11 q12
        have c0 : v5.cell? ⟨w.heap.size, 0, none⟩ = some (.int .i64 7) := b5.cell 0
        have c1 : v5.cell? ⟨w.heap.size, 1, none⟩ = some (.slice (some ⟨g, 0, none⟩) 2 c) := b5.cell 1
        have q00 : v5.cell? ⟨g, 0, none⟩ = some (.int .i64 k0) := (hl5.at 0 _ rfl).1
        have q01 : v5.cell? ⟨g, 1, none⟩ = some (.int .i64 n0) := (hl5.at 0 _ rfl).2.1
        have q02 : v5.cell? ⟨g, 2, none⟩ = some (.int .i64 p0) := (hl5.at 0 _ rfl).2.2
        have q10 : v5.cell? ⟨g, 3, none⟩ = some (.int .i64 k1) := (hl5.at 1 _ rfl).1
        have q11 : v5.cell? ⟨g, 4, none⟩ = some (.int .i64 n1) := (hl5.at 1 _ rfl).2.1
        have q12 : v5.cell? ⟨g, 5, none⟩ = some (.int .i64 p1) := (hl5.at 1 _ rfl).2.2
        clear hb5
        go_wp2
        go_ret
        exact ⟨rfl, hB5⟩
      | false =>
        go_wp2
        go_ret
        exact ⟨rfl, hB4⟩
  | false =>
    go_wp2_with fail
    refine (ct _).mono ?_
    rintro e v3 ⟨rfl, hb3⟩
    have b3 := b2.kept hb3
    have hl3 := hl2.kept hb3
    have hB3 : Below w.heap.size w v3 := bel_step hB2 hb3 hB2.size
    clear c0 c1 q00 q01 q02 q10 q11 q12
    have c0 : v3.cell? ⟨w.heap.size, 0, none⟩ = some (.int .i64 7) := b3.cell 0
    have c1 : v3.cell? ⟨w.heap.size, 1, none⟩ = some (.slice (some ⟨g, 0, none⟩) 2 c) := b3.cell 1
    have q00 : v3.cell? ⟨g, 0, none⟩ = some (.int .i64 k0) := (hl3.at 0 _ rfl).1
    have q01 : v3.cell? ⟨g, 1, none⟩ = some (.int .i64 n0) := (hl3.at 0 _ rfl).2.1
    have q02 : v3.cell? ⟨g, 2, none⟩ = some (.int .i64 p0) := (hl3.at 0 _ rfl).2.2
    have q10 : v3.cell? ⟨g, 3, none⟩ = some (.int .i64 k1) := (hl3.at 1 _ rfl).1
    have q11 : v3.cell? ⟨g, 4, none⟩ = some (.int .i64 n1) := (hl3.at 1 _ rfl).2.1
    have q12 : v3.cell? ⟨g, 5, none⟩ = some (.int .i64 p1) := (hl3.at 1 _ rfl).2.2
    clear hb3
    cases t with
    | true =>
      go_wp2_with fail
      refine (cu _).mono ?_
      rintro e v4 ⟨rfl, hb4⟩
      have b4 := b3.kept hb4
      have hl4 := hl3.kept hb4
      have hB4 : Below w.heap.size w v4 := bel_step hB3 hb4 hB3.size
      clear c0 c1 q00 q01 q02 q10 q11 q12
      have c0 : v4.cell? ⟨w.heap.size, 0, none⟩ = some (.int .i64 7) := b4.cell 0
      have c1 : v4.cell? ⟨w.heap.size, 1, none⟩ = some (.slice (some ⟨g, 0, none⟩) 2 c) := b4.cell 1
      have q00 : v4.cell? ⟨g, 0, none⟩ = some (.int .i64 k0) := (hl4.at 0 _ rfl).1
      have q01 : v4.cell? ⟨g, 1, none⟩ = some (.int .i64 n0) := (hl4.at 0 _ rfl).2.1
      have q02 : v4.cell? ⟨g, 2, none⟩ = some (.int .i64 p0) := (hl4.at 0 _ rfl).2.2
      have q10 : v4.cell? ⟨g, 3, none⟩ = some (.int .i64 k1) := (hl4.at 1 _ rfl).1
      have q11 : v4.cell? ⟨g, 4, none⟩ = some (.int .i64 n1) := (hl4.at 1 _ rfl).2.1
      have q12 : v4.cell? ⟨g, 5, none⟩ = some (.int .i64 p1) := (hl4.at 1 _ rfl).2.2
      clear hb4
      go_wp2
      go_ret
      exact ⟨rfl, hB4⟩
    | false =>
      go_wp2
      go_ret
      exact ⟨rfl, hB3⟩
set_option maxRecDepth 100000 in
set_option maxHeartbeats 1000000 in
theorem contact_s_8 (k0 n0 p0 k1 n1 p1 : Int) (g c : Nat) (w : World) (hl : Lie w g 0 [(k0, n0, p0), (k1, n1, p1)]) (r : Bool) (hr : wholeA (k0, n0, p0) = r) (s : Bool) (hs : wholeA (k1, n1, p1) = s) (t : Bool) (ht : realA (k0, n0, p0) = t) (u : Bool) (hu : realA (k1, n1, p1) = u) : Calls Tryd.prog 16 #[.agg #[.int .i64 8, .slice (some ⟨g, 0, none⟩) 2 c]] w fun e w' => e = .returned (.bool (r && s || t && u)) ∧ Below w.heap.size w w' := by
  have ha := fun w => arity_s_8 w
  have cr := fun w => devIsWhole_s_any k0 n0 p0 w
  rw [show DevP.isWhole k0 n0 p0 = r from hr] at cr
  clear hr
  have cs := fun w => devIsWhole_s_any k1 n1 p1 w
  rw [show DevP.isWhole k1 n1 p1 = s from hs] at cs
  clear hs
  have ct := fun w => devIsReal_s_any k0 n0 p0 w
  rw [show DevP.isReal k0 n0 p0 = t from ht] at ct
  clear ht
  have cu := fun w => devIsReal_s_any k1 n1 p1 w
  rw [show DevP.isReal k1 n1 p1 = u from hu] at cu
  clear hu
  have b1 := Box.new w #[.int .i64 8, .slice (some ⟨g, 0, none⟩) 2 c] 31
  have hB1 : Below w.heap.size w (w.alloc (.cells #[.int .i64 8, .slice (some ⟨g, 0, none⟩) 2 c] 31)) := by repeat (first | exact Below.refl _ _ | assumption | refine Below.setCell ?_ (by first | (simp; done) | (simp; omega) | omega) _ | refine Below.alloc ?_ (by first | (simp; done) | (simp; omega) | omega) _ | refine Bx.bel_drewN ?_ _ | refine Below.drew ?_)
  have hl1 := hl.kept hB1
  clear hl
  go_enter Tryd.func16, Tryd.ntmps16
  go_wp2_with fail
  generalize w.alloc (.cells #[.int .i64 8, .slice (some ⟨g, 0, none⟩) 2 c] 31) = W1 at b1 hB1 hl1 ⊢
  have c0 : W1.cell? ⟨w.heap.size, 0, none⟩ = some (.int .i64 8) := b1.cell 0
  have c1 : W1.cell? ⟨w.heap.size, 1, none⟩ = some (.slice (some ⟨g, 0, none⟩) 2 c) := b1.cell 1
  have q00 : W1.cell? ⟨g, 0, none⟩ = some (.int .i64 k0) := (hl1.at 0 _ rfl).1
  have q01 : W1.cell? ⟨g, 1, none⟩ = some (.int .i64 n0) := (hl1.at 0 _ rfl).2.1
  have q02 : W1.cell? ⟨g, 2, none⟩ = some (.int .i64 p0) := (hl1.at 0 _ rfl).2.2
  have q10 : W1.cell? ⟨g, 3, none⟩ = some (.int .i64 k1) := (hl1.at 1 _ rfl).1
  have q11 : W1.cell? ⟨g, 4, none⟩ = some (.int .i64 n1) := (hl1.at 1 _ rfl).2.1
  have q12 : W1.cell? ⟨g, 5, none⟩ = some (.int .i64 p1) := (hl1.at 1 _ rfl).2.2
  go_quiet ((go_at_call 41; exact Calls.quiet_of_same (ha _)))
  have b1 := b1.drewN nq
  have hl1 : Lie (W1.drewN nq) g 0 [(k0, n0, p0), (k1, n1, p1)] := hl1
  have hB1 : Below w.heap.size w (W1.drewN nq) := bel_drewN hB1 _
  generalize W1.drewN nq = W2 at b1 hB1 hl1 ⊢
  clear c0 c1 q00 q01 q02 q10 q11 q12 ha
  have c0 : W2.cell? ⟨w.heap.size, 0, none⟩ = some (.int .i64 8) := b1.cell 0
  have c1 : W2.cell? ⟨w.heap.size, 1, none⟩ = some (.slice (some ⟨g, 0, none⟩) 2 c) := b1.cell 1
  have q00 : W2.cell? ⟨g, 0, none⟩ = some (.int .i64 k0) := (hl1.at 0 _ rfl).1
  have q01 : W2.cell? ⟨g, 1, none⟩ = some (.int .i64 n0) := (hl1.at 0 _ rfl).2.1
  have q02 : W2.cell? ⟨g, 2, none⟩ = some (.int .i64 p0) := (hl1.at 0 _ rfl).2.2
  have q10 : W2.cell? ⟨g, 3, none⟩ = some (.int .i64 k1) := (hl1.at 1 _ rfl).1
  have q11 : W2.cell? ⟨g, 4, none⟩ = some (.int .i64 n1) := (hl1.at 1 _ rfl).2.1
  have q12 : W2.cell? ⟨g, 5, none⟩ = some (.int .i64 p1) := (hl1.at 1 _ rfl).2.2
  go_wp2_with fail
  refine (cr _).mono ?_
  rintro e v2 ⟨rfl, hb2⟩
  have b2 := b1.kept hb2
  have hl2 := hl1.kept hb2
  have hB2 : Below w.heap.size w v2 := bel_step hB1 hb2 hB1.size
  clear c0 c1 q00 q01 q02 q10 q11 q12
  have c0 : v2.cell? ⟨w.heap.size, 0, none⟩ = some (.int .i64 8) := b2.cell 0
  have c1 : v2.cell? ⟨w.heap.size, 1, none⟩ = some (.slice (some ⟨g, 0, none⟩) 2 c) := b2.cell 1
  have q00 : v2.cell? ⟨g, 0, none⟩ = some (.int .i64 k0) := (hl2.at 0 _ rfl).1
  have q01 : v2.cell? ⟨g, 1, none⟩ = some (.int .i64 n0) := (hl2.at 0 _ rfl).2.1
  have q02 : v2.cell? ⟨g, 2, none⟩ = some (.int .i64 p0) := (hl2.at 0 _ rfl).2.2
  have q10 : v2.cell? ⟨g, 3, none⟩ = some (.int .i64 k1) := (hl2.at 1 _ rfl).1
  have q11 : v2.cell? ⟨g, 4, none⟩ = some (.int .i64 n1) := (hl2.at 1 _ rfl).2.1
  have q12 : v2.cell? ⟨g, 5, none⟩ = some (.int .i64 p1) := (hl2.at 1 _ rfl).2.2
  clear hb2
  cases r with
  | true =>
    go_wp2_with fail
    refine (cs _).mono ?_
    rintro e v3 ⟨rfl, hb3⟩
    have b3 := b2.kept hb3
    have hl3 := hl2.kept hb3
    have hB3 : Below w.heap.size w v3 := bel_step hB2 hb3 hB2.size
    clear c0 c1 q00 q01 q02 q10 q11 q12
    have c0 : v3.cell? ⟨w.heap.size, 0, none⟩ = some (.int .i64 8) := b3.cell 0
    have c1 : v3.cell? ⟨w.heap.size, 1, none⟩ = some (.slice (some ⟨g, 0, none⟩) 2 c) := b3.cell 1
    have q00 : v3.cell? ⟨g, 0, none⟩ = some (.int .i64 k0) := (hl3.at 0 _ rfl).1
    have q01 : v3.cell? ⟨g, 1, none⟩ = some (.int .i64 n0) := (hl3.at 0 _ rfl).2.1
    have q02 : v3.cell? ⟨g, 2, none⟩ = some (.int .i64 p0) := (hl3.at 0 _ rfl).2.2
    have q10 : v3.cell? ⟨g, 3, none⟩ = some (.int .i64 k1) := (hl3.at 1 _ rfl).1
    have q11 : v3.cell? ⟨g, 4, none⟩ = some (.int .i64 n1) := (hl3.at 1 _ rfl).2.1
    have q12 : v3.cell? ⟨g, 5, none⟩ = some (.int .i64 p1) := (hl3.at 1 _ rfl).2.2
    clear hb3
    cases s with
    | true =>
      go_wp2
      go_ret
      exact ⟨rfl, hB3⟩
    | false =>
      go_wp2_with fail
      refine (ct _).mono ?_
      rintro e v4 ⟨rfl, hb4⟩
      have b4 := b3.kept hb4
      have hl4 := hl3.kept hb4
      have hB4 : Below w.heap.size w v4 := bel_step hB3 hb4 hB3.size
      clear c0 c1 q00 q01 q02 q10 q11 q12
      have c0 : v4.cell? ⟨w.heap.size, 0, none⟩ = some (.int .i64 8) := b4.cell 0
      have c1 : v4.cell? ⟨w.heap.size, 1, none⟩ = some (.slice (some ⟨g, 0, none⟩) 2 c) := b4.cell 1
      have q00 : v4.cell? ⟨g, 0, none⟩ = some (.int .i64 k0) := (hl4.at 0 _ rfl).1
      have q01 : v4.cell? ⟨g, 1, none⟩ = some (.int .i64 n0) := (hl4.at 0 _ rfl).2.1
      have q02 : v4.cell? ⟨g, 2, none⟩ = some (.int .i64 p0) := (hl4.at 0 _ rfl).2.2
      have q10 : v4.cell? ⟨g, 3, none⟩ = some (.int .i64 k1) := (hl4.at 1 _ rfl).1
      have q11 : v4.cell? ⟨g, 4, none⟩ = some (.int .i64 n1) := (hl4.at 1 _ rfl).2.1
      have q12 : v4.cell? ⟨g, 5, none⟩ = some (.int .i64 p1) := (hl4.at 1 _ rfl).2.2
      clear hb4
      cases t with
      | true =>
        go_wp2_with fail
        refine (cu _).mono ?_
        rintro e v5 ⟨rfl, hb5⟩
        have b5 := b4.kept hb5
        have hl5 := hl4.kept hb5
        have hB5 : Below w.heap.size w v5 := bel_step hB4 hb5 hB4.size
        clear c0 c1 q00 q01 q02 q10 q11 q12
        have c0 : v5.cell? ⟨w.heap.size, 0, none⟩ = some (.int .i64 8) := b5.cell 0
        have c1 : v5.cell? ⟨w.heap.size, 1, none⟩ = some (.slice (some ⟨g, 0, none⟩) 2 c) := b5.cell 1
        have q00 : v5.cell? ⟨g, 0, none⟩ = some (.int .i64 k0) := (hl5.at 0 _ rfl).1
        have q01 : v5.cell? ⟨g, 1, none⟩ = some (.int .i64 n0) := (hl5.at 0 _ rfl).2.1
        have q02 : v5.cell? ⟨g, 2, none⟩ = some (.int .i64 p0) := (hl5.at 0 _ rfl).2.2
        have q10 : v5.cell? ⟨g, 3, none⟩ = some (.int .i64 k1) := (hl5.at 1 _ rfl).1
        have q11 : v5.cell? ⟨g, 4, none⟩ = some (.int .i64 n1) := (hl5.at 1 _ rfl).2.1
        have q12 : v5.cell? ⟨g, 5, none⟩ = some (.int .i64 p1) := (hl5.at 1 _ rfl).2.2
        clear hb5
        go_wp2
        go_ret
        exact ⟨rfl, hB5⟩
      | false =>
        go_wp2
        go_ret
        exact ⟨rfl, hB4⟩
  | false =>
    go_wp2_with fail
    refine (ct _).mono ?_
    rintro e v3 ⟨rfl, hb3⟩
    have b3 := b2.kept hb3
    have hl3 := hl2.kept hb3
    have hB3 : Below w.heap.size w v3 := bel_step hB2 hb3 hB2.size
    clear c0 c1 q00 q01 q02 q10 q11 q12
    have c0 : v3.cell? ⟨w.heap.size, 0, none⟩ = some (.int .i64 8) := b3.cell 0
    have c1 : v3.cell? ⟨w.heap.size, 1, none⟩ = some (.slice (some ⟨g, 0, none⟩) 2 c) := b3.cell 1
    have q00 : v3.cell? ⟨g, 0, none⟩ = some (.int .i64 k0) := (hl3.at 0 _ rfl).1
    have q01 : v3.cell? ⟨g, 1, none⟩ = some (.int .i64 n0) := (hl3.at 0 _ rfl).2.1
    have q02 : v3.cell? ⟨g, 2, none⟩ = some (.int .i64 p0) := (hl3.at 0 _ rfl).2.2
    have q10 : v3.cell? ⟨g, 3, none⟩ = some (.int .i64 k1) := (hl3.at 1 _ rfl).1
    have q11 : v3.cell? ⟨g, 4, none⟩ = some (.int .i64 n1) := (hl3.at 1 _ rfl).2.1
    have q12 : v3.cell? ⟨g, 5, none⟩ = some (.int .i64 p1) := (hl3.at 1 _ rfl).2.2
    clear hb3
    cases t with
    | true =>
      go_wp2_with fail
      refine (cu _).mono ?_
      rintro e v4 ⟨rfl, hb4⟩
      have b4 := b3.kept hb4
      have hl4 := hl3.kept hb4
      have hB4 : Below w.heap.size w v4 := bel_step hB3 hb4 hB3.size
      clear c0 c1 q00 q01 q02 q10 q11 q12
      have c0 : v4.cell? ⟨w.heap.size, 0, none⟩ = some (.int .i64 8) := b4.cell 0
      have c1 : v4.cell? ⟨w.heap.size, 1, none⟩ = some (.slice (some ⟨g, 0, none⟩) 2 c) := b4.cell 1
      have q00 : v4.cell? ⟨g, 0, none⟩ = some (.int .i64 k0) := (hl4.at 0 _ rfl).1
      have q01 : v4.cell? ⟨g, 1, none⟩ = some (.int .i64 n0) := (hl4.at 0 _ rfl).2.1
      have q02 : v4.cell? ⟨g, 2, none⟩ = some (.int .i64 p0) := (hl4.at 0 _ rfl).2.2
      have q10 : v4.cell? ⟨g, 3, none⟩ = some (.int .i64 k1) := (hl4.at 1 _ rfl).1
      have q11 : v4.cell? ⟨g, 4, none⟩ = some (.int .i64 n1) := (hl4.at 1 _ rfl).2.1
      have q12 : v4.cell? ⟨g, 5, none⟩ = some (.int .i64 p1) := (hl4.at 1 _ rfl).2.2
      clear hb4
      go_wp2
      go_ret
      exact ⟨rfl, hB4⟩
    | false =>
      go_wp2
      go_ret
      exact ⟨rfl, hB3⟩
set_option maxRecDepth 100000 in
set_option maxHeartbeats 1000000 in
theorem contact_s_9 (k0 n0 p0 k1 n1 p1 : Int) (g c : Nat) (w : World) (hl : Lie w g 0 [(k0, n0, p0), (k1, n1, p1)]) (r : Bool) (hr : wholeA (k0, n0, p0) = r) (s : Bool) (hs : wholeA (k1, n1, p1) = s) (t : Bool) (ht : realA (k0, n0, p0) = t) (u : Bool) (hu : realA (k1, n1, p1) = u) : Calls Tryd.prog 16 #[.agg #[.int .i64 9, .slice (some ⟨g, 0, none⟩) 2 c]] w fun e w' => e = .returned (.bool (r && s || t && u)) ∧ Below w.heap.size w w' := by
  have ha := fun w => arity_s_9 w
  have cr := fun w => devIsWhole_s_any k0 n0 p0 w
  rw [show DevP.isWhole k0 n0 p0 = r from hr] at cr
  clear hr
  have cs := fun w => devIsWhole_s_any k1 n1 p1 w
  rw [show DevP.isWhole k1 n1 p1 = s from hs] at cs
  clear hs
  have ct := fun w => devIsReal_s_any k0 n0 p0 w
  rw [show DevP.isReal k0 n0 p0 = t from ht] at ct
  clear ht
  have cu := fun w => devIsReal_s_any k1 n1 p1 w
  rw [show DevP.isReal k1 n1 p1 = u from hu] at cu
  clear hu
  have b1 := Box.new w #[.int .i64 9, .slice (some ⟨g, 0, none⟩) 2 c] 31
  have hB1 : Below w.heap.size w (w.alloc (.cells #[.int .i64 9, .slice (some ⟨g, 0, none⟩) 2 c] 31)) := by repeat (first | exact Below.refl _ _ | assumption | refine Below.setCell ?_ (by first | (simp; done) | (simp; omega) | omega) _ | refine Below.alloc ?_ (by first | (simp; done) | (simp; omega) | omega) _ | refine Bx.bel_drewN ?_ _ | refine Below.drew ?_)
  have hl1 := hl.kept hB1
  clear hl
  go_enter Tryd.func16, Tryd.ntmps16
  go_wp2_with fail
  generalize w.alloc (.cells #[.int .i64 9, .slice (some ⟨g, 0, none⟩) 2 c] 31) = W1 at b1 hB1 hl1 ⊢
  have c0 : W1.cell? ⟨w.heap.size, 0, none⟩ = some (.int .i64 9) := b1.cell 0
  have c1 : W1.cell? ⟨w.heap.size, 1, none⟩ = some (.slice (some ⟨g, 0, none⟩) 2 c) := b1.cell 1
  have q00 : W1.cell? ⟨g, 0, none⟩ = some (.int .i64 k0) := (hl1.at 0 _ rfl).1
  have q01 : W1.cell? ⟨g, 1, none⟩ = some (.int .i64 n0) := (hl1.at 0 _ rfl).2.1
  have q02 : W1.cell? ⟨g, 2, none⟩ = some (.int .i64 p0) := (hl1.at 0 _ rfl).2.2
  have q10 : W1.cell? ⟨g, 3, none⟩ = some (.int .i64 k1) := (hl1.at 1 _ rfl).1
  have q11 : W1.cell? ⟨g, 4, none⟩ = some (.int .i64 n1) := (hl1.at 1 _ rfl).2.1
  have q12 : W1.cell? ⟨g, 5, none⟩ = some (.int .i64 p1) := (hl1.at 1 _ rfl).2.2
  go_quiet ((go_at_call 41; exact Calls.quiet_of_same (ha _)))
  have b1 := b1.drewN nq
  have hl1 : Lie (W1.drewN nq) g 0 [(k0, n0, p0), (k1, n1, p1)] := hl1
  have hB1 : Below w.heap.size w (W1.drewN nq) := bel_drewN hB1 _
  generalize W1.drewN nq = W2 at b1 hB1 hl1 ⊢
  clear c0 c1 q00 q01 q02 q10 q11 q12 ha
  have c0 : W2.cell? ⟨w.heap.size, 0, none⟩ = some (.int .i64 9) := b1.cell 0
  have c1 : W2.cell? ⟨w.heap.size, 1, none⟩ = some (.slice (some ⟨g, 0, none⟩) 2 c) := b1.cell 1
  have q00 : W2.cell? ⟨g, 0, none⟩ = some (.int .i64 k0) := (hl1.at 0 _ rfl).1
  have q01 : W2.cell? ⟨g, 1, none⟩ = some (.int .i64 n0) := (hl1.at 0 _ rfl).2.1
  have q02 : W2.cell? ⟨g, 2, none⟩ = some (.int .i64 p0) := (hl1.at 0 _ rfl).2.2
  have q10 : W2.cell? ⟨g, 3, none⟩ = some (.int .i64 k1) := (hl1.at 1 _ rfl).1
  have q11 : W2.cell? ⟨g, 4, none⟩ = some (.int .i64 n1) := (hl1.at 1 _ rfl).2.1
  have q12 : W2.cell? ⟨g, 5, none⟩ = some (.int .i64 p1) := (hl1.at 1 _ rfl).2.2
  go_wp2_with fail
  refine (cr _).mono ?_
  rintro e v2 ⟨rfl, hb2⟩
  have b2 := b1.kept hb2
  have hl2 := hl1.kept hb2
  have hB2 : Below w.heap.size w v2 := bel_step hB1 hb2 hB1.size
  clear c0 c1 q00 q01 q02 q10 q11 q12
  have c0 : v2.cell? ⟨w.heap.size, 0, none⟩ = some (.int .i64 9) := b2.cell 0
  have c1 : v2.cell? ⟨w.heap.size, 1, none⟩ = some (.slice (some ⟨g, 0, none⟩) 2 c) := b2.cell 1
  have q00 : v2.cell? ⟨g, 0, none⟩ = some (.int .i64 k0) := (hl2.at 0 _ rfl).1
  have q01 : v2.cell? ⟨g, 1, none⟩ = some (.int .i64 n0) := (hl2.at 0 _ rfl).2.1
  have q02 : v2.cell? ⟨g, 2, none⟩ = some (.int .i64 p0) := (hl2.at 0 _ rfl).2.2
  have q10 : v2.cell? ⟨g, 3, none⟩ = some (.int .i64 k1) := (hl2.at 1 _ rfl).1
  have q11 : v2.cell? ⟨g, 4, none⟩ = some (.int .i64 n1) := (hl2.at 1 _ rfl).2.1
  have q12 : v2.cell? ⟨g, 5, none⟩ = some (.int .i64 p1) := (hl2.at 1 _ rfl).2.2
  clear hb2
  cases r with
  | true =>
    go_wp2_with fail
    refine (cs _).mono ?_
    rintro e v3 ⟨rfl, hb3⟩
    have b3 := b2.kept hb3
    have hl3 := hl2.kept hb3
    have hB3 : Below w.heap.size w v3 := bel_step hB2 hb3 hB2.size
    clear c0 c1 q00 q01 q02 q10 q11 q12
    have c0 : v3.cell? ⟨w.heap.size, 0, none⟩ = some (.int .i64 9) := b3.cell 0
    have c1 : v3.cell? ⟨w.heap.size, 1, none⟩ = some (.slice (some ⟨g, 0, none⟩) 2 c) := b3.cell 1
    have q00 : v3.cell? ⟨g, 0, none⟩ = some (.int .i64 k0) := (hl3.at 0 _ rfl).1
    have q01 : v3.cell? ⟨g, 1, none⟩ = some (.int .i64 n0) := (hl3.at 0 _ rfl).2.1
    have q02 : v3.cell? ⟨g, 2, none⟩ = some (.int .i64 p0) := (hl3.at 0 _ rfl).2.2
    have q10 : v3.cell? ⟨g, 3, none⟩ = some (.int .i64 k1) := (hl3.at 1 _ rfl).1
    have q11 : v3.cell? ⟨g, 4, none⟩ = some (.int .i64 n1) := (hl3.at 1 _ rfl).2.1
    have q12 : v3.cell? ⟨g, 5, none⟩ = some (.int .i64 p1) := (hl3.at 1 _ rfl).2.2
    clear hb3
    cases s with
    | true =>
      go_wp2
      go_ret
      exact ⟨rfl, hB3⟩
    | false =>
      go_wp2_with fail
      refine (ct _).mono ?_
      rintro e v4 ⟨rfl, hb4⟩
      have b4 := b3.kept hb4
      have hl4 := hl3.kept hb4
      have hB4 : Below w.heap.size w v4 := bel_step hB3 hb4 hB3.size
      clear c0 c1 q00 q01 q02 q10 q11 q12
      have c0 : v4.cell? ⟨w.heap.size, 0, none⟩ = some (.int .i64 9) := b4.cell 0
      have c1 : v4.cell? ⟨w.heap.size, 1, none⟩ = some (.slice (some ⟨g, 0, none⟩) 2 c) := b4.cell 1
      have q00 : v4.cell? ⟨g, 0, none⟩ = some (.int .i64 k0) := (hl4.at 0 _ rfl).1
      have q01 : v4.cell? ⟨g, 1, none⟩ = some (.int .i64 n0) := (hl4.at 0 _ rfl).2.1
      have q02 : v4.cell? ⟨g, 2, none⟩ = some (.int .i64 p0) := (hl4.at 0 _ rfl).2.2
      have q10 : v4.cell? ⟨g, 3, none⟩ = some (.int .i64 k1) := (hl4.at 1 _ rfl).1
      have q11 : v4.cell? ⟨g, 4, none⟩ = some (.int .i64 n1) := (hl4.at 1 _ rfl).2.1
      have q12 : v4.cell? ⟨g, 5, none⟩ = some (.int .i64 p1) := (hl4.at 1 _ rfl).2.2
      clear hb4
      cases t with
      | true =>
        go_wp2_with fail
        refine (cu _).mono ?_
        rintro e v5 ⟨rfl, hb5⟩
        have b5 := b4.kept hb5
        have hl5 := hl4.kept hb5
        have hB5 : Below w.heap.size w v5 := bel_step hB4 hb5 hB4.size
        clear c0 c1 q00 q01 q02 q10 q11 q12
        have c0 : v5.cell? ⟨w.heap.size, 0, none⟩ = some (.int .i64 9) := b5.cell 0
        have c1 : v5.cell? ⟨w.heap.size, 1, none⟩ = some (.slice (some ⟨g, 0, none⟩) 2 c) := b5.cell 1
        have q00 : v5.cell? ⟨g, 0, none⟩ = some (.int .i64 k0) := (hl5.at 0 _ rfl).1
        have q01 : v5.cell? ⟨g, 1, none⟩ = some (.int .i64 n0) := (hl5.at 0 _ rfl).2.1
        have q02 : v5.cell? ⟨g, 2, none⟩ = some (.int .i64 p0) := (hl5.at 0 _ rfl).2.2
        have q10 : v5.cell? ⟨g, 3, none⟩ = some (.int .i64 k1) := (hl5.at 1 _ rfl).1
        have q11 : v5.cell? ⟨g, 4, none⟩ = some (.int .i64 n1) := (hl5.at 1 _ rfl).2.1
        have q12 : v5.cell? ⟨g, 5, none⟩ = some (.int .i64 p1) := (hl5.at 1 _ rfl).2.2
        clear hb5
        go_wp2
        go_ret
        exact ⟨rfl, hB5⟩
      | false =>
        go_wp2
        go_ret
        exact ⟨rfl, hB4⟩
  | false =>
    go_wp2_with fail
    refine (ct _).mono ?_
    rintro e v3 ⟨rfl, hb3⟩
    have b3 := b2.kept hb3
    have hl3 := hl2.kept hb3
    have hB3 : Below w.heap.size w v3 := bel_step hB2 hb3 hB2.size
    clear c0 c1 q00 q01 q02 q10 q11 q12
    have c0 : v3.cell? ⟨w.heap.size, 0, none⟩ = some (.int .i64 9) := b3.cell 0
    have c1 : v3.cell? ⟨w.heap.size, 1, none⟩ = some (.slice (some ⟨g, 0, none⟩) 2 c) := b3.cell 1
    have q00 : v3.cell? ⟨g, 0, none⟩ = some (.int .i64 k0) := (hl3.at 0 _ rfl).1
    have q01 : v3.cell? ⟨g, 1, none⟩ = some (.int .i64 n0) := (hl3.at 0 _ rfl).2.1
    have q02 : v3.cell? ⟨g, 2, none⟩ = some (.int .i64 p0) := (hl3.at 0 _ rfl).2.2
    have q10 : v3.cell? ⟨g, 3, none⟩ = some (.int .i64 k1) := (hl3.at 1 _ rfl).1
    have q11 : v3.cell? ⟨g, 4, none⟩ = some (.int .i64 n1) := (hl3.at 1 _ rfl).2.1
    have q12 : v3.cell? ⟨g, 5, none⟩ = some (.int .i64 p1) := (hl3.at 1 _ rfl).2.2
    clear hb3
    cases t with
    | true =>
      go_wp2_with fail
      refine (cu _).mono ?_
      rintro e v4 ⟨rfl, hb4⟩
      have b4 := b3.kept hb4
      have hl4 := hl3.kept hb4
      have hB4 : Below w.heap.size w v4 := bel_step hB3 hb4 hB3.size
      clear c0 c1 q00 q01 q02 q10 q11 q12
      have c0 : v4.cell? ⟨w.heap.size, 0, none⟩ = some (.int .i64 9) := b4.cell 0
      have c1 : v4.cell? ⟨w.heap.size, 1, none⟩ = some (.slice (some ⟨g, 0, none⟩) 2 c) := b4.cell 1
      have q00 : v4.cell? ⟨g, 0, none⟩ = some (.int .i64 k0) := (hl4.at 0 _ rfl).1
      have q01 : v4.cell? ⟨g, 1, none⟩ = some (.int .i64 n0) := (hl4.at 0 _ rfl).2.1
      have q02 : v4.cell? ⟨g, 2, none⟩ = some (.int .i64 p0) := (hl4.at 0 _ rfl).2.2
      have q10 : v4.cell? ⟨g, 3, none⟩ = some (.int .i64 k1) := (hl4.at 1 _ rfl).1
      have q11 : v4.cell? ⟨g, 4, none⟩ = some (.int .i64 n1) := (hl4.at 1 _ rfl).2.1
      have q12 : v4.cell? ⟨g, 5, none⟩ = some (.int .i64 p1) := (hl4.at 1 _ rfl).2.2
      clear hb4
      go_wp2
      go_ret
      exact ⟨rfl, hB4⟩
    | false =>
      go_wp2
      go_ret
      exact ⟨rfl, hB3⟩
set_option maxRecDepth 100000 in
set_option maxHeartbeats 1000000 in
theorem contact_s_10 (k0 n0 p0 k1 n1 p1 : Int) (g c : Nat) (w : World) (hl : Lie w g 0 [(k0, n0, p0), (k1, n1, p1)]) (r : Bool) (hr : wholeA (k0, n0, p0) = r) (s : Bool) (hs : wholeA (k1, n1, p1) = s) (t : Bool) (ht : realA (k0, n0, p0) = t) (u : Bool) (hu : realA (k1, n1, p1) = u) : Calls Tryd.prog 16 #[.agg #[.int .i64 10, .slice (some ⟨g, 0, none⟩) 2 c]] w fun e w' => e = .returned (.bool (r && s || t && u)) ∧ Below w.heap.size w w' := by
  have ha := fun w => arity_s_10 w
  have cr := fun w => devIsWhole_s_any k0 n0 p0 w
  rw [show DevP.isWhole k0 n0 p0 = r from hr] at cr
  clear hr
  have cs := fun w => devIsWhole_s_any k1 n1 p1 w
  rw [show DevP.isWhole k1 n1 p1 = s from hs] at cs
  clear hs
  have ct := fun w => devIsReal_s_any k0 n0 p0 w
  rw [show DevP.isReal k0 n0 p0 = t from ht] at ct
  clear ht
  have cu := fun w => devIsReal_s_any k1 n1 p1 w
  rw [show DevP.isReal k1 n1 p1 = u from hu] at cu
  clear hu
  have b1 := Box.new w #[.int .i64 10, .slice (some ⟨g, 0, none⟩) 2 c] 31
  have hB1 : Below w.heap.size w (w.alloc (.cells #[.int .i64 10, .slice (some ⟨g, 0, none⟩) 2 c] 31)) := by repeat (first | exact Below.refl _ _ | assumption | refine Below.setCell ?_ (by first | (simp; done) | (simp; omega) | omega) _ | refine Below.alloc ?_ (by first | (simp; done) | (simp; omega) | omega) _ | refine Bx.bel_drewN ?_ _ | refine Below.drew ?_)
  have hl1 := hl.kept hB1
  clear hl
  go_enter Tryd.func16, Tryd.ntmps16
  go_wp2_with fail
  generalize w.alloc (.cells #[.int .i64 10, .slice (some ⟨g, 0, none⟩) 2 c] 31) = W1 at b1 hB1 hl1 ⊢
  have c0 : W1.cell? ⟨w.heap.size, 0, none⟩ = some (.int .i64 10) := b1.cell 0
  have c1 : W1.cell? ⟨w.heap.size, 1, none⟩ = some (.slice (some ⟨g, 0, none⟩) 2 c) := b1.cell 1
  have q00 : W1.cell? ⟨g, 0, none⟩ = some (.int .i64 k0) := (hl1.at 0 _ rfl).1
  have q01 : W1.cell? ⟨g, 1, none⟩ = some (.int .i64 n0) := (hl1.at 0 _ rfl).2.1
  have q02 : W1.cell? ⟨g, 2, none⟩ = some (.int .i64 p0) := (hl1.at 0 _ rfl).2.2
  have q10 : W1.cell? ⟨g, 3, none⟩ = some (.int .i64 k1) := (hl1.at 1 _ rfl).1
  have q11 : W1.cell? ⟨g, 4, none⟩ = some (.int .i64 n1) := (hl1.at 1 _ rfl).2.1
  have q12 : W1.cell? ⟨g, 5, none⟩ = some (.int .i64 p1) := (hl1.at 1 _ rfl).2.2
  go_quiet ((go_at_call 41; exact Calls.quiet_of_same (ha _)))
  have b1 := b1.drewN nq
  have hl1 : Lie (W1.drewN nq) g 0 [(k0, n0, p0), (k1, n1, p1)] := hl1
  have hB1 : Below w.heap.size w (W1.drewN nq) := bel_drewN hB1 _
  generalize W1.drewN nq = W2 at b1 hB1 hl1 ⊢
  clear c0 c1 q00 q01 q02 q10 q11 q12 ha
  have c0 : W2.cell? ⟨w.heap.size, 0, none⟩ = some (.int .i64 10) := b1.cell 0
  have c1 : W2.cell? ⟨w.heap.size, 1, none⟩ = some (.slice (some ⟨g, 0, none⟩) 2 c) := b1.cell 1
  have q00 : W2.cell? ⟨g, 0, none⟩ = some (.int .i64 k0) := (hl1.at 0 _ rfl).1
  have q01 : W2.cell? ⟨g, 1, none⟩ = some (.int .i64 n0) := (hl1.at 0 _ rfl).2.1
  have q02 : W2.cell? ⟨g, 2, none⟩ = some (.int .i64 p0) := (hl1.at 0 _ rfl).2.2
  have q10 : W2.cell? ⟨g, 3, none⟩ = some (.int .i64 k1) := (hl1.at 1 _ rfl).1
  have q11 : W2.cell? ⟨g, 4, none⟩ = some (.int .i64 n1) := (hl1.at 1 _ rfl).2.1
  have q12 : W2.cell? ⟨g, 5, none⟩ = some (.int .i64 p1) := (hl1.at 1 _ rfl).2.2
  go_wp2_with fail
  refine (cr _).mono ?_
  rintro e v2 ⟨rfl, hb2⟩
  have b2 := b1.kept hb2
  have hl2 := hl1.kept hb2
  have hB2 : Below w.heap.size w v2 := bel_step hB1 hb2 hB1.size
  clear c0 c1 q00 q01 q02 q10 q11 q12
  have c0 : v2.cell? ⟨w.heap.size, 0, none⟩ = some (.int .i64 10) := b2.cell 0
  have c1 : v2.cell? ⟨w.heap.size, 1, none⟩ = some (.slice (some ⟨g, 0, none⟩) 2 c) := b2.cell 1
  have q00 : v2.cell? ⟨g, 0, none⟩ = some (.int .i64 k0) := (hl2.at 0 _ rfl).1
  have q01 : v2.cell? ⟨g, 1, none⟩ = some (.int .i64 n0) := (hl2.at 0 _ rfl).2.1
  have q02 : v2.cell? ⟨g, 2, none⟩ = some (.int .i64 p0) := (hl2.at 0 _ rfl).2.2
  have q10 : v2.cell? ⟨g, 3, none⟩ = some (.int .i64 k1) := (hl2.at 1 _ rfl).1
  have q11 : v2.cell? ⟨g, 4, none⟩ = some (.int .i64 n1) := (hl2.at 1 _ rfl).2.1
  have q12 : v2.cell? ⟨g, 5, none⟩ = some (.int .i64 p1) := (hl2.at 1 _ rfl).2.2
  clear hb2
  cases r with
  | true =>
    go_wp2_with fail
    refine (cs _).mono ?_
    rintro e v3 ⟨rfl, hb3⟩
    have b3 := b2.kept hb3
    have hl3 := hl2.kept hb3
    have hB3 : Below w.heap.size w v3 := bel_step hB2 hb3 hB2.size
    clear c0 c1 q00 q01 q02 q10 q11 q12
    have c0 : v3.cell? ⟨w.heap.size, 0, none⟩ = some (.int .i64 10) := b3.cell 0
    have c1 : v3.cell? ⟨w.heap.size, 1, none⟩ = some (.slice (some ⟨g, 0, none⟩) 2 c) := b3.cell 1
    have q00 : v3.cell? ⟨g, 0, none⟩ = some (.int .i64 k0) := (hl3.at 0 _ rfl).1
    have q01 : v3.cell? ⟨g, 1, none⟩ = some (.int .i64 n0) := (hl3.at 0 _ rfl).2.1
    have q02 : v3.cell? ⟨g, 2, none⟩ = some (.int .i64 p0) := (hl3.at 0 _ rfl).2.2
    have q10 : v3.cell? ⟨g, 3, none⟩ = some (.int .i64 k1) := (hl3.at 1 _ rfl).1
    have q11 : v3.cell? ⟨g, 4, none⟩ = some (.int .i64 n1) := (hl3.at 1 _ rfl).2.1
    have q12 : v3.cell? ⟨g, 5, none⟩ = some (.int .i64 p1) := (hl3.at 1 _ rfl).2.2
    clear hb3
    cases s with
    | true =>
      go_wp2
      go_ret
      exact ⟨rfl, hB3⟩
    | false =>
      go_wp2_with fail
      refine (ct _).mono ?_
      rintro e v4 ⟨rfl, hb4⟩
      have b4 := b3.kept hb4
      have hl4 := hl3.kept hb4
      have hB4 : Below w.heap.size w v4 := bel_step hB3 hb4 hB3.size
      clear c0 c1 q00 q01 q02 q10 q11 q12
      have c0 : v4.cell? ⟨w.heap.size, 0, none⟩ = some (.int .i64 10) := b4.cell 0
      have c1 : v4.cell? ⟨w.heap.size, 1, none⟩ = some (.slice (some ⟨g, 0, none⟩) 2 c) := b4.cell 1
      have q00 : v4.cell? ⟨g, 0, none⟩ = some (.int .i64 k0) := (hl4.at 0 _ rfl).1
      have q01 : v4.cell? ⟨g, 1, none⟩ = some (.int .i64 n0) := (hl4.at 0 _ rfl).2.1
      have q02 : v4.cell? ⟨g, 2, none⟩ = some (.int .i64 p0) := (hl4.at 0 _ rfl).2.2
      have q10 : v4.cell? ⟨g, 3, none⟩ = some (.int .i64 k1) := (hl4.at 1 _ rfl).1
      have q11 : v4.cell? ⟨g, 4, none⟩ = some (.int .i64 n1) := (hl4.at 1 _ rfl).2.1
      have q12 : v4.cell? ⟨g, 5, none⟩ = some (.int .i64 p1) := (hl4.at 1 _ rfl).2.2
      clear hb4
      cases t with
      | true =>
        go_wp2_with fail
        refine (cu _).mono ?_
        rintro e v5 ⟨rfl, hb5⟩
        have b5 := b4.kept hb5
        have hl5 := hl4.kept hb5
        have hB5 : Below w.heap.size w v5 := bel_step hB4 hb5 hB4.size
        clear c0 c1 q00 q01 q02 q10 q11 q12
        have c0 : v5.cell? ⟨w.heap.size, 0, none⟩ = some (.int .i64 10) := b5.cell 0
        have c1 : v5.cell? ⟨w.heap.size, 1, none⟩ = some (.slice (some ⟨g, 0, none⟩) 2 c) := b5.cell 1
        have q00 : v5.cell? ⟨g, 0, none⟩ = some (.int .i64 k0) := (hl5.at 0 _ rfl).1
        have q01 : v5.cell? ⟨g, 1, none⟩ = some (.int .i64 n0) := (hl5.at 0 _ rfl).2.1
        have q02 : v5.cell? ⟨g, 2, none⟩ = some (.int .i64 p0) := (hl5.at 0 _ rfl).2.2
        have q10 : v5.cell? ⟨g, 3, none⟩ = some (.int .i64 k1) := (hl5.at 1 _ rfl).1
        have q11 : v5.cell? ⟨g, 4, none⟩ = some (.int .i64 n1) := (hl5.at 1 _ rfl).2.1
        have q12 : v5.cell? ⟨g, 5, none⟩ = some (.int .i64 p1) := (hl5.at 1 _ rfl).2.2
        clear hb5
        go_wp2
        go_ret
        exact ⟨rfl, hB5⟩
      | false =>
        go_wp2
        go_ret
        exact ⟨rfl, hB4⟩
  | false =>
    go_wp2_with fail
    refine (ct _).mono ?_
    rintro e v3 ⟨rfl, hb3⟩
    have b3 := b2.kept hb3
    have hl3 := hl2.kept hb3
    have hB3 : Below w.heap.size w v3 := bel_step hB2 hb3 hB2.size
    clear c0 c1 q00 q01 q02 q10 q11 q12
    have c0 : v3.cell? ⟨w.heap.size, 0, none⟩ = some (.int .i64 10) := b3.cell 0
    have c1 : v3.cell? ⟨w.heap.size, 1, none⟩ = some (.slice (some ⟨g, 0, none⟩) 2 c) := b3.cell 1
    have q00 : v3.cell? ⟨g, 0, none⟩ = some (.int .i64 k0) := (hl3.at 0 _ rfl).1
    have q01 : v3.cell? ⟨g, 1, none⟩ = some (.int .i64 n0) := (hl3.at 0 _ rfl).2.1
    have q02 : v3.cell? ⟨g, 2, none⟩ = some (.int .i64 p0) := (hl3.at 0 _ rfl).2.2
    have q10 : v3.cell? ⟨g, 3, none⟩ = some (.int .i64 k1) := (hl3.at 1 _ rfl).1
    have q11 : v3.cell? ⟨g, 4, none⟩ = some (.int .i64 n1) := (hl3.at 1 _ rfl).2.1
    have q12 : v3.cell? ⟨g, 5, none⟩ = some (.int .i64 p1) := (hl3.at 1 _ rfl).2.2
    clear hb3
    cases t with
    | true =>
      go_wp2_with fail
      refine (cu _).mono ?_
      rintro e v4 ⟨rfl, hb4⟩
      have b4 := b3.kept hb4
      have hl4 := hl3.kept hb4
      have hB4 : Below w.heap.size w v4 := bel_step hB3 hb4 hB3.size
      clear c0 c1 q00 q01 q02 q10 q11 q12
      have c0 : v4.cell? ⟨w.heap.size, 0, none⟩ = some (.int .i64 10) := b4.cell 0
      have c1 : v4.cell? ⟨w.heap.size, 1, none⟩ = some (.slice (some ⟨g, 0, none⟩) 2 c) := b4.cell 1
      have q00 : v4.cell? ⟨g, 0, none⟩ = some (.int .i64 k0) := (hl4.at 0 _ rfl).1
      have q01 : v4.cell? ⟨g, 1, none⟩ = some (.int .i64 n0) := (hl4.at 0 _ rfl).2.1
      have q02 : v4.cell? ⟨g, 2, none⟩ = some (.int .i64 p0) := (hl4.at 0 _ rfl).2.2
      have q10 : v4.cell? ⟨g, 3, none⟩ = some (.int .i64 k1) := (hl4.at 1 _ rfl).1
      have q11 : v4.cell? ⟨g, 4, none⟩ = some (.int .i64 n1) := (hl4.at 1 _ rfl).2.1
      have q12 : v4.cell? ⟨g, 5, none⟩ = some (.int .i64 p1) := (hl4.at 1 _ rfl).2.2
      clear hb4
      go_wp2
      go_ret
      exact ⟨rfl, hB4⟩
    | false =>
      go_wp2
      go_ret
      exact ⟨rfl, hB3⟩
end Go.Proofs.YtmlpobecilbknaaDoor
