/- The program's ElemIsContact. -/
import Derived.Test.YtmlpobecilbknaaDoorRows
import Derived.Test.YtmlpobecilbknaaDoorWElem1
import Derived.WalkKit
import Derived.WalkSpells
import Derived.WalkLawsBesides
import Derived.OpenShut
import Derived.IntWalk
import Derived.Lib.Hide
import Derived.Deep.QuietTactic
import Derived.BigQuiet
import Derived.Deep.RegionWith
import Derived.Deep.RegionHeld3
import Derived.Shelf.Abstract
namespace Go.Proofs.YtmlpobecilbknaaDoor
open Go.RowKit Bx ElemP
set_option linter.unusedVariables false

theorem hmf_all : ∀ (fn : Fn) (first cap : Array Value) (w : World), (Instr.makeFunc fn first cap).run Tryd.prog w = .ok (.func fn first cap) w := fun _ _ _ _ => rfl
theorem enters_notOk : ∀ args w, (callFunc 68 args).run Tryd.prog w = .ok (.enter 68 args) w := enters_of Tryd.func68 (by kernel_rfl) rfl
set_option maxRecDepth 100000 in
set_option maxHeartbeats 1000000 in
theorem argsOk_no (op : Int) (a : Option Addr) (n c : Nat) (hne : n ≠ arity op) (w : World) : Calls Tryd.prog 31 #[.agg #[.int .i64 op, .slice a n c]] w fun e w' => e = .returned (.bool false) ∧ Below w.heap.size w w' := by
  have ha := fun w => arity_i_any op w
  generalize arity op = r at ha hne
  have hn2 : ((n : Int) == (r : Int)) = false := by simp; omega
  have hn3 : (n == r) = false := by simpa using hne
  have hn4 : ¬ (n : Int) = (r : Int) := by omega
  have b1 := Box.new w #[.int .i64 op, .slice a n c] 31
  have hB1 : Below w.heap.size w (w.alloc (.cells #[.int .i64 op, .slice a n c] 31)) := by repeat (first | exact Below.refl _ _ | assumption | refine Below.setCell ?_ (by first | (simp; done) | (simp; omega) | omega) _ | refine Below.alloc ?_ (by first | (simp; done) | (simp; omega) | omega) _ | refine Bx.bel_drewN ?_ _ | refine Below.drew ?_)
  go_enter Tryd.func31, Tryd.ntmps31
  go_wp2_with fail
  generalize w.alloc (.cells #[.int .i64 op, .slice a n c] 31) = W1 at b1 hB1 ⊢
  have e0 : W1.cell? ⟨w.heap.size, 0, none⟩ = some (.int .i64 op) := b1.cell 0
  have e1 : W1.cell? ⟨w.heap.size, 1, none⟩ = some (.slice a n c) := b1.cell 1
  go_quiet ((go_at_call 19; exact Calls.quiet_of_same (ha _)))
  go_wp2
  go_ret
  exact ⟨rfl, bel_drewN hB1 _⟩
set_option maxRecDepth 100000 in
set_option maxHeartbeats 1000000 in
theorem argsOk_yes (op : Int) (g o n c : Nat) (xs : List Arg) (hn : n = xs.length) (h3 : n ≤ 1048576) (he : n = arity op) (w : World) (hl : Lie w g o xs) : Calls Tryd.prog 31 #[.agg #[.int .i64 op, .slice (some ⟨g, o, none⟩) n c]] w fun e w' => e = .returned (.bool (!xs.any fun x => !okA x)) ∧ Below w.heap.size w w' := by
  have ha := fun w => arity_i_any op w
  rw [← he] at ha
  have hmf := hmf_all
  have b1 := Box.new w #[.int .i64 op, .slice (some ⟨g, o, none⟩) n c] 31
  have hB1 : Below w.heap.size w (w.alloc (.cells #[.int .i64 op, .slice (some ⟨g, o, none⟩) n c] 31)) := by repeat (first | exact Below.refl _ _ | assumption | refine Below.setCell ?_ (by first | (simp; done) | (simp; omega) | omega) _ | refine Below.alloc ?_ (by first | (simp; done) | (simp; omega) | omega) _ | refine Bx.bel_drewN ?_ _ | refine Below.drew ?_)
  have hc := fun w' (h : Below (w.alloc (.cells #[.int .i64 op, .slice (some ⟨g, o, none⟩) n c] 31)).heap.size (w.alloc (.cells #[.int .i64 op, .slice (some ⟨g, o, none⟩) n c] 31)) w') => containsFunc_any 68 (fun x => !okA x) notOk_test enters_notOk g o n c xs hn h3 w' (hl.kept (bel_step hB1 h hB1.size))
  generalize (xs.any fun x => !okA x) = r at hc ⊢
  have hn2 : ((n : Int) == (n : Int)) = true := by simp
  clear hn he hl
  go_enter Tryd.func31, Tryd.ntmps31
  go_wp2_with fail
  generalize w.alloc (.cells #[.int .i64 op, .slice (some ⟨g, o, none⟩) n c] 31) = W1 at b1 hB1 hc ⊢
  have hS : ∀ w', Below W1.heap.size W1 w' → w'.cell? ⟨w.heap.size, 0, none⟩ = some (.int .i64 op) ∧ w'.cell? ⟨w.heap.size, 1, none⟩ = some (.slice (some ⟨g, o, none⟩) n c) ∧ Below W1.heap.size W1 w' := fun w' hb => ⟨(b1.kept hb).cell 0, (b1.kept hb).cell 1, hb⟩
  go_region_held3 (fun w' => w'.cell? ⟨w.heap.size, 0, none⟩ = some (.int .i64 op) ∧ w'.cell? ⟨w.heap.size, 1, none⟩ = some (.slice (some ⟨g, o, none⟩) n c) ∧ Below W1.heap.size W1 w')
    (first | exact hS _ (Below.refl _ _).drew | (obtain ⟨_, _, hq⟩ := (by assumption : _ ∧ _ ∧ Below W1.heap.size W1 _); exact hS _ (bel_step hq hbx hq.size)))
    (first | (go_at_call 19; (with_reducible refine (ha _).mono ?_); rintro e w' ⟨rfl, rfl⟩) | (go_at_call 34; (with_reducible refine (hc _ (by first | exact (Below.refl _ _).drew | exact (by assumption : _ ∧ _ ∧ Below W1.heap.size W1 _).2.2)).mono ?_); rintro e w' ⟨rfl, hbx⟩))
  all_goals
    obtain ⟨_, _, hq⟩ := (by assumption : _ ∧ _ ∧ Below W1.heap.size W1 _)
    have hB2 := bel_step hB1 hq hB1.size
    clear hq hS b1
    go_wp2
    go_ret
    exact ⟨rfl, hB2⟩
/-- the cells of one operand -/
theorem Lie.at {w : World} {g : Nat} {xs : List Arg} (h : Lie w g 0 xs) (i : Nat) (x : Arg) (hx : xs[i]? = some x) : w.cell? ⟨g, i * 3, none⟩ = some (.int .i64 x.1) ∧ w.cell? ⟨g, i * 3 + 1, none⟩ = some (.int .i64 x.2.1) ∧ w.cell? ⟨g, i * 3 + 2, none⟩ = some (.int .i64 x.2.2) := by
  have := h.2 i x hx
  rwa [Nat.zero_add] at this
theorem all_snoc {F : Arg → Bool} {xs : List Arg} {k : Nat} {z : Arg} (hz : xs[k]? = some z) : (xs.take (k + 1)).all F = ((xs.take k).all F && F z) := by
  rw [List.take_add_one, hz, List.all_append]; simp
set_option maxRecDepth 100000 in
set_option maxHeartbeats 1000000 in
theorem bothOf_2 (x y : Arg) (g c : Nat) (w : World) (hl : Lie w g 0 [x, y]) : Calls Tryd.prog 33 #[.slice (some ⟨g, 0, none⟩) 2 c] w fun e w' => e = .returned (.bool (wholeA x && wholeA y || realA x && realA y)) ∧ Below w.heap.size w w' := by
  have HL := Lib.hid hl
  clear hl
  go_enter Tryd.func33, Tryd.ntmps33
  go_wp2_with fail
  go_loopw [3, 4, 9] (fun p q i wr => ∃ (k : Nat) (P Q : Bool), k ≤ 2 ∧ p = .bool P ∧ q = .bool Q ∧ i = .int .i64 k ∧ P = ([x, y].take k).all wholeA ∧ Q = ([x, y].take k).all realA ∧ Below w.heap.size w wr) (fun _ _ i _ => 2 - (intOf i).toNat)
  case atStart => exact ⟨0, true, true, by omega, rfl, rfl, rfl, rfl, rfl, Below.refl _ _⟩
  case round =>
    obtain ⟨k, P, Q, hk, rfl, rfl, rfl, hP, hQ, hbel⟩ := hrel
    have HPQ := Lib.hid (And.intro hP hQ)
    clear hP hQ
    by_cases hlt : k < 2
    · obtain ⟨z, hz⟩ : ∃ z, [x, y][k]? = some z := ⟨_, List.getElem?_eq_getElem (by simpa using hlt)⟩
      have hl := HL.out.kept hbel
      obtain ⟨d0, d1, d2⟩ := hl.at k z hz
      have HZ := Lib.hid hz
      have hw := fun w => devIsWhole_i_any z.1 z.2.1 z.2.2 w
      have hr := fun w => devIsReal_i_any z.1 z.2.1 z.2.2 w
      obtain ⟨z0, z1, z2⟩ := z
      simp only at d0 d1 d2 hw hr
      have eW : wholeA (z0, z1, z2) = DevP.isWhole z0 z1 z2 := rfl
      have eR : realA (z0, z1, z2) = DevP.isReal z0 z1 z2 := rfl
      rw [← eW] at hw
      rw [← eR] at hr
      clear hz hl eW eR
      have b2 := Box.new wr #[.int .i64 z0, .int .i64 z1, .int .i64 z2] 40
      have hB2 : Below w.heap.size w (wr.alloc (.cells #[.int .i64 z0, .int .i64 z1, .int .i64 z2] 40)) := hbel.alloc hbel.size _
      clear hbel
      cases P with
      | true =>
        cases Q with
        | true =>
          go_wp2_with fail
          refine (hw _).mono ?_
          rintro e v2 ⟨rfl, hb2⟩
          have b2' := b2.kept hb2
          have hB2' : Below w.heap.size w v2 := bel_step hB2 hb2 hB2.size
          clear hw hb2
          have c0 : v2.cell? ⟨wr.heap.size, 0, none⟩ = some (.int .i64 z0) := b2'.cell 0
          have c1 : v2.cell? ⟨wr.heap.size, 1, none⟩ = some (.int .i64 z1) := b2'.cell 1
          have c2 : v2.cell? ⟨wr.heap.size, 2, none⟩ = some (.int .i64 z2) := b2'.cell 2
          go_wp2_with fail
          refine (hr _).mono ?_
          rintro e v3 ⟨rfl, hb3⟩
          have b3' := b2'.kept hb3
          have hB3' : Below w.heap.size w v3 := bel_step hB2' hb3 hB2'.size
          clear hr hb3 c0 c1 c2
          have c0 : v3.cell? ⟨wr.heap.size, 0, none⟩ = some (.int .i64 z0) := b3'.cell 0
          have c1 : v3.cell? ⟨wr.heap.size, 1, none⟩ = some (.int .i64 z1) := b3'.cell 1
          have c2 : v3.cell? ⟨wr.heap.size, 2, none⟩ = some (.int .i64 z2) := b3'.cell 2
          go_wp2
          go_roundw
          case rel => exact ⟨k + 1, _, _, by omega, rfl, rfl, by go_num, by rw [all_snoc HZ.out, ← HPQ.out.1]; rfl, by rw [all_snoc HZ.out, ← HPQ.out.2]; rfl, hB3'⟩
          case measure => simp [intOf]; omega
        | false =>
          go_wp2_with fail
          refine (hw _).mono ?_
          rintro e v2 ⟨rfl, hb2⟩
          have b2' := b2.kept hb2
          have hB2' : Below w.heap.size w v2 := bel_step hB2 hb2 hB2.size
          clear hw hb2
          have c0 : v2.cell? ⟨wr.heap.size, 0, none⟩ = some (.int .i64 z0) := b2'.cell 0
          have c1 : v2.cell? ⟨wr.heap.size, 1, none⟩ = some (.int .i64 z1) := b2'.cell 1
          have c2 : v2.cell? ⟨wr.heap.size, 2, none⟩ = some (.int .i64 z2) := b2'.cell 2
          go_wp2
          go_roundw
          case rel => exact ⟨k + 1, _, _, by omega, rfl, rfl, by go_num, by rw [all_snoc HZ.out, ← HPQ.out.1]; rfl, by rw [all_snoc HZ.out, ← HPQ.out.2]; rfl, hB2'⟩
          case measure => simp [intOf]; omega
      | false =>
        cases Q with
        | true =>
          go_wp2_with fail
          refine (hr _).mono ?_
          rintro e v2 ⟨rfl, hb2⟩
          have b2' := b2.kept hb2
          have hB2' : Below w.heap.size w v2 := bel_step hB2 hb2 hB2.size
          clear hr hb2
          have c0 : v2.cell? ⟨wr.heap.size, 0, none⟩ = some (.int .i64 z0) := b2'.cell 0
          have c1 : v2.cell? ⟨wr.heap.size, 1, none⟩ = some (.int .i64 z1) := b2'.cell 1
          have c2 : v2.cell? ⟨wr.heap.size, 2, none⟩ = some (.int .i64 z2) := b2'.cell 2
          go_wp2
          go_roundw
          case rel => exact ⟨k + 1, _, _, by omega, rfl, rfl, by go_num, by rw [all_snoc HZ.out, ← HPQ.out.1]; rfl, by rw [all_snoc HZ.out, ← HPQ.out.2]; rfl, hB2'⟩
          case measure => simp [intOf]; omega
        | false =>
          go_wp2
          go_roundw
          case rel => exact ⟨k + 1, _, _, by omega, rfl, rfl, by go_num, by rw [all_snoc HZ.out, ← HPQ.out.1]; rfl, by rw [all_snoc HZ.out, ← HPQ.out.2]; rfl, hB2⟩
          case measure => simp [intOf]; omega
    · obtain rfl : k = 2 := by omega
      clear hlt
      cases P with
      | true =>
        go_wp2
        go_ret
        refine ⟨?_, hbel⟩
        have h1 : true = (wholeA x && wholeA y) := by have := HPQ.out.1; simpa using this
        rw [← h1]
        rfl
      | false =>
        go_wp2
        go_ret
        refine ⟨?_, hbel⟩
        have h1 : false = (wholeA x && wholeA y) := by have := HPQ.out.1; simpa using this
        have h2 : Q = (realA x && realA y) := by have := HPQ.out.2; simpa using this
        rw [← h1, ← h2]
        rfl
set_option maxRecDepth 100000 in
set_option maxHeartbeats 1000000 in
theorem isContactOp_any (op : Int) (w : World) : Calls Tryd.prog 30 #[.int .i64 op] w fun e w' => e = .returned (.bool (decide (1 ≤ op) && decide (op ≤ 10))) ∧ w' = w := by
  go_enter Tryd.func30, Tryd.ntmps30
  go_wp2_with fail
  refine (within_same _ _ _ _).mono ?_
  rintro e w1 ⟨rfl, rfl⟩
  go_wp2
  go_ret
  exact ⟨rfl, rfl⟩
set_option maxRecDepth 100000 in
set_option maxHeartbeats 1000000 in
theorem isCoilOp_any (op : Int) (w : World) : Calls Tryd.prog 20 #[.int .i64 op] w fun e w' => e = .returned (.bool (decide (21 ≤ op) && decide (op ≤ 37))) ∧ w' = w := by
  go_enter Tryd.func20, Tryd.ntmps20
  go_wp2_with fail
  refine (within_same _ _ _ _).mono ?_
  rintro e w1 ⟨rfl, rfl⟩
  go_wp2
  go_ret
  exact ⟨rfl, rfl⟩
set_option maxRecDepth 100000 in
set_option maxHeartbeats 1000000 in
theorem contact_i_out (op : Int) (a : Option Addr) (n c : Nat) (h : (decide (1 ≤ op) && decide (op ≤ 10)) = false) (w : World) : Calls Tryd.prog 14 #[.agg #[.int .i64 op, .slice a n c]] w fun e w' => e = .returned (.bool false) ∧ Below w.heap.size w w' := by
  have hi := fun w => isContactOp_any op w
  rw [h] at hi
  clear h
  go_enter Tryd.func14, Tryd.ntmps14
  go_wp2_with fail
  refine (hi _).mono ?_
  rintro e w1 ⟨rfl, rfl⟩
  clear hi
  go_wp2
  go_ret
  exact ⟨rfl, by repeat (first | exact Below.refl _ _ | assumption | refine Below.setCell ?_ (by first | (simp; done) | (simp; omega) | omega) _ | refine Below.alloc ?_ (by first | (simp; done) | (simp; omega) | omega) _ | refine Bx.bel_drewN ?_ _ | refine Below.drew ?_)⟩
set_option maxRecDepth 100000 in
set_option maxHeartbeats 1000000 in
theorem contact_i_bad (op : Int) (a : Option Addr) (n c : Nat) (h : (decide (1 ≤ op) && decide (op ≤ 10)) = true) (w : World)
    (ha : ∀ w', Below w.heap.size w w' → Calls Tryd.prog 31 #[.agg #[.int .i64 op, .slice a n c]] w' fun e w'' => e = .returned (.bool false) ∧ Below w'.heap.size w' w'') : Calls Tryd.prog 14 #[.agg #[.int .i64 op, .slice a n c]] w fun e w' => e = .returned (.bool false) ∧ Below w.heap.size w w' := by
  have hi := fun w => isContactOp_any op w
  rw [h] at hi
  clear h
  go_enter Tryd.func14, Tryd.ntmps14
  go_wp2_with fail
  refine (hi _).mono ?_
  rintro e w1 ⟨rfl, rfl⟩
  clear hi
  go_wp2_with fail
  refine (ha _ (by repeat (first | exact Below.refl _ _ | assumption | refine Below.setCell ?_ (by first | (simp; done) | (simp; omega) | omega) _ | refine Below.alloc ?_ (by first | (simp; done) | (simp; omega) | omega) _ | refine Bx.bel_drewN ?_ _ | refine Below.drew ?_))).mono ?_
  rintro e w2 ⟨rfl, hb2⟩
  have hB2 : Below w.heap.size w w2 := bel_step (by repeat (first | exact Below.refl _ _ | assumption | refine Below.setCell ?_ (by first | (simp; done) | (simp; omega) | omega) _ | refine Below.alloc ?_ (by first | (simp; done) | (simp; omega) | omega) _ | refine Bx.bel_drewN ?_ _ | refine Below.drew ?_)) hb2 (by simp)
  clear hb2 ha
  go_wp2
  go_ret
  exact ⟨rfl, hB2⟩
set_option maxRecDepth 100000 in
set_option maxHeartbeats 1000000 in
theorem coil_i_out (op : Int) (a : Option Addr) (n c : Nat) (h : (decide (21 ≤ op) && decide (op ≤ 37)) = false) (w : World) : Calls Tryd.prog 15 #[.agg #[.int .i64 op, .slice a n c]] w fun e w' => e = .returned (.bool false) ∧ Below w.heap.size w w' := by
  have hi := fun w => isCoilOp_any op w
  rw [h] at hi
  clear h
  go_enter Tryd.func15, Tryd.ntmps15
  go_wp2_with fail
  refine (hi _).mono ?_
  rintro e w1 ⟨rfl, rfl⟩
  clear hi
  go_wp2
  go_ret
  exact ⟨rfl, by repeat (first | exact Below.refl _ _ | assumption | refine Below.setCell ?_ (by first | (simp; done) | (simp; omega) | omega) _ | refine Below.alloc ?_ (by first | (simp; done) | (simp; omega) | omega) _ | refine Bx.bel_drewN ?_ _ | refine Below.drew ?_)⟩
set_option maxRecDepth 100000 in
set_option maxHeartbeats 1000000 in
theorem coil_i_bad (op : Int) (a : Option Addr) (n c : Nat) (h : (decide (21 ≤ op) && decide (op ≤ 37)) = true) (w : World)
    (ha : ∀ w', Below w.heap.size w w' → Calls Tryd.prog 31 #[.agg #[.int .i64 op, .slice a n c]] w' fun e w'' => e = .returned (.bool false) ∧ Below w'.heap.size w' w'') : Calls Tryd.prog 15 #[.agg #[.int .i64 op, .slice a n c]] w fun e w' => e = .returned (.bool false) ∧ Below w.heap.size w w' := by
  have hi := fun w => isCoilOp_any op w
  rw [h] at hi
  clear h
  go_enter Tryd.func15, Tryd.ntmps15
  go_wp2_with fail
  refine (hi _).mono ?_
  rintro e w1 ⟨rfl, rfl⟩
  clear hi
  go_wp2_with fail
  refine (ha _ (by repeat (first | exact Below.refl _ _ | assumption | refine Below.setCell ?_ (by first | (simp; done) | (simp; omega) | omega) _ | refine Below.alloc ?_ (by first | (simp; done) | (simp; omega) | omega) _ | refine Bx.bel_drewN ?_ _ | refine Below.drew ?_))).mono ?_
  rintro e w2 ⟨rfl, hb2⟩
  have hB2 : Below w.heap.size w w2 := bel_step (by repeat (first | exact Below.refl _ _ | assumption | refine Below.setCell ?_ (by first | (simp; done) | (simp; omega) | omega) _ | refine Below.alloc ?_ (by first | (simp; done) | (simp; omega) | omega) _ | refine Bx.bel_drewN ?_ _ | refine Below.drew ?_)) hb2 (by simp)
  clear hb2 ha
  go_wp2
  go_ret
  exact ⟨rfl, hB2⟩
set_option maxRecDepth 100000 in
set_option maxHeartbeats 1000000 in
theorem contact_i_1 (k0 n0 p0 : Int) (g c : Nat) (w : World) (hl : Lie w g 0 [(k0, n0, p0)])
    (ha : ∀ w', Below w.heap.size w w' → Calls Tryd.prog 31 #[.agg #[.int .i64 1, .slice (some ⟨g, 0, none⟩) 1 c]] w' fun e w'' => e = .returned (.bool true) ∧ Below w'.heap.size w' w'') : Calls Tryd.prog 14 #[.agg #[.int .i64 1, .slice (some ⟨g, 0, none⟩) 1 c]] w fun e w' => e = .returned (.bool (bitA (k0, n0, p0))) ∧ Below w.heap.size w w' := by
  have hi := fun w => isContactOp_any 1 w
  rw [show (decide ((1 : Int) ≤ 1) && decide ((1 : Int) ≤ 10)) = true from rfl] at hi
  have HL := Lib.hid hl
  clear hl
  have hbit := fun w => devIsBit_i_any k0 n0 p0 w
  have eb : bitA (k0, n0, p0) = DevP.isBit k0 n0 p0 := rfl
  rw [← eb] at hbit
  generalize bitA (k0, n0, p0) = r at hbit ⊢
  clear eb
  go_enter Tryd.func14, Tryd.ntmps14
  go_wp2_with fail
  refine (hi _).mono ?_
  rintro e w1 ⟨rfl, rfl⟩
  clear hi
  go_wp2_with fail
  refine (ha _ (by repeat (first | exact Below.refl _ _ | assumption | refine Below.setCell ?_ (by first | (simp; done) | (simp; omega) | omega) _ | refine Below.alloc ?_ (by first | (simp; done) | (simp; omega) | omega) _ | refine Bx.bel_drewN ?_ _ | refine Below.drew ?_))).mono ?_
  rintro e w2 ⟨rfl, hb2⟩
  have b2 := (Box.new w #[.int .i64 1, .slice (some ⟨g, 0, none⟩) 1 c] 31).kept hb2
  have hB2 : Below w.heap.size w w2 := bel_step (by repeat (first | exact Below.refl _ _ | assumption | refine Below.setCell ?_ (by first | (simp; done) | (simp; omega) | omega) _ | refine Below.alloc ?_ (by first | (simp; done) | (simp; omega) | omega) _ | refine Bx.bel_drewN ?_ _ | refine Below.drew ?_)) hb2 (by simp)
  have c0 : w2.cell? ⟨w.heap.size, 0, none⟩ = some (.int .i64 1) := b2.cell 0
  have c1 : w2.cell? ⟨w.heap.size, 1, none⟩ = some (.slice (some ⟨g, 0, none⟩) 1 c) := b2.cell 1
  have hl2 := HL.out.kept hB2
  obtain ⟨d0, d1, d2⟩ := hl2.at 0 _ rfl
  simp only [Nat.zero_mul, Nat.zero_add] at d0 d1 d2
  clear hb2 ha hl2 HL
  go_wp2_with fail
  refine (hbit _).mono ?_
  rintro e w3 ⟨rfl, hb3⟩
  have hB3 : Below w.heap.size w w3 := bel_step hB2 hb3 hB2.size
  clear hb3 hbit c0 c1 d0 d1 d2
  go_wp2
  go_ret
  exact ⟨rfl, hB3⟩
set_option maxRecDepth 100000 in
set_option maxHeartbeats 1000000 in
theorem contact_i_2 (k0 n0 p0 : Int) (g c : Nat) (w : World) (hl : Lie w g 0 [(k0, n0, p0)])
    (ha : ∀ w', Below w.heap.size w w' → Calls Tryd.prog 31 #[.agg #[.int .i64 2, .slice (some ⟨g, 0, none⟩) 1 c]] w' fun e w'' => e = .returned (.bool true) ∧ Below w'.heap.size w' w'') : Calls Tryd.prog 14 #[.agg #[.int .i64 2, .slice (some ⟨g, 0, none⟩) 1 c]] w fun e w' => e = .returned (.bool (bitA (k0, n0, p0))) ∧ Below w.heap.size w w' := by
  have hi := fun w => isContactOp_any 2 w
  rw [show (decide ((1 : Int) ≤ 2) && decide ((2 : Int) ≤ 10)) = true from rfl] at hi
  have HL := Lib.hid hl
  clear hl
  have hbit := fun w => devIsBit_i_any k0 n0 p0 w
  have eb : bitA (k0, n0, p0) = DevP.isBit k0 n0 p0 := rfl
  rw [← eb] at hbit
  generalize bitA (k0, n0, p0) = r at hbit ⊢
  clear eb
  go_enter Tryd.func14, Tryd.ntmps14
  go_wp2_with fail
  refine (hi _).mono ?_
  rintro e w1 ⟨rfl, rfl⟩
  clear hi
  go_wp2_with fail
  refine (ha _ (by repeat (first | exact Below.refl _ _ | assumption | refine Below.setCell ?_ (by first | (simp; done) | (simp; omega) | omega) _ | refine Below.alloc ?_ (by first | (simp; done) | (simp; omega) | omega) _ | refine Bx.bel_drewN ?_ _ | refine Below.drew ?_))).mono ?_
  rintro e w2 ⟨rfl, hb2⟩
  have b2 := (Box.new w #[.int .i64 2, .slice (some ⟨g, 0, none⟩) 1 c] 31).kept hb2
  have hB2 : Below w.heap.size w w2 := bel_step (by repeat (first | exact Below.refl _ _ | assumption | refine Below.setCell ?_ (by first | (simp; done) | (simp; omega) | omega) _ | refine Below.alloc ?_ (by first | (simp; done) | (simp; omega) | omega) _ | refine Bx.bel_drewN ?_ _ | refine Below.drew ?_)) hb2 (by simp)
  have c0 : w2.cell? ⟨w.heap.size, 0, none⟩ = some (.int .i64 2) := b2.cell 0
  have c1 : w2.cell? ⟨w.heap.size, 1, none⟩ = some (.slice (some ⟨g, 0, none⟩) 1 c) := b2.cell 1
  have hl2 := HL.out.kept hB2
  obtain ⟨d0, d1, d2⟩ := hl2.at 0 _ rfl
  simp only [Nat.zero_mul, Nat.zero_add] at d0 d1 d2
  clear hb2 ha hl2 HL
  go_wp2_with fail
  refine (hbit _).mono ?_
  rintro e w3 ⟨rfl, hb3⟩
  have hB3 : Below w.heap.size w w3 := bel_step hB2 hb3 hB2.size
  clear hb3 hbit c0 c1 d0 d1 d2
  go_wp2
  go_ret
  exact ⟨rfl, hB3⟩
set_option maxRecDepth 100000 in
set_option maxHeartbeats 1000000 in
theorem contact_i_3 (k0 n0 p0 k1 n1 p1 : Int) (g c : Nat) (w : World) (hl : Lie w g 0 [(k0, n0, p0), (k1, n1, p1)])
    (ha : ∀ w', Below w.heap.size w w' → Calls Tryd.prog 31 #[.agg #[.int .i64 3, .slice (some ⟨g, 0, none⟩) 2 c]] w' fun e w'' => e = .returned (.bool true) ∧ Below w'.heap.size w' w'') : Calls Tryd.prog 14 #[.agg #[.int .i64 3, .slice (some ⟨g, 0, none⟩) 2 c]] w fun e w' => e = .returned (.bool (bitA (k0, n0, p0) && k1 == 5)) ∧ Below w.heap.size w w' := by
  have hi := fun w => isContactOp_any 3 w
  rw [show (decide ((1 : Int) ≤ 3) && decide ((3 : Int) ≤ 10)) = true from rfl] at hi
  have HL := Lib.hid hl
  clear hl
  have hbit := fun w => devIsBit_i_any k0 n0 p0 w
  have eb : bitA (k0, n0, p0) = DevP.isBit k0 n0 p0 := rfl
  rw [← eb] at hbit
  generalize bitA (k0, n0, p0) = r at hbit ⊢
  clear eb
  go_enter Tryd.func14, Tryd.ntmps14
  go_wp2_with fail
  refine (hi _).mono ?_
  rintro e w1 ⟨rfl, rfl⟩
  clear hi
  go_wp2_with fail
  refine (ha _ (by repeat (first | exact Below.refl _ _ | assumption | refine Below.setCell ?_ (by first | (simp; done) | (simp; omega) | omega) _ | refine Below.alloc ?_ (by first | (simp; done) | (simp; omega) | omega) _ | refine Bx.bel_drewN ?_ _ | refine Below.drew ?_))).mono ?_
  rintro e w2 ⟨rfl, hb2⟩
  have b2 := (Box.new w #[.int .i64 3, .slice (some ⟨g, 0, none⟩) 2 c] 31).kept hb2
  have hB2 : Below w.heap.size w w2 := bel_step (by repeat (first | exact Below.refl _ _ | assumption | refine Below.setCell ?_ (by first | (simp; done) | (simp; omega) | omega) _ | refine Below.alloc ?_ (by first | (simp; done) | (simp; omega) | omega) _ | refine Bx.bel_drewN ?_ _ | refine Below.drew ?_)) hb2 (by simp)
  have c0 : w2.cell? ⟨w.heap.size, 0, none⟩ = some (.int .i64 3) := b2.cell 0
  have c1 : w2.cell? ⟨w.heap.size, 1, none⟩ = some (.slice (some ⟨g, 0, none⟩) 2 c) := b2.cell 1
  have hl2 := HL.out.kept hB2
  obtain ⟨d0, d1, d2⟩ := hl2.at 0 _ rfl
  simp only [Nat.zero_mul, Nat.zero_add] at d0 d1 d2
  have q0 : w2.cell? ⟨g, 3, none⟩ = some (.int .i64 k1) := (hl2.at 1 _ rfl).1
  have q1 : w2.cell? ⟨g, 4, none⟩ = some (.int .i64 n1) := (hl2.at 1 _ rfl).2.1
  have q2 : w2.cell? ⟨g, 5, none⟩ = some (.int .i64 p1) := (hl2.at 1 _ rfl).2.2
  have Q0 := Lib.hid (fun w' (h : Below w2.heap.size w2 w') => (h.cell (p := ⟨g, 3, none⟩) hl2.1).trans q0)
  clear hb2 ha hl2 HL
  go_wp2_with fail
  refine (hbit _).mono ?_
  rintro e w3 ⟨rfl, hb3⟩
  have hB3 : Below w.heap.size w w3 := bel_step hB2 hb3 hB2.size
  have b3 := b2.kept hb3
  have e1 : w3.cell? ⟨w.heap.size, 1, none⟩ = some (.slice (some ⟨g, 0, none⟩) 2 c) := b3.cell 1
  have z1 : w3.cell? ⟨g, 3, none⟩ = some (.int .i64 k1) := Q0.out w3 hb3
  clear hb3 hbit c0 c1 d0 d1 d2 q0 q1 q2 Q0 b2 hB2
  cases r with
  | true =>
    go_wp2
    go_ret
    exact ⟨rfl, hB3⟩
  | false =>
    go_wp2
    go_ret
    exact ⟨rfl, hB3⟩
set_option maxRecDepth 100000 in
set_option maxHeartbeats 1000000 in
theorem contact_i_4 (k0 n0 p0 k1 n1 p1 : Int) (g c : Nat) (w : World) (hl : Lie w g 0 [(k0, n0, p0), (k1, n1, p1)])
    (ha : ∀ w', Below w.heap.size w w' → Calls Tryd.prog 31 #[.agg #[.int .i64 4, .slice (some ⟨g, 0, none⟩) 2 c]] w' fun e w'' => e = .returned (.bool true) ∧ Below w'.heap.size w' w'') : Calls Tryd.prog 14 #[.agg #[.int .i64 4, .slice (some ⟨g, 0, none⟩) 2 c]] w fun e w' => e = .returned (.bool (bitA (k0, n0, p0) && k1 == 5)) ∧ Below w.heap.size w w' := by
  have hi := fun w => isContactOp_any 4 w
  rw [show (decide ((1 : Int) ≤ 4) && decide ((4 : Int) ≤ 10)) = true from rfl] at hi
  have HL := Lib.hid hl
  clear hl
  have hbit := fun w => devIsBit_i_any k0 n0 p0 w
  have eb : bitA (k0, n0, p0) = DevP.isBit k0 n0 p0 := rfl
  rw [← eb] at hbit
  generalize bitA (k0, n0, p0) = r at hbit ⊢
  clear eb
  go_enter Tryd.func14, Tryd.ntmps14
  go_wp2_with fail
  refine (hi _).mono ?_
  rintro e w1 ⟨rfl, rfl⟩
  clear hi
  go_wp2_with fail
  refine (ha _ (by repeat (first | exact Below.refl _ _ | assumption | refine Below.setCell ?_ (by first | (simp; done) | (simp; omega) | omega) _ | refine Below.alloc ?_ (by first | (simp; done) | (simp; omega) | omega) _ | refine Bx.bel_drewN ?_ _ | refine Below.drew ?_))).mono ?_
  rintro e w2 ⟨rfl, hb2⟩
  have b2 := (Box.new w #[.int .i64 4, .slice (some ⟨g, 0, none⟩) 2 c] 31).kept hb2
  have hB2 : Below w.heap.size w w2 := bel_step (by repeat (first | exact Below.refl _ _ | assumption | refine Below.setCell ?_ (by first | (simp; done) | (simp; omega) | omega) _ | refine Below.alloc ?_ (by first | (simp; done) | (simp; omega) | omega) _ | refine Bx.bel_drewN ?_ _ | refine Below.drew ?_)) hb2 (by simp)
  have c0 : w2.cell? ⟨w.heap.size, 0, none⟩ = some (.int .i64 4) := b2.cell 0
  have c1 : w2.cell? ⟨w.heap.size, 1, none⟩ = some (.slice (some ⟨g, 0, none⟩) 2 c) := b2.cell 1
  have hl2 := HL.out.kept hB2
  obtain ⟨d0, d1, d2⟩ := hl2.at 0 _ rfl
  simp only [Nat.zero_mul, Nat.zero_add] at d0 d1 d2
  have q0 : w2.cell? ⟨g, 3, none⟩ = some (.int .i64 k1) := (hl2.at 1 _ rfl).1
  have q1 : w2.cell? ⟨g, 4, none⟩ = some (.int .i64 n1) := (hl2.at 1 _ rfl).2.1
  have q2 : w2.cell? ⟨g, 5, none⟩ = some (.int .i64 p1) := (hl2.at 1 _ rfl).2.2
  have Q0 := Lib.hid (fun w' (h : Below w2.heap.size w2 w') => (h.cell (p := ⟨g, 3, none⟩) hl2.1).trans q0)
  clear hb2 ha hl2 HL
  go_wp2_with fail
  refine (hbit _).mono ?_
  rintro e w3 ⟨rfl, hb3⟩
  have hB3 : Below w.heap.size w w3 := bel_step hB2 hb3 hB2.size
  have b3 := b2.kept hb3
  have e1 : w3.cell? ⟨w.heap.size, 1, none⟩ = some (.slice (some ⟨g, 0, none⟩) 2 c) := b3.cell 1
  have z1 : w3.cell? ⟨g, 3, none⟩ = some (.int .i64 k1) := Q0.out w3 hb3
  clear hb3 hbit c0 c1 d0 d1 d2 q0 q1 q2 Q0 b2 hB2
  cases r with
  | true =>
    go_wp2
    go_ret
    exact ⟨rfl, hB3⟩
  | false =>
    go_wp2
    go_ret
    exact ⟨rfl, hB3⟩
set_option maxRecDepth 100000 in
set_option maxHeartbeats 1000000 in
theorem contact_i_5 (k0 n0 p0 k1 n1 p1 : Int) (g c : Nat) (w : World) (hl : Lie w g 0 [(k0, n0, p0), (k1, n1, p1)])
    (ha : ∀ w', Below w.heap.size w w' → Calls Tryd.prog 31 #[.agg #[.int .i64 5, .slice (some ⟨g, 0, none⟩) 2 c]] w' fun e w'' => e = .returned (.bool true) ∧ Below w'.heap.size w' w'') : Calls Tryd.prog 14 #[.agg #[.int .i64 5, .slice (some ⟨g, 0, none⟩) 2 c]] w fun e w' => e = .returned (.bool (wholeA (k0, n0, p0) && wholeA (k1, n1, p1) || realA (k0, n0, p0) && realA (k1, n1, p1))) ∧ Below w.heap.size w w' := by
  have hi := fun w => isContactOp_any 5 w
  rw [show (decide ((1 : Int) ≤ 5) && decide ((5 : Int) ≤ 10)) = true from rfl] at hi
  have HL := Lib.hid hl
  clear hl
  have hbt := fun w hl => bothOf_2 (k0, n0, p0) (k1, n1, p1) g c w hl
  generalize (wholeA (k0, n0, p0) && wholeA (k1, n1, p1) || realA (k0, n0, p0) && realA (k1, n1, p1)) = r at hbt ⊢
  go_enter Tryd.func14, Tryd.ntmps14
  go_wp2_with fail
  refine (hi _).mono ?_
  rintro e w1 ⟨rfl, rfl⟩
  clear hi
  go_wp2_with fail
  refine (ha _ (by repeat (first | exact Below.refl _ _ | assumption | refine Below.setCell ?_ (by first | (simp; done) | (simp; omega) | omega) _ | refine Below.alloc ?_ (by first | (simp; done) | (simp; omega) | omega) _ | refine Bx.bel_drewN ?_ _ | refine Below.drew ?_))).mono ?_
  rintro e w2 ⟨rfl, hb2⟩
  have b2 := (Box.new w #[.int .i64 5, .slice (some ⟨g, 0, none⟩) 2 c] 31).kept hb2
  have hB2 : Below w.heap.size w w2 := bel_step (by repeat (first | exact Below.refl _ _ | assumption | refine Below.setCell ?_ (by first | (simp; done) | (simp; omega) | omega) _ | refine Below.alloc ?_ (by first | (simp; done) | (simp; omega) | omega) _ | refine Bx.bel_drewN ?_ _ | refine Below.drew ?_)) hb2 (by simp)
  have c0 : w2.cell? ⟨w.heap.size, 0, none⟩ = some (.int .i64 5) := b2.cell 0
  have c1 : w2.cell? ⟨w.heap.size, 1, none⟩ = some (.slice (some ⟨g, 0, none⟩) 2 c) := b2.cell 1
  have hl2 := HL.out.kept hB2
  have hbo := hbt w2 hl2
  clear hb2 ha hl2 HL hbt
  go_wp2_with fail
  refine hbo.mono ?_
  rintro e w3 ⟨rfl, hb3⟩
  have hB3 : Below w.heap.size w w3 := bel_step hB2 hb3 hB2.size
  clear hb3 hbo c0 c1
  go_wp2
  go_ret
  exact ⟨rfl, hB3⟩
set_option maxRecDepth 100000 in
set_option maxHeartbeats 1000000 in
theorem contact_i_6 (k0 n0 p0 k1 n1 p1 : Int) (g c : Nat) (w : World) (hl : Lie w g 0 [(k0, n0, p0), (k1, n1, p1)])
    (ha : ∀ w', Below w.heap.size w w' → Calls Tryd.prog 31 #[.agg #[.int .i64 6, .slice (some ⟨g, 0, none⟩) 2 c]] w' fun e w'' => e = .returned (.bool true) ∧ Below w'.heap.size w' w'') : Calls Tryd.prog 14 #[.agg #[.int .i64 6, .slice (some ⟨g, 0, none⟩) 2 c]] w fun e w' => e = .returned (.bool (wholeA (k0, n0, p0) && wholeA (k1, n1, p1) || realA (k0, n0, p0) && realA (k1, n1, p1))) ∧ Below w.heap.size w w' := by
  have hi := fun w => isContactOp_any 6 w
  rw [show (decide ((1 : Int) ≤ 6) && decide ((6 : Int) ≤ 10)) = true from rfl] at hi
  have HL := Lib.hid hl
  clear hl
  have hbt := fun w hl => bothOf_2 (k0, n0, p0) (k1, n1, p1) g c w hl
  generalize (wholeA (k0, n0, p0) && wholeA (k1, n1, p1) || realA (k0, n0, p0) && realA (k1, n1, p1)) = r at hbt ⊢
  go_enter Tryd.func14, Tryd.ntmps14
  go_wp2_with fail
  refine (hi _).mono ?_
  rintro e w1 ⟨rfl, rfl⟩
  clear hi
  go_wp2_with fail
  refine (ha _ (by repeat (first | exact Below.refl _ _ | assumption | refine Below.setCell ?_ (by first | (simp; done) | (simp; omega) | omega) _ | refine Below.alloc ?_ (by first | (simp; done) | (simp; omega) | omega) _ | refine Bx.bel_drewN ?_ _ | refine Below.drew ?_))).mono ?_
  rintro e w2 ⟨rfl, hb2⟩
  have b2 := (Box.new w #[.int .i64 6, .slice (some ⟨g, 0, none⟩) 2 c] 31).kept hb2
  have hB2 : Below w.heap.size w w2 := bel_step (by repeat (first | exact Below.refl _ _ | assumption | refine Below.setCell ?_ (by first | (simp; done) | (simp; omega) | omega) _ | refine Below.alloc ?_ (by first | (simp; done) | (simp; omega) | omega) _ | refine Bx.bel_drewN ?_ _ | refine Below.drew ?_)) hb2 (by simp)
  have c0 : w2.cell? ⟨w.heap.size, 0, none⟩ = some (.int .i64 6) := b2.cell 0
  have c1 : w2.cell? ⟨w.heap.size, 1, none⟩ = some (.slice (some ⟨g, 0, none⟩) 2 c) := b2.cell 1
  have hl2 := HL.out.kept hB2
  have hbo := hbt w2 hl2
  clear hb2 ha hl2 HL hbt
  go_wp2_with fail
  refine hbo.mono ?_
  rintro e w3 ⟨rfl, hb3⟩
  have hB3 : Below w.heap.size w w3 := bel_step hB2 hb3 hB2.size
  clear hb3 hbo c0 c1
  go_wp2
  go_ret
  exact ⟨rfl, hB3⟩
set_option maxRecDepth 100000 in
set_option maxHeartbeats 1000000 in
theorem contact_i_7 (k0 n0 p0 k1 n1 p1 : Int) (g c : Nat) (w : World) (hl : Lie w g 0 [(k0, n0, p0), (k1, n1, p1)])
    (ha : ∀ w', Below w.heap.size w w' → Calls Tryd.prog 31 #[.agg #[.int .i64 7, .slice (some ⟨g, 0, none⟩) 2 c]] w' fun e w'' => e = .returned (.bool true) ∧ Below w'.heap.size w' w'') : Calls Tryd.prog 14 #[.agg #[.int .i64 7, .slice (some ⟨g, 0, none⟩) 2 c]] w fun e w' => e = .returned (.bool (wholeA (k0, n0, p0) && wholeA (k1, n1, p1) || realA (k0, n0, p0) && realA (k1, n1, p1))) ∧ Below w.heap.size w w' := by
  have hi := fun w => isContactOp_any 7 w
  rw [show (decide ((1 : Int) ≤ 7) && decide ((7 : Int) ≤ 10)) = true from rfl] at hi
  have HL := Lib.hid hl
  clear hl
  have hbt := fun w hl => bothOf_2 (k0, n0, p0) (k1, n1, p1) g c w hl
  generalize (wholeA (k0, n0, p0) && wholeA (k1, n1, p1) || realA (k0, n0, p0) && realA (k1, n1, p1)) = r at hbt ⊢
  go_enter Tryd.func14, Tryd.ntmps14
  go_wp2_with fail
  refine (hi _).mono ?_
  rintro e w1 ⟨rfl, rfl⟩
  clear hi
  go_wp2_with fail
  refine (ha _ (by repeat (first | exact Below.refl _ _ | assumption | refine Below.setCell ?_ (by first | (simp; done) | (simp; omega) | omega) _ | refine Below.alloc ?_ (by first | (simp; done) | (simp; omega) | omega) _ | refine Bx.bel_drewN ?_ _ | refine Below.drew ?_))).mono ?_
  rintro e w2 ⟨rfl, hb2⟩
  have b2 := (Box.new w #[.int .i64 7, .slice (some ⟨g, 0, none⟩) 2 c] 31).kept hb2
  have hB2 : Below w.heap.size w w2 := bel_step (by repeat (first | exact Below.refl _ _ | assumption | refine Below.setCell ?_ (by first | (simp; done) | (simp; omega) | omega) _ | refine Below.alloc ?_ (by first | (simp; done) | (simp; omega) | omega) _ | refine Bx.bel_drewN ?_ _ | refine Below.drew ?_)) hb2 (by simp)
  have c0 : w2.cell? ⟨w.heap.size, 0, none⟩ = some (.int .i64 7) := b2.cell 0
  have c1 : w2.cell? ⟨w.heap.size, 1, none⟩ = some (.slice (some ⟨g, 0, none⟩) 2 c) := b2.cell 1
  have hl2 := HL.out.kept hB2
  have hbo := hbt w2 hl2
  clear hb2 ha hl2 HL hbt
  go_wp2_with fail
  refine hbo.mono ?_
  rintro e w3 ⟨rfl, hb3⟩
  have hB3 : Below w.heap.size w w3 := bel_step hB2 hb3 hB2.size
  clear hb3 hbo c0 c1
  go_wp2
  go_ret
  exact ⟨rfl, hB3⟩
set_option maxRecDepth 100000 in
set_option maxHeartbeats 1000000 in
theorem contact_i_8 (k0 n0 p0 k1 n1 p1 : Int) (g c : Nat) (w : World) (hl : Lie w g 0 [(k0, n0, p0), (k1, n1, p1)])
    (ha : ∀ w', Below w.heap.size w w' → Calls Tryd.prog 31 #[.agg #[.int .i64 8, .slice (some ⟨g, 0, none⟩) 2 c]] w' fun e w'' => e = .returned (.bool true) ∧ Below w'.heap.size w' w'') : Calls Tryd.prog 14 #[.agg #[.int .i64 8, .slice (some ⟨g, 0, none⟩) 2 c]] w fun e w' => e = .returned (.bool (wholeA (k0, n0, p0) && wholeA (k1, n1, p1) || realA (k0, n0, p0) && realA (k1, n1, p1))) ∧ Below w.heap.size w w' := by
  have hi := fun w => isContactOp_any 8 w
  rw [show (decide ((1 : Int) ≤ 8) && decide ((8 : Int) ≤ 10)) = true from rfl] at hi
  have HL := Lib.hid hl
  clear hl
  have hbt := fun w hl => bothOf_2 (k0, n0, p0) (k1, n1, p1) g c w hl
  generalize (wholeA (k0, n0, p0) && wholeA (k1, n1, p1) || realA (k0, n0, p0) && realA (k1, n1, p1)) = r at hbt ⊢
  go_enter Tryd.func14, Tryd.ntmps14
  go_wp2_with fail
  refine (hi _).mono ?_
  rintro e w1 ⟨rfl, rfl⟩
  clear hi
  go_wp2_with fail
  refine (ha _ (by repeat (first | exact Below.refl _ _ | assumption | refine Below.setCell ?_ (by first | (simp; done) | (simp; omega) | omega) _ | refine Below.alloc ?_ (by first | (simp; done) | (simp; omega) | omega) _ | refine Bx.bel_drewN ?_ _ | refine Below.drew ?_))).mono ?_
  rintro e w2 ⟨rfl, hb2⟩
  have b2 := (Box.new w #[.int .i64 8, .slice (some ⟨g, 0, none⟩) 2 c] 31).kept hb2
  have hB2 : Below w.heap.size w w2 := bel_step (by repeat (first | exact Below.refl _ _ | assumption | refine Below.setCell ?_ (by first | (simp; done) | (simp; omega) | omega) _ | refine Below.alloc ?_ (by first | (simp; done) | (simp; omega) | omega) _ | refine Bx.bel_drewN ?_ _ | refine Below.drew ?_)) hb2 (by simp)
  have c0 : w2.cell? ⟨w.heap.size, 0, none⟩ = some (.int .i64 8) := b2.cell 0
  have c1 : w2.cell? ⟨w.heap.size, 1, none⟩ = some (.slice (some ⟨g, 0, none⟩) 2 c) := b2.cell 1
  have hl2 := HL.out.kept hB2
  have hbo := hbt w2 hl2
  clear hb2 ha hl2 HL hbt
  go_wp2_with fail
  refine hbo.mono ?_
  rintro e w3 ⟨rfl, hb3⟩
  have hB3 : Below w.heap.size w w3 := bel_step hB2 hb3 hB2.size
  clear hb3 hbo c0 c1
  go_wp2
  go_ret
  exact ⟨rfl, hB3⟩
set_option maxRecDepth 100000 in
set_option maxHeartbeats 1000000 in
theorem contact_i_9 (k0 n0 p0 k1 n1 p1 : Int) (g c : Nat) (w : World) (hl : Lie w g 0 [(k0, n0, p0), (k1, n1, p1)])
    (ha : ∀ w', Below w.heap.size w w' → Calls Tryd.prog 31 #[.agg #[.int .i64 9, .slice (some ⟨g, 0, none⟩) 2 c]] w' fun e w'' => e = .returned (.bool true) ∧ Below w'.heap.size w' w'') : Calls Tryd.prog 14 #[.agg #[.int .i64 9, .slice (some ⟨g, 0, none⟩) 2 c]] w fun e w' => e = .returned (.bool (wholeA (k0, n0, p0) && wholeA (k1, n1, p1) || realA (k0, n0, p0) && realA (k1, n1, p1))) ∧ Below w.heap.size w w' := by
  have hi := fun w => isContactOp_any 9 w
  rw [show (decide ((1 : Int) ≤ 9) && decide ((9 : Int) ≤ 10)) = true from rfl] at hi
  have HL := Lib.hid hl
  clear hl
  have hbt := fun w hl => bothOf_2 (k0, n0, p0) (k1, n1, p1) g c w hl
  generalize (wholeA (k0, n0, p0) && wholeA (k1, n1, p1) || realA (k0, n0, p0) && realA (k1, n1, p1)) = r at hbt ⊢
  go_enter Tryd.func14, Tryd.ntmps14
  go_wp2_with fail
  refine (hi _).mono ?_
  rintro e w1 ⟨rfl, rfl⟩
  clear hi
  go_wp2_with fail
  refine (ha _ (by repeat (first | exact Below.refl _ _ | assumption | refine Below.setCell ?_ (by first | (simp; done) | (simp; omega) | omega) _ | refine Below.alloc ?_ (by first | (simp; done) | (simp; omega) | omega) _ | refine Bx.bel_drewN ?_ _ | refine Below.drew ?_))).mono ?_
  rintro e w2 ⟨rfl, hb2⟩
  have b2 := (Box.new w #[.int .i64 9, .slice (some ⟨g, 0, none⟩) 2 c] 31).kept hb2
  have hB2 : Below w.heap.size w w2 := bel_step (by repeat (first | exact Below.refl _ _ | assumption | refine Below.setCell ?_ (by first | (simp; done) | (simp; omega) | omega) _ | refine Below.alloc ?_ (by first | (simp; done) | (simp; omega) | omega) _ | refine Bx.bel_drewN ?_ _ | refine Below.drew ?_)) hb2 (by simp)
  have c0 : w2.cell? ⟨w.heap.size, 0, none⟩ = some (.int .i64 9) := b2.cell 0
  have c1 : w2.cell? ⟨w.heap.size, 1, none⟩ = some (.slice (some ⟨g, 0, none⟩) 2 c) := b2.cell 1
  have hl2 := HL.out.kept hB2
  have hbo := hbt w2 hl2
  clear hb2 ha hl2 HL hbt
  go_wp2_with fail
  refine hbo.mono ?_
  rintro e w3 ⟨rfl, hb3⟩
  have hB3 : Below w.heap.size w w3 := bel_step hB2 hb3 hB2.size
  clear hb3 hbo c0 c1
  go_wp2
  go_ret
  exact ⟨rfl, hB3⟩
set_option maxRecDepth 100000 in
set_option maxHeartbeats 1000000 in
theorem contact_i_10 (k0 n0 p0 k1 n1 p1 : Int) (g c : Nat) (w : World) (hl : Lie w g 0 [(k0, n0, p0), (k1, n1, p1)])
    (ha : ∀ w', Below w.heap.size w w' → Calls Tryd.prog 31 #[.agg #[.int .i64 10, .slice (some ⟨g, 0, none⟩) 2 c]] w' fun e w'' => e = .returned (.bool true) ∧ Below w'.heap.size w' w'') : Calls Tryd.prog 14 #[.agg #[.int .i64 10, .slice (some ⟨g, 0, none⟩) 2 c]] w fun e w' => e = .returned (.bool (wholeA (k0, n0, p0) && wholeA (k1, n1, p1) || realA (k0, n0, p0) && realA (k1, n1, p1))) ∧ Below w.heap.size w w' := by
  have hi := fun w => isContactOp_any 10 w
  rw [show (decide ((1 : Int) ≤ 10) && decide ((10 : Int) ≤ 10)) = true from rfl] at hi
  have HL := Lib.hid hl
  clear hl
  have hbt := fun w hl => bothOf_2 (k0, n0, p0) (k1, n1, p1) g c w hl
  generalize (wholeA (k0, n0, p0) && wholeA (k1, n1, p1) || realA (k0, n0, p0) && realA (k1, n1, p1)) = r at hbt ⊢
  go_enter Tryd.func14, Tryd.ntmps14
  go_wp2_with fail
  refine (hi _).mono ?_
  rintro e w1 ⟨rfl, rfl⟩
  clear hi
  go_wp2_with fail
  refine (ha _ (by repeat (first | exact Below.refl _ _ | assumption | refine Below.setCell ?_ (by first | (simp; done) | (simp; omega) | omega) _ | refine Below.alloc ?_ (by first | (simp; done) | (simp; omega) | omega) _ | refine Bx.bel_drewN ?_ _ | refine Below.drew ?_))).mono ?_
  rintro e w2 ⟨rfl, hb2⟩
  have b2 := (Box.new w #[.int .i64 10, .slice (some ⟨g, 0, none⟩) 2 c] 31).kept hb2
  have hB2 : Below w.heap.size w w2 := bel_step (by repeat (first | exact Below.refl _ _ | assumption | refine Below.setCell ?_ (by first | (simp; done) | (simp; omega) | omega) _ | refine Below.alloc ?_ (by first | (simp; done) | (simp; omega) | omega) _ | refine Bx.bel_drewN ?_ _ | refine Below.drew ?_)) hb2 (by simp)
  have c0 : w2.cell? ⟨w.heap.size, 0, none⟩ = some (.int .i64 10) := b2.cell 0
  have c1 : w2.cell? ⟨w.heap.size, 1, none⟩ = some (.slice (some ⟨g, 0, none⟩) 2 c) := b2.cell 1
  have hl2 := HL.out.kept hB2
  have hbo := hbt w2 hl2
  clear hb2 ha hl2 HL hbt
  go_wp2_with fail
  refine hbo.mono ?_
  rintro e w3 ⟨rfl, hb3⟩
  have hB3 : Below w.heap.size w w3 := bel_step hB2 hb3 hB2.size
  clear hb3 hbo c0 c1
  go_wp2
  go_ret
  exact ⟨rfl, hB3⟩
end Go.Proofs.YtmlpobecilbknaaDoor
