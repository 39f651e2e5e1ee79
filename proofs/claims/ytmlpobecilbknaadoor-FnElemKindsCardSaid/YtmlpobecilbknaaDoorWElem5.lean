/- The reference's ElemIsCoil. -/
import Derived.Test.YtmlpobecilbknaaDoorRows
import Derived.Test.YtmlpobecilbknaaDoorWElem4
import Derived.WalkKit
import Derived.WalkSpells
import Derived.WalkLawsBesides
import Derived.OpenShut
import Derived.IntWalk
import Derived.Lib.Hide
import Derived.Deep.QuietTactic
import Derived.BigQuiet
import Derived.Deep.RegionHeld3
namespace Go.Proofs.YtmlpobecilbknaaDoor
open Go.RowKit Bx ElemP
set_option linter.unusedVariables false

set_option maxRecDepth 100000 in
set_option maxHeartbeats 1000000 in
theorem coil_s_low (op : Int) (a : Option Addr) (n c : Nat) (h : op < 21) (w : World) : Calls Tryd.prog 17 #[.agg #[.int .i64 op, .slice a n c]] w fun e w' => e = .returned (.bool false) ∧ Below w.heap.size w w' := by
  have d1 : decide (op < 21) = true := by simpa using h
  go_enter Tryd.func17, Tryd.ntmps17
  go_wp2_with fail
  first
    | (go_ret; exact ⟨rfl, by repeat (first | exact Below.refl _ _ | assumption | refine Below.setCell ?_ (by first | (simp; done) | (simp; omega) | omega) _ | refine Below.alloc ?_ (by first | (simp; done) | (simp; omega) | omega) _ | refine Bx.bel_drewN ?_ _ | refine Below.drew ?_)⟩)
    | (have b1 := Box.new w #[.int .i64 op, .slice a n c] 31
       have hB1 : Below w.heap.size w (w.alloc (.cells #[.int .i64 op, .slice a n c] 31)) := by repeat (first | exact Below.refl _ _ | assumption | refine Below.setCell ?_ (by first | (simp; done) | (simp; omega) | omega) _ | refine Below.alloc ?_ (by first | (simp; done) | (simp; omega) | omega) _ | refine Bx.bel_drewN ?_ _ | refine Below.drew ?_)
       generalize w.alloc (.cells #[.int .i64 op, .slice a n c] 31) = W1 at b1 hB1 ⊢
       have e0 : W1.cell? ⟨w.heap.size, 0, none⟩ = some (.int .i64 op) := b1.cell 0
       have e1 : W1.cell? ⟨w.heap.size, 1, none⟩ = some (.slice a n c) := b1.cell 1
       go_quiet (fail)
       go_wp2
       go_ret
       exact ⟨rfl, by first | exact hB1 | exact bel_drewN hB1 _⟩)
set_option maxRecDepth 100000 in
set_option maxHeartbeats 1000000 in
theorem coil_s_high (op : Int) (a : Option Addr) (n c : Nat) (h : 37 < op) (w : World) : Calls Tryd.prog 17 #[.agg #[.int .i64 op, .slice a n c]] w fun e w' => e = .returned (.bool false) ∧ Below w.heap.size w w' := by
  have d1 : decide (op < 21) = false := by simp; omega
  have d2 : decide (37 < op) = true := by simpa using h
  go_enter Tryd.func17, Tryd.ntmps17
  go_wp2_with fail
  first
    | (go_ret; exact ⟨rfl, by repeat (first | exact Below.refl _ _ | assumption | refine Below.setCell ?_ (by first | (simp; done) | (simp; omega) | omega) _ | refine Below.alloc ?_ (by first | (simp; done) | (simp; omega) | omega) _ | refine Bx.bel_drewN ?_ _ | refine Below.drew ?_)⟩)
    | (have b1 := Box.new w #[.int .i64 op, .slice a n c] 31
       have hB1 : Below w.heap.size w (w.alloc (.cells #[.int .i64 op, .slice a n c] 31)) := by repeat (first | exact Below.refl _ _ | assumption | refine Below.setCell ?_ (by first | (simp; done) | (simp; omega) | omega) _ | refine Below.alloc ?_ (by first | (simp; done) | (simp; omega) | omega) _ | refine Bx.bel_drewN ?_ _ | refine Below.drew ?_)
       generalize w.alloc (.cells #[.int .i64 op, .slice a n c] 31) = W1 at b1 hB1 ⊢
       have e0 : W1.cell? ⟨w.heap.size, 0, none⟩ = some (.int .i64 op) := b1.cell 0
       have e1 : W1.cell? ⟨w.heap.size, 1, none⟩ = some (.slice a n c) := b1.cell 1
       go_quiet (fail)
       go_wp2
       go_ret
       exact ⟨rfl, by first | exact hB1 | exact bel_drewN hB1 _⟩)
set_option maxRecDepth 100000 in
set_option maxHeartbeats 1000000 in
theorem coil_s_len (op : Int) (a : Option Addr) (n c : Nat) (h1 : 21 ≤ op) (h2 : op ≤ 37) (hne : n ≠ arity op) (w : World) : Calls Tryd.prog 17 #[.agg #[.int .i64 op, .slice a n c]] w fun e w' => e = .returned (.bool false) ∧ Below w.heap.size w w' := by
  have ha := fun w => arity_s_any op w
  generalize arity op = r at ha hne
  have d1 : decide (op < 21) = false := by simp; omega
  have d2 : decide (37 < op) = false := by simp; omega
  have hn2 : ((n : Int) == (r : Int)) = false := by simp; omega
  have hn3 : (n == r) = false := by simpa using hne
  have hn4 : ¬ (n : Int) = (r : Int) := by omega
  clear h1 h2
  have b1 := Box.new w #[.int .i64 op, .slice a n c] 31
  have hB1 : Below w.heap.size w (w.alloc (.cells #[.int .i64 op, .slice a n c] 31)) := by repeat (first | exact Below.refl _ _ | assumption | refine Below.setCell ?_ (by first | (simp; done) | (simp; omega) | omega) _ | refine Below.alloc ?_ (by first | (simp; done) | (simp; omega) | omega) _ | refine Bx.bel_drewN ?_ _ | refine Below.drew ?_)
  go_enter Tryd.func17, Tryd.ntmps17
  go_wp2_with fail
  generalize w.alloc (.cells #[.int .i64 op, .slice a n c] 31) = W1 at b1 hB1 ⊢
  have e0 : W1.cell? ⟨w.heap.size, 0, none⟩ = some (.int .i64 op) := b1.cell 0
  have e1 : W1.cell? ⟨w.heap.size, 1, none⟩ = some (.slice a n c) := b1.cell 1
  go_quiet ((go_at_call 41; exact Calls.quiet_of_same (ha _)))
  go_wp2
  go_ret
  exact ⟨rfl, bel_drewN hB1 _⟩
set_option maxRecDepth 100000 in
set_option maxHeartbeats 1000000 in
theorem calc_true (op k0 n0 p0 : Int) (rest : List Arg) (g n c : Nat) (hn : n = rest.length + 1) (h3 : n ≤ 100) (w : World) (hl : Lie w g 0 ((k0, n0, p0) :: rest)) (K : Bool) (hK : kindA (k0, n0, p0) 9 10 = K) (hP : (k0 == 9) = true) (D : Bool) (hD : (op != 35) = D) :
    Calls Tryd.prog 47 #[.agg #[.int .i64 op, .slice (some ⟨g, 0, none⟩) n c]] w fun e w' => e = .returned (.bool (K && rest.all wholeA)) ∧ Below w.heap.size w w' := by
  have hk := fun w => kind_any k0 n0 p0 9 10 w
  rw [hK] at hk
  clear hK
  have HN := Lib.hid hn
  have b1 := Box.new w #[.int .i64 op, .slice (some ⟨g, 0, none⟩) n c] 31
  have hB1 : Below w.heap.size w (w.alloc (.cells #[.int .i64 op, .slice (some ⟨g, 0, none⟩) n c] 31)) := by repeat (first | exact Below.refl _ _ | assumption | refine Below.setCell ?_ (by first | (simp; done) | (simp; omega) | omega) _ | refine Below.alloc ?_ (by first | (simp; done) | (simp; omega) | omega) _ | refine Bx.bel_drewN ?_ _ | refine Below.drew ?_)
  have hl1 := hl.kept hB1
  have HL := Lib.hid hl
  clear hl hn
  have q0 : (w.alloc (.cells #[.int .i64 op, .slice (some ⟨g, 0, none⟩) n c] 31)).cell? ⟨g, 0, none⟩ = some (.int .i64 k0) := (hl1.at 0 _ rfl).1
  have q1 : (w.alloc (.cells #[.int .i64 op, .slice (some ⟨g, 0, none⟩) n c] 31)).cell? ⟨g, 1, none⟩ = some (.int .i64 n0) := (hl1.at 0 _ rfl).2.1
  have q2 : (w.alloc (.cells #[.int .i64 op, .slice (some ⟨g, 0, none⟩) n c] 31)).cell? ⟨g, 2, none⟩ = some (.int .i64 p0) := (hl1.at 0 _ rfl).2.2
  have hn1 : (1 : Int) ≤ n := by have := HN.out; omega
  go_enter Tryd.func47, Tryd.ntmps47
  go_wp2_with fail
  refine (hk _).mono ?_
  rintro e w2 ⟨rfl, hb2⟩
  have b2 := b1.kept hb2
  have hB2 : Below w.heap.size w w2 := bel_step hB1 hb2 hB1.size
  have hl2 := HL.out.kept hB2
  clear hb2 hk b1 hB1 hl1 q0 q1 q2
  have c0 : w2.cell? ⟨w.heap.size, 0, none⟩ = some (.int .i64 op) := b2.cell 0
  have c1 : w2.cell? ⟨w.heap.size, 1, none⟩ = some (.slice (some ⟨g, 0, none⟩) n c) := b2.cell 1
  have q0 : w2.cell? ⟨g, 0, none⟩ = some (.int .i64 k0) := (hl2.at 0 _ rfl).1
  have q1 : w2.cell? ⟨g, 1, none⟩ = some (.int .i64 n0) := (hl2.at 0 _ rfl).2.1
  have q2 : w2.cell? ⟨g, 2, none⟩ = some (.int .i64 p0) := (hl2.at 0 _ rfl).2.2
  clear hl2
  cases K with
  | false =>
    go_wp2
    go_ret
    exact ⟨rfl, hB2⟩
  | true =>
    go_wp2_with fail
    go_loopw [4] (fun i wr => ∃ k : Nat, 1 ≤ k ∧ k ≤ n ∧ i = .int .i64 k ∧ (rest.take (k - 1)).all wholeA = true ∧ Box wr w.heap.size #[.int .i64 op, .slice (some ⟨g, 0, none⟩) n c] 31 ∧ Below w.heap.size w wr) (fun i _ => n - (intOf i).toNat)
    case atStart => exact ⟨1, by omega, by omega, rfl, rfl, b2, hB2⟩
    case round =>
      obtain ⟨k, hk1, hk, rfl, hall, hbox, hbel⟩ := hrel
      have HA := Lib.hid hall
      clear hall c0 c1 q0 q1 q2 b2 hB2
      have c0 : wr.cell? ⟨w.heap.size, 0, none⟩ = some (.int .i64 op) := hbox.cell 0
      have c1 : wr.cell? ⟨w.heap.size, 1, none⟩ = some (.slice (some ⟨g, 0, none⟩) n c) := hbox.cell 1
      by_cases hlt : k < n
      · obtain ⟨z, hz⟩ : ∃ z, rest[k - 1]? = some z := ⟨_, List.getElem?_eq_getElem (by have := HN.out; omega)⟩
        have hz2 : ((k0, n0, p0) :: rest)[k]? = some z := by
          rw [show k = (k - 1) + 1 by omega, List.getElem?_cons_succ]; exact hz
        have hl := HL.out.kept hbel
        obtain ⟨q0, q1, q2⟩ := hl.at k z hz2
        have HZ := Lib.hid hz
        have cz := fun w => devIsWhole_s_any z.1 z.2.1 z.2.2 w
        obtain ⟨z0, z1, z2⟩ := z
        simp only at q0 q1 q2 cz
        rw [show DevP.isWhole z0 z1 z2 = wholeA (z0, z1, z2) from rfl] at cz
        have d1 : (k : Int) < (n : Int) := by omega
        clear hz hz2 hl
        go_wp2_with fail
        refine (cz _).mono ?_
        rintro e w5 ⟨rfl, hb5⟩
        have hB5 : Below w.heap.size w w5 := bel_step hbel hb5 hbel.size
        have bb5 := hbox.kept hb5
        clear hb5 cz c0 c1 q0 q1 q2 hbox
        cases hr : wholeA (z0, z1, z2) with
        | true =>
          have HR := Lib.hid hr
          clear hr
          go_wp2
          go_roundw
          case rel => exact ⟨k + 1, by omega, by omega, by go_num, by rw [show k + 1 - 1 = (k - 1) + 1 by omega, all_snoc HZ.out, HA.out, HR.out]; rfl, bb5, hB5⟩
          case measure => simp [intOf]; omega
        | false =>
          have HR := Lib.hid hr
          clear hr
          go_wp2
          go_ret
          refine ⟨?_, hB5⟩
          have : rest.all wholeA = false := by
            have hm : (z0, z1, z2) ∈ rest := List.mem_of_getElem? HZ.out
            rw [List.all_eq_false]
            exact ⟨_, hm, by rw [HR.out]; decide⟩
          rw [this]; rfl
      · obtain rfl : k = n := by omega
        have ht : rest.all wholeA = true := by have := HA.out; rwa [List.take_of_length_le (by have := HN.out; omega)] at this
        have HT := Lib.hid ht
        clear ht
        go_wp2
        go_ret
        exact ⟨by rw [HT.out] <;> rfl, hbel⟩
set_option maxRecDepth 100000 in
set_option maxHeartbeats 1000000 in
theorem calc_false (op k0 n0 p0 : Int) (rest : List Arg) (g n c : Nat) (hn : n = rest.length + 1) (h3 : n ≤ 100) (w : World) (hl : Lie w g 0 ((k0, n0, p0) :: rest)) (K : Bool) (hK : kindA (k0, n0, p0) 9 10 = K) (hP : (k0 == 9) = false) (D : Bool) (hD : (op != 35) = D) :
    Calls Tryd.prog 47 #[.agg #[.int .i64 op, .slice (some ⟨g, 0, none⟩) n c]] w fun e w' => e = .returned (.bool (K && (rest.all realA && D))) ∧ Below w.heap.size w w' := by
  have hk := fun w => kind_any k0 n0 p0 9 10 w
  rw [hK] at hk
  clear hK
  have HN := Lib.hid hn
  have b1 := Box.new w #[.int .i64 op, .slice (some ⟨g, 0, none⟩) n c] 31
  have hB1 : Below w.heap.size w (w.alloc (.cells #[.int .i64 op, .slice (some ⟨g, 0, none⟩) n c] 31)) := by repeat (first | exact Below.refl _ _ | assumption | refine Below.setCell ?_ (by first | (simp; done) | (simp; omega) | omega) _ | refine Below.alloc ?_ (by first | (simp; done) | (simp; omega) | omega) _ | refine Bx.bel_drewN ?_ _ | refine Below.drew ?_)
  have hl1 := hl.kept hB1
  have HL := Lib.hid hl
  clear hl hn
  have q0 : (w.alloc (.cells #[.int .i64 op, .slice (some ⟨g, 0, none⟩) n c] 31)).cell? ⟨g, 0, none⟩ = some (.int .i64 k0) := (hl1.at 0 _ rfl).1
  have q1 : (w.alloc (.cells #[.int .i64 op, .slice (some ⟨g, 0, none⟩) n c] 31)).cell? ⟨g, 1, none⟩ = some (.int .i64 n0) := (hl1.at 0 _ rfl).2.1
  have q2 : (w.alloc (.cells #[.int .i64 op, .slice (some ⟨g, 0, none⟩) n c] 31)).cell? ⟨g, 2, none⟩ = some (.int .i64 p0) := (hl1.at 0 _ rfl).2.2
  have hn1 : (1 : Int) ≤ n := by have := HN.out; omega
  go_enter Tryd.func47, Tryd.ntmps47
  go_wp2_with fail
  refine (hk _).mono ?_
  rintro e w2 ⟨rfl, hb2⟩
  have b2 := b1.kept hb2
  have hB2 : Below w.heap.size w w2 := bel_step hB1 hb2 hB1.size
  have hl2 := HL.out.kept hB2
  clear hb2 hk b1 hB1 hl1 q0 q1 q2
  have c0 : w2.cell? ⟨w.heap.size, 0, none⟩ = some (.int .i64 op) := b2.cell 0
  have c1 : w2.cell? ⟨w.heap.size, 1, none⟩ = some (.slice (some ⟨g, 0, none⟩) n c) := b2.cell 1
  have q0 : w2.cell? ⟨g, 0, none⟩ = some (.int .i64 k0) := (hl2.at 0 _ rfl).1
  have q1 : w2.cell? ⟨g, 1, none⟩ = some (.int .i64 n0) := (hl2.at 0 _ rfl).2.1
  have q2 : w2.cell? ⟨g, 2, none⟩ = some (.int .i64 p0) := (hl2.at 0 _ rfl).2.2
  clear hl2
  cases K with
  | false =>
    go_wp2
    go_ret
    exact ⟨rfl, hB2⟩
  | true =>
    go_wp2_with fail
    go_loopw [4] (fun i wr => ∃ k : Nat, 1 ≤ k ∧ k ≤ n ∧ i = .int .i64 k ∧ (rest.take (k - 1)).all realA = true ∧ Box wr w.heap.size #[.int .i64 op, .slice (some ⟨g, 0, none⟩) n c] 31 ∧ Below w.heap.size w wr) (fun i _ => n - (intOf i).toNat)
    case atStart => exact ⟨1, by omega, by omega, rfl, rfl, b2, hB2⟩
    case round =>
      obtain ⟨k, hk1, hk, rfl, hall, hbox, hbel⟩ := hrel
      have HA := Lib.hid hall
      clear hall c0 c1 q0 q1 q2 b2 hB2
      have c0 : wr.cell? ⟨w.heap.size, 0, none⟩ = some (.int .i64 op) := hbox.cell 0
      have c1 : wr.cell? ⟨w.heap.size, 1, none⟩ = some (.slice (some ⟨g, 0, none⟩) n c) := hbox.cell 1
      by_cases hlt : k < n
      · obtain ⟨z, hz⟩ : ∃ z, rest[k - 1]? = some z := ⟨_, List.getElem?_eq_getElem (by have := HN.out; omega)⟩
        have hz2 : ((k0, n0, p0) :: rest)[k]? = some z := by
          rw [show k = (k - 1) + 1 by omega, List.getElem?_cons_succ]; exact hz
        have hl := HL.out.kept hbel
        obtain ⟨q0, q1, q2⟩ := hl.at k z hz2
        have HZ := Lib.hid hz
        have cz := fun w => devIsReal_s_any z.1 z.2.1 z.2.2 w
        obtain ⟨z0, z1, z2⟩ := z
        simp only at q0 q1 q2 cz
        rw [show DevP.isReal z0 z1 z2 = realA (z0, z1, z2) from rfl] at cz
        have d1 : (k : Int) < (n : Int) := by omega
        clear hz hz2 hl
        go_wp2_with fail
        refine (cz _).mono ?_
        rintro e w5 ⟨rfl, hb5⟩
        have hB5 : Below w.heap.size w w5 := bel_step hbel hb5 hbel.size
        have bb5 := hbox.kept hb5
        clear hb5 cz c0 c1 q0 q1 q2 hbox
        cases hr : realA (z0, z1, z2) with
        | true =>
          have HR := Lib.hid hr
          clear hr
          go_wp2
          go_roundw
          case rel => exact ⟨k + 1, by omega, by omega, by go_num, by rw [show k + 1 - 1 = (k - 1) + 1 by omega, all_snoc HZ.out, HA.out, HR.out]; rfl, bb5, hB5⟩
          case measure => simp [intOf]; omega
        | false =>
          have HR := Lib.hid hr
          clear hr
          go_wp2
          go_ret
          refine ⟨?_, hB5⟩
          have : rest.all realA = false := by
            have hm : (z0, z1, z2) ∈ rest := List.mem_of_getElem? HZ.out
            rw [List.all_eq_false]
            exact ⟨_, hm, by rw [HR.out]; decide⟩
          rw [this]; rfl
      · obtain rfl : k = n := by omega
        have ht : rest.all realA = true := by have := HA.out; rwa [List.take_of_length_le (by have := HN.out; omega)] at this
        have HT := Lib.hid ht
        clear ht
        go_wp2
        go_ret
        exact ⟨by rw [HT.out]; cases D <;> rfl, hbel⟩
set_option maxRecDepth 100000 in
set_option maxHeartbeats 1000000 in
theorem coil_s_21 (k0 n0 p0 : Int) (g c : Nat) (w : World) (hl : Lie w g 0 [(k0, n0, p0)]) (r : Bool) (hr : kindA (k0, n0, p0) 2 3 = r) : Calls Tryd.prog 17 #[.agg #[.int .i64 21, .slice (some ⟨g, 0, none⟩) 1 c]] w fun e w' => e = .returned (.bool r) ∧ Below w.heap.size w w' := by
  have ha := fun w => arity_s_21 w
  have cr := fun w => kind_any k0 n0 p0 2 3 w
  rw [hr] at cr
  clear hr
  have b1 := Box.new w #[.int .i64 21, .slice (some ⟨g, 0, none⟩) 1 c] 31
  have hB1 : Below w.heap.size w (w.alloc (.cells #[.int .i64 21, .slice (some ⟨g, 0, none⟩) 1 c] 31)) := by repeat (first | exact Below.refl _ _ | assumption | refine Below.setCell ?_ (by first | (simp; done) | (simp; omega) | omega) _ | refine Below.alloc ?_ (by first | (simp; done) | (simp; omega) | omega) _ | refine Bx.bel_drewN ?_ _ | refine Below.drew ?_)
  have hl1 := hl.kept hB1
  clear hl
  go_enter Tryd.func17, Tryd.ntmps17
  go_wp2_with fail
  generalize w.alloc (.cells #[.int .i64 21, .slice (some ⟨g, 0, none⟩) 1 c] 31) = W1 at b1 hB1 hl1 ⊢
  have c0 : W1.cell? ⟨w.heap.size, 0, none⟩ = some (.int .i64 21) := b1.cell 0
  have c1 : W1.cell? ⟨w.heap.size, 1, none⟩ = some (.slice (some ⟨g, 0, none⟩) 1 c) := b1.cell 1
  have q00 : W1.cell? ⟨g, 0, none⟩ = some (.int .i64 k0) := (hl1.at 0 _ rfl).1
  have q01 : W1.cell? ⟨g, 1, none⟩ = some (.int .i64 n0) := (hl1.at 0 _ rfl).2.1
  have q02 : W1.cell? ⟨g, 2, none⟩ = some (.int .i64 p0) := (hl1.at 0 _ rfl).2.2
  go_quiet ((go_at_call 41; exact Calls.quiet_of_same (ha _)))
  have b1 := b1.drewN nq
  have hl1 : Lie (W1.drewN nq) g 0 [(k0, n0, p0)] := hl1
  have hB1 : Below w.heap.size w (W1.drewN nq) := bel_drewN hB1 _
  generalize W1.drewN nq = W2 at b1 hB1 hl1 ⊢
  clear c0 c1 q00 q01 q02 ha
  have c0 : W2.cell? ⟨w.heap.size, 0, none⟩ = some (.int .i64 21) := b1.cell 0
  have c1 : W2.cell? ⟨w.heap.size, 1, none⟩ = some (.slice (some ⟨g, 0, none⟩) 1 c) := b1.cell 1
  have q00 : W2.cell? ⟨g, 0, none⟩ = some (.int .i64 k0) := (hl1.at 0 _ rfl).1
  have q01 : W2.cell? ⟨g, 1, none⟩ = some (.int .i64 n0) := (hl1.at 0 _ rfl).2.1
  have q02 : W2.cell? ⟨g, 2, none⟩ = some (.int .i64 p0) := (hl1.at 0 _ rfl).2.2
  have l2 : w.heap.size < W2.heap.size := b1.lt
  have lg : g < W2.heap.size := hl1.1
  have x1 := Box.new W2 #[.int .i64 k0, .int .i64 n0, .int .i64 p0] 40
  have b1' := b1.alloc (.cells #[.int .i64 k0, .int .i64 n0, .int .i64 p0] 40)
  have hB1' : Below w.heap.size w (W2.alloc (.cells #[.int .i64 k0, .int .i64 n0, .int .i64 p0] 40)) := hB1.alloc hB1.size _
  have hl1' : Lie (W2.alloc (.cells #[.int .i64 k0, .int .i64 n0, .int .i64 p0] 40)) g 0 [(k0, n0, p0)] := hl1.kept ((Below.refl _ _).alloc (Nat.le_refl _) _)
  go_wp2_with fail
  refine (cr _).mono ?_
  rintro e v2 ⟨rfl, hb2⟩
  have x2 := x1.kept hb2
  have b2 := b1'.kept hb2
  have hl2 := hl1'.kept hb2
  have hB2 : Below w.heap.size w v2 := bel_step hB1' hb2 hB1'.size
  clear c0 c1 q00 q01 q02
  have c0 : v2.cell? ⟨w.heap.size, 0, none⟩ = some (.int .i64 21) := b2.cell 0
  have c1 : v2.cell? ⟨w.heap.size, 1, none⟩ = some (.slice (some ⟨g, 0, none⟩) 1 c) := b2.cell 1
  have q00 : v2.cell? ⟨g, 0, none⟩ = some (.int .i64 k0) := (hl2.at 0 _ rfl).1
  have q01 : v2.cell? ⟨g, 1, none⟩ = some (.int .i64 n0) := (hl2.at 0 _ rfl).2.1
  have q02 : v2.cell? ⟨g, 2, none⟩ = some (.int .i64 p0) := (hl2.at 0 _ rfl).2.2
  have a0 : v2.cell? ⟨W2.heap.size, 0, none⟩ = some (.int .i64 k0) := x2.cell 0
  have a1 : v2.cell? ⟨W2.heap.size, 1, none⟩ = some (.int .i64 n0) := x2.cell 1
  have a2 : v2.cell? ⟨W2.heap.size, 2, none⟩ = some (.int .i64 p0) := x2.cell 2
  clear hb2
  go_wp2
  go_ret
  exact ⟨rfl, hB2⟩
set_option maxRecDepth 100000 in
set_option maxHeartbeats 1000000 in
theorem coil_s_22 (k0 n0 p0 : Int) (g c : Nat) (w : World) (hl : Lie w g 0 [(k0, n0, p0)]) (r : Bool) (hr : kindA (k0, n0, p0) 2 3 = r) (s : Bool) (hs : kindA (k0, n0, p0) 4 4 = s) : Calls Tryd.prog 17 #[.agg #[.int .i64 22, .slice (some ⟨g, 0, none⟩) 1 c]] w fun e w' => e = .returned (.bool (r || s)) ∧ Below w.heap.size w w' := by
  have ha := fun w => arity_s_22 w
  have cr := fun w => kind_any k0 n0 p0 2 3 w
  rw [hr] at cr
  clear hr
  have cs := fun w => kind_any k0 n0 p0 4 4 w
  rw [hs] at cs
  clear hs
  have b1 := Box.new w #[.int .i64 22, .slice (some ⟨g, 0, none⟩) 1 c] 31
  have hB1 : Below w.heap.size w (w.alloc (.cells #[.int .i64 22, .slice (some ⟨g, 0, none⟩) 1 c] 31)) := by repeat (first | exact Below.refl _ _ | assumption | refine Below.setCell ?_ (by first | (simp; done) | (simp; omega) | omega) _ | refine Below.alloc ?_ (by first | (simp; done) | (simp; omega) | omega) _ | refine Bx.bel_drewN ?_ _ | refine Below.drew ?_)
  have hl1 := hl.kept hB1
  clear hl
  go_enter Tryd.func17, Tryd.ntmps17
  go_wp2_with fail
  generalize w.alloc (.cells #[.int .i64 22, .slice (some ⟨g, 0, none⟩) 1 c] 31) = W1 at b1 hB1 hl1 ⊢
  have c0 : W1.cell? ⟨w.heap.size, 0, none⟩ = some (.int .i64 22) := b1.cell 0
  have c1 : W1.cell? ⟨w.heap.size, 1, none⟩ = some (.slice (some ⟨g, 0, none⟩) 1 c) := b1.cell 1
  have q00 : W1.cell? ⟨g, 0, none⟩ = some (.int .i64 k0) := (hl1.at 0 _ rfl).1
  have q01 : W1.cell? ⟨g, 1, none⟩ = some (.int .i64 n0) := (hl1.at 0 _ rfl).2.1
  have q02 : W1.cell? ⟨g, 2, none⟩ = some (.int .i64 p0) := (hl1.at 0 _ rfl).2.2
  go_quiet ((go_at_call 41; exact Calls.quiet_of_same (ha _)))
  have b1 := b1.drewN nq
  have hl1 : Lie (W1.drewN nq) g 0 [(k0, n0, p0)] := hl1
  have hB1 : Below w.heap.size w (W1.drewN nq) := bel_drewN hB1 _
  generalize W1.drewN nq = W2 at b1 hB1 hl1 ⊢
  clear c0 c1 q00 q01 q02 ha
  have c0 : W2.cell? ⟨w.heap.size, 0, none⟩ = some (.int .i64 22) := b1.cell 0
  have c1 : W2.cell? ⟨w.heap.size, 1, none⟩ = some (.slice (some ⟨g, 0, none⟩) 1 c) := b1.cell 1
  have q00 : W2.cell? ⟨g, 0, none⟩ = some (.int .i64 k0) := (hl1.at 0 _ rfl).1
  have q01 : W2.cell? ⟨g, 1, none⟩ = some (.int .i64 n0) := (hl1.at 0 _ rfl).2.1
  have q02 : W2.cell? ⟨g, 2, none⟩ = some (.int .i64 p0) := (hl1.at 0 _ rfl).2.2
  have l2 : w.heap.size < W2.heap.size := b1.lt
  have lg : g < W2.heap.size := hl1.1
  have x1 := Box.new W2 #[.int .i64 k0, .int .i64 n0, .int .i64 p0] 40
  have b1' := b1.alloc (.cells #[.int .i64 k0, .int .i64 n0, .int .i64 p0] 40)
  have hB1' : Below w.heap.size w (W2.alloc (.cells #[.int .i64 k0, .int .i64 n0, .int .i64 p0] 40)) := hB1.alloc hB1.size _
  have hl1' : Lie (W2.alloc (.cells #[.int .i64 k0, .int .i64 n0, .int .i64 p0] 40)) g 0 [(k0, n0, p0)] := hl1.kept ((Below.refl _ _).alloc (Nat.le_refl _) _)
  go_wp2_with fail
  refine (cr _).mono ?_
  rintro e v2 ⟨rfl, hb2⟩
  have x2 := x1.kept hb2
  have b2 := b1'.kept hb2
  have hl2 := hl1'.kept hb2
  have hB2 : Below w.heap.size w v2 := bel_step hB1' hb2 hB1'.size
  clear c0 c1 q00 q01 q02
  have c0 : v2.cell? ⟨w.heap.size, 0, none⟩ = some (.int .i64 22) := b2.cell 0
  have c1 : v2.cell? ⟨w.heap.size, 1, none⟩ = some (.slice (some ⟨g, 0, none⟩) 1 c) := b2.cell 1
  have q00 : v2.cell? ⟨g, 0, none⟩ = some (.int .i64 k0) := (hl2.at 0 _ rfl).1
  have q01 : v2.cell? ⟨g, 1, none⟩ = some (.int .i64 n0) := (hl2.at 0 _ rfl).2.1
  have q02 : v2.cell? ⟨g, 2, none⟩ = some (.int .i64 p0) := (hl2.at 0 _ rfl).2.2
  have a0 : v2.cell? ⟨W2.heap.size, 0, none⟩ = some (.int .i64 k0) := x2.cell 0
  have a1 : v2.cell? ⟨W2.heap.size, 1, none⟩ = some (.int .i64 n0) := x2.cell 1
  have a2 : v2.cell? ⟨W2.heap.size, 2, none⟩ = some (.int .i64 p0) := x2.cell 2
  clear hb2
  cases r with
  | true =>
    go_wp2
    go_ret
    exact ⟨rfl, hB2⟩
  | false =>
    go_wp2_with fail
    refine (cs _).mono ?_
    rintro e v3 ⟨rfl, hb3⟩
    have x3 := x2.kept hb3
    have b3 := b2.kept hb3
    have hl3 := hl2.kept hb3
    have hB3 : Below w.heap.size w v3 := bel_step hB2 hb3 hB2.size
    clear c0 c1 q00 q01 q02 a0 a1 a2
    have c0 : v3.cell? ⟨w.heap.size, 0, none⟩ = some (.int .i64 22) := b3.cell 0
    have c1 : v3.cell? ⟨w.heap.size, 1, none⟩ = some (.slice (some ⟨g, 0, none⟩) 1 c) := b3.cell 1
    have q00 : v3.cell? ⟨g, 0, none⟩ = some (.int .i64 k0) := (hl3.at 0 _ rfl).1
    have q01 : v3.cell? ⟨g, 1, none⟩ = some (.int .i64 n0) := (hl3.at 0 _ rfl).2.1
    have q02 : v3.cell? ⟨g, 2, none⟩ = some (.int .i64 p0) := (hl3.at 0 _ rfl).2.2
    have a0 : v3.cell? ⟨W2.heap.size, 0, none⟩ = some (.int .i64 k0) := x3.cell 0
    have a1 : v3.cell? ⟨W2.heap.size, 1, none⟩ = some (.int .i64 n0) := x3.cell 1
    have a2 : v3.cell? ⟨W2.heap.size, 2, none⟩ = some (.int .i64 p0) := x3.cell 2
    clear hb3
    go_wp2
    go_ret
    exact ⟨rfl, hB3⟩
set_option maxRecDepth 100000 in
set_option maxHeartbeats 1000000 in
theorem coil_s_23 (k0 n0 p0 : Int) (g c : Nat) (w : World) (hl : Lie w g 0 [(k0, n0, p0)]) (r : Bool) (hr : kindA (k0, n0, p0) 2 3 = r) (s : Bool) (hs : kindA (k0, n0, p0) 4 7 = s) (t : Bool) (ht : kindA (k0, n0, p0) 8 8 = t) : Calls Tryd.prog 17 #[.agg #[.int .i64 23, .slice (some ⟨g, 0, none⟩) 1 c]] w fun e w' => e = .returned (.bool (r || (s || t))) ∧ Below w.heap.size w w' := by
  have ha := fun w => arity_s_23 w
  have cr := fun w => kind_any k0 n0 p0 2 3 w
  rw [hr] at cr
  clear hr
  have cs := fun w => kind_any k0 n0 p0 4 7 w
  rw [hs] at cs
  clear hs
  have ct := fun w => kind_any k0 n0 p0 8 8 w
  rw [ht] at ct
  clear ht
  have b1 := Box.new w #[.int .i64 23, .slice (some ⟨g, 0, none⟩) 1 c] 31
  have hB1 : Below w.heap.size w (w.alloc (.cells #[.int .i64 23, .slice (some ⟨g, 0, none⟩) 1 c] 31)) := by repeat (first | exact Below.refl _ _ | assumption | refine Below.setCell ?_ (by first | (simp; done) | (simp; omega) | omega) _ | refine Below.alloc ?_ (by first | (simp; done) | (simp; omega) | omega) _ | refine Bx.bel_drewN ?_ _ | refine Below.drew ?_)
  have hl1 := hl.kept hB1
  clear hl
  go_enter Tryd.func17, Tryd.ntmps17
  go_wp2_with fail
  generalize w.alloc (.cells #[.int .i64 23, .slice (some ⟨g, 0, none⟩) 1 c] 31) = W1 at b1 hB1 hl1 ⊢
  have c0 : W1.cell? ⟨w.heap.size, 0, none⟩ = some (.int .i64 23) := b1.cell 0
  have c1 : W1.cell? ⟨w.heap.size, 1, none⟩ = some (.slice (some ⟨g, 0, none⟩) 1 c) := b1.cell 1
  have q00 : W1.cell? ⟨g, 0, none⟩ = some (.int .i64 k0) := (hl1.at 0 _ rfl).1
  have q01 : W1.cell? ⟨g, 1, none⟩ = some (.int .i64 n0) := (hl1.at 0 _ rfl).2.1
  have q02 : W1.cell? ⟨g, 2, none⟩ = some (.int .i64 p0) := (hl1.at 0 _ rfl).2.2
  go_quiet ((go_at_call 41; exact Calls.quiet_of_same (ha _)))
  have b1 := b1.drewN nq
  have hl1 : Lie (W1.drewN nq) g 0 [(k0, n0, p0)] := hl1
  have hB1 : Below w.heap.size w (W1.drewN nq) := bel_drewN hB1 _
  generalize W1.drewN nq = W2 at b1 hB1 hl1 ⊢
  clear c0 c1 q00 q01 q02 ha
  have c0 : W2.cell? ⟨w.heap.size, 0, none⟩ = some (.int .i64 23) := b1.cell 0
  have c1 : W2.cell? ⟨w.heap.size, 1, none⟩ = some (.slice (some ⟨g, 0, none⟩) 1 c) := b1.cell 1
  have q00 : W2.cell? ⟨g, 0, none⟩ = some (.int .i64 k0) := (hl1.at 0 _ rfl).1
  have q01 : W2.cell? ⟨g, 1, none⟩ = some (.int .i64 n0) := (hl1.at 0 _ rfl).2.1
  have q02 : W2.cell? ⟨g, 2, none⟩ = some (.int .i64 p0) := (hl1.at 0 _ rfl).2.2
  have l2 : w.heap.size < W2.heap.size := b1.lt
  have lg : g < W2.heap.size := hl1.1
  have x1 := Box.new W2 #[.int .i64 k0, .int .i64 n0, .int .i64 p0] 40
  have b1' := b1.alloc (.cells #[.int .i64 k0, .int .i64 n0, .int .i64 p0] 40)
  have hB1' : Below w.heap.size w (W2.alloc (.cells #[.int .i64 k0, .int .i64 n0, .int .i64 p0] 40)) := hB1.alloc hB1.size _
  have hl1' : Lie (W2.alloc (.cells #[.int .i64 k0, .int .i64 n0, .int .i64 p0] 40)) g 0 [(k0, n0, p0)] := hl1.kept ((Below.refl _ _).alloc (Nat.le_refl _) _)
  go_wp2_with fail
  refine (cr _).mono ?_
  rintro e v2 ⟨rfl, hb2⟩
  have x2 := x1.kept hb2
  have b2 := b1'.kept hb2
  have hl2 := hl1'.kept hb2
  have hB2 : Below w.heap.size w v2 := bel_step hB1' hb2 hB1'.size
  clear c0 c1 q00 q01 q02
  have c0 : v2.cell? ⟨w.heap.size, 0, none⟩ = some (.int .i64 23) := b2.cell 0
  have c1 : v2.cell? ⟨w.heap.size, 1, none⟩ = some (.slice (some ⟨g, 0, none⟩) 1 c) := b2.cell 1
  have q00 : v2.cell? ⟨g, 0, none⟩ = some (.int .i64 k0) := (hl2.at 0 _ rfl).1
  have q01 : v2.cell? ⟨g, 1, none⟩ = some (.int .i64 n0) := (hl2.at 0 _ rfl).2.1
  have q02 : v2.cell? ⟨g, 2, none⟩ = some (.int .i64 p0) := (hl2.at 0 _ rfl).2.2
  have a0 : v2.cell? ⟨W2.heap.size, 0, none⟩ = some (.int .i64 k0) := x2.cell 0
  have a1 : v2.cell? ⟨W2.heap.size, 1, none⟩ = some (.int .i64 n0) := x2.cell 1
  have a2 : v2.cell? ⟨W2.heap.size, 2, none⟩ = some (.int .i64 p0) := x2.cell 2
  clear hb2
  cases r with
  | true =>
    go_wp2
    go_ret
    exact ⟨rfl, hB2⟩
  | false =>
    go_wp2_with fail
    refine (cs _).mono ?_
    rintro e v3 ⟨rfl, hb3⟩
    have x3 := x2.kept hb3
    have b3 := b2.kept hb3
    have hl3 := hl2.kept hb3
    have hB3 : Below w.heap.size w v3 := bel_step hB2 hb3 hB2.size
    clear c0 c1 q00 q01 q02 a0 a1 a2
    have c0 : v3.cell? ⟨w.heap.size, 0, none⟩ = some (.int .i64 23) := b3.cell 0
    have c1 : v3.cell? ⟨w.heap.size, 1, none⟩ = some (.slice (some ⟨g, 0, none⟩) 1 c) := b3.cell 1
    have q00 : v3.cell? ⟨g, 0, none⟩ = some (.int .i64 k0) := (hl3.at 0 _ rfl).1
    have q01 : v3.cell? ⟨g, 1, none⟩ = some (.int .i64 n0) := (hl3.at 0 _ rfl).2.1
    have q02 : v3.cell? ⟨g, 2, none⟩ = some (.int .i64 p0) := (hl3.at 0 _ rfl).2.2
    have a0 : v3.cell? ⟨W2.heap.size, 0, none⟩ = some (.int .i64 k0) := x3.cell 0
    have a1 : v3.cell? ⟨W2.heap.size, 1, none⟩ = some (.int .i64 n0) := x3.cell 1
    have a2 : v3.cell? ⟨W2.heap.size, 2, none⟩ = some (.int .i64 p0) := x3.cell 2
    clear hb3
    cases s with
    | true =>
      go_wp2
      go_ret
      exact ⟨rfl, hB3⟩
    | false =>
      go_wp2_with fail
      refine (ct _).mono ?_
      rintro e v4 ⟨rfl, hb4⟩
      have x4 := x3.kept hb4
      have b4 := b3.kept hb4
      have hl4 := hl3.kept hb4
      have hB4 : Below w.heap.size w v4 := bel_step hB3 hb4 hB3.size
      clear c0 c1 q00 q01 q02 a0 a1 a2
      have c0 : v4.cell? ⟨w.heap.size, 0, none⟩ = some (.int .i64 23) := b4.cell 0
      have c1 : v4.cell? ⟨w.heap.size, 1, none⟩ = some (.slice (some ⟨g, 0, none⟩) 1 c) := b4.cell 1
      have q00 : v4.cell? ⟨g, 0, none⟩ = some (.int .i64 k0) := (hl4.at 0 _ rfl).1
      have q01 : v4.cell? ⟨g, 1, none⟩ = some (.int .i64 n0) := (hl4.at 0 _ rfl).2.1
      have q02 : v4.cell? ⟨g, 2, none⟩ = some (.int .i64 p0) := (hl4.at 0 _ rfl).2.2
      have a0 : v4.cell? ⟨W2.heap.size, 0, none⟩ = some (.int .i64 k0) := x4.cell 0
      have a1 : v4.cell? ⟨W2.heap.size, 1, none⟩ = some (.int .i64 n0) := x4.cell 1
      have a2 : v4.cell? ⟨W2.heap.size, 2, none⟩ = some (.int .i64 p0) := x4.cell 2
      clear hb4
      go_wp2
      go_ret
      exact ⟨rfl, hB4⟩
set_option maxRecDepth 100000 in
set_option maxHeartbeats 1000000 in
theorem coil_s_24 (k0 n0 p0 k1 n1 p1 : Int) (g c : Nat) (w : World) (hl : Lie w g 0 [(k0, n0, p0), (k1, n1, p1)]) (r : Bool) (hr : kindA (k0, n0, p0) 2 3 = r) (s : Bool) (hs : kindA (k1, n1, p1) 5 5 = s) : Calls Tryd.prog 17 #[.agg #[.int .i64 24, .slice (some ⟨g, 0, none⟩) 2 c]] w fun e w' => e = .returned (.bool (r && s)) ∧ Below w.heap.size w w' := by
  have ha := fun w => arity_s_24 w
  have cr := fun w => kind_any k0 n0 p0 2 3 w
  rw [hr] at cr
  clear hr
  have cs := fun w => kind_any k1 n1 p1 5 5 w
  rw [hs] at cs
  clear hs
  have b1 := Box.new w #[.int .i64 24, .slice (some ⟨g, 0, none⟩) 2 c] 31
  have hB1 : Below w.heap.size w (w.alloc (.cells #[.int .i64 24, .slice (some ⟨g, 0, none⟩) 2 c] 31)) := by repeat (first | exact Below.refl _ _ | assumption | refine Below.setCell ?_ (by first | (simp; done) | (simp; omega) | omega) _ | refine Below.alloc ?_ (by first | (simp; done) | (simp; omega) | omega) _ | refine Bx.bel_drewN ?_ _ | refine Below.drew ?_)
  have hl1 := hl.kept hB1
  clear hl
  go_enter Tryd.func17, Tryd.ntmps17
  go_wp2_with fail
  generalize w.alloc (.cells #[.int .i64 24, .slice (some ⟨g, 0, none⟩) 2 c] 31) = W1 at b1 hB1 hl1 ⊢
  have c0 : W1.cell? ⟨w.heap.size, 0, none⟩ = some (.int .i64 24) := b1.cell 0
  have c1 : W1.cell? ⟨w.heap.size, 1, none⟩ = some (.slice (some ⟨g, 0, none⟩) 2 c) := b1.cell 1
  have q00 : W1.cell? ⟨g, 0, none⟩ = some (.int .i64 k0) := (hl1.at 0 _ rfl).1
  have q01 : W1.cell? ⟨g, 1, none⟩ = some (.int .i64 n0) := (hl1.at 0 _ rfl).2.1
  have q02 : W1.cell? ⟨g, 2, none⟩ = some (.int .i64 p0) := (hl1.at 0 _ rfl).2.2
  have q10 : W1.cell? ⟨g, 3, none⟩ = some (.int .i64 k1) := (hl1.at 1 _ rfl).1
  have q11 : W1.cell? ⟨g, 4, none⟩ = some (.int .i64 n1) := (hl1.at 1 _ rfl).2.1
  have q12 : W1.cell? ⟨g, 5, none⟩ = some (.int .i64 p1) := (hl1.at 1 _ rfl).2.2
  go_quiet ((go_at_call 41; exact Calls.quiet_of_same (ha _)))
  have b1 := b1.drewN nq
  have hl1 : Lie (W1.drewN nq) g 0 [(k0, n0, p0), (k1, n1, p1)] := hl1
  have hB1 : Below w.heap.size w (W1.drewN nq) := bel_drewN hB1 _
  generalize W1.drewN nq = W2 at b1 hB1 hl1 ⊢
  clear c0 c1 q00 q01 q02 q10 q11 q12 ha
  have c0 : W2.cell? ⟨w.heap.size, 0, none⟩ = some (.int .i64 24) := b1.cell 0
  have c1 : W2.cell? ⟨w.heap.size, 1, none⟩ = some (.slice (some ⟨g, 0, none⟩) 2 c) := b1.cell 1
  have q00 : W2.cell? ⟨g, 0, none⟩ = some (.int .i64 k0) := (hl1.at 0 _ rfl).1
  have q01 : W2.cell? ⟨g, 1, none⟩ = some (.int .i64 n0) := (hl1.at 0 _ rfl).2.1
  have q02 : W2.cell? ⟨g, 2, none⟩ = some (.int .i64 p0) := (hl1.at 0 _ rfl).2.2
  have q10 : W2.cell? ⟨g, 3, none⟩ = some (.int .i64 k1) := (hl1.at 1 _ rfl).1
  have q11 : W2.cell? ⟨g, 4, none⟩ = some (.int .i64 n1) := (hl1.at 1 _ rfl).2.1
  have q12 : W2.cell? ⟨g, 5, none⟩ = some (.int .i64 p1) := (hl1.at 1 _ rfl).2.2
  have l2 : w.heap.size < W2.heap.size := b1.lt
  have lg : g < W2.heap.size := hl1.1
  have x1 := Box.new W2 #[.int .i64 k0, .int .i64 n0, .int .i64 p0] 40
  have b1' := b1.alloc (.cells #[.int .i64 k0, .int .i64 n0, .int .i64 p0] 40)
  have hB1' : Below w.heap.size w (W2.alloc (.cells #[.int .i64 k0, .int .i64 n0, .int .i64 p0] 40)) := hB1.alloc hB1.size _
  have hl1' : Lie (W2.alloc (.cells #[.int .i64 k0, .int .i64 n0, .int .i64 p0] 40)) g 0 [(k0, n0, p0), (k1, n1, p1)] := hl1.kept ((Below.refl _ _).alloc (Nat.le_refl _) _)
  go_wp2_with fail
  refine (cr _).mono ?_
  rintro e v2 ⟨rfl, hb2⟩
  have x2 := x1.kept hb2
  have b2 := b1'.kept hb2
  have hl2 := hl1'.kept hb2
  have hB2 : Below w.heap.size w v2 := bel_step hB1' hb2 hB1'.size
  clear c0 c1 q00 q01 q02 q10 q11 q12
  have c0 : v2.cell? ⟨w.heap.size, 0, none⟩ = some (.int .i64 24) := b2.cell 0
  have c1 : v2.cell? ⟨w.heap.size, 1, none⟩ = some (.slice (some ⟨g, 0, none⟩) 2 c) := b2.cell 1
  have q00 : v2.cell? ⟨g, 0, none⟩ = some (.int .i64 k0) := (hl2.at 0 _ rfl).1
  have q01 : v2.cell? ⟨g, 1, none⟩ = some (.int .i64 n0) := (hl2.at 0 _ rfl).2.1
  have q02 : v2.cell? ⟨g, 2, none⟩ = some (.int .i64 p0) := (hl2.at 0 _ rfl).2.2
  have q10 : v2.cell? ⟨g, 3, none⟩ = some (.int .i64 k1) := (hl2.at 1 _ rfl).1
  have q11 : v2.cell? ⟨g, 4, none⟩ = some (.int .i64 n1) := (hl2.at 1 _ rfl).2.1
  have q12 : v2.cell? ⟨g, 5, none⟩ = some (.int .i64 p1) := (hl2.at 1 _ rfl).2.2
  have a0 : v2.cell? ⟨W2.heap.size, 0, none⟩ = some (.int .i64 k0) := x2.cell 0
  have a1 : v2.cell? ⟨W2.heap.size, 1, none⟩ = some (.int .i64 n0) := x2.cell 1
  have a2 : v2.cell? ⟨W2.heap.size, 2, none⟩ = some (.int .i64 p0) := x2.cell 2
  clear hb2
  cases r with
  | true =>
    go_wp2_with fail
    refine (cs _).mono ?_
    rintro e v3 ⟨rfl, hb3⟩
    have x3 := x2.kept hb3
    have b3 := b2.kept hb3
    have hl3 := hl2.kept hb3
    have hB3 : Below w.heap.size w v3 := bel_step hB2 hb3 hB2.size
    clear c0 c1 q00 q01 q02 q10 q11 q12 a0 a1 a2
    have c0 : v3.cell? ⟨w.heap.size, 0, none⟩ = some (.int .i64 24) := b3.cell 0
    have c1 : v3.cell? ⟨w.heap.size, 1, none⟩ = some (.slice (some ⟨g, 0, none⟩) 2 c) := b3.cell 1
    have q00 : v3.cell? ⟨g, 0, none⟩ = some (.int .i64 k0) := (hl3.at 0 _ rfl).1
    have q01 : v3.cell? ⟨g, 1, none⟩ = some (.int .i64 n0) := (hl3.at 0 _ rfl).2.1
    have q02 : v3.cell? ⟨g, 2, none⟩ = some (.int .i64 p0) := (hl3.at 0 _ rfl).2.2
    have q10 : v3.cell? ⟨g, 3, none⟩ = some (.int .i64 k1) := (hl3.at 1 _ rfl).1
    have q11 : v3.cell? ⟨g, 4, none⟩ = some (.int .i64 n1) := (hl3.at 1 _ rfl).2.1
    have q12 : v3.cell? ⟨g, 5, none⟩ = some (.int .i64 p1) := (hl3.at 1 _ rfl).2.2
    have a0 : v3.cell? ⟨W2.heap.size, 0, none⟩ = some (.int .i64 k0) := x3.cell 0
    have a1 : v3.cell? ⟨W2.heap.size, 1, none⟩ = some (.int .i64 n0) := x3.cell 1
    have a2 : v3.cell? ⟨W2.heap.size, 2, none⟩ = some (.int .i64 p0) := x3.cell 2
    clear hb3
    go_wp2
    go_ret
    exact ⟨rfl, hB3⟩
  | false =>
    go_wp2
    go_ret
    exact ⟨rfl, hB2⟩
set_option maxRecDepth 100000 in
set_option maxHeartbeats 1000000 in
theorem coil_s_25 (k0 n0 p0 : Int) (g c : Nat) (w : World) (hl : Lie w g 0 [(k0, n0, p0)]) (r : Bool) (hr : kindA (k0, n0, p0) 4 4 = r) : Calls Tryd.prog 17 #[.agg #[.int .i64 25, .slice (some ⟨g, 0, none⟩) 1 c]] w fun e w' => e = .returned (.bool r) ∧ Below w.heap.size w w' := by
  have ha := fun w => arity_s_25 w
  have cr := fun w => kind_any k0 n0 p0 4 4 w
  rw [hr] at cr
  clear hr
  have b1 := Box.new w #[.int .i64 25, .slice (some ⟨g, 0, none⟩) 1 c] 31
  have hB1 : Below w.heap.size w (w.alloc (.cells #[.int .i64 25, .slice (some ⟨g, 0, none⟩) 1 c] 31)) := by repeat (first | exact Below.refl _ _ | assumption | refine Below.setCell ?_ (by first | (simp; done) | (simp; omega) | omega) _ | refine Below.alloc ?_ (by first | (simp; done) | (simp; omega) | omega) _ | refine Bx.bel_drewN ?_ _ | refine Below.drew ?_)
  have hl1 := hl.kept hB1
  clear hl
  go_enter Tryd.func17, Tryd.ntmps17
  go_wp2_with fail
  generalize w.alloc (.cells #[.int .i64 25, .slice (some ⟨g, 0, none⟩) 1 c] 31) = W1 at b1 hB1 hl1 ⊢
  have c0 : W1.cell? ⟨w.heap.size, 0, none⟩ = some (.int .i64 25) := b1.cell 0
  have c1 : W1.cell? ⟨w.heap.size, 1, none⟩ = some (.slice (some ⟨g, 0, none⟩) 1 c) := b1.cell 1
  have q00 : W1.cell? ⟨g, 0, none⟩ = some (.int .i64 k0) := (hl1.at 0 _ rfl).1
  have q01 : W1.cell? ⟨g, 1, none⟩ = some (.int .i64 n0) := (hl1.at 0 _ rfl).2.1
  have q02 : W1.cell? ⟨g, 2, none⟩ = some (.int .i64 p0) := (hl1.at 0 _ rfl).2.2
  go_quiet ((go_at_call 41; exact Calls.quiet_of_same (ha _)))
  have b1 := b1.drewN nq
  have hl1 : Lie (W1.drewN nq) g 0 [(k0, n0, p0)] := hl1
  have hB1 : Below w.heap.size w (W1.drewN nq) := bel_drewN hB1 _
  generalize W1.drewN nq = W2 at b1 hB1 hl1 ⊢
  clear c0 c1 q00 q01 q02 ha
  have c0 : W2.cell? ⟨w.heap.size, 0, none⟩ = some (.int .i64 25) := b1.cell 0
  have c1 : W2.cell? ⟨w.heap.size, 1, none⟩ = some (.slice (some ⟨g, 0, none⟩) 1 c) := b1.cell 1
  have q00 : W2.cell? ⟨g, 0, none⟩ = some (.int .i64 k0) := (hl1.at 0 _ rfl).1
  have q01 : W2.cell? ⟨g, 1, none⟩ = some (.int .i64 n0) := (hl1.at 0 _ rfl).2.1
  have q02 : W2.cell? ⟨g, 2, none⟩ = some (.int .i64 p0) := (hl1.at 0 _ rfl).2.2
  have l2 : w.heap.size < W2.heap.size := b1.lt
  have lg : g < W2.heap.size := hl1.1
  have x1 := Box.new W2 #[.int .i64 k0, .int .i64 n0, .int .i64 p0] 40
  have b1' := b1.alloc (.cells #[.int .i64 k0, .int .i64 n0, .int .i64 p0] 40)
  have hB1' : Below w.heap.size w (W2.alloc (.cells #[.int .i64 k0, .int .i64 n0, .int .i64 p0] 40)) := hB1.alloc hB1.size _
  have hl1' : Lie (W2.alloc (.cells #[.int .i64 k0, .int .i64 n0, .int .i64 p0] 40)) g 0 [(k0, n0, p0)] := hl1.kept ((Below.refl _ _).alloc (Nat.le_refl _) _)
  go_wp2_with fail
  refine (cr _).mono ?_
  rintro e v2 ⟨rfl, hb2⟩
  have x2 := x1.kept hb2
  have b2 := b1'.kept hb2
  have hl2 := hl1'.kept hb2
  have hB2 : Below w.heap.size w v2 := bel_step hB1' hb2 hB1'.size
  clear c0 c1 q00 q01 q02
  have c0 : v2.cell? ⟨w.heap.size, 0, none⟩ = some (.int .i64 25) := b2.cell 0
  have c1 : v2.cell? ⟨w.heap.size, 1, none⟩ = some (.slice (some ⟨g, 0, none⟩) 1 c) := b2.cell 1
  have q00 : v2.cell? ⟨g, 0, none⟩ = some (.int .i64 k0) := (hl2.at 0 _ rfl).1
  have q01 : v2.cell? ⟨g, 1, none⟩ = some (.int .i64 n0) := (hl2.at 0 _ rfl).2.1
  have q02 : v2.cell? ⟨g, 2, none⟩ = some (.int .i64 p0) := (hl2.at 0 _ rfl).2.2
  have a0 : v2.cell? ⟨W2.heap.size, 0, none⟩ = some (.int .i64 k0) := x2.cell 0
  have a1 : v2.cell? ⟨W2.heap.size, 1, none⟩ = some (.int .i64 n0) := x2.cell 1
  have a2 : v2.cell? ⟨W2.heap.size, 2, none⟩ = some (.int .i64 p0) := x2.cell 2
  clear hb2
  go_wp2
  go_ret
  exact ⟨rfl, hB2⟩
set_option maxRecDepth 100000 in
set_option maxHeartbeats 1000000 in
theorem coil_s_26 (k0 n0 p0 k1 n1 p1 : Int) (g c : Nat) (w : World) (hl : Lie w g 0 [(k0, n0, p0), (k1, n1, p1)]) (r : Bool) (hr : kindA (k0, n0, p0) 7 7 = r) (s : Bool) (hs : kindA (k1, n1, p1) 11 11 = s) : Calls Tryd.prog 17 #[.agg #[.int .i64 26, .slice (some ⟨g, 0, none⟩) 2 c]] w fun e w' => e = .returned (.bool (r && (s && decide (0 ≤ n1)))) ∧ Below w.heap.size w w' := by
  have ha := fun w => arity_s_26 w
  have cr := fun w => kind_any k0 n0 p0 7 7 w
  rw [hr] at cr
  clear hr
  have cs := fun w => kind_any k1 n1 p1 11 11 w
  rw [hs] at cs
  clear hs
  have b1 := Box.new w #[.int .i64 26, .slice (some ⟨g, 0, none⟩) 2 c] 31
  have hB1 : Below w.heap.size w (w.alloc (.cells #[.int .i64 26, .slice (some ⟨g, 0, none⟩) 2 c] 31)) := by repeat (first | exact Below.refl _ _ | assumption | refine Below.setCell ?_ (by first | (simp; done) | (simp; omega) | omega) _ | refine Below.alloc ?_ (by first | (simp; done) | (simp; omega) | omega) _ | refine Bx.bel_drewN ?_ _ | refine Below.drew ?_)
  have hl1 := hl.kept hB1
  clear hl
  go_enter Tryd.func17, Tryd.ntmps17
  go_wp2_with fail
  generalize w.alloc (.cells #[.int .i64 26, .slice (some ⟨g, 0, none⟩) 2 c] 31) = W1 at b1 hB1 hl1 ⊢
  have c0 : W1.cell? ⟨w.heap.size, 0, none⟩ = some (.int .i64 26) := b1.cell 0
  have c1 : W1.cell? ⟨w.heap.size, 1, none⟩ = some (.slice (some ⟨g, 0, none⟩) 2 c) := b1.cell 1
  have q00 : W1.cell? ⟨g, 0, none⟩ = some (.int .i64 k0) := (hl1.at 0 _ rfl).1
  have q01 : W1.cell? ⟨g, 1, none⟩ = some (.int .i64 n0) := (hl1.at 0 _ rfl).2.1
  have q02 : W1.cell? ⟨g, 2, none⟩ = some (.int .i64 p0) := (hl1.at 0 _ rfl).2.2
  have q10 : W1.cell? ⟨g, 3, none⟩ = some (.int .i64 k1) := (hl1.at 1 _ rfl).1
  have q11 : W1.cell? ⟨g, 4, none⟩ = some (.int .i64 n1) := (hl1.at 1 _ rfl).2.1
  have q12 : W1.cell? ⟨g, 5, none⟩ = some (.int .i64 p1) := (hl1.at 1 _ rfl).2.2
  go_quiet ((go_at_call 41; exact Calls.quiet_of_same (ha _)))
  have b1 := b1.drewN nq
  have hl1 : Lie (W1.drewN nq) g 0 [(k0, n0, p0), (k1, n1, p1)] := hl1
  have hB1 : Below w.heap.size w (W1.drewN nq) := bel_drewN hB1 _
  generalize W1.drewN nq = W2 at b1 hB1 hl1 ⊢
  clear c0 c1 q00 q01 q02 q10 q11 q12 ha
  have c0 : W2.cell? ⟨w.heap.size, 0, none⟩ = some (.int .i64 26) := b1.cell 0
  have c1 : W2.cell? ⟨w.heap.size, 1, none⟩ = some (.slice (some ⟨g, 0, none⟩) 2 c) := b1.cell 1
  have q00 : W2.cell? ⟨g, 0, none⟩ = some (.int .i64 k0) := (hl1.at 0 _ rfl).1
  have q01 : W2.cell? ⟨g, 1, none⟩ = some (.int .i64 n0) := (hl1.at 0 _ rfl).2.1
  have q02 : W2.cell? ⟨g, 2, none⟩ = some (.int .i64 p0) := (hl1.at 0 _ rfl).2.2
  have q10 : W2.cell? ⟨g, 3, none⟩ = some (.int .i64 k1) := (hl1.at 1 _ rfl).1
  have q11 : W2.cell? ⟨g, 4, none⟩ = some (.int .i64 n1) := (hl1.at 1 _ rfl).2.1
  have q12 : W2.cell? ⟨g, 5, none⟩ = some (.int .i64 p1) := (hl1.at 1 _ rfl).2.2
  have l2 : w.heap.size < W2.heap.size := b1.lt
  have lg : g < W2.heap.size := hl1.1
  have x1 := Box.new W2 #[.int .i64 k0, .int .i64 n0, .int .i64 p0] 40
  have b1' := b1.alloc (.cells #[.int .i64 k0, .int .i64 n0, .int .i64 p0] 40)
  have hB1' : Below w.heap.size w (W2.alloc (.cells #[.int .i64 k0, .int .i64 n0, .int .i64 p0] 40)) := hB1.alloc hB1.size _
  have hl1' : Lie (W2.alloc (.cells #[.int .i64 k0, .int .i64 n0, .int .i64 p0] 40)) g 0 [(k0, n0, p0), (k1, n1, p1)] := hl1.kept ((Below.refl _ _).alloc (Nat.le_refl _) _)
  go_wp2_with fail
  refine (cr _).mono ?_
  rintro e v2 ⟨rfl, hb2⟩
  have x2 := x1.kept hb2
  have b2 := b1'.kept hb2
  have hl2 := hl1'.kept hb2
  have hB2 : Below w.heap.size w v2 := bel_step hB1' hb2 hB1'.size
  clear c0 c1 q00 q01 q02 q10 q11 q12
  have c0 : v2.cell? ⟨w.heap.size, 0, none⟩ = some (.int .i64 26) := b2.cell 0
  have c1 : v2.cell? ⟨w.heap.size, 1, none⟩ = some (.slice (some ⟨g, 0, none⟩) 2 c) := b2.cell 1
  have q00 : v2.cell? ⟨g, 0, none⟩ = some (.int .i64 k0) := (hl2.at 0 _ rfl).1
  have q01 : v2.cell? ⟨g, 1, none⟩ = some (.int .i64 n0) := (hl2.at 0 _ rfl).2.1
  have q02 : v2.cell? ⟨g, 2, none⟩ = some (.int .i64 p0) := (hl2.at 0 _ rfl).2.2
  have q10 : v2.cell? ⟨g, 3, none⟩ = some (.int .i64 k1) := (hl2.at 1 _ rfl).1
  have q11 : v2.cell? ⟨g, 4, none⟩ = some (.int .i64 n1) := (hl2.at 1 _ rfl).2.1
  have q12 : v2.cell? ⟨g, 5, none⟩ = some (.int .i64 p1) := (hl2.at 1 _ rfl).2.2
  have a0 : v2.cell? ⟨W2.heap.size, 0, none⟩ = some (.int .i64 k0) := x2.cell 0
  have a1 : v2.cell? ⟨W2.heap.size, 1, none⟩ = some (.int .i64 n0) := x2.cell 1
  have a2 : v2.cell? ⟨W2.heap.size, 2, none⟩ = some (.int .i64 p0) := x2.cell 2
  clear hb2
  cases r with
  | true =>
    go_wp2_with fail
    refine (cs _).mono ?_
    rintro e v3 ⟨rfl, hb3⟩
    have x3 := x2.kept hb3
    have b3 := b2.kept hb3
    have hl3 := hl2.kept hb3
    have hB3 : Below w.heap.size w v3 := bel_step hB2 hb3 hB2.size
    clear c0 c1 q00 q01 q02 q10 q11 q12 a0 a1 a2
    have c0 : v3.cell? ⟨w.heap.size, 0, none⟩ = some (.int .i64 26) := b3.cell 0
    have c1 : v3.cell? ⟨w.heap.size, 1, none⟩ = some (.slice (some ⟨g, 0, none⟩) 2 c) := b3.cell 1
    have q00 : v3.cell? ⟨g, 0, none⟩ = some (.int .i64 k0) := (hl3.at 0 _ rfl).1
    have q01 : v3.cell? ⟨g, 1, none⟩ = some (.int .i64 n0) := (hl3.at 0 _ rfl).2.1
    have q02 : v3.cell? ⟨g, 2, none⟩ = some (.int .i64 p0) := (hl3.at 0 _ rfl).2.2
    have q10 : v3.cell? ⟨g, 3, none⟩ = some (.int .i64 k1) := (hl3.at 1 _ rfl).1
    have q11 : v3.cell? ⟨g, 4, none⟩ = some (.int .i64 n1) := (hl3.at 1 _ rfl).2.1
    have q12 : v3.cell? ⟨g, 5, none⟩ = some (.int .i64 p1) := (hl3.at 1 _ rfl).2.2
    have a0 : v3.cell? ⟨W2.heap.size, 0, none⟩ = some (.int .i64 k0) := x3.cell 0
    have a1 : v3.cell? ⟨W2.heap.size, 1, none⟩ = some (.int .i64 n0) := x3.cell 1
    have a2 : v3.cell? ⟨W2.heap.size, 2, none⟩ = some (.int .i64 p0) := x3.cell 2
    clear hb3
    cases s with
    | true =>
      go_wp2
      go_ret
      exact ⟨rfl, hB3⟩
    | false =>
      go_wp2
      go_ret
      exact ⟨rfl, hB3⟩
  | false =>
    go_wp2
    go_ret
    exact ⟨rfl, hB2⟩
set_option maxRecDepth 100000 in
set_option maxHeartbeats 1000000 in
theorem coil_s_27 (k0 n0 p0 k1 n1 p1 : Int) (g c : Nat) (w : World) (hl : Lie w g 0 [(k0, n0, p0), (k1, n1, p1)]) (r : Bool) (hr : kindA (k0, n0, p0) 7 7 = r) (s : Bool) (hs : kindA (k1, n1, p1) 11 11 = s) : Calls Tryd.prog 17 #[.agg #[.int .i64 27, .slice (some ⟨g, 0, none⟩) 2 c]] w fun e w' => e = .returned (.bool (r && (s && decide (0 ≤ n1)))) ∧ Below w.heap.size w w' := by
  have ha := fun w => arity_s_27 w
  have cr := fun w => kind_any k0 n0 p0 7 7 w
  rw [hr] at cr
  clear hr
  have cs := fun w => kind_any k1 n1 p1 11 11 w
  rw [hs] at cs
  clear hs
  have b1 := Box.new w #[.int .i64 27, .slice (some ⟨g, 0, none⟩) 2 c] 31
  have hB1 : Below w.heap.size w (w.alloc (.cells #[.int .i64 27, .slice (some ⟨g, 0, none⟩) 2 c] 31)) := by repeat (first | exact Below.refl _ _ | assumption | refine Below.setCell ?_ (by first | (simp; done) | (simp; omega) | omega) _ | refine Below.alloc ?_ (by first | (simp; done) | (simp; omega) | omega) _ | refine Bx.bel_drewN ?_ _ | refine Below.drew ?_)
  have hl1 := hl.kept hB1
  clear hl
  go_enter Tryd.func17, Tryd.ntmps17
  go_wp2_with fail
  generalize w.alloc (.cells #[.int .i64 27, .slice (some ⟨g, 0, none⟩) 2 c] 31) = W1 at b1 hB1 hl1 ⊢
  have c0 : W1.cell? ⟨w.heap.size, 0, none⟩ = some (.int .i64 27) := b1.cell 0
  have c1 : W1.cell? ⟨w.heap.size, 1, none⟩ = some (.slice (some ⟨g, 0, none⟩) 2 c) := b1.cell 1
  have q00 : W1.cell? ⟨g, 0, none⟩ = some (.int .i64 k0) := (hl1.at 0 _ rfl).1
  have q01 : W1.cell? ⟨g, 1, none⟩ = some (.int .i64 n0) := (hl1.at 0 _ rfl).2.1
  have q02 : W1.cell? ⟨g, 2, none⟩ = some (.int .i64 p0) := (hl1.at 0 _ rfl).2.2
  have q10 : W1.cell? ⟨g, 3, none⟩ = some (.int .i64 k1) := (hl1.at 1 _ rfl).1
  have q11 : W1.cell? ⟨g, 4, none⟩ = some (.int .i64 n1) := (hl1.at 1 _ rfl).2.1
  have q12 : W1.cell? ⟨g, 5, none⟩ = some (.int .i64 p1) := (hl1.at 1 _ rfl).2.2
  go_quiet ((go_at_call 41; exact Calls.quiet_of_same (ha _)))
  have b1 := b1.drewN nq
  have hl1 : Lie (W1.drewN nq) g 0 [(k0, n0, p0), (k1, n1, p1)] := hl1
  have hB1 : Below w.heap.size w (W1.drewN nq) := bel_drewN hB1 _
  generalize W1.drewN nq = W2 at b1 hB1 hl1 ⊢
  clear c0 c1 q00 q01 q02 q10 q11 q12 ha
  have c0 : W2.cell? ⟨w.heap.size, 0, none⟩ = some (.int .i64 27) := b1.cell 0
  have c1 : W2.cell? ⟨w.heap.size, 1, none⟩ = some (.slice (some ⟨g, 0, none⟩) 2 c) := b1.cell 1
  have q00 : W2.cell? ⟨g, 0, none⟩ = some (.int .i64 k0) := (hl1.at 0 _ rfl).1
  have q01 : W2.cell? ⟨g, 1, none⟩ = some (.int .i64 n0) := (hl1.at 0 _ rfl).2.1
  have q02 : W2.cell? ⟨g, 2, none⟩ = some (.int .i64 p0) := (hl1.at 0 _ rfl).2.2
  have q10 : W2.cell? ⟨g, 3, none⟩ = some (.int .i64 k1) := (hl1.at 1 _ rfl).1
  have q11 : W2.cell? ⟨g, 4, none⟩ = some (.int .i64 n1) := (hl1.at 1 _ rfl).2.1
  have q12 : W2.cell? ⟨g, 5, none⟩ = some (.int .i64 p1) := (hl1.at 1 _ rfl).2.2
  have l2 : w.heap.size < W2.heap.size := b1.lt
  have lg : g < W2.heap.size := hl1.1
  have x1 := Box.new W2 #[.int .i64 k0, .int .i64 n0, .int .i64 p0] 40
  have b1' := b1.alloc (.cells #[.int .i64 k0, .int .i64 n0, .int .i64 p0] 40)
  have hB1' : Below w.heap.size w (W2.alloc (.cells #[.int .i64 k0, .int .i64 n0, .int .i64 p0] 40)) := hB1.alloc hB1.size _
  have hl1' : Lie (W2.alloc (.cells #[.int .i64 k0, .int .i64 n0, .int .i64 p0] 40)) g 0 [(k0, n0, p0), (k1, n1, p1)] := hl1.kept ((Below.refl _ _).alloc (Nat.le_refl _) _)
  go_wp2_with fail
  refine (cr _).mono ?_
  rintro e v2 ⟨rfl, hb2⟩
  have x2 := x1.kept hb2
  have b2 := b1'.kept hb2
  have hl2 := hl1'.kept hb2
  have hB2 : Below w.heap.size w v2 := bel_step hB1' hb2 hB1'.size
  clear c0 c1 q00 q01 q02 q10 q11 q12
  have c0 : v2.cell? ⟨w.heap.size, 0, none⟩ = some (.int .i64 27) := b2.cell 0
  have c1 : v2.cell? ⟨w.heap.size, 1, none⟩ = some (.slice (some ⟨g, 0, none⟩) 2 c) := b2.cell 1
  have q00 : v2.cell? ⟨g, 0, none⟩ = some (.int .i64 k0) := (hl2.at 0 _ rfl).1
  have q01 : v2.cell? ⟨g, 1, none⟩ = some (.int .i64 n0) := (hl2.at 0 _ rfl).2.1
  have q02 : v2.cell? ⟨g, 2, none⟩ = some (.int .i64 p0) := (hl2.at 0 _ rfl).2.2
  have q10 : v2.cell? ⟨g, 3, none⟩ = some (.int .i64 k1) := (hl2.at 1 _ rfl).1
  have q11 : v2.cell? ⟨g, 4, none⟩ = some (.int .i64 n1) := (hl2.at 1 _ rfl).2.1
  have q12 : v2.cell? ⟨g, 5, none⟩ = some (.int .i64 p1) := (hl2.at 1 _ rfl).2.2
  have a0 : v2.cell? ⟨W2.heap.size, 0, none⟩ = some (.int .i64 k0) := x2.cell 0
  have a1 : v2.cell? ⟨W2.heap.size, 1, none⟩ = some (.int .i64 n0) := x2.cell 1
  have a2 : v2.cell? ⟨W2.heap.size, 2, none⟩ = some (.int .i64 p0) := x2.cell 2
  clear hb2
  cases r with
  | true =>
    go_wp2_with fail
    refine (cs _).mono ?_
    rintro e v3 ⟨rfl, hb3⟩
    have x3 := x2.kept hb3
    have b3 := b2.kept hb3
    have hl3 := hl2.kept hb3
    have hB3 : Below w.heap.size w v3 := bel_step hB2 hb3 hB2.size
    clear c0 c1 q00 q01 q02 q10 q11 q12 a0 a1 a2
    have c0 : v3.cell? ⟨w.heap.size, 0, none⟩ = some (.int .i64 27) := b3.cell 0
    have c1 : v3.cell? ⟨w.heap.size, 1, none⟩ = some (.slice (some ⟨g, 0, none⟩) 2 c) := b3.cell 1
    have q00 : v3.cell? ⟨g, 0, none⟩ = some (.int .i64 k0) := (hl3.at 0 _ rfl).1
    have q01 : v3.cell? ⟨g, 1, none⟩ = some (.int .i64 n0) := (hl3.at 0 _ rfl).2.1
    have q02 : v3.cell? ⟨g, 2, none⟩ = some (.int .i64 p0) := (hl3.at 0 _ rfl).2.2
    have q10 : v3.cell? ⟨g, 3, none⟩ = some (.int .i64 k1) := (hl3.at 1 _ rfl).1
    have q11 : v3.cell? ⟨g, 4, none⟩ = some (.int .i64 n1) := (hl3.at 1 _ rfl).2.1
    have q12 : v3.cell? ⟨g, 5, none⟩ = some (.int .i64 p1) := (hl3.at 1 _ rfl).2.2
    have a0 : v3.cell? ⟨W2.heap.size, 0, none⟩ = some (.int .i64 k0) := x3.cell 0
    have a1 : v3.cell? ⟨W2.heap.size, 1, none⟩ = some (.int .i64 n0) := x3.cell 1
    have a2 : v3.cell? ⟨W2.heap.size, 2, none⟩ = some (.int .i64 p0) := x3.cell 2
    clear hb3
    cases s with
    | true =>
      go_wp2
      go_ret
      exact ⟨rfl, hB3⟩
    | false =>
      go_wp2
      go_ret
      exact ⟨rfl, hB3⟩
  | false =>
    go_wp2
    go_ret
    exact ⟨rfl, hB2⟩
set_option maxRecDepth 100000 in
set_option maxHeartbeats 1000000 in
theorem coil_s_28 (k0 n0 p0 k1 n1 p1 : Int) (g c : Nat) (w : World) (hl : Lie w g 0 [(k0, n0, p0), (k1, n1, p1)]) (r : Bool) (hr : kindA (k0, n0, p0) 7 7 = r) (s : Bool) (hs : kindA (k1, n1, p1) 11 11 = s) : Calls Tryd.prog 17 #[.agg #[.int .i64 28, .slice (some ⟨g, 0, none⟩) 2 c]] w fun e w' => e = .returned (.bool (r && (s && decide (0 ≤ n1)))) ∧ Below w.heap.size w w' := by
  have ha := fun w => arity_s_28 w
  have cr := fun w => kind_any k0 n0 p0 7 7 w
  rw [hr] at cr
  clear hr
  have cs := fun w => kind_any k1 n1 p1 11 11 w
  rw [hs] at cs
  clear hs
  have b1 := Box.new w #[.int .i64 28, .slice (some ⟨g, 0, none⟩) 2 c] 31
  have hB1 : Below w.heap.size w (w.alloc (.cells #[.int .i64 28, .slice (some ⟨g, 0, none⟩) 2 c] 31)) := by repeat (first | exact Below.refl _ _ | assumption | refine Below.setCell ?_ (by first | (simp; done) | (simp; omega) | omega) _ | refine Below.alloc ?_ (by first | (simp; done) | (simp; omega) | omega) _ | refine Bx.bel_drewN ?_ _ | refine Below.drew ?_)
  have hl1 := hl.kept hB1
  clear hl
  go_enter Tryd.func17, Tryd.ntmps17
  go_wp2_with fail
  generalize w.alloc (.cells #[.int .i64 28, .slice (some ⟨g, 0, none⟩) 2 c] 31) = W1 at b1 hB1 hl1 ⊢
  have c0 : W1.cell? ⟨w.heap.size, 0, none⟩ = some (.int .i64 28) := b1.cell 0
  have c1 : W1.cell? ⟨w.heap.size, 1, none⟩ = some (.slice (some ⟨g, 0, none⟩) 2 c) := b1.cell 1
  have q00 : W1.cell? ⟨g, 0, none⟩ = some (.int .i64 k0) := (hl1.at 0 _ rfl).1
  have q01 : W1.cell? ⟨g, 1, none⟩ = some (.int .i64 n0) := (hl1.at 0 _ rfl).2.1
  have q02 : W1.cell? ⟨g, 2, none⟩ = some (.int .i64 p0) := (hl1.at 0 _ rfl).2.2
  have q10 : W1.cell? ⟨g, 3, none⟩ = some (.int .i64 k1) := (hl1.at 1 _ rfl).1
  have q11 : W1.cell? ⟨g, 4, none⟩ = some (.int .i64 n1) := (hl1.at 1 _ rfl).2.1
  have q12 : W1.cell? ⟨g, 5, none⟩ = some (.int .i64 p1) := (hl1.at 1 _ rfl).2.2
  go_quiet ((go_at_call 41; exact Calls.quiet_of_same (ha _)))
  have b1 := b1.drewN nq
  have hl1 : Lie (W1.drewN nq) g 0 [(k0, n0, p0), (k1, n1, p1)] := hl1
  have hB1 : Below w.heap.size w (W1.drewN nq) := bel_drewN hB1 _
  generalize W1.drewN nq = W2 at b1 hB1 hl1 ⊢
  clear c0 c1 q00 q01 q02 q10 q11 q12 ha
  have c0 : W2.cell? ⟨w.heap.size, 0, none⟩ = some (.int .i64 28) := b1.cell 0
  have c1 : W2.cell? ⟨w.heap.size, 1, none⟩ = some (.slice (some ⟨g, 0, none⟩) 2 c) := b1.cell 1
  have q00 : W2.cell? ⟨g, 0, none⟩ = some (.int .i64 k0) := (hl1.at 0 _ rfl).1
  have q01 : W2.cell? ⟨g, 1, none⟩ = some (.int .i64 n0) := (hl1.at 0 _ rfl).2.1
  have q02 : W2.cell? ⟨g, 2, none⟩ = some (.int .i64 p0) := (hl1.at 0 _ rfl).2.2
  have q10 : W2.cell? ⟨g, 3, none⟩ = some (.int .i64 k1) := (hl1.at 1 _ rfl).1
  have q11 : W2.cell? ⟨g, 4, none⟩ = some (.int .i64 n1) := (hl1.at 1 _ rfl).2.1
  have q12 : W2.cell? ⟨g, 5, none⟩ = some (.int .i64 p1) := (hl1.at 1 _ rfl).2.2
  have l2 : w.heap.size < W2.heap.size := b1.lt
  have lg : g < W2.heap.size := hl1.1
  have x1 := Box.new W2 #[.int .i64 k0, .int .i64 n0, .int .i64 p0] 40
  have b1' := b1.alloc (.cells #[.int .i64 k0, .int .i64 n0, .int .i64 p0] 40)
  have hB1' : Below w.heap.size w (W2.alloc (.cells #[.int .i64 k0, .int .i64 n0, .int .i64 p0] 40)) := hB1.alloc hB1.size _
  have hl1' : Lie (W2.alloc (.cells #[.int .i64 k0, .int .i64 n0, .int .i64 p0] 40)) g 0 [(k0, n0, p0), (k1, n1, p1)] := hl1.kept ((Below.refl _ _).alloc (Nat.le_refl _) _)
  go_wp2_with fail
  refine (cr _).mono ?_
  rintro e v2 ⟨rfl, hb2⟩
  have x2 := x1.kept hb2
  have b2 := b1'.kept hb2
  have hl2 := hl1'.kept hb2
  have hB2 : Below w.heap.size w v2 := bel_step hB1' hb2 hB1'.size
  clear c0 c1 q00 q01 q02 q10 q11 q12
  have c0 : v2.cell? ⟨w.heap.size, 0, none⟩ = some (.int .i64 28) := b2.cell 0
  have c1 : v2.cell? ⟨w.heap.size, 1, none⟩ = some (.slice (some ⟨g, 0, none⟩) 2 c) := b2.cell 1
  have q00 : v2.cell? ⟨g, 0, none⟩ = some (.int .i64 k0) := (hl2.at 0 _ rfl).1
  have q01 : v2.cell? ⟨g, 1, none⟩ = some (.int .i64 n0) := (hl2.at 0 _ rfl).2.1
  have q02 : v2.cell? ⟨g, 2, none⟩ = some (.int .i64 p0) := (hl2.at 0 _ rfl).2.2
  have q10 : v2.cell? ⟨g, 3, none⟩ = some (.int .i64 k1) := (hl2.at 1 _ rfl).1
  have q11 : v2.cell? ⟨g, 4, none⟩ = some (.int .i64 n1) := (hl2.at 1 _ rfl).2.1
  have q12 : v2.cell? ⟨g, 5, none⟩ = some (.int .i64 p1) := (hl2.at 1 _ rfl).2.2
  have a0 : v2.cell? ⟨W2.heap.size, 0, none⟩ = some (.int .i64 k0) := x2.cell 0
  have a1 : v2.cell? ⟨W2.heap.size, 1, none⟩ = some (.int .i64 n0) := x2.cell 1
  have a2 : v2.cell? ⟨W2.heap.size, 2, none⟩ = some (.int .i64 p0) := x2.cell 2
  clear hb2
  cases r with
  | true =>
    go_wp2_with fail
    refine (cs _).mono ?_
    rintro e v3 ⟨rfl, hb3⟩
    have x3 := x2.kept hb3
    have b3 := b2.kept hb3
    have hl3 := hl2.kept hb3
    have hB3 : Below w.heap.size w v3 := bel_step hB2 hb3 hB2.size
    clear c0 c1 q00 q01 q02 q10 q11 q12 a0 a1 a2
    have c0 : v3.cell? ⟨w.heap.size, 0, none⟩ = some (.int .i64 28) := b3.cell 0
    have c1 : v3.cell? ⟨w.heap.size, 1, none⟩ = some (.slice (some ⟨g, 0, none⟩) 2 c) := b3.cell 1
    have q00 : v3.cell? ⟨g, 0, none⟩ = some (.int .i64 k0) := (hl3.at 0 _ rfl).1
    have q01 : v3.cell? ⟨g, 1, none⟩ = some (.int .i64 n0) := (hl3.at 0 _ rfl).2.1
    have q02 : v3.cell? ⟨g, 2, none⟩ = some (.int .i64 p0) := (hl3.at 0 _ rfl).2.2
    have q10 : v3.cell? ⟨g, 3, none⟩ = some (.int .i64 k1) := (hl3.at 1 _ rfl).1
    have q11 : v3.cell? ⟨g, 4, none⟩ = some (.int .i64 n1) := (hl3.at 1 _ rfl).2.1
    have q12 : v3.cell? ⟨g, 5, none⟩ = some (.int .i64 p1) := (hl3.at 1 _ rfl).2.2
    have a0 : v3.cell? ⟨W2.heap.size, 0, none⟩ = some (.int .i64 k0) := x3.cell 0
    have a1 : v3.cell? ⟨W2.heap.size, 1, none⟩ = some (.int .i64 n0) := x3.cell 1
    have a2 : v3.cell? ⟨W2.heap.size, 2, none⟩ = some (.int .i64 p0) := x3.cell 2
    clear hb3
    cases s with
    | true =>
      go_wp2
      go_ret
      exact ⟨rfl, hB3⟩
    | false =>
      go_wp2
      go_ret
      exact ⟨rfl, hB3⟩
  | false =>
    go_wp2
    go_ret
    exact ⟨rfl, hB2⟩
set_option maxRecDepth 100000 in
set_option maxHeartbeats 1000000 in
theorem coil_s_29 (k0 n0 p0 k1 n1 p1 : Int) (g c : Nat) (w : World) (hl : Lie w g 0 [(k0, n0, p0), (k1, n1, p1)]) (r : Bool) (hr : kindA (k0, n0, p0) 8 8 = r) (s : Bool) (hs : kindA (k1, n1, p1) 11 11 = s) : Calls Tryd.prog 17 #[.agg #[.int .i64 29, .slice (some ⟨g, 0, none⟩) 2 c]] w fun e w' => e = .returned (.bool (r && (s && decide (0 ≤ n1)))) ∧ Below w.heap.size w w' := by
  have ha := fun w => arity_s_29 w
  have cr := fun w => kind_any k0 n0 p0 8 8 w
  rw [hr] at cr
  clear hr
  have cs := fun w => kind_any k1 n1 p1 11 11 w
  rw [hs] at cs
  clear hs
  have b1 := Box.new w #[.int .i64 29, .slice (some ⟨g, 0, none⟩) 2 c] 31
  have hB1 : Below w.heap.size w (w.alloc (.cells #[.int .i64 29, .slice (some ⟨g, 0, none⟩) 2 c] 31)) := by repeat (first | exact Below.refl _ _ | assumption | refine Below.setCell ?_ (by first | (simp; done) | (simp; omega) | omega) _ | refine Below.alloc ?_ (by first | (simp; done) | (simp; omega) | omega) _ | refine Bx.bel_drewN ?_ _ | refine Below.drew ?_)
  have hl1 := hl.kept hB1
  clear hl
  go_enter Tryd.func17, Tryd.ntmps17
  go_wp2_with fail
  generalize w.alloc (.cells #[.int .i64 29, .slice (some ⟨g, 0, none⟩) 2 c] 31) = W1 at b1 hB1 hl1 ⊢
  have c0 : W1.cell? ⟨w.heap.size, 0, none⟩ = some (.int .i64 29) := b1.cell 0
  have c1 : W1.cell? ⟨w.heap.size, 1, none⟩ = some (.slice (some ⟨g, 0, none⟩) 2 c) := b1.cell 1
  have q00 : W1.cell? ⟨g, 0, none⟩ = some (.int .i64 k0) := (hl1.at 0 _ rfl).1
  have q01 : W1.cell? ⟨g, 1, none⟩ = some (.int .i64 n0) := (hl1.at 0 _ rfl).2.1
  have q02 : W1.cell? ⟨g, 2, none⟩ = some (.int .i64 p0) := (hl1.at 0 _ rfl).2.2
  have q10 : W1.cell? ⟨g, 3, none⟩ = some (.int .i64 k1) := (hl1.at 1 _ rfl).1
  have q11 : W1.cell? ⟨g, 4, none⟩ = some (.int .i64 n1) := (hl1.at 1 _ rfl).2.1
  have q12 : W1.cell? ⟨g, 5, none⟩ = some (.int .i64 p1) := (hl1.at 1 _ rfl).2.2
  go_quiet ((go_at_call 41; exact Calls.quiet_of_same (ha _)))
  have b1 := b1.drewN nq
  have hl1 : Lie (W1.drewN nq) g 0 [(k0, n0, p0), (k1, n1, p1)] := hl1
  have hB1 : Below w.heap.size w (W1.drewN nq) := bel_drewN hB1 _
  generalize W1.drewN nq = W2 at b1 hB1 hl1 ⊢
  clear c0 c1 q00 q01 q02 q10 q11 q12 ha
  have c0 : W2.cell? ⟨w.heap.size, 0, none⟩ = some (.int .i64 29) := b1.cell 0
  have c1 : W2.cell? ⟨w.heap.size, 1, none⟩ = some (.slice (some ⟨g, 0, none⟩) 2 c) := b1.cell 1
  have q00 : W2.cell? ⟨g, 0, none⟩ = some (.int .i64 k0) := (hl1.at 0 _ rfl).1
  have q01 : W2.cell? ⟨g, 1, none⟩ = some (.int .i64 n0) := (hl1.at 0 _ rfl).2.1
  have q02 : W2.cell? ⟨g, 2, none⟩ = some (.int .i64 p0) := (hl1.at 0 _ rfl).2.2
  have q10 : W2.cell? ⟨g, 3, none⟩ = some (.int .i64 k1) := (hl1.at 1 _ rfl).1
  have q11 : W2.cell? ⟨g, 4, none⟩ = some (.int .i64 n1) := (hl1.at 1 _ rfl).2.1
  have q12 : W2.cell? ⟨g, 5, none⟩ = some (.int .i64 p1) := (hl1.at 1 _ rfl).2.2
  have l2 : w.heap.size < W2.heap.size := b1.lt
  have lg : g < W2.heap.size := hl1.1
  have x1 := Box.new W2 #[.int .i64 k0, .int .i64 n0, .int .i64 p0] 40
  have b1' := b1.alloc (.cells #[.int .i64 k0, .int .i64 n0, .int .i64 p0] 40)
  have hB1' : Below w.heap.size w (W2.alloc (.cells #[.int .i64 k0, .int .i64 n0, .int .i64 p0] 40)) := hB1.alloc hB1.size _
  have hl1' : Lie (W2.alloc (.cells #[.int .i64 k0, .int .i64 n0, .int .i64 p0] 40)) g 0 [(k0, n0, p0), (k1, n1, p1)] := hl1.kept ((Below.refl _ _).alloc (Nat.le_refl _) _)
  go_wp2_with fail
  refine (cr _).mono ?_
  rintro e v2 ⟨rfl, hb2⟩
  have x2 := x1.kept hb2
  have b2 := b1'.kept hb2
  have hl2 := hl1'.kept hb2
  have hB2 : Below w.heap.size w v2 := bel_step hB1' hb2 hB1'.size
  clear c0 c1 q00 q01 q02 q10 q11 q12
  have c0 : v2.cell? ⟨w.heap.size, 0, none⟩ = some (.int .i64 29) := b2.cell 0
  have c1 : v2.cell? ⟨w.heap.size, 1, none⟩ = some (.slice (some ⟨g, 0, none⟩) 2 c) := b2.cell 1
  have q00 : v2.cell? ⟨g, 0, none⟩ = some (.int .i64 k0) := (hl2.at 0 _ rfl).1
  have q01 : v2.cell? ⟨g, 1, none⟩ = some (.int .i64 n0) := (hl2.at 0 _ rfl).2.1
  have q02 : v2.cell? ⟨g, 2, none⟩ = some (.int .i64 p0) := (hl2.at 0 _ rfl).2.2
  have q10 : v2.cell? ⟨g, 3, none⟩ = some (.int .i64 k1) := (hl2.at 1 _ rfl).1
  have q11 : v2.cell? ⟨g, 4, none⟩ = some (.int .i64 n1) := (hl2.at 1 _ rfl).2.1
  have q12 : v2.cell? ⟨g, 5, none⟩ = some (.int .i64 p1) := (hl2.at 1 _ rfl).2.2
  have a0 : v2.cell? ⟨W2.heap.size, 0, none⟩ = some (.int .i64 k0) := x2.cell 0
  have a1 : v2.cell? ⟨W2.heap.size, 1, none⟩ = some (.int .i64 n0) := x2.cell 1
  have a2 : v2.cell? ⟨W2.heap.size, 2, none⟩ = some (.int .i64 p0) := x2.cell 2
  clear hb2
  cases r with
  | true =>
    go_wp2_with fail
    refine (cs _).mono ?_
    rintro e v3 ⟨rfl, hb3⟩
    have x3 := x2.kept hb3
    have b3 := b2.kept hb3
    have hl3 := hl2.kept hb3
    have hB3 : Below w.heap.size w v3 := bel_step hB2 hb3 hB2.size
    clear c0 c1 q00 q01 q02 q10 q11 q12 a0 a1 a2
    have c0 : v3.cell? ⟨w.heap.size, 0, none⟩ = some (.int .i64 29) := b3.cell 0
    have c1 : v3.cell? ⟨w.heap.size, 1, none⟩ = some (.slice (some ⟨g, 0, none⟩) 2 c) := b3.cell 1
    have q00 : v3.cell? ⟨g, 0, none⟩ = some (.int .i64 k0) := (hl3.at 0 _ rfl).1
    have q01 : v3.cell? ⟨g, 1, none⟩ = some (.int .i64 n0) := (hl3.at 0 _ rfl).2.1
    have q02 : v3.cell? ⟨g, 2, none⟩ = some (.int .i64 p0) := (hl3.at 0 _ rfl).2.2
    have q10 : v3.cell? ⟨g, 3, none⟩ = some (.int .i64 k1) := (hl3.at 1 _ rfl).1
    have q11 : v3.cell? ⟨g, 4, none⟩ = some (.int .i64 n1) := (hl3.at 1 _ rfl).2.1
    have q12 : v3.cell? ⟨g, 5, none⟩ = some (.int .i64 p1) := (hl3.at 1 _ rfl).2.2
    have a0 : v3.cell? ⟨W2.heap.size, 0, none⟩ = some (.int .i64 k0) := x3.cell 0
    have a1 : v3.cell? ⟨W2.heap.size, 1, none⟩ = some (.int .i64 n0) := x3.cell 1
    have a2 : v3.cell? ⟨W2.heap.size, 2, none⟩ = some (.int .i64 p0) := x3.cell 2
    clear hb3
    cases s with
    | true =>
      go_wp2
      go_ret
      exact ⟨rfl, hB3⟩
    | false =>
      go_wp2
      go_ret
      exact ⟨rfl, hB3⟩
  | false =>
    go_wp2
    go_ret
    exact ⟨rfl, hB2⟩
set_option maxRecDepth 100000 in
set_option maxHeartbeats 1000000 in
theorem coil_s_30 (k0 n0 p0 k1 n1 p1 : Int) (g c : Nat) (w : World) (hl : Lie w g 0 [(k0, n0, p0), (k1, n1, p1)]) (r : Bool) (cr : ∀ w', Lie w' g 0 [(k0, n0, p0), (k1, n1, p1)] → Calls Tryd.prog 47 #[.agg #[.int .i64 30, .slice (some ⟨g, 0, none⟩) 2 c]] w' fun e w'' => e = .returned (.bool r) ∧ Below w'.heap.size w' w'') : Calls Tryd.prog 17 #[.agg #[.int .i64 30, .slice (some ⟨g, 0, none⟩) 2 c]] w fun e w' => e = .returned (.bool r) ∧ Below w.heap.size w w' := by
  have ha := fun w => arity_s_30 w
  have b1 := Box.new w #[.int .i64 30, .slice (some ⟨g, 0, none⟩) 2 c] 31
  have hB1 : Below w.heap.size w (w.alloc (.cells #[.int .i64 30, .slice (some ⟨g, 0, none⟩) 2 c] 31)) := by repeat (first | exact Below.refl _ _ | assumption | refine Below.setCell ?_ (by first | (simp; done) | (simp; omega) | omega) _ | refine Below.alloc ?_ (by first | (simp; done) | (simp; omega) | omega) _ | refine Bx.bel_drewN ?_ _ | refine Below.drew ?_)
  have hl1 := hl.kept hB1
  clear hl
  go_enter Tryd.func17, Tryd.ntmps17
  go_wp2_with fail
  generalize w.alloc (.cells #[.int .i64 30, .slice (some ⟨g, 0, none⟩) 2 c] 31) = W1 at b1 hB1 hl1 ⊢
  have c0 : W1.cell? ⟨w.heap.size, 0, none⟩ = some (.int .i64 30) := b1.cell 0
  have c1 : W1.cell? ⟨w.heap.size, 1, none⟩ = some (.slice (some ⟨g, 0, none⟩) 2 c) := b1.cell 1
  have q00 : W1.cell? ⟨g, 0, none⟩ = some (.int .i64 k0) := (hl1.at 0 _ rfl).1
  have q01 : W1.cell? ⟨g, 1, none⟩ = some (.int .i64 n0) := (hl1.at 0 _ rfl).2.1
  have q02 : W1.cell? ⟨g, 2, none⟩ = some (.int .i64 p0) := (hl1.at 0 _ rfl).2.2
  have q10 : W1.cell? ⟨g, 3, none⟩ = some (.int .i64 k1) := (hl1.at 1 _ rfl).1
  have q11 : W1.cell? ⟨g, 4, none⟩ = some (.int .i64 n1) := (hl1.at 1 _ rfl).2.1
  have q12 : W1.cell? ⟨g, 5, none⟩ = some (.int .i64 p1) := (hl1.at 1 _ rfl).2.2
  go_quiet ((go_at_call 41; exact Calls.quiet_of_same (ha _)))
  have b1 := b1.drewN nq
  have hl1 : Lie (W1.drewN nq) g 0 [(k0, n0, p0), (k1, n1, p1)] := hl1
  have hB1 : Below w.heap.size w (W1.drewN nq) := bel_drewN hB1 _
  generalize W1.drewN nq = W2 at b1 hB1 hl1 ⊢
  clear c0 c1 q00 q01 q02 q10 q11 q12 ha
  have c0 : W2.cell? ⟨w.heap.size, 0, none⟩ = some (.int .i64 30) := b1.cell 0
  have c1 : W2.cell? ⟨w.heap.size, 1, none⟩ = some (.slice (some ⟨g, 0, none⟩) 2 c) := b1.cell 1
  have q00 : W2.cell? ⟨g, 0, none⟩ = some (.int .i64 k0) := (hl1.at 0 _ rfl).1
  have q01 : W2.cell? ⟨g, 1, none⟩ = some (.int .i64 n0) := (hl1.at 0 _ rfl).2.1
  have q02 : W2.cell? ⟨g, 2, none⟩ = some (.int .i64 p0) := (hl1.at 0 _ rfl).2.2
  have q10 : W2.cell? ⟨g, 3, none⟩ = some (.int .i64 k1) := (hl1.at 1 _ rfl).1
  have q11 : W2.cell? ⟨g, 4, none⟩ = some (.int .i64 n1) := (hl1.at 1 _ rfl).2.1
  have q12 : W2.cell? ⟨g, 5, none⟩ = some (.int .i64 p1) := (hl1.at 1 _ rfl).2.2
  have l2 : w.heap.size < W2.heap.size := b1.lt
  have lg : g < W2.heap.size := hl1.1
  have x1 := Box.new W2 #[.int .i64 k0, .int .i64 n0, .int .i64 p0] 40
  have b1' := b1.alloc (.cells #[.int .i64 k0, .int .i64 n0, .int .i64 p0] 40)
  have hB1' : Below w.heap.size w (W2.alloc (.cells #[.int .i64 k0, .int .i64 n0, .int .i64 p0] 40)) := hB1.alloc hB1.size _
  have hl1' : Lie (W2.alloc (.cells #[.int .i64 k0, .int .i64 n0, .int .i64 p0] 40)) g 0 [(k0, n0, p0), (k1, n1, p1)] := hl1.kept ((Below.refl _ _).alloc (Nat.le_refl _) _)
  go_wp2_with fail
  refine (cr _ hl1').mono ?_
  rintro e v2 ⟨rfl, hb2⟩
  have hB2 : Below w.heap.size w v2 := bel_step hB1' hb2 hB1'.size
  clear hb2 cr x1 b1' hB1' hl1' b1 hB1 hl1 c0 c1 q00 q01 q02 q10 q11 q12
  go_wp2
  go_ret
  exact ⟨rfl, hB2⟩
set_option maxRecDepth 100000 in
set_option maxHeartbeats 1000000 in
theorem coil_s_31 (k0 n0 p0 k1 n1 p1 k2 n2 p2 : Int) (g c : Nat) (w : World) (hl : Lie w g 0 [(k0, n0, p0), (k1, n1, p1), (k2, n2, p2)]) (r : Bool) (cr : ∀ w', Lie w' g 0 [(k0, n0, p0), (k1, n1, p1), (k2, n2, p2)] → Calls Tryd.prog 47 #[.agg #[.int .i64 31, .slice (some ⟨g, 0, none⟩) 3 c]] w' fun e w'' => e = .returned (.bool r) ∧ Below w'.heap.size w' w'') : Calls Tryd.prog 17 #[.agg #[.int .i64 31, .slice (some ⟨g, 0, none⟩) 3 c]] w fun e w' => e = .returned (.bool r) ∧ Below w.heap.size w w' := by
  have ha := fun w => arity_s_31 w
  have b1 := Box.new w #[.int .i64 31, .slice (some ⟨g, 0, none⟩) 3 c] 31
  have hB1 : Below w.heap.size w (w.alloc (.cells #[.int .i64 31, .slice (some ⟨g, 0, none⟩) 3 c] 31)) := by repeat (first | exact Below.refl _ _ | assumption | refine Below.setCell ?_ (by first | (simp; done) | (simp; omega) | omega) _ | refine Below.alloc ?_ (by first | (simp; done) | (simp; omega) | omega) _ | refine Bx.bel_drewN ?_ _ | refine Below.drew ?_)
  have hl1 := hl.kept hB1
  clear hl
  go_enter Tryd.func17, Tryd.ntmps17
  go_wp2_with fail
  generalize w.alloc (.cells #[.int .i64 31, .slice (some ⟨g, 0, none⟩) 3 c] 31) = W1 at b1 hB1 hl1 ⊢
  have c0 : W1.cell? ⟨w.heap.size, 0, none⟩ = some (.int .i64 31) := b1.cell 0
  have c1 : W1.cell? ⟨w.heap.size, 1, none⟩ = some (.slice (some ⟨g, 0, none⟩) 3 c) := b1.cell 1
  have q00 : W1.cell? ⟨g, 0, none⟩ = some (.int .i64 k0) := (hl1.at 0 _ rfl).1
  have q01 : W1.cell? ⟨g, 1, none⟩ = some (.int .i64 n0) := (hl1.at 0 _ rfl).2.1
  have q02 : W1.cell? ⟨g, 2, none⟩ = some (.int .i64 p0) := (hl1.at 0 _ rfl).2.2
  have q10 : W1.cell? ⟨g, 3, none⟩ = some (.int .i64 k1) := (hl1.at 1 _ rfl).1
  have q11 : W1.cell? ⟨g, 4, none⟩ = some (.int .i64 n1) := (hl1.at 1 _ rfl).2.1
  have q12 : W1.cell? ⟨g, 5, none⟩ = some (.int .i64 p1) := (hl1.at 1 _ rfl).2.2
  have q20 : W1.cell? ⟨g, 6, none⟩ = some (.int .i64 k2) := (hl1.at 2 _ rfl).1
  have q21 : W1.cell? ⟨g, 7, none⟩ = some (.int .i64 n2) := (hl1.at 2 _ rfl).2.1
  have q22 : W1.cell? ⟨g, 8, none⟩ = some (.int .i64 p2) := (hl1.at 2 _ rfl).2.2
  go_quiet ((go_at_call 41; exact Calls.quiet_of_same (ha _)))
  have b1 := b1.drewN nq
  have hl1 : Lie (W1.drewN nq) g 0 [(k0, n0, p0), (k1, n1, p1), (k2, n2, p2)] := hl1
  have hB1 : Below w.heap.size w (W1.drewN nq) := bel_drewN hB1 _
  generalize W1.drewN nq = W2 at b1 hB1 hl1 ⊢
  clear c0 c1 q00 q01 q02 q10 q11 q12 q20 q21 q22 ha
  have c0 : W2.cell? ⟨w.heap.size, 0, none⟩ = some (.int .i64 31) := b1.cell 0
  have c1 : W2.cell? ⟨w.heap.size, 1, none⟩ = some (.slice (some ⟨g, 0, none⟩) 3 c) := b1.cell 1
  have q00 : W2.cell? ⟨g, 0, none⟩ = some (.int .i64 k0) := (hl1.at 0 _ rfl).1
  have q01 : W2.cell? ⟨g, 1, none⟩ = some (.int .i64 n0) := (hl1.at 0 _ rfl).2.1
  have q02 : W2.cell? ⟨g, 2, none⟩ = some (.int .i64 p0) := (hl1.at 0 _ rfl).2.2
  have q10 : W2.cell? ⟨g, 3, none⟩ = some (.int .i64 k1) := (hl1.at 1 _ rfl).1
  have q11 : W2.cell? ⟨g, 4, none⟩ = some (.int .i64 n1) := (hl1.at 1 _ rfl).2.1
  have q12 : W2.cell? ⟨g, 5, none⟩ = some (.int .i64 p1) := (hl1.at 1 _ rfl).2.2
  have q20 : W2.cell? ⟨g, 6, none⟩ = some (.int .i64 k2) := (hl1.at 2 _ rfl).1
  have q21 : W2.cell? ⟨g, 7, none⟩ = some (.int .i64 n2) := (hl1.at 2 _ rfl).2.1
  have q22 : W2.cell? ⟨g, 8, none⟩ = some (.int .i64 p2) := (hl1.at 2 _ rfl).2.2
  have l2 : w.heap.size < W2.heap.size := b1.lt
  have lg : g < W2.heap.size := hl1.1
  have x1 := Box.new W2 #[.int .i64 k0, .int .i64 n0, .int .i64 p0] 40
  have b1' := b1.alloc (.cells #[.int .i64 k0, .int .i64 n0, .int .i64 p0] 40)
  have hB1' : Below w.heap.size w (W2.alloc (.cells #[.int .i64 k0, .int .i64 n0, .int .i64 p0] 40)) := hB1.alloc hB1.size _
  have hl1' : Lie (W2.alloc (.cells #[.int .i64 k0, .int .i64 n0, .int .i64 p0] 40)) g 0 [(k0, n0, p0), (k1, n1, p1), (k2, n2, p2)] := hl1.kept ((Below.refl _ _).alloc (Nat.le_refl _) _)
  go_wp2_with fail
  refine (cr _ hl1').mono ?_
  rintro e v2 ⟨rfl, hb2⟩
  have hB2 : Below w.heap.size w v2 := bel_step hB1' hb2 hB1'.size
  clear hb2 cr x1 b1' hB1' hl1' b1 hB1 hl1 c0 c1 q00 q01 q02 q10 q11 q12 q20 q21 q22
  go_wp2
  go_ret
  exact ⟨rfl, hB2⟩
set_option maxRecDepth 100000 in
set_option maxHeartbeats 1000000 in
theorem coil_s_32 (k0 n0 p0 k1 n1 p1 k2 n2 p2 : Int) (g c : Nat) (w : World) (hl : Lie w g 0 [(k0, n0, p0), (k1, n1, p1), (k2, n2, p2)]) (r : Bool) (cr : ∀ w', Lie w' g 0 [(k0, n0, p0), (k1, n1, p1), (k2, n2, p2)] → Calls Tryd.prog 47 #[.agg #[.int .i64 32, .slice (some ⟨g, 0, none⟩) 3 c]] w' fun e w'' => e = .returned (.bool r) ∧ Below w'.heap.size w' w'') : Calls Tryd.prog 17 #[.agg #[.int .i64 32, .slice (some ⟨g, 0, none⟩) 3 c]] w fun e w' => e = .returned (.bool r) ∧ Below w.heap.size w w' := by
  have ha := fun w => arity_s_32 w
  have b1 := Box.new w #[.int .i64 32, .slice (some ⟨g, 0, none⟩) 3 c] 31
  have hB1 : Below w.heap.size w (w.alloc (.cells #[.int .i64 32, .slice (some ⟨g, 0, none⟩) 3 c] 31)) := by repeat (first | exact Below.refl _ _ | assumption | refine Below.setCell ?_ (by first | (simp; done) | (simp; omega) | omega) _ | refine Below.alloc ?_ (by first | (simp; done) | (simp; omega) | omega) _ | refine Bx.bel_drewN ?_ _ | refine Below.drew ?_)
  have hl1 := hl.kept hB1
  clear hl
  go_enter Tryd.func17, Tryd.ntmps17
  go_wp2_with fail
  generalize w.alloc (.cells #[.int .i64 32, .slice (some ⟨g, 0, none⟩) 3 c] 31) = W1 at b1 hB1 hl1 ⊢
  have c0 : W1.cell? ⟨w.heap.size, 0, none⟩ = some (.int .i64 32) := b1.cell 0
  have c1 : W1.cell? ⟨w.heap.size, 1, none⟩ = some (.slice (some ⟨g, 0, none⟩) 3 c) := b1.cell 1
  have q00 : W1.cell? ⟨g, 0, none⟩ = some (.int .i64 k0) := (hl1.at 0 _ rfl).1
  have q01 : W1.cell? ⟨g, 1, none⟩ = some (.int .i64 n0) := (hl1.at 0 _ rfl).2.1
  have q02 : W1.cell? ⟨g, 2, none⟩ = some (.int .i64 p0) := (hl1.at 0 _ rfl).2.2
  have q10 : W1.cell? ⟨g, 3, none⟩ = some (.int .i64 k1) := (hl1.at 1 _ rfl).1
  have q11 : W1.cell? ⟨g, 4, none⟩ = some (.int .i64 n1) := (hl1.at 1 _ rfl).2.1
  have q12 : W1.cell? ⟨g, 5, none⟩ = some (.int .i64 p1) := (hl1.at 1 _ rfl).2.2
  have q20 : W1.cell? ⟨g, 6, none⟩ = some (.int .i64 k2) := (hl1.at 2 _ rfl).1
  have q21 : W1.cell? ⟨g, 7, none⟩ = some (.int .i64 n2) := (hl1.at 2 _ rfl).2.1
  have q22 : W1.cell? ⟨g, 8, none⟩ = some (.int .i64 p2) := (hl1.at 2 _ rfl).2.2
  go_quiet ((go_at_call 41; exact Calls.quiet_of_same (ha _)))
  have b1 := b1.drewN nq
  have hl1 : Lie (W1.drewN nq) g 0 [(k0, n0, p0), (k1, n1, p1), (k2, n2, p2)] := hl1
  have hB1 : Below w.heap.size w (W1.drewN nq) := bel_drewN hB1 _
  generalize W1.drewN nq = W2 at b1 hB1 hl1 ⊢
  clear c0 c1 q00 q01 q02 q10 q11 q12 q20 q21 q22 ha
  have c0 : W2.cell? ⟨w.heap.size, 0, none⟩ = some (.int .i64 32) := b1.cell 0
  have c1 : W2.cell? ⟨w.heap.size, 1, none⟩ = some (.slice (some ⟨g, 0, none⟩) 3 c) := b1.cell 1
  have q00 : W2.cell? ⟨g, 0, none⟩ = some (.int .i64 k0) := (hl1.at 0 _ rfl).1
  have q01 : W2.cell? ⟨g, 1, none⟩ = some (.int .i64 n0) := (hl1.at 0 _ rfl).2.1
  have q02 : W2.cell? ⟨g, 2, none⟩ = some (.int .i64 p0) := (hl1.at 0 _ rfl).2.2
  have q10 : W2.cell? ⟨g, 3, none⟩ = some (.int .i64 k1) := (hl1.at 1 _ rfl).1
  have q11 : W2.cell? ⟨g, 4, none⟩ = some (.int .i64 n1) := (hl1.at 1 _ rfl).2.1
  have q12 : W2.cell? ⟨g, 5, none⟩ = some (.int .i64 p1) := (hl1.at 1 _ rfl).2.2
  have q20 : W2.cell? ⟨g, 6, none⟩ = some (.int .i64 k2) := (hl1.at 2 _ rfl).1
  have q21 : W2.cell? ⟨g, 7, none⟩ = some (.int .i64 n2) := (hl1.at 2 _ rfl).2.1
  have q22 : W2.cell? ⟨g, 8, none⟩ = some (.int .i64 p2) := (hl1.at 2 _ rfl).2.2
  have l2 : w.heap.size < W2.heap.size := b1.lt
  have lg : g < W2.heap.size := hl1.1
  have x1 := Box.new W2 #[.int .i64 k0, .int .i64 n0, .int .i64 p0] 40
  have b1' := b1.alloc (.cells #[.int .i64 k0, .int .i64 n0, .int .i64 p0] 40)
  have hB1' : Below w.heap.size w (W2.alloc (.cells #[.int .i64 k0, .int .i64 n0, .int .i64 p0] 40)) := hB1.alloc hB1.size _
  have hl1' : Lie (W2.alloc (.cells #[.int .i64 k0, .int .i64 n0, .int .i64 p0] 40)) g 0 [(k0, n0, p0), (k1, n1, p1), (k2, n2, p2)] := hl1.kept ((Below.refl _ _).alloc (Nat.le_refl _) _)
  go_wp2_with fail
  refine (cr _ hl1').mono ?_
  rintro e v2 ⟨rfl, hb2⟩
  have hB2 : Below w.heap.size w v2 := bel_step hB1' hb2 hB1'.size
  clear hb2 cr x1 b1' hB1' hl1' b1 hB1 hl1 c0 c1 q00 q01 q02 q10 q11 q12 q20 q21 q22
  go_wp2
  go_ret
  exact ⟨rfl, hB2⟩
set_option maxRecDepth 100000 in
set_option maxHeartbeats 1000000 in
theorem coil_s_33 (k0 n0 p0 k1 n1 p1 k2 n2 p2 : Int) (g c : Nat) (w : World) (hl : Lie w g 0 [(k0, n0, p0), (k1, n1, p1), (k2, n2, p2)]) (r : Bool) (cr : ∀ w', Lie w' g 0 [(k0, n0, p0), (k1, n1, p1), (k2, n2, p2)] → Calls Tryd.prog 47 #[.agg #[.int .i64 33, .slice (some ⟨g, 0, none⟩) 3 c]] w' fun e w'' => e = .returned (.bool r) ∧ Below w'.heap.size w' w'') : Calls Tryd.prog 17 #[.agg #[.int .i64 33, .slice (some ⟨g, 0, none⟩) 3 c]] w fun e w' => e = .returned (.bool r) ∧ Below w.heap.size w w' := by
  have ha := fun w => arity_s_33 w
  have b1 := Box.new w #[.int .i64 33, .slice (some ⟨g, 0, none⟩) 3 c] 31
  have hB1 : Below w.heap.size w (w.alloc (.cells #[.int .i64 33, .slice (some ⟨g, 0, none⟩) 3 c] 31)) := by repeat (first | exact Below.refl _ _ | assumption | refine Below.setCell ?_ (by first | (simp; done) | (simp; omega) | omega) _ | refine Below.alloc ?_ (by first | (simp; done) | (simp; omega) | omega) _ | refine Bx.bel_drewN ?_ _ | refine Below.drew ?_)
  have hl1 := hl.kept hB1
  clear hl
  go_enter Tryd.func17, Tryd.ntmps17
  go_wp2_with fail
  generalize w.alloc (.cells #[.int .i64 33, .slice (some ⟨g, 0, none⟩) 3 c] 31) = W1 at b1 hB1 hl1 ⊢
  have c0 : W1.cell? ⟨w.heap.size, 0, none⟩ = some (.int .i64 33) := b1.cell 0
  have c1 : W1.cell? ⟨w.heap.size, 1, none⟩ = some (.slice (some ⟨g, 0, none⟩) 3 c) := b1.cell 1
  have q00 : W1.cell? ⟨g, 0, none⟩ = some (.int .i64 k0) := (hl1.at 0 _ rfl).1
  have q01 : W1.cell? ⟨g, 1, none⟩ = some (.int .i64 n0) := (hl1.at 0 _ rfl).2.1
  have q02 : W1.cell? ⟨g, 2, none⟩ = some (.int .i64 p0) := (hl1.at 0 _ rfl).2.2
  have q10 : W1.cell? ⟨g, 3, none⟩ = some (.int .i64 k1) := (hl1.at 1 _ rfl).1
  have q11 : W1.cell? ⟨g, 4, none⟩ = some (.int .i64 n1) := (hl1.at 1 _ rfl).2.1
  have q12 : W1.cell? ⟨g, 5, none⟩ = some (.int .i64 p1) := (hl1.at 1 _ rfl).2.2
  have q20 : W1.cell? ⟨g, 6, none⟩ = some (.int .i64 k2) := (hl1.at 2 _ rfl).1
  have q21 : W1.cell? ⟨g, 7, none⟩ = some (.int .i64 n2) := (hl1.at 2 _ rfl).2.1
  have q22 : W1.cell? ⟨g, 8, none⟩ = some (.int .i64 p2) := (hl1.at 2 _ rfl).2.2
  go_quiet ((go_at_call 41; exact Calls.quiet_of_same (ha _)))
  have b1 := b1.drewN nq
  have hl1 : Lie (W1.drewN nq) g 0 [(k0, n0, p0), (k1, n1, p1), (k2, n2, p2)] := hl1
  have hB1 : Below w.heap.size w (W1.drewN nq) := bel_drewN hB1 _
  generalize W1.drewN nq = W2 at b1 hB1 hl1 ⊢
  clear c0 c1 q00 q01 q02 q10 q11 q12 q20 q21 q22 ha
  have c0 : W2.cell? ⟨w.heap.size, 0, none⟩ = some (.int .i64 33) := b1.cell 0
  have c1 : W2.cell? ⟨w.heap.size, 1, none⟩ = some (.slice (some ⟨g, 0, none⟩) 3 c) := b1.cell 1
  have q00 : W2.cell? ⟨g, 0, none⟩ = some (.int .i64 k0) := (hl1.at 0 _ rfl).1
  have q01 : W2.cell? ⟨g, 1, none⟩ = some (.int .i64 n0) := (hl1.at 0 _ rfl).2.1
  have q02 : W2.cell? ⟨g, 2, none⟩ = some (.int .i64 p0) := (hl1.at 0 _ rfl).2.2
  have q10 : W2.cell? ⟨g, 3, none⟩ = some (.int .i64 k1) := (hl1.at 1 _ rfl).1
  have q11 : W2.cell? ⟨g, 4, none⟩ = some (.int .i64 n1) := (hl1.at 1 _ rfl).2.1
  have q12 : W2.cell? ⟨g, 5, none⟩ = some (.int .i64 p1) := (hl1.at 1 _ rfl).2.2
  have q20 : W2.cell? ⟨g, 6, none⟩ = some (.int .i64 k2) := (hl1.at 2 _ rfl).1
  have q21 : W2.cell? ⟨g, 7, none⟩ = some (.int .i64 n2) := (hl1.at 2 _ rfl).2.1
  have q22 : W2.cell? ⟨g, 8, none⟩ = some (.int .i64 p2) := (hl1.at 2 _ rfl).2.2
  have l2 : w.heap.size < W2.heap.size := b1.lt
  have lg : g < W2.heap.size := hl1.1
  have x1 := Box.new W2 #[.int .i64 k0, .int .i64 n0, .int .i64 p0] 40
  have b1' := b1.alloc (.cells #[.int .i64 k0, .int .i64 n0, .int .i64 p0] 40)
  have hB1' : Below w.heap.size w (W2.alloc (.cells #[.int .i64 k0, .int .i64 n0, .int .i64 p0] 40)) := hB1.alloc hB1.size _
  have hl1' : Lie (W2.alloc (.cells #[.int .i64 k0, .int .i64 n0, .int .i64 p0] 40)) g 0 [(k0, n0, p0), (k1, n1, p1), (k2, n2, p2)] := hl1.kept ((Below.refl _ _).alloc (Nat.le_refl _) _)
  go_wp2_with fail
  refine (cr _ hl1').mono ?_
  rintro e v2 ⟨rfl, hb2⟩
  have hB2 : Below w.heap.size w v2 := bel_step hB1' hb2 hB1'.size
  clear hb2 cr x1 b1' hB1' hl1' b1 hB1 hl1 c0 c1 q00 q01 q02 q10 q11 q12 q20 q21 q22
  go_wp2
  go_ret
  exact ⟨rfl, hB2⟩
set_option maxRecDepth 100000 in
set_option maxHeartbeats 1000000 in
theorem coil_s_34 (k0 n0 p0 k1 n1 p1 k2 n2 p2 : Int) (g c : Nat) (w : World) (hl : Lie w g 0 [(k0, n0, p0), (k1, n1, p1), (k2, n2, p2)]) (r : Bool) (cr : ∀ w', Lie w' g 0 [(k0, n0, p0), (k1, n1, p1), (k2, n2, p2)] → Calls Tryd.prog 47 #[.agg #[.int .i64 34, .slice (some ⟨g, 0, none⟩) 3 c]] w' fun e w'' => e = .returned (.bool r) ∧ Below w'.heap.size w' w'') : Calls Tryd.prog 17 #[.agg #[.int .i64 34, .slice (some ⟨g, 0, none⟩) 3 c]] w fun e w' => e = .returned (.bool r) ∧ Below w.heap.size w w' := by
  have ha := fun w => arity_s_34 w
  have b1 := Box.new w #[.int .i64 34, .slice (some ⟨g, 0, none⟩) 3 c] 31
  have hB1 : Below w.heap.size w (w.alloc (.cells #[.int .i64 34, .slice (some ⟨g, 0, none⟩) 3 c] 31)) := by repeat (first | exact Below.refl _ _ | assumption | refine Below.setCell ?_ (by first | (simp; done) | (simp; omega) | omega) _ | refine Below.alloc ?_ (by first | (simp; done) | (simp; omega) | omega) _ | refine Bx.bel_drewN ?_ _ | refine Below.drew ?_)
  have hl1 := hl.kept hB1
  clear hl
  go_enter Tryd.func17, Tryd.ntmps17
  go_wp2_with fail
  generalize w.alloc (.cells #[.int .i64 34, .slice (some ⟨g, 0, none⟩) 3 c] 31) = W1 at b1 hB1 hl1 ⊢
  have c0 : W1.cell? ⟨w.heap.size, 0, none⟩ = some (.int .i64 34) := b1.cell 0
  have c1 : W1.cell? ⟨w.heap.size, 1, none⟩ = some (.slice (some ⟨g, 0, none⟩) 3 c) := b1.cell 1
  have q00 : W1.cell? ⟨g, 0, none⟩ = some (.int .i64 k0) := (hl1.at 0 _ rfl).1
  have q01 : W1.cell? ⟨g, 1, none⟩ = some (.int .i64 n0) := (hl1.at 0 _ rfl).2.1
  have q02 : W1.cell? ⟨g, 2, none⟩ = some (.int .i64 p0) := (hl1.at 0 _ rfl).2.2
  have q10 : W1.cell? ⟨g, 3, none⟩ = some (.int .i64 k1) := (hl1.at 1 _ rfl).1
  have q11 : W1.cell? ⟨g, 4, none⟩ = some (.int .i64 n1) := (hl1.at 1 _ rfl).2.1
  have q12 : W1.cell? ⟨g, 5, none⟩ = some (.int .i64 p1) := (hl1.at 1 _ rfl).2.2
  have q20 : W1.cell? ⟨g, 6, none⟩ = some (.int .i64 k2) := (hl1.at 2 _ rfl).1
  have q21 : W1.cell? ⟨g, 7, none⟩ = some (.int .i64 n2) := (hl1.at 2 _ rfl).2.1
  have q22 : W1.cell? ⟨g, 8, none⟩ = some (.int .i64 p2) := (hl1.at 2 _ rfl).2.2
  go_quiet ((go_at_call 41; exact Calls.quiet_of_same (ha _)))
  have b1 := b1.drewN nq
  have hl1 : Lie (W1.drewN nq) g 0 [(k0, n0, p0), (k1, n1, p1), (k2, n2, p2)] := hl1
  have hB1 : Below w.heap.size w (W1.drewN nq) := bel_drewN hB1 _
  generalize W1.drewN nq = W2 at b1 hB1 hl1 ⊢
  clear c0 c1 q00 q01 q02 q10 q11 q12 q20 q21 q22 ha
  have c0 : W2.cell? ⟨w.heap.size, 0, none⟩ = some (.int .i64 34) := b1.cell 0
  have c1 : W2.cell? ⟨w.heap.size, 1, none⟩ = some (.slice (some ⟨g, 0, none⟩) 3 c) := b1.cell 1
  have q00 : W2.cell? ⟨g, 0, none⟩ = some (.int .i64 k0) := (hl1.at 0 _ rfl).1
  have q01 : W2.cell? ⟨g, 1, none⟩ = some (.int .i64 n0) := (hl1.at 0 _ rfl).2.1
  have q02 : W2.cell? ⟨g, 2, none⟩ = some (.int .i64 p0) := (hl1.at 0 _ rfl).2.2
  have q10 : W2.cell? ⟨g, 3, none⟩ = some (.int .i64 k1) := (hl1.at 1 _ rfl).1
  have q11 : W2.cell? ⟨g, 4, none⟩ = some (.int .i64 n1) := (hl1.at 1 _ rfl).2.1
  have q12 : W2.cell? ⟨g, 5, none⟩ = some (.int .i64 p1) := (hl1.at 1 _ rfl).2.2
  have q20 : W2.cell? ⟨g, 6, none⟩ = some (.int .i64 k2) := (hl1.at 2 _ rfl).1
  have q21 : W2.cell? ⟨g, 7, none⟩ = some (.int .i64 n2) := (hl1.at 2 _ rfl).2.1
  have q22 : W2.cell? ⟨g, 8, none⟩ = some (.int .i64 p2) := (hl1.at 2 _ rfl).2.2
  have l2 : w.heap.size < W2.heap.size := b1.lt
  have lg : g < W2.heap.size := hl1.1
  have x1 := Box.new W2 #[.int .i64 k0, .int .i64 n0, .int .i64 p0] 40
  have b1' := b1.alloc (.cells #[.int .i64 k0, .int .i64 n0, .int .i64 p0] 40)
  have hB1' : Below w.heap.size w (W2.alloc (.cells #[.int .i64 k0, .int .i64 n0, .int .i64 p0] 40)) := hB1.alloc hB1.size _
  have hl1' : Lie (W2.alloc (.cells #[.int .i64 k0, .int .i64 n0, .int .i64 p0] 40)) g 0 [(k0, n0, p0), (k1, n1, p1), (k2, n2, p2)] := hl1.kept ((Below.refl _ _).alloc (Nat.le_refl _) _)
  go_wp2_with fail
  refine (cr _ hl1').mono ?_
  rintro e v2 ⟨rfl, hb2⟩
  have hB2 : Below w.heap.size w v2 := bel_step hB1' hb2 hB1'.size
  clear hb2 cr x1 b1' hB1' hl1' b1 hB1 hl1 c0 c1 q00 q01 q02 q10 q11 q12 q20 q21 q22
  go_wp2
  go_ret
  exact ⟨rfl, hB2⟩
set_option maxRecDepth 100000 in
set_option maxHeartbeats 1000000 in
theorem coil_s_35 (k0 n0 p0 k1 n1 p1 k2 n2 p2 : Int) (g c : Nat) (w : World) (hl : Lie w g 0 [(k0, n0, p0), (k1, n1, p1), (k2, n2, p2)]) (r : Bool) (cr : ∀ w', Lie w' g 0 [(k0, n0, p0), (k1, n1, p1), (k2, n2, p2)] → Calls Tryd.prog 47 #[.agg #[.int .i64 35, .slice (some ⟨g, 0, none⟩) 3 c]] w' fun e w'' => e = .returned (.bool r) ∧ Below w'.heap.size w' w'') : Calls Tryd.prog 17 #[.agg #[.int .i64 35, .slice (some ⟨g, 0, none⟩) 3 c]] w fun e w' => e = .returned (.bool r) ∧ Below w.heap.size w w' := by
  have ha := fun w => arity_s_35 w
  have b1 := Box.new w #[.int .i64 35, .slice (some ⟨g, 0, none⟩) 3 c] 31
  have hB1 : Below w.heap.size w (w.alloc (.cells #[.int .i64 35, .slice (some ⟨g, 0, none⟩) 3 c] 31)) := by repeat (first | exact Below.refl _ _ | assumption | refine Below.setCell ?_ (by first | (simp; done) | (simp; omega) | omega) _ | refine Below.alloc ?_ (by first | (simp; done) | (simp; omega) | omega) _ | refine Bx.bel_drewN ?_ _ | refine Below.drew ?_)
  have hl1 := hl.kept hB1
  clear hl
  go_enter Tryd.func17, Tryd.ntmps17
  go_wp2_with fail
  generalize w.alloc (.cells #[.int .i64 35, .slice (some ⟨g, 0, none⟩) 3 c] 31) = W1 at b1 hB1 hl1 ⊢
  have c0 : W1.cell? ⟨w.heap.size, 0, none⟩ = some (.int .i64 35) := b1.cell 0
  have c1 : W1.cell? ⟨w.heap.size, 1, none⟩ = some (.slice (some ⟨g, 0, none⟩) 3 c) := b1.cell 1
  have q00 : W1.cell? ⟨g, 0, none⟩ = some (.int .i64 k0) := (hl1.at 0 _ rfl).1
  have q01 : W1.cell? ⟨g, 1, none⟩ = some (.int .i64 n0) := (hl1.at 0 _ rfl).2.1
  have q02 : W1.cell? ⟨g, 2, none⟩ = some (.int .i64 p0) := (hl1.at 0 _ rfl).2.2
  have q10 : W1.cell? ⟨g, 3, none⟩ = some (.int .i64 k1) := (hl1.at 1 _ rfl).1
  have q11 : W1.cell? ⟨g, 4, none⟩ = some (.int .i64 n1) := (hl1.at 1 _ rfl).2.1
  have q12 : W1.cell? ⟨g, 5, none⟩ = some (.int .i64 p1) := (hl1.at 1 _ rfl).2.2
  have q20 : W1.cell? ⟨g, 6, none⟩ = some (.int .i64 k2) := (hl1.at 2 _ rfl).1
  have q21 : W1.cell? ⟨g, 7, none⟩ = some (.int .i64 n2) := (hl1.at 2 _ rfl).2.1
  have q22 : W1.cell? ⟨g, 8, none⟩ = some (.int .i64 p2) := (hl1.at 2 _ rfl).2.2
  go_quiet ((go_at_call 41; exact Calls.quiet_of_same (ha _)))
  have b1 := b1.drewN nq
  have hl1 : Lie (W1.drewN nq) g 0 [(k0, n0, p0), (k1, n1, p1), (k2, n2, p2)] := hl1
  have hB1 : Below w.heap.size w (W1.drewN nq) := bel_drewN hB1 _
  generalize W1.drewN nq = W2 at b1 hB1 hl1 ⊢
  clear c0 c1 q00 q01 q02 q10 q11 q12 q20 q21 q22 ha
  have c0 : W2.cell? ⟨w.heap.size, 0, none⟩ = some (.int .i64 35) := b1.cell 0
  have c1 : W2.cell? ⟨w.heap.size, 1, none⟩ = some (.slice (some ⟨g, 0, none⟩) 3 c) := b1.cell 1
  have q00 : W2.cell? ⟨g, 0, none⟩ = some (.int .i64 k0) := (hl1.at 0 _ rfl).1
  have q01 : W2.cell? ⟨g, 1, none⟩ = some (.int .i64 n0) := (hl1.at 0 _ rfl).2.1
  have q02 : W2.cell? ⟨g, 2, none⟩ = some (.int .i64 p0) := (hl1.at 0 _ rfl).2.2
  have q10 : W2.cell? ⟨g, 3, none⟩ = some (.int .i64 k1) := (hl1.at 1 _ rfl).1
  have q11 : W2.cell? ⟨g, 4, none⟩ = some (.int .i64 n1) := (hl1.at 1 _ rfl).2.1
  have q12 : W2.cell? ⟨g, 5, none⟩ = some (.int .i64 p1) := (hl1.at 1 _ rfl).2.2
  have q20 : W2.cell? ⟨g, 6, none⟩ = some (.int .i64 k2) := (hl1.at 2 _ rfl).1
  have q21 : W2.cell? ⟨g, 7, none⟩ = some (.int .i64 n2) := (hl1.at 2 _ rfl).2.1
  have q22 : W2.cell? ⟨g, 8, none⟩ = some (.int .i64 p2) := (hl1.at 2 _ rfl).2.2
  have l2 : w.heap.size < W2.heap.size := b1.lt
  have lg : g < W2.heap.size := hl1.1
  have x1 := Box.new W2 #[.int .i64 k0, .int .i64 n0, .int .i64 p0] 40
  have b1' := b1.alloc (.cells #[.int .i64 k0, .int .i64 n0, .int .i64 p0] 40)
  have hB1' : Below w.heap.size w (W2.alloc (.cells #[.int .i64 k0, .int .i64 n0, .int .i64 p0] 40)) := hB1.alloc hB1.size _
  have hl1' : Lie (W2.alloc (.cells #[.int .i64 k0, .int .i64 n0, .int .i64 p0] 40)) g 0 [(k0, n0, p0), (k1, n1, p1), (k2, n2, p2)] := hl1.kept ((Below.refl _ _).alloc (Nat.le_refl _) _)
  go_wp2_with fail
  refine (cr _ hl1').mono ?_
  rintro e v2 ⟨rfl, hb2⟩
  have hB2 : Below w.heap.size w v2 := bel_step hB1' hb2 hB1'.size
  clear hb2 cr x1 b1' hB1' hl1' b1 hB1 hl1 c0 c1 q00 q01 q02 q10 q11 q12 q20 q21 q22
  go_wp2
  go_ret
  exact ⟨rfl, hB2⟩
set_option maxRecDepth 100000 in
set_option maxHeartbeats 1000000 in
theorem coil_s_36 (k0 n0 p0 k1 n1 p1 : Int) (g c : Nat) (w : World) (hl : Lie w g 0 [(k0, n0, p0), (k1, n1, p1)]) (r : Bool) (hr : kindA (k0, n0, p0) 10 10 = r) (s : Bool) (hs : wholeA (k1, n1, p1) = s) : Calls Tryd.prog 17 #[.agg #[.int .i64 36, .slice (some ⟨g, 0, none⟩) 2 c]] w fun e w' => e = .returned (.bool (r && s)) ∧ Below w.heap.size w w' := by
  have ha := fun w => arity_s_36 w
  have cr := fun w => kind_any k0 n0 p0 10 10 w
  rw [hr] at cr
  clear hr
  have cs := fun w => devIsWhole_s_any k1 n1 p1 w
  rw [show DevP.isWhole k1 n1 p1 = s from hs] at cs
  clear hs
  have b1 := Box.new w #[.int .i64 36, .slice (some ⟨g, 0, none⟩) 2 c] 31
  have hB1 : Below w.heap.size w (w.alloc (.cells #[.int .i64 36, .slice (some ⟨g, 0, none⟩) 2 c] 31)) := by repeat (first | exact Below.refl _ _ | assumption | refine Below.setCell ?_ (by first | (simp; done) | (simp; omega) | omega) _ | refine Below.alloc ?_ (by first | (simp; done) | (simp; omega) | omega) _ | refine Bx.bel_drewN ?_ _ | refine Below.drew ?_)
  have hl1 := hl.kept hB1
  clear hl
  go_enter Tryd.func17, Tryd.ntmps17
  go_wp2_with fail
  generalize w.alloc (.cells #[.int .i64 36, .slice (some ⟨g, 0, none⟩) 2 c] 31) = W1 at b1 hB1 hl1 ⊢
  have c0 : W1.cell? ⟨w.heap.size, 0, none⟩ = some (.int .i64 36) := b1.cell 0
  have c1 : W1.cell? ⟨w.heap.size, 1, none⟩ = some (.slice (some ⟨g, 0, none⟩) 2 c) := b1.cell 1
  have q00 : W1.cell? ⟨g, 0, none⟩ = some (.int .i64 k0) := (hl1.at 0 _ rfl).1
  have q01 : W1.cell? ⟨g, 1, none⟩ = some (.int .i64 n0) := (hl1.at 0 _ rfl).2.1
  have q02 : W1.cell? ⟨g, 2, none⟩ = some (.int .i64 p0) := (hl1.at 0 _ rfl).2.2
  have q10 : W1.cell? ⟨g, 3, none⟩ = some (.int .i64 k1) := (hl1.at 1 _ rfl).1
  have q11 : W1.cell? ⟨g, 4, none⟩ = some (.int .i64 n1) := (hl1.at 1 _ rfl).2.1
  have q12 : W1.cell? ⟨g, 5, none⟩ = some (.int .i64 p1) := (hl1.at 1 _ rfl).2.2
  go_quiet ((go_at_call 41; exact Calls.quiet_of_same (ha _)))
  have b1 := b1.drewN nq
  have hl1 : Lie (W1.drewN nq) g 0 [(k0, n0, p0), (k1, n1, p1)] := hl1
  have hB1 : Below w.heap.size w (W1.drewN nq) := bel_drewN hB1 _
  generalize W1.drewN nq = W2 at b1 hB1 hl1 ⊢
  clear c0 c1 q00 q01 q02 q10 q11 q12 ha
  have c0 : W2.cell? ⟨w.heap.size, 0, none⟩ = some (.int .i64 36) := b1.cell 0
  have c1 : W2.cell? ⟨w.heap.size, 1, none⟩ = some (.slice (some ⟨g, 0, none⟩) 2 c) := b1.cell 1
  have q00 : W2.cell? ⟨g, 0, none⟩ = some (.int .i64 k0) := (hl1.at 0 _ rfl).1
  have q01 : W2.cell? ⟨g, 1, none⟩ = some (.int .i64 n0) := (hl1.at 0 _ rfl).2.1
  have q02 : W2.cell? ⟨g, 2, none⟩ = some (.int .i64 p0) := (hl1.at 0 _ rfl).2.2
  have q10 : W2.cell? ⟨g, 3, none⟩ = some (.int .i64 k1) := (hl1.at 1 _ rfl).1
  have q11 : W2.cell? ⟨g, 4, none⟩ = some (.int .i64 n1) := (hl1.at 1 _ rfl).2.1
  have q12 : W2.cell? ⟨g, 5, none⟩ = some (.int .i64 p1) := (hl1.at 1 _ rfl).2.2
  have l2 : w.heap.size < W2.heap.size := b1.lt
  have lg : g < W2.heap.size := hl1.1
  have x1 := Box.new W2 #[.int .i64 k0, .int .i64 n0, .int .i64 p0] 40
  have b1' := b1.alloc (.cells #[.int .i64 k0, .int .i64 n0, .int .i64 p0] 40)
  have hB1' : Below w.heap.size w (W2.alloc (.cells #[.int .i64 k0, .int .i64 n0, .int .i64 p0] 40)) := hB1.alloc hB1.size _
  have hl1' : Lie (W2.alloc (.cells #[.int .i64 k0, .int .i64 n0, .int .i64 p0] 40)) g 0 [(k0, n0, p0), (k1, n1, p1)] := hl1.kept ((Below.refl _ _).alloc (Nat.le_refl _) _)
  go_wp2_with fail
  refine (cr _).mono ?_
  rintro e v2 ⟨rfl, hb2⟩
  have x2 := x1.kept hb2
  have b2 := b1'.kept hb2
  have hl2 := hl1'.kept hb2
  have hB2 : Below w.heap.size w v2 := bel_step hB1' hb2 hB1'.size
  clear c0 c1 q00 q01 q02 q10 q11 q12
  have c0 : v2.cell? ⟨w.heap.size, 0, none⟩ = some (.int .i64 36) := b2.cell 0
  have c1 : v2.cell? ⟨w.heap.size, 1, none⟩ = some (.slice (some ⟨g, 0, none⟩) 2 c) := b2.cell 1
  have q00 : v2.cell? ⟨g, 0, none⟩ = some (.int .i64 k0) := (hl2.at 0 _ rfl).1
  have q01 : v2.cell? ⟨g, 1, none⟩ = some (.int .i64 n0) := (hl2.at 0 _ rfl).2.1
  have q02 : v2.cell? ⟨g, 2, none⟩ = some (.int .i64 p0) := (hl2.at 0 _ rfl).2.2
  have q10 : v2.cell? ⟨g, 3, none⟩ = some (.int .i64 k1) := (hl2.at 1 _ rfl).1
  have q11 : v2.cell? ⟨g, 4, none⟩ = some (.int .i64 n1) := (hl2.at 1 _ rfl).2.1
  have q12 : v2.cell? ⟨g, 5, none⟩ = some (.int .i64 p1) := (hl2.at 1 _ rfl).2.2
  have a0 : v2.cell? ⟨W2.heap.size, 0, none⟩ = some (.int .i64 k0) := x2.cell 0
  have a1 : v2.cell? ⟨W2.heap.size, 1, none⟩ = some (.int .i64 n0) := x2.cell 1
  have a2 : v2.cell? ⟨W2.heap.size, 2, none⟩ = some (.int .i64 p0) := x2.cell 2
  clear hb2
  cases r with
  | true =>
    go_wp2_with fail
    refine (cs _).mono ?_
    rintro e v3 ⟨rfl, hb3⟩
    have x3 := x2.kept hb3
    have b3 := b2.kept hb3
    have hl3 := hl2.kept hb3
    have hB3 : Below w.heap.size w v3 := bel_step hB2 hb3 hB2.size
    clear c0 c1 q00 q01 q02 q10 q11 q12 a0 a1 a2
    have c0 : v3.cell? ⟨w.heap.size, 0, none⟩ = some (.int .i64 36) := b3.cell 0
    have c1 : v3.cell? ⟨w.heap.size, 1, none⟩ = some (.slice (some ⟨g, 0, none⟩) 2 c) := b3.cell 1
    have q00 : v3.cell? ⟨g, 0, none⟩ = some (.int .i64 k0) := (hl3.at 0 _ rfl).1
    have q01 : v3.cell? ⟨g, 1, none⟩ = some (.int .i64 n0) := (hl3.at 0 _ rfl).2.1
    have q02 : v3.cell? ⟨g, 2, none⟩ = some (.int .i64 p0) := (hl3.at 0 _ rfl).2.2
    have q10 : v3.cell? ⟨g, 3, none⟩ = some (.int .i64 k1) := (hl3.at 1 _ rfl).1
    have q11 : v3.cell? ⟨g, 4, none⟩ = some (.int .i64 n1) := (hl3.at 1 _ rfl).2.1
    have q12 : v3.cell? ⟨g, 5, none⟩ = some (.int .i64 p1) := (hl3.at 1 _ rfl).2.2
    have a0 : v3.cell? ⟨W2.heap.size, 0, none⟩ = some (.int .i64 k0) := x3.cell 0
    have a1 : v3.cell? ⟨W2.heap.size, 1, none⟩ = some (.int .i64 n0) := x3.cell 1
    have a2 : v3.cell? ⟨W2.heap.size, 2, none⟩ = some (.int .i64 p0) := x3.cell 2
    clear hb3
    go_wp2
    go_ret
    exact ⟨rfl, hB3⟩
  | false =>
    go_wp2
    go_ret
    exact ⟨rfl, hB2⟩
set_option maxRecDepth 100000 in
set_option maxHeartbeats 1000000 in
theorem coil_s_37 (k0 n0 p0 k1 n1 p1 : Int) (g c : Nat) (w : World) (hl : Lie w g 0 [(k0, n0, p0), (k1, n1, p1)]) (r : Bool) (hr : kindA (k0, n0, p0) 9 9 = r) (s : Bool) (hs : realA (k1, n1, p1) = s) : Calls Tryd.prog 17 #[.agg #[.int .i64 37, .slice (some ⟨g, 0, none⟩) 2 c]] w fun e w' => e = .returned (.bool (r && s)) ∧ Below w.heap.size w w' := by
  have ha := fun w => arity_s_37 w
  have cr := fun w => kind_any k0 n0 p0 9 9 w
  rw [hr] at cr
  clear hr
  have cs := fun w => devIsReal_s_any k1 n1 p1 w
  rw [show DevP.isReal k1 n1 p1 = s from hs] at cs
  clear hs
  have b1 := Box.new w #[.int .i64 37, .slice (some ⟨g, 0, none⟩) 2 c] 31
  have hB1 : Below w.heap.size w (w.alloc (.cells #[.int .i64 37, .slice (some ⟨g, 0, none⟩) 2 c] 31)) := by repeat (first | exact Below.refl _ _ | assumption | refine Below.setCell ?_ (by first | (simp; done) | (simp; omega) | omega) _ | refine Below.alloc ?_ (by first | (simp; done) | (simp; omega) | omega) _ | refine Bx.bel_drewN ?_ _ | refine Below.drew ?_)
  have hl1 := hl.kept hB1
  clear hl
  go_enter Tryd.func17, Tryd.ntmps17
  go_wp2_with fail
  generalize w.alloc (.cells #[.int .i64 37, .slice (some ⟨g, 0, none⟩) 2 c] 31) = W1 at b1 hB1 hl1 ⊢
  have c0 : W1.cell? ⟨w.heap.size, 0, none⟩ = some (.int .i64 37) := b1.cell 0
  have c1 : W1.cell? ⟨w.heap.size, 1, none⟩ = some (.slice (some ⟨g, 0, none⟩) 2 c) := b1.cell 1
  have q00 : W1.cell? ⟨g, 0, none⟩ = some (.int .i64 k0) := (hl1.at 0 _ rfl).1
  have q01 : W1.cell? ⟨g, 1, none⟩ = some (.int .i64 n0) := (hl1.at 0 _ rfl).2.1
  have q02 : W1.cell? ⟨g, 2, none⟩ = some (.int .i64 p0) := (hl1.at 0 _ rfl).2.2
  have q10 : W1.cell? ⟨g, 3, none⟩ = some (.int .i64 k1) := (hl1.at 1 _ rfl).1
  have q11 : W1.cell? ⟨g, 4, none⟩ = some (.int .i64 n1) := (hl1.at 1 _ rfl).2.1
  have q12 : W1.cell? ⟨g, 5, none⟩ = some (.int .i64 p1) := (hl1.at 1 _ rfl).2.2
  go_quiet ((go_at_call 41; exact Calls.quiet_of_same (ha _)))
  have b1 := b1.drewN nq
  have hl1 : Lie (W1.drewN nq) g 0 [(k0, n0, p0), (k1, n1, p1)] := hl1
  have hB1 : Below w.heap.size w (W1.drewN nq) := bel_drewN hB1 _
  generalize W1.drewN nq = W2 at b1 hB1 hl1 ⊢
  clear c0 c1 q00 q01 q02 q10 q11 q12 ha
  have c0 : W2.cell? ⟨w.heap.size, 0, none⟩ = some (.int .i64 37) := b1.cell 0
  have c1 : W2.cell? ⟨w.heap.size, 1, none⟩ = some (.slice (some ⟨g, 0, none⟩) 2 c) := b1.cell 1
  have q00 : W2.cell? ⟨g, 0, none⟩ = some (.int .i64 k0) := (hl1.at 0 _ rfl).1
  have q01 : W2.cell? ⟨g, 1, none⟩ = some (.int .i64 n0) := (hl1.at 0 _ rfl).2.1
  have q02 : W2.cell? ⟨g, 2, none⟩ = some (.int .i64 p0) := (hl1.at 0 _ rfl).2.2
  have q10 : W2.cell? ⟨g, 3, none⟩ = some (.int .i64 k1) := (hl1.at 1 _ rfl).1
  have q11 : W2.cell? ⟨g, 4, none⟩ = some (.int .i64 n1) := (hl1.at 1 _ rfl).2.1
  have q12 : W2.cell? ⟨g, 5, none⟩ = some (.int .i64 p1) := (hl1.at 1 _ rfl).2.2
  have l2 : w.heap.size < W2.heap.size := b1.lt
  have lg : g < W2.heap.size := hl1.1
  have x1 := Box.new W2 #[.int .i64 k0, .int .i64 n0, .int .i64 p0] 40
  have b1' := b1.alloc (.cells #[.int .i64 k0, .int .i64 n0, .int .i64 p0] 40)
  have hB1' : Below w.heap.size w (W2.alloc (.cells #[.int .i64 k0, .int .i64 n0, .int .i64 p0] 40)) := hB1.alloc hB1.size _
  have hl1' : Lie (W2.alloc (.cells #[.int .i64 k0, .int .i64 n0, .int .i64 p0] 40)) g 0 [(k0, n0, p0), (k1, n1, p1)] := hl1.kept ((Below.refl _ _).alloc (Nat.le_refl _) _)
  go_wp2_with fail
  refine (cr _).mono ?_
  rintro e v2 ⟨rfl, hb2⟩
  have x2 := x1.kept hb2
  have b2 := b1'.kept hb2
  have hl2 := hl1'.kept hb2
  have hB2 : Below w.heap.size w v2 := bel_step hB1' hb2 hB1'.size
  clear c0 c1 q00 q01 q02 q10 q11 q12
  have c0 : v2.cell? ⟨w.heap.size, 0, none⟩ = some (.int .i64 37) := b2.cell 0
  have c1 : v2.cell? ⟨w.heap.size, 1, none⟩ = some (.slice (some ⟨g, 0, none⟩) 2 c) := b2.cell 1
  have q00 : v2.cell? ⟨g, 0, none⟩ = some (.int .i64 k0) := (hl2.at 0 _ rfl).1
  have q01 : v2.cell? ⟨g, 1, none⟩ = some (.int .i64 n0) := (hl2.at 0 _ rfl).2.1
  have q02 : v2.cell? ⟨g, 2, none⟩ = some (.int .i64 p0) := (hl2.at 0 _ rfl).2.2
  have q10 : v2.cell? ⟨g, 3, none⟩ = some (.int .i64 k1) := (hl2.at 1 _ rfl).1
  have q11 : v2.cell? ⟨g, 4, none⟩ = some (.int .i64 n1) := (hl2.at 1 _ rfl).2.1
  have q12 : v2.cell? ⟨g, 5, none⟩ = some (.int .i64 p1) := (hl2.at 1 _ rfl).2.2
  have a0 : v2.cell? ⟨W2.heap.size, 0, none⟩ = some (.int .i64 k0) := x2.cell 0
  have a1 : v2.cell? ⟨W2.heap.size, 1, none⟩ = some (.int .i64 n0) := x2.cell 1
  have a2 : v2.cell? ⟨W2.heap.size, 2, none⟩ = some (.int .i64 p0) := x2.cell 2
  clear hb2
  cases r with
  | true =>
    go_wp2_with fail
    refine (cs _).mono ?_
    rintro e v3 ⟨rfl, hb3⟩
    have x3 := x2.kept hb3
    have b3 := b2.kept hb3
    have hl3 := hl2.kept hb3
    have hB3 : Below w.heap.size w v3 := bel_step hB2 hb3 hB2.size
    clear c0 c1 q00 q01 q02 q10 q11 q12 a0 a1 a2
    have c0 : v3.cell? ⟨w.heap.size, 0, none⟩ = some (.int .i64 37) := b3.cell 0
    have c1 : v3.cell? ⟨w.heap.size, 1, none⟩ = some (.slice (some ⟨g, 0, none⟩) 2 c) := b3.cell 1
    have q00 : v3.cell? ⟨g, 0, none⟩ = some (.int .i64 k0) := (hl3.at 0 _ rfl).1
    have q01 : v3.cell? ⟨g, 1, none⟩ = some (.int .i64 n0) := (hl3.at 0 _ rfl).2.1
    have q02 : v3.cell? ⟨g, 2, none⟩ = some (.int .i64 p0) := (hl3.at 0 _ rfl).2.2
    have q10 : v3.cell? ⟨g, 3, none⟩ = some (.int .i64 k1) := (hl3.at 1 _ rfl).1
    have q11 : v3.cell? ⟨g, 4, none⟩ = some (.int .i64 n1) := (hl3.at 1 _ rfl).2.1
    have q12 : v3.cell? ⟨g, 5, none⟩ = some (.int .i64 p1) := (hl3.at 1 _ rfl).2.2
    have a0 : v3.cell? ⟨W2.heap.size, 0, none⟩ = some (.int .i64 k0) := x3.cell 0
    have a1 : v3.cell? ⟨W2.heap.size, 1, none⟩ = some (.int .i64 n0) := x3.cell 1
    have a2 : v3.cell? ⟨W2.heap.size, 2, none⟩ = some (.int .i64 p0) := x3.cell 2
    clear hb3
    go_wp2
    go_ret
    exact ⟨rfl, hB3⟩
  | false =>
    go_wp2
    go_ret
    exact ⟨rfl, hB2⟩
end Go.Proofs.YtmlpobecilbknaaDoor
