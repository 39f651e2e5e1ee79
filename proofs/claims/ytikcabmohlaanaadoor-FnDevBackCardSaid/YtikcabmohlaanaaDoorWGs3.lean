/- The walk of the reference's DevRead. -/
import Derived.Test.YtikcabmohlaanaaDoorRows
import Derived.Test.YtikcabmohlaanaaDoorWGs2
import Derived.WalkKit
import Derived.WalkSpells
import Derived.WalkLawsBesides
import Derived.OpenShut
import Derived.IntWalk
import Derived.Lib.Hide
import Derived.Lib.SmallJoins
import Derived.Deep.QuietTactic
import Derived.BigQuiet
namespace Go.Proofs.YtikcabmohlaanaaDoor
open Go.RowKit Bx ItoP
set_option linter.unusedVariables false

set_option maxRecDepth 100000 in
set_option maxHeartbeats 4000000 in
theorem guess_empty (w : World) : Calls Tryd.prog 35 #[.string ⟨#[]⟩] w fun e w' => (∃ a b c, e = .returned (.agg #[.int .i64 a, .int .i64 b, .int .i64 c])) ∧ Below w.heap.size w w' := by
  have n1 : (⟨#[]⟩ : ByteArray).toList = [] := by rw [ByteArray.toList_eq]
  have hf := fun w => l10Find_any ⟨#[]⟩ (by decide) w
  have hdg := fun w => l2Digits_any ⟨#[]⟩ (by decide) w
  rw [show Lib.indexByte (⟨#[]⟩ : ByteArray).data.toList 46 = -1 from rfl] at hf
  rw [show DevB.l2d (⟨#[]⟩ : ByteArray).data.toList = -1 by decide] at hdg
  go_enter Tryd.func35, Tryd.ntmps35
  go_wp2_with fail
  go_loopw [3] (fun v wr => ∃ k : Nat, v = .int .i64 k ∧ k ≤ 4 ∧ Box wr w.heap.size #[.int .i64 0, .int .i64 0, .int .i64 0] 24 ∧ Below w.heap.size w wr) (fun v _ => 4 - (intOf v).toNat)
  case atStart => exact ⟨0, rfl, by omega, Box.new _ _ _, (Below.refl _ _).alloc (Nat.le_refl _) _⟩
  case round =>
    obtain ⟨k, rfl, hk, bx, hB⟩ := hrel
    by_cases hk4 : k < 4
    · have hk' : k = 0 ∨ k = 1 ∨ k = 2 ∨ k = 3 := by omega
      rcases hk' with rfl | rfl | rfl | rfl
      · have hlt := bx.lt
        go_wp2_with fail
        refine (l2Words_same _).mono ?_
        rintro e w' ⟨rfl, rfl⟩
        go_wp2
        go_roundw
        case rel => exact ⟨1, by go_num, by omega, bx.alloc _, by have hBs := hB.size; repeat (first | exact Below.refl _ _ | assumption | refine Below.setCell ?_ (by first | (simp; done) | (simp; omega) | omega) _ | refine Below.alloc ?_ (by first | (simp; done) | (simp; omega) | omega) _ | refine Bx.bel_drewN ?_ _ | refine Below.drew ?_)⟩
        case measure => simp [intOf]
      · have hlt := bx.lt
        go_wp2_with fail
        refine (l2Words_same _).mono ?_
        rintro e w' ⟨rfl, rfl⟩
        go_wp2
        go_roundw
        case rel => exact ⟨2, by go_num, by omega, bx.alloc _, by have hBs := hB.size; repeat (first | exact Below.refl _ _ | assumption | refine Below.setCell ?_ (by first | (simp; done) | (simp; omega) | omega) _ | refine Below.alloc ?_ (by first | (simp; done) | (simp; omega) | omega) _ | refine Bx.bel_drewN ?_ _ | refine Below.drew ?_)⟩
        case measure => simp [intOf]
      · have hlt := bx.lt
        go_wp2_with fail
        refine (l2Words_same _).mono ?_
        rintro e w' ⟨rfl, rfl⟩
        go_wp2
        go_roundw
        case rel => exact ⟨3, by go_num, by omega, bx.alloc _, by have hBs := hB.size; repeat (first | exact Below.refl _ _ | assumption | refine Below.setCell ?_ (by first | (simp; done) | (simp; omega) | omega) _ | refine Below.alloc ?_ (by first | (simp; done) | (simp; omega) | omega) _ | refine Bx.bel_drewN ?_ _ | refine Below.drew ?_)⟩
        case measure => simp [intOf]
      · have hlt := bx.lt
        go_wp2_with fail
        refine (l2Words_same _).mono ?_
        rintro e w' ⟨rfl, rfl⟩
        go_wp2
        go_roundw
        case rel => exact ⟨4, by go_num, by omega, bx.alloc _, by have hBs := hB.size; repeat (first | exact Below.refl _ _ | assumption | refine Below.setCell ?_ (by first | (simp; done) | (simp; omega) | omega) _ | refine Below.alloc ?_ (by first | (simp; done) | (simp; omega) | omega) _ | refine Bx.bel_drewN ?_ _ | refine Below.drew ?_)⟩
        case measure => simp [intOf]
    · have d1 : ¬ (k : Int) < 4 := by omega
      obtain rfl : k = 4 := by omega
      go_wp2_with fail
      go_loopw [4] (fun v wr2 => ∃ k : Nat, v = .int .i64 k ∧ k ≤ 11 ∧ Box wr2 w.heap.size #[.int .i64 0, .int .i64 0, .int .i64 0] 24 ∧ Below w.heap.size w wr2) (fun v _ => 11 - (intOf v).toNat)
      case atStart => exact ⟨1, rfl, by omega, bx, hB⟩
      case round =>
        obtain ⟨k, rfl, hk11, bx2, hB2⟩ := hrel
        clear bx hB
        by_cases hk : k ≤ 10
        · have d1 : (k : Int) ≤ 10 := by omega
          have hlt := bx2.lt
          go_wp2
          go_quiet (fail)
          have bq := bx2.drewN nq
          have hBq := Bx.bel_drewN hB2 nq
          clear bx2 hB2
          go_wp2
          go_roundw
          case rel => exact ⟨k + 1, by go_num, by omega, bq, hBq⟩
          case measure => simp [intOf]; omega
        · have d1 : ¬ (k : Int) ≤ 10 := by omega
          obtain rfl : k = 11 := by omega
          have hlt := bx2.lt
          go_wp2_with fail
          refine (hf _).mono ?_
          rintro e w' ⟨rfl, rfl⟩
          go_wp2_with fail
          refine (hdg _).mono ?_
          rintro e w' ⟨rfl, rfl⟩
          have c0 := bx2.cell 0
          have c1 := bx2.cell 1
          have c2 := bx2.cell 2
          have f0 := bx2.free 0
          have f1 := bx2.free 1
          have f2 := bx2.free 2
          obtain ⟨d0, d1, d2⟩ := set3 bx2 rfl (.int .i64 11) (.int .i64 (-1)) (.int .i64 0)
          go_wp2
          refine bodyPost_ret (v := .agg #[.int .i64 11, .int .i64 (-1), .int .i64 0]) (by simp [results, Tryd.results35, go_sem, d0, d1, d2]) rfl ⟨⟨_, _, _, rfl⟩, ?_⟩
          repeat (first | exact Below.refl _ _ | assumption | refine Below.setCell ?_ (by first | (simp; done) | (simp; omega) | omega) _ | refine Below.alloc ?_ (by first | (simp; done) | (simp; omega) | omega) _ | refine Bx.bel_drewN ?_ _ | refine Below.drew ?_)
set_option maxRecDepth 100000 in
set_option maxHeartbeats 4000000 in
theorem sread_empty (w : World) : Calls Tryd.prog 12 #[.string ⟨#[]⟩] w fun e w' => e = .returned (ans none) ∧ Below w.heap.size w w' := by
  have n1 : (⟨#[]⟩ : ByteArray).toList = [] := by rw [ByteArray.toList_eq]
  go_enter Tryd.func12, Tryd.ntmps12
  go_wp2_with fail
  refine (guess_empty _).mono ?_
  rintro e w1 ⟨⟨a, b, c, rfl⟩, hb1⟩
  have b1 := (Box.new w #[.int .i64 0, .int .i64 0, .int .i64 0] 24).kept hb1
  have hB1 : Below w.heap.size w w1 := bel_step ((Below.refl _ _).alloc (Nat.le_refl _) _) hb1 (by simp)
  have hlt := b1.lt
  clear hb1
  have b1c0 : w1.cell? ⟨w.heap.size, 0, none⟩ = some (.int .i64 0) := b1.cell 0
  have b1f0 : w1.frozen? ⟨w.heap.size, 0, none⟩ = false := b1.free 0
  have b1c1 : w1.cell? ⟨w.heap.size, 1, none⟩ = some (.int .i64 0) := b1.cell 1
  have b1f1 : w1.frozen? ⟨w.heap.size, 1, none⟩ = false := b1.free 1
  have b1c2 : w1.cell? ⟨w.heap.size, 2, none⟩ = some (.int .i64 0) := b1.cell 2
  have b1f2 : w1.frozen? ⟨w.heap.size, 2, none⟩ = false := b1.free 2
  go_wp2
  obtain ⟨d0, d1, d2⟩ := set3a b1 rfl (.int .i64 0) (.int .i64 0) (.int .i64 0) (.cells #[.int .i64 a, .int .i64 b, .int .i64 c] 24)
  refine bodyPost_ret (v := .tuple #[.agg #[.int .i64 0, .int .i64 0, .int .i64 0], .bool false]) (by simp [results, Tryd.results12, go_sem, d0, d1, d2]) rfl ⟨rfl, ?_⟩
  have hBs := hB1.size
  repeat (first | exact Below.refl _ _ | assumption | refine Below.setCell ?_ (by first | (simp; done) | (simp; omega) | omega) _ | refine Below.alloc ?_ (by first | (simp; done) | (simp; omega) | omega) _ | refine Bx.bel_drewN ?_ _ | refine Below.drew ?_)
set_option maxRecDepth 100000 in
set_option maxHeartbeats 4000000 in
theorem sread_yes (t : ByteArray) (ht : t.size ≤ 1048576) (h0 : 0 < t.size) (a b c : Int) (hr : DevB.gw DevB.gs t = (a, b, c)) (tx : ByteArray) (htx0 : DevT.txt a b c = tx) (hq : tx = t) (w : World) (htab : Lib.TabIs Tryd.prog w "internal/strconv.uint64pow10" .u64 Lib.pow10Tab) (hwd : Ls.StrsIs Tryd.prog w "loop.example/stilmach/impl.devWords" wds) : Calls Tryd.prog 12 #[.string t] w fun e w' => e = .returned (.tuple #[.agg #[.int .i64 a, .int .i64 b, .int .i64 c], .bool true]) ∧ Below w.heap.size w w' := by
  have hg := fun w => guess_some t ht h0 a b c hr w
  have htx : ∀ w', Below w.heap.size w w' → Calls Tryd.prog 8 #[.agg #[.int .i64 a, .int .i64 b, .int .i64 c]] w' fun e w'' => e = .returned (.string tx) ∧ Below w'.heap.size w' w'' := fun w' hb => htx0 ▸ devText_s_any a b c w' (tab_kept htab hb) (wds_kept hwd hb)
  obtain ⟨n1, n2⟩ := ne_fact h0
  clear htab hwd htx0 hr
  go_enter Tryd.func12, Tryd.ntmps12
  go_wp2_with fail
  refine (hg _).mono ?_
  rintro e w1 ⟨rfl, hb1⟩
  have b1 := (Box.new w #[.int .i64 0, .int .i64 0, .int .i64 0] 24).kept hb1
  have hB1 : Below w.heap.size w w1 := bel_step ((Below.refl _ _).alloc (Nat.le_refl _) _) hb1 (by simp)
  have hlt := b1.lt
  have hBs := hB1.size
  clear hb1 hg
  have b1c0 : w1.cell? ⟨w.heap.size, 0, none⟩ = some (.int .i64 0) := b1.cell 0
  have b1f0 : w1.frozen? ⟨w.heap.size, 0, none⟩ = false := b1.free 0
  have b1c1 : w1.cell? ⟨w.heap.size, 1, none⟩ = some (.int .i64 0) := b1.cell 1
  have b1f1 : w1.frozen? ⟨w.heap.size, 1, none⟩ = false := b1.free 1
  have b1c2 : w1.cell? ⟨w.heap.size, 2, none⟩ = some (.int .i64 0) := b1.cell 2
  have b1f2 : w1.frozen? ⟨w.heap.size, 2, none⟩ = false := b1.free 2
  have a2 := Box.new w1 #[.int .i64 a, .int .i64 b, .int .i64 c] 24
  have b2 := b1.alloc (.cells #[.int .i64 a, .int .i64 b, .int .i64 c] 24)
  go_wp2_with fail
  refine (htx _ (by repeat (first | exact Below.refl _ _ | assumption | refine Below.setCell ?_ (by first | (simp; done) | (simp; omega) | omega) _ | refine Below.alloc ?_ (by first | (simp; done) | (simp; omega) | omega) _ | refine Bx.bel_drewN ?_ _ | refine Below.drew ?_))).mono ?_
  rintro e w3 ⟨rfl, hb3⟩
  have a4 := a2.kept hb3
  have b4 := b2.kept hb3
  have hB3 : Below w.heap.size w w3 := bel_step (by repeat (first | exact Below.refl _ _ | assumption | refine Below.setCell ?_ (by first | (simp; done) | (simp; omega) | omega) _ | refine Below.alloc ?_ (by first | (simp; done) | (simp; omega) | omega) _ | refine Bx.bel_drewN ?_ _ | refine Below.drew ?_)) hb3 (by simp; omega)
  clear hb3 htx hB1 a2 b2 b1 b1c0 b1c1 b1c2 b1f0 b1f1 b1f2
  have a4c0 : w3.cell? ⟨w1.heap.size, 0, none⟩ = some (.int .i64 a) := a4.cell 0
  have a4f0 : w3.frozen? ⟨w1.heap.size, 0, none⟩ = false := a4.free 0
  have a4c1 : w3.cell? ⟨w1.heap.size, 1, none⟩ = some (.int .i64 b) := a4.cell 1
  have a4f1 : w3.frozen? ⟨w1.heap.size, 1, none⟩ = false := a4.free 1
  have a4c2 : w3.cell? ⟨w1.heap.size, 2, none⟩ = some (.int .i64 c) := a4.cell 2
  have a4f2 : w3.frozen? ⟨w1.heap.size, 2, none⟩ = false := a4.free 2
  have b4c0 : w3.cell? ⟨w.heap.size, 0, none⟩ = some (.int .i64 0) := b4.cell 0
  have b4f0 : w3.frozen? ⟨w.heap.size, 0, none⟩ = false := b4.free 0
  have b4c1 : w3.cell? ⟨w.heap.size, 1, none⟩ = some (.int .i64 0) := b4.cell 1
  have b4f1 : w3.frozen? ⟨w.heap.size, 1, none⟩ = false := b4.free 1
  have b4c2 : w3.cell? ⟨w.heap.size, 2, none⟩ = some (.int .i64 0) := b4.cell 2
  have b4f2 : w3.frozen? ⟨w.heap.size, 2, none⟩ = false := b4.free 2
  go_wp2
  obtain ⟨d0, d1, d2⟩ := set3 b4 rfl (.int .i64 a) (.int .i64 b) (.int .i64 c)
  refine bodyPost_ret (v := .tuple #[.agg #[.int .i64 a, .int .i64 b, .int .i64 c], .bool true]) (by simp [results, Tryd.results12, go_sem, d0, d1, d2]) rfl ⟨rfl, ?_⟩
  repeat (first | exact Below.refl _ _ | assumption | refine Below.setCell ?_ (by first | (simp; done) | (simp; omega) | omega) _ | refine Below.alloc ?_ (by first | (simp; done) | (simp; omega) | omega) _ | refine Bx.bel_drewN ?_ _ | refine Below.drew ?_)
set_option maxRecDepth 100000 in
set_option maxHeartbeats 4000000 in
theorem sread_no (t : ByteArray) (ht : t.size ≤ 1048576) (h0 : 0 < t.size) (a b c : Int) (hr : DevB.gw DevB.gs t = (a, b, c)) (tx : ByteArray) (htx0 : DevT.txt a b c = tx) (hq : ¬ tx = t) (w : World) (htab : Lib.TabIs Tryd.prog w "internal/strconv.uint64pow10" .u64 Lib.pow10Tab) (hwd : Ls.StrsIs Tryd.prog w "loop.example/stilmach/impl.devWords" wds) : Calls Tryd.prog 12 #[.string t] w fun e w' => e = .returned (.tuple #[.agg #[.int .i64 0, .int .i64 0, .int .i64 0], .bool false]) ∧ Below w.heap.size w w' := by
  have hg := fun w => guess_some t ht h0 a b c hr w
  have htx : ∀ w', Below w.heap.size w w' → Calls Tryd.prog 8 #[.agg #[.int .i64 a, .int .i64 b, .int .i64 c]] w' fun e w'' => e = .returned (.string tx) ∧ Below w'.heap.size w' w'' := fun w' hb => htx0 ▸ devText_s_any a b c w' (tab_kept htab hb) (wds_kept hwd hb)
  obtain ⟨n1, n2⟩ := ne_fact h0
  have hql : (tx.toList == t.toList) = false := beq_eq_false_iff_ne.2 (fun e => hq (ItoP.ext (by rw [← ByteArray.toList_eq, ← ByteArray.toList_eq]; exact e)))
  clear htab hwd htx0 hr
  go_enter Tryd.func12, Tryd.ntmps12
  go_wp2_with fail
  refine (hg _).mono ?_
  rintro e w1 ⟨rfl, hb1⟩
  have b1 := (Box.new w #[.int .i64 0, .int .i64 0, .int .i64 0] 24).kept hb1
  have hB1 : Below w.heap.size w w1 := bel_step ((Below.refl _ _).alloc (Nat.le_refl _) _) hb1 (by simp)
  have hlt := b1.lt
  have hBs := hB1.size
  clear hb1 hg
  have b1c0 : w1.cell? ⟨w.heap.size, 0, none⟩ = some (.int .i64 0) := b1.cell 0
  have b1f0 : w1.frozen? ⟨w.heap.size, 0, none⟩ = false := b1.free 0
  have b1c1 : w1.cell? ⟨w.heap.size, 1, none⟩ = some (.int .i64 0) := b1.cell 1
  have b1f1 : w1.frozen? ⟨w.heap.size, 1, none⟩ = false := b1.free 1
  have b1c2 : w1.cell? ⟨w.heap.size, 2, none⟩ = some (.int .i64 0) := b1.cell 2
  have b1f2 : w1.frozen? ⟨w.heap.size, 2, none⟩ = false := b1.free 2
  have a2 := Box.new w1 #[.int .i64 a, .int .i64 b, .int .i64 c] 24
  have b2 := b1.alloc (.cells #[.int .i64 a, .int .i64 b, .int .i64 c] 24)
  go_wp2_with fail
  refine (htx _ (by repeat (first | exact Below.refl _ _ | assumption | refine Below.setCell ?_ (by first | (simp; done) | (simp; omega) | omega) _ | refine Below.alloc ?_ (by first | (simp; done) | (simp; omega) | omega) _ | refine Bx.bel_drewN ?_ _ | refine Below.drew ?_))).mono ?_
  rintro e w3 ⟨rfl, hb3⟩
  have a4 := a2.kept hb3
  have b4 := b2.kept hb3
  have hB3 : Below w.heap.size w w3 := bel_step (by repeat (first | exact Below.refl _ _ | assumption | refine Below.setCell ?_ (by first | (simp; done) | (simp; omega) | omega) _ | refine Below.alloc ?_ (by first | (simp; done) | (simp; omega) | omega) _ | refine Bx.bel_drewN ?_ _ | refine Below.drew ?_)) hb3 (by simp; omega)
  clear hb3 htx hB1 a2 b2 b1 b1c0 b1c1 b1c2 b1f0 b1f1 b1f2
  have a4c0 : w3.cell? ⟨w1.heap.size, 0, none⟩ = some (.int .i64 a) := a4.cell 0
  have a4f0 : w3.frozen? ⟨w1.heap.size, 0, none⟩ = false := a4.free 0
  have a4c1 : w3.cell? ⟨w1.heap.size, 1, none⟩ = some (.int .i64 b) := a4.cell 1
  have a4f1 : w3.frozen? ⟨w1.heap.size, 1, none⟩ = false := a4.free 1
  have a4c2 : w3.cell? ⟨w1.heap.size, 2, none⟩ = some (.int .i64 c) := a4.cell 2
  have a4f2 : w3.frozen? ⟨w1.heap.size, 2, none⟩ = false := a4.free 2
  have b4c0 : w3.cell? ⟨w.heap.size, 0, none⟩ = some (.int .i64 0) := b4.cell 0
  have b4f0 : w3.frozen? ⟨w.heap.size, 0, none⟩ = false := b4.free 0
  have b4c1 : w3.cell? ⟨w.heap.size, 1, none⟩ = some (.int .i64 0) := b4.cell 1
  have b4f1 : w3.frozen? ⟨w.heap.size, 1, none⟩ = false := b4.free 1
  have b4c2 : w3.cell? ⟨w.heap.size, 2, none⟩ = some (.int .i64 0) := b4.cell 2
  have b4f2 : w3.frozen? ⟨w.heap.size, 2, none⟩ = false := b4.free 2
  go_wp2
  obtain ⟨d0, d1, d2⟩ := set3 b4 rfl (.int .i64 0) (.int .i64 0) (.int .i64 0)
  refine bodyPost_ret (v := .tuple #[.agg #[.int .i64 0, .int .i64 0, .int .i64 0], .bool false]) (by simp [results, Tryd.results12, go_sem, d0, d1, d2]) rfl ⟨rfl, ?_⟩
  repeat (first | exact Below.refl _ _ | assumption | refine Below.setCell ?_ (by first | (simp; done) | (simp; omega) | omega) _ | refine Below.alloc ?_ (by first | (simp; done) | (simp; omega) | omega) _ | refine Bx.bel_drewN ?_ _ | refine Below.drew ?_)
theorem devRead_s_any (t : ByteArray) (ht : t.size ≤ 1048576) (w : World) (htab : Lib.TabIs Tryd.prog w "internal/strconv.uint64pow10" .u64 Lib.pow10Tab) (hwd : Ls.StrsIs Tryd.prog w "loop.example/stilmach/impl.devWords" wds) : Calls Tryd.prog 12 #[.string t] w fun e w' => e = .returned (ans (DevB.readBy DevB.gi t)) ∧ Below w.heap.size w w' := by
  rw [DevB.read_same]
  by_cases h1 : 0 < t.size
  · have h0 : t ≠ ⟨#[]⟩ := by rintro rfl; exact absurd h1 (by decide)
    obtain ⟨⟨a, b, c⟩, hr⟩ : ∃ R, DevB.gw DevB.gs t = R := ⟨_, rfl⟩
    by_cases hq : DevT.txt a b c = t
    · rw [show DevB.readBy DevB.gs t = some (a, b, c) by unfold DevB.readBy; rw [if_neg h0, hr]; exact if_pos hq]
      exact sread_yes t ht h1 a b c hr _ rfl hq w htab hwd
    · rw [show DevB.readBy DevB.gs t = none by unfold DevB.readBy; rw [if_neg h0, hr]; exact if_neg hq]
      exact sread_no t ht h1 a b c hr _ rfl hq w htab hwd
  · have h0 : t = ⟨#[]⟩ := by
      cases t with
      | mk d =>
        congr 1
        exact Array.eq_empty_of_size_eq_zero (by have : (ByteArray.mk d).size = d.size := rfl; omega)
    subst h0
    exact sread_empty w
end Go.Proofs.YtikcabmohlaanaaDoor
