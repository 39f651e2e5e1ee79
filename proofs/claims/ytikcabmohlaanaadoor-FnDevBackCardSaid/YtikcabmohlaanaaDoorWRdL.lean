/- The walk of FnExactDevRead. -/
import Derived.Test.YtikcabmohlaanaaDoorRows
import Derived.Test.YtikcabmohlaanaaDoorWGs3
import Derived.WalkKit
import Derived.WalkSpells
import Derived.WalkLawsBesides
import Derived.OpenShut
import Derived.IntWalk
import Derived.Lib.Hide
namespace Go.Proofs.YtikcabmohlaanaaDoor
open Go.RowKit Bx ItoP
set_option linter.unusedVariables false

set_option maxRecDepth 100000 in
set_option maxHeartbeats 4000000 in
theorem eqArg_same (a b c : Int) (w : World) : Calls Tryd.prog 14 #[.agg #[.int .i64 a, .int .i64 b, .int .i64 c], .agg #[.int .i64 a, .int .i64 b, .int .i64 c]] w fun e w' => e = .returned (.bool true) ∧ Below w.heap.size w w' := by
  go_enter Tryd.func14, Tryd.ntmps14
  go_wp2
  go_ret
  exact ⟨rfl, by repeat (first | exact Below.refl _ _ | assumption | refine Below.setCell ?_ (by first | (simp; done) | (simp; omega) | omega) _ | refine Below.alloc ?_ (by first | (simp; done) | (simp; omega) | omega) _ | refine Bx.bel_drewN ?_ _ | refine Below.drew ?_)⟩
set_option maxRecDepth 100000 in
set_option maxHeartbeats 4000000 in
theorem exact_big (t : ByteArray) (h : 1048576 < t.size) (w : World) : Calls Tryd.prog 5 #[.string t] w fun e w' => e = .returned (.bool true) ∧ Below w.heap.size w w' := by
  have d : (1048576 : Int) < (t.size : Int) := by omega
  go_enter Tryd.func5, Tryd.ntmps5
  go_wp2
  go_ret
  exact ⟨rfl, Below.refl _ _⟩
set_option maxRecDepth 100000 in
set_option maxHeartbeats 4000000 in
theorem exact_with (t : ByteArray) (h : t.size ≤ 1048576) (a b c : Int) (ok : Bool) (w : World)
    (hs : ∀ w', Below w.heap.size w w' → Calls Tryd.prog 12 #[.string t] w' fun e w'' => e = .returned (.tuple #[.agg #[.int .i64 a, .int .i64 b, .int .i64 c], .bool ok]) ∧ Below w'.heap.size w' w'')
    (hi : ∀ w', Below w.heap.size w w' → Calls Tryd.prog 10 #[.string t] w' fun e w'' => e = .returned (.tuple #[.agg #[.int .i64 a, .int .i64 b, .int .i64 c], .bool ok]) ∧ Below w'.heap.size w' w'') :
    Calls Tryd.prog 5 #[.string t] w fun e w' => e = .returned (.bool true) ∧ Below w.heap.size w w' := by
  have d : ¬ (1048576 : Int) < (t.size : Int) := by omega
  go_enter Tryd.func5, Tryd.ntmps5
  go_wp2_with fail
  refine (hs _ (Below.refl _ _)).mono ?_
  rintro e w1 ⟨rfl, hB1⟩
  clear hs
  have hs1 := hB1.size
  have b1 := Box.new w1 #[.int .i64 a, .int .i64 b, .int .i64 c] 24
  go_wp2_with fail
  refine (hi _ (by repeat (first | exact Below.refl _ _ | assumption | refine Below.setCell ?_ (by first | (simp; done) | (simp; omega) | omega) _ | refine Below.alloc ?_ (by first | (simp; done) | (simp; omega) | omega) _ | refine Bx.bel_drewN ?_ _ | refine Below.drew ?_))).mono ?_
  rintro e w2 ⟨rfl, hb2⟩
  have b2 := b1.kept hb2
  have hB2 : Below w.heap.size w w2 := bel_step (by repeat (first | exact Below.refl _ _ | assumption | refine Below.setCell ?_ (by first | (simp; done) | (simp; omega) | omega) _ | refine Below.alloc ?_ (by first | (simp; done) | (simp; omega) | omega) _ | refine Bx.bel_drewN ?_ _ | refine Below.drew ?_)) hb2 (by simp; omega)
  have hs2 := hB2.size
  have hlt := b2.lt
  clear hi hb2 hB1 b1
  have c0 : w2.cell? ⟨w1.heap.size, 0, none⟩ = some (.int .i64 a) := b2.cell 0
  have c1 : w2.cell? ⟨w1.heap.size, 1, none⟩ = some (.int .i64 b) := b2.cell 1
  have c2 : w2.cell? ⟨w1.heap.size, 2, none⟩ = some (.int .i64 c) := b2.cell 2
  go_wp2_with fail
  refine (eqArg_same a b c _).mono ?_
  rintro e w3 ⟨rfl, hb3⟩
  have hB3 : Below w.heap.size w w3 := bel_step (by repeat (first | exact Below.refl _ _ | assumption | refine Below.setCell ?_ (by first | (simp; done) | (simp; omega) | omega) _ | refine Below.alloc ?_ (by first | (simp; done) | (simp; omega) | omega) _ | refine Bx.bel_drewN ?_ _ | refine Below.drew ?_)) hb3 (by simp; omega)
  clear hb3 c0 c1 c2 b2
  go_wp2
  go_ret
  exact ⟨rfl, hB3⟩
theorem FnExactDevRead_env (t : ByteArray) (w : World) (henv : REnv w) : Calls Tryd.prog 5 #[.string t] w fun e w' => e = .returned (.bool true) ∧ Below w.heap.size w w' := by
  by_cases h : 1048576 < t.size
  · exact exact_big t h w
  have ht : t.size ≤ 1048576 := by omega
  have hs := fun w' (hb : Below w.heap.size w w') => devRead_s_any t ht w' (henv.kept hb).tab (henv.kept hb).wd
  have hi := fun w' (hb : Below w.heap.size w w') => devRead_i_any t ht w' (henv.kept hb)
  cases hr : DevB.readBy DevB.gi t with
  | none =>
    rw [hr] at hs hi
    exact exact_with t ht 0 0 0 false w hs hi
  | some a =>
    rw [hr] at hs hi
    exact exact_with t ht a.1 a.2.1 a.2.2 true w hs hi
end Go.Proofs.YtikcabmohlaanaaDoor
