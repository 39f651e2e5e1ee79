/- The contracts of DevIsBit, DevIsWhole, DevIsReal, the program's and the reference's, and of toDevArg. -/
import Derived.Test.YtikcabmohlaanaaDoorRows
import Derived.Test.YtikcabmohlaanaaDoorWDev
import Derived.Test.YtikcabmohlaanaaDoorBox
import Derived.WalkKit
import Derived.WalkSpells
import Derived.WalkLawsBesides
import Derived.OpenShut
namespace Go.Proofs.YtikcabmohlaanaaDoor
open Go.RowKit Bx
set_option linter.unusedVariables false

set_option maxRecDepth 100000 in
set_option maxHeartbeats 400000 in
theorem toDevArg_any (k n p : Int) (w : World) : Calls Tryd.prog 13 #[.agg #[.int .i64 k, .int .i64 n, .int .i64 p]] w fun e w' => e = .returned (.agg #[.int .i64 k, .int .i64 n, .int .i64 p]) ∧ Below w.heap.size w w' := by
  go_enter Tryd.func13, Tryd.ntmps13
  go_wp2
  exact bodyPost_ret (v := .agg #[.int .i64 k, .int .i64 n, .int .i64 p]) (by simp [results, Tryd.results13, go_sem]) rfl ⟨rfl, by repeat (first | exact Below.refl _ _ | refine Below.alloc ?_ (by first | (simp; done) | (simp; omega) | omega) _ | refine Below.drew ?_ | refine Bx.bel_drewN ?_ _ | refine Below.setCell ?_ (by first | (simp; done) | (simp; omega) | omega) _)⟩
end Go.Proofs.YtikcabmohlaanaaDoor
