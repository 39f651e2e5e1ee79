/- The reference's push, pop, top, turn. -/
import Derived.Test.YtblpidkkfhgjjaaDoorRows
import Derived.Test.YtblpidkkfhgjjaaDoorWBits3
import Derived.WalkKit
import Derived.WalkSpells
import Derived.WalkLawsBesides
import Derived.OpenShut
import Derived.Deep.QuietTactic
import Derived.BigQuiet
import Derived.Deep.RegionHeld3
import Derived.Deep.RegionLaw
import Derived.Deep.AppendLies
import Derived.Deep.Onto
import Derived.OwnWalk
import Derived.IntWalk
import Derived.Laws.OwnMore
import Derived.StillTailTactics
import Derived.StillTactics
import Derived.Laws.BitsAllLaws
import Derived.Lib.Hide
namespace Go.Proofs.YtblpidkkfhgjjaaDoor
open Go.RowKit Bx
set_option linter.unusedVariables false

theorem l1Stack_n (l : List Bool) (m g c base : Nat) (w : World) (hm : m = l.length) (h16 : l.length ≤ 17) (hown : Own 4 base w g c (l.map Value.bool)) :
    Calls Tryd.prog 14 #[.slice (some ⟨g, 0, none⟩) m c] w fun e w' => e = .returned (.agg #[.int .u16 (BitP.num (BitP.last 16 l)), .int .i64 ((min 16 l.length : Nat) : Int)]) ∧ Below w.heap.size w w' := by
  subst hm
  exact l1Stack_any l g c w hown.lt.2 (by have := hown.len; simp at this; omega) (by omega) fun i hi => hown.bits i hi
theorem good_bounds {b n : Int} (h0 : 0 ≤ b) : (BitP.good 16 b n).1 < 2 ^ (BitP.good 16 b n).2 ∧ (BitP.good 16 b n).2 ≤ 16 := by
  by_cases hok : BitP.ok 16 b n = true
  · obtain ⟨B, N, rfl, rfl, hN, hB⟩ := BitP.ok_nat hok h0
    simp [BitP.good, hok]; omega
  · simp [BitP.good, hok]
end Go.Proofs.YtblpidkkfhgjjaaDoor
