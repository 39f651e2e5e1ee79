/- Lists of bits compared, marked, held. -/
import Derived.Test.YtblpidkkfhgjjaaDoorRows
import Derived.Test.YtblpidkkfhgjjaaDoorWBits8
import Derived.Test.YtblpidkkfhgjjaaDoorRdr
import Derived.WalkKit
import Derived.WalkSpells
import Derived.WalkLawsBesides
import Derived.OpenShut
import Derived.Deep.QuietTactic
import Derived.BigQuiet
import Derived.Deep.RegionHeld3
import Derived.Deep.RegionLaw
import Derived.OwnWalk
import Derived.IntWalk
import Derived.Lib.Hide
namespace Go.Proofs.YtblpidkkfhgjjaaDoor
open Go.RowKit Bx Rdr
set_option linter.unusedVariables false

end Go.Proofs.YtblpidkkfhgjjaaDoor
