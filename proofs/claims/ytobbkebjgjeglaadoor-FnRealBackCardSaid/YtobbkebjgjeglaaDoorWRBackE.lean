/- FnRealBack: what the row gives the walk. -/
import Derived.Test.YtobbkebjgjeglaaDoorRows
import Derived.Test.YtobbkebjgjeglaaDoorWRBack
import Derived.Test.YtobbkebjgjeglaaDoorWRRE
import Derived.WalkKit
import Derived.WalkSpells
import Derived.WalkLawsBesides
import Derived.OpenShut
namespace Go.Proofs.YtobbkebjgjeglaaDoor
open Go.RowKit Bx ItoP Rdr
set_option linter.unusedVariables false

theorem FnRealBack_walk (a0 : Option Addr) (len0 cap0 : Nat) (z0 : List Int) (a1 : Option Addr) (len1 cap1 : Nat) (z1 : List Int) (w : World) (w0 : IsRow .u8 w a0 len0 cap0 z0) (w1 : IsRow .u8 w a1 len1 cap1 z1) (hL : laidMetH Tryd.prog Rows.fnRealBackRow.laid w) (hS : w.ShapedOpen Tryd.prog) : Calls Tryd.prog 4 #[.slice a0 len0 cap0, .slice a1 len1 cap1] w fun e w' => e = .returned (.bool true) ∧ Below w.heap.size w w' := by
  by_cases hn : len0 ≤ 1048576
  · by_cases hn' : len1 ≤ 1048576
    · exact FnRealBack_some a0 a1 len0 cap0 len1 cap1 w (isCode_of w0) (isCode_of w1) hn hn' (renv_back hS hL)
    · exact FnRealBack_great2 a0 a1 len0 cap0 len1 cap1 hn (by omega) w
  · exact FnRealBack_great1 a0 a1 len0 cap0 len1 cap1 (by omega) w
end Go.Proofs.YtobbkebjgjeglaaDoor
