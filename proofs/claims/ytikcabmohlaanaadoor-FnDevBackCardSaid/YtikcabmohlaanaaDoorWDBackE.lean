/- FnDevBack: what the row gives the walk. -/
import Derived.Test.YtikcabmohlaanaaDoorRows
import Derived.Test.YtikcabmohlaanaaDoorWDBack
import Derived.Test.YtikcabmohlaanaaDoorWRdE
import Derived.WalkKit
import Derived.WalkSpells
import Derived.WalkLawsBesides
import Derived.OpenShut
namespace Go.Proofs.YtikcabmohlaanaaDoor
open Go.RowKit Bx ItoP
set_option linter.unusedVariables false

theorem renv_back {w : World} (hS : w.ShapedOpen Tryd.prog) (h : laidMetH Tryd.prog Rows.fnDevBackRow.laid w) : REnv w := by
  rw [MakeChecks.laidMetH_plain _ _ _ (by kernel_rfl)] at h
  exact ⟨Tryd.laysM145.s1_3 w hS,
    Ls.tab_of_laid (g := 4) (t := 90) (by kernel_rfl) (by kernel_rfl) Tryd.underlying90 Tryd.underlying77 (by kernel_rfl) (by kernel_rfl) (List.Mem.tail _ (List.Mem.tail _ (List.Mem.head _))) h,
    Ls.strs_of_laid (g := 0) (t := 42) (by kernel_rfl) (by kernel_rfl) Tryd.underlying42 Tryd.underlying9 (by kernel_rfl) (by kernel_rfl) (List.Mem.tail _ (List.Mem.tail _ (List.Mem.tail _ (List.Mem.tail _ (List.Mem.tail _ (List.Mem.head _)))))) h,
    iface_of_laid (g := 2) (t := 54) (by kernel_rfl) (by kernel_rfl) ⟨_, Tryd.underlying54⟩ (List.Mem.tail _ (List.Mem.tail _ (List.Mem.tail _ (List.Mem.tail _ (List.Mem.head _))))) h,
    iface_of_laid (g := 3) (t := 54) (by kernel_rfl) (by kernel_rfl) ⟨_, Tryd.underlying54⟩ (List.Mem.tail _ (List.Mem.tail _ (List.Mem.tail _ (List.Mem.head _)))) h⟩
theorem FnDevBack_walk (a0 : Option Addr) (len0 cap0 : Nat) (z0 : List Int) (a1 : Option Addr) (len1 cap1 : Nat) (z1 : List Int) (w : World) (w0 : IsRow .u8 w a0 len0 cap0 z0) (w1 : IsRow .u8 w a1 len1 cap1 z1) (hL : laidMetH Tryd.prog Rows.fnDevBackRow.laid w) (hS : w.ShapedOpen Tryd.prog) : Calls Tryd.prog 3 #[.slice a0 len0 cap0, .slice a1 len1 cap1] w fun e w' => e = .returned (.bool true) ∧ Below w.heap.size w w' := by
  by_cases hn : len0 ≤ 1048576
  · by_cases hn' : len1 ≤ 1048576
    · exact FnDevBack_some a0 a1 len0 cap0 len1 cap1 w (isCode_of w0) (isCode_of w1) hn hn' (renv_back hS hL)
    · exact FnDevBack_great2 a0 a1 len0 cap0 len1 cap1 hn (by omega) w
  · exact FnDevBack_great1 a0 a1 len0 cap0 len1 cap1 (by omega) w
end Go.Proofs.YtikcabmohlaanaaDoor
