/- FnExactRealRead: what the row gives the walk. -/
import Derived.Test.YtobbkebjgjeglaaDoorRows
import Derived.Test.YtobbkebjgjeglaaDoorWRRL
import Derived.WalkKit
import Derived.WalkSpells
import Derived.WalkLawsBesides
import Derived.OpenShut
namespace Go.Proofs.YtobbkebjgjeglaaDoor
open Go.RowKit Bx ItoP
set_option linter.unusedVariables false

theorem iface_cells {H : Type} {enc : TypeId × Value → H} {P : Program} {w : World} {base : Nat} {sp : Nat → Bool} {held : Bool} {fuel : Nat} {t : TypeId} {cs : List Value} {p : List MemPlace} {nm : String} {d : DataW H}
    (ht : ∃ ms, P.underlying t = some (.interface ms)) (h : DataW.trod enc P w base sp held fuel t cs = some (.iface nm d, p)) : ∃ u v, cs = [.iface u v] := by
  obtain ⟨ms, ht⟩ := ht
  cases fuel with
  | zero => simp [DataW.trod] at h
  | succ n =>
    unfold DataW.trod at h
    rw [ht] at h
    split at h <;> first | exact ⟨_, _, rfl⟩ | (simp at h; done) | (simp_all; done)
theorem iface_of_laid {P : Program} {W : World} {laid : List (String × DataW Unit)} {name nm : String} {d : DataW Unit} {g : Nat} {t : TypeId}
    (hg : P.globalNamed name = some g) (hty : (P.globals[g]?).map (·.type) = some t) (ht : ∃ ms, P.underlying t = some (.interface ms))
    (hm : (name, DataW.iface nm d) ∈ laid) (h : laidMet P laid W) : ∃ u v, W.var? P name = some #[.iface u v] := by
  obtain ⟨ps, hl, _⟩ := h
  obtain ⟨g', t', cs, fuel, p, hg', ht', hvar, hd⟩ := Ls.laid_mem hl hm
  obtain rfl := Option.some.inj (hg.symm.trans hg')
  obtain rfl := Option.some.inj (hty.symm.trans ht')
  obtain ⟨u, v, e⟩ := iface_cells ht hd
  refine ⟨u, v, ?_⟩
  rw [hvar]
  congr 1
  exact Array.toList_inj.1 e
theorem renv_read {w : World} (hS : w.ShapedOpen Tryd.prog) (h : laidMetH Tryd.prog Rows.fnExactRealReadRow.laid w) : REnv w := by
  rw [MakeChecks.laidMetH_plain _ _ _ (by kernel_rfl)] at h
  exact ⟨Tryd.laysM145.s1_3 w hS,
    Ls.tab_of_laid (g := 4) (t := 89) (by kernel_rfl) (by kernel_rfl) Tryd.underlying89 Tryd.underlying47 (by kernel_rfl) (by kernel_rfl) (List.Mem.tail _ (List.Mem.tail _ (List.Mem.head _))) h,
    iface_of_laid (g := 2) (t := 39) (by kernel_rfl) (by kernel_rfl) ⟨_, Tryd.underlying39⟩ (List.Mem.tail _ (List.Mem.tail _ (List.Mem.tail _ (List.Mem.tail _ (List.Mem.head _))))) h,
    iface_of_laid (g := 3) (t := 39) (by kernel_rfl) (by kernel_rfl) ⟨_, Tryd.underlying39⟩ (List.Mem.tail _ (List.Mem.tail _ (List.Mem.tail _ (List.Mem.head _)))) h⟩
theorem renv_back {w : World} (hS : w.ShapedOpen Tryd.prog) (h : laidMetH Tryd.prog Rows.fnRealBackRow.laid w) : REnv w := by
  rw [MakeChecks.laidMetH_plain _ _ _ (by kernel_rfl)] at h
  exact ⟨Tryd.laysM145.s1_3 w hS,
    Ls.tab_of_laid (g := 4) (t := 89) (by kernel_rfl) (by kernel_rfl) Tryd.underlying89 Tryd.underlying47 (by kernel_rfl) (by kernel_rfl) (List.Mem.tail _ (List.Mem.tail _ (List.Mem.head _))) h,
    iface_of_laid (g := 2) (t := 39) (by kernel_rfl) (by kernel_rfl) ⟨_, Tryd.underlying39⟩ (List.Mem.tail _ (List.Mem.tail _ (List.Mem.tail _ (List.Mem.tail _ (List.Mem.head _))))) h,
    iface_of_laid (g := 3) (t := 39) (by kernel_rfl) (by kernel_rfl) ⟨_, Tryd.underlying39⟩ (List.Mem.tail _ (List.Mem.tail _ (List.Mem.tail _ (List.Mem.head _)))) h⟩
theorem FnExactRealRead_walk (a0 : ByteArray) (w0 : a0.size ≤ maxLen) (w : World) (hL : laidMetH Tryd.prog Rows.fnExactRealReadRow.laid w) (hS : w.ShapedOpen Tryd.prog) : Calls Tryd.prog 3 #[.string a0] w fun e w' => e = .returned (.bool true) ∧ Below w.heap.size w w' := FnExactRealRead_env a0 w (renv_read hS hL)
end Go.Proofs.YtobbkebjgjeglaaDoor
