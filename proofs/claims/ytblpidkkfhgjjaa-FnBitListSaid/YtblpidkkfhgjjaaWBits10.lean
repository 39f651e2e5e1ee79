/- Lists of bits compared, marked, held. -/
import Derived.Test.YtblpidkkfhgjjaaRows
import Derived.Test.YtblpidkkfhgjjaaWBits8
import Derived.Test.YtblpidkkfhgjjaaRdr
import Derived.WalkKit
import Derived.WalkSpells
import Derived.WalkLawsBesides
import Derived.OpenShut
import Derived.Deep.QuietTactic
import Derived.BigQuiet
import Derived.Deep.RegionHeld3
import Derived.Deep.RegionLaw
import Derived.OwnWalk
import Derived.IntWalk
import Derived.Lib.Hide
namespace Go.Proofs.Ytblpidkkfhgjjaa
open Go.RowKit Bx Rdr
set_option linter.unusedVariables false

set_option maxRecDepth 100000 in
set_option maxHeartbeats 400000 in
theorem wbSame_same (l : List Bool) (n g c h d base base' : Nat) (hn : n = l.length) (hs : l.length ≤ 1000000) (w : World) (ho : Own 4 base w g c (l.map Value.bool)) (hp : Own 4 base' w h d (l.map Value.bool)) :
    Calls Try.prog 8 #[.slice (some ⟨g, 0, none⟩) n c, .slice (some ⟨h, 0, none⟩) n d] w fun e w' => e = .returned (.bool true) ∧ Below w.heap.size w w' := by
  have hg := ho.lt.2
  have hh := hp.lt.2
  have hc : ∀ i y, i < n → l[i]? = some y → w.cell? ⟨g, i, none⟩ = some (.bool y) := fun i y hi hy => by
    have := ho.bits i (by omega)
    rw [this]; rw [List.getElem?_eq_getElem (by omega)] at hy; rw [Option.some.inj hy]
  have hd : ∀ i y, i < n → l[i]? = some y → w.cell? ⟨h, i, none⟩ = some (.bool y) := fun i y hi hy => by
    have := hp.bits i (by omega)
    rw [this]; rw [List.getElem?_eq_getElem (by omega)] at hy; rw [Option.some.inj hy]
  have hn6 : n ≤ 1000000 := by omega
  have HN := Lib.hid hn
  clear hn hs ho hp
  go_enter Try.func8, Try.ntmps8
  go_wp2_with fail
  go_loopw [5] (fun i wr => ∃ k : Nat, k ≤ n ∧ i = .int .i64 k ∧ Below w.heap.size w wr) (fun i _ => n - (intOf i).toNat)
  case atStart => exact ⟨0, by omega, rfl, Below.refl _ _⟩
  case round =>
    obtain ⟨k, hk, rfl, hbel⟩ := hrel
    by_cases hlt : k < n
    · have hkl : k < l.length := by rw [← HN.out]; exact hlt
      obtain ⟨y, hy⟩ : ∃ y, y = l[k] := ⟨_, rfl⟩
      have hy2 : l[k]? = some y := by rw [hy]; exact List.getElem?_eq_getElem hkl
      have cg : wr.cell? ⟨g, k, none⟩ = some (.bool y) := (hbel.cell (p := ⟨g, k, none⟩) hg).trans (hc k y hlt hy2)
      have ch : wr.cell? ⟨h, k, none⟩ = some (.bool y) := (hbel.cell (p := ⟨h, k, none⟩) hh).trans (hd k y hlt hy2)
      have d0 : (0 : Int) ≤ (k : Int) := by omega
      have d1 : (k : Int) < (n : Int) := by omega
      clear hy hy2 hc hd
      go_wp2_with fail
      go_quiet (fail)
      go_wp2
      go_roundw
      case rel => exact ⟨k + 1, by omega, by go_num, bel_drewN hbel _⟩
      case measure => simp [intOf]; omega
    · clear hc hd
      go_wp2
      go_ret
      exact ⟨rfl, hbel⟩
end Go.Proofs.Ytblpidkkfhgjjaa
