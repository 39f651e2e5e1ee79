/- Lists of bits compared, marked, held. -/
import Derived.Test.YtmgmjhbbjllleaaRows
import Derived.Test.YtmgmjhbbjllleaaWBits8
import Derived.Test.YtmgmjhbbjllleaaRdr
import Derived.WalkKit
import Derived.WalkSpells
import Derived.WalkLawsBesides
import Derived.OpenShut
import Derived.Deep.QuietTactic
import Derived.BigQuiet
import Derived.Deep.RegionHeld3
import Derived.Deep.RegionLaw
import Derived.OwnWalk
import Derived.IntWalk
import Derived.Lib.Hide
namespace Go.Proofs.Ytmgmjhbbjllleaa
open Go.RowKit Bx Rdr
set_option linter.unusedVariables false

set_option maxRecDepth 100000 in
set_option maxHeartbeats 400000 in
theorem eqBoolS_same (l : List Bool) (n g c h d base base' : Nat) (hn : n = l.length) (hs : l.length ≤ 1000000) (w : World) (ho : Own 4 base w g c (l.map Value.bool)) (hp : Own 4 base' w h d (l.map Value.bool)) :
    Calls Try.prog 34 #[.slice (some ⟨g, 0, none⟩) n c, .slice (some ⟨h, 0, none⟩) n d] w fun e w' => e = .returned (.bool true) ∧ Below w.heap.size w w' := by
  have hg := ho.lt.2
  have hh := hp.lt.2
  have hc : ∀ i y, i < n → l[i]? = some y → w.cell? ⟨g, i, none⟩ = some (.bool y) := fun i y hi hy => by
    have := ho.bits i (by omega)
    rw [this]; rw [List.getElem?_eq_getElem (by omega)] at hy; rw [Option.some.inj hy]
  have hd : ∀ i y, i < n → l[i]? = some y → w.cell? ⟨h, i, none⟩ = some (.bool y) := fun i y hi hy => by
    have := hp.bits i (by omega)
    rw [this]; rw [List.getElem?_eq_getElem (by omega)] at hy; rw [Option.some.inj hy]
  have hn6 : n ≤ 1000000 := by omega
  have HN := Lib.hid hn
  clear hn hs ho hp
  go_enter Try.func34, Try.ntmps34
  go_wp2_with fail
  go_loopw [5] (fun i wr => ∃ k : Nat, k ≤ n ∧ i = .int .i64 k ∧ Below w.heap.size w wr) (fun i _ => n - (intOf i).toNat)
  case atStart => exact ⟨0, by omega, rfl, Below.refl _ _⟩
  case round =>
    obtain ⟨k, hk, rfl, hbel⟩ := hrel
    by_cases hlt : k < n
    · have hkl : k < l.length := by rw [← HN.out]; exact hlt
      obtain ⟨y, hy⟩ : ∃ y, y = l[k] := ⟨_, rfl⟩
      have hy2 : l[k]? = some y := by rw [hy]; exact List.getElem?_eq_getElem hkl
      have cg : wr.cell? ⟨g, k, none⟩ = some (.bool y) := (hbel.cell (p := ⟨g, k, none⟩) hg).trans (hc k y hlt hy2)
      have ch : wr.cell? ⟨h, k, none⟩ = some (.bool y) := (hbel.cell (p := ⟨h, k, none⟩) hh).trans (hd k y hlt hy2)
      have d0 : (0 : Int) ≤ (k : Int) := by omega
      have d1 : (k : Int) < (n : Int) := by omega
      clear hy hy2 hc hd
      go_wp2_with fail
      go_quiet (fail)
      go_wp2
      go_roundw
      case rel => exact ⟨k + 1, by omega, by go_num, bel_drewN hbel _⟩
      case measure => simp [intOf]; omega
    · clear hc hd
      go_wp2
      go_ret
      exact ⟨rfl, hbel⟩
set_option maxRecDepth 100000 in
set_option maxHeartbeats 400000 in
theorem wbSame_same (l : List Bool) (n g c h d base base' : Nat) (hn : n = l.length) (hs : l.length ≤ 1000000) (w : World) (ho : Own 4 base w g c (l.map Value.bool)) (hp : Own 4 base' w h d (l.map Value.bool)) :
    Calls Try.prog 29 #[.slice (some ⟨g, 0, none⟩) n c, .slice (some ⟨h, 0, none⟩) n d] w fun e w' => e = .returned (.bool true) ∧ Below w.heap.size w w' := by
  have hg := ho.lt.2
  have hh := hp.lt.2
  have hc : ∀ i y, i < n → l[i]? = some y → w.cell? ⟨g, i, none⟩ = some (.bool y) := fun i y hi hy => by
    have := ho.bits i (by omega)
    rw [this]; rw [List.getElem?_eq_getElem (by omega)] at hy; rw [Option.some.inj hy]
  have hd : ∀ i y, i < n → l[i]? = some y → w.cell? ⟨h, i, none⟩ = some (.bool y) := fun i y hi hy => by
    have := hp.bits i (by omega)
    rw [this]; rw [List.getElem?_eq_getElem (by omega)] at hy; rw [Option.some.inj hy]
  have hn6 : n ≤ 1000000 := by omega
  have HN := Lib.hid hn
  clear hn hs ho hp
  go_enter Try.func29, Try.ntmps29
  go_wp2_with fail
  go_loopw [5] (fun i wr => ∃ k : Nat, k ≤ n ∧ i = .int .i64 k ∧ Below w.heap.size w wr) (fun i _ => n - (intOf i).toNat)
  case atStart => exact ⟨0, by omega, rfl, Below.refl _ _⟩
  case round =>
    obtain ⟨k, hk, rfl, hbel⟩ := hrel
    by_cases hlt : k < n
    · have hkl : k < l.length := by rw [← HN.out]; exact hlt
      obtain ⟨y, hy⟩ : ∃ y, y = l[k] := ⟨_, rfl⟩
      have hy2 : l[k]? = some y := by rw [hy]; exact List.getElem?_eq_getElem hkl
      have cg : wr.cell? ⟨g, k, none⟩ = some (.bool y) := (hbel.cell (p := ⟨g, k, none⟩) hg).trans (hc k y hlt hy2)
      have ch : wr.cell? ⟨h, k, none⟩ = some (.bool y) := (hbel.cell (p := ⟨h, k, none⟩) hh).trans (hd k y hlt hy2)
      have d0 : (0 : Int) ≤ (k : Int) := by omega
      have d1 : (k : Int) < (n : Int) := by omega
      clear hy hy2 hc hd
      go_wp2_with fail
      go_quiet (fail)
      go_wp2
      go_roundw
      case rel => exact ⟨k + 1, by omega, by go_num, bel_drewN hbel _⟩
      case measure => simp [intOf]; omega
    · clear hc hd
      go_wp2
      go_ret
      exact ⟨rfl, hbel⟩
/-- the marks -/
def pat (k n : Nat) : List Bool := (List.range n).map fun i => (k + i) % 3 == 0
theorem pat_length (k n : Nat) : (pat k n).length = n := by simp [pat]
theorem pat_succ (k n : Nat) : pat k (n + 1) = pat k n ++ [(k + n) % 3 == 0] := by unfold pat; rw [List.range_succ, List.map_append]; rfl
theorem pat_set {k i : Nat} {l : List Bool} (h : i < l.length) {y : Bool} (hy : y = ((k + i) % 3 == 0)) : (pat k i ++ l.drop i).set i y = pat k (i + 1) ++ l.drop (i + 1) := by
  rw [List.set_append_right _ _ (by rw [pat_length]; exact Nat.le_refl _), pat_length, Nat.sub_self, List.drop_eq_getElem_cons h, List.set_cons_zero, pat_succ, ← hy, List.append_assoc]
  rfl
theorem tmod3 (K : Nat) : ((K : Int).tmod 3 == 0) = (K % 3 == 0) := by
  rw [Int.tmod_eq_emod_of_nonneg (by omega), Bool.eq_iff_iff, beq_iff_eq, beq_iff_eq]; omega
set_option maxRecDepth 100000 in
set_option maxHeartbeats 400000 in
theorem mark_any (l : List Bool) (n g c base k0 : Nat) (hn : n = l.length) (hs : l.length ≤ 1000000) (hk0 : k0 ≤ 1000000) (w : World) (ho : Own 4 base w g c (l.map Value.bool)) :
    Calls Try.prog 35 #[.slice (some ⟨g, 0, none⟩) n c, .int .i64 k0] w fun e w' => e = .returned (.int .i64 ((k0 + n : Nat) : Int)) ∧ Own 4 base w' g c ((pat k0 n).map Value.bool) ∧ Only g w w' := by
  have hn6 : n ≤ 1000000 := by omega
  have HN := Lib.hid hn
  have HO := Lib.hid ho
  clear hn hs ho
  go_enter Try.func35, Try.ntmps35
  go_wp2_with fail
  go_loopw [1, 5] (fun q i wr => ∃ k K : Nat, k ≤ n ∧ K = k0 + k ∧ q = .int .i64 K ∧ i = .int .i64 k ∧ Own 4 base wr g c ((pat k0 k ++ l.drop k).map Value.bool) ∧ Only g w wr) (fun _ i _ => n - (intOf i).toNat)
  case atStart => exact ⟨0, k0, by omega, rfl, rfl, rfl, by simpa [pat] using HO.out, Only.refl _ _⟩
  case round =>
    obtain ⟨k, K, hk, hK, rfl, rfl, hown, honly⟩ := hrel
    by_cases hlt : k < n
    · have hkl : k < l.length := by rw [← HN.out]; exact hlt
      have hl2 : (pat k0 k ++ l.drop k).length = l.length := by rw [List.length_append, pat_length, List.length_drop]; omega
      have hc := hown.bits k (by rw [hl2]; exact hkl)
      obtain ⟨y0, hy0⟩ : ∃ y0, y0 = (pat k0 k ++ l.drop k)[k]'(by rw [hl2]; exact hkl) := ⟨_, rfl⟩
      rw [← hy0] at hc
      have hf : wr.frozen? ⟨g, k, none⟩ = false := hown.free k
      have d0 : (0 : Int) ≤ (k : Int) := by omega
      have d1 : (k : Int) < (n : Int) := by omega
      have hset : Own 4 base (wr.setCell ⟨g, k, none⟩ (.bool ((K : Int).tmod 3 == 0))) g c ((pat k0 (k + 1) ++ l.drop (k + 1)).map Value.bool) := by
        have := hown.set k (.bool ((K : Int).tmod 3 == 0))
        rw [← pat_set (y := ((K : Int).tmod 3 == 0)) hkl (by rw [tmod3, hK]), List.map_set]
        exact this
      have hK6 : K ≤ 2000000 := by omega
      have HS := Lib.hid (And.intro hset (And.intro hown honly))
      have HK := Lib.hid hK
      clear hset hown honly hy0 hl2 hK
      go_wp2
      go_roundw
      case rel => exact ⟨k + 1, K + 1, by omega, by have := HK.out; omega, by go_num, by go_num, HS.out.1, HS.out.2.2.setCell (.inl rfl) _⟩
      case measure => simp [intOf]; omega
    · obtain rfl : k = n := by omega
      have hd : pat k0 k ++ l.drop k = pat k0 k := by rw [List.drop_of_length_le (by rw [← HN.out]; exact Nat.le_refl _), List.append_nil]
      rw [hd] at hown
      clear hd
      have HK := Lib.hid hK
      clear hK
      go_wp2
      go_ret
      exact ⟨by rw [HK.out]; rfl, hown, honly⟩
set_option maxRecDepth 100000 in
set_option maxHeartbeats 400000 in
theorem held_any (n g c base k0 : Nat) (hs : n ≤ 1000000) (hk0 : k0 ≤ 1000000) (w : World) (ho : Own 4 base w g c ((pat k0 n).map Value.bool)) :
    Calls Try.prog 36 #[.slice (some ⟨g, 0, none⟩) n c, .int .i64 k0] w fun e w' => e = .returned (.int .i64 ((k0 + n : Nat) : Int)) ∧ w = w' := by
  have hc : ∀ k K, k < n → K = k0 + k → w.cell? ⟨g, k, none⟩ = some (.bool ((K : Int).tmod 3 == 0)) := fun k K hk hK => by
    have := ho.bits k (by rw [pat_length]; exact hk)
    rw [this, tmod3, hK]
    simp [pat]
  clear ho
  go_enter Try.func36, Try.ntmps36
  go_wp2_with fail
  go_loop [1, 5] (fun q i => ∃ k K : Nat, k ≤ n ∧ K = k0 + k ∧ q = .int .i64 K ∧ i = .int .i64 k) (fun _ i => n - (intOf i).toNat)
  case atStart => exact ⟨0, k0, by omega, rfl, rfl, rfl⟩
  case round =>
    obtain ⟨k, K, hk, hK, rfl, rfl⟩ := hrel
    by_cases hlt : k < n
    · have hcell := hc k K hlt hK
      have hK6 : K ≤ 2000000 := by omega
      have d0 : (0 : Int) ≤ (k : Int) := by omega
      have d1 : (k : Int) < (n : Int) := by omega
      have HK := Lib.hid hK
      clear hK hc
      go_wp2
      go_round
      case rel => exact ⟨k + 1, K + 1, by omega, by have := HK.out; omega, by go_num, by go_num⟩
      case measure => simp [intOf]; omega
    · obtain rfl : k = n := by omega
      have HK := Lib.hid hK
      clear hK hc
      go_wp2
      go_ret
      exact ⟨by rw [HK.out]; rfl, rfl⟩
end Go.Proofs.Ytmgmjhbbjllleaa
