/- The walks of the reference's l10Find and l2Digits. -/
import Derived.Test.YtikcabmohlaanaaDoorRows
import Derived.Test.YtikcabmohlaanaaDoorWText3
import Derived.Test.YtikcabmohlaanaaDoorDevB
import Derived.WalkKit
import Derived.WalkSpells
import Derived.WalkLawsBesides
import Derived.OpenShut
import Derived.IntWalk
import Derived.Lib.Hide
import Derived.Lib.SmallJoins
import Derived.Deep.QuietTactic
import Derived.BigQuiet
namespace Go.Proofs.YtikcabmohlaanaaDoor
open Go.RowKit Bx ItoP
set_option linter.unusedVariables false

theorem byte_at (t : ByteArray) (k : Nat) (h : k < t.size) : t.data.toList = t.data.toList.take k ++ t[k] :: t.data.toList.drop (k + 1) := by
  have h2 : k < t.data.toList.length := h
  have e : t[k] = t.data.toList[k] := by
    show t.data[k] = _
    rw [Array.getElem_toList]
  rw [e]
  rw [← List.drop_eq_getElem_cons h2, List.take_append_drop]
set_option maxRecDepth 100000 in
set_option maxHeartbeats 4000000 in
theorem l10Find_any (t : ByteArray) (ht : t.size ≤ 3000000) (w : World) : Calls Tryd.prog 45 #[.string t, .int .u8 46] w fun e w' => e = .returned (.int .i64 (Lib.indexByte t.data.toList 46)) ∧ w' = w := by
  obtain ⟨r, hr⟩ : ∃ r, Lib.indexByte t.data.toList 46 = r := ⟨_, rfl⟩
  have HR := Lib.hid hr
  rw [hr]
  clear hr
  go_enter Tryd.func45, Tryd.ntmps45
  go_wp2_with fail
  go_loopw [5] (fun v wr => ∃ (k : Nat), v = .int .i64 k ∧ k ≤ t.size ∧ (∀ b ∈ t.data.toList.take k, b ≠ 46) ∧ wr = w) (fun v _ => t.size - (intOf v).toNat)
  case atStart => exact ⟨0, rfl, by omega, fun b hb => by simp at hb, rfl⟩
  case round =>
    obtain ⟨k, rfl, hk, hno, rfl⟩ := hrel
    have HN := Lib.hid hno
    clear hno
    by_cases hlt : k < t.size
    · have d1 : (k : Int) < (t.size : Int) := by omega
      have hb := byte_at t k hlt
      by_cases hc : t[k] = 46
      · have e : (t[k].toNat : Int) = 46 := by rw [hc]; rfl
        have HF : Hid (r = (k : Int)) := Lib.hid (by
          rw [← HR.out, hb, hc, DevB.ib_at _ HN.out, List.length_take]
          have : t.data.toList.length = t.size := rfl
          omega)
        clear hb hc HR HN
        go_wp2
        go_ret
        exact ⟨by rw [HF.out]; rfl, rfl⟩
      · have e : ¬ (t[k].toNat : Int) = 46 := by
          intro h2
          exact hc (UInt8.toNat_inj.1 (by have : (46 : UInt8).toNat = 46 := rfl; omega))
        have HF : Hid (∀ b ∈ t.data.toList.take (k + 1), b ≠ 46) := Lib.hid (by
          intro b hm
          rw [List.take_succ_eq_append_getElem (show k < t.data.toList.length from hlt)] at hm
          rcases List.mem_append.1 hm with hm | hm
          · exact HN.out b hm
          · simp only [List.mem_singleton] at hm
            rw [hm]
            exact hc)
        clear hb hc HR HN
        go_wp2
        go_roundw
        case rel => exact ⟨k + 1, by go_num, by omega, HF.out, trivial⟩
        case measure => simp [intOf]; omega
    · have d1 : ¬ (k : Int) < (t.size : Int) := by omega
      have HF : Hid (r = -1) := Lib.hid (by
        rw [← HR.out]
        refine DevB.ib_no (fun b hb => HN.out b ?_)
        rwa [List.take_of_length_le (show t.data.toList.length ≤ k by have : t.data.toList.length = t.size := rfl; omega)])
      clear HR HN
      go_wp2
      go_ret
      exact ⟨by rw [HF.out]; rfl, rfl⟩
theorem pu_app : ∀ (l : List UInt8) (acc u : Nat) (r : List UInt8), Lib.parseUint10 acc l = .ok u → Lib.parseUint10 acc (l ++ r) = Lib.parseUint10 u r
  | [], acc, u, r, h => by
    simp only [Lib.parseUint10] at h
    injection h with h
    subst h
    rfl
  | c :: l, acc, u, r, h => by
    simp only [Lib.parseUint10, List.cons_append] at h ⊢
    split at h
    · rename_i h1
      rw [if_pos h1]
      split at h
      · cases h
      · rename_i h2
        rw [if_neg h2]
        split at h
        · cases h
        · rename_i h3
          rw [if_neg h3]
          exact pu_app l _ u r h
    · cases h
theorem l2d_bad {t : ByteArray} {k u : Nat} (hk : k < t.size) (h : Lib.parseUint10 0 (t.data.toList.take k) = .ok u) (hc : t[k].toNat < 48 ∨ 57 < t[k].toNat) : DevB.l2d t.data.toList = -1 := by
  unfold DevB.l2d
  split
  · rfl
  · rw [byte_at t k hk, pu_app _ _ _ _ h]
    simp only [Lib.parseUint10]
    rw [if_neg (by omega)]
theorem pu_next {t : ByteArray} {k u : Nat} (hk : k < t.size) (h17 : t.size ≤ 17) (h : Lib.parseUint10 0 (t.data.toList.take k) = .ok u) (hu : u < 10 ^ k) (hc : 48 ≤ t[k].toNat ∧ t[k].toNat ≤ 57) :
    Lib.parseUint10 0 (t.data.toList.take (k + 1)) = .ok (u * 10 + (t[k].toNat - 48)) ∧ u * 10 + (t[k].toNat - 48) < 10 ^ (k + 1) ∧ u < 10 ^ 16 := by
  have hp : (10 : Nat) ^ k ≤ 10 ^ 16 := Nat.pow_le_pow_right (by decide) (by omega)
  have h16 : (10 : Nat) ^ 16 = 10000000000000000 := by decide
  refine ⟨?_, by rw [Nat.pow_succ]; omega, by omega⟩
  have h2 : k < t.data.toList.length := hk
  have e : t[k] = t.data.toList[k] := by
    show t.data[k] = _
    rw [Array.getElem_toList]
  rw [List.take_succ_eq_append_getElem h2, pu_app _ _ _ _ h, ← e]
  simp only [Lib.parseUint10]
  rw [if_pos hc, if_neg (by omega), if_neg (by omega)]
set_option maxRecDepth 100000 in
set_option maxHeartbeats 4000000 in
theorem l2Digits_any (t : ByteArray) (ht : t.size ≤ 3000000) (w : World) : Calls Tryd.prog 44 #[.string t] w fun e w' => e = .returned (.int .i64 (DevB.l2d t.data.toList)) ∧ w' = w := by
  obtain ⟨r, hr⟩ : ∃ r, DevB.l2d t.data.toList = r := ⟨_, rfl⟩
  have HR := Lib.hid hr
  rw [hr]
  clear hr
  by_cases h0 : t.size = 0
  · have HF : Hid (r = -1) := Lib.hid (by rw [← HR.out]; unfold DevB.l2d; rw [if_pos (.inl h0)])
    clear HR
    go_enter Tryd.func44, Tryd.ntmps44
    go_wp2
    go_ret
    exact ⟨by rw [HF.out]; rfl, rfl⟩
  by_cases h17 : 17 < t.size
  · have HF : Hid (r = -1) := Lib.hid (by rw [← HR.out]; unfold DevB.l2d; rw [if_pos (.inr h17)])
    have d0 : ¬ (t.size : Int) = 0 := by omega
    have d1 : (17 : Int) < (t.size : Int) := by omega
    clear HR
    go_enter Tryd.func44, Tryd.ntmps44
    go_wp2
    go_ret
    exact ⟨by rw [HF.out]; rfl, rfl⟩
  have d0 : ¬ (t.size : Int) = 0 := by omega
  have d2 : ¬ (17 : Int) < (t.size : Int) := by omega
  go_enter Tryd.func44, Tryd.ntmps44
  go_wp2_with fail
  go_loopw [3, 4] (fun n v wr => ∃ (k u : Nat), n = .int .i64 u ∧ v = .int .i64 k ∧ k ≤ t.size ∧ Lib.parseUint10 0 (t.data.toList.take k) = .ok u ∧ u < 10 ^ k ∧ wr = w) (fun _ v _ => t.size - (intOf v).toNat)
  case atStart => exact ⟨0, 0, rfl, rfl, by omega, rfl, by decide, rfl⟩
  case round =>
    obtain ⟨k, u, rfl, rfl, hk, hp, hu, rfl⟩ := hrel
    have HP := Lib.hid (And.intro hp hu)
    clear hp hu
    by_cases hlt : k < t.size
    · have d1 : (k : Int) < (t.size : Int) := by omega
      by_cases hl : t[k].toNat < 48
      · have e1 : (t[k].toNat : Int) < 48 := by omega
        have HF : Hid (r = -1) := Lib.hid (by rw [← HR.out]; exact l2d_bad hlt HP.out.1 (.inl hl))
        clear HR HP
        go_wp2
        go_ret
        exact ⟨by rw [HF.out]; rfl, rfl⟩
      by_cases hg : 57 < t[k].toNat
      · have e0 : ¬ (t[k].toNat : Int) < 48 := by omega
        have e1 : (57 : Int) < (t[k].toNat : Int) := by omega
        have HF : Hid (r = -1) := Lib.hid (by rw [← HR.out]; exact l2d_bad hlt HP.out.1 (.inr hg))
        clear HR HP
        go_wp2
        go_ret
        exact ⟨by rw [HF.out]; rfl, rfl⟩
      · have e0 : ¬ (t[k].toNat : Int) < 48 := by omega
        have e1 : ¬ (57 : Int) < (t[k].toNat : Int) := by omega
        obtain ⟨q1, q2, q3⟩ := pu_next hlt (by omega) HP.out.1 HP.out.2 (by omega)
        have u1 : (u : Int) < 10000000000000000 := by omega
        have HF := Lib.hid (And.intro q1 q2)
        clear q1 q2 q3 HR HP
        go_wp2
        go_roundw
        case rel => exact ⟨k + 1, u * 10 + (t[k].toNat - 48), by go_num, by go_num, by omega, HF.out.1, HF.out.2, trivial⟩
        case measure => simp [intOf]; omega
    · have d1 : ¬ (k : Int) < (t.size : Int) := by omega
      have HF : Hid (r = (u : Int)) := Lib.hid (by
        have hl : t.data.toList.length = t.size := rfl
        have h1 := HP.out.1
        rw [List.take_of_length_le (by omega)] at h1
        rw [← HR.out]
        exact DevB.l2d_dig h1 (by intro e; rw [e] at hl; simp at hl; omega) (by omega))
      clear HR HP
      go_wp2
      go_ret
      exact ⟨by rw [HF.out]; rfl, rfl⟩
end Go.Proofs.YtikcabmohlaanaaDoor
