/- The walks of l10Find and l10Num. -/
import Derived.Test.YtobbkebjgjeglaaDoorRows
import Derived.Test.YtobbkebjgjeglaaDoorRealR
import Derived.Test.YtobbkebjgjeglaaDoorBox
import Derived.WalkKit
import Derived.WalkSpells
import Derived.WalkLawsBesides
import Derived.OpenShut
import Derived.IntWalk
import Derived.Lib.Hide
import Derived.Deep.QuietTactic
import Derived.BigQuiet
namespace Go.Proofs.YtobbkebjgjeglaaDoor
open Go.RowKit Bx ItoP RealP Fl RealR
set_option linter.unusedVariables false

theorem ib_no {l : List UInt8} {c : UInt8} (h : ∀ b ∈ l, b ≠ c) : Lib.indexByte l c = -1 := by
  induction l with
  | nil => rfl
  | cons a l ih =>
    have h1 := h a List.mem_cons_self
    have h2 := ih (fun b hb => h b (List.mem_cons_of_mem _ hb))
    unfold Lib.indexByte
    rw [h2]
    simp [h1]
theorem ib_at {l : List UInt8} {c : UInt8} (r : List UInt8) (h : ∀ b ∈ l, b ≠ c) : Lib.indexByte (l ++ c :: r) c = (l.length : Int) := by
  induction l with
  | nil => unfold Lib.indexByte; simp
  | cons a l ih =>
    have h1 := h a List.mem_cons_self
    have h2 := ih (fun b hb => h b (List.mem_cons_of_mem _ hb))
    rw [List.cons_append]
    unfold Lib.indexByte
    rw [h2]
    simp [h1]
theorem byte_at (t : ByteArray) (k : Nat) (h : k < t.size) : t.data.toList = t.data.toList.take k ++ t[k] :: t.data.toList.drop (k + 1) := by
  have h2 : k < t.data.toList.length := h
  have e : t[k] = t.data.toList[k] := by
    show t.data[k] = _
    rw [Array.getElem_toList]
  rw [e]
  rw [← List.drop_eq_getElem_cons h2, List.take_append_drop]
set_option maxRecDepth 100000 in
set_option maxHeartbeats 1000000 in
theorem l10Find_any (t : ByteArray) (ht : t.size ≤ 3000000) (w : World) : Calls Tryd.prog 32 #[.string t, .int .u8 42] w fun e w' => e = .returned (.int .i64 (Lib.indexByte t.data.toList 42)) ∧ w' = w := by
  obtain ⟨r, hr⟩ : ∃ r, Lib.indexByte t.data.toList 42 = r := ⟨_, rfl⟩
  have HR := Lib.hid hr
  rw [hr]
  clear hr
  go_enter Tryd.func32, Tryd.ntmps32
  go_wp2_with fail
  go_loopw [5] (fun v wr => ∃ (k : Nat), v = .int .i64 k ∧ k ≤ t.size ∧ (∀ b ∈ t.data.toList.take k, b ≠ 42) ∧ wr = w) (fun v _ => t.size - (intOf v).toNat)
  case atStart => exact ⟨0, rfl, by omega, fun b hb => by simp at hb, rfl⟩
  case round =>
    obtain ⟨k, rfl, hk, hno, rfl⟩ := hrel
    have HN := Lib.hid hno
    clear hno
    by_cases hlt : k < t.size
    · have d1 : (k : Int) < (t.size : Int) := by omega
      have hb := byte_at t k hlt
      by_cases hc : t[k] = 42
      · have e : (t[k].toNat : Int) = 42 := by rw [hc]; rfl
        have HF : Hid (r = (k : Int)) := Lib.hid (by
          rw [← HR.out, hb, hc, ib_at _ HN.out, List.length_take]
          have : t.data.toList.length = t.size := rfl
          omega)
        clear hb hc HR HN
        go_wp2
        go_ret
        exact ⟨by rw [HF.out]; rfl, rfl⟩
      · have e : ¬ (t[k].toNat : Int) = 42 := by
          intro h2
          exact hc (UInt8.toNat_inj.1 (by have : (42 : UInt8).toNat = 42 := rfl; omega))
        have HF : Hid (∀ b ∈ t.data.toList.take (k + 1), b ≠ 42) := Lib.hid (by
          intro b hm
          rw [List.take_succ_eq_append_getElem (show k < t.data.toList.length from hlt)] at hm
          rcases List.mem_append.1 hm with hm | hm
          · exact HN.out b hm
          · simp only [List.mem_singleton] at hm
            rw [hm]
            exact hc)
        clear hb hc HR HN
        go_wp2
        go_roundw
        case rel => exact ⟨k + 1, by go_num, by omega, HF.out, trivial⟩
        case measure => simp [intOf]; omega
    · have d1 : ¬ (k : Int) < (t.size : Int) := by omega
      have HF : Hid (r = -1) := Lib.hid (by
        rw [← HR.out]
        refine ib_no (fun b hb => HN.out b ?_)
        rwa [List.take_of_length_le (show t.data.toList.length ≤ k by have : t.data.toList.length = t.size := rfl; omega)])
      clear HR HN
      go_wp2
      go_ret
      exact ⟨by rw [HF.out]; rfl, rfl⟩

theorem ex_list (s : ByteArray) : (s.extract 1 s.size).data.toList = s.data.toList.drop 1 := by
  simp only [ByteArray.data_extract, Array.toList_extract, List.extract]
  rw [List.take_of_length_le (by rw [List.length_drop]; exact Nat.le_refl _)]
theorem digs_take {l : List UInt8} {k : Nat} (h : k < l.length) (hd : digs (l.take k)) (hc : 48 ≤ (l[k]).toNat ∧ (l[k]).toNat ≤ 57) : digs (l.take (k + 1)) := by
  intro c hm
  rw [List.take_succ_eq_append_getElem h] at hm
  rcases List.mem_append.1 hm with hm | hm
  · exact hd c hm
  · simp only [List.mem_singleton] at hm; rw [hm]; exact hc
theorem dv_take {l : List UInt8} {k : Nat} (h : k < l.length) : dv (l.take (k + 1)) = dv (l.take k) * 10 + ((l[k]).toNat - 48) := by
  rw [List.take_succ_eq_append_getElem h]; exact dva_snoc 0 _ _
def LoopPost (l : List UInt8) (sg : Bool) (w : World) (e : Ending) (w' : World) : Prop := ∃ (z : Int) (ok : Bool), e = .returned (.tuple #[.int .i64 z, .bool ok]) ∧ ((ok = true ∧ digs l ∧ z = if sg then -(dv l : Int) else (dv l : Int)) ∨ (ok = false ∧ z = 0 ∧ ¬ digs l)) ∧ w' = w
set_option maxRecDepth 100000 in
set_option maxHeartbeats 1000000 in
theorem num_p_empty (s : ByteArray) (hs : s.size ≤ 2000000)  (hz : s.size = 0) (w : World) : Calls Tryd.prog 33 #[.string s] w fun e w' => e = .returned (.tuple #[.int .i64 0, .bool false]) ∧ w' = w := by
  have hse : s = ByteArray.empty := by cases s with | mk a => have : a = #[] := Array.size_eq_zero_iff.1 hz; rw [this]; rfl
  subst hse
  go_enter Tryd.func33, Tryd.ntmps33
  go_wp2
  all_goals
    go_ret2
    exact ⟨rfl, rfl⟩
set_option maxRecDepth 100000 in
set_option maxHeartbeats 1000000 in
theorem num_p_long (s : ByteArray) (hs : s.size ≤ 2000000) (hs0 : 0 < s.size) (hs45 : ¬ (s[0].toNat : Int) = 45) (hz : 17 < s.size) (w : World) : Calls Tryd.prog 33 #[.string s] w fun e w' => e = .returned (.tuple #[.int .i64 0, .bool false]) ∧ w' = w := by
  have hs1 : (0 : Int) < (s.size : Int) := by omega
  go_enter Tryd.func33, Tryd.ntmps33
  go_wp2
  all_goals
    go_ret2
    exact ⟨rfl, rfl⟩
set_option maxRecDepth 100000 in
set_option maxHeartbeats 1000000 in
theorem num_p_zero (s : ByteArray) (hs : s.size ≤ 2000000) (hs0 : 0 < s.size) (hs45 : ¬ (s[0].toNat : Int) = 45) (hz : 0 < s.size) (hz2 : s.size ≤ 17) (h48 : (s[0].toNat : Int) = 48) (hm : 1 < s.size) (w : World) : Calls Tryd.prog 33 #[.string s] w fun e w' => e = .returned (.tuple #[.int .i64 0, .bool false]) ∧ w' = w := by
  have hs1 : (0 : Int) < (s.size : Int) := by omega
  have y0 : ((s.size : Int) == 0) = false := beq_eq_false_iff_ne.2 (fun h => by omega)
  have y1 : ¬ (17 : Int) < (s.size : Int) := by omega
  have y2 : ¬ s.size = 0 := by omega
  have y4 : ((s[0].toNat : Int) == 48) = true := beq_iff_eq.2 h48
  have y5 : (1 : Int) < (s.size : Int) := by omega
  go_enter Tryd.func33, Tryd.ntmps33
  go_wp2
  all_goals
    go_ret2
    exact ⟨rfl, rfl⟩
set_option maxRecDepth 100000 in
set_option maxHeartbeats 1000000 in
theorem num_p_loop (s : ByteArray) (hs : s.size ≤ 2000000) (hs0 : 0 < s.size) (hs45 : ¬ (s[0].toNat : Int) = 45) (hz : 0 < s.size) (hz2 : s.size ≤ 17) (h48 : ¬ (s[0].toNat : Int) = 48) (w : World) : Calls Tryd.prog 33 #[.string s] w (LoopPost s.data.toList false w) := by
  have hs1 : (0 : Int) < (s.size : Int) := by omega
  have y0 : ((s.size : Int) == 0) = false := beq_eq_false_iff_ne.2 (fun h => by omega)
  have y1 : ¬ (17 : Int) < (s.size : Int) := by omega
  have y2 : ¬ s.size = 0 := by omega
  have y4 : ((s[0].toNat : Int) == 48) = false := beq_eq_false_iff_ne.2 h48
  go_enter Tryd.func33, Tryd.ntmps33
  go_wp2_with fail
  clear y0 y1 y2 y4 hs45 h48
  go_loopw [5, 6] (fun v i wr => ∃ k : Nat, k ≤ s.size ∧ i = .int .i64 k ∧ v = .int .i64 (dv (s.data.toList.take k) : Nat) ∧ digs (s.data.toList.take k) ∧ wr = w) (fun _ i _ => s.size - (intOf i).toNat)
  case atStart => exact ⟨0, by omega, rfl, rfl, fun c hc => by simp at hc, by first | rfl | trivial⟩
  case round =>
    obtain ⟨k, hk, rfl, rfl, hdg, rfl⟩ := hrel
    have hlen : s.data.toList.length = s.size := rfl
    have hdl : dv (s.data.toList.take k) < 10 ^ 17 := dv_lt hdg (by rw [List.length_take]; omega)
    have HDG := Lib.hid hdg
    clear hdg
    by_cases hlt : k < s.size
    · have d1 : (k : Int) < (s.size : Int) := by omega
      have hgd : s[k] = s.data.toList[k]'hlt := by
        show s.data[k] = _
        rw [Array.getElem_toList]
      by_cases hc : 48 ≤ s[k].toNat ∧ s[k].toNat ≤ 57
      · have e1 : ¬ (s[k].toNat : Int) < 48 := by omega
        have e2 : ¬ (57 : Int) < (s[k].toNat : Int) := by omega
        have HF : Hid (digs (s.data.toList.take (k + 1)) ∧ dv (s.data.toList.take (k + 1)) = dv (s.data.toList.take k) * 10 + (s[k].toNat - 48)) := Lib.hid ⟨digs_take hlt HDG.out (by rw [← hgd]; exact hc), by rw [hgd]; exact dv_take hlt⟩
        obtain ⟨hc1, hc2⟩ := hc
        clear hgd
        generalize dv (s.data.toList.take k) = V at HF hdl ⊢
        go_wp2
        go_roundw
        case rel => exact ⟨k + 1, by omega, by go_num, by rw [HF.out.2]; congr 1; omega, HF.out.1, by first | rfl | trivial⟩
        case measure => simp [intOf]; omega
      · have HF : Hid (¬ digs s.data.toList) := Lib.hid (fun h => hc (by rw [hgd]; exact h _ (List.getElem_mem hlt)))
        clear hgd
        have e1 : (s[k].toNat : Int) < 48 ∨ (57 : Int) < (s[k].toNat : Int) := by omega
        clear hc
        rcases e1 with e1 | e1
        · go_wp2
          go_ret2
          exact ⟨0, false, rfl, .inr ⟨rfl, rfl, HF.out⟩, rfl⟩
        · have e2 : ¬ (s[k].toNat : Int) < 48 := by omega
          go_wp2
          go_ret2
          exact ⟨0, false, rfl, .inr ⟨rfl, rfl, HF.out⟩, rfl⟩
    · obtain rfl : k = s.size := by omega
      have ht : s.data.toList.take s.size = s.data.toList := List.take_of_length_le (Nat.le_refl _)
      rw [ht] at HDG hdl
      have HZ := Lib.hid ht
      clear ht hlt
      go_wp2
      go_ret2
      exact ⟨_, true, rfl, .inl ⟨rfl, HDG.out, by first | (rw [HZ.out]; rfl) | (rw [HZ.out, if_pos rfl]; unfold wrap64; omega)⟩, rfl⟩
set_option maxRecDepth 100000 in
set_option maxHeartbeats 1000000 in
theorem num_p_lone (s : ByteArray) (hs : s.size ≤ 2000000) (hs0 : 0 < s.size) (hs45 : ¬ (s[0].toNat : Int) = 45) (hz : 0 < s.size) (hz2 : s.size ≤ 17) (h48 : (s[0].toNat : Int) = 48) (h1 : s.size = 1) (w : World) : Calls Tryd.prog 33 #[.string s] w (LoopPost s.data.toList false w) := by
  have hs1 : (0 : Int) < (s.size : Int) := by omega
  have y0 : ((s.size : Int) == 0) = false := beq_eq_false_iff_ne.2 (fun h => by omega)
  have y1 : ¬ (17 : Int) < (s.size : Int) := by omega
  have y2 : ¬ s.size = 0 := by omega
  have y4 : ((s[0].toNat : Int) == 48) = true := beq_iff_eq.2 h48
  have y5 : ¬ (1 : Int) < (s.size : Int) := by omega
  go_enter Tryd.func33, Tryd.ntmps33
  go_wp2_with fail
  clear y0 y1 y2 y4 hs45 h48
  go_loopw [5, 6] (fun v i wr => ∃ k : Nat, k ≤ s.size ∧ i = .int .i64 k ∧ v = .int .i64 (dv (s.data.toList.take k) : Nat) ∧ digs (s.data.toList.take k) ∧ wr = w) (fun _ i _ => s.size - (intOf i).toNat)
  case atStart => exact ⟨0, by omega, rfl, rfl, fun c hc => by simp at hc, by first | rfl | trivial⟩
  case round =>
    obtain ⟨k, hk, rfl, rfl, hdg, rfl⟩ := hrel
    have hlen : s.data.toList.length = s.size := rfl
    have hdl : dv (s.data.toList.take k) < 10 ^ 17 := dv_lt hdg (by rw [List.length_take]; omega)
    have HDG := Lib.hid hdg
    clear hdg
    by_cases hlt : k < s.size
    · have d1 : (k : Int) < (s.size : Int) := by omega
      have hgd : s[k] = s.data.toList[k]'hlt := by
        show s.data[k] = _
        rw [Array.getElem_toList]
      by_cases hc : 48 ≤ s[k].toNat ∧ s[k].toNat ≤ 57
      · have e1 : ¬ (s[k].toNat : Int) < 48 := by omega
        have e2 : ¬ (57 : Int) < (s[k].toNat : Int) := by omega
        have HF : Hid (digs (s.data.toList.take (k + 1)) ∧ dv (s.data.toList.take (k + 1)) = dv (s.data.toList.take k) * 10 + (s[k].toNat - 48)) := Lib.hid ⟨digs_take hlt HDG.out (by rw [← hgd]; exact hc), by rw [hgd]; exact dv_take hlt⟩
        obtain ⟨hc1, hc2⟩ := hc
        clear hgd
        generalize dv (s.data.toList.take k) = V at HF hdl ⊢
        go_wp2
        go_roundw
        case rel => exact ⟨k + 1, by omega, by go_num, by rw [HF.out.2]; congr 1; omega, HF.out.1, by first | rfl | trivial⟩
        case measure => simp [intOf]; omega
      · have HF : Hid (¬ digs s.data.toList) := Lib.hid (fun h => hc (by rw [hgd]; exact h _ (List.getElem_mem hlt)))
        clear hgd
        have e1 : (s[k].toNat : Int) < 48 ∨ (57 : Int) < (s[k].toNat : Int) := by omega
        clear hc
        rcases e1 with e1 | e1
        · go_wp2
          go_ret2
          exact ⟨0, false, rfl, .inr ⟨rfl, rfl, HF.out⟩, rfl⟩
        · have e2 : ¬ (s[k].toNat : Int) < 48 := by omega
          go_wp2
          go_ret2
          exact ⟨0, false, rfl, .inr ⟨rfl, rfl, HF.out⟩, rfl⟩
    · obtain rfl : k = s.size := by omega
      have ht : s.data.toList.take s.size = s.data.toList := List.take_of_length_le (Nat.le_refl _)
      rw [ht] at HDG hdl
      have HZ := Lib.hid ht
      clear ht hlt
      go_wp2
      go_ret2
      exact ⟨_, true, rfl, .inl ⟨rfl, HDG.out, by first | (rw [HZ.out]; rfl) | (rw [HZ.out, if_pos rfl]; unfold wrap64; omega)⟩, rfl⟩
set_option maxRecDepth 100000 in
set_option maxHeartbeats 1000000 in
theorem num_n_empty (s : ByteArray) (hs : s.size ≤ 2000000) (d : ByteArray) (hd : s.extract 1 s.size = d) (hs0 : 0 < s.size) (hs45 : (s[0].toNat : Int) = 45) (hz : d.size = 0) (w : World) : Calls Tryd.prog 33 #[.string s] w fun e w' => e = .returned (.tuple #[.int .i64 0, .bool false]) ∧ w' = w := by
  have hs1 : (0 : Int) < (s.size : Int) := by omega
  go_enter Tryd.func33, Tryd.ntmps33
  go_wp2
  all_goals
    go_ret2
    exact ⟨rfl, rfl⟩
set_option maxRecDepth 100000 in
set_option maxHeartbeats 1000000 in
theorem num_n_long (s : ByteArray) (hs : s.size ≤ 2000000) (d : ByteArray) (hd : s.extract 1 s.size = d) (hs0 : 0 < s.size) (hs45 : (s[0].toNat : Int) = 45) (hz : 17 < d.size) (w : World) : Calls Tryd.prog 33 #[.string s] w fun e w' => e = .returned (.tuple #[.int .i64 0, .bool false]) ∧ w' = w := by
  have hs1 : (0 : Int) < (s.size : Int) := by omega
  go_enter Tryd.func33, Tryd.ntmps33
  go_wp2
  all_goals
    go_ret2
    exact ⟨rfl, rfl⟩
set_option maxRecDepth 100000 in
set_option maxHeartbeats 1000000 in
theorem num_n_zero (s : ByteArray) (hs : s.size ≤ 2000000) (d : ByteArray) (hd : s.extract 1 s.size = d) (hs0 : 0 < s.size) (hs45 : (s[0].toNat : Int) = 45) (hz : 0 < d.size) (hz2 : d.size ≤ 17) (h48 : (d[0].toNat : Int) = 48) (w : World) : Calls Tryd.prog 33 #[.string s] w fun e w' => e = .returned (.tuple #[.int .i64 0, .bool false]) ∧ w' = w := by
  have hs1 : (0 : Int) < (s.size : Int) := by omega
  have y0 : ((d.size : Int) == 0) = false := beq_eq_false_iff_ne.2 (fun h => by omega)
  have y1 : ¬ (17 : Int) < (d.size : Int) := by omega
  have y2 : ¬ d.size = 0 := by omega
  have y4 : ((d[0].toNat : Int) == 48) = true := beq_iff_eq.2 h48
  go_enter Tryd.func33, Tryd.ntmps33
  go_wp2
  all_goals
    go_ret2
    exact ⟨rfl, rfl⟩
set_option maxRecDepth 100000 in
set_option maxHeartbeats 1000000 in
theorem num_n_loop (s : ByteArray) (hs : s.size ≤ 2000000) (d : ByteArray) (hd : s.extract 1 s.size = d) (hs0 : 0 < s.size) (hs45 : (s[0].toNat : Int) = 45) (hz : 0 < d.size) (hz2 : d.size ≤ 17) (h48 : ¬ (d[0].toNat : Int) = 48) (w : World) : Calls Tryd.prog 33 #[.string s] w (LoopPost d.data.toList true w) := by
  have hs1 : (0 : Int) < (s.size : Int) := by omega
  have y0 : ((d.size : Int) == 0) = false := beq_eq_false_iff_ne.2 (fun h => by omega)
  have y1 : ¬ (17 : Int) < (d.size : Int) := by omega
  have y2 : ¬ d.size = 0 := by omega
  have y4 : ((d[0].toNat : Int) == 48) = false := beq_eq_false_iff_ne.2 h48
  go_enter Tryd.func33, Tryd.ntmps33
  go_wp2_with fail
  clear y0 y1 y2 y4 hs45 h48 hd
  go_loopw [5, 6] (fun v i wr => ∃ k : Nat, k ≤ d.size ∧ i = .int .i64 k ∧ v = .int .i64 (dv (d.data.toList.take k) : Nat) ∧ digs (d.data.toList.take k) ∧ wr = w) (fun _ i _ => d.size - (intOf i).toNat)
  case atStart => exact ⟨0, by omega, rfl, rfl, fun c hc => by simp at hc, by first | rfl | trivial⟩
  case round =>
    obtain ⟨k, hk, rfl, rfl, hdg, rfl⟩ := hrel
    have hlen : d.data.toList.length = d.size := rfl
    have hdl : dv (d.data.toList.take k) < 10 ^ 17 := dv_lt hdg (by rw [List.length_take]; omega)
    have HDG := Lib.hid hdg
    clear hdg
    by_cases hlt : k < d.size
    · have d1 : (k : Int) < (d.size : Int) := by omega
      have hgd : d[k] = d.data.toList[k]'hlt := by
        show d.data[k] = _
        rw [Array.getElem_toList]
      by_cases hc : 48 ≤ d[k].toNat ∧ d[k].toNat ≤ 57
      · have e1 : ¬ (d[k].toNat : Int) < 48 := by omega
        have e2 : ¬ (57 : Int) < (d[k].toNat : Int) := by omega
        have HF : Hid (digs (d.data.toList.take (k + 1)) ∧ dv (d.data.toList.take (k + 1)) = dv (d.data.toList.take k) * 10 + (d[k].toNat - 48)) := Lib.hid ⟨digs_take hlt HDG.out (by rw [← hgd]; exact hc), by rw [hgd]; exact dv_take hlt⟩
        obtain ⟨hc1, hc2⟩ := hc
        clear hgd
        generalize dv (d.data.toList.take k) = V at HF hdl ⊢
        go_wp2
        go_roundw
        case rel => exact ⟨k + 1, by omega, by go_num, by rw [HF.out.2]; congr 1; omega, HF.out.1, by first | rfl | trivial⟩
        case measure => simp [intOf]; omega
      · have HF : Hid (¬ digs d.data.toList) := Lib.hid (fun h => hc (by rw [hgd]; exact h _ (List.getElem_mem hlt)))
        clear hgd
        have e1 : (d[k].toNat : Int) < 48 ∨ (57 : Int) < (d[k].toNat : Int) := by omega
        clear hc
        rcases e1 with e1 | e1
        · go_wp2
          go_ret2
          exact ⟨0, false, rfl, .inr ⟨rfl, rfl, HF.out⟩, rfl⟩
        · have e2 : ¬ (d[k].toNat : Int) < 48 := by omega
          go_wp2
          go_ret2
          exact ⟨0, false, rfl, .inr ⟨rfl, rfl, HF.out⟩, rfl⟩
    · obtain rfl : k = d.size := by omega
      have ht : d.data.toList.take d.size = d.data.toList := List.take_of_length_le (Nat.le_refl _)
      rw [ht] at HDG hdl
      have HZ := Lib.hid ht
      clear ht hlt
      go_wp2
      go_ret2
      exact ⟨_, true, rfl, .inl ⟨rfl, HDG.out, by first | (rw [HZ.out]; rfl) | (rw [HZ.out, if_pos rfl]; unfold wrap64; omega)⟩, rfl⟩
theorem head_at {s : ByteArray} (h : 0 < s.size) : s.data.toList = s[0] :: s.data.toList.drop 1 := by
  have := byte_at s 0 h
  rwa [List.take_zero, List.nil_append] at this
theorem l10Num_any (s : ByteArray) (hs : s.size ≤ 2000000) (w : World) : Calls Tryd.prog 33 #[.string s] w fun e w' => ∃ (z : Int) (ok : Bool), e = .returned (.tuple #[.int .i64 z, .bool ok]) ∧ ((ok = true ∧ numP s.data.toList z) ∨ (ok = false ∧ z = 0 ∧ ∀ y, ¬ numP s.data.toList y)) ∧ w' = w := by
  have hsl : s.data.toList.length = s.size := rfl
  have no : ∀ {P : Prop}, (∀ y, ¬ numP s.data.toList y) → Calls Tryd.prog 33 #[.string s] w (fun e w' => e = .returned (.tuple #[.int .i64 0, .bool false]) ∧ w' = w) → Calls Tryd.prog 33 #[.string s] w fun e w' => ∃ (z : Int) (ok : Bool), e = .returned (.tuple #[.int .i64 z, .bool ok]) ∧ ((ok = true ∧ numP s.data.toList z) ∨ (ok = false ∧ z = 0 ∧ ∀ y, ¬ numP s.data.toList y)) ∧ w' = w :=
    fun hn hc => hc.mono fun e w' ⟨he, hw⟩ => ⟨0, false, he, .inr ⟨rfl, rfl, hn⟩, hw⟩
  by_cases h0 : s.size = 0
  · refine no (P := True) (fun y hy => ?_) (num_p_empty s hs h0 w)
    have hnil : s.data.toList = [] := List.length_eq_zero_iff.1 (by rw [hsl]; exact h0)
    rw [hnil] at hy
    rcases num_shape hy with ⟨_, c, _⟩ | ⟨d, hd, _⟩
    · exact c.ne rfl
    · cases hd
  have hp : 0 < s.size := by omega
  have hh := head_at hp
  by_cases h45 : (s[0].toNat : Int) = 45
  · have e45 : s[0] = 45 := UInt8.toNat_inj.1 (by have : (45 : UInt8).toNat = 45 := rfl; omega)
    obtain ⟨d, hd⟩ : ∃ d, s.extract 1 s.size = d := ⟨_, rfl⟩
    have hdl : d.data.toList = s.data.toList.drop 1 := by rw [← hd]; exact ex_list s
    have hl : s.data.toList = 45 :: d.data.toList := by rw [hh, e45, hdl]
    have hdz : d.data.toList.length = d.size := rfl
    have shape : ∀ y, numP s.data.toList y → Canon d.data.toList ∧ d.data.toList.head? ≠ some 48 ∧ d.data.toList.length ≤ 17 := fun y hy => by
      rcases num_shape hy with ⟨h1, _⟩ | ⟨d', hd', c, h2, h3⟩
      · rw [hl] at h1; exact absurd rfl h1
      · rw [hl] at hd'
        obtain rfl := (List.cons.inj hd').2
        exact ⟨c, h2, h3⟩
    by_cases z0 : d.size = 0
    · refine no (P := True) (fun y hy => (shape y hy).1.ne (List.length_eq_zero_iff.1 (by rw [hdz]; exact z0))) (num_n_empty s hs d hd hp h45 z0 w)
    by_cases z1 : 17 < d.size
    · exact no (P := True) (fun y hy => by have := (shape y hy).2.2; omega) (num_n_long s hs d hd hp h45 z1 w)
    have hdp : 0 < d.size := by omega
    have hdh := head_at hdp
    by_cases z2 : (d[0].toNat : Int) = 48
    · have e48 : d[0] = 48 := UInt8.toNat_inj.1 (by have : (48 : UInt8).toNat = 48 := rfl; omega)
      exact no (P := True) (fun y hy => (shape y hy).2.1 (by rw [hdh, e48]; rfl)) (num_n_zero s hs d hd hp h45 hdp (by omega) z2 w)
    · refine (num_n_loop s hs d hd hp h45 hdp (by omega) z2 w).mono ?_
      rintro e w' ⟨z, ok, he, hc, hw⟩
      refine ⟨z, ok, he, ?_, hw⟩
      have hne48 : d.data.toList.head? ≠ some 48 := by
        rw [hdh]
        intro e
        have : d[0] = 48 := Option.some.inj e
        exact z2 (by rw [this]; rfl)
      rcases hc with ⟨h1, h2, h3⟩ | ⟨h1, h2, h3⟩
      · rw [if_pos rfl] at h3
        have hcan : Canon d.data.toList := ⟨by intro e; rw [e] at hdz; simp at hdz; omega, h2, fun e => absurd e hne48⟩
        exact .inl ⟨h1, by rw [hl, h3]; exact num_neg hcan hne48 (by omega)⟩
      · exact .inr ⟨h1, h2, fun y hy => h3 (shape y hy).1.dg⟩
  · have shape : ∀ y, numP s.data.toList y → Canon s.data.toList ∧ s.data.toList.length ≤ 17 := fun y hy => by
      rcases num_shape hy with ⟨_, c, h2⟩ | ⟨d', hd', _⟩
      · exact ⟨c, h2⟩
      · rw [hh] at hd'
        have := (List.cons.inj hd').1
        exact absurd (by rw [this]; rfl) h45
    by_cases z1 : 17 < s.size
    · exact no (P := True) (fun y hy => by have := (shape y hy).2; omega) (num_p_long s hs hp h45 z1 w)
    have fin : ∀ e w', LoopPost s.data.toList false w e w' → (s.data.toList.head? = some 48 → s.size = 1) → ∃ (z : Int) (ok : Bool), e = .returned (.tuple #[.int .i64 z, .bool ok]) ∧ ((ok = true ∧ numP s.data.toList z) ∨ (ok = false ∧ z = 0 ∧ ∀ y, ¬ numP s.data.toList y)) ∧ w' = w := by
      rintro e w' ⟨z, ok, he, hc, hw⟩ h48
      refine ⟨z, ok, he, ?_, hw⟩
      rcases hc with ⟨h1, h2, h3⟩ | ⟨h1, h2, h3⟩
      · rw [if_neg (by decide)] at h3
        have hcan : Canon s.data.toList := ⟨by intro e; rw [e] at hsl; simp at hsl; omega, h2, fun e => by rw [hsl]; exact h48 e⟩
        exact .inl ⟨h1, by rw [h3]; exact num_pos hcan (by omega)⟩
      · exact .inr ⟨h1, h2, fun y hy => h3 (shape y hy).1.dg⟩
    by_cases z2 : (s[0].toNat : Int) = 48
    · have e48 : s[0] = 48 := UInt8.toNat_inj.1 (by have : (48 : UInt8).toNat = 48 := rfl; omega)
      by_cases z3 : s.size = 1
      · exact (num_p_lone s hs hp h45 hp (by omega) z2 z3 w).mono fun e w' h => fin e w' h (fun _ => z3)
      · exact no (P := True) (fun y hy => by have := (shape y hy).1.hd (by rw [hh, e48]; rfl); omega) (num_p_zero s hs hp h45 hp (by omega) z2 (by omega) w)
    · refine (num_p_loop s hs hp h45 hp (by omega) z2 w).mono fun e w' h => fin e w' h (fun e => ?_)
      rw [hh] at e
      have : s[0] = 48 := Option.some.inj e
      exact absurd (by rw [this]; rfl) z2
end Go.Proofs.YtobbkebjgjeglaaDoor
