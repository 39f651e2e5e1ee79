/- The walk of FnDevKinds. -/
import Derived.Test.YtikcabmohlaanaaRows
import Derived.Test.YtikcabmohlaanaaWDArg2
import Derived.WalkKit
import Derived.WalkSpells
import Derived.WalkLawsBesides
import Derived.OpenShut
import Derived.OwnWalk
import Derived.IntWalk
import Derived.Lib.Hide
import Derived.Deep.RegionHeld3
import Derived.Deep.DeepCutAuto
namespace Go.Proofs.Ytikcabmohlaanaa
open Go.RowKit Bx Rdr
set_option linter.unusedVariables false

/-- how many of the first j numbers from -1 on are devices of a kind -/
def cnt (k : Int) : Nat → Nat
  | 0 => 0
  | j + 1 => cnt k j + (DevP.ok k ((j : Int) - 1) 0).toNat
theorem cnt_le (k : Int) : ∀ j, cnt k j ≤ j
  | 0 => Nat.le_refl _
  | j + 1 => by
    have := cnt_le k j
    have hb : (DevP.ok k ((j : Int) - 1) 0).toNat ≤ 1 := by cases DevP.ok k ((j : Int) - 1) 0 <;> simp
    show cnt k j + _ ≤ j + 1
    omega
theorem cnt_dev {k : Int} (hk : 1 ≤ k ∧ k ≤ 10) (hs : 0 ≤ DevP.size k) : ∀ j : Nat, (cnt k j : Int) = if (j : Int) ≤ 1 then 0 else if (j : Int) - 1 ≤ DevP.size k then (j : Int) - 1 else DevP.size k
  | 0 => by simp [cnt]
  | j + 1 => by
    have ih := cnt_dev hk hs j
    have he : (cnt k (j + 1) : Int) = (cnt k j : Int) + ((DevP.ok k ((j : Int) - 1) 0).toNat : Int) := by
      show ((cnt k j + _ : Nat) : Int) = _
      omega
    rw [he, ih, DevP.ok_dev hk]
    by_cases h1 : (0 : Int) ≤ (j : Int) - 1 ∧ (j : Int) - 1 < DevP.size k ∧ (0 : Int) = 0
    · rw [decide_eq_true h1]
      simp only [Bool.toNat_true]
      split <;> split <;> first | omega | (split <;> omega)
    · rw [decide_eq_false h1]
      simp only [Bool.toNat_false]
      split <;> split <;> first | omega | (split <;> omega)
theorem cnt_all {k : Int} (hk : 1 ≤ k ∧ k ≤ 10) : (cnt k 71 : Int) = DevP.size k := by
  have hs : 0 ≤ DevP.size k ∧ DevP.size k ≤ 64 := devSize_le k
  rw [cnt_dev hk hs.1]
  split
  · omega
  · split <;> omega
theorem devSize_i_in (k : Int) (hk : 1 ≤ k ∧ k ≤ 10) (w : World) : Calls Try.prog 21 #[.int .i64 k] w fun e w' => e = .returned (.int .i64 (DevP.size k)) ∧ w = w' := by
  have key : Calls Try.prog 21 #[.int .i64 k] w fun e w' => e = .returned (.int .i64 (DevP.size k)) ∧ w' = w := by
    have hk : k = 1 ∨ k = 2 ∨ k = 3 ∨ k = 4 ∨ k = 5 ∨ k = 6 ∨ k = 7 ∨ k = 8 ∨ k = 9 ∨ k = 10 := by omega
    rcases hk with rfl | rfl | rfl | rfl | rfl | rfl | rfl | rfl | rfl | rfl
    · exact devSize_i_1 w
    · exact devSize_i_2 w
    · exact devSize_i_3 w
    · exact devSize_i_4 w
    · exact devSize_i_5 w
    · exact devSize_i_6 w
    · exact devSize_i_7 w
    · exact devSize_i_8 w
    · exact devSize_i_9 w
    · exact devSize_i_10 w
  exact key.mono fun e w' ⟨he, hw⟩ => ⟨he, hw.symm⟩
set_option maxRecDepth 100000 in
theorem letter_1 (w : World) : Calls Try.prog 22 #[.int .i64 1] w fun e w' => ∃ s : ByteArray, e = .returned (.string s) ∧ s.size = 1 ∧ w = w' := by
  go_enter Try.func22, Try.ntmps22
  go_wp2
  go_ret
  exact ⟨_, rfl, rfl, rfl⟩
set_option maxRecDepth 100000 in
theorem letter_2 (w : World) : Calls Try.prog 22 #[.int .i64 2] w fun e w' => ∃ s : ByteArray, e = .returned (.string s) ∧ s.size = 1 ∧ w = w' := by
  go_enter Try.func22, Try.ntmps22
  go_wp2
  go_ret
  exact ⟨_, rfl, rfl, rfl⟩
set_option maxRecDepth 100000 in
theorem letter_3 (w : World) : Calls Try.prog 22 #[.int .i64 3] w fun e w' => ∃ s : ByteArray, e = .returned (.string s) ∧ s.size = 1 ∧ w = w' := by
  go_enter Try.func22, Try.ntmps22
  go_wp2
  go_ret
  exact ⟨_, rfl, rfl, rfl⟩
set_option maxRecDepth 100000 in
theorem letter_4 (w : World) : Calls Try.prog 22 #[.int .i64 4] w fun e w' => ∃ s : ByteArray, e = .returned (.string s) ∧ s.size = 1 ∧ w = w' := by
  go_enter Try.func22, Try.ntmps22
  go_wp2
  go_ret
  exact ⟨_, rfl, rfl, rfl⟩
set_option maxRecDepth 100000 in
theorem letter_5 (w : World) : Calls Try.prog 22 #[.int .i64 5] w fun e w' => ∃ s : ByteArray, e = .returned (.string s) ∧ s.size = 1 ∧ w = w' := by
  go_enter Try.func22, Try.ntmps22
  go_wp2
  go_ret
  exact ⟨_, rfl, rfl, rfl⟩
set_option maxRecDepth 100000 in
theorem letter_6 (w : World) : Calls Try.prog 22 #[.int .i64 6] w fun e w' => ∃ s : ByteArray, e = .returned (.string s) ∧ s.size = 1 ∧ w = w' := by
  go_enter Try.func22, Try.ntmps22
  go_wp2
  go_ret
  exact ⟨_, rfl, rfl, rfl⟩
set_option maxRecDepth 100000 in
theorem letter_7 (w : World) : Calls Try.prog 22 #[.int .i64 7] w fun e w' => ∃ s : ByteArray, e = .returned (.string s) ∧ s.size = 1 ∧ w = w' := by
  go_enter Try.func22, Try.ntmps22
  go_wp2
  go_ret
  exact ⟨_, rfl, rfl, rfl⟩
set_option maxRecDepth 100000 in
theorem letter_8 (w : World) : Calls Try.prog 22 #[.int .i64 8] w fun e w' => ∃ s : ByteArray, e = .returned (.string s) ∧ s.size = 1 ∧ w = w' := by
  go_enter Try.func22, Try.ntmps22
  go_wp2
  go_ret
  exact ⟨_, rfl, rfl, rfl⟩
set_option maxRecDepth 100000 in
theorem letter_9 (w : World) : Calls Try.prog 22 #[.int .i64 9] w fun e w' => ∃ s : ByteArray, e = .returned (.string s) ∧ s.size = 1 ∧ w = w' := by
  go_enter Try.func22, Try.ntmps22
  go_wp2
  go_ret
  exact ⟨_, rfl, rfl, rfl⟩
set_option maxRecDepth 100000 in
theorem letter_10 (w : World) : Calls Try.prog 22 #[.int .i64 10] w fun e w' => ∃ s : ByteArray, e = .returned (.string s) ∧ s.size = 1 ∧ w = w' := by
  go_enter Try.func22, Try.ntmps22
  go_wp2
  go_ret
  exact ⟨_, rfl, rfl, rfl⟩
theorem letter_in (k : Int) (hk : 1 ≤ k ∧ k ≤ 10) (w : World) : Calls Try.prog 22 #[.int .i64 k] w fun e w' => ∃ s : ByteArray, e = .returned (.string s) ∧ s.size = 1 ∧ w = w' := by
  have hk : k = 1 ∨ k = 2 ∨ k = 3 ∨ k = 4 ∨ k = 5 ∨ k = 6 ∨ k = 7 ∨ k = 8 ∨ k = 9 ∨ k = 10 := by omega
  rcases hk with rfl | rfl | rfl | rfl | rfl | rfl | rfl | rfl | rfl | rfl
  · exact letter_1 w
  · exact letter_2 w
  · exact letter_3 w
  · exact letter_4 w
  · exact letter_5 w
  · exact letter_6 w
  · exact letter_7 w
  · exact letter_8 w
  · exact letter_9 w
  · exact letter_10 w

/-- what kinds an operand is of, counted -/
theorem kinds_sum (k n p : Int) : (DevP.isBit k n p).toNat + (DevP.isWhole k n p).toNat + (DevP.isReal k n p).toNat = if DevP.ok k n p then (if k = 5 then 0 else if k = 7 ∨ k = 8 then 2 else 1) else 0 := by
  unfold DevP.isBit DevP.isWhole DevP.isReal
  cases hok : DevP.ok k n p
  · rfl
  · have hr := DevP.ok_range hok
    have hk : k = 1 ∨ k = 2 ∨ k = 3 ∨ k = 4 ∨ k = 5 ∨ k = 6 ∨ k = 7 ∨ k = 8 ∨ k = 9 ∨ k = 10 ∨ k = 11 ∨ k = 12 ∨ k = 13 := by omega
    rcases hk with rfl | rfl | rfl | rfl | rfl | rfl | rfl | rfl | rfl | rfl | rfl | rfl | rfl <;> rfl
set_option maxRecDepth 100000 in
set_option maxHeartbeats 4000000 in
theorem FnDevKinds_some (AA : Option Addr) (n0 cp : Nat) (w : World) (h : IsCode w AA n0 cp) (hn : n0 ≤ 1048576) : Calls Try.prog 5 #[.slice AA n0 cp] w fun e w' => e = .returned (.bool true) ∧ Below w.heap.size w w' := by
  have hd : decide ((1048576 : Int) < (n0 : Int)) = false := by simp; omega
  go_enter Try.func5, Try.ntmps5
  go_wp2_with fail
  refine (DrawDevOk_any AA n0 cp w h).mono ?_
  rintro e w1 ⟨k, n, p, rfl, hb1⟩
  have s1 := Box.new w1 #[.int .i64 k, .int .i64 n, .int .i64 p] 26
  have hB1 : Below w.heap.size w (w1.alloc (.cells #[.int .i64 k, .int .i64 n, .int .i64 p] 26)) := hb1.alloc hb1.size _
  have l1 := hb1.size
  clear hb1 h
  have hsum := kinds_sum k n p
  have hbi := fun w => devIsBit_i_any k n p w
  have hwi := fun w => devIsWhole_i_any k n p w
  have hri := fun w => devIsReal_i_any k n p w
  have hbs := fun w => devIsBit_s_any k n p w
  have hws := fun w => devIsWhole_s_any k n p w
  have hos := fun w => devOk_s_any k n p w
  generalize DevP.isBit k n p = b1 at hsum hbi hbs
  generalize DevP.isWhole k n p = b2 at hsum hwi hws
  generalize DevP.isReal k n p = b3 at hsum hri
  generalize DevP.ok k n p = ok at hsum hos
  have HS := Lib.hid hsum
  clear hsum
  go_wp2_with fail
  refine (hbi _).mono ?_
  rintro e w2 ⟨rfl, hb2⟩
  have s2 := s1.kept hb2
  have hB2 := bel_step hB1 hb2 hB1.size
  clear hb2 s1 hB1
  go_upto_if 14 with (fail)
  go_cut [4] (fun s4 wx => s4 = .int .i64 (b1.toNat : Int) ∧ w2 = wx)
  case first =>
    cases b1
    all_goals
      go_wp2
      go_meet
      exact ⟨rfl, rfl⟩
  case rest =>
    obtain ⟨rfl, rfl⟩ := hcut
    have c0 : w2.cell? ⟨w1.heap.size, 0, none⟩ = some (.int .i64 k) := s2.cell 0
    have c1 : w2.cell? ⟨w1.heap.size, 1, none⟩ = some (.int .i64 n) := s2.cell 1
    have c2 : w2.cell? ⟨w1.heap.size, 2, none⟩ = some (.int .i64 p) := s2.cell 2
    go_wp2_with fail
    refine (hwi _).mono ?_
    rintro e w3 ⟨rfl, hb3⟩
    have s3 := s2.kept hb3
    have hB3 := bel_step hB2 hb3 hB2.size
    clear hb3 s2 hB2 c0 c1 c2
    go_upto_if 18 with (fail)
    go_cut [4] (fun s4 wx => s4 = .int .i64 ((b1.toNat + b2.toNat : Nat) : Int) ∧ w3 = wx)
    case first =>
      cases b1 <;> cases b2
      all_goals
        go_wp2
        go_meet
        exact ⟨rfl, rfl⟩
    case rest =>
      obtain ⟨rfl, rfl⟩ := hcut
      have c0 : w3.cell? ⟨w1.heap.size, 0, none⟩ = some (.int .i64 k) := s3.cell 0
      have c1 : w3.cell? ⟨w1.heap.size, 1, none⟩ = some (.int .i64 n) := s3.cell 1
      have c2 : w3.cell? ⟨w1.heap.size, 2, none⟩ = some (.int .i64 p) := s3.cell 2
      go_wp2_with fail
      refine (hri _).mono ?_
      rintro e w4 ⟨rfl, hb4⟩
      have s4 := s3.kept hb4
      have hB4 := bel_step hB3 hb4 hB3.size
      clear hb4 s3 hB3 c0 c1 c2
      go_upto_if 22 with (fail)
      go_cut [4] (fun s4 wx => s4 = .int .i64 ((b1.toNat + b2.toNat + b3.toNat : Nat) : Int) ∧ w4 = wx)
      case first =>
        cases b1 <;> cases b2 <;> cases b3
        all_goals
          go_wp2
          go_meet
          exact ⟨rfl, rfl⟩
      case rest =>
        obtain ⟨rfl, rfl⟩ := hcut
        obtain ⟨N, hN⟩ : ∃ N, N = b1.toNat + b2.toNat + b3.toNat := ⟨_, rfl⟩
        have HN : Hid (N = if ok then (if k = 5 then 0 else if k = 7 ∨ k = 8 then 2 else 1) else 0) := by rw [hN]; exact HS
        rw [← hN]
        clear hN HS
        have c0 : w4.cell? ⟨w1.heap.size, 0, none⟩ = some (.int .i64 k) := s4.cell 0
        have c1 : w4.cell? ⟨w1.heap.size, 1, none⟩ = some (.int .i64 n) := s4.cell 1
        have c2 : w4.cell? ⟨w1.heap.size, 2, none⟩ = some (.int .i64 p) := s4.cell 2
        go_wp2_with fail
        refine (hos _).mono ?_
        rintro e w5 ⟨rfl, hb5⟩
        have s5 := s4.kept hb5
        have hB5 := bel_step hB4 hb5 hB4.size
        clear hb5 s4 hB4 c0 c1 c2
        have c0 : w5.cell? ⟨w1.heap.size, 0, none⟩ = some (.int .i64 k) := s5.cell 0
        have c1 : w5.cell? ⟨w1.heap.size, 1, none⟩ = some (.int .i64 n) := s5.cell 1
        have c2 : w5.cell? ⟨w1.heap.size, 2, none⟩ = some (.int .i64 p) := s5.cell 2
        go_upto_if 26 with (fail)
        go_cut [5] (fun s5 wx => s5 = .int .i64 (N : Int) ∧ w5 = wx)
        case first =>
          cases ok
          · obtain rfl : N = 0 := HN.out
            go_wp2
            go_meet
            exact ⟨rfl, rfl⟩
          · have HN2 : Hid (N = (if k = 5 then 0 else if k = 7 ∨ k = 8 then 2 else 1)) := HN
            clear HN
            by_cases k5 : k = 5
            · obtain rfl : N = 0 := by rw [HN2.out, if_pos k5]
              subst k5
              go_wp2
              go_meet
              exact ⟨rfl, rfl⟩
            by_cases k7 : k = 7
            · obtain rfl : N = 2 := by rw [HN2.out, if_neg k5, if_pos (.inl k7)]
              subst k7
              go_wp2
              go_meet
              exact ⟨rfl, rfl⟩
            by_cases k8 : k = 8
            · obtain rfl : N = 2 := by rw [HN2.out, if_neg k5, if_pos (.inr k8)]
              subst k8
              go_wp2
              go_meet
              exact ⟨rfl, rfl⟩
            · obtain rfl : N = 1 := by rw [HN2.out, if_neg k5, if_neg (by rintro (h | h); exact k7 h; exact k8 h)]
              have e5 : (k == 5) = false := by simpa using k5
              have e7 : (k == 7) = false := by simpa using k7
              have e8 : (k == 8) = false := by simpa using k8
              clear k5 k7 k8 HN2
              go_wp2
              go_meet
              exact ⟨rfl, rfl⟩
        case rest =>
          obtain ⟨rfl, rfl⟩ := hcut
          have hS : ∀ w', Below w5.heap.size w5 w' → w'.cell? ⟨w1.heap.size, 0, none⟩ = some (.int .i64 k) ∧ w'.cell? ⟨w1.heap.size, 1, none⟩ = some (.int .i64 n) ∧ w'.cell? ⟨w1.heap.size, 2, none⟩ = some (.int .i64 p) ∧ Below w5.heap.size w5 w' := fun w' hb =>
            ⟨(s5.kept hb).cell 0, (s5.kept hb).cell 1, (s5.kept hb).cell 2, hb⟩
          clear c0 c1 c2 hri hos HN
          go_wp2_with fail
          go_region_held3 (fun w' => w'.cell? ⟨w1.heap.size, 0, none⟩ = some (.int .i64 k) ∧ w'.cell? ⟨w1.heap.size, 1, none⟩ = some (.int .i64 n) ∧ w'.cell? ⟨w1.heap.size, 2, none⟩ = some (.int .i64 p) ∧ Below w5.heap.size w5 w')
            (first | exact hS _ (Below.refl _ _).drew | (obtain ⟨_, _, _, hq⟩ := (by assumption : _ ∧ _ ∧ _ ∧ Below w5.heap.size w5 _); exact hS _ (bel_step hq hbx hq.size)))
            (first | (go_at_call 15; (with_reducible refine (hbi _).mono ?_); rintro e w' ⟨rfl, hbx⟩) | (go_at_call 18; (with_reducible refine (hbs _).mono ?_); rintro e w' ⟨rfl, hbx⟩) | (go_at_call 16; (with_reducible refine (hwi _).mono ?_); rintro e w' ⟨rfl, hbx⟩) | (go_at_call 19; (with_reducible refine (hws _).mono ?_); rintro e w' ⟨rfl, hbx⟩))
          obtain ⟨_, _, _, hq⟩ := (by assumption : _ ∧ _ ∧ _ ∧ Below w5.heap.size w5 _)
          have s6 := s5.kept hq
          have hB6 := bel_step hB5 hq hB5.size
          clear hq s5 hB5 hS hbi hbs hwi hws
          have H6 := Lib.hid (And.intro s6 hB6)
          clear s6 hB6
          go_wp2_with fail
          go_loopw [6, 7] (fun c i wr => ∃ (j : Nat) (I : Int), j ≤ 71 ∧ I = (j : Int) - 1 ∧ i = .int .i64 I ∧ c = .int .i64 (cnt k j : Int) ∧ Box wr w1.heap.size #[.int .i64 k, .int .i64 n, .int .i64 p] 26 ∧ Below w.heap.size w wr) (fun _ i _ => (70 - intOf i).toNat)
          case atStart => exact ⟨0, -1, by omega, by omega, rfl, rfl, H6.out.1, H6.out.2⟩
          case round =>
            obtain ⟨j, I, hj, hI, rfl, rfl, hbox, hbel⟩ := hrel
            clear H6
            have hcl := cnt_le k j
            have hcs : cnt k (j + 1) = cnt k j + (DevP.ok k ((j : Int) - 1) 0).toNat := rfl
            rw [← hI] at hcs
            obtain ⟨C, hC⟩ : ∃ C, C = cnt k j := ⟨_, rfl⟩
            have HCS : Hid (cnt k (j + 1) = C + (DevP.ok k I 0).toNat) := by rw [hC]; exact Lib.hid hcs
            rw [← hC] at hcl ⊢
            have HC := Lib.hid hC
            have i0 : -1 ≤ I := by omega
            have i1 : I ≤ 70 := by omega
            have HI := Lib.hid hI
            clear hcs hC
            by_cases hlt : j < 71
            · have d1 : I < 70 := by omega
              have hj71 : j + 1 ≤ 71 := by omega
              have hC71 : C ≤ 71 := by omega
              clear hI hj hcl
              have c0 : wr.cell? ⟨w1.heap.size, 0, none⟩ = some (.int .i64 k) := hbox.cell 0
              have c1 : wr.cell? ⟨w1.heap.size, 1, none⟩ = some (.int .i64 n) := hbox.cell 1
              have c2 : wr.cell? ⟨w1.heap.size, 2, none⟩ = some (.int .i64 p) := hbox.cell 2
              go_wp2_with fail
              refine (devOk_i_any k I 0 _).mono ?_
              rintro e w7 ⟨rfl, hb7⟩
              have s7 := hbox.kept hb7
              have hB7 := bel_step hbel hb7 hbel.size
              have H7 := Lib.hid (And.intro s7 hB7)
              clear hb7 hbox hbel s7 hB7 c0 c1 c2
              cases hok : DevP.ok k I 0
              case false =>
                have HF : Hid (cnt k (j + 1) = C) := by rw [hok] at HCS; exact HCS
                clear hok HCS
                go_wp2
                go_roundw
                case rel => exact ⟨j + 1, I + 1, hj71, by have := HI.out; omega, rfl, by rw [HF.out], H7.out.1, H7.out.2⟩
                case measure => simp [intOf]; omega
              case true =>
                have HF : Hid (cnt k (j + 1) = C + 1) := by rw [hok] at HCS; exact HCS
                clear hok HCS
                go_wp2
                go_roundw
                case rel => exact ⟨j + 1, I + 1, hj71, by have := HI.out; omega, rfl, by rw [HF.out]; go_num, H7.out.1, H7.out.2⟩
                case measure => simp [intOf]; omega
            · obtain rfl : j = 71 := by omega
              obtain rfl : I = 70 := by omega
              have hC71 : C ≤ 71 := by omega
              clear hI hj hcl hlt i0 i1 HI HCS
              have c0 : wr.cell? ⟨w1.heap.size, 0, none⟩ = some (.int .i64 k) := hbox.cell 0
              have c1 : wr.cell? ⟨w1.heap.size, 1, none⟩ = some (.int .i64 n) := hbox.cell 1
              have c2 : wr.cell? ⟨w1.heap.size, 2, none⟩ = some (.int .i64 p) := hbox.cell 2
              by_cases hk1 : k < 1
              · clear hbox
                go_wp2
                go_ret
                exact ⟨rfl, hbel⟩
              by_cases hk2 : 10 < k
              · have q1 : decide (k < 1) = false := by simp; omega
                clear hbox hk1
                go_wp2
                go_ret
                exact ⟨rfl, hbel⟩
              · have q1 : decide (k < 1) = false := by simp; omega
                have q2 : decide ((10 : Int) < k) = false := by simp; omega
                have hk : 1 ≤ k ∧ k ≤ 10 := by omega
                have hCz : (C : Int) = DevP.size k := by rw [HC.out]; exact cnt_all hk
                have hsz := devSize_i_in k hk
                have hle := letter_in k hk
                rw [← hCz] at hsz
                clear hbox hk1 hk2 hk hCz HC
                go_wp2_with fail
                refine (hsz _).mono ?_
                rintro e w8 ⟨rfl, rfl⟩
                go_wp2_with fail
                refine (hle _).mono ?_
                rintro e w8 ⟨s, rfl, hs1, rfl⟩
                clear hsz hle
                go_wp2
                go_ret
                exact ⟨rfl, hbel⟩
theorem FnDevKinds_great (AA : Option Addr) (n c : Nat) (hn : 1048576 < n) (w : World) : Calls Try.prog 5 #[.slice AA n c] w fun e w' => e = .returned (.bool true) ∧ Below w.heap.size w w' := by
  have hd : decide ((1048576 : Int) < (n : Int)) = true := by simp; omega
  go_enter Try.func5, Try.ntmps5
  go_wp2
  go_ret
  exact ⟨rfl, Below.refl _ _⟩
theorem FnDevKinds_walk (a0 : Option Addr) (len0 cap0 : Nat) (z0 : List Int) (w : World) (w0 : IsRow .u8 w a0 len0 cap0 z0) : Calls Try.prog 5 #[.slice a0 len0 cap0] w fun e w' => e = .returned (.bool true) ∧ Below w.heap.size w w' := by
  by_cases hn : len0 ≤ 1048576
  · exact FnDevKinds_some a0 len0 cap0 w (isCode_of w0) hn
  · exact FnDevKinds_great a0 len0 cap0 (by omega) w
end Go.Proofs.Ytikcabmohlaanaa
