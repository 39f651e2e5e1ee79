/- The walks of FnFlip and FnSwap: each law returns true and changes nothing that was there. -/
import Derived.Test.YtmbmdemoghdggaaRows
import Derived.Test.YtmbmdemoghdggaaWalk6
import Derived.WalkKit
import Derived.WalkSpells
import Derived.WalkLawsBesides
import Derived.OpenShut
namespace Go.Proofs.Ytmbmdemoghdggaa
open Go.RowKit Rdr
set_option linter.unusedVariables false

theorem isCode_below {w w' : World} {a : Option Addr} {n c : Nat} (h : IsCode w a n c) (hb : Below w.heap.size w w') : IsCode w' a n c := by
  rcases h with h | ⟨b, off, e, hc, hlt, hcell⟩
  · exact .inl h
  · refine .inr ⟨b, off, e, hc, Nat.lt_of_lt_of_le hlt hb.size, fun i hi => ?_⟩
    obtain ⟨u, hu, h1⟩ := hcell i hi
    exact ⟨u, hu, (hb.cell (p := ⟨b, off + i, none⟩) hlt).trans h1⟩
theorem wf_1 (a b : Int) : (decide (a < b) == decide (b ≤ a)) = false := by
  by_cases h : a < b
  · have h2 : ¬ b ≤ a := by omega
    simp [h, h2]
  · have h2 : b ≤ a := by omega
    simp [h, h2]
theorem wf_2 (a b : Int) : (decide (a ≤ b) == decide (b < a)) = false := by
  by_cases h : a ≤ b
  · have h2 : ¬ b < a := by omega
    simp [h, h2]
  · have h2 : b < a := by omega
    simp [h, h2]
theorem wf_3 (a b : Int) : ((a == b) == (a != b)) = false := by
  unfold bne
  cases (a == b) <;> rfl
theorem wf_4 (a b : Int) : ((a != b) == (a == b)) = false := by
  unfold bne
  cases (a == b) <;> rfl
theorem wf_5 (a b : Int) : (decide (b ≤ a) == decide (a < b)) = false := by
  by_cases h : b ≤ a
  · have h2 : ¬ a < b := by omega
    simp [h, h2]
  · have h2 : a < b := by omega
    simp [h, h2]
theorem wf_6 (a b : Int) : (decide (b < a) == decide (a ≤ b)) = false := by
  by_cases h : b < a
  · have h2 : ¬ a ≤ b := by omega
    simp [h, h2]
  · have h2 : a ≤ b := by omega
    simp [h, h2]
theorem ws_3 (a b : Int) : (b == a) = (a == b) := by
  by_cases h : a = b
  · subst h; rfl
  · have h2 : ¬ b = a := fun e => h e.symm
    rw [beq_eq_false_iff_ne.2 h, beq_eq_false_iff_ne.2 h2]
theorem ws_4 (a b : Int) : (b != a) = (a != b) := by unfold bne; rw [ws_3]
open Fl in
theorem FnFlip_cases (x y : Nat) : (FloatKind.f64.format.order x x = some .eq ∧ FloatKind.f64.format.order y y = some .eq ∧ FloatKind.f64.format.order x y = some .lt) ∨ (FloatKind.f64.format.order x x = some .eq ∧ FloatKind.f64.format.order y y = some .eq ∧ FloatKind.f64.format.order x y = some .eq) ∨ (FloatKind.f64.format.order x x = some .eq ∧ FloatKind.f64.format.order y y = some .eq ∧ FloatKind.f64.format.order x y = some .gt) ∨ (FloatKind.f64.format.order x x = none ∧ FloatKind.f64.format.order x y = none) ∨ (FloatKind.f64.format.order x x = some .eq ∧ FloatKind.f64.format.order y y = none ∧ FloatKind.f64.format.order x y = none) := by
  by_cases hx : isNaN x
  · exact .inr (.inr (.inr (.inl ⟨ord_nan_l hx _, ord_nan_l hx _⟩)))
  · by_cases hy : isNaN y
    · exact .inr (.inr (.inr (.inr ⟨ord_self hx, ord_nan_l hy _, ord_nan_r hy _⟩)))
    · have h : FloatKind.f64.format.order x y = some (compare (units x) (units y)) := order_eq hx hy
      rcases hc : compare (units x) (units y) with _ | _ | _
      · exact .inl ⟨ord_self hx, ord_self hy, by rw [h, hc]⟩
      · exact .inr (.inl ⟨ord_self hx, ord_self hy, by rw [h, hc]⟩)
      · exact .inr (.inr (.inl ⟨ord_self hx, ord_self hy, by rw [h, hc]⟩))
open Fl in
theorem FnSwap_cases (x y : Nat) : (FloatKind.f64.format.order x y = some .lt ∧ FloatKind.f64.format.order y x = some .gt) ∨ (FloatKind.f64.format.order x y = some .eq ∧ FloatKind.f64.format.order y x = some .eq) ∨ (FloatKind.f64.format.order x y = some .gt ∧ FloatKind.f64.format.order y x = some .lt) ∨ (FloatKind.f64.format.order x y = none ∧ FloatKind.f64.format.order y x = none) := by
  by_cases hx : isNaN x
  · exact .inr (.inr (.inr ⟨ord_nan_l hx _, ord_nan_r hx _⟩))
  · by_cases hy : isNaN y
    · exact .inr (.inr (.inr ⟨ord_nan_r hy _, ord_nan_l hy _⟩))
    · have h : FloatKind.f64.format.order x y = some (compare (units x) (units y)) := order_eq hx hy
      have h2 : FloatKind.f64.format.order y x = some (compare (units y) (units x)) := order_eq hy hx
      rw [h, h2, cmp_cases, cmp_cases]
      by_cases a : units x < units y
      · have b : ¬ units y < units x := by omega
        have d : ¬ units y = units x := by omega
        exact .inl ⟨by rw [if_pos a], by rw [if_neg b, if_neg d]⟩
      · by_cases b : units x = units y
        · have d : ¬ units y < units x := by omega
          exact .inr (.inl ⟨by rw [if_neg a, if_pos b], by rw [if_neg d, if_pos b.symm]⟩)
        · have d : units y < units x := by omega
          exact .inr (.inr (.inl ⟨by rw [if_neg a, if_neg b], by rw [if_pos d]⟩))
set_option maxRecDepth 100000 in
set_option maxHeartbeats 4000000 in
theorem FnFlip_some (aa : Option Addr) (n c : Nat) (w : World) (h : IsCode w aa n c) (hn : n ≤ 1048576) : Calls Try.prog 13 #[.slice aa n c] w fun e w' => e = .returned (.bool true) ∧ Below w.heap.size w w' := by
  have hd : decide ((1048576 : Int) < (n : Int)) = false := by simp; omega
  go_enter Try.func13, Try.ntmps13
  go_wp2_with fail
  refine (drawWholeCmp_any aa n c w h).mono ?_
  rintro e w1 ⟨o1, a, b, rfl, ha0, hb0, hB1⟩
  go_wp2_with fail
  refine (drawRealCmp_any aa n c w1 (isCode_below h hB1)).mono ?_
  rintro e w2 ⟨o2, x, y, rfl, hx, hy, hB2⟩
  have ha : a.natAbs ≤ 9007199254740992 := by omega
  have hb : b.natAbs ≤ 9007199254740992 := by omega
  have hB0 : Below w.heap.size w w2 := hB1.trans (hB2.mono hB1.size)
  have t1 := wf_1 a b
  have t2 := wf_2 a b
  have t3 := wf_3 a b
  have t4 := wf_4 a b
  have t5 := wf_5 a b
  have t6 := wf_6 a b
  clear h hB1 hB2 ha0 hb0 hx hy
  rcases FnFlip_cases x y with ⟨e1, e2, e3⟩ | ⟨e1, e2, e3⟩ | ⟨e1, e2, e3⟩ | ⟨e1, e2⟩ | ⟨e1, e2, e3⟩
  · go_wp2_with fail
    go_loopw [9] (fun i wr => ∃ k : Nat, 1 ≤ k ∧ k ≤ 7 ∧ i = .int .i64 k ∧ Below w.heap.size w wr) (fun i _ => 7 - (intOf i).toNat)
    case atStart => exact ⟨1, by omega, by omega, rfl, hB0⟩
    case round =>
      obtain ⟨k, hk1, hk7, rfl, hB⟩ := hrel
      clear hB0
      have hk : k = 1 ∨ k = 2 ∨ k = 3 ∨ k = 4 ∨ k = 5 ∨ k = 6 ∨ k = 7 := by omega
      clear hk1 hk7
      rcases hk with rfl | rfl | rfl | rfl | rfl | rfl | rfl
      · -- test 1
        go_wp2_with fail
        refine (CmpFlip_i1 _).mono ?_
        rintro e w' ⟨rfl, rfl⟩
        go_wp2_with fail
        refine (CmpFlip_s1 _).mono ?_
        rintro e w3 ⟨rfl, hB3⟩
        have hB4 := hB.trans (hB3.mono hB.size)
        clear hB hB3
        go_wp2_with fail
        refine (wcmp_1 a b ha hb _).mono ?_
        rintro e w' ⟨rfl, rfl⟩
        go_wp2_with fail
        refine (CmpFlip_i1 _).mono ?_
        rintro e w' ⟨rfl, rfl⟩
        go_wp2_with fail
        refine (wcmp_5 a b ha hb _).mono ?_
        rintro e w' ⟨rfl, rfl⟩
        go_wp2_with fail
        refine (rcmp_1 x y _).mono ?_
        rintro e w' ⟨rfl, rfl⟩
        go_wp2_with fail
        refine (CmpFlip_i1 _).mono ?_
        rintro e w' ⟨rfl, rfl⟩
        go_wp2_with fail
        refine (rcmp_5 x y _).mono ?_
        rintro e w' ⟨rfl, rfl⟩
        go_wp2_with fail
        go_wp2
        go_roundw
        case rel => exact ⟨2, by omega, by omega, rfl, hB4⟩
        case measure => simp [intOf]
      · -- test 2
        go_wp2_with fail
        refine (CmpFlip_i2 _).mono ?_
        rintro e w' ⟨rfl, rfl⟩
        go_wp2_with fail
        refine (CmpFlip_s2 _).mono ?_
        rintro e w3 ⟨rfl, hB3⟩
        have hB4 := hB.trans (hB3.mono hB.size)
        clear hB hB3
        go_wp2_with fail
        refine (wcmp_2 a b ha hb _).mono ?_
        rintro e w' ⟨rfl, rfl⟩
        go_wp2_with fail
        refine (CmpFlip_i2 _).mono ?_
        rintro e w' ⟨rfl, rfl⟩
        go_wp2_with fail
        refine (wcmp_6 a b ha hb _).mono ?_
        rintro e w' ⟨rfl, rfl⟩
        go_wp2_with fail
        refine (rcmp_2 x y _).mono ?_
        rintro e w' ⟨rfl, rfl⟩
        go_wp2_with fail
        refine (CmpFlip_i2 _).mono ?_
        rintro e w' ⟨rfl, rfl⟩
        go_wp2_with fail
        refine (rcmp_6 x y _).mono ?_
        rintro e w' ⟨rfl, rfl⟩
        go_wp2_with fail
        go_wp2
        go_roundw
        case rel => exact ⟨3, by omega, by omega, rfl, hB4⟩
        case measure => simp [intOf]
      · -- test 3
        go_wp2_with fail
        refine (CmpFlip_i3 _).mono ?_
        rintro e w' ⟨rfl, rfl⟩
        go_wp2_with fail
        refine (CmpFlip_s3 _).mono ?_
        rintro e w3 ⟨rfl, hB3⟩
        have hB4 := hB.trans (hB3.mono hB.size)
        clear hB hB3
        go_wp2_with fail
        refine (wcmp_3 a b ha hb _).mono ?_
        rintro e w' ⟨rfl, rfl⟩
        go_wp2_with fail
        refine (CmpFlip_i3 _).mono ?_
        rintro e w' ⟨rfl, rfl⟩
        go_wp2_with fail
        refine (wcmp_4 a b ha hb _).mono ?_
        rintro e w' ⟨rfl, rfl⟩
        go_wp2_with fail
        refine (rcmp_3 x y _).mono ?_
        rintro e w' ⟨rfl, rfl⟩
        go_wp2_with fail
        refine (CmpFlip_i3 _).mono ?_
        rintro e w' ⟨rfl, rfl⟩
        go_wp2_with fail
        refine (rcmp_4 x y _).mono ?_
        rintro e w' ⟨rfl, rfl⟩
        go_wp2_with fail
        go_wp2
        go_roundw
        case rel => exact ⟨4, by omega, by omega, rfl, hB4⟩
        case measure => simp [intOf]
      · -- test 4
        go_wp2_with fail
        refine (CmpFlip_i4 _).mono ?_
        rintro e w' ⟨rfl, rfl⟩
        go_wp2_with fail
        refine (CmpFlip_s4 _).mono ?_
        rintro e w3 ⟨rfl, hB3⟩
        have hB4 := hB.trans (hB3.mono hB.size)
        clear hB hB3
        go_wp2_with fail
        refine (wcmp_4 a b ha hb _).mono ?_
        rintro e w' ⟨rfl, rfl⟩
        go_wp2_with fail
        refine (CmpFlip_i4 _).mono ?_
        rintro e w' ⟨rfl, rfl⟩
        go_wp2_with fail
        refine (wcmp_3 a b ha hb _).mono ?_
        rintro e w' ⟨rfl, rfl⟩
        go_wp2_with fail
        refine (rcmp_4 x y _).mono ?_
        rintro e w' ⟨rfl, rfl⟩
        go_wp2_with fail
        refine (CmpFlip_i4 _).mono ?_
        rintro e w' ⟨rfl, rfl⟩
        go_wp2_with fail
        refine (rcmp_3 x y _).mono ?_
        rintro e w' ⟨rfl, rfl⟩
        go_wp2_with fail
        go_wp2
        go_roundw
        case rel => exact ⟨5, by omega, by omega, rfl, hB4⟩
        case measure => simp [intOf]
      · -- test 5
        go_wp2_with fail
        refine (CmpFlip_i5 _).mono ?_
        rintro e w' ⟨rfl, rfl⟩
        go_wp2_with fail
        refine (CmpFlip_s5 _).mono ?_
        rintro e w3 ⟨rfl, hB3⟩
        have hB4 := hB.trans (hB3.mono hB.size)
        clear hB hB3
        go_wp2_with fail
        refine (wcmp_5 a b ha hb _).mono ?_
        rintro e w' ⟨rfl, rfl⟩
        go_wp2_with fail
        refine (CmpFlip_i5 _).mono ?_
        rintro e w' ⟨rfl, rfl⟩
        go_wp2_with fail
        refine (wcmp_1 a b ha hb _).mono ?_
        rintro e w' ⟨rfl, rfl⟩
        go_wp2_with fail
        refine (rcmp_5 x y _).mono ?_
        rintro e w' ⟨rfl, rfl⟩
        go_wp2_with fail
        refine (CmpFlip_i5 _).mono ?_
        rintro e w' ⟨rfl, rfl⟩
        go_wp2_with fail
        refine (rcmp_1 x y _).mono ?_
        rintro e w' ⟨rfl, rfl⟩
        go_wp2_with fail
        go_wp2
        go_roundw
        case rel => exact ⟨6, by omega, by omega, rfl, hB4⟩
        case measure => simp [intOf]
      · -- test 6
        go_wp2_with fail
        refine (CmpFlip_i6 _).mono ?_
        rintro e w' ⟨rfl, rfl⟩
        go_wp2_with fail
        refine (CmpFlip_s6 _).mono ?_
        rintro e w3 ⟨rfl, hB3⟩
        have hB4 := hB.trans (hB3.mono hB.size)
        clear hB hB3
        go_wp2_with fail
        refine (wcmp_6 a b ha hb _).mono ?_
        rintro e w' ⟨rfl, rfl⟩
        go_wp2_with fail
        refine (CmpFlip_i6 _).mono ?_
        rintro e w' ⟨rfl, rfl⟩
        go_wp2_with fail
        refine (wcmp_2 a b ha hb _).mono ?_
        rintro e w' ⟨rfl, rfl⟩
        go_wp2_with fail
        refine (rcmp_6 x y _).mono ?_
        rintro e w' ⟨rfl, rfl⟩
        go_wp2_with fail
        refine (CmpFlip_i6 _).mono ?_
        rintro e w' ⟨rfl, rfl⟩
        go_wp2_with fail
        refine (rcmp_2 x y _).mono ?_
        rintro e w' ⟨rfl, rfl⟩
        go_wp2_with fail
        go_wp2
        go_roundw
        case rel => exact ⟨7, by omega, by omega, rfl, hB4⟩
        case measure => simp [intOf]
      · go_wp2
        go_ret
        exact ⟨rfl, hB⟩
  · go_wp2_with fail
    go_loopw [9] (fun i wr => ∃ k : Nat, 1 ≤ k ∧ k ≤ 7 ∧ i = .int .i64 k ∧ Below w.heap.size w wr) (fun i _ => 7 - (intOf i).toNat)
    case atStart => exact ⟨1, by omega, by omega, rfl, hB0⟩
    case round =>
      obtain ⟨k, hk1, hk7, rfl, hB⟩ := hrel
      clear hB0
      have hk : k = 1 ∨ k = 2 ∨ k = 3 ∨ k = 4 ∨ k = 5 ∨ k = 6 ∨ k = 7 := by omega
      clear hk1 hk7
      rcases hk with rfl | rfl | rfl | rfl | rfl | rfl | rfl
      · -- test 1
        go_wp2_with fail
        refine (CmpFlip_i1 _).mono ?_
        rintro e w' ⟨rfl, rfl⟩
        go_wp2_with fail
        refine (CmpFlip_s1 _).mono ?_
        rintro e w3 ⟨rfl, hB3⟩
        have hB4 := hB.trans (hB3.mono hB.size)
        clear hB hB3
        go_wp2_with fail
        refine (wcmp_1 a b ha hb _).mono ?_
        rintro e w' ⟨rfl, rfl⟩
        go_wp2_with fail
        refine (CmpFlip_i1 _).mono ?_
        rintro e w' ⟨rfl, rfl⟩
        go_wp2_with fail
        refine (wcmp_5 a b ha hb _).mono ?_
        rintro e w' ⟨rfl, rfl⟩
        go_wp2_with fail
        refine (rcmp_1 x y _).mono ?_
        rintro e w' ⟨rfl, rfl⟩
        go_wp2_with fail
        refine (CmpFlip_i1 _).mono ?_
        rintro e w' ⟨rfl, rfl⟩
        go_wp2_with fail
        refine (rcmp_5 x y _).mono ?_
        rintro e w' ⟨rfl, rfl⟩
        go_wp2_with fail
        go_wp2
        go_roundw
        case rel => exact ⟨2, by omega, by omega, rfl, hB4⟩
        case measure => simp [intOf]
      · -- test 2
        go_wp2_with fail
        refine (CmpFlip_i2 _).mono ?_
        rintro e w' ⟨rfl, rfl⟩
        go_wp2_with fail
        refine (CmpFlip_s2 _).mono ?_
        rintro e w3 ⟨rfl, hB3⟩
        have hB4 := hB.trans (hB3.mono hB.size)
        clear hB hB3
        go_wp2_with fail
        refine (wcmp_2 a b ha hb _).mono ?_
        rintro e w' ⟨rfl, rfl⟩
        go_wp2_with fail
        refine (CmpFlip_i2 _).mono ?_
        rintro e w' ⟨rfl, rfl⟩
        go_wp2_with fail
        refine (wcmp_6 a b ha hb _).mono ?_
        rintro e w' ⟨rfl, rfl⟩
        go_wp2_with fail
        refine (rcmp_2 x y _).mono ?_
        rintro e w' ⟨rfl, rfl⟩
        go_wp2_with fail
        refine (CmpFlip_i2 _).mono ?_
        rintro e w' ⟨rfl, rfl⟩
        go_wp2_with fail
        refine (rcmp_6 x y _).mono ?_
        rintro e w' ⟨rfl, rfl⟩
        go_wp2_with fail
        go_wp2
        go_roundw
        case rel => exact ⟨3, by omega, by omega, rfl, hB4⟩
        case measure => simp [intOf]
      · -- test 3
        go_wp2_with fail
        refine (CmpFlip_i3 _).mono ?_
        rintro e w' ⟨rfl, rfl⟩
        go_wp2_with fail
        refine (CmpFlip_s3 _).mono ?_
        rintro e w3 ⟨rfl, hB3⟩
        have hB4 := hB.trans (hB3.mono hB.size)
        clear hB hB3
        go_wp2_with fail
        refine (wcmp_3 a b ha hb _).mono ?_
        rintro e w' ⟨rfl, rfl⟩
        go_wp2_with fail
        refine (CmpFlip_i3 _).mono ?_
        rintro e w' ⟨rfl, rfl⟩
        go_wp2_with fail
        refine (wcmp_4 a b ha hb _).mono ?_
        rintro e w' ⟨rfl, rfl⟩
        go_wp2_with fail
        refine (rcmp_3 x y _).mono ?_
        rintro e w' ⟨rfl, rfl⟩
        go_wp2_with fail
        refine (CmpFlip_i3 _).mono ?_
        rintro e w' ⟨rfl, rfl⟩
        go_wp2_with fail
        refine (rcmp_4 x y _).mono ?_
        rintro e w' ⟨rfl, rfl⟩
        go_wp2_with fail
        go_wp2
        go_roundw
        case rel => exact ⟨4, by omega, by omega, rfl, hB4⟩
        case measure => simp [intOf]
      · -- test 4
        go_wp2_with fail
        refine (CmpFlip_i4 _).mono ?_
        rintro e w' ⟨rfl, rfl⟩
        go_wp2_with fail
        refine (CmpFlip_s4 _).mono ?_
        rintro e w3 ⟨rfl, hB3⟩
        have hB4 := hB.trans (hB3.mono hB.size)
        clear hB hB3
        go_wp2_with fail
        refine (wcmp_4 a b ha hb _).mono ?_
        rintro e w' ⟨rfl, rfl⟩
        go_wp2_with fail
        refine (CmpFlip_i4 _).mono ?_
        rintro e w' ⟨rfl, rfl⟩
        go_wp2_with fail
        refine (wcmp_3 a b ha hb _).mono ?_
        rintro e w' ⟨rfl, rfl⟩
        go_wp2_with fail
        refine (rcmp_4 x y _).mono ?_
        rintro e w' ⟨rfl, rfl⟩
        go_wp2_with fail
        refine (CmpFlip_i4 _).mono ?_
        rintro e w' ⟨rfl, rfl⟩
        go_wp2_with fail
        refine (rcmp_3 x y _).mono ?_
        rintro e w' ⟨rfl, rfl⟩
        go_wp2_with fail
        go_wp2
        go_roundw
        case rel => exact ⟨5, by omega, by omega, rfl, hB4⟩
        case measure => simp [intOf]
      · -- test 5
        go_wp2_with fail
        refine (CmpFlip_i5 _).mono ?_
        rintro e w' ⟨rfl, rfl⟩
        go_wp2_with fail
        refine (CmpFlip_s5 _).mono ?_
        rintro e w3 ⟨rfl, hB3⟩
        have hB4 := hB.trans (hB3.mono hB.size)
        clear hB hB3
        go_wp2_with fail
        refine (wcmp_5 a b ha hb _).mono ?_
        rintro e w' ⟨rfl, rfl⟩
        go_wp2_with fail
        refine (CmpFlip_i5 _).mono ?_
        rintro e w' ⟨rfl, rfl⟩
        go_wp2_with fail
        refine (wcmp_1 a b ha hb _).mono ?_
        rintro e w' ⟨rfl, rfl⟩
        go_wp2_with fail
        refine (rcmp_5 x y _).mono ?_
        rintro e w' ⟨rfl, rfl⟩
        go_wp2_with fail
        refine (CmpFlip_i5 _).mono ?_
        rintro e w' ⟨rfl, rfl⟩
        go_wp2_with fail
        refine (rcmp_1 x y _).mono ?_
        rintro e w' ⟨rfl, rfl⟩
        go_wp2_with fail
        go_wp2
        go_roundw
        case rel => exact ⟨6, by omega, by omega, rfl, hB4⟩
        case measure => simp [intOf]
      · -- test 6
        go_wp2_with fail
        refine (CmpFlip_i6 _).mono ?_
        rintro e w' ⟨rfl, rfl⟩
        go_wp2_with fail
        refine (CmpFlip_s6 _).mono ?_
        rintro e w3 ⟨rfl, hB3⟩
        have hB4 := hB.trans (hB3.mono hB.size)
        clear hB hB3
        go_wp2_with fail
        refine (wcmp_6 a b ha hb _).mono ?_
        rintro e w' ⟨rfl, rfl⟩
        go_wp2_with fail
        refine (CmpFlip_i6 _).mono ?_
        rintro e w' ⟨rfl, rfl⟩
        go_wp2_with fail
        refine (wcmp_2 a b ha hb _).mono ?_
        rintro e w' ⟨rfl, rfl⟩
        go_wp2_with fail
        refine (rcmp_6 x y _).mono ?_
        rintro e w' ⟨rfl, rfl⟩
        go_wp2_with fail
        refine (CmpFlip_i6 _).mono ?_
        rintro e w' ⟨rfl, rfl⟩
        go_wp2_with fail
        refine (rcmp_2 x y _).mono ?_
        rintro e w' ⟨rfl, rfl⟩
        go_wp2_with fail
        go_wp2
        go_roundw
        case rel => exact ⟨7, by omega, by omega, rfl, hB4⟩
        case measure => simp [intOf]
      · go_wp2
        go_ret
        exact ⟨rfl, hB⟩
  · go_wp2_with fail
    go_loopw [9] (fun i wr => ∃ k : Nat, 1 ≤ k ∧ k ≤ 7 ∧ i = .int .i64 k ∧ Below w.heap.size w wr) (fun i _ => 7 - (intOf i).toNat)
    case atStart => exact ⟨1, by omega, by omega, rfl, hB0⟩
    case round =>
      obtain ⟨k, hk1, hk7, rfl, hB⟩ := hrel
      clear hB0
      have hk : k = 1 ∨ k = 2 ∨ k = 3 ∨ k = 4 ∨ k = 5 ∨ k = 6 ∨ k = 7 := by omega
      clear hk1 hk7
      rcases hk with rfl | rfl | rfl | rfl | rfl | rfl | rfl
      · -- test 1
        go_wp2_with fail
        refine (CmpFlip_i1 _).mono ?_
        rintro e w' ⟨rfl, rfl⟩
        go_wp2_with fail
        refine (CmpFlip_s1 _).mono ?_
        rintro e w3 ⟨rfl, hB3⟩
        have hB4 := hB.trans (hB3.mono hB.size)
        clear hB hB3
        go_wp2_with fail
        refine (wcmp_1 a b ha hb _).mono ?_
        rintro e w' ⟨rfl, rfl⟩
        go_wp2_with fail
        refine (CmpFlip_i1 _).mono ?_
        rintro e w' ⟨rfl, rfl⟩
        go_wp2_with fail
        refine (wcmp_5 a b ha hb _).mono ?_
        rintro e w' ⟨rfl, rfl⟩
        go_wp2_with fail
        refine (rcmp_1 x y _).mono ?_
        rintro e w' ⟨rfl, rfl⟩
        go_wp2_with fail
        refine (CmpFlip_i1 _).mono ?_
        rintro e w' ⟨rfl, rfl⟩
        go_wp2_with fail
        refine (rcmp_5 x y _).mono ?_
        rintro e w' ⟨rfl, rfl⟩
        go_wp2_with fail
        go_wp2
        go_roundw
        case rel => exact ⟨2, by omega, by omega, rfl, hB4⟩
        case measure => simp [intOf]
      · -- test 2
        go_wp2_with fail
        refine (CmpFlip_i2 _).mono ?_
        rintro e w' ⟨rfl, rfl⟩
        go_wp2_with fail
        refine (CmpFlip_s2 _).mono ?_
        rintro e w3 ⟨rfl, hB3⟩
        have hB4 := hB.trans (hB3.mono hB.size)
        clear hB hB3
        go_wp2_with fail
        refine (wcmp_2 a b ha hb _).mono ?_
        rintro e w' ⟨rfl, rfl⟩
        go_wp2_with fail
        refine (CmpFlip_i2 _).mono ?_
        rintro e w' ⟨rfl, rfl⟩
        go_wp2_with fail
        refine (wcmp_6 a b ha hb _).mono ?_
        rintro e w' ⟨rfl, rfl⟩
        go_wp2_with fail
        refine (rcmp_2 x y _).mono ?_
        rintro e w' ⟨rfl, rfl⟩
        go_wp2_with fail
        refine (CmpFlip_i2 _).mono ?_
        rintro e w' ⟨rfl, rfl⟩
        go_wp2_with fail
        refine (rcmp_6 x y _).mono ?_
        rintro e w' ⟨rfl, rfl⟩
        go_wp2_with fail
        go_wp2
        go_roundw
        case rel => exact ⟨3, by omega, by omega, rfl, hB4⟩
        case measure => simp [intOf]
      · -- test 3
        go_wp2_with fail
        refine (CmpFlip_i3 _).mono ?_
        rintro e w' ⟨rfl, rfl⟩
        go_wp2_with fail
        refine (CmpFlip_s3 _).mono ?_
        rintro e w3 ⟨rfl, hB3⟩
        have hB4 := hB.trans (hB3.mono hB.size)
        clear hB hB3
        go_wp2_with fail
        refine (wcmp_3 a b ha hb _).mono ?_
        rintro e w' ⟨rfl, rfl⟩
        go_wp2_with fail
        refine (CmpFlip_i3 _).mono ?_
        rintro e w' ⟨rfl, rfl⟩
        go_wp2_with fail
        refine (wcmp_4 a b ha hb _).mono ?_
        rintro e w' ⟨rfl, rfl⟩
        go_wp2_with fail
        refine (rcmp_3 x y _).mono ?_
        rintro e w' ⟨rfl, rfl⟩
        go_wp2_with fail
        refine (CmpFlip_i3 _).mono ?_
        rintro e w' ⟨rfl, rfl⟩
        go_wp2_with fail
        refine (rcmp_4 x y _).mono ?_
        rintro e w' ⟨rfl, rfl⟩
        go_wp2_with fail
        go_wp2
        go_roundw
        case rel => exact ⟨4, by omega, by omega, rfl, hB4⟩
        case measure => simp [intOf]
      · -- test 4
        go_wp2_with fail
        refine (CmpFlip_i4 _).mono ?_
        rintro e w' ⟨rfl, rfl⟩
        go_wp2_with fail
        refine (CmpFlip_s4 _).mono ?_
        rintro e w3 ⟨rfl, hB3⟩
        have hB4 := hB.trans (hB3.mono hB.size)
        clear hB hB3
        go_wp2_with fail
        refine (wcmp_4 a b ha hb _).mono ?_
        rintro e w' ⟨rfl, rfl⟩
        go_wp2_with fail
        refine (CmpFlip_i4 _).mono ?_
        rintro e w' ⟨rfl, rfl⟩
        go_wp2_with fail
        refine (wcmp_3 a b ha hb _).mono ?_
        rintro e w' ⟨rfl, rfl⟩
        go_wp2_with fail
        refine (rcmp_4 x y _).mono ?_
        rintro e w' ⟨rfl, rfl⟩
        go_wp2_with fail
        refine (CmpFlip_i4 _).mono ?_
        rintro e w' ⟨rfl, rfl⟩
        go_wp2_with fail
        refine (rcmp_3 x y _).mono ?_
        rintro e w' ⟨rfl, rfl⟩
        go_wp2_with fail
        go_wp2
        go_roundw
        case rel => exact ⟨5, by omega, by omega, rfl, hB4⟩
        case measure => simp [intOf]
      · -- test 5
        go_wp2_with fail
        refine (CmpFlip_i5 _).mono ?_
        rintro e w' ⟨rfl, rfl⟩
        go_wp2_with fail
        refine (CmpFlip_s5 _).mono ?_
        rintro e w3 ⟨rfl, hB3⟩
        have hB4 := hB.trans (hB3.mono hB.size)
        clear hB hB3
        go_wp2_with fail
        refine (wcmp_5 a b ha hb _).mono ?_
        rintro e w' ⟨rfl, rfl⟩
        go_wp2_with fail
        refine (CmpFlip_i5 _).mono ?_
        rintro e w' ⟨rfl, rfl⟩
        go_wp2_with fail
        refine (wcmp_1 a b ha hb _).mono ?_
        rintro e w' ⟨rfl, rfl⟩
        go_wp2_with fail
        refine (rcmp_5 x y _).mono ?_
        rintro e w' ⟨rfl, rfl⟩
        go_wp2_with fail
        refine (CmpFlip_i5 _).mono ?_
        rintro e w' ⟨rfl, rfl⟩
        go_wp2_with fail
        refine (rcmp_1 x y _).mono ?_
        rintro e w' ⟨rfl, rfl⟩
        go_wp2_with fail
        go_wp2
        go_roundw
        case rel => exact ⟨6, by omega, by omega, rfl, hB4⟩
        case measure => simp [intOf]
      · -- test 6
        go_wp2_with fail
        refine (CmpFlip_i6 _).mono ?_
        rintro e w' ⟨rfl, rfl⟩
        go_wp2_with fail
        refine (CmpFlip_s6 _).mono ?_
        rintro e w3 ⟨rfl, hB3⟩
        have hB4 := hB.trans (hB3.mono hB.size)
        clear hB hB3
        go_wp2_with fail
        refine (wcmp_6 a b ha hb _).mono ?_
        rintro e w' ⟨rfl, rfl⟩
        go_wp2_with fail
        refine (CmpFlip_i6 _).mono ?_
        rintro e w' ⟨rfl, rfl⟩
        go_wp2_with fail
        refine (wcmp_2 a b ha hb _).mono ?_
        rintro e w' ⟨rfl, rfl⟩
        go_wp2_with fail
        refine (rcmp_6 x y _).mono ?_
        rintro e w' ⟨rfl, rfl⟩
        go_wp2_with fail
        refine (CmpFlip_i6 _).mono ?_
        rintro e w' ⟨rfl, rfl⟩
        go_wp2_with fail
        refine (rcmp_2 x y _).mono ?_
        rintro e w' ⟨rfl, rfl⟩
        go_wp2_with fail
        go_wp2
        go_roundw
        case rel => exact ⟨7, by omega, by omega, rfl, hB4⟩
        case measure => simp [intOf]
      · go_wp2
        go_ret
        exact ⟨rfl, hB⟩
  · go_wp2_with fail
    go_loopw [9] (fun i wr => ∃ k : Nat, 1 ≤ k ∧ k ≤ 7 ∧ i = .int .i64 k ∧ Below w.heap.size w wr) (fun i _ => 7 - (intOf i).toNat)
    case atStart => exact ⟨1, by omega, by omega, rfl, hB0⟩
    case round =>
      obtain ⟨k, hk1, hk7, rfl, hB⟩ := hrel
      clear hB0
      have hk : k = 1 ∨ k = 2 ∨ k = 3 ∨ k = 4 ∨ k = 5 ∨ k = 6 ∨ k = 7 := by omega
      clear hk1 hk7
      rcases hk with rfl | rfl | rfl | rfl | rfl | rfl | rfl
      · -- test 1
        go_wp2_with fail
        refine (CmpFlip_i1 _).mono ?_
        rintro e w' ⟨rfl, rfl⟩
        go_wp2_with fail
        refine (CmpFlip_s1 _).mono ?_
        rintro e w3 ⟨rfl, hB3⟩
        have hB4 := hB.trans (hB3.mono hB.size)
        clear hB hB3
        go_wp2_with fail
        refine (wcmp_1 a b ha hb _).mono ?_
        rintro e w' ⟨rfl, rfl⟩
        go_wp2_with fail
        refine (CmpFlip_i1 _).mono ?_
        rintro e w' ⟨rfl, rfl⟩
        go_wp2_with fail
        refine (wcmp_5 a b ha hb _).mono ?_
        rintro e w' ⟨rfl, rfl⟩
        go_wp2_with fail
        refine (rcmp_1 x y _).mono ?_
        rintro e w' ⟨rfl, rfl⟩
        go_wp2_with fail
        go_wp2
        go_roundw
        case rel => exact ⟨2, by omega, by omega, rfl, hB4⟩
        case measure => simp [intOf]
      · -- test 2
        go_wp2_with fail
        refine (CmpFlip_i2 _).mono ?_
        rintro e w' ⟨rfl, rfl⟩
        go_wp2_with fail
        refine (CmpFlip_s2 _).mono ?_
        rintro e w3 ⟨rfl, hB3⟩
        have hB4 := hB.trans (hB3.mono hB.size)
        clear hB hB3
        go_wp2_with fail
        refine (wcmp_2 a b ha hb _).mono ?_
        rintro e w' ⟨rfl, rfl⟩
        go_wp2_with fail
        refine (CmpFlip_i2 _).mono ?_
        rintro e w' ⟨rfl, rfl⟩
        go_wp2_with fail
        refine (wcmp_6 a b ha hb _).mono ?_
        rintro e w' ⟨rfl, rfl⟩
        go_wp2_with fail
        refine (rcmp_2 x y _).mono ?_
        rintro e w' ⟨rfl, rfl⟩
        go_wp2_with fail
        go_wp2
        go_roundw
        case rel => exact ⟨3, by omega, by omega, rfl, hB4⟩
        case measure => simp [intOf]
      · -- test 3
        go_wp2_with fail
        refine (CmpFlip_i3 _).mono ?_
        rintro e w' ⟨rfl, rfl⟩
        go_wp2_with fail
        refine (CmpFlip_s3 _).mono ?_
        rintro e w3 ⟨rfl, hB3⟩
        have hB4 := hB.trans (hB3.mono hB.size)
        clear hB hB3
        go_wp2_with fail
        refine (wcmp_3 a b ha hb _).mono ?_
        rintro e w' ⟨rfl, rfl⟩
        go_wp2_with fail
        refine (CmpFlip_i3 _).mono ?_
        rintro e w' ⟨rfl, rfl⟩
        go_wp2_with fail
        refine (wcmp_4 a b ha hb _).mono ?_
        rintro e w' ⟨rfl, rfl⟩
        go_wp2_with fail
        refine (rcmp_3 x y _).mono ?_
        rintro e w' ⟨rfl, rfl⟩
        go_wp2_with fail
        go_wp2
        go_roundw
        case rel => exact ⟨4, by omega, by omega, rfl, hB4⟩
        case measure => simp [intOf]
      · -- test 4
        go_wp2_with fail
        refine (CmpFlip_i4 _).mono ?_
        rintro e w' ⟨rfl, rfl⟩
        go_wp2_with fail
        refine (CmpFlip_s4 _).mono ?_
        rintro e w3 ⟨rfl, hB3⟩
        have hB4 := hB.trans (hB3.mono hB.size)
        clear hB hB3
        go_wp2_with fail
        refine (wcmp_4 a b ha hb _).mono ?_
        rintro e w' ⟨rfl, rfl⟩
        go_wp2_with fail
        refine (CmpFlip_i4 _).mono ?_
        rintro e w' ⟨rfl, rfl⟩
        go_wp2_with fail
        refine (wcmp_3 a b ha hb _).mono ?_
        rintro e w' ⟨rfl, rfl⟩
        go_wp2_with fail
        refine (rcmp_4 x y _).mono ?_
        rintro e w' ⟨rfl, rfl⟩
        go_wp2_with fail
        go_wp2
        go_roundw
        case rel => exact ⟨5, by omega, by omega, rfl, hB4⟩
        case measure => simp [intOf]
      · -- test 5
        go_wp2_with fail
        refine (CmpFlip_i5 _).mono ?_
        rintro e w' ⟨rfl, rfl⟩
        go_wp2_with fail
        refine (CmpFlip_s5 _).mono ?_
        rintro e w3 ⟨rfl, hB3⟩
        have hB4 := hB.trans (hB3.mono hB.size)
        clear hB hB3
        go_wp2_with fail
        refine (wcmp_5 a b ha hb _).mono ?_
        rintro e w' ⟨rfl, rfl⟩
        go_wp2_with fail
        refine (CmpFlip_i5 _).mono ?_
        rintro e w' ⟨rfl, rfl⟩
        go_wp2_with fail
        refine (wcmp_1 a b ha hb _).mono ?_
        rintro e w' ⟨rfl, rfl⟩
        go_wp2_with fail
        refine (rcmp_5 x y _).mono ?_
        rintro e w' ⟨rfl, rfl⟩
        go_wp2_with fail
        go_wp2
        go_roundw
        case rel => exact ⟨6, by omega, by omega, rfl, hB4⟩
        case measure => simp [intOf]
      · -- test 6
        go_wp2_with fail
        refine (CmpFlip_i6 _).mono ?_
        rintro e w' ⟨rfl, rfl⟩
        go_wp2_with fail
        refine (CmpFlip_s6 _).mono ?_
        rintro e w3 ⟨rfl, hB3⟩
        have hB4 := hB.trans (hB3.mono hB.size)
        clear hB hB3
        go_wp2_with fail
        refine (wcmp_6 a b ha hb _).mono ?_
        rintro e w' ⟨rfl, rfl⟩
        go_wp2_with fail
        refine (CmpFlip_i6 _).mono ?_
        rintro e w' ⟨rfl, rfl⟩
        go_wp2_with fail
        refine (wcmp_2 a b ha hb _).mono ?_
        rintro e w' ⟨rfl, rfl⟩
        go_wp2_with fail
        refine (rcmp_6 x y _).mono ?_
        rintro e w' ⟨rfl, rfl⟩
        go_wp2_with fail
        go_wp2
        go_roundw
        case rel => exact ⟨7, by omega, by omega, rfl, hB4⟩
        case measure => simp [intOf]
      · go_wp2
        go_ret
        exact ⟨rfl, hB⟩
  · go_wp2_with fail
    go_loopw [9] (fun i wr => ∃ k : Nat, 1 ≤ k ∧ k ≤ 7 ∧ i = .int .i64 k ∧ Below w.heap.size w wr) (fun i _ => 7 - (intOf i).toNat)
    case atStart => exact ⟨1, by omega, by omega, rfl, hB0⟩
    case round =>
      obtain ⟨k, hk1, hk7, rfl, hB⟩ := hrel
      clear hB0
      have hk : k = 1 ∨ k = 2 ∨ k = 3 ∨ k = 4 ∨ k = 5 ∨ k = 6 ∨ k = 7 := by omega
      clear hk1 hk7
      rcases hk with rfl | rfl | rfl | rfl | rfl | rfl | rfl
      · -- test 1
        go_wp2_with fail
        refine (CmpFlip_i1 _).mono ?_
        rintro e w' ⟨rfl, rfl⟩
        go_wp2_with fail
        refine (CmpFlip_s1 _).mono ?_
        rintro e w3 ⟨rfl, hB3⟩
        have hB4 := hB.trans (hB3.mono hB.size)
        clear hB hB3
        go_wp2_with fail
        refine (wcmp_1 a b ha hb _).mono ?_
        rintro e w' ⟨rfl, rfl⟩
        go_wp2_with fail
        refine (CmpFlip_i1 _).mono ?_
        rintro e w' ⟨rfl, rfl⟩
        go_wp2_with fail
        refine (wcmp_5 a b ha hb _).mono ?_
        rintro e w' ⟨rfl, rfl⟩
        go_wp2_with fail
        refine (rcmp_1 x y _).mono ?_
        rintro e w' ⟨rfl, rfl⟩
        go_wp2_with fail
        go_wp2
        go_roundw
        case rel => exact ⟨2, by omega, by omega, rfl, hB4⟩
        case measure => simp [intOf]
      · -- test 2
        go_wp2_with fail
        refine (CmpFlip_i2 _).mono ?_
        rintro e w' ⟨rfl, rfl⟩
        go_wp2_with fail
        refine (CmpFlip_s2 _).mono ?_
        rintro e w3 ⟨rfl, hB3⟩
        have hB4 := hB.trans (hB3.mono hB.size)
        clear hB hB3
        go_wp2_with fail
        refine (wcmp_2 a b ha hb _).mono ?_
        rintro e w' ⟨rfl, rfl⟩
        go_wp2_with fail
        refine (CmpFlip_i2 _).mono ?_
        rintro e w' ⟨rfl, rfl⟩
        go_wp2_with fail
        refine (wcmp_6 a b ha hb _).mono ?_
        rintro e w' ⟨rfl, rfl⟩
        go_wp2_with fail
        refine (rcmp_2 x y _).mono ?_
        rintro e w' ⟨rfl, rfl⟩
        go_wp2_with fail
        go_wp2
        go_roundw
        case rel => exact ⟨3, by omega, by omega, rfl, hB4⟩
        case measure => simp [intOf]
      · -- test 3
        go_wp2_with fail
        refine (CmpFlip_i3 _).mono ?_
        rintro e w' ⟨rfl, rfl⟩
        go_wp2_with fail
        refine (CmpFlip_s3 _).mono ?_
        rintro e w3 ⟨rfl, hB3⟩
        have hB4 := hB.trans (hB3.mono hB.size)
        clear hB hB3
        go_wp2_with fail
        refine (wcmp_3 a b ha hb _).mono ?_
        rintro e w' ⟨rfl, rfl⟩
        go_wp2_with fail
        refine (CmpFlip_i3 _).mono ?_
        rintro e w' ⟨rfl, rfl⟩
        go_wp2_with fail
        refine (wcmp_4 a b ha hb _).mono ?_
        rintro e w' ⟨rfl, rfl⟩
        go_wp2_with fail
        refine (rcmp_3 x y _).mono ?_
        rintro e w' ⟨rfl, rfl⟩
        go_wp2_with fail
        go_wp2
        go_roundw
        case rel => exact ⟨4, by omega, by omega, rfl, hB4⟩
        case measure => simp [intOf]
      · -- test 4
        go_wp2_with fail
        refine (CmpFlip_i4 _).mono ?_
        rintro e w' ⟨rfl, rfl⟩
        go_wp2_with fail
        refine (CmpFlip_s4 _).mono ?_
        rintro e w3 ⟨rfl, hB3⟩
        have hB4 := hB.trans (hB3.mono hB.size)
        clear hB hB3
        go_wp2_with fail
        refine (wcmp_4 a b ha hb _).mono ?_
        rintro e w' ⟨rfl, rfl⟩
        go_wp2_with fail
        refine (CmpFlip_i4 _).mono ?_
        rintro e w' ⟨rfl, rfl⟩
        go_wp2_with fail
        refine (wcmp_3 a b ha hb _).mono ?_
        rintro e w' ⟨rfl, rfl⟩
        go_wp2_with fail
        refine (rcmp_4 x y _).mono ?_
        rintro e w' ⟨rfl, rfl⟩
        go_wp2_with fail
        go_wp2
        go_roundw
        case rel => exact ⟨5, by omega, by omega, rfl, hB4⟩
        case measure => simp [intOf]
      · -- test 5
        go_wp2_with fail
        refine (CmpFlip_i5 _).mono ?_
        rintro e w' ⟨rfl, rfl⟩
        go_wp2_with fail
        refine (CmpFlip_s5 _).mono ?_
        rintro e w3 ⟨rfl, hB3⟩
        have hB4 := hB.trans (hB3.mono hB.size)
        clear hB hB3
        go_wp2_with fail
        refine (wcmp_5 a b ha hb _).mono ?_
        rintro e w' ⟨rfl, rfl⟩
        go_wp2_with fail
        refine (CmpFlip_i5 _).mono ?_
        rintro e w' ⟨rfl, rfl⟩
        go_wp2_with fail
        refine (wcmp_1 a b ha hb _).mono ?_
        rintro e w' ⟨rfl, rfl⟩
        go_wp2_with fail
        refine (rcmp_5 x y _).mono ?_
        rintro e w' ⟨rfl, rfl⟩
        go_wp2_with fail
        go_wp2
        go_roundw
        case rel => exact ⟨6, by omega, by omega, rfl, hB4⟩
        case measure => simp [intOf]
      · -- test 6
        go_wp2_with fail
        refine (CmpFlip_i6 _).mono ?_
        rintro e w' ⟨rfl, rfl⟩
        go_wp2_with fail
        refine (CmpFlip_s6 _).mono ?_
        rintro e w3 ⟨rfl, hB3⟩
        have hB4 := hB.trans (hB3.mono hB.size)
        clear hB hB3
        go_wp2_with fail
        refine (wcmp_6 a b ha hb _).mono ?_
        rintro e w' ⟨rfl, rfl⟩
        go_wp2_with fail
        refine (CmpFlip_i6 _).mono ?_
        rintro e w' ⟨rfl, rfl⟩
        go_wp2_with fail
        refine (wcmp_2 a b ha hb _).mono ?_
        rintro e w' ⟨rfl, rfl⟩
        go_wp2_with fail
        refine (rcmp_6 x y _).mono ?_
        rintro e w' ⟨rfl, rfl⟩
        go_wp2_with fail
        go_wp2
        go_roundw
        case rel => exact ⟨7, by omega, by omega, rfl, hB4⟩
        case measure => simp [intOf]
      · go_wp2
        go_ret
        exact ⟨rfl, hB⟩
set_option maxRecDepth 100000 in
set_option maxHeartbeats 4000000 in
theorem FnSwap_some (aa : Option Addr) (n c : Nat) (w : World) (h : IsCode w aa n c) (hn : n ≤ 1048576) : Calls Try.prog 14 #[.slice aa n c] w fun e w' => e = .returned (.bool true) ∧ Below w.heap.size w w' := by
  have hd : decide ((1048576 : Int) < (n : Int)) = false := by simp; omega
  go_enter Try.func14, Try.ntmps14
  go_wp2_with fail
  refine (drawWholeCmp_any aa n c w h).mono ?_
  rintro e w1 ⟨o1, a, b, rfl, ha0, hb0, hB1⟩
  go_wp2_with fail
  refine (drawRealCmp_any aa n c w1 (isCode_below h hB1)).mono ?_
  rintro e w2 ⟨o2, x, y, rfl, hx, hy, hB2⟩
  have ha : a.natAbs ≤ 9007199254740992 := by omega
  have hb : b.natAbs ≤ 9007199254740992 := by omega
  have hB0 : Below w.heap.size w w2 := hB1.trans (hB2.mono hB1.size)
  have t3 := ws_3 a b
  have t4 := ws_4 a b
  clear h hB1 hB2 ha0 hb0 hx hy
  rcases FnSwap_cases x y with ⟨e1, e2⟩ | ⟨e1, e2⟩ | ⟨e1, e2⟩ | ⟨e1, e2⟩
  · go_wp2_with fail
    go_loopw [9] (fun i wr => ∃ k : Nat, 1 ≤ k ∧ k ≤ 7 ∧ i = .int .i64 k ∧ Below w.heap.size w wr) (fun i _ => 7 - (intOf i).toNat)
    case atStart => exact ⟨1, by omega, by omega, rfl, hB0⟩
    case round =>
      obtain ⟨k, hk1, hk7, rfl, hB⟩ := hrel
      clear hB0
      have hk : k = 1 ∨ k = 2 ∨ k = 3 ∨ k = 4 ∨ k = 5 ∨ k = 6 ∨ k = 7 := by omega
      clear hk1 hk7
      rcases hk with rfl | rfl | rfl | rfl | rfl | rfl | rfl
      · -- test 1
        go_wp2_with fail
        refine (CmpSwap_i1 _).mono ?_
        rintro e w' ⟨rfl, rfl⟩
        go_wp2_with fail
        refine (CmpSwap_s1 _).mono ?_
        rintro e w3 ⟨rfl, hB3⟩
        have hB4 := hB.trans (hB3.mono hB.size)
        clear hB hB3
        go_wp2_with fail
        refine (CmpSwap_i6 _).mono ?_
        rintro e w' ⟨rfl, rfl⟩
        go_wp2_with fail
        refine (wcmp_1 a b ha hb _).mono ?_
        rintro e w' ⟨rfl, rfl⟩
        go_wp2_with fail
        refine (wcmp_6 b a hb ha _).mono ?_
        rintro e w' ⟨rfl, rfl⟩
        go_wp2_with fail
        refine (rcmp_1 x y _).mono ?_
        rintro e w' ⟨rfl, rfl⟩
        go_wp2_with fail
        refine (rcmp_6 y x _).mono ?_
        rintro e w' ⟨rfl, rfl⟩
        go_wp2_with fail
        go_wp2
        go_roundw
        case rel => exact ⟨2, by omega, by omega, rfl, hB4⟩
        case measure => simp [intOf]
      · -- test 2
        go_wp2_with fail
        refine (CmpSwap_i2 _).mono ?_
        rintro e w' ⟨rfl, rfl⟩
        go_wp2_with fail
        refine (CmpSwap_s2 _).mono ?_
        rintro e w3 ⟨rfl, hB3⟩
        have hB4 := hB.trans (hB3.mono hB.size)
        clear hB hB3
        go_wp2_with fail
        refine (CmpSwap_i5 _).mono ?_
        rintro e w' ⟨rfl, rfl⟩
        go_wp2_with fail
        refine (wcmp_2 a b ha hb _).mono ?_
        rintro e w' ⟨rfl, rfl⟩
        go_wp2_with fail
        refine (wcmp_5 b a hb ha _).mono ?_
        rintro e w' ⟨rfl, rfl⟩
        go_wp2_with fail
        refine (rcmp_2 x y _).mono ?_
        rintro e w' ⟨rfl, rfl⟩
        go_wp2_with fail
        refine (rcmp_5 y x _).mono ?_
        rintro e w' ⟨rfl, rfl⟩
        go_wp2_with fail
        go_wp2
        go_roundw
        case rel => exact ⟨3, by omega, by omega, rfl, hB4⟩
        case measure => simp [intOf]
      · -- test 3
        go_wp2_with fail
        refine (CmpSwap_i3 _).mono ?_
        rintro e w' ⟨rfl, rfl⟩
        go_wp2_with fail
        refine (CmpSwap_s3 _).mono ?_
        rintro e w3 ⟨rfl, hB3⟩
        have hB4 := hB.trans (hB3.mono hB.size)
        clear hB hB3
        go_wp2_with fail
        refine (CmpSwap_i3 _).mono ?_
        rintro e w' ⟨rfl, rfl⟩
        go_wp2_with fail
        refine (wcmp_3 a b ha hb _).mono ?_
        rintro e w' ⟨rfl, rfl⟩
        go_wp2_with fail
        refine (wcmp_3 b a hb ha _).mono ?_
        rintro e w' ⟨rfl, rfl⟩
        go_wp2_with fail
        refine (rcmp_3 x y _).mono ?_
        rintro e w' ⟨rfl, rfl⟩
        go_wp2_with fail
        refine (rcmp_3 y x _).mono ?_
        rintro e w' ⟨rfl, rfl⟩
        go_wp2_with fail
        go_wp2
        go_roundw
        case rel => exact ⟨4, by omega, by omega, rfl, hB4⟩
        case measure => simp [intOf]
      · -- test 4
        go_wp2_with fail
        refine (CmpSwap_i4 _).mono ?_
        rintro e w' ⟨rfl, rfl⟩
        go_wp2_with fail
        refine (CmpSwap_s4 _).mono ?_
        rintro e w3 ⟨rfl, hB3⟩
        have hB4 := hB.trans (hB3.mono hB.size)
        clear hB hB3
        go_wp2_with fail
        refine (CmpSwap_i4 _).mono ?_
        rintro e w' ⟨rfl, rfl⟩
        go_wp2_with fail
        refine (wcmp_4 a b ha hb _).mono ?_
        rintro e w' ⟨rfl, rfl⟩
        go_wp2_with fail
        refine (wcmp_4 b a hb ha _).mono ?_
        rintro e w' ⟨rfl, rfl⟩
        go_wp2_with fail
        refine (rcmp_4 x y _).mono ?_
        rintro e w' ⟨rfl, rfl⟩
        go_wp2_with fail
        refine (rcmp_4 y x _).mono ?_
        rintro e w' ⟨rfl, rfl⟩
        go_wp2_with fail
        go_wp2
        go_roundw
        case rel => exact ⟨5, by omega, by omega, rfl, hB4⟩
        case measure => simp [intOf]
      · -- test 5
        go_wp2_with fail
        refine (CmpSwap_i5 _).mono ?_
        rintro e w' ⟨rfl, rfl⟩
        go_wp2_with fail
        refine (CmpSwap_s5 _).mono ?_
        rintro e w3 ⟨rfl, hB3⟩
        have hB4 := hB.trans (hB3.mono hB.size)
        clear hB hB3
        go_wp2_with fail
        refine (CmpSwap_i2 _).mono ?_
        rintro e w' ⟨rfl, rfl⟩
        go_wp2_with fail
        refine (wcmp_5 a b ha hb _).mono ?_
        rintro e w' ⟨rfl, rfl⟩
        go_wp2_with fail
        refine (wcmp_2 b a hb ha _).mono ?_
        rintro e w' ⟨rfl, rfl⟩
        go_wp2_with fail
        refine (rcmp_5 x y _).mono ?_
        rintro e w' ⟨rfl, rfl⟩
        go_wp2_with fail
        refine (rcmp_2 y x _).mono ?_
        rintro e w' ⟨rfl, rfl⟩
        go_wp2_with fail
        go_wp2
        go_roundw
        case rel => exact ⟨6, by omega, by omega, rfl, hB4⟩
        case measure => simp [intOf]
      · -- test 6
        go_wp2_with fail
        refine (CmpSwap_i6 _).mono ?_
        rintro e w' ⟨rfl, rfl⟩
        go_wp2_with fail
        refine (CmpSwap_s6 _).mono ?_
        rintro e w3 ⟨rfl, hB3⟩
        have hB4 := hB.trans (hB3.mono hB.size)
        clear hB hB3
        go_wp2_with fail
        refine (CmpSwap_i1 _).mono ?_
        rintro e w' ⟨rfl, rfl⟩
        go_wp2_with fail
        refine (wcmp_6 a b ha hb _).mono ?_
        rintro e w' ⟨rfl, rfl⟩
        go_wp2_with fail
        refine (wcmp_1 b a hb ha _).mono ?_
        rintro e w' ⟨rfl, rfl⟩
        go_wp2_with fail
        refine (rcmp_6 x y _).mono ?_
        rintro e w' ⟨rfl, rfl⟩
        go_wp2_with fail
        refine (rcmp_1 y x _).mono ?_
        rintro e w' ⟨rfl, rfl⟩
        go_wp2_with fail
        go_wp2
        go_roundw
        case rel => exact ⟨7, by omega, by omega, rfl, hB4⟩
        case measure => simp [intOf]
      · go_wp2
        go_ret
        exact ⟨rfl, hB⟩
  · go_wp2_with fail
    go_loopw [9] (fun i wr => ∃ k : Nat, 1 ≤ k ∧ k ≤ 7 ∧ i = .int .i64 k ∧ Below w.heap.size w wr) (fun i _ => 7 - (intOf i).toNat)
    case atStart => exact ⟨1, by omega, by omega, rfl, hB0⟩
    case round =>
      obtain ⟨k, hk1, hk7, rfl, hB⟩ := hrel
      clear hB0
      have hk : k = 1 ∨ k = 2 ∨ k = 3 ∨ k = 4 ∨ k = 5 ∨ k = 6 ∨ k = 7 := by omega
      clear hk1 hk7
      rcases hk with rfl | rfl | rfl | rfl | rfl | rfl | rfl
      · -- test 1
        go_wp2_with fail
        refine (CmpSwap_i1 _).mono ?_
        rintro e w' ⟨rfl, rfl⟩
        go_wp2_with fail
        refine (CmpSwap_s1 _).mono ?_
        rintro e w3 ⟨rfl, hB3⟩
        have hB4 := hB.trans (hB3.mono hB.size)
        clear hB hB3
        go_wp2_with fail
        refine (CmpSwap_i6 _).mono ?_
        rintro e w' ⟨rfl, rfl⟩
        go_wp2_with fail
        refine (wcmp_1 a b ha hb _).mono ?_
        rintro e w' ⟨rfl, rfl⟩
        go_wp2_with fail
        refine (wcmp_6 b a hb ha _).mono ?_
        rintro e w' ⟨rfl, rfl⟩
        go_wp2_with fail
        refine (rcmp_1 x y _).mono ?_
        rintro e w' ⟨rfl, rfl⟩
        go_wp2_with fail
        refine (rcmp_6 y x _).mono ?_
        rintro e w' ⟨rfl, rfl⟩
        go_wp2_with fail
        go_wp2
        go_roundw
        case rel => exact ⟨2, by omega, by omega, rfl, hB4⟩
        case measure => simp [intOf]
      · -- test 2
        go_wp2_with fail
        refine (CmpSwap_i2 _).mono ?_
        rintro e w' ⟨rfl, rfl⟩
        go_wp2_with fail
        refine (CmpSwap_s2 _).mono ?_
        rintro e w3 ⟨rfl, hB3⟩
        have hB4 := hB.trans (hB3.mono hB.size)
        clear hB hB3
        go_wp2_with fail
        refine (CmpSwap_i5 _).mono ?_
        rintro e w' ⟨rfl, rfl⟩
        go_wp2_with fail
        refine (wcmp_2 a b ha hb _).mono ?_
        rintro e w' ⟨rfl, rfl⟩
        go_wp2_with fail
        refine (wcmp_5 b a hb ha _).mono ?_
        rintro e w' ⟨rfl, rfl⟩
        go_wp2_with fail
        refine (rcmp_2 x y _).mono ?_
        rintro e w' ⟨rfl, rfl⟩
        go_wp2_with fail
        refine (rcmp_5 y x _).mono ?_
        rintro e w' ⟨rfl, rfl⟩
        go_wp2_with fail
        go_wp2
        go_roundw
        case rel => exact ⟨3, by omega, by omega, rfl, hB4⟩
        case measure => simp [intOf]
      · -- test 3
        go_wp2_with fail
        refine (CmpSwap_i3 _).mono ?_
        rintro e w' ⟨rfl, rfl⟩
        go_wp2_with fail
        refine (CmpSwap_s3 _).mono ?_
        rintro e w3 ⟨rfl, hB3⟩
        have hB4 := hB.trans (hB3.mono hB.size)
        clear hB hB3
        go_wp2_with fail
        refine (CmpSwap_i3 _).mono ?_
        rintro e w' ⟨rfl, rfl⟩
        go_wp2_with fail
        refine (wcmp_3 a b ha hb _).mono ?_
        rintro e w' ⟨rfl, rfl⟩
        go_wp2_with fail
        refine (wcmp_3 b a hb ha _).mono ?_
        rintro e w' ⟨rfl, rfl⟩
        go_wp2_with fail
        refine (rcmp_3 x y _).mono ?_
        rintro e w' ⟨rfl, rfl⟩
        go_wp2_with fail
        refine (rcmp_3 y x _).mono ?_
        rintro e w' ⟨rfl, rfl⟩
        go_wp2_with fail
        go_wp2
        go_roundw
        case rel => exact ⟨4, by omega, by omega, rfl, hB4⟩
        case measure => simp [intOf]
      · -- test 4
        go_wp2_with fail
        refine (CmpSwap_i4 _).mono ?_
        rintro e w' ⟨rfl, rfl⟩
        go_wp2_with fail
        refine (CmpSwap_s4 _).mono ?_
        rintro e w3 ⟨rfl, hB3⟩
        have hB4 := hB.trans (hB3.mono hB.size)
        clear hB hB3
        go_wp2_with fail
        refine (CmpSwap_i4 _).mono ?_
        rintro e w' ⟨rfl, rfl⟩
        go_wp2_with fail
        refine (wcmp_4 a b ha hb _).mono ?_
        rintro e w' ⟨rfl, rfl⟩
        go_wp2_with fail
        refine (wcmp_4 b a hb ha _).mono ?_
        rintro e w' ⟨rfl, rfl⟩
        go_wp2_with fail
        refine (rcmp_4 x y _).mono ?_
        rintro e w' ⟨rfl, rfl⟩
        go_wp2_with fail
        refine (rcmp_4 y x _).mono ?_
        rintro e w' ⟨rfl, rfl⟩
        go_wp2_with fail
        go_wp2
        go_roundw
        case rel => exact ⟨5, by omega, by omega, rfl, hB4⟩
        case measure => simp [intOf]
      · -- test 5
        go_wp2_with fail
        refine (CmpSwap_i5 _).mono ?_
        rintro e w' ⟨rfl, rfl⟩
        go_wp2_with fail
        refine (CmpSwap_s5 _).mono ?_
        rintro e w3 ⟨rfl, hB3⟩
        have hB4 := hB.trans (hB3.mono hB.size)
        clear hB hB3
        go_wp2_with fail
        refine (CmpSwap_i2 _).mono ?_
        rintro e w' ⟨rfl, rfl⟩
        go_wp2_with fail
        refine (wcmp_5 a b ha hb _).mono ?_
        rintro e w' ⟨rfl, rfl⟩
        go_wp2_with fail
        refine (wcmp_2 b a hb ha _).mono ?_
        rintro e w' ⟨rfl, rfl⟩
        go_wp2_with fail
        refine (rcmp_5 x y _).mono ?_
        rintro e w' ⟨rfl, rfl⟩
        go_wp2_with fail
        refine (rcmp_2 y x _).mono ?_
        rintro e w' ⟨rfl, rfl⟩
        go_wp2_with fail
        go_wp2
        go_roundw
        case rel => exact ⟨6, by omega, by omega, rfl, hB4⟩
        case measure => simp [intOf]
      · -- test 6
        go_wp2_with fail
        refine (CmpSwap_i6 _).mono ?_
        rintro e w' ⟨rfl, rfl⟩
        go_wp2_with fail
        refine (CmpSwap_s6 _).mono ?_
        rintro e w3 ⟨rfl, hB3⟩
        have hB4 := hB.trans (hB3.mono hB.size)
        clear hB hB3
        go_wp2_with fail
        refine (CmpSwap_i1 _).mono ?_
        rintro e w' ⟨rfl, rfl⟩
        go_wp2_with fail
        refine (wcmp_6 a b ha hb _).mono ?_
        rintro e w' ⟨rfl, rfl⟩
        go_wp2_with fail
        refine (wcmp_1 b a hb ha _).mono ?_
        rintro e w' ⟨rfl, rfl⟩
        go_wp2_with fail
        refine (rcmp_6 x y _).mono ?_
        rintro e w' ⟨rfl, rfl⟩
        go_wp2_with fail
        refine (rcmp_1 y x _).mono ?_
        rintro e w' ⟨rfl, rfl⟩
        go_wp2_with fail
        go_wp2
        go_roundw
        case rel => exact ⟨7, by omega, by omega, rfl, hB4⟩
        case measure => simp [intOf]
      · go_wp2
        go_ret
        exact ⟨rfl, hB⟩
  · go_wp2_with fail
    go_loopw [9] (fun i wr => ∃ k : Nat, 1 ≤ k ∧ k ≤ 7 ∧ i = .int .i64 k ∧ Below w.heap.size w wr) (fun i _ => 7 - (intOf i).toNat)
    case atStart => exact ⟨1, by omega, by omega, rfl, hB0⟩
    case round =>
      obtain ⟨k, hk1, hk7, rfl, hB⟩ := hrel
      clear hB0
      have hk : k = 1 ∨ k = 2 ∨ k = 3 ∨ k = 4 ∨ k = 5 ∨ k = 6 ∨ k = 7 := by omega
      clear hk1 hk7
      rcases hk with rfl | rfl | rfl | rfl | rfl | rfl | rfl
      · -- test 1
        go_wp2_with fail
        refine (CmpSwap_i1 _).mono ?_
        rintro e w' ⟨rfl, rfl⟩
        go_wp2_with fail
        refine (CmpSwap_s1 _).mono ?_
        rintro e w3 ⟨rfl, hB3⟩
        have hB4 := hB.trans (hB3.mono hB.size)
        clear hB hB3
        go_wp2_with fail
        refine (CmpSwap_i6 _).mono ?_
        rintro e w' ⟨rfl, rfl⟩
        go_wp2_with fail
        refine (wcmp_1 a b ha hb _).mono ?_
        rintro e w' ⟨rfl, rfl⟩
        go_wp2_with fail
        refine (wcmp_6 b a hb ha _).mono ?_
        rintro e w' ⟨rfl, rfl⟩
        go_wp2_with fail
        refine (rcmp_1 x y _).mono ?_
        rintro e w' ⟨rfl, rfl⟩
        go_wp2_with fail
        refine (rcmp_6 y x _).mono ?_
        rintro e w' ⟨rfl, rfl⟩
        go_wp2_with fail
        go_wp2
        go_roundw
        case rel => exact ⟨2, by omega, by omega, rfl, hB4⟩
        case measure => simp [intOf]
      · -- test 2
        go_wp2_with fail
        refine (CmpSwap_i2 _).mono ?_
        rintro e w' ⟨rfl, rfl⟩
        go_wp2_with fail
        refine (CmpSwap_s2 _).mono ?_
        rintro e w3 ⟨rfl, hB3⟩
        have hB4 := hB.trans (hB3.mono hB.size)
        clear hB hB3
        go_wp2_with fail
        refine (CmpSwap_i5 _).mono ?_
        rintro e w' ⟨rfl, rfl⟩
        go_wp2_with fail
        refine (wcmp_2 a b ha hb _).mono ?_
        rintro e w' ⟨rfl, rfl⟩
        go_wp2_with fail
        refine (wcmp_5 b a hb ha _).mono ?_
        rintro e w' ⟨rfl, rfl⟩
        go_wp2_with fail
        refine (rcmp_2 x y _).mono ?_
        rintro e w' ⟨rfl, rfl⟩
        go_wp2_with fail
        refine (rcmp_5 y x _).mono ?_
        rintro e w' ⟨rfl, rfl⟩
        go_wp2_with fail
        go_wp2
        go_roundw
        case rel => exact ⟨3, by omega, by omega, rfl, hB4⟩
        case measure => simp [intOf]
      · -- test 3
        go_wp2_with fail
        refine (CmpSwap_i3 _).mono ?_
        rintro e w' ⟨rfl, rfl⟩
        go_wp2_with fail
        refine (CmpSwap_s3 _).mono ?_
        rintro e w3 ⟨rfl, hB3⟩
        have hB4 := hB.trans (hB3.mono hB.size)
        clear hB hB3
        go_wp2_with fail
        refine (CmpSwap_i3 _).mono ?_
        rintro e w' ⟨rfl, rfl⟩
        go_wp2_with fail
        refine (wcmp_3 a b ha hb _).mono ?_
        rintro e w' ⟨rfl, rfl⟩
        go_wp2_with fail
        refine (wcmp_3 b a hb ha _).mono ?_
        rintro e w' ⟨rfl, rfl⟩
        go_wp2_with fail
        refine (rcmp_3 x y _).mono ?_
        rintro e w' ⟨rfl, rfl⟩
        go_wp2_with fail
        refine (rcmp_3 y x _).mono ?_
        rintro e w' ⟨rfl, rfl⟩
        go_wp2_with fail
        go_wp2
        go_roundw
        case rel => exact ⟨4, by omega, by omega, rfl, hB4⟩
        case measure => simp [intOf]
      · -- test 4
        go_wp2_with fail
        refine (CmpSwap_i4 _).mono ?_
        rintro e w' ⟨rfl, rfl⟩
        go_wp2_with fail
        refine (CmpSwap_s4 _).mono ?_
        rintro e w3 ⟨rfl, hB3⟩
        have hB4 := hB.trans (hB3.mono hB.size)
        clear hB hB3
        go_wp2_with fail
        refine (CmpSwap_i4 _).mono ?_
        rintro e w' ⟨rfl, rfl⟩
        go_wp2_with fail
        refine (wcmp_4 a b ha hb _).mono ?_
        rintro e w' ⟨rfl, rfl⟩
        go_wp2_with fail
        refine (wcmp_4 b a hb ha _).mono ?_
        rintro e w' ⟨rfl, rfl⟩
        go_wp2_with fail
        refine (rcmp_4 x y _).mono ?_
        rintro e w' ⟨rfl, rfl⟩
        go_wp2_with fail
        refine (rcmp_4 y x _).mono ?_
        rintro e w' ⟨rfl, rfl⟩
        go_wp2_with fail
        go_wp2
        go_roundw
        case rel => exact ⟨5, by omega, by omega, rfl, hB4⟩
        case measure => simp [intOf]
      · -- test 5
        go_wp2_with fail
        refine (CmpSwap_i5 _).mono ?_
        rintro e w' ⟨rfl, rfl⟩
        go_wp2_with fail
        refine (CmpSwap_s5 _).mono ?_
        rintro e w3 ⟨rfl, hB3⟩
        have hB4 := hB.trans (hB3.mono hB.size)
        clear hB hB3
        go_wp2_with fail
        refine (CmpSwap_i2 _).mono ?_
        rintro e w' ⟨rfl, rfl⟩
        go_wp2_with fail
        refine (wcmp_5 a b ha hb _).mono ?_
        rintro e w' ⟨rfl, rfl⟩
        go_wp2_with fail
        refine (wcmp_2 b a hb ha _).mono ?_
        rintro e w' ⟨rfl, rfl⟩
        go_wp2_with fail
        refine (rcmp_5 x y _).mono ?_
        rintro e w' ⟨rfl, rfl⟩
        go_wp2_with fail
        refine (rcmp_2 y x _).mono ?_
        rintro e w' ⟨rfl, rfl⟩
        go_wp2_with fail
        go_wp2
        go_roundw
        case rel => exact ⟨6, by omega, by omega, rfl, hB4⟩
        case measure => simp [intOf]
      · -- test 6
        go_wp2_with fail
        refine (CmpSwap_i6 _).mono ?_
        rintro e w' ⟨rfl, rfl⟩
        go_wp2_with fail
        refine (CmpSwap_s6 _).mono ?_
        rintro e w3 ⟨rfl, hB3⟩
        have hB4 := hB.trans (hB3.mono hB.size)
        clear hB hB3
        go_wp2_with fail
        refine (CmpSwap_i1 _).mono ?_
        rintro e w' ⟨rfl, rfl⟩
        go_wp2_with fail
        refine (wcmp_6 a b ha hb _).mono ?_
        rintro e w' ⟨rfl, rfl⟩
        go_wp2_with fail
        refine (wcmp_1 b a hb ha _).mono ?_
        rintro e w' ⟨rfl, rfl⟩
        go_wp2_with fail
        refine (rcmp_6 x y _).mono ?_
        rintro e w' ⟨rfl, rfl⟩
        go_wp2_with fail
        refine (rcmp_1 y x _).mono ?_
        rintro e w' ⟨rfl, rfl⟩
        go_wp2_with fail
        go_wp2
        go_roundw
        case rel => exact ⟨7, by omega, by omega, rfl, hB4⟩
        case measure => simp [intOf]
      · go_wp2
        go_ret
        exact ⟨rfl, hB⟩
  · go_wp2_with fail
    go_loopw [9] (fun i wr => ∃ k : Nat, 1 ≤ k ∧ k ≤ 7 ∧ i = .int .i64 k ∧ Below w.heap.size w wr) (fun i _ => 7 - (intOf i).toNat)
    case atStart => exact ⟨1, by omega, by omega, rfl, hB0⟩
    case round =>
      obtain ⟨k, hk1, hk7, rfl, hB⟩ := hrel
      clear hB0
      have hk : k = 1 ∨ k = 2 ∨ k = 3 ∨ k = 4 ∨ k = 5 ∨ k = 6 ∨ k = 7 := by omega
      clear hk1 hk7
      rcases hk with rfl | rfl | rfl | rfl | rfl | rfl | rfl
      · -- test 1
        go_wp2_with fail
        refine (CmpSwap_i1 _).mono ?_
        rintro e w' ⟨rfl, rfl⟩
        go_wp2_with fail
        refine (CmpSwap_s1 _).mono ?_
        rintro e w3 ⟨rfl, hB3⟩
        have hB4 := hB.trans (hB3.mono hB.size)
        clear hB hB3
        go_wp2_with fail
        refine (CmpSwap_i6 _).mono ?_
        rintro e w' ⟨rfl, rfl⟩
        go_wp2_with fail
        refine (wcmp_1 a b ha hb _).mono ?_
        rintro e w' ⟨rfl, rfl⟩
        go_wp2_with fail
        refine (wcmp_6 b a hb ha _).mono ?_
        rintro e w' ⟨rfl, rfl⟩
        go_wp2_with fail
        refine (rcmp_1 x y _).mono ?_
        rintro e w' ⟨rfl, rfl⟩
        go_wp2_with fail
        refine (rcmp_6 y x _).mono ?_
        rintro e w' ⟨rfl, rfl⟩
        go_wp2_with fail
        go_wp2
        go_roundw
        case rel => exact ⟨2, by omega, by omega, rfl, hB4⟩
        case measure => simp [intOf]
      · -- test 2
        go_wp2_with fail
        refine (CmpSwap_i2 _).mono ?_
        rintro e w' ⟨rfl, rfl⟩
        go_wp2_with fail
        refine (CmpSwap_s2 _).mono ?_
        rintro e w3 ⟨rfl, hB3⟩
        have hB4 := hB.trans (hB3.mono hB.size)
        clear hB hB3
        go_wp2_with fail
        refine (CmpSwap_i5 _).mono ?_
        rintro e w' ⟨rfl, rfl⟩
        go_wp2_with fail
        refine (wcmp_2 a b ha hb _).mono ?_
        rintro e w' ⟨rfl, rfl⟩
        go_wp2_with fail
        refine (wcmp_5 b a hb ha _).mono ?_
        rintro e w' ⟨rfl, rfl⟩
        go_wp2_with fail
        refine (rcmp_2 x y _).mono ?_
        rintro e w' ⟨rfl, rfl⟩
        go_wp2_with fail
        refine (rcmp_5 y x _).mono ?_
        rintro e w' ⟨rfl, rfl⟩
        go_wp2_with fail
        go_wp2
        go_roundw
        case rel => exact ⟨3, by omega, by omega, rfl, hB4⟩
        case measure => simp [intOf]
      · -- test 3
        go_wp2_with fail
        refine (CmpSwap_i3 _).mono ?_
        rintro e w' ⟨rfl, rfl⟩
        go_wp2_with fail
        refine (CmpSwap_s3 _).mono ?_
        rintro e w3 ⟨rfl, hB3⟩
        have hB4 := hB.trans (hB3.mono hB.size)
        clear hB hB3
        go_wp2_with fail
        refine (CmpSwap_i3 _).mono ?_
        rintro e w' ⟨rfl, rfl⟩
        go_wp2_with fail
        refine (wcmp_3 a b ha hb _).mono ?_
        rintro e w' ⟨rfl, rfl⟩
        go_wp2_with fail
        refine (wcmp_3 b a hb ha _).mono ?_
        rintro e w' ⟨rfl, rfl⟩
        go_wp2_with fail
        refine (rcmp_3 x y _).mono ?_
        rintro e w' ⟨rfl, rfl⟩
        go_wp2_with fail
        refine (rcmp_3 y x _).mono ?_
        rintro e w' ⟨rfl, rfl⟩
        go_wp2_with fail
        go_wp2
        go_roundw
        case rel => exact ⟨4, by omega, by omega, rfl, hB4⟩
        case measure => simp [intOf]
      · -- test 4
        go_wp2_with fail
        refine (CmpSwap_i4 _).mono ?_
        rintro e w' ⟨rfl, rfl⟩
        go_wp2_with fail
        refine (CmpSwap_s4 _).mono ?_
        rintro e w3 ⟨rfl, hB3⟩
        have hB4 := hB.trans (hB3.mono hB.size)
        clear hB hB3
        go_wp2_with fail
        refine (CmpSwap_i4 _).mono ?_
        rintro e w' ⟨rfl, rfl⟩
        go_wp2_with fail
        refine (wcmp_4 a b ha hb _).mono ?_
        rintro e w' ⟨rfl, rfl⟩
        go_wp2_with fail
        refine (wcmp_4 b a hb ha _).mono ?_
        rintro e w' ⟨rfl, rfl⟩
        go_wp2_with fail
        refine (rcmp_4 x y _).mono ?_
        rintro e w' ⟨rfl, rfl⟩
        go_wp2_with fail
        refine (rcmp_4 y x _).mono ?_
        rintro e w' ⟨rfl, rfl⟩
        go_wp2_with fail
        go_wp2
        go_roundw
        case rel => exact ⟨5, by omega, by omega, rfl, hB4⟩
        case measure => simp [intOf]
      · -- test 5
        go_wp2_with fail
        refine (CmpSwap_i5 _).mono ?_
        rintro e w' ⟨rfl, rfl⟩
        go_wp2_with fail
        refine (CmpSwap_s5 _).mono ?_
        rintro e w3 ⟨rfl, hB3⟩
        have hB4 := hB.trans (hB3.mono hB.size)
        clear hB hB3
        go_wp2_with fail
        refine (CmpSwap_i2 _).mono ?_
        rintro e w' ⟨rfl, rfl⟩
        go_wp2_with fail
        refine (wcmp_5 a b ha hb _).mono ?_
        rintro e w' ⟨rfl, rfl⟩
        go_wp2_with fail
        refine (wcmp_2 b a hb ha _).mono ?_
        rintro e w' ⟨rfl, rfl⟩
        go_wp2_with fail
        refine (rcmp_5 x y _).mono ?_
        rintro e w' ⟨rfl, rfl⟩
        go_wp2_with fail
        refine (rcmp_2 y x _).mono ?_
        rintro e w' ⟨rfl, rfl⟩
        go_wp2_with fail
        go_wp2
        go_roundw
        case rel => exact ⟨6, by omega, by omega, rfl, hB4⟩
        case measure => simp [intOf]
      · -- test 6
        go_wp2_with fail
        refine (CmpSwap_i6 _).mono ?_
        rintro e w' ⟨rfl, rfl⟩
        go_wp2_with fail
        refine (CmpSwap_s6 _).mono ?_
        rintro e w3 ⟨rfl, hB3⟩
        have hB4 := hB.trans (hB3.mono hB.size)
        clear hB hB3
        go_wp2_with fail
        refine (CmpSwap_i1 _).mono ?_
        rintro e w' ⟨rfl, rfl⟩
        go_wp2_with fail
        refine (wcmp_6 a b ha hb _).mono ?_
        rintro e w' ⟨rfl, rfl⟩
        go_wp2_with fail
        refine (wcmp_1 b a hb ha _).mono ?_
        rintro e w' ⟨rfl, rfl⟩
        go_wp2_with fail
        refine (rcmp_6 x y _).mono ?_
        rintro e w' ⟨rfl, rfl⟩
        go_wp2_with fail
        refine (rcmp_1 y x _).mono ?_
        rintro e w' ⟨rfl, rfl⟩
        go_wp2_with fail
        go_wp2
        go_roundw
        case rel => exact ⟨7, by omega, by omega, rfl, hB4⟩
        case measure => simp [intOf]
      · go_wp2
        go_ret
        exact ⟨rfl, hB⟩
set_option maxRecDepth 100000 in
set_option maxHeartbeats 4000000 in
theorem FnFlip_great (aa : Option Addr) (n c : Nat) (hn : 1048576 < n) (w : World) : Calls Try.prog 13 #[.slice aa n c] w fun e w' => e = .returned (.bool true) ∧ Below w.heap.size w w' := by
  go_enter Try.func13, Try.ntmps13
  go_wp2
  go_ret
  exact ⟨rfl, Below.refl _ _⟩
theorem FnFlip_walk (a0 : Option Addr) (len0 cap0 : Nat) (z0 : List Int) (w : World) (w0 : IsRow .u8 w a0 len0 cap0 z0) : Calls Try.prog 13 #[.slice a0 len0 cap0] w fun e w' => e = .returned (.bool true) ∧ Below w.heap.size w w' := by
  by_cases h : len0 ≤ 1048576
  · exact FnFlip_some a0 len0 cap0 w (isCode_of w0) h
  · exact FnFlip_great a0 len0 cap0 (by omega) w
set_option maxRecDepth 100000 in
set_option maxHeartbeats 4000000 in
theorem FnSwap_great (aa : Option Addr) (n c : Nat) (hn : 1048576 < n) (w : World) : Calls Try.prog 14 #[.slice aa n c] w fun e w' => e = .returned (.bool true) ∧ Below w.heap.size w w' := by
  go_enter Try.func14, Try.ntmps14
  go_wp2
  go_ret
  exact ⟨rfl, Below.refl _ _⟩
theorem FnSwap_walk (a0 : Option Addr) (len0 cap0 : Nat) (z0 : List Int) (w : World) (w0 : IsRow .u8 w a0 len0 cap0 z0) : Calls Try.prog 14 #[.slice a0 len0 cap0] w fun e w' => e = .returned (.bool true) ∧ Below w.heap.size w w' := by
  by_cases h : len0 ≤ 1048576
  · exact FnSwap_some a0 len0 cap0 w (isCode_of w0) h
  · exact FnSwap_great a0 len0 cap0 (by omega) w
end Go.Proofs.Ytmbmdemoghdggaa
