/- The walk of spec.RealRead. -/
import Derived.Test.YtobbkebjgjeglaaDoorRows
import Derived.Test.YtobbkebjgjeglaaDoorWL3R
import Derived.Test.YtobbkebjgjeglaaDoorRealG2
import Derived.WalkKit
import Derived.WalkSpells
import Derived.WalkLawsBesides
import Derived.OpenShut
import Derived.IntWalk
import Derived.Lib.Hide
import Derived.Deep.QuietTactic
import Derived.BigQuiet
import Derived.Laws.FloatArith
namespace Go.Proofs.YtobbkebjgjeglaaDoor
open Go.RowKit Bx ItoP RealP Fl RealR RealG
set_option linter.unusedVariables false

def RPost (t : ByteArray) (w : World) (e : Ending) (w' : World) : Prop := ∃ b ok, e = .returned (.tuple #[.float .f64 b, .bool ok]) ∧ Reads t b ok ∧ Below w.heap.size w w'
theorem below_drewed (w : World) : Below w.heap.size w w.drew := Below.drew (Below.refl _ _)
set_option maxRecDepth 100000 in
set_option maxHeartbeats 1000000 in
theorem realRead_s_nan (t : ByteArray) (ht : t.toList = [110, 97, 110]) (w : World) : Calls Tryd.prog 6 #[.string t] w (RPost t w) := by
  have HT : Hid (t = ⟨#[110, 97, 110]⟩) := Lib.hid (ItoP.ext (by rw [← ByteArray.toList_eq, ht]))
  go_enter Tryd.func6, Tryd.ntmps6
  go_wp2_with fail
  refine (l3Nan_any _).mono ?_
  rintro e w' ⟨rfl, rfl⟩
  have HNN := Lib.hid (Fl.nanAt_nan w 0 0)
  generalize Fl.nanAt w 0 0 = x at HNN ⊢
  go_wp2
  go_ret2
  exact ⟨x, true, rfl, ⟨HNN.out.2, .inl ⟨rfl, by rw [HT.out]; exact txt_nan HNN.out.1⟩⟩, below_drewed _⟩
set_option maxRecDepth 100000 in
set_option maxHeartbeats 1000000 in
theorem realRead_s_inf (t : ByteArray) (ht : t.toList = [105, 110, 102]) (w : World) : Calls Tryd.prog 6 #[.string t] w (RPost t w) := by
  have HT : Hid (t = ⟨#[105, 110, 102]⟩) := Lib.hid (ItoP.ext (by rw [← ByteArray.toList_eq, ht]))
  go_enter Tryd.func6, Tryd.ntmps6
  go_wp2_with fail
  refine (l3Inf_any _).mono ?_
  rintro e w' ⟨rfl, rfl⟩
  go_wp2
  go_ret2
  exact ⟨_, true, rfl, ⟨by decide, .inl ⟨rfl, by rw [HT.out]; exact txt_inf (b := 9218868437227405312) (by decide)⟩⟩, Below.refl _ _⟩
set_option maxRecDepth 100000 in
set_option maxHeartbeats 1000000 in
theorem realRead_s_ninf (t : ByteArray) (ht : t.toList = [45, 105, 110, 102]) (w : World) : Calls Tryd.prog 6 #[.string t] w (RPost t w) := by
  have HT : Hid (t = ⟨#[45, 105, 110, 102]⟩) := Lib.hid (ItoP.ext (by rw [← ByteArray.toList_eq, ht]))
  go_enter Tryd.func6, Tryd.ntmps6
  have e6 : ∀ w : World, (Op.unary .neg (.float .f64 9218868437227405312)).run Tryd.prog w = .ok (.float .f64 18442240474082181120) w := fun w => by rw [run_neg_float]; rfl
  go_wp2_with fail
  refine (l3Inf_any _).mono ?_
  rintro e w' ⟨rfl, rfl⟩
  go_wp2
  go_ret2
  exact ⟨_, true, rfl, ⟨by decide, .inl ⟨rfl, by rw [HT.out]; exact txt_inf (b := 18442240474082181120) (by decide)⟩⟩, Below.refl _ _⟩
set_option maxRecDepth 100000 in
set_option maxHeartbeats 1000000 in
theorem realRead_s_zero (t : ByteArray) (ht : t.toList = [48]) (w : World) : Calls Tryd.prog 6 #[.string t] w (RPost t w) := by
  have HT : Hid (t = ⟨#[48]⟩) := Lib.hid (ItoP.ext (by rw [← ByteArray.toList_eq, ht]))
  go_enter Tryd.func6, Tryd.ntmps6
  go_wp2
  go_ret2
  exact ⟨_, true, rfl, ⟨by decide, .inl ⟨rfl, by rw [HT.out]; exact txt_zero (b := 0) (by decide)⟩⟩, Below.refl _ _⟩
set_option maxRecDepth 100000 in
set_option maxHeartbeats 1000000 in
theorem realRead_s_nzero (t : ByteArray) (ht : t.toList = [45, 48]) (w : World) : Calls Tryd.prog 6 #[.string t] w (RPost t w) := by
  have HT : Hid (t = ⟨#[45, 48]⟩) := Lib.hid (ItoP.ext (by rw [← ByteArray.toList_eq, ht]))
  go_enter Tryd.func6, Tryd.ntmps6
  have e6 : ∀ w : World, (Op.unary .neg (.float .f64 0)).run Tryd.prog w = .ok (.float .f64 9223372036854775808) w := fun w => by rw [run_neg_float]; rfl
  go_wp2
  go_ret2
  exact ⟨_, true, rfl, ⟨by decide, .inl ⟨rfl, by rw [HT.out]; exact txt_zero (b := 9223372036854775808) (by decide)⟩⟩, Below.refl _ _⟩
set_option maxRecDepth 100000 in
set_option maxHeartbeats 1000000 in
theorem realRead_s_empty (t : ByteArray) (ht : t.toList = []) (w : World) : Calls Tryd.prog 6 #[.string t] w (RPost t w) := by
  have HT : Hid (t.data.toList = []) := Lib.hid (by rw [← ByteArray.toList_eq, ht])
  go_enter Tryd.func6, Tryd.ntmps6
  go_wp2
  go_ret2
  refine ⟨_, false, rfl, ⟨by decide, .inr ⟨rfl, rfl, no_good ?_ ?_⟩⟩, Below.refl _ _⟩
  · have := HT.out
    unfold Special
    rintro (rfl | rfl | rfl | rfl | rfl) <;> exact absurd this (by decide)
  · intro c h
    have h1 := h.not_empty
    exact h1 HT.out
theorem neg_run (b : Nat) (w : World) : (Op.unary .neg (.float .f64 b)).run Tryd.prog w = .ok (.float .f64 (Op.negFloat .f64 b)) w := run_neg_float b w
set_option maxRecDepth 100000 in
set_option maxHeartbeats 1000000 in
theorem realRead_s_plain (t : ByteArray) (ht : t.size ≤ 1048576) (hp : 0 < t.size) (n1 : ¬ t.toList = []) (n2 : t.toList.isEmpty = false) (hns : ¬ Special t) (s1 : (t.toList == [110, 97, 110]) = false) (s2 : (t.toList == [105, 110, 102]) = false) (s3 : (t.toList == [45, 105, 110, 102]) = false) (s4 : (t.toList == [48]) = false) (s5 : (t.toList == [45, 48]) = false) (h45 : ¬ (t[0].toNat : Int) = 45) (hd : ∀ r, t.data.toList ≠ 45 :: r) (w : World) : Calls Tryd.prog 6 #[.string t] w (RPost t w) := by
  have hl := fun w => l3Read_any t (by omega) w
  have e6 := neg_run
  have e7 : ((t[0].toNat : Int) == 45) = false := beq_eq_false_iff_ne.2 h45
  have HNS := Lib.hid hns
  have HD := Lib.hid hd
  clear hd hns
  go_enter Tryd.func6, Tryd.ntmps6
  go_wp2_with fail
  refine (hl _).mono ?_
  rintro e w' ⟨b, ok, rfl, h, rfl⟩
  clear hl
  rcases h with ⟨rfl, hg⟩ | ⟨rfl, hb, hg⟩
  · have HG := Lib.hid hg
    clear hg
    have e6 := e6 b
    go_wp2
    go_ret2
    exact ⟨_, true, rfl, ⟨HG.out.lt, .inl ⟨rfl, HG.out.good.tx⟩⟩, Below.refl _ _⟩
  · have HG := Lib.hid hg
    clear hg
    go_wp2
    go_ret2
    exact ⟨_, false, rfl, ⟨by decide, .inr ⟨rfl, rfl, no_good HNS.out (fun c h => HG.out _ (good_plain h HD.out))⟩⟩, Below.refl _ _⟩
set_option maxRecDepth 100000 in
set_option maxHeartbeats 1000000 in
theorem realRead_s_dash (t : ByteArray) (ht : t.size ≤ 1048576) (hp : 0 < t.size) (n1 : ¬ t.toList = []) (n2 : t.toList.isEmpty = false) (hns : ¬ Special t) (s1 : (t.toList == [110, 97, 110]) = false) (s2 : (t.toList == [105, 110, 102]) = false) (s3 : (t.toList == [45, 105, 110, 102]) = false) (s4 : (t.toList == [48]) = false) (s5 : (t.toList == [45, 48]) = false) (d : ByteArray) (hd : t.extract 1 t.size = d) (h45 : (t[0].toNat : Int) = 45) (hdt : t = ⟨#[45]⟩ ++ d) (w : World) : Calls Tryd.prog 6 #[.string t] w (RPost t w) := by
  have hl := fun w => l3Read_any d (by rw [← hd, ByteArray.size_extract]; omega) w
  have e6 := neg_run
  have e7 : ((t[0].toNat : Int) == 45) = true := beq_iff_eq.2 h45
  have HNS := Lib.hid hns
  have HD := Lib.hid hdt
  clear hdt hns
  go_enter Tryd.func6, Tryd.ntmps6
  go_wp2_with fail
  refine (hl _).mono ?_
  rintro e w' ⟨b, ok, rfl, h, rfl⟩
  clear hl
  rcases h with ⟨rfl, hg⟩ | ⟨rfl, hb, hg⟩
  · have HG := Lib.hid hg
    clear hg
    have e6 := e6 b
    go_wp2
    go_ret2
    exact ⟨_, true, rfl, ⟨HG.out.minus.lt, .inl ⟨rfl, by rw [HD.out]; exact HG.out.minus.tx⟩⟩, Below.refl _ _⟩
  · have HG := Lib.hid hg
    clear hg
    go_wp2
    go_ret2
    exact ⟨_, false, rfl, ⟨by decide, .inr ⟨rfl, rfl, no_good HNS.out (fun c h => HG.out _ (good_minus (HD.out ▸ h)))⟩⟩, Below.refl _ _⟩
theorem tl_eq {t : ByteArray} {l : List UInt8} : t.toList = l ↔ t = ⟨l.toArray⟩ := by
  rw [ByteArray.toList_eq]
  exact ⟨fun h => ItoP.ext (by rw [h]), fun h => by rw [h]⟩
theorem realRead_s_any (t : ByteArray) (ht : t.size ≤ 1048576) (w : World) : Calls Tryd.prog 6 #[.string t] w (RPost t w) := by
  by_cases h0 : t.toList = []
  · exact realRead_s_empty t h0 w
  by_cases h1 : t.toList = [110, 97, 110]
  · exact realRead_s_nan t h1 w
  by_cases h2 : t.toList = [105, 110, 102]
  · exact realRead_s_inf t h2 w
  by_cases h3 : t.toList = [45, 105, 110, 102]
  · exact realRead_s_ninf t h3 w
  by_cases h4 : t.toList = [48]
  · exact realRead_s_zero t h4 w
  by_cases h5 : t.toList = [45, 48]
  · exact realRead_s_nzero t h5 w
  have hp : 0 < t.size := by
    rcases Nat.eq_zero_or_pos t.size with h | h
    · exfalso
      apply h0
      rw [ByteArray.toList_eq]
      exact List.length_eq_zero_iff.1 h
    · exact h
  have n2 : t.toList.isEmpty = false := by cases hq : t.toList with | nil => exact absurd hq h0 | cons a r => rfl
  have hns : ¬ Special t := by
    rintro (h | h | h | h | h)
    · exact h1 (tl_eq.2 h)
    · exact h2 (tl_eq.2 h)
    · exact h3 (tl_eq.2 h)
    · exact h4 (tl_eq.2 h)
    · exact h5 (tl_eq.2 h)
  have f1 := beq_eq_false_iff_ne.2 h1
  have f2 := beq_eq_false_iff_ne.2 h2
  have f3 := beq_eq_false_iff_ne.2 h3
  have f4 := beq_eq_false_iff_ne.2 h4
  have f5 := beq_eq_false_iff_ne.2 h5
  have hh := head_at hp
  by_cases h45 : (t[0].toNat : Int) = 45
  · have e45 : t[0] = 45 := UInt8.toNat_inj.1 (by have : (45 : UInt8).toNat = 45 := rfl; omega)
    exact realRead_s_dash t ht hp h0 n2 hns f1 f2 f3 f4 f5 _ rfl h45 (ItoP.ext (by rw [dash_list, ex_list, hh, e45]; rfl)) w
  · exact realRead_s_plain t ht hp h0 n2 hns f1 f2 f3 f4 f5 h45 (fun r e => by
      rw [hh] at e
      have : t[0] = 45 := (List.cons.inj e).1
      exact h45 (by rw [this]; rfl)) w
end Go.Proofs.YtobbkebjgjeglaaDoor
