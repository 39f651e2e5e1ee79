/- The walk of the program's RealRead. -/
import Derived.Test.YtobbkebjgjeglaaDoorRows
import Derived.Test.YtobbkebjgjeglaaDoorWRR
import Derived.Test.YtobbkebjgjeglaaDoorWLd
import Derived.Test.YtobbkebjgjeglaaDoorWRT2
import Derived.Test.YtobbkebjgjeglaaDoorShelfI
import Derived.WalkKit
import Derived.WalkSpells
import Derived.WalkLawsBesides
import Derived.OpenShut
import Derived.IntWalk
import Derived.Lib.Hide
import Derived.Lib.SmallJoins
import Derived.Lib.AtoiErrMem
import Derived.Deep.QuietTactic
import Derived.BigQuiet
import Derived.Laws.FloatArith
namespace Go.Proofs.YtobbkebjgjeglaaDoor
open Go.RowKit Bx ItoP RealP Fl RealR RealG
set_option linter.unusedVariables false

set_option maxRecDepth 100000 in
set_option maxHeartbeats 1000000 in
theorem mathNaN (w : World) : Calls Tryd.prog 17 #[] w fun e w' => e = .returned (.float .f64 9221120237041090561) ∧ w' = w := by
  have hb := frombits
  have hc := tobits
  go_enter Tryd.func17, Tryd.ntmps17
  go_wp2_with (go_in)
  go_ret
  exact ⟨rfl, rfl⟩
set_option maxRecDepth 100000 in
set_option maxHeartbeats 1000000 in
theorem mathCopysign (w : World) : Calls Tryd.prog 19 #[.float .f64 0, .float .f64 13830554455654793216] w fun e w' => e = .returned (.float .f64 9223372036854775808) ∧ w' = w := by
  have hb := frombits
  have hc := tobits
  go_enter Tryd.func19, Tryd.ntmps19
  go_wp2_with (go_in)
  go_ret
  exact ⟨rfl, rfl⟩
/-- what RealRead leans on in the world -/
structure REnv (w : World) : Prop where
  max : ∃ m, w.cell? ⟨1, 0, none⟩ = some (.int .i64 m)
  tab : Lib.TabIs Tryd.prog w "internal/strconv.uint64pow10" .u64 Lib.pow10Tab
  syn : ∃ tp p, w.var? Tryd.prog "strconv.ErrSyntax" = some #[.iface tp p]
  rng : ∃ tp p, w.var? Tryd.prog "strconv.ErrRange" = some #[.iface tp p]
theorem REnv.kept {w w' : World} (h : REnv w) (hb : Below w.heap.size w w') : REnv w' := by
  obtain ⟨⟨m, hm⟩, ht, ⟨a, b, hs⟩, ⟨c, d, hr⟩⟩ := h
  refine ⟨⟨m, ?_⟩, tab_kept ht hb, ⟨a, b, Ls.var?_kept (g := 2) (by kernel_rfl) hs hb⟩, ⟨c, d, Ls.var?_kept (g := 3) (by kernel_rfl) hr hb⟩⟩
  rw [← hm]
  exact hb.cell (World.block_lt_of_cell? _ _ hm)
theorem cut_any (t ah be : ByteArray) (d : Bool) (ht : t.size ≤ 3000000) (hcc : Lib.cut t.data.toList [42, 50, 94] = (ah.data.toList, be.data.toList, d)) (w : World) (h : REnv w) : Calls Tryd.prog 20 #[.string t, .string ⟨#[42, 50, 94]⟩] w fun e w' => e = .returned (.tuple #[.string ah, .string be, .bool d]) ∧ Below w.heap.size w w' := by
  obtain ⟨m, hm⟩ := h.max
  refine (Any.strings_Cut { Tryd.laysM145 with } t ⟨#[42, 50, 94]⟩ m w (by omega) hm).mono ?_
  rintro e w' ⟨he, n, rfl⟩
  refine ⟨?_, bel_drewN (Below.refl _ _) n⟩
  rw [he, show (⟨#[42, 50, 94]⟩ : ByteArray).data.toList = [42, 50, 94] from rfl, hcc]
theorem atoi_yes (s : ByteArray) (hs : s.size ≤ 3000000) (v : Int) (hv : Lib.atoiAll s.data.toList = .ok v) (w : World) : Calls Tryd.prog 21 #[.string s] w fun e w' => e = .returned (.tuple #[.int .i64 v, .nilIface]) ∧ Below w.heap.size w w' := by
  refine (Tryd.strconv_Atoi_ok s (by omega) v hv w).mono ?_
  rintro e w' ⟨he, hw⟩
  refine ⟨he, ?_⟩
  rcases hw with rfl | ⟨t, rfl⟩
  · exact Below.refl _ _
  · exact Lib.bytesWorld_below _ _ _
theorem atoi_not (s : ByteArray) (hs : s.size ≤ 3000000) (hv : ∀ v, Lib.atoiAll s.data.toList ≠ .ok v) (w : World) (h : REnv w) : Calls Tryd.prog 21 #[.string s] w fun e w' => ∃ v tp p, e = .returned (.tuple #[.int .i64 v, .iface tp p]) ∧ Below w.heap.size w w' := by
  obtain ⟨a, b, h1⟩ := h.syn
  obtain ⟨c, d, h2⟩ := h.rng
  rcases hh : Lib.atoiAll s.data.toList with v | _ | _
  · exact absurd hh (hv v)
  · refine (Any.strconv_Atoi_syntax_var Tryd.laysC172 s (by omega) hh a b w h1).mono ?_
    rintro e w' ⟨N, he, _, _, hb⟩
    exact ⟨_, _, _, he, hb⟩
  · refine (Tryd.strconv_Atoi_range_var s (by omega) hh c d w h2).mono ?_
    rintro e w' ⟨N, he, _, _, hb⟩
    exact ⟨_, _, _, he, hb⟩
set_option maxRecDepth 100000 in
set_option maxHeartbeats 1000000 in
theorem within_any (n lo hi : Int) (w : World) : Calls Tryd.prog 22 #[.int .i64 n, .int .i64 lo, .int .i64 hi] w fun e w' => e = .returned (.bool (decide (lo ≤ n) && decide (n ≤ hi))) ∧ w' = w := by
  by_cases h : lo ≤ n
  · have d : decide (lo ≤ n) = true := by simpa using h
    go_enter Tryd.func22, Tryd.ntmps22
    go_wp2
    go_ret
    refine ⟨?_, rfl⟩
    simp
    exact fun _ => h
  · have d : decide (lo ≤ n) = false := by simpa using h
    go_enter Tryd.func22, Tryd.ntmps22
    go_wp2
    go_ret
    refine ⟨?_, rfl⟩
    simp
set_option maxRecDepth 100000 in
set_option maxHeartbeats 1000000 in
theorem realRead_i_nan (t : ByteArray) (ht : t.toList = [110, 97, 110]) (w : World) : Calls Tryd.prog 7 #[.string t] w (RPost t w) := by
  have HT : Hid (t = ⟨#[110, 97, 110]⟩) := Lib.hid (ItoP.ext (by rw [← ByteArray.toList_eq, ht]))
  go_enter Tryd.func7, Tryd.ntmps7
  go_wp2_with fail
  refine (mathNaN _).mono ?_
  rintro e w' ⟨rfl, rfl⟩
  go_wp2
  go_ret2
  exact ⟨_, true, rfl, ⟨by decide, .inl ⟨rfl, by rw [HT.out]; exact txt_nan (b := 9221120237041090561) (by decide)⟩⟩, Below.refl _ _⟩
set_option maxRecDepth 100000 in
set_option maxHeartbeats 1000000 in
theorem realRead_i_inf (t : ByteArray) (ht : t.toList = [105, 110, 102]) (w : World) : Calls Tryd.prog 7 #[.string t] w (RPost t w) := by
  have HT : Hid (t = ⟨#[105, 110, 102]⟩) := Lib.hid (ItoP.ext (by rw [← ByteArray.toList_eq, ht]))
  go_enter Tryd.func7, Tryd.ntmps7
  go_wp2_with fail
  refine (inf_pos _).mono ?_
  rintro e w' ⟨rfl, rfl⟩
  go_wp2
  go_ret2
  exact ⟨_, true, rfl, ⟨by decide, .inl ⟨rfl, by rw [HT.out]; exact txt_inf (b := 9218868437227405312) (by decide)⟩⟩, Below.refl _ _⟩
set_option maxRecDepth 100000 in
set_option maxHeartbeats 1000000 in
theorem realRead_i_ninf (t : ByteArray) (ht : t.toList = [45, 105, 110, 102]) (w : World) : Calls Tryd.prog 7 #[.string t] w (RPost t w) := by
  have HT : Hid (t = ⟨#[45, 105, 110, 102]⟩) := Lib.hid (ItoP.ext (by rw [← ByteArray.toList_eq, ht]))
  go_enter Tryd.func7, Tryd.ntmps7
  go_wp2_with fail
  refine (inf_neg _).mono ?_
  rintro e w' ⟨rfl, rfl⟩
  go_wp2
  go_ret2
  exact ⟨_, true, rfl, ⟨by decide, .inl ⟨rfl, by rw [HT.out]; exact txt_inf (b := 18442240474082181120) (by decide)⟩⟩, Below.refl _ _⟩
set_option maxRecDepth 100000 in
set_option maxHeartbeats 1000000 in
theorem realRead_i_zero (t : ByteArray) (ht : t.toList = [48]) (w : World) : Calls Tryd.prog 7 #[.string t] w (RPost t w) := by
  have HT : Hid (t = ⟨#[48]⟩) := Lib.hid (ItoP.ext (by rw [← ByteArray.toList_eq, ht]))
  go_enter Tryd.func7, Tryd.ntmps7
  go_wp2
  go_ret2
  exact ⟨_, true, rfl, ⟨by decide, .inl ⟨rfl, by rw [HT.out]; exact txt_zero (b := 0) (by decide)⟩⟩, Below.refl _ _⟩
set_option maxRecDepth 100000 in
set_option maxHeartbeats 1000000 in
theorem realRead_i_nzero (t : ByteArray) (ht : t.toList = [45, 48]) (w : World) : Calls Tryd.prog 7 #[.string t] w (RPost t w) := by
  have HT : Hid (t = ⟨#[45, 48]⟩) := Lib.hid (ItoP.ext (by rw [← ByteArray.toList_eq, ht]))
  go_enter Tryd.func7, Tryd.ntmps7
  go_wp2_with fail
  refine (mathCopysign _).mono ?_
  rintro e w' ⟨rfl, rfl⟩
  go_wp2
  go_ret2
  exact ⟨_, true, rfl, ⟨by decide, .inl ⟨rfl, by rw [HT.out]; exact txt_zero (b := 9223372036854775808) (by decide)⟩⟩, Below.refl _ _⟩
set_option maxRecDepth 100000 in
set_option maxHeartbeats 1000000 in
theorem realRead_i_nocut_yy (t : ByteArray) (ht : t.size ≤ 1048576) (s1 : (t.toList == [110, 97, 110]) = false) (s2 : (t.toList == [105, 110, 102]) = false) (s3 : (t.toList == [45, 105, 110, 102]) = false) (s4 : (t.toList == [48]) = false) (s5 : (t.toList == [45, 48]) = false) (ah be : ByteArray) (hz : ah.size + be.size ≤ 1048576) (hcc : Lib.cut t.data.toList [42, 50, 94] = (ah.data.toList, be.data.toList, false)) (n : Int) (h10 : Lib.atoiAll ah.data.toList = .ok n) (ex : Int) (h20 : Lib.atoiAll be.data.toList = .ok ex)  (w : World) (henv : REnv w) : Calls Tryd.prog 7 #[.string t] w fun e w' => e = .returned (.tuple #[.float .f64 0, .bool false]) ∧ Below w.heap.size w w' := by
  have hcut : ∀ w', Below w.heap.size w w' → Calls Tryd.prog 20 #[.string t, .string ⟨#[42, 50, 94]⟩] w' fun e w'' => e = .returned (.tuple #[.string ah, .string be, .bool false]) ∧ Below w'.heap.size w' w'' := fun w' hb => cut_any t ah be false (by omega) hcc w' (henv.kept hb)
  have h1 : ∀ w', Below w.heap.size w w' → Calls Tryd.prog 21 #[.string ah] w' fun e w'' => e = .returned (.tuple #[.int .i64 n, .nilIface]) ∧ Below w'.heap.size w' w'' := fun w' hb => atoi_yes ah (by omega) n h10 w'
  have h2 : ∀ w', Below w.heap.size w w' → Calls Tryd.prog 21 #[.string be] w' fun e w'' => e = .returned (.tuple #[.int .i64 ex, .nilIface]) ∧ Below w'.heap.size w' w'' := fun w' hb => atoi_yes be (by omega) ex h20 w'
  clear hcc h10 h20 henv
  go_enter Tryd.func7, Tryd.ntmps7
  go_wp2_with fail
  refine (hcut _ (by repeat (first | exact Below.refl _ _ | assumption | refine Below.setCell ?_ (by first | (simp; done) | (simp; omega) | omega) _ | refine Below.alloc ?_ (by first | (simp; done) | (simp; omega) | omega) _ | refine bel_drewN ?_ _ | refine Below.drew ?_))).mono ?_
  rintro e w1 ⟨rfl, hb⟩
  have hB1 : Below w.heap.size w w1 := by first | exact hb | exact bel_step (by repeat (first | exact Below.refl _ _ | assumption | refine Below.setCell ?_ (by first | (simp; done) | (simp; omega) | omega) _ | refine Below.alloc ?_ (by first | (simp; done) | (simp; omega) | omega) _ | refine bel_drewN ?_ _ | refine Below.drew ?_)) hb (by simp)
  clear hb hcut
  go_wp2_with fail
  refine (h1 _ (by repeat (first | exact Below.refl _ _ | assumption | refine Below.setCell ?_ (by first | (simp; done) | (simp; omega) | omega) _ | refine Below.alloc ?_ (by first | (simp; done) | (simp; omega) | omega) _ | refine bel_drewN ?_ _ | refine Below.drew ?_))).mono ?_
  rintro e w2 ⟨rfl, hb⟩
  have hB2 := bel_step hB1 hb hB1.size
  clear hb h1 hB1
  go_wp2_with fail
  refine (h2 _ (by repeat (first | exact Below.refl _ _ | assumption | refine Below.setCell ?_ (by first | (simp; done) | (simp; omega) | omega) _ | refine Below.alloc ?_ (by first | (simp; done) | (simp; omega) | omega) _ | refine bel_drewN ?_ _ | refine Below.drew ?_))).mono ?_
  rintro e w3 ⟨rfl, hb⟩
  have hB3 := bel_step hB2 hb hB2.size
  clear hb h2 hB2
  go_wp2
  go_ret2
  exact ⟨rfl, hB3⟩
set_option maxRecDepth 100000 in
set_option maxHeartbeats 1000000 in
theorem realRead_i_nocut_yn (t : ByteArray) (ht : t.size ≤ 1048576) (s1 : (t.toList == [110, 97, 110]) = false) (s2 : (t.toList == [105, 110, 102]) = false) (s3 : (t.toList == [45, 105, 110, 102]) = false) (s4 : (t.toList == [48]) = false) (s5 : (t.toList == [45, 48]) = false) (ah be : ByteArray) (hz : ah.size + be.size ≤ 1048576) (hcc : Lib.cut t.data.toList [42, 50, 94] = (ah.data.toList, be.data.toList, false)) (n : Int) (h10 : Lib.atoiAll ah.data.toList = .ok n) (h20 : ∀ v, Lib.atoiAll be.data.toList ≠ .ok v)  (w : World) (henv : REnv w) : Calls Tryd.prog 7 #[.string t] w fun e w' => e = .returned (.tuple #[.float .f64 0, .bool false]) ∧ Below w.heap.size w w' := by
  have hcut : ∀ w', Below w.heap.size w w' → Calls Tryd.prog 20 #[.string t, .string ⟨#[42, 50, 94]⟩] w' fun e w'' => e = .returned (.tuple #[.string ah, .string be, .bool false]) ∧ Below w'.heap.size w' w'' := fun w' hb => cut_any t ah be false (by omega) hcc w' (henv.kept hb)
  have h1 : ∀ w', Below w.heap.size w w' → Calls Tryd.prog 21 #[.string ah] w' fun e w'' => e = .returned (.tuple #[.int .i64 n, .nilIface]) ∧ Below w'.heap.size w' w'' := fun w' hb => atoi_yes ah (by omega) n h10 w'
  have h2 : ∀ w', Below w.heap.size w w' → Calls Tryd.prog 21 #[.string be] w' fun e w'' => ∃ v tp p, e = .returned (.tuple #[.int .i64 v, .iface tp p]) ∧ Below w'.heap.size w' w'' := fun w' hb => atoi_not be (by omega) h20 w' (henv.kept hb)
  clear hcc h10 h20 henv
  go_enter Tryd.func7, Tryd.ntmps7
  go_wp2_with fail
  refine (hcut _ (by repeat (first | exact Below.refl _ _ | assumption | refine Below.setCell ?_ (by first | (simp; done) | (simp; omega) | omega) _ | refine Below.alloc ?_ (by first | (simp; done) | (simp; omega) | omega) _ | refine bel_drewN ?_ _ | refine Below.drew ?_))).mono ?_
  rintro e w1 ⟨rfl, hb⟩
  have hB1 : Below w.heap.size w w1 := by first | exact hb | exact bel_step (by repeat (first | exact Below.refl _ _ | assumption | refine Below.setCell ?_ (by first | (simp; done) | (simp; omega) | omega) _ | refine Below.alloc ?_ (by first | (simp; done) | (simp; omega) | omega) _ | refine bel_drewN ?_ _ | refine Below.drew ?_)) hb (by simp)
  clear hb hcut
  go_wp2_with fail
  refine (h1 _ (by repeat (first | exact Below.refl _ _ | assumption | refine Below.setCell ?_ (by first | (simp; done) | (simp; omega) | omega) _ | refine Below.alloc ?_ (by first | (simp; done) | (simp; omega) | omega) _ | refine bel_drewN ?_ _ | refine Below.drew ?_))).mono ?_
  rintro e w2 ⟨rfl, hb⟩
  have hB2 := bel_step hB1 hb hB1.size
  clear hb h1 hB1
  go_wp2_with fail
  refine (h2 _ (by repeat (first | exact Below.refl _ _ | assumption | refine Below.setCell ?_ (by first | (simp; done) | (simp; omega) | omega) _ | refine Below.alloc ?_ (by first | (simp; done) | (simp; omega) | omega) _ | refine bel_drewN ?_ _ | refine Below.drew ?_))).mono ?_
  rintro e w3 ⟨v, tp, p, rfl, hb⟩
  have hB3 := bel_step hB2 hb hB2.size
  clear hb h2 hB2
  go_wp2
  go_ret2
  exact ⟨rfl, hB3⟩
set_option maxRecDepth 100000 in
set_option maxHeartbeats 1000000 in
theorem realRead_i_nocut_ny (t : ByteArray) (ht : t.size ≤ 1048576) (s1 : (t.toList == [110, 97, 110]) = false) (s2 : (t.toList == [105, 110, 102]) = false) (s3 : (t.toList == [45, 105, 110, 102]) = false) (s4 : (t.toList == [48]) = false) (s5 : (t.toList == [45, 48]) = false) (ah be : ByteArray) (hz : ah.size + be.size ≤ 1048576) (hcc : Lib.cut t.data.toList [42, 50, 94] = (ah.data.toList, be.data.toList, false)) (h10 : ∀ v, Lib.atoiAll ah.data.toList ≠ .ok v) (ex : Int) (h20 : Lib.atoiAll be.data.toList = .ok ex)  (w : World) (henv : REnv w) : Calls Tryd.prog 7 #[.string t] w fun e w' => e = .returned (.tuple #[.float .f64 0, .bool false]) ∧ Below w.heap.size w w' := by
  have hcut : ∀ w', Below w.heap.size w w' → Calls Tryd.prog 20 #[.string t, .string ⟨#[42, 50, 94]⟩] w' fun e w'' => e = .returned (.tuple #[.string ah, .string be, .bool false]) ∧ Below w'.heap.size w' w'' := fun w' hb => cut_any t ah be false (by omega) hcc w' (henv.kept hb)
  have h1 : ∀ w', Below w.heap.size w w' → Calls Tryd.prog 21 #[.string ah] w' fun e w'' => ∃ v tp p, e = .returned (.tuple #[.int .i64 v, .iface tp p]) ∧ Below w'.heap.size w' w'' := fun w' hb => atoi_not ah (by omega) h10 w' (henv.kept hb)
  have h2 : ∀ w', Below w.heap.size w w' → Calls Tryd.prog 21 #[.string be] w' fun e w'' => e = .returned (.tuple #[.int .i64 ex, .nilIface]) ∧ Below w'.heap.size w' w'' := fun w' hb => atoi_yes be (by omega) ex h20 w'
  clear hcc h10 h20 henv
  go_enter Tryd.func7, Tryd.ntmps7
  go_wp2_with fail
  refine (hcut _ (by repeat (first | exact Below.refl _ _ | assumption | refine Below.setCell ?_ (by first | (simp; done) | (simp; omega) | omega) _ | refine Below.alloc ?_ (by first | (simp; done) | (simp; omega) | omega) _ | refine bel_drewN ?_ _ | refine Below.drew ?_))).mono ?_
  rintro e w1 ⟨rfl, hb⟩
  have hB1 : Below w.heap.size w w1 := by first | exact hb | exact bel_step (by repeat (first | exact Below.refl _ _ | assumption | refine Below.setCell ?_ (by first | (simp; done) | (simp; omega) | omega) _ | refine Below.alloc ?_ (by first | (simp; done) | (simp; omega) | omega) _ | refine bel_drewN ?_ _ | refine Below.drew ?_)) hb (by simp)
  clear hb hcut
  go_wp2_with fail
  refine (h1 _ (by repeat (first | exact Below.refl _ _ | assumption | refine Below.setCell ?_ (by first | (simp; done) | (simp; omega) | omega) _ | refine Below.alloc ?_ (by first | (simp; done) | (simp; omega) | omega) _ | refine bel_drewN ?_ _ | refine Below.drew ?_))).mono ?_
  rintro e w2 ⟨v, tp, p, rfl, hb⟩
  have hB2 := bel_step hB1 hb hB1.size
  clear hb h1 hB1
  go_wp2_with fail
  refine (h2 _ (by repeat (first | exact Below.refl _ _ | assumption | refine Below.setCell ?_ (by first | (simp; done) | (simp; omega) | omega) _ | refine Below.alloc ?_ (by first | (simp; done) | (simp; omega) | omega) _ | refine bel_drewN ?_ _ | refine Below.drew ?_))).mono ?_
  rintro e w3 ⟨rfl, hb⟩
  have hB3 := bel_step hB2 hb hB2.size
  clear hb h2 hB2
  go_wp2
  go_ret2
  exact ⟨rfl, hB3⟩
set_option maxRecDepth 100000 in
set_option maxHeartbeats 1000000 in
theorem realRead_i_nocut_nn (t : ByteArray) (ht : t.size ≤ 1048576) (s1 : (t.toList == [110, 97, 110]) = false) (s2 : (t.toList == [105, 110, 102]) = false) (s3 : (t.toList == [45, 105, 110, 102]) = false) (s4 : (t.toList == [48]) = false) (s5 : (t.toList == [45, 48]) = false) (ah be : ByteArray) (hz : ah.size + be.size ≤ 1048576) (hcc : Lib.cut t.data.toList [42, 50, 94] = (ah.data.toList, be.data.toList, false)) (h10 : ∀ v, Lib.atoiAll ah.data.toList ≠ .ok v) (h20 : ∀ v, Lib.atoiAll be.data.toList ≠ .ok v)  (w : World) (henv : REnv w) : Calls Tryd.prog 7 #[.string t] w fun e w' => e = .returned (.tuple #[.float .f64 0, .bool false]) ∧ Below w.heap.size w w' := by
  have hcut : ∀ w', Below w.heap.size w w' → Calls Tryd.prog 20 #[.string t, .string ⟨#[42, 50, 94]⟩] w' fun e w'' => e = .returned (.tuple #[.string ah, .string be, .bool false]) ∧ Below w'.heap.size w' w'' := fun w' hb => cut_any t ah be false (by omega) hcc w' (henv.kept hb)
  have h1 : ∀ w', Below w.heap.size w w' → Calls Tryd.prog 21 #[.string ah] w' fun e w'' => ∃ v tp p, e = .returned (.tuple #[.int .i64 v, .iface tp p]) ∧ Below w'.heap.size w' w'' := fun w' hb => atoi_not ah (by omega) h10 w' (henv.kept hb)
  have h2 : ∀ w', Below w.heap.size w w' → Calls Tryd.prog 21 #[.string be] w' fun e w'' => ∃ v tp p, e = .returned (.tuple #[.int .i64 v, .iface tp p]) ∧ Below w'.heap.size w' w'' := fun w' hb => atoi_not be (by omega) h20 w' (henv.kept hb)
  clear hcc h10 h20 henv
  go_enter Tryd.func7, Tryd.ntmps7
  go_wp2_with fail
  refine (hcut _ (by repeat (first | exact Below.refl _ _ | assumption | refine Below.setCell ?_ (by first | (simp; done) | (simp; omega) | omega) _ | refine Below.alloc ?_ (by first | (simp; done) | (simp; omega) | omega) _ | refine bel_drewN ?_ _ | refine Below.drew ?_))).mono ?_
  rintro e w1 ⟨rfl, hb⟩
  have hB1 : Below w.heap.size w w1 := by first | exact hb | exact bel_step (by repeat (first | exact Below.refl _ _ | assumption | refine Below.setCell ?_ (by first | (simp; done) | (simp; omega) | omega) _ | refine Below.alloc ?_ (by first | (simp; done) | (simp; omega) | omega) _ | refine bel_drewN ?_ _ | refine Below.drew ?_)) hb (by simp)
  clear hb hcut
  go_wp2_with fail
  refine (h1 _ (by repeat (first | exact Below.refl _ _ | assumption | refine Below.setCell ?_ (by first | (simp; done) | (simp; omega) | omega) _ | refine Below.alloc ?_ (by first | (simp; done) | (simp; omega) | omega) _ | refine bel_drewN ?_ _ | refine Below.drew ?_))).mono ?_
  rintro e w2 ⟨v, tp, p, rfl, hb⟩
  have hB2 := bel_step hB1 hb hB1.size
  clear hb h1 hB1
  go_wp2_with fail
  refine (h2 _ (by repeat (first | exact Below.refl _ _ | assumption | refine Below.setCell ?_ (by first | (simp; done) | (simp; omega) | omega) _ | refine Below.alloc ?_ (by first | (simp; done) | (simp; omega) | omega) _ | refine bel_drewN ?_ _ | refine Below.drew ?_))).mono ?_
  rintro e w3 ⟨v, tp, p, rfl, hb⟩
  have hB3 := bel_step hB2 hb hB2.size
  clear hb h2 hB2
  go_wp2
  go_ret2
  exact ⟨rfl, hB3⟩
set_option maxRecDepth 100000 in
set_option maxHeartbeats 1000000 in
theorem realRead_i_bad_n (t : ByteArray) (ht : t.size ≤ 1048576) (s1 : (t.toList == [110, 97, 110]) = false) (s2 : (t.toList == [105, 110, 102]) = false) (s3 : (t.toList == [45, 105, 110, 102]) = false) (s4 : (t.toList == [48]) = false) (s5 : (t.toList == [45, 48]) = false) (ah be : ByteArray) (hz : ah.size + be.size ≤ 1048576) (hcc : Lib.cut t.data.toList [42, 50, 94] = (ah.data.toList, be.data.toList, true)) (h10 : ∀ v, Lib.atoiAll ah.data.toList ≠ .ok v) (ex : Int) (h20 : Lib.atoiAll be.data.toList = .ok ex)  (w : World) (henv : REnv w) : Calls Tryd.prog 7 #[.string t] w fun e w' => e = .returned (.tuple #[.float .f64 0, .bool false]) ∧ Below w.heap.size w w' := by
  have hcut : ∀ w', Below w.heap.size w w' → Calls Tryd.prog 20 #[.string t, .string ⟨#[42, 50, 94]⟩] w' fun e w'' => e = .returned (.tuple #[.string ah, .string be, .bool true]) ∧ Below w'.heap.size w' w'' := fun w' hb => cut_any t ah be true (by omega) hcc w' (henv.kept hb)
  have h1 : ∀ w', Below w.heap.size w w' → Calls Tryd.prog 21 #[.string ah] w' fun e w'' => ∃ v tp p, e = .returned (.tuple #[.int .i64 v, .iface tp p]) ∧ Below w'.heap.size w' w'' := fun w' hb => atoi_not ah (by omega) h10 w' (henv.kept hb)
  have h2 : ∀ w', Below w.heap.size w w' → Calls Tryd.prog 21 #[.string be] w' fun e w'' => e = .returned (.tuple #[.int .i64 ex, .nilIface]) ∧ Below w'.heap.size w' w'' := fun w' hb => atoi_yes be (by omega) ex h20 w'
  clear hcc h10 h20 henv
  go_enter Tryd.func7, Tryd.ntmps7
  go_wp2_with fail
  refine (hcut _ (by repeat (first | exact Below.refl _ _ | assumption | refine Below.setCell ?_ (by first | (simp; done) | (simp; omega) | omega) _ | refine Below.alloc ?_ (by first | (simp; done) | (simp; omega) | omega) _ | refine bel_drewN ?_ _ | refine Below.drew ?_))).mono ?_
  rintro e w1 ⟨rfl, hb⟩
  have hB1 : Below w.heap.size w w1 := by first | exact hb | exact bel_step (by repeat (first | exact Below.refl _ _ | assumption | refine Below.setCell ?_ (by first | (simp; done) | (simp; omega) | omega) _ | refine Below.alloc ?_ (by first | (simp; done) | (simp; omega) | omega) _ | refine bel_drewN ?_ _ | refine Below.drew ?_)) hb (by simp)
  clear hb hcut
  go_wp2_with fail
  refine (h1 _ (by repeat (first | exact Below.refl _ _ | assumption | refine Below.setCell ?_ (by first | (simp; done) | (simp; omega) | omega) _ | refine Below.alloc ?_ (by first | (simp; done) | (simp; omega) | omega) _ | refine bel_drewN ?_ _ | refine Below.drew ?_))).mono ?_
  rintro e w2 ⟨v, tp, p, rfl, hb⟩
  have hB2 := bel_step hB1 hb hB1.size
  clear hb h1 hB1
  go_wp2_with fail
  refine (h2 _ (by repeat (first | exact Below.refl _ _ | assumption | refine Below.setCell ?_ (by first | (simp; done) | (simp; omega) | omega) _ | refine Below.alloc ?_ (by first | (simp; done) | (simp; omega) | omega) _ | refine bel_drewN ?_ _ | refine Below.drew ?_))).mono ?_
  rintro e w3 ⟨rfl, hb⟩
  have hB3 := bel_step hB2 hb hB2.size
  clear hb h2 hB2
  go_wp2
  go_ret2
  exact ⟨rfl, hB3⟩
set_option maxRecDepth 100000 in
set_option maxHeartbeats 1000000 in
theorem realRead_i_bad_nn (t : ByteArray) (ht : t.size ≤ 1048576) (s1 : (t.toList == [110, 97, 110]) = false) (s2 : (t.toList == [105, 110, 102]) = false) (s3 : (t.toList == [45, 105, 110, 102]) = false) (s4 : (t.toList == [48]) = false) (s5 : (t.toList == [45, 48]) = false) (ah be : ByteArray) (hz : ah.size + be.size ≤ 1048576) (hcc : Lib.cut t.data.toList [42, 50, 94] = (ah.data.toList, be.data.toList, true)) (h10 : ∀ v, Lib.atoiAll ah.data.toList ≠ .ok v) (h20 : ∀ v, Lib.atoiAll be.data.toList ≠ .ok v)  (w : World) (henv : REnv w) : Calls Tryd.prog 7 #[.string t] w fun e w' => e = .returned (.tuple #[.float .f64 0, .bool false]) ∧ Below w.heap.size w w' := by
  have hcut : ∀ w', Below w.heap.size w w' → Calls Tryd.prog 20 #[.string t, .string ⟨#[42, 50, 94]⟩] w' fun e w'' => e = .returned (.tuple #[.string ah, .string be, .bool true]) ∧ Below w'.heap.size w' w'' := fun w' hb => cut_any t ah be true (by omega) hcc w' (henv.kept hb)
  have h1 : ∀ w', Below w.heap.size w w' → Calls Tryd.prog 21 #[.string ah] w' fun e w'' => ∃ v tp p, e = .returned (.tuple #[.int .i64 v, .iface tp p]) ∧ Below w'.heap.size w' w'' := fun w' hb => atoi_not ah (by omega) h10 w' (henv.kept hb)
  have h2 : ∀ w', Below w.heap.size w w' → Calls Tryd.prog 21 #[.string be] w' fun e w'' => ∃ v tp p, e = .returned (.tuple #[.int .i64 v, .iface tp p]) ∧ Below w'.heap.size w' w'' := fun w' hb => atoi_not be (by omega) h20 w' (henv.kept hb)
  clear hcc h10 h20 henv
  go_enter Tryd.func7, Tryd.ntmps7
  go_wp2_with fail
  refine (hcut _ (by repeat (first | exact Below.refl _ _ | assumption | refine Below.setCell ?_ (by first | (simp; done) | (simp; omega) | omega) _ | refine Below.alloc ?_ (by first | (simp; done) | (simp; omega) | omega) _ | refine bel_drewN ?_ _ | refine Below.drew ?_))).mono ?_
  rintro e w1 ⟨rfl, hb⟩
  have hB1 : Below w.heap.size w w1 := by first | exact hb | exact bel_step (by repeat (first | exact Below.refl _ _ | assumption | refine Below.setCell ?_ (by first | (simp; done) | (simp; omega) | omega) _ | refine Below.alloc ?_ (by first | (simp; done) | (simp; omega) | omega) _ | refine bel_drewN ?_ _ | refine Below.drew ?_)) hb (by simp)
  clear hb hcut
  go_wp2_with fail
  refine (h1 _ (by repeat (first | exact Below.refl _ _ | assumption | refine Below.setCell ?_ (by first | (simp; done) | (simp; omega) | omega) _ | refine Below.alloc ?_ (by first | (simp; done) | (simp; omega) | omega) _ | refine bel_drewN ?_ _ | refine Below.drew ?_))).mono ?_
  rintro e w2 ⟨v, tp, p, rfl, hb⟩
  have hB2 := bel_step hB1 hb hB1.size
  clear hb h1 hB1
  go_wp2_with fail
  refine (h2 _ (by repeat (first | exact Below.refl _ _ | assumption | refine Below.setCell ?_ (by first | (simp; done) | (simp; omega) | omega) _ | refine Below.alloc ?_ (by first | (simp; done) | (simp; omega) | omega) _ | refine bel_drewN ?_ _ | refine Below.drew ?_))).mono ?_
  rintro e w3 ⟨v, tp, p, rfl, hb⟩
  have hB3 := bel_step hB2 hb hB2.size
  clear hb h2 hB2
  go_wp2
  go_ret2
  exact ⟨rfl, hB3⟩
set_option maxRecDepth 100000 in
set_option maxHeartbeats 1000000 in
theorem realRead_i_bad_yn (t : ByteArray) (ht : t.size ≤ 1048576) (s1 : (t.toList == [110, 97, 110]) = false) (s2 : (t.toList == [105, 110, 102]) = false) (s3 : (t.toList == [45, 105, 110, 102]) = false) (s4 : (t.toList == [48]) = false) (s5 : (t.toList == [45, 48]) = false) (ah be : ByteArray) (hz : ah.size + be.size ≤ 1048576) (hcc : Lib.cut t.data.toList [42, 50, 94] = (ah.data.toList, be.data.toList, true)) (n : Int) (h10 : Lib.atoiAll ah.data.toList = .ok n) (h20 : ∀ v, Lib.atoiAll be.data.toList ≠ .ok v)  (w : World) (henv : REnv w) : Calls Tryd.prog 7 #[.string t] w fun e w' => e = .returned (.tuple #[.float .f64 0, .bool false]) ∧ Below w.heap.size w w' := by
  have hcut : ∀ w', Below w.heap.size w w' → Calls Tryd.prog 20 #[.string t, .string ⟨#[42, 50, 94]⟩] w' fun e w'' => e = .returned (.tuple #[.string ah, .string be, .bool true]) ∧ Below w'.heap.size w' w'' := fun w' hb => cut_any t ah be true (by omega) hcc w' (henv.kept hb)
  have h1 : ∀ w', Below w.heap.size w w' → Calls Tryd.prog 21 #[.string ah] w' fun e w'' => e = .returned (.tuple #[.int .i64 n, .nilIface]) ∧ Below w'.heap.size w' w'' := fun w' hb => atoi_yes ah (by omega) n h10 w'
  have h2 : ∀ w', Below w.heap.size w w' → Calls Tryd.prog 21 #[.string be] w' fun e w'' => ∃ v tp p, e = .returned (.tuple #[.int .i64 v, .iface tp p]) ∧ Below w'.heap.size w' w'' := fun w' hb => atoi_not be (by omega) h20 w' (henv.kept hb)
  clear hcc h10 h20 henv
  go_enter Tryd.func7, Tryd.ntmps7
  go_wp2_with fail
  refine (hcut _ (by repeat (first | exact Below.refl _ _ | assumption | refine Below.setCell ?_ (by first | (simp; done) | (simp; omega) | omega) _ | refine Below.alloc ?_ (by first | (simp; done) | (simp; omega) | omega) _ | refine bel_drewN ?_ _ | refine Below.drew ?_))).mono ?_
  rintro e w1 ⟨rfl, hb⟩
  have hB1 : Below w.heap.size w w1 := by first | exact hb | exact bel_step (by repeat (first | exact Below.refl _ _ | assumption | refine Below.setCell ?_ (by first | (simp; done) | (simp; omega) | omega) _ | refine Below.alloc ?_ (by first | (simp; done) | (simp; omega) | omega) _ | refine bel_drewN ?_ _ | refine Below.drew ?_)) hb (by simp)
  clear hb hcut
  go_wp2_with fail
  refine (h1 _ (by repeat (first | exact Below.refl _ _ | assumption | refine Below.setCell ?_ (by first | (simp; done) | (simp; omega) | omega) _ | refine Below.alloc ?_ (by first | (simp; done) | (simp; omega) | omega) _ | refine bel_drewN ?_ _ | refine Below.drew ?_))).mono ?_
  rintro e w2 ⟨rfl, hb⟩
  have hB2 := bel_step hB1 hb hB1.size
  clear hb h1 hB1
  go_wp2_with fail
  refine (h2 _ (by repeat (first | exact Below.refl _ _ | assumption | refine Below.setCell ?_ (by first | (simp; done) | (simp; omega) | omega) _ | refine Below.alloc ?_ (by first | (simp; done) | (simp; omega) | omega) _ | refine bel_drewN ?_ _ | refine Below.drew ?_))).mono ?_
  rintro e w3 ⟨v, tp, p, rfl, hb⟩
  have hB3 := bel_step hB2 hb hB2.size
  clear hb h2 hB2
  go_wp2
  go_ret2
  exact ⟨rfl, hB3⟩
def GPost (t : ByteArray) (n ex : Int) (w : World) (e : Ending) (w' : World) : Prop := ∃ (r b : Nat) (ok : Bool), e = .returned (.tuple #[.float .f64 b, .bool ok]) ∧ Got n ex r ∧ ((ok = true ∧ b = r ∧ txt r = t) ∨ (ok = false ∧ b = 0 ∧ ¬ txt r = t)) ∧ Below w.heap.size w w'
set_option maxRecDepth 100000 in
set_option maxHeartbeats 1000000 in
theorem realRead_i_far_n (t : ByteArray) (ht : t.size ≤ 1048576) (s1 : (t.toList == [110, 97, 110]) = false) (s2 : (t.toList == [105, 110, 102]) = false) (s3 : (t.toList == [45, 105, 110, 102]) = false) (s4 : (t.toList == [48]) = false) (s5 : (t.toList == [45, 48]) = false) (ah be : ByteArray) (hz : ah.size + be.size ≤ 1048576) (hcc : Lib.cut t.data.toList [42, 50, 94] = (ah.data.toList, be.data.toList, true)) (n : Int) (h10 : Lib.atoiAll ah.data.toList = .ok n) (ex : Int) (h20 : Lib.atoiAll be.data.toList = .ok ex) (hw : (decide (-9007199254740992 ≤ n) && decide (n ≤ 9007199254740992)) = false) (w : World) (henv : REnv w) : Calls Tryd.prog 7 #[.string t] w fun e w' => e = .returned (.tuple #[.float .f64 0, .bool false]) ∧ Below w.heap.size w w' := by
  have hcut : ∀ w', Below w.heap.size w w' → Calls Tryd.prog 20 #[.string t, .string ⟨#[42, 50, 94]⟩] w' fun e w'' => e = .returned (.tuple #[.string ah, .string be, .bool true]) ∧ Below w'.heap.size w' w'' := fun w' hb => cut_any t ah be true (by omega) hcc w' (henv.kept hb)
  have h1 : ∀ w', Below w.heap.size w w' → Calls Tryd.prog 21 #[.string ah] w' fun e w'' => e = .returned (.tuple #[.int .i64 n, .nilIface]) ∧ Below w'.heap.size w' w'' := fun w' hb => atoi_yes ah (by omega) n h10 w'
  have h2 : ∀ w', Below w.heap.size w w' → Calls Tryd.prog 21 #[.string be] w' fun e w'' => e = .returned (.tuple #[.int .i64 ex, .nilIface]) ∧ Below w'.heap.size w' w'' := fun w' hb => atoi_yes be (by omega) ex h20 w'
  clear hcc h10 h20 henv
  go_enter Tryd.func7, Tryd.ntmps7
  go_wp2_with fail
  refine (hcut _ (by repeat (first | exact Below.refl _ _ | assumption | refine Below.setCell ?_ (by first | (simp; done) | (simp; omega) | omega) _ | refine Below.alloc ?_ (by first | (simp; done) | (simp; omega) | omega) _ | refine bel_drewN ?_ _ | refine Below.drew ?_))).mono ?_
  rintro e w1 ⟨rfl, hb⟩
  have hB1 : Below w.heap.size w w1 := by first | exact hb | exact bel_step (by repeat (first | exact Below.refl _ _ | assumption | refine Below.setCell ?_ (by first | (simp; done) | (simp; omega) | omega) _ | refine Below.alloc ?_ (by first | (simp; done) | (simp; omega) | omega) _ | refine bel_drewN ?_ _ | refine Below.drew ?_)) hb (by simp)
  clear hb hcut
  go_wp2_with fail
  refine (h1 _ (by repeat (first | exact Below.refl _ _ | assumption | refine Below.setCell ?_ (by first | (simp; done) | (simp; omega) | omega) _ | refine Below.alloc ?_ (by first | (simp; done) | (simp; omega) | omega) _ | refine bel_drewN ?_ _ | refine Below.drew ?_))).mono ?_
  rintro e w2 ⟨rfl, hb⟩
  have hB2 := bel_step hB1 hb hB1.size
  clear hb h1 hB1
  go_wp2_with fail
  refine (h2 _ (by repeat (first | exact Below.refl _ _ | assumption | refine Below.setCell ?_ (by first | (simp; done) | (simp; omega) | omega) _ | refine Below.alloc ?_ (by first | (simp; done) | (simp; omega) | omega) _ | refine bel_drewN ?_ _ | refine Below.drew ?_))).mono ?_
  rintro e w3 ⟨rfl, hb⟩
  have hB3 := bel_step hB2 hb hB2.size
  clear hb h2 hB2
  go_wp2_with fail
  refine (within_any _ _ _ _).mono ?_
  rintro e w' ⟨rfl, rfl⟩
  rw [hw]
  go_wp2
  go_ret2
  exact ⟨rfl, hB3⟩
set_option maxRecDepth 100000 in
set_option maxHeartbeats 1000000 in
theorem realRead_i_far_e (t : ByteArray) (ht : t.size ≤ 1048576) (s1 : (t.toList == [110, 97, 110]) = false) (s2 : (t.toList == [105, 110, 102]) = false) (s3 : (t.toList == [45, 105, 110, 102]) = false) (s4 : (t.toList == [48]) = false) (s5 : (t.toList == [45, 48]) = false) (ah be : ByteArray) (hz : ah.size + be.size ≤ 1048576) (hcc : Lib.cut t.data.toList [42, 50, 94] = (ah.data.toList, be.data.toList, true)) (n : Int) (h10 : Lib.atoiAll ah.data.toList = .ok n) (ex : Int) (h20 : Lib.atoiAll be.data.toList = .ok ex) (hw0 : (decide (-9007199254740992 ≤ n) && decide (n ≤ 9007199254740992)) = true) (hw : (decide (-2000 ≤ ex) && decide (ex ≤ 2000)) = false) (w : World) (henv : REnv w) : Calls Tryd.prog 7 #[.string t] w fun e w' => e = .returned (.tuple #[.float .f64 0, .bool false]) ∧ Below w.heap.size w w' := by
  have hcut : ∀ w', Below w.heap.size w w' → Calls Tryd.prog 20 #[.string t, .string ⟨#[42, 50, 94]⟩] w' fun e w'' => e = .returned (.tuple #[.string ah, .string be, .bool true]) ∧ Below w'.heap.size w' w'' := fun w' hb => cut_any t ah be true (by omega) hcc w' (henv.kept hb)
  have h1 : ∀ w', Below w.heap.size w w' → Calls Tryd.prog 21 #[.string ah] w' fun e w'' => e = .returned (.tuple #[.int .i64 n, .nilIface]) ∧ Below w'.heap.size w' w'' := fun w' hb => atoi_yes ah (by omega) n h10 w'
  have h2 : ∀ w', Below w.heap.size w w' → Calls Tryd.prog 21 #[.string be] w' fun e w'' => e = .returned (.tuple #[.int .i64 ex, .nilIface]) ∧ Below w'.heap.size w' w'' := fun w' hb => atoi_yes be (by omega) ex h20 w'
  clear hcc h10 h20 henv
  go_enter Tryd.func7, Tryd.ntmps7
  go_wp2_with fail
  refine (hcut _ (by repeat (first | exact Below.refl _ _ | assumption | refine Below.setCell ?_ (by first | (simp; done) | (simp; omega) | omega) _ | refine Below.alloc ?_ (by first | (simp; done) | (simp; omega) | omega) _ | refine bel_drewN ?_ _ | refine Below.drew ?_))).mono ?_
  rintro e w1 ⟨rfl, hb⟩
  have hB1 : Below w.heap.size w w1 := by first | exact hb | exact bel_step (by repeat (first | exact Below.refl _ _ | assumption | refine Below.setCell ?_ (by first | (simp; done) | (simp; omega) | omega) _ | refine Below.alloc ?_ (by first | (simp; done) | (simp; omega) | omega) _ | refine bel_drewN ?_ _ | refine Below.drew ?_)) hb (by simp)
  clear hb hcut
  go_wp2_with fail
  refine (h1 _ (by repeat (first | exact Below.refl _ _ | assumption | refine Below.setCell ?_ (by first | (simp; done) | (simp; omega) | omega) _ | refine Below.alloc ?_ (by first | (simp; done) | (simp; omega) | omega) _ | refine bel_drewN ?_ _ | refine Below.drew ?_))).mono ?_
  rintro e w2 ⟨rfl, hb⟩
  have hB2 := bel_step hB1 hb hB1.size
  clear hb h1 hB1
  go_wp2_with fail
  refine (h2 _ (by repeat (first | exact Below.refl _ _ | assumption | refine Below.setCell ?_ (by first | (simp; done) | (simp; omega) | omega) _ | refine Below.alloc ?_ (by first | (simp; done) | (simp; omega) | omega) _ | refine bel_drewN ?_ _ | refine Below.drew ?_))).mono ?_
  rintro e w3 ⟨rfl, hb⟩
  have hB3 := bel_step hB2 hb hB2.size
  clear hb h2 hB2
  go_wp2_with fail
  refine (within_any _ _ _ _).mono ?_
  rintro e w' ⟨rfl, rfl⟩
  rw [hw0]
  go_wp2_with fail
  refine (within_any _ _ _ _).mono ?_
  rintro e w' ⟨rfl, rfl⟩
  rw [hw]
  go_wp2
  go_ret2
  exact ⟨rfl, hB3⟩
set_option maxRecDepth 100000 in
set_option maxHeartbeats 1000000 in
theorem realRead_i_good (t : ByteArray) (ht : t.size ≤ 1048576) (s1 : (t.toList == [110, 97, 110]) = false) (s2 : (t.toList == [105, 110, 102]) = false) (s3 : (t.toList == [45, 105, 110, 102]) = false) (s4 : (t.toList == [48]) = false) (s5 : (t.toList == [45, 48]) = false) (ah be : ByteArray) (hz : ah.size + be.size ≤ 1048576) (hcc : Lib.cut t.data.toList [42, 50, 94] = (ah.data.toList, be.data.toList, true)) (n : Int) (h10 : Lib.atoiAll ah.data.toList = .ok n) (ex : Int) (h20 : Lib.atoiAll be.data.toList = .ok ex) (hw0 : (decide (-9007199254740992 ≤ n) && decide (n ≤ 9007199254740992)) = true) (hw : (decide (-2000 ≤ ex) && decide (ex ≤ 2000)) = true) (b1 : n.natAbs ≤ 9007199254740992) (b2 : -2000 ≤ ex) (b3 : ex ≤ 2000) (w : World) (henv : REnv w) : Calls Tryd.prog 7 #[.string t] w (GPost t n ex w) := by
  have hcut : ∀ w', Below w.heap.size w w' → Calls Tryd.prog 20 #[.string t, .string ⟨#[42, 50, 94]⟩] w' fun e w'' => e = .returned (.tuple #[.string ah, .string be, .bool true]) ∧ Below w'.heap.size w' w'' := fun w' hb => cut_any t ah be true (by omega) hcc w' (henv.kept hb)
  have h1 : ∀ w', Below w.heap.size w w' → Calls Tryd.prog 21 #[.string ah] w' fun e w'' => e = .returned (.tuple #[.int .i64 n, .nilIface]) ∧ Below w'.heap.size w' w'' := fun w' hb => atoi_yes ah (by omega) n h10 w'
  have h2 : ∀ w', Below w.heap.size w w' → Calls Tryd.prog 21 #[.string be] w' fun e w'' => e = .returned (.tuple #[.int .i64 ex, .nilIface]) ∧ Below w'.heap.size w' w'' := fun w' hb => atoi_yes be (by omega) ex h20 w'
  have hL := fun w => Ldexp_any n ex b1 b2 b3 w
  have htx : ∀ (b : Nat) (hb : b < 18446744073709551616) w', Below w.heap.size w w' → Calls Tryd.prog 10 #[.float .f64 b] w' fun e w'' => e = .returned (.string (txt b)) ∧ Below w'.heap.size w' w'' := fun b hb w' hbl => realText_i_any b hb w' (henv.kept hbl).tab
  clear hcc h10 h20 henv
  go_enter Tryd.func7, Tryd.ntmps7
  go_wp2_with fail
  refine (hcut _ (by repeat (first | exact Below.refl _ _ | assumption | refine Below.setCell ?_ (by first | (simp; done) | (simp; omega) | omega) _ | refine Below.alloc ?_ (by first | (simp; done) | (simp; omega) | omega) _ | refine bel_drewN ?_ _ | refine Below.drew ?_))).mono ?_
  rintro e w1 ⟨rfl, hb⟩
  have hB1 : Below w.heap.size w w1 := by first | exact hb | exact bel_step (by repeat (first | exact Below.refl _ _ | assumption | refine Below.setCell ?_ (by first | (simp; done) | (simp; omega) | omega) _ | refine Below.alloc ?_ (by first | (simp; done) | (simp; omega) | omega) _ | refine bel_drewN ?_ _ | refine Below.drew ?_)) hb (by simp)
  clear hb hcut
  go_wp2_with fail
  refine (h1 _ (by repeat (first | exact Below.refl _ _ | assumption | refine Below.setCell ?_ (by first | (simp; done) | (simp; omega) | omega) _ | refine Below.alloc ?_ (by first | (simp; done) | (simp; omega) | omega) _ | refine bel_drewN ?_ _ | refine Below.drew ?_))).mono ?_
  rintro e w2 ⟨rfl, hb⟩
  have hB2 := bel_step hB1 hb hB1.size
  clear hb h1 hB1
  go_wp2_with fail
  refine (h2 _ (by repeat (first | exact Below.refl _ _ | assumption | refine Below.setCell ?_ (by first | (simp; done) | (simp; omega) | omega) _ | refine Below.alloc ?_ (by first | (simp; done) | (simp; omega) | omega) _ | refine bel_drewN ?_ _ | refine Below.drew ?_))).mono ?_
  rintro e w3 ⟨rfl, hb⟩
  have hB3 := bel_step hB2 hb hB2.size
  clear hb h2 hB2
  go_wp2_with fail
  refine (within_any _ _ _ _).mono ?_
  rintro e w' ⟨rfl, rfl⟩
  rw [hw0]
  go_wp2_with fail
  refine (within_any _ _ _ _).mono ?_
  rintro e w' ⟨rfl, rfl⟩
  rw [hw]
  clear hw0 hw b1 b2 b3
  go_wp2_with fail
  refine (hL _).mono ?_
  rintro e w' ⟨r, rfl, hr, rfl⟩
  clear hL
  have htx := htx r hr.1
  have HR := Lib.hid hr
  have HT : Hid ((txt r).toList = t.toList ↔ txt r = t) := Lib.hid (by rw [ByteArray.toList_eq, ByteArray.toList_eq]; exact ⟨fun h => ItoP.ext h, fun h => by rw [h]⟩)
  clear hr
  generalize hX : txt r = x at htx HT
  have HX := Lib.hid hX
  clear hX
  go_wp2_with fail
  refine (htx _ hB3).mono ?_
  rintro e w4 ⟨rfl, hb⟩
  have hB4 := bel_step hB3 hb hB3.size
  clear htx hb hB3
  by_cases hq : x.toList = t.toList
  · have q1 : (x.toList == t.toList) = true := beq_iff_eq.2 hq
    clear hq
    go_wp2
    go_ret2
    exact ⟨r, r, true, rfl, HR.out, .inl ⟨rfl, rfl, HX.out.trans (HT.out.1 (beq_iff_eq.1 q1))⟩, hB4⟩
  · have q1 : (x.toList == t.toList) = false := beq_eq_false_iff_ne.2 hq
    clear hq
    go_wp2
    go_ret2
    exact ⟨r, 0, false, rfl, HR.out, .inr ⟨rfl, rfl, fun h => beq_eq_false_iff_ne.1 q1 (HT.out.2 (HX.out.symm.trans h))⟩, hB4⟩
theorem cut_len (l s : List UInt8) : (Lib.cut l s).1.length + (Lib.cut l s).2.1.length ≤ l.length := by
  unfold Lib.cut
  split
  · simp only [List.length_take, List.length_drop]
    omega
  · simp
theorem ok_or (l : List UInt8) : (∃ v, Lib.atoiAll l = .ok v) ∨ ∀ v, Lib.atoiAll l ≠ .ok v := by
  by_cases h : ∃ v, Lib.atoiAll l = .ok v
  · exact .inl h
  · exact .inr fun v hv => h ⟨v, hv⟩
theorem realRead_i_any (t : ByteArray) (ht : t.size ≤ 1048576) (w : World) (henv : REnv w) : Calls Tryd.prog 7 #[.string t] w (RPost t w) := by
  by_cases h1 : t.toList = [110, 97, 110]
  · exact realRead_i_nan t h1 w
  by_cases h2 : t.toList = [105, 110, 102]
  · exact realRead_i_inf t h2 w
  by_cases h3 : t.toList = [45, 105, 110, 102]
  · exact realRead_i_ninf t h3 w
  by_cases h4 : t.toList = [48]
  · exact realRead_i_zero t h4 w
  by_cases h5 : t.toList = [45, 48]
  · exact realRead_i_nzero t h5 w
  have hns : ¬ Special t := by
    rintro (h | h | h | h | h)
    · exact h1 (tl_eq.2 h)
    · exact h2 (tl_eq.2 h)
    · exact h3 (tl_eq.2 h)
    · exact h4 (tl_eq.2 h)
    · exact h5 (tl_eq.2 h)
  have f1 := beq_eq_false_iff_ne.2 h1
  have f2 := beq_eq_false_iff_ne.2 h2
  have f3 := beq_eq_false_iff_ne.2 h3
  have f4 := beq_eq_false_iff_ne.2 h4
  have f5 := beq_eq_false_iff_ne.2 h5
  have no : (∀ c, ¬ RealG.Good t c) → Calls Tryd.prog 7 #[.string t] w (fun e w' => e = .returned (.tuple #[.float .f64 0, .bool false]) ∧ Below w.heap.size w w') → Calls Tryd.prog 7 #[.string t] w (RPost t w) := fun hg hc => hc.mono fun e w' ⟨he, hb⟩ => ⟨0, false, he, ⟨by decide, .inr ⟨rfl, rfl, no_good hns hg⟩⟩, hb⟩
  obtain ⟨⟨la, lb, d⟩, hcut⟩ : ∃ p, Lib.cut t.data.toList [42, 50, 94] = p := ⟨_, rfl⟩
  have hlen := cut_len t.data.toList [42, 50, 94]
  rw [hcut] at hlen
  obtain ⟨ah, hah⟩ : ∃ ah : ByteArray, ah.data.toList = la := ⟨⟨la.toArray⟩, rfl⟩
  obtain ⟨be, hbe⟩ : ∃ be : ByteArray, be.data.toList = lb := ⟨⟨lb.toArray⟩, rfl⟩
  have hz : ah.size + be.size ≤ 1048576 := by
    have e1 : ah.size = ah.data.toList.length := rfl
    have e2 : be.size = be.data.toList.length := rfl
    have e3 : t.size = t.data.toList.length := rfl
    have e4 : la.length + lb.length ≤ t.data.toList.length := hlen
    rw [e1, e2, hah, hbe]
    omega
  have hgp : ∀ c, RealG.Good t c → ∃ n e : Int, d = true ∧ Lib.atoiAll ah.data.toList = .ok n ∧ Lib.atoiAll be.data.toList = .ok e ∧ n.natAbs < 9007199254740992 ∧ -1074 ≤ e ∧ e ≤ 1023 ∧ ∀ r, Got n e r → r = c := fun c hg => by
    obtain ⟨n, e, p1, p2, p3, p4, p5⟩ := good_parts hg
    rw [hcut] at p1
    have q1 := congrArg (·.1) p1
    have q2 := congrArg (·.2.1) p1
    have q3 := congrArg (·.2.2) p1
    refine ⟨n, e, q3, ?_, ?_, p2, p3, p4, fun r hr => p5 r hr.2⟩
    · rw [hah, show la = _ from q1]; exact atoi_itoa (by omega) (by omega)
    · rw [hbe, show lb = _ from q2]; exact atoi_itoa (by omega) (by omega)
  have hcc : Lib.cut t.data.toList [42, 50, 94] = (ah.data.toList, be.data.toList, d) := by rw [hcut, hah, hbe]
  rcases ok_or ah.data.toList with ⟨n, ha⟩ | ha <;> rcases ok_or be.data.toList with ⟨ex, hb⟩ | hb
  · cases d with
    | false => exact no (fun c hg => by obtain ⟨_, _, h, _⟩ := hgp c hg; cases h) (realRead_i_nocut_yy t ht f1 f2 f3 f4 f5 ah be hz hcc n ha ex hb w henv)
    | true =>
      have key : ∀ c, RealG.Good t c → n.natAbs < 9007199254740992 ∧ -1074 ≤ ex ∧ ex ≤ 1023 ∧ ∀ r, Got n ex r → r = c := fun c hg => by
        obtain ⟨m, e, _, k1, k2, k3⟩ := hgp c hg
        rw [ha] at k1
        rw [hb] at k2
        injection k1 with k1
        injection k2 with k2
        subst k1 k2
        exact k3
      cases hw1 : (decide (-9007199254740992 ≤ n) && decide (n ≤ 9007199254740992)) with
      | false =>
        refine no (fun c hg => ?_) (realRead_i_far_n t ht f1 f2 f3 f4 f5 ah be hz hcc n ha ex hb hw1 w henv)
        have := (key c hg).1
        rw [decide_eq_true (by omega), decide_eq_true (by omega)] at hw1
        cases hw1
      | true =>
        have hn1 := of_decide_eq_true (Bool.and_eq_true_iff.1 hw1).1
        have hn2 := of_decide_eq_true (Bool.and_eq_true_iff.1 hw1).2
        cases hw2 : (decide (-2000 ≤ ex) && decide (ex ≤ 2000)) with
        | false =>
          refine no (fun c hg => ?_) (realRead_i_far_e t ht f1 f2 f3 f4 f5 ah be hz hcc n ha ex hb hw1 hw2 w henv)
          obtain ⟨_, k1, k2, _⟩ := key c hg
          rw [decide_eq_true (by omega), decide_eq_true (by omega)] at hw2
          cases hw2
        | true =>
          have he1 := of_decide_eq_true (Bool.and_eq_true_iff.1 hw2).1
          have he2 := of_decide_eq_true (Bool.and_eq_true_iff.1 hw2).2
          refine (realRead_i_good t ht f1 f2 f3 f4 f5 ah be hz hcc n ha ex hb hw1 hw2 (by omega) he1 he2 w henv).mono ?_
          rintro e w' ⟨r, b, ok, he, hr, h, hbl⟩
          rcases h with ⟨rfl, rfl, h⟩ | ⟨rfl, rfl, h⟩
          · exact ⟨_, true, he, ⟨hr.1, .inl ⟨rfl, h⟩⟩, hbl⟩
          · refine ⟨_, false, he, ⟨by decide, .inr ⟨rfl, rfl, no_good hns fun c hg => h ?_⟩⟩, hbl⟩
            rw [(key c hg).2.2.2 r hr]
            exact hg.tx
  · refine no (fun c hg => by obtain ⟨_, _, _, _, h, _⟩ := hgp c hg; exact hb _ h) ?_
    cases d with
    | false => exact realRead_i_nocut_yn t ht f1 f2 f3 f4 f5 ah be hz hcc n ha hb w henv
    | true => exact realRead_i_bad_yn t ht f1 f2 f3 f4 f5 ah be hz hcc n ha hb w henv
  · refine no (fun c hg => by obtain ⟨_, _, _, h, _⟩ := hgp c hg; exact ha _ h) ?_
    cases d with
    | false => exact realRead_i_nocut_ny t ht f1 f2 f3 f4 f5 ah be hz hcc ha ex hb w henv
    | true => exact realRead_i_bad_n t ht f1 f2 f3 f4 f5 ah be hz hcc ha ex hb w henv
  · refine no (fun c hg => by obtain ⟨_, _, _, h, _⟩ := hgp c hg; exact ha _ h) ?_
    cases d with
    | false => exact realRead_i_nocut_nn t ht f1 f2 f3 f4 f5 ah be hz hcc ha hb w henv
    | true => exact realRead_i_bad_nn t ht f1 f2 f3 f4 f5 ah be hz hcc ha hb w henv
end Go.Proofs.YtobbkebjgjeglaaDoor
