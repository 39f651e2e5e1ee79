/- The walks of l3Nan, l3Inf, word, l3Real: some double is drawn, and the reader's block alone is changed. -/
import Derived.Test.YtobbkebjgjeglaaDoorRows
import Derived.Test.YtobbkebjgjeglaaDoorWDraw2
import Derived.Test.YtobbkebjgjeglaaDoorFlo3
import Derived.WalkKit
import Derived.WalkSpells
import Derived.WalkLawsBesides
import Derived.OpenShut
import Derived.Lib.Hide
namespace Go.Proofs.YtobbkebjgjeglaaDoor
open Go.RowKit Rdr
set_option linter.unusedVariables false

set_option maxRecDepth 100000 in
set_option maxHeartbeats 1000000 in
theorem word_any (w : World) (g k : Nat) (h : Rd 64 w g k) (hk : k ≤ 200000) :
    Calls Tryd.prog 40 #[.pointer (some ⟨g, 0, none⟩)] w (Drew .u64 (fun _ => True) 8 w g k) := by
  go_enter Tryd.func40, Tryd.ntmps40
  go_wp2_with fail
  obtain ⟨wo, hwo⟩ : ∃ wo : World, wo = w := ⟨_, rfl⟩
  go_loopw [3, 4] (fun x i wr => ∃ (n : Int) (j : Nat), j ≤ 8 ∧ x = .int .u64 n ∧ i = .int .i64 j ∧ Rd 64 wr g (k + j) ∧ Only g w wr) (fun _ i _ => 8 - (intOf i).toNat)
  case atStart => exact ⟨0, 0, by omega, rfl, rfl, h, Only.refl _ _⟩
  case round =>
    obtain ⟨n, j, hj, rfl, rfl, hr, ho⟩ := hrel
    clear h hwo
    by_cases hlt : j < 8
    · go_wp2_with fail
      refine (pick_any wr g (k + j) 256 hr (by omega)).mono ?_
      rintro e w1 ⟨x, rfl, h0, hx, _, hr1, ho1⟩
      have hx2 := hx (by omega)
      clear hr hx
      go_wp2
      go_roundw
      case rel => exact ⟨_, j + 1, by omega, rfl, by go_num, hr1, ho.trans ho1⟩
      case measure => simp [intOf]; omega
    · go_wp2
      go_ret
      exact ⟨_, rfl, trivial, hr.mono (by omega), ho⟩

/-- SOME DOUBLE; the reader goes on by at most d; no other block turns. -/
def DrewF (d : Nat) (w : World) (g j : Nat) (e : Ending) (w' : World) : Prop :=
  ∃ b : Nat, e = .returned (.float .f64 b) ∧ b < 18446744073709551616 ∧ Rd 64 w' g (j + d) ∧ Only g w w'
theorem zz_no : floatBits .quo .f64 0 0 = none := by decide
theorem oz_inf : floatBits .quo .f64 4607182418800017408 0 = some 9218868437227405312 := by decide
set_option maxRecDepth 100000 in
set_option maxHeartbeats 1000000 in
theorem l3Nan_any (w : World) : Calls Tryd.prog 14 #[] w fun e w' => e = .returned (.float .f64 (Fl.nanAt w 0 0)) ∧ w.drew = w' := by
  have e := fun (t : TypeId) => Fl.run_float_nan (P := Tryd.prog) .quo (by simp) t _ _ zz_no
  go_enter Tryd.func14, Tryd.ntmps14
  go_wp2
  go_ret
  exact ⟨rfl, rfl⟩
set_option maxRecDepth 100000 in
set_option maxHeartbeats 1000000 in
theorem l3Inf_any (w : World) : Calls Tryd.prog 15 #[] w fun e w' => e = .returned (.float .f64 9218868437227405312) ∧ w = w' := by
  have e := fun (w : World) (t : TypeId) => run_float_arith (P := Tryd.prog) w .quo t .f64 _ _ _ oz_inf
  go_enter Tryd.func15, Tryd.ntmps15
  go_wp2
  go_ret
  exact ⟨rfl, rfl⟩
set_option maxRecDepth 100000 in
set_option maxHeartbeats 1000000 in
theorem l3Real_0 (w : World) (g k : Nat) (h : Rd 64 w g k) (hk : k ≤ 100000)  (hpick : Calls Tryd.prog 29 #[.pointer (some ⟨g, 0, none⟩), .int .i64 16] w fun e w1 => e = .returned (.int .i64 0) ∧ Rd 64 w1 g (k + 1) ∧ Only g w w1) :
    Calls Tryd.prog 24 #[.pointer (some ⟨g, 0, none⟩)] w (DrewF 40 w g k) := by
  have HP := Lib.hid hpick
  clear hpick
  have q1 := fun (t : TypeId) => Fl.run_float_any (P := Tryd.prog) .mul (by simp) t
  have q2 := fun (t : TypeId) => Fl.run_float_any (P := Tryd.prog) .add (by simp) t
  have q3 := fun (t : TypeId) => Fl.run_float_any (P := Tryd.prog) .quo (by simp) t
  have q4 := Fl.run_neg_float (P := Tryd.prog)
  go_enter Tryd.func24, Tryd.ntmps24
  go_wp2_with fail
  refine HP.out.mono ?_
  rintro e w1 ⟨rfl, hr, ho⟩
  clear h HP
  go_wp2_with fail
  refine (l3Nan_any w1).mono ?_
  rintro e w2 ⟨rfl, rfl⟩
  go_wp2
  go_ret
  exact ⟨_, rfl, (Fl.nanAt_nan _ _ _).2, (hr).mono (by omega), ho.drew⟩
set_option maxRecDepth 100000 in
set_option maxHeartbeats 1000000 in
theorem l3Real_1 (w : World) (g k : Nat) (h : Rd 64 w g k) (hk : k ≤ 100000)  (hpick : Calls Tryd.prog 29 #[.pointer (some ⟨g, 0, none⟩), .int .i64 16] w fun e w1 => e = .returned (.int .i64 1) ∧ Rd 64 w1 g (k + 1) ∧ Only g w w1) :
    Calls Tryd.prog 24 #[.pointer (some ⟨g, 0, none⟩)] w (DrewF 40 w g k) := by
  have HP := Lib.hid hpick
  clear hpick
  have q1 := fun (t : TypeId) => Fl.run_float_any (P := Tryd.prog) .mul (by simp) t
  have q2 := fun (t : TypeId) => Fl.run_float_any (P := Tryd.prog) .add (by simp) t
  have q3 := fun (t : TypeId) => Fl.run_float_any (P := Tryd.prog) .quo (by simp) t
  have q4 := Fl.run_neg_float (P := Tryd.prog)
  go_enter Tryd.func24, Tryd.ntmps24
  go_wp2_with fail
  refine HP.out.mono ?_
  rintro e w1 ⟨rfl, hr, ho⟩
  clear h HP
  go_wp2_with fail
  refine (l3Inf_any w1).mono ?_
  rintro e w2 ⟨rfl, rfl⟩
  go_wp2
  go_ret
  exact ⟨_, rfl, by decide, (hr).mono (by omega), ho⟩
set_option maxRecDepth 100000 in
set_option maxHeartbeats 1000000 in
theorem l3Real_2 (w : World) (g k : Nat) (h : Rd 64 w g k) (hk : k ≤ 100000)  (hpick : Calls Tryd.prog 29 #[.pointer (some ⟨g, 0, none⟩), .int .i64 16] w fun e w1 => e = .returned (.int .i64 2) ∧ Rd 64 w1 g (k + 1) ∧ Only g w w1) :
    Calls Tryd.prog 24 #[.pointer (some ⟨g, 0, none⟩)] w (DrewF 40 w g k) := by
  have HP := Lib.hid hpick
  clear hpick
  have q1 := fun (t : TypeId) => Fl.run_float_any (P := Tryd.prog) .mul (by simp) t
  have q2 := fun (t : TypeId) => Fl.run_float_any (P := Tryd.prog) .add (by simp) t
  have q3 := fun (t : TypeId) => Fl.run_float_any (P := Tryd.prog) .quo (by simp) t
  have q4 := Fl.run_neg_float (P := Tryd.prog)
  go_enter Tryd.func24, Tryd.ntmps24
  go_wp2_with fail
  refine HP.out.mono ?_
  rintro e w1 ⟨rfl, hr, ho⟩
  clear h HP
  go_wp2_with fail
  refine (l3Inf_any w1).mono ?_
  rintro e w2 ⟨rfl, rfl⟩
  go_wp2
  go_ret
  exact ⟨_, rfl, Fl.negFloat_lt (by decide), (hr).mono (by omega), ho⟩
set_option maxRecDepth 100000 in
set_option maxHeartbeats 1000000 in
theorem l3Real_3 (w : World) (g k : Nat) (h : Rd 64 w g k) (hk : k ≤ 100000)  (hpick : Calls Tryd.prog 29 #[.pointer (some ⟨g, 0, none⟩), .int .i64 16] w fun e w1 => e = .returned (.int .i64 3) ∧ Rd 64 w1 g (k + 1) ∧ Only g w w1) :
    Calls Tryd.prog 24 #[.pointer (some ⟨g, 0, none⟩)] w (DrewF 40 w g k) := by
  have HP := Lib.hid hpick
  clear hpick
  have q1 := fun (t : TypeId) => Fl.run_float_any (P := Tryd.prog) .mul (by simp) t
  have q2 := fun (t : TypeId) => Fl.run_float_any (P := Tryd.prog) .add (by simp) t
  have q3 := fun (t : TypeId) => Fl.run_float_any (P := Tryd.prog) .quo (by simp) t
  have q4 := Fl.run_neg_float (P := Tryd.prog)
  go_enter Tryd.func24, Tryd.ntmps24
  go_wp2_with fail
  refine HP.out.mono ?_
  rintro e w1 ⟨rfl, hr, ho⟩
  clear h HP
  go_wp2_with fail
  go_ret
  exact ⟨_, rfl, by decide, (hr).mono (by omega), ho⟩
set_option maxRecDepth 100000 in
set_option maxHeartbeats 1000000 in
theorem l3Real_4 (w : World) (g k : Nat) (h : Rd 64 w g k) (hk : k ≤ 100000)  (hpick : Calls Tryd.prog 29 #[.pointer (some ⟨g, 0, none⟩), .int .i64 16] w fun e w1 => e = .returned (.int .i64 4) ∧ Rd 64 w1 g (k + 1) ∧ Only g w w1) :
    Calls Tryd.prog 24 #[.pointer (some ⟨g, 0, none⟩)] w (DrewF 40 w g k) := by
  have HP := Lib.hid hpick
  clear hpick
  have q1 := fun (t : TypeId) => Fl.run_float_any (P := Tryd.prog) .mul (by simp) t
  have q2 := fun (t : TypeId) => Fl.run_float_any (P := Tryd.prog) .add (by simp) t
  have q3 := fun (t : TypeId) => Fl.run_float_any (P := Tryd.prog) .quo (by simp) t
  have q4 := Fl.run_neg_float (P := Tryd.prog)
  go_enter Tryd.func24, Tryd.ntmps24
  go_wp2_with fail
  refine HP.out.mono ?_
  rintro e w1 ⟨rfl, hr, ho⟩
  clear h HP
  go_wp2_with fail
  go_ret
  exact ⟨_, rfl, by decide, (hr).mono (by omega), ho⟩
set_option maxRecDepth 100000 in
set_option maxHeartbeats 1000000 in
theorem l3Real_6 (w : World) (g k : Nat) (h : Rd 64 w g k) (hk : k ≤ 100000)  (hpick : Calls Tryd.prog 29 #[.pointer (some ⟨g, 0, none⟩), .int .i64 16] w fun e w1 => e = .returned (.int .i64 6) ∧ Rd 64 w1 g (k + 1) ∧ Only g w w1) :
    Calls Tryd.prog 24 #[.pointer (some ⟨g, 0, none⟩)] w (DrewF 40 w g k) := by
  have HP := Lib.hid hpick
  clear hpick
  have q1 := fun (t : TypeId) => Fl.run_float_any (P := Tryd.prog) .mul (by simp) t
  have q2 := fun (t : TypeId) => Fl.run_float_any (P := Tryd.prog) .add (by simp) t
  have q3 := fun (t : TypeId) => Fl.run_float_any (P := Tryd.prog) .quo (by simp) t
  have q4 := Fl.run_neg_float (P := Tryd.prog)
  go_enter Tryd.func24, Tryd.ntmps24
  go_wp2_with fail
  refine HP.out.mono ?_
  rintro e w1 ⟨rfl, hr, ho⟩
  clear h HP
  go_wp2_with fail
  go_ret
  exact ⟨_, rfl, by decide, (hr).mono (by omega), ho⟩
set_option maxRecDepth 100000 in
set_option maxHeartbeats 1000000 in
theorem l3Real_7 (w : World) (g k : Nat) (h : Rd 64 w g k) (hk : k ≤ 100000)  (hpick : Calls Tryd.prog 29 #[.pointer (some ⟨g, 0, none⟩), .int .i64 16] w fun e w1 => e = .returned (.int .i64 7) ∧ Rd 64 w1 g (k + 1) ∧ Only g w w1) :
    Calls Tryd.prog 24 #[.pointer (some ⟨g, 0, none⟩)] w (DrewF 40 w g k) := by
  have HP := Lib.hid hpick
  clear hpick
  have q1 := fun (t : TypeId) => Fl.run_float_any (P := Tryd.prog) .mul (by simp) t
  have q2 := fun (t : TypeId) => Fl.run_float_any (P := Tryd.prog) .add (by simp) t
  have q3 := fun (t : TypeId) => Fl.run_float_any (P := Tryd.prog) .quo (by simp) t
  have q4 := Fl.run_neg_float (P := Tryd.prog)
  go_enter Tryd.func24, Tryd.ntmps24
  go_wp2_with fail
  refine HP.out.mono ?_
  rintro e w1 ⟨rfl, hr, ho⟩
  clear h HP
  go_wp2_with fail
  go_ret
  exact ⟨_, rfl, by decide, (hr).mono (by omega), ho⟩
set_option maxRecDepth 100000 in
set_option maxHeartbeats 1000000 in
theorem l3Real_5 (w : World) (g k : Nat) (h : Rd 64 w g k) (hk : k ≤ 100000)  (hpick : Calls Tryd.prog 29 #[.pointer (some ⟨g, 0, none⟩), .int .i64 16] w fun e w1 => e = .returned (.int .i64 5) ∧ Rd 64 w1 g (k + 1) ∧ Only g w w1) :
    Calls Tryd.prog 24 #[.pointer (some ⟨g, 0, none⟩)] w (DrewF 40 w g k) := by
  have HP := Lib.hid hpick
  clear hpick
  have q1 := fun (t : TypeId) => Fl.run_float_any (P := Tryd.prog) .mul (by simp) t
  have q2 := fun (t : TypeId) => Fl.run_float_any (P := Tryd.prog) .add (by simp) t
  have q3 := fun (t : TypeId) => Fl.run_float_any (P := Tryd.prog) .quo (by simp) t
  have q4 := Fl.run_neg_float (P := Tryd.prog)
  go_enter Tryd.func24, Tryd.ntmps24
  go_wp2_with fail
  refine HP.out.mono ?_
  rintro e w1 ⟨rfl, hr, ho⟩
  clear h HP
  go_wp2_with fail
  refine (pick_any w1 g _ 40 hr (by omega)).mono ?_
  rintro e w2 ⟨y, rfl, h0, hy, _, hr2, ho2⟩
  have hy2 := hy (by omega)
  clear hr hy
  go_wp2
  go_ret
  exact ⟨_, rfl, Fl.arithVal_lt _ _ _ _, (hr2.drewN _).mono (by omega), (ho.trans ho2).drewN _⟩
set_option maxRecDepth 100000 in
set_option maxHeartbeats 1000000 in
theorem l3Real_8 (w : World) (g k : Nat) (h : Rd 64 w g k) (hk : k ≤ 100000)  (hpick : Calls Tryd.prog 29 #[.pointer (some ⟨g, 0, none⟩), .int .i64 16] w fun e w1 => e = .returned (.int .i64 8) ∧ Rd 64 w1 g (k + 1) ∧ Only g w w1) :
    Calls Tryd.prog 24 #[.pointer (some ⟨g, 0, none⟩)] w (DrewF 40 w g k) := by
  have HP := Lib.hid hpick
  clear hpick
  have q1 := fun (t : TypeId) => Fl.run_float_any (P := Tryd.prog) .mul (by simp) t
  have q2 := fun (t : TypeId) => Fl.run_float_any (P := Tryd.prog) .add (by simp) t
  have q3 := fun (t : TypeId) => Fl.run_float_any (P := Tryd.prog) .quo (by simp) t
  have q4 := Fl.run_neg_float (P := Tryd.prog)
  go_enter Tryd.func24, Tryd.ntmps24
  go_wp2_with fail
  refine HP.out.mono ?_
  rintro e w1 ⟨rfl, hr, ho⟩
  clear h HP
  go_wp2_with fail
  refine (pick_any w1 g _ 9 hr (by omega)).mono ?_
  rintro e w2 ⟨y, rfl, h0, hy, _, hr2, ho2⟩
  have hy2 := hy (by omega)
  clear hr hy
  go_wp2
  go_ret
  exact ⟨_, rfl, Fl.arithVal_lt _ _ _ _, (hr2.drewN _).mono (by omega), (ho.trans ho2).drewN _⟩
set_option maxRecDepth 100000 in
set_option maxHeartbeats 1000000 in
theorem l3Real_11 (w : World) (g k : Nat) (h : Rd 64 w g k) (hk : k ≤ 100000)  (hpick : Calls Tryd.prog 29 #[.pointer (some ⟨g, 0, none⟩), .int .i64 16] w fun e w1 => e = .returned (.int .i64 11) ∧ Rd 64 w1 g (k + 1) ∧ Only g w w1) :
    Calls Tryd.prog 24 #[.pointer (some ⟨g, 0, none⟩)] w (DrewF 40 w g k) := by
  have HP := Lib.hid hpick
  clear hpick
  have q1 := fun (t : TypeId) => Fl.run_float_any (P := Tryd.prog) .mul (by simp) t
  have q2 := fun (t : TypeId) => Fl.run_float_any (P := Tryd.prog) .add (by simp) t
  have q3 := fun (t : TypeId) => Fl.run_float_any (P := Tryd.prog) .quo (by simp) t
  have q4 := Fl.run_neg_float (P := Tryd.prog)
  go_enter Tryd.func24, Tryd.ntmps24
  go_wp2_with fail
  refine HP.out.mono ?_
  rintro e w1 ⟨rfl, hr, ho⟩
  clear h HP
  go_wp2_with fail
  refine (word_any w1 g (k + 1) hr (by omega)).mono ?_
  rintro e w2 ⟨y, rfl, _, hr2, ho2⟩
  clear hr
  go_wp2
  go_ret
  exact ⟨_, rfl, Fl.fo_lt _, (hr2).mono (by omega), ho.trans ho2⟩
set_option maxRecDepth 100000 in
set_option maxHeartbeats 1000000 in
theorem l3Real_10 (w : World) (g k : Nat) (h : Rd 64 w g k) (hk : k ≤ 100000)  (hpick : Calls Tryd.prog 29 #[.pointer (some ⟨g, 0, none⟩), .int .i64 16] w fun e w1 => e = .returned (.int .i64 10) ∧ Rd 64 w1 g (k + 1) ∧ Only g w w1) :
    Calls Tryd.prog 24 #[.pointer (some ⟨g, 0, none⟩)] w (DrewF 40 w g k) := by
  have HP := Lib.hid hpick
  clear hpick
  have q1 := fun (t : TypeId) => Fl.run_float_any (P := Tryd.prog) .mul (by simp) t
  have q2 := fun (t : TypeId) => Fl.run_float_any (P := Tryd.prog) .add (by simp) t
  have q3 := fun (t : TypeId) => Fl.run_float_any (P := Tryd.prog) .quo (by simp) t
  have q4 := Fl.run_neg_float (P := Tryd.prog)
  go_enter Tryd.func24, Tryd.ntmps24
  go_wp2_with fail
  refine HP.out.mono ?_
  rintro e w1 ⟨rfl, hr, ho⟩
  clear h HP
  go_wp2_with fail
  refine (num_any (w1.alloc (.cells (([32767, 32768, -32768, -32769, 32766] : List Int).map (Value.int .i64)).toArray 3)) g (k + 1) w1.heap.size 5 5 (fun x => -32769 ≤ x ∧ x ≤ 32768) (hr.alloc _) (by omega) (by omega) (by omega) (by simp) (by have := hr.lt; omega) (cells_lit w1 [32767, 32768, -32768, -32769, 32766] 3 _ (by decide))).mono ?_
  rintro e w2 ⟨y, rfl, hy, hr2, ho2⟩
  obtain ⟨hy1, hy2⟩ := hy
  go_wp2_with fail
  refine (pick_any w2 g _ 5 hr2 (by omega)).mono ?_
  rintro e w3 ⟨z, rfl, h0, hz, _, hr3, ho3⟩
  have hz2 := hz (by omega)
  clear hr hr2 hz
  go_wp2
  go_ret
  exact ⟨_, rfl, Fl.arithVal_lt _ _ _ _, (hr3.drewN _).mono (by omega), ((ho.alloc _).trans (ho2.trans ho3)).drewN _⟩
set_option maxRecDepth 100000 in
set_option maxHeartbeats 1000000 in
theorem l3Real_9 (w : World) (g k : Nat) (h : Rd 64 w g k) (hk : k ≤ 100000)  (hpick : Calls Tryd.prog 29 #[.pointer (some ⟨g, 0, none⟩), .int .i64 16] w fun e w1 => e = .returned (.int .i64 9) ∧ Rd 64 w1 g (k + 1) ∧ Only g w w1) :
    Calls Tryd.prog 24 #[.pointer (some ⟨g, 0, none⟩)] w (DrewF 40 w g k) := by
  have HP := Lib.hid hpick
  clear hpick
  have q1 := fun (t : TypeId) => Fl.run_float_any (P := Tryd.prog) .mul (by simp) t
  have q2 := fun (t : TypeId) => Fl.run_float_any (P := Tryd.prog) .add (by simp) t
  have q3 := fun (t : TypeId) => Fl.run_float_any (P := Tryd.prog) .quo (by simp) t
  have q4 := Fl.run_neg_float (P := Tryd.prog)
  go_enter Tryd.func24, Tryd.ntmps24
  go_wp2_with fail
  refine HP.out.mono ?_
  rintro e w1 ⟨rfl, hr, ho⟩
  clear h HP
  go_wp2_with fail
  refine (word_any w1 g (k + 1) hr (by omega)).mono ?_
  rintro e w2 ⟨y, rfl, _, hr2, ho2⟩
  clear hr
  go_wp2_with fail
  refine (pick_any w2 g _ 200 hr2 (by omega)).mono ?_
  rintro e w3 ⟨z, rfl, h0, hz, _, hr3, ho3⟩
  have hz2 := hz (by omega)
  clear hr2 hz
  go_wp2_with fail
  generalize hgen : Fl.arithVal .quo _ _ _ = b1 at *
  have hb1 : b1 < 18446744073709551616 := hgen ▸ Fl.arithVal_lt _ _ _ _
  clear hgen
  generalize Fl.arithDraw .quo _ _ = d1 at *
  refine (pick_any (w3.drewN d1) g _ 100 (hr3.drewN _) (by omega)).mono ?_
  rintro e w4 ⟨u, rfl, hu0, hu, _, hr4, ho4⟩
  have hu2 := hu (by omega)
  have hO : Only g w w4 := (ho.trans (ho2.trans (ho3.drewN d1))).trans ho4
  clear hr3 hu ho ho2 ho3 ho4
  go_wp2_with fail
  go_loopw [4, 5] (fun x i wr => ∃ (b : Nat) (u : Int), 0 ≤ u ∧ u ≤ 99 ∧ x = .float .f64 b ∧ b < 18446744073709551616 ∧ i = .int .i64 u ∧ Rd 64 wr g (k + 20) ∧ Only g w wr) (fun _ i _ => (intOf i).toNat)
  case atStart => exact ⟨b1, u, hu0, by omega, rfl, hb1, rfl, hr4.mono (by omega), hO⟩
  case round =>
    clear hr4 hO hb1
    obtain ⟨b, v, hv0, hv1, rfl, hb, rfl, hr, hO⟩ := hrel
    by_cases hlt : 0 < v
    · go_wp2
      go_roundw
      case rel => exact ⟨_, v - 1, by omega, by omega, rfl, Fl.arithVal_lt _ _ _ _, by go_num, hr.drewN _, hO.drewN _⟩
      case measure => simp [intOf]; omega
    · go_wp2
      go_ret
      exact ⟨_, rfl, hb, hr.mono (by omega), hO⟩
set_option maxRecDepth 100000 in
set_option maxHeartbeats 1000000 in
theorem l3Real_else (w : World) (g k : Nat) (h : Rd 64 w g k) (hk : k ≤ 100000) (x : Int) (hx : 12 ≤ x) (hpick : Calls Tryd.prog 29 #[.pointer (some ⟨g, 0, none⟩), .int .i64 16] w fun e w1 => e = .returned (.int .i64 x) ∧ Rd 64 w1 g (k + 1) ∧ Only g w w1) :
    Calls Tryd.prog 24 #[.pointer (some ⟨g, 0, none⟩)] w (DrewF 40 w g k) := by
  have HP := Lib.hid hpick
  clear hpick
  have q1 := fun (t : TypeId) => Fl.run_float_any (P := Tryd.prog) .mul (by simp) t
  have q2 := fun (t : TypeId) => Fl.run_float_any (P := Tryd.prog) .add (by simp) t
  have q3 := fun (t : TypeId) => Fl.run_float_any (P := Tryd.prog) .quo (by simp) t
  have q4 := Fl.run_neg_float (P := Tryd.prog)
  go_enter Tryd.func24, Tryd.ntmps24
  go_wp2_with fail
  refine HP.out.mono ?_
  rintro e w1 ⟨rfl, hr, ho⟩
  clear h HP
  go_wp2_with fail
  refine (pick_any w1 g _ 41 hr (by omega)).mono ?_
  rintro e w2 ⟨y, rfl, h0, hy, _, hr2, ho2⟩
  have hy2 := hy (by omega)
  clear hr hy
  go_wp2
  go_ret
  exact ⟨_, rfl, Fl.arithVal_lt _ _ _ _, (hr2.drewN _).mono (by omega), (ho.trans ho2).drewN _⟩
theorem l3Real_any (w : World) (g k : Nat) (h : Rd 64 w g k) (hk : k ≤ 100000) :
    Calls Tryd.prog 24 #[.pointer (some ⟨g, 0, none⟩)] w (DrewF 40 w g k) := by
  obtain ⟨x, h0, hx, _, hp⟩ := pick_fix w g k 16 h (by omega)
  have hx2 := hx (by omega)
  by_cases hc : 12 ≤ x
  · exact l3Real_else w g k h hk x hc hp
  have h3 : x = 0 ∨ x = 1 ∨ x = 2 ∨ x = 3 ∨ x = 4 ∨ x = 5 ∨ x = 6 ∨ x = 7 ∨ x = 8 ∨ x = 9 ∨ x = 10 ∨ x = 11 := by omega
  rcases h3 with rfl | rfl | rfl | rfl | rfl | rfl | rfl | rfl | rfl | rfl | rfl | rfl
  · exact l3Real_0 w g k h hk hp
  · exact l3Real_1 w g k h hk hp
  · exact l3Real_2 w g k h hk hp
  · exact l3Real_3 w g k h hk hp
  · exact l3Real_4 w g k h hk hp
  · exact l3Real_5 w g k h hk hp
  · exact l3Real_6 w g k h hk hp
  · exact l3Real_7 w g k h hk hp
  · exact l3Real_8 w g k h hk hp
  · exact l3Real_9 w g k h hk hp
  · exact l3Real_10 w g k h hk hp
  · exact l3Real_11 w g k h hk hp
end Go.Proofs.YtobbkebjgjeglaaDoor
