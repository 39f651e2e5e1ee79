/- The walk of the reference's RealText. -/
import Derived.Test.YtobbkebjgjeglaaDoorRows
import Derived.Test.YtobbkebjgjeglaaDoorWRT
import Derived.Test.YtobbkebjgjeglaaDoorRealP3
import Derived.Test.YtobbkebjgjeglaaDoorWText
import Derived.WalkKit
import Derived.WalkSpells
import Derived.WalkLawsBesides
import Derived.OpenShut
import Derived.IntWalk
import Derived.Lib.Hide
import Derived.Deep.QuietTactic
import Derived.BigQuiet
import Derived.Deep.RegionHeld3
import Derived.Laws.FloatArith
namespace Go.Proofs.YtobbkebjgjeglaaDoor
open Go.RowKit Bx ItoP RealP Fl
set_option linter.unusedVariables false

def fOf : Value → Nat
  | .float _ b => b
  | _ => 0
theorem realText_i_any (b : Nat) (hb : b < 18446744073709551616) (w : World) (htab : Lib.TabIs Tryd.prog w "internal/strconv.uint64pow10" .u64 Lib.pow10Tab) : Calls Tryd.prog 10 #[.float .f64 b] w fun e w' => e = .returned (.string (txt b)) ∧ Below w.heap.size w w' := by
  unfold txt
  by_cases h1 : isNaN b
  · rw [if_pos h1]
    obtain ⟨hE, hF⟩ := (nan_iff b).1 h1
    cases hs : neg b with
    | true => exact realText_i_nantrue b hb hE _ rfl hF hs w
    | false => exact realText_i_nanfalse b hb hE _ rfl hF hs w
  rw [if_neg h1]
  by_cases h2 : rung b = 9218868437227405312
  · rw [if_pos h2]
    obtain ⟨hE, hF⟩ := (inf_iff b).1 h2
    cases hs : neg b with
    | true => exact realText_i_inftrue b hb hE hF hs w
    | false => exact realText_i_inffalse b hb hE hF hs w
  rw [if_neg h2]
  by_cases h3 : rung b = 0
  · rw [if_pos h3]
    obtain ⟨hE, hF⟩ := (zero_iff b).1 h3
    cases hs : neg b with
    | true => exact realText_i_zerotrue b hb hE hF hs w
    | false => exact realText_i_zerofalse b hb hE hF hs w
  rw [if_neg h3]
  have hr : rung b < 9218868437227405312 := by unfold isNaN at h1; omega
  have hV : val (rung b) < p2 2098 := by rw [← val_inf]; exact val_lt hr
  by_cases hE : expo b = 0
  · have hF : frac b ≠ 0 := fun e => h3 ((zero_iff b).2 ⟨hE, e⟩)
    have hv : frac b * p2 0 = val (rung b) := by rw [val_sub hE, p2_zero, Nat.mul_one]
    cases hs : neg b with
    | true => exact realText_i_subtrue b hb hE _ rfl hF hs _ hV hv w htab
    | false => have := realText_i_subfalse b hb hE _ rfl hF hs _ hV hv w htab; rw [empty_app] at this; exact this
  · have hE2 : expo b ≤ 2046 := by have := expo_lt b; rw [rung_parts] at hr; omega
    have hv : (frac b + 4503599627370496) * p2 (expo b - 1) = val (rung b) := (val_nrm hE).symm
    cases hs : neg b with
    | true => exact realText_i_nrmtrue b hb _ rfl (by omega) hE2 _ rfl hs _ hV hv w htab
    | false => have := realText_i_nrmfalse b hb _ rfl (by omega) hE2 _ rfl hs _ hV hv w htab; rw [empty_app] at this; exact this
set_option maxRecDepth 100000 in
set_option maxHeartbeats 1000000 in
theorem l3Plain_inf (b : Nat) (hx : ¬ isNaN b) (hs : neg b = false) (hi : rung b = 9218868437227405312) (w : World) : Calls Tryd.prog 31 #[.float .f64 b] w fun e w' => e = .returned (.string ⟨#[105, 110, 102]⟩) ∧ Below w.heap.size w w' := by
  have e1 := gt_max hx hs
  rw [hi] at e1
  have e1 : (FloatKind.f64.format.order b 9218868437227405311 == some .gt) = true := e1
  clear hx hs hi
  go_enter Tryd.func31, Tryd.ntmps31
  go_wp2
  go_ret
  exact ⟨rfl, Below.refl _ _⟩
set_option maxRecDepth 100000 in
set_option maxHeartbeats 1000000 in
theorem l3Plain_fin (b V : Nat) (hb : Is b false V) (hV0 : V ≠ 0) (w : World) : Calls Tryd.prog 31 #[.float .f64 b] w fun e w' => e = .returned (.string (num V)) ∧ Below w.heap.size w w' := by
  have e1 := gt_max hb.not_nan hb.neg_
  have hne : ¬ rung b = 9218868437227405312 := by have := hb.rung_.1; omega
  rw [decide_eq_false hne] at e1
  have HV := Lib.hid (And.intro hV0 hb.rep.1)
  have HB := Lib.hid hb
  clear hb hV0 hne
  go_enter Tryd.func31, Tryd.ntmps31
  go_wp2_with fail
  clear e1
  go_loopw [0, 3] (fun x e wr => ∃ (X v a : Nat), Is X false v ∧ v * p2 a = V ∧ x = .float .f64 X ∧ e = .int .i64 a ∧ wr = w) (fun x _ _ => fOf x)
  case atStart => exact ⟨b, V, 0, HB.out, by rw [p2_zero, Nat.mul_one], rfl, rfl, by first | rfl | trivial⟩
  case round =>
    obtain ⟨X, v, a, hX, hv, rfl, rfl, rfl⟩ := hrel
    have hg := ge_53 hX
    have hv1 : 1 ≤ v := by
      rcases Nat.eq_zero_or_pos v with h | h
      · rw [h, Nat.zero_mul] at hv; exact absurd hv.symm HV.out.1
      · exact h
    have ha := bound1 HV.out.2 hv1 hv
    have HI := Lib.hid (And.intro hX hv)
    by_cases hlt : p2 1127 ≤ v
    · rw [decide_eq_true hlt] at hg
      obtain ⟨u, hu, hru⟩ := half_of hX.rep hlt
      obtain ⟨r, hr, hir⟩ := div_two (by rw [← hu]; exact hX) hru
      have hd : floatBits .quo .f64 X 4611686018427387904 = some r := hr
      have e4 := fun (w : World) (t : TypeId) => run_float_arith (P := Tryd.prog) w .quo t .f64 _ _ _ hd
      have HN : Hid (Is r false u ∧ u * p2 (a + 1) = V) := Lib.hid ⟨hir, by rw [p2_succ, ← Nat.mul_assoc, Nat.mul_right_comm, ← hu]; exact hv⟩
      have hm : r < X := bits_lt hir hX (by omega)
      clear hX hv hlt hu hru hir hr hd
      go_wp2
      go_roundw
      case rel => exact ⟨r, u, a + 1, HN.out.1, HN.out.2, rfl, by go_num, by first | rfl | trivial⟩
      case measure => simpa [fOf] using hm
    · rw [decide_eq_false hlt] at hg
      have HL := Lib.hid (Nat.lt_of_not_le hlt)
      clear hX hv hlt hv1
      go_wp2_with fail
      go_loopw [0, 3] (fun x e wr' => ∃ (X v c : Nat), Is X false v ∧ v * p2 a = V * p2 c ∧ v < p2 1127 ∧ x = .float .f64 X ∧ e = .int .i64 ((a : Int) - c) ∧ wr' = wr) (fun x _ _ => 9218868437227405312 - fOf x)
      case atStart => exact ⟨X, v, 0, HI.out.1, by rw [p2_zero, Nat.mul_one]; exact HI.out.2, HL.out, rfl, by simp, by first | rfl | trivial⟩
      case round =>
        clear HI HL
        obtain ⟨X, v, c, hX, hv, hv2, rfl, rfl, rfl⟩ := hrel
        have hg := lt_52 hX
        have hc : c < 1127 + a := bound2 (by have := HV.out.1; omega) hv hv2
        have HI := Lib.hid (And.intro hX (And.intro hv hv2))
        by_cases hlt : v < p2 1126
        · rw [decide_eq_true hlt] at hg
          obtain ⟨r, hr, hir⟩ := mul_two hX (rep_dbl hX.rep hlt)
          have hd : floatBits .mul .f64 X 4611686018427387904 = some r := hr
          have e4 := fun (w : World) (t : TypeId) => run_float_arith (P := Tryd.prog) w .mul t .f64 _ _ _ hd
          have HN : Hid (Is r false (v * 2) ∧ v * 2 * p2 a = V * p2 (c + 1) ∧ v * 2 < p2 1127) := Lib.hid ⟨hir, dbl_inv hv, dbl_lt hlt⟩
          have hv1 : 1 ≤ v := by
            rcases Nat.eq_zero_or_pos v with h | h
            · rw [h, Nat.zero_mul] at hv
              have h1 := Nat.mul_eq_zero.1 hv.symm
              have h2 := p2_pos c
              rcases h1 with h1 | h1
              · exact absurd h1 HV.out.1
              · omega
            · exact h
          have hm : X < r := bits_lt hX hir (by omega)
          have hm2 := bits_top hir
          clear hX hv hv2 hlt hir hr hd hv1
          go_wp2
          go_roundw
          case rel => exact ⟨r, v * 2, c + 1, HN.out.1, HN.out.2.1, HN.out.2.2, rfl, by go_num, by first | rfl | trivial⟩
          case measure => simp only [fOf]; omega
        · rw [decide_eq_false hlt] at hg
          obtain ⟨n, hn, hn1, hn2⟩ := whole_of hX.rep (Nat.le_of_not_lt hlt) hv2
          have hcv := int_of (by rw [← hn]; exact hX) hn2
          have HN : Hid (n * p2 (a + 1074) = V * p2 c) := Lib.hid (by rw [p2_add, Nat.mul_comm (p2 a), ← Nat.mul_assoc, ← hn]; exact hv)
          have r1 := fun w => run_convert_float_int (P := Tryd.prog) w 22 3 .f64 .i64 _ _ (by kernel_rfl) Tryd.underlying3 hcv
          clear hX hv hv2 hlt hn hcv HI
          go_wp2_with fail
          clear hg r1
          go_loopw [3, 4] (fun e v wr' => ∃ (N d : Nat), N * p2 (d + 1074) = V * p2 c ∧ 1 ≤ N ∧ N < 9007199254740992 ∧ e = .int .i64 ((d : Int) - c) ∧ v = .int .i64 N ∧ wr' = wr) (fun _ v _ => (intOf v).toNat)
          case atStart => exact ⟨n, a, HN.out, by omega, by omega, rfl, rfl, by first | rfl | trivial⟩
          case round =>
            obtain ⟨N, d, hN, hN1, hN2, rfl, rfl, rfl⟩ := hrel
            have hd := bound3 hN1 hN HV.out.2
            have HH := Lib.hid hN
            clear hN HN
            have p1 : (0 : Int) < (N : Int) := by omega
            by_cases h2 : N % 2 = 0
            · have q1 : (N : Int) % 2 = 0 := by omega
              have pN : 0 < N := hN1
              have HZ : Hid (N / 2 * p2 (d + 1 + 1074) = V * p2 c) := Lib.hid (by rw [show d + 1 + 1074 = (d + 1074) + 1 by omega]; exact halves HH.out h2)
              go_wp2
              go_roundw
              case rel => exact ⟨N / 2, d + 1, HZ.out, by omega, by omega, by go_num, by go_num, by first | rfl | trivial⟩
              case measure => simp [intOf]; omega
            · have q1 : ¬ (N : Int) % 2 = 0 := by omega
              have HZ := Lib.hid (num_end HV.out.1 HH.out (show N % 2 = 1 by omega))
              have hu := fun w' => l10Dec_any (N : Int) (by omega) (by omega) w'
              have hi := fun w' => l10Dec_any ((d : Int) - c) (by omega) (by omega) w'
              have z1 := itoaB_size (n := (N : Int)) (by omega) (by omega)
              have z2 := itoaB_size (n := (d : Int) - c) (by omega) (by omega)
              generalize itoaB (N : Int) = U at hu HZ z1
              generalize itoaB ((d : Int) - c) = I at hi HZ z2
              have zs : star.size = 3 := rfl
              have s2 : ¬ U.size + star.size > 9223372036854775807 := by omega
              have s3 : ¬ (U ++ star).size + I.size > 9223372036854775807 := by rw [ByteArray.size_append]; omega
              have s4 : ¬ U.size + star.size + I.size > 9223372036854775807 := by omega
              have hst : (⟨#[42, 50, 94]⟩ : ByteArray) = star := rfl
              clear HH h2 zs z1 z2 hd
              go_wp2_with fail
              refine (hu _).mono ?_
              rintro e w1 ⟨rfl, hb1⟩
              clear hu
              generalize star = st at hst s2 s3 s4 HZ ⊢
              go_wp2_with fail
              refine (hi _).mono ?_
              rintro e w2 ⟨rfl, hb2⟩
              have hB2 := bel_step hb1 hb2 hb1.size
              clear hi hb2 hb1
              go_wp2
              go_ret
              exact ⟨by rw [HZ.out]; rfl, hB2⟩
set_option maxRecDepth 100000 in
set_option maxHeartbeats 1000000 in
theorem realText_s_nan (b : Nat) (h : isNaN b) (w : World) : Calls Tryd.prog 13 #[.float .f64 b] w fun e w' => e = .returned (.string ⟨#[110, 97, 110]⟩) ∧ Below w.heap.size w w' := by
  have e1 := ord_nan_l h b
  clear h
  go_enter Tryd.func13, Tryd.ntmps13
  go_wp2
  go_ret
  exact ⟨rfl, Below.refl _ _⟩
set_option maxRecDepth 100000 in
set_option maxHeartbeats 1000000 in
theorem realText_s_zero (b : Nat) (hb : b < 18446744073709551616) (hz : rung b = 0) (w : World) : Calls Tryd.prog 13 #[.float .f64 b] w fun e w' => e = .returned (.string (if neg b = true then ⟨#[45, 48]⟩ else ⟨#[48]⟩)) ∧ Below w.heap.size w w' := by
  have hn : ¬ isNaN b := by unfold isNaN; omega
  have e1 := ord_self hn
  have e3 : (FloatKind.f64.format.order b 0 == some .eq) = true := by rw [ord_zero hn, hz]; rfl
  have hd := one_div_zero hb hz
  have e4 := fun (w : World) (t : TypeId) => run_float_arith (P := Tryd.prog) w .quo t .f64 _ _ _ hd
  have e5 := inf_lt (neg b)
  clear hn hb hz hd
  generalize neg b = s at *
  generalize word s 9218868437227405312 = q at *
  cases s with
  | true =>
    go_enter Tryd.func13, Tryd.ntmps13
    go_wp2
    go_ret
    exact ⟨rfl, Below.refl _ _⟩
  | false =>
    go_enter Tryd.func13, Tryd.ntmps13
    go_wp2
    go_ret
    exact ⟨rfl, Below.refl _ _⟩
set_option maxRecDepth 100000 in
set_option maxHeartbeats 1000000 in
theorem realText_s_pos (b : Nat) (hn : ¬ isNaN b) (hz : rung b ≠ 0) (hs : neg b = false) (T : ByteArray) (hp : ∀ w, Calls Tryd.prog 31 #[.float .f64 b] w fun e w' => e = .returned (.string T) ∧ Below w.heap.size w w') (w : World) : Calls Tryd.prog 13 #[.float .f64 b] w fun e w' => e = .returned (.string T) ∧ Below w.heap.size w w' := by
  have e1 := ord_self hn
  have e3 : (FloatKind.f64.format.order b 0 == some .eq) = false := by rw [ord_zero hn]; simpa using hz
  have e5 := lt_zero hn hz
  rw [hs] at e5
  clear hn hz hs
  go_enter Tryd.func13, Tryd.ntmps13
  go_wp2_with fail
  refine (hp _).mono ?_
  rintro e w1 ⟨rfl, hb1⟩
  clear hp
  go_wp2
  go_ret
  exact ⟨rfl, hb1⟩
set_option maxRecDepth 100000 in
set_option maxHeartbeats 1000000 in
theorem realText_s_neg (b : Nat) (hn : ¬ isNaN b) (hz : rung b ≠ 0) (hs : neg b = true) (T : ByteArray) (zT : T.size ≤ 1000) (hp : ∀ w, Calls Tryd.prog 31 #[.float .f64 (Op.negFloat .f64 b)] w fun e w' => e = .returned (.string T) ∧ Below w.heap.size w w') (w : World) : Calls Tryd.prog 13 #[.float .f64 b] w fun e w' => e = .returned (.string (⟨#[45]⟩ ++ T)) ∧ Below w.heap.size w w' := by
  have e1 := ord_self hn
  have e3 : (FloatKind.f64.format.order b 0 == some .eq) = false := by rw [ord_zero hn]; simpa using hz
  have e5 := lt_zero hn hz
  rw [hs] at e5
  have e6 := fun (w : World) => run_neg_float (P := Tryd.prog) b w
  have s1 : ¬ (⟨#[45]⟩ : ByteArray).size + T.size > 9223372036854775807 := by have : (⟨#[45]⟩ : ByteArray).size = 1 := rfl; omega
  clear hn hz hs
  generalize Op.negFloat .f64 b = q at *
  go_enter Tryd.func13, Tryd.ntmps13
  go_wp2_with fail
  refine (hp _).mono ?_
  rintro e w1 ⟨rfl, hb1⟩
  clear hp
  go_wp2
  go_ret
  exact ⟨rfl, hb1⟩
theorem num_size {V : Nat} (hV0 : V ≠ 0) (hV : V < p2 2098) (hr : Rep V) : (num V).size ≤ 1000 := by
  have h1 := odd_mul hV0
  have ht := bound1 hV (by have := odd_mod hV0; omega) h1.symm
  have ho : odd V < 9223372036854775807 := by
    obtain ⟨_, m, e, hm, he⟩ := hr
    have h2 : odd V * p2 (tz V) = m * p2 e := h1.symm.trans he
    have h3 : m ≠ 0 := by rintro rfl; rw [Nat.zero_mul] at he; exact hV0 he
    have h4 := odd_mul h3
    have h5 := odd_is (m := odd V) (t := tz V) (odd_mod hV0)
    have h6 := odd_is (m := odd m) (t := tz m + e) (odd_mod h3)
    rw [p2_add, ← Nat.mul_assoc, ← h4, ← h2] at h6
    have h7 : odd V = odd m := h5.1.symm.trans h6.1
    have h8 : odd m * 1 ≤ odd m * p2 (tz m) := Nat.mul_le_mul_left _ (p2_pos _)
    rw [← h4] at h8
    omega
  unfold num
  rw [ByteArray.size_append, ByteArray.size_append]
  have z1 := itoaB_size (n := (odd V : Int)) (by omega) (by omega)
  have z2 := itoaB_size (n := (tz V : Int) - 1074) (by omega) (by omega)
  have zs : star.size = 3 := rfl
  omega
theorem realText_s_any (b : Nat) (hb : b < 18446744073709551616) (w : World) : Calls Tryd.prog 13 #[.float .f64 b] w fun e w' => e = .returned (.string (txt b)) ∧ Below w.heap.size w w' := by
  unfold txt
  by_cases h1 : isNaN b
  · rw [if_pos h1]; exact realText_s_nan b h1 w
  rw [if_neg h1]
  by_cases h3 : rung b = 0
  · rw [if_neg (by rw [h3]; decide), if_pos h3]; exact realText_s_zero b hb h3 w
  by_cases h2 : rung b = 9218868437227405312
  · rw [if_pos h2]
    cases hs : neg b with
    | false => rw [if_neg (by decide)]; exact realText_s_pos b h1 h3 hs _ (fun w => l3Plain_inf b h1 hs h2 w) w
    | true =>
      rw [if_pos rfl]
      have hr := rung_neg hb
      refine realText_s_neg b h1 h3 hs ⟨#[105, 110, 102]⟩ (by decide) (fun w => l3Plain_inf _ (by unfold isNaN; rw [hr, h2]; decide) (by rw [neg_neg hb, hs]; rfl) (by rw [hr, h2]) w) w
  rw [if_neg h2, if_neg h3]
  have hr : rung b < 9218868437227405312 := by unfold isNaN at h1; omega
  have hI := Is.of_fin hb hr
  have hv : val (rung b) ≠ 0 := fun e => h3 (val_eq_zero.1 e)
  cases hs : neg b with
  | false =>
    rw [if_neg (by decide)]
    rw [hs] at hI
    exact realText_s_pos b h1 h3 hs _ (fun w => l3Plain_fin b _ hI hv w) w
  | true =>
    rw [if_pos rfl]
    rw [hs] at hI
    exact realText_s_neg b h1 h3 hs _ (num_size hv hI.rep.1 hI.rep) (fun w => l3Plain_fin _ _ hI.turned hv w) w
set_option maxRecDepth 100000 in
set_option maxHeartbeats 1000000 in
theorem FnExactRealText_any (b : Nat) (hb : b < 18446744073709551616) (w : World) (htab : Lib.TabIs Tryd.prog w "internal/strconv.uint64pow10" .u64 Lib.pow10Tab) : Calls Tryd.prog 5 #[.float .f64 b] w fun e w' => e = .returned (.bool true) ∧ Below w.heap.size w w' := by
  have hs := fun w => realText_s_any b hb w
  have hi := fun w' (hb' : Below w.heap.size w w') => realText_i_any b hb w' (tab_kept htab hb')
  generalize txt b = T at hs hi
  clear htab
  go_enter Tryd.func5, Tryd.ntmps5
  go_wp2_with fail
  refine (hs _).mono ?_
  rintro e w1 ⟨rfl, hb1⟩
  clear hs
  go_wp2_with fail
  refine (hi _ hb1).mono ?_
  rintro e w2 ⟨rfl, hb2⟩
  have hB2 := bel_step hb1 hb2 hb1.size
  clear hi hb1 hb2
  go_wp2
  go_ret
  exact ⟨rfl, hB2⟩
theorem FnExactRealText_walk (a0 : Nat) (w0 : (Lit.float .f64 a0).wf = true) (w : World) (hL : laidMetH Tryd.prog Rows.fnExactRealTextRow.laid w) : Calls Tryd.prog 5 #[.float .f64 a0] w fun e w' => e = .returned (.bool true) ∧ Below w.heap.size w w' := by
  rw [MakeChecks.laidMetH_plain _ _ _ (by kernel_rfl)] at hL
  exact FnExactRealText_any a0 (by simpa [Lit.wf] using w0) w (Ls.tab_of_laid (g := 4) (t := 89) (by kernel_rfl) (by kernel_rfl) Tryd.underlying89 Tryd.underlying47 (by kernel_rfl) (by kernel_rfl) (List.Mem.tail _ (List.Mem.tail _ (List.Mem.head _))) hL)
end Go.Proofs.YtobbkebjgjeglaaDoor
