/- The walk of the program's RealText. -/
import Derived.Test.YtobbkebjgjeglaaDoorRows
import Derived.Test.YtobbkebjgjeglaaDoorWFmt
import Derived.Test.YtobbkebjgjeglaaDoorRealP2
import Derived.Test.YtobbkebjgjeglaaDoorLaidS
import Derived.WalkKit
import Derived.WalkSpells
import Derived.WalkLawsBesides
import Derived.OpenShut
import Derived.IntWalk
import Derived.Lib.Hide
import Derived.Deep.QuietTactic
import Derived.BigQuiet
import Derived.Deep.RegionHeld3
import Derived.Lib.AppendIntMem
namespace Go.Proofs.YtobbkebjgjeglaaDoor
open Go.RowKit Bx ItoP RealP Fl
set_option linter.unusedVariables false

theorem tobits (n : Nat) (w : World) : (callFunc 26 #[.float .f64 n]).run Tryd.prog w = .ok (.value (.int .u64 n)) w := by
  rw [run_callFunc_extern (e := Extern.MathFloatBits.float64bits) Tryd.func26 (by kernel_rfl) (by kernel_rfl) (by kernel_rfl) (by kernel_rfl)]; rfl
theorem tab_kept {w w' : World} (h : Lib.TabIs Tryd.prog w "internal/strconv.uint64pow10" .u64 Lib.pow10Tab) (hb : Below w.heap.size w w') : Lib.TabIs Tryd.prog w' "internal/strconv.uint64pow10" .u64 Lib.pow10Tab := Ls.var?_kept (g := 4) (by kernel_rfl) h hb
theorem itoaW_any (n : Int) (h0 : -9223372036854775808 ≤ n) (h1 : n ≤ 9223372036854775807) (w : World) (htab : Lib.TabIs Tryd.prog w "internal/strconv.uint64pow10" .u64 Lib.pow10Tab) : Calls Tryd.prog 28 #[.int .i64 n] w fun e w' => e = .returned (.string (itoaB n)) ∧ Below w.heap.size w w' := by
  refine (Tryd.strconv_Itoa n h0 h1 w htab).mono ?_
  rintro e w' ⟨he, k, os, rfl⟩
  exact ⟨he, Lib.below_grow _ _ (Nat.le_refl _) _ _⟩
set_option maxRecDepth 100000 in
set_option maxHeartbeats 4000000 in
theorem realText_i_nanfalse (b : Nat) (hb : b < 18446744073709551616) (hE : expo b = 2047) (F : Nat) (hF : frac b = F) (hF0 : F ≠ 0) (hs : neg b = false) (w : World) : Calls Tryd.prog 10 #[.float .f64 b] w fun e w' => e = .returned (.string ⟨#[110, 97, 110]⟩) ∧ Below w.heap.size w w' := by
  have tb := tobits
  have a1 : bits .and .u64 ((b : Int) / 4503599627370496) 2047 = 2047 := by rw [and_expo hb, hE]; rfl
  have a2 : bits .and .u64 (b : Int) 4503599627370495 = (F : Int) := by rw [and_frac hb, hF]
  have a3 : ((b : Int) / 9223372036854775808 == 1) = false := by rw [sign_bit hb, hs]
  have hF1 : ((F : Int) == 0) = false := by simpa using hF0
  clear hE hF hs
  go_enter Tryd.func10, Tryd.ntmps10
  go_wp2
  go_ret
  exact ⟨rfl, Below.refl _ _⟩
set_option maxRecDepth 100000 in
set_option maxHeartbeats 4000000 in
theorem realText_i_inffalse (b : Nat) (hb : b < 18446744073709551616) (hE : expo b = 2047) (hF : frac b = 0) (hs : neg b = false) (w : World) : Calls Tryd.prog 10 #[.float .f64 b] w fun e w' => e = .returned (.string ⟨#[105, 110, 102]⟩) ∧ Below w.heap.size w w' := by
  have tb := tobits
  have a1 : bits .and .u64 ((b : Int) / 4503599627370496) 2047 = 2047 := by rw [and_expo hb, hE]; rfl
  have a2 : bits .and .u64 (b : Int) 4503599627370495 = 0 := by rw [and_frac hb, hF]; rfl
  have a3 : ((b : Int) / 9223372036854775808 == 1) = false := by rw [sign_bit hb, hs]
  clear hE hF hs
  go_enter Tryd.func10, Tryd.ntmps10
  go_wp2
  go_ret
  exact ⟨rfl, Below.refl _ _⟩
set_option maxRecDepth 100000 in
set_option maxHeartbeats 4000000 in
theorem realText_i_zerofalse (b : Nat) (hb : b < 18446744073709551616) (hE : expo b = 0) (hF : frac b = 0) (hs : neg b = false) (w : World) : Calls Tryd.prog 10 #[.float .f64 b] w fun e w' => e = .returned (.string ⟨#[48]⟩) ∧ Below w.heap.size w w' := by
  have tb := tobits
  have a1 : bits .and .u64 ((b : Int) / 4503599627370496) 2047 = 0 := by rw [and_expo hb, hE]; rfl
  have a2 : bits .and .u64 (b : Int) 4503599627370495 = 0 := by rw [and_frac hb, hF]; rfl
  have a3 : ((b : Int) / 9223372036854775808 == 1) = false := by rw [sign_bit hb, hs]
  clear hE hF hs
  go_enter Tryd.func10, Tryd.ntmps10
  go_wp2
  go_ret
  exact ⟨rfl, Below.refl _ _⟩
set_option maxRecDepth 100000 in
set_option maxHeartbeats 4000000 in
theorem realText_i_nantrue (b : Nat) (hb : b < 18446744073709551616) (hE : expo b = 2047) (F : Nat) (hF : frac b = F) (hF0 : F ≠ 0) (hs : neg b = true) (w : World) : Calls Tryd.prog 10 #[.float .f64 b] w fun e w' => e = .returned (.string ⟨#[110, 97, 110]⟩) ∧ Below w.heap.size w w' := by
  have tb := tobits
  have a1 : bits .and .u64 ((b : Int) / 4503599627370496) 2047 = 2047 := by rw [and_expo hb, hE]; rfl
  have a2 : bits .and .u64 (b : Int) 4503599627370495 = (F : Int) := by rw [and_frac hb, hF]
  have a3 : ((b : Int) / 9223372036854775808 == 1) = true := by rw [sign_bit hb, hs]
  have hF1 : ((F : Int) == 0) = false := by simpa using hF0
  clear hE hF hs
  go_enter Tryd.func10, Tryd.ntmps10
  go_wp2
  go_ret
  exact ⟨rfl, Below.refl _ _⟩
set_option maxRecDepth 100000 in
set_option maxHeartbeats 4000000 in
theorem realText_i_inftrue (b : Nat) (hb : b < 18446744073709551616) (hE : expo b = 2047) (hF : frac b = 0) (hs : neg b = true) (w : World) : Calls Tryd.prog 10 #[.float .f64 b] w fun e w' => e = .returned (.string ⟨#[45, 105, 110, 102]⟩) ∧ Below w.heap.size w w' := by
  have tb := tobits
  have a1 : bits .and .u64 ((b : Int) / 4503599627370496) 2047 = 2047 := by rw [and_expo hb, hE]; rfl
  have a2 : bits .and .u64 (b : Int) 4503599627370495 = 0 := by rw [and_frac hb, hF]; rfl
  have a3 : ((b : Int) / 9223372036854775808 == 1) = true := by rw [sign_bit hb, hs]
  clear hE hF hs
  go_enter Tryd.func10, Tryd.ntmps10
  go_wp2
  go_ret
  exact ⟨rfl, Below.refl _ _⟩
set_option maxRecDepth 100000 in
set_option maxHeartbeats 4000000 in
theorem realText_i_zerotrue (b : Nat) (hb : b < 18446744073709551616) (hE : expo b = 0) (hF : frac b = 0) (hs : neg b = true) (w : World) : Calls Tryd.prog 10 #[.float .f64 b] w fun e w' => e = .returned (.string ⟨#[45, 48]⟩) ∧ Below w.heap.size w w' := by
  have tb := tobits
  have a1 : bits .and .u64 ((b : Int) / 4503599627370496) 2047 = 0 := by rw [and_expo hb, hE]; rfl
  have a2 : bits .and .u64 (b : Int) 4503599627370495 = 0 := by rw [and_frac hb, hF]; rfl
  have a3 : ((b : Int) / 9223372036854775808 == 1) = true := by rw [sign_bit hb, hs]
  clear hE hF hs
  go_enter Tryd.func10, Tryd.ntmps10
  go_wp2
  go_ret
  exact ⟨rfl, Below.refl _ _⟩
theorem t_bound {V N t : Nat} (hV : V < p2 2098) (h1 : 1 ≤ N) (h : N * p2 t = V) : t < 2098 := by
  rcases Nat.lt_or_ge t 2098 with h2 | h2
  · exact h2
  · have h3 := p2_le h2
    have h4 : 1 * p2 t ≤ N * p2 t := Nat.mul_le_mul_right _ h1
    omega
set_option maxRecDepth 100000 in
set_option maxHeartbeats 4000000 in
theorem realText_i_subfalse (b : Nat) (hb : b < 18446744073709551616) (hE : expo b = 0) (F : Nat) (hF : frac b = F) (hF0 : F ≠ 0) (hs : neg b = false) (V : Nat) (hV : V < p2 2098) (h0 : (F) * p2 (0) = V) (w : World) (htab : Lib.TabIs Tryd.prog w "internal/strconv.uint64pow10" .u64 Lib.pow10Tab) : Calls Tryd.prog 10 #[.float .f64 b] w fun e w' => e = .returned (.string (⟨#[]⟩ ++ num V)) ∧ Below w.heap.size w w' := by
  have tb := tobits
  have a1 : bits .and .u64 ((b : Int) / 4503599627370496) 2047 = 0 := by rw [and_expo hb, hE]; rfl
  have a2 : bits .and .u64 (b : Int) 4503599627370495 = (F : Int) := by rw [and_frac hb, hF]
  have a3 : ((b : Int) / 9223372036854775808 == 1) = false := by rw [sign_bit hb, hs]
  have hFl : F < 4503599627370496 := by rw [← hF]; exact frac_lt b
  have hF1 : ((F : Int) == 0) = false := by simpa using hF0
  clear hE hF hs
  have HV := Lib.hid (And.intro h0 hV)
  have HT := Lib.hid htab
  clear h0 hV htab
  go_enter Tryd.func10, Tryd.ntmps10
  go_wp2_with fail
  go_loopw [5, 6] (fun e n wr => ∃ (N t : Nat), N * p2 t = V ∧ 1 ≤ N ∧ N < 9007199254740992 ∧ e = .int .i64 ((t : Int) - 1074) ∧ n = .int .u64 N ∧ wr = w) (fun _ n _ => (intOf n).toNat)
  case atStart => exact ⟨F, 0, HV.out.1, by omega, by omega, by go_num, by go_num, rfl⟩
  case round =>
    obtain ⟨N, t, hNt, hN1, hN2, rfl, rfl, rfl⟩ := hrel
    have ht := t_bound HV.out.2 hN1 hNt
    have HN := Lib.hid hNt
    clear hNt a1 a2 a3 hF1
    by_cases h2 : N % 2 = 0
    · have az : bits .and .u64 (N : Int) 1 = 0 := by rw [RealP.and_one (by omega), h2]; rfl
      have HH := Lib.hid (halves HN.out h2)
      go_wp2
      go_roundw
      case rel => exact ⟨N / 2, t + 1, HH.out, by omega, by omega, by go_num, by go_num, by first | rfl | trivial⟩
      case measure => simp [intOf]; omega
    · have az : bits .and .u64 (N : Int) 1 = 1 := by rw [RealP.and_one (by omega), show N % 2 = 1 by omega]; rfl
      have HH := Lib.hid (num_of HN.out (show N % 2 = 1 by omega))
      have hu := fun w' (hb : Below wr.heap.size wr w') => formatUint_any N (by omega) w' (tab_kept HT.out hb)
      have hi := fun w' (hb : Below wr.heap.size wr w') => itoaW_any ((t : Int) - 1074) (by omega) (by omega) w' (tab_kept HT.out hb)
      have z1 := itoaB_size (n := (N : Int)) (by omega) (by omega)
      have z2 := itoaB_size (n := (t : Int) - 1074) (by omega) (by omega)
      generalize itoaB (N : Int) = U at hu HH z1
      generalize itoaB ((t : Int) - 1074) = I at hi HH z2
      have HR : Hid (⟨#[]⟩ ++ num V = ((⟨#[]⟩ ++ U) ++ star) ++ I) := Lib.hid (by rw [HH.out]; apply ext; simp)
      have zg : (⟨#[]⟩ : ByteArray).size ≤ 1 := by decide
      have zs : star.size = 3 := rfl
      have s1 : ¬ (⟨#[]⟩ : ByteArray).size + U.size > 9223372036854775807 := by omega
      have s2 : ¬ ((⟨#[]⟩ : ByteArray) ++ U).size + star.size > 9223372036854775807 := by rw [ByteArray.size_append]; omega
      have s3 : ¬ (((⟨#[]⟩ : ByteArray) ++ U) ++ star).size + I.size > 9223372036854775807 := by rw [ByteArray.size_append, ByteArray.size_append]; omega
      have s4 : ¬ (⟨#[]⟩ : ByteArray).size + U.size + star.size > 9223372036854775807 := by omega
      have s5 : ¬ (⟨#[]⟩ : ByteArray).size + U.size + star.size + I.size > 9223372036854775807 := by omega
      clear HH HN h2 zg zs z1 z2
      go_wp2_with fail
      refine (hu _ (Below.refl _ _)).mono ?_
      rintro e w1 ⟨rfl, hb1⟩
      have hB1 := hb1
      clear hu hb1
      have hst : (⟨#[42, 50, 94]⟩ : ByteArray) = star := rfl
      generalize star = st at hst s2 s3 s4 s5 HR ⊢
      go_wp2_with fail
      refine (hi _ hB1).mono ?_
      rintro e w2 ⟨rfl, hb2⟩
      have hB2 := bel_step hB1 hb2 hB1.size
      clear hi hb2 hB1
      go_wp2
      go_ret
      exact ⟨by rw [HR.out]; rfl, hB2⟩
set_option maxRecDepth 100000 in
set_option maxHeartbeats 4000000 in
theorem realText_i_nrmfalse (b : Nat) (hb : b < 18446744073709551616) (E : Nat) (hE : expo b = E) (hE1 : 1 ≤ E) (hE2 : E ≤ 2046) (F : Nat) (hF : frac b = F) (hs : neg b = false) (V : Nat) (hV : V < p2 2098) (h0 : (F + 4503599627370496) * p2 (E - 1) = V) (w : World) (htab : Lib.TabIs Tryd.prog w "internal/strconv.uint64pow10" .u64 Lib.pow10Tab) : Calls Tryd.prog 10 #[.float .f64 b] w fun e w' => e = .returned (.string (⟨#[]⟩ ++ num V)) ∧ Below w.heap.size w w' := by
  have tb := tobits
  have a1 : bits .and .u64 ((b : Int) / 4503599627370496) 2047 = (E : Int) := by rw [and_expo hb, hE]
  have a2 : bits .and .u64 (b : Int) 4503599627370495 = (F : Int) := by rw [and_frac hb, hF]
  have a3 : ((b : Int) / 9223372036854775808 == 1) = false := by rw [sign_bit hb, hs]
  have hFl : F < 4503599627370496 := by rw [← hF]; exact frac_lt b
  have a4 : bits .or .u64 (F : Int) 4503599627370496 = ((F + 4503599627370496 : Nat) : Int) := by rw [← hF]; exact or_frac b
  have e1 : ((E : Int) == 2047) = false := by simp; omega
  have e2 : ((E : Int) == 0) = false := by simp; omega
  clear hE hF hs
  have HV := Lib.hid (And.intro h0 hV)
  have HT := Lib.hid htab
  clear h0 hV htab
  go_enter Tryd.func10, Tryd.ntmps10
  go_wp2_with fail
  go_loopw [5, 6] (fun e n wr => ∃ (N t : Nat), N * p2 t = V ∧ 1 ≤ N ∧ N < 9007199254740992 ∧ e = .int .i64 ((t : Int) - 1074) ∧ n = .int .u64 N ∧ wr = w) (fun _ n _ => (intOf n).toNat)
  case atStart => exact ⟨F + 4503599627370496, E - 1, HV.out.1, by omega, by omega, by go_num, by go_num, rfl⟩
  case round =>
    obtain ⟨N, t, hNt, hN1, hN2, rfl, rfl, rfl⟩ := hrel
    have ht := t_bound HV.out.2 hN1 hNt
    have HN := Lib.hid hNt
    clear hNt a1 a2 a3 a4 e1 e2
    by_cases h2 : N % 2 = 0
    · have az : bits .and .u64 (N : Int) 1 = 0 := by rw [RealP.and_one (by omega), h2]; rfl
      have HH := Lib.hid (halves HN.out h2)
      go_wp2
      go_roundw
      case rel => exact ⟨N / 2, t + 1, HH.out, by omega, by omega, by go_num, by go_num, by first | rfl | trivial⟩
      case measure => simp [intOf]; omega
    · have az : bits .and .u64 (N : Int) 1 = 1 := by rw [RealP.and_one (by omega), show N % 2 = 1 by omega]; rfl
      have HH := Lib.hid (num_of HN.out (show N % 2 = 1 by omega))
      have hu := fun w' (hb : Below wr.heap.size wr w') => formatUint_any N (by omega) w' (tab_kept HT.out hb)
      have hi := fun w' (hb : Below wr.heap.size wr w') => itoaW_any ((t : Int) - 1074) (by omega) (by omega) w' (tab_kept HT.out hb)
      have z1 := itoaB_size (n := (N : Int)) (by omega) (by omega)
      have z2 := itoaB_size (n := (t : Int) - 1074) (by omega) (by omega)
      generalize itoaB (N : Int) = U at hu HH z1
      generalize itoaB ((t : Int) - 1074) = I at hi HH z2
      have HR : Hid (⟨#[]⟩ ++ num V = ((⟨#[]⟩ ++ U) ++ star) ++ I) := Lib.hid (by rw [HH.out]; apply ext; simp)
      have zg : (⟨#[]⟩ : ByteArray).size ≤ 1 := by decide
      have zs : star.size = 3 := rfl
      have s1 : ¬ (⟨#[]⟩ : ByteArray).size + U.size > 9223372036854775807 := by omega
      have s2 : ¬ ((⟨#[]⟩ : ByteArray) ++ U).size + star.size > 9223372036854775807 := by rw [ByteArray.size_append]; omega
      have s3 : ¬ (((⟨#[]⟩ : ByteArray) ++ U) ++ star).size + I.size > 9223372036854775807 := by rw [ByteArray.size_append, ByteArray.size_append]; omega
      have s4 : ¬ (⟨#[]⟩ : ByteArray).size + U.size + star.size > 9223372036854775807 := by omega
      have s5 : ¬ (⟨#[]⟩ : ByteArray).size + U.size + star.size + I.size > 9223372036854775807 := by omega
      clear HH HN h2 zg zs z1 z2
      go_wp2_with fail
      refine (hu _ (Below.refl _ _)).mono ?_
      rintro e w1 ⟨rfl, hb1⟩
      have hB1 := hb1
      clear hu hb1
      have hst : (⟨#[42, 50, 94]⟩ : ByteArray) = star := rfl
      generalize star = st at hst s2 s3 s4 s5 HR ⊢
      go_wp2_with fail
      refine (hi _ hB1).mono ?_
      rintro e w2 ⟨rfl, hb2⟩
      have hB2 := bel_step hB1 hb2 hB1.size
      clear hi hb2 hB1
      go_wp2
      go_ret
      exact ⟨by rw [HR.out]; rfl, hB2⟩
set_option maxRecDepth 100000 in
set_option maxHeartbeats 4000000 in
theorem realText_i_subtrue (b : Nat) (hb : b < 18446744073709551616) (hE : expo b = 0) (F : Nat) (hF : frac b = F) (hF0 : F ≠ 0) (hs : neg b = true) (V : Nat) (hV : V < p2 2098) (h0 : (F) * p2 (0) = V) (w : World) (htab : Lib.TabIs Tryd.prog w "internal/strconv.uint64pow10" .u64 Lib.pow10Tab) : Calls Tryd.prog 10 #[.float .f64 b] w fun e w' => e = .returned (.string (⟨#[45]⟩ ++ num V)) ∧ Below w.heap.size w w' := by
  have tb := tobits
  have a1 : bits .and .u64 ((b : Int) / 4503599627370496) 2047 = 0 := by rw [and_expo hb, hE]; rfl
  have a2 : bits .and .u64 (b : Int) 4503599627370495 = (F : Int) := by rw [and_frac hb, hF]
  have a3 : ((b : Int) / 9223372036854775808 == 1) = true := by rw [sign_bit hb, hs]
  have hFl : F < 4503599627370496 := by rw [← hF]; exact frac_lt b
  have hF1 : ((F : Int) == 0) = false := by simpa using hF0
  clear hE hF hs
  have HV := Lib.hid (And.intro h0 hV)
  have HT := Lib.hid htab
  clear h0 hV htab
  go_enter Tryd.func10, Tryd.ntmps10
  go_wp2_with fail
  go_loopw [5, 6] (fun e n wr => ∃ (N t : Nat), N * p2 t = V ∧ 1 ≤ N ∧ N < 9007199254740992 ∧ e = .int .i64 ((t : Int) - 1074) ∧ n = .int .u64 N ∧ wr = w) (fun _ n _ => (intOf n).toNat)
  case atStart => exact ⟨F, 0, HV.out.1, by omega, by omega, by go_num, by go_num, rfl⟩
  case round =>
    obtain ⟨N, t, hNt, hN1, hN2, rfl, rfl, rfl⟩ := hrel
    have ht := t_bound HV.out.2 hN1 hNt
    have HN := Lib.hid hNt
    clear hNt a1 a2 a3 hF1
    by_cases h2 : N % 2 = 0
    · have az : bits .and .u64 (N : Int) 1 = 0 := by rw [RealP.and_one (by omega), h2]; rfl
      have HH := Lib.hid (halves HN.out h2)
      go_wp2
      go_roundw
      case rel => exact ⟨N / 2, t + 1, HH.out, by omega, by omega, by go_num, by go_num, by first | rfl | trivial⟩
      case measure => simp [intOf]; omega
    · have az : bits .and .u64 (N : Int) 1 = 1 := by rw [RealP.and_one (by omega), show N % 2 = 1 by omega]; rfl
      have HH := Lib.hid (num_of HN.out (show N % 2 = 1 by omega))
      have hu := fun w' (hb : Below wr.heap.size wr w') => formatUint_any N (by omega) w' (tab_kept HT.out hb)
      have hi := fun w' (hb : Below wr.heap.size wr w') => itoaW_any ((t : Int) - 1074) (by omega) (by omega) w' (tab_kept HT.out hb)
      have z1 := itoaB_size (n := (N : Int)) (by omega) (by omega)
      have z2 := itoaB_size (n := (t : Int) - 1074) (by omega) (by omega)
      generalize itoaB (N : Int) = U at hu HH z1
      generalize itoaB ((t : Int) - 1074) = I at hi HH z2
      have HR : Hid (⟨#[45]⟩ ++ num V = ((⟨#[45]⟩ ++ U) ++ star) ++ I) := Lib.hid (by rw [HH.out]; apply ext; simp)
      have zg : (⟨#[45]⟩ : ByteArray).size ≤ 1 := by decide
      have zs : star.size = 3 := rfl
      have s1 : ¬ (⟨#[45]⟩ : ByteArray).size + U.size > 9223372036854775807 := by omega
      have s2 : ¬ ((⟨#[45]⟩ : ByteArray) ++ U).size + star.size > 9223372036854775807 := by rw [ByteArray.size_append]; omega
      have s3 : ¬ (((⟨#[45]⟩ : ByteArray) ++ U) ++ star).size + I.size > 9223372036854775807 := by rw [ByteArray.size_append, ByteArray.size_append]; omega
      have s4 : ¬ (⟨#[45]⟩ : ByteArray).size + U.size + star.size > 9223372036854775807 := by omega
      have s5 : ¬ (⟨#[45]⟩ : ByteArray).size + U.size + star.size + I.size > 9223372036854775807 := by omega
      clear HH HN h2 zg zs z1 z2
      go_wp2_with fail
      refine (hu _ (Below.refl _ _)).mono ?_
      rintro e w1 ⟨rfl, hb1⟩
      have hB1 := hb1
      clear hu hb1
      have hst : (⟨#[42, 50, 94]⟩ : ByteArray) = star := rfl
      generalize star = st at hst s2 s3 s4 s5 HR ⊢
      go_wp2_with fail
      refine (hi _ hB1).mono ?_
      rintro e w2 ⟨rfl, hb2⟩
      have hB2 := bel_step hB1 hb2 hB1.size
      clear hi hb2 hB1
      go_wp2
      go_ret
      exact ⟨by rw [HR.out]; rfl, hB2⟩
set_option maxRecDepth 100000 in
set_option maxHeartbeats 4000000 in
theorem realText_i_nrmtrue (b : Nat) (hb : b < 18446744073709551616) (E : Nat) (hE : expo b = E) (hE1 : 1 ≤ E) (hE2 : E ≤ 2046) (F : Nat) (hF : frac b = F) (hs : neg b = true) (V : Nat) (hV : V < p2 2098) (h0 : (F + 4503599627370496) * p2 (E - 1) = V) (w : World) (htab : Lib.TabIs Tryd.prog w "internal/strconv.uint64pow10" .u64 Lib.pow10Tab) : Calls Tryd.prog 10 #[.float .f64 b] w fun e w' => e = .returned (.string (⟨#[45]⟩ ++ num V)) ∧ Below w.heap.size w w' := by
  have tb := tobits
  have a1 : bits .and .u64 ((b : Int) / 4503599627370496) 2047 = (E : Int) := by rw [and_expo hb, hE]
  have a2 : bits .and .u64 (b : Int) 4503599627370495 = (F : Int) := by rw [and_frac hb, hF]
  have a3 : ((b : Int) / 9223372036854775808 == 1) = true := by rw [sign_bit hb, hs]
  have hFl : F < 4503599627370496 := by rw [← hF]; exact frac_lt b
  have a4 : bits .or .u64 (F : Int) 4503599627370496 = ((F + 4503599627370496 : Nat) : Int) := by rw [← hF]; exact or_frac b
  have e1 : ((E : Int) == 2047) = false := by simp; omega
  have e2 : ((E : Int) == 0) = false := by simp; omega
  clear hE hF hs
  have HV := Lib.hid (And.intro h0 hV)
  have HT := Lib.hid htab
  clear h0 hV htab
  go_enter Tryd.func10, Tryd.ntmps10
  go_wp2_with fail
  go_loopw [5, 6] (fun e n wr => ∃ (N t : Nat), N * p2 t = V ∧ 1 ≤ N ∧ N < 9007199254740992 ∧ e = .int .i64 ((t : Int) - 1074) ∧ n = .int .u64 N ∧ wr = w) (fun _ n _ => (intOf n).toNat)
  case atStart => exact ⟨F + 4503599627370496, E - 1, HV.out.1, by omega, by omega, by go_num, by go_num, rfl⟩
  case round =>
    obtain ⟨N, t, hNt, hN1, hN2, rfl, rfl, rfl⟩ := hrel
    have ht := t_bound HV.out.2 hN1 hNt
    have HN := Lib.hid hNt
    clear hNt a1 a2 a3 a4 e1 e2
    by_cases h2 : N % 2 = 0
    · have az : bits .and .u64 (N : Int) 1 = 0 := by rw [RealP.and_one (by omega), h2]; rfl
      have HH := Lib.hid (halves HN.out h2)
      go_wp2
      go_roundw
      case rel => exact ⟨N / 2, t + 1, HH.out, by omega, by omega, by go_num, by go_num, by first | rfl | trivial⟩
      case measure => simp [intOf]; omega
    · have az : bits .and .u64 (N : Int) 1 = 1 := by rw [RealP.and_one (by omega), show N % 2 = 1 by omega]; rfl
      have HH := Lib.hid (num_of HN.out (show N % 2 = 1 by omega))
      have hu := fun w' (hb : Below wr.heap.size wr w') => formatUint_any N (by omega) w' (tab_kept HT.out hb)
      have hi := fun w' (hb : Below wr.heap.size wr w') => itoaW_any ((t : Int) - 1074) (by omega) (by omega) w' (tab_kept HT.out hb)
      have z1 := itoaB_size (n := (N : Int)) (by omega) (by omega)
      have z2 := itoaB_size (n := (t : Int) - 1074) (by omega) (by omega)
      generalize itoaB (N : Int) = U at hu HH z1
      generalize itoaB ((t : Int) - 1074) = I at hi HH z2
      have HR : Hid (⟨#[45]⟩ ++ num V = ((⟨#[45]⟩ ++ U) ++ star) ++ I) := Lib.hid (by rw [HH.out]; apply ext; simp)
      have zg : (⟨#[45]⟩ : ByteArray).size ≤ 1 := by decide
      have zs : star.size = 3 := rfl
      have s1 : ¬ (⟨#[45]⟩ : ByteArray).size + U.size > 9223372036854775807 := by omega
      have s2 : ¬ ((⟨#[45]⟩ : ByteArray) ++ U).size + star.size > 9223372036854775807 := by rw [ByteArray.size_append]; omega
      have s3 : ¬ (((⟨#[45]⟩ : ByteArray) ++ U) ++ star).size + I.size > 9223372036854775807 := by rw [ByteArray.size_append, ByteArray.size_append]; omega
      have s4 : ¬ (⟨#[45]⟩ : ByteArray).size + U.size + star.size > 9223372036854775807 := by omega
      have s5 : ¬ (⟨#[45]⟩ : ByteArray).size + U.size + star.size + I.size > 9223372036854775807 := by omega
      clear HH HN h2 zg zs z1 z2
      go_wp2_with fail
      refine (hu _ (Below.refl _ _)).mono ?_
      rintro e w1 ⟨rfl, hb1⟩
      have hB1 := hb1
      clear hu hb1
      have hst : (⟨#[42, 50, 94]⟩ : ByteArray) = star := rfl
      generalize star = st at hst s2 s3 s4 s5 HR ⊢
      go_wp2_with fail
      refine (hi _ hB1).mono ?_
      rintro e w2 ⟨rfl, hb2⟩
      have hB2 := bel_step hB1 hb2 hB1.size
      clear hi hb2 hB1
      go_wp2
      go_ret
      exact ⟨by rw [HR.out]; rfl, hB2⟩
end Go.Proofs.YtobbkebjgjeglaaDoor
