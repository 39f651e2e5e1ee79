/- The walk of FnRealArg. -/
import Derived.Test.YtikcabmohlaanaaRows
import Derived.Test.YtikcabmohlaanaaWRArg2
import Derived.Test.YtikcabmohlaanaaWDArg2
import Derived.WalkKit
import Derived.WalkSpells
import Derived.WalkLawsBesides
import Derived.OpenShut
import Derived.OwnWalk
import Derived.IntWalk
import Derived.Lib.Hide
import Derived.Deep.RegionHeld3
namespace Go.Proofs.Ytikcabmohlaanaa
open Go.RowKit Bx Rdr
set_option linter.unusedVariables false

set_option maxRecDepth 100000 in
set_option maxHeartbeats 2000000 in
theorem wrDec_any (k n : Int) (P c : Nat) (hP : 1 ≤ P ∧ P ≤ 6) (hn : -999999999 ≤ n ∧ n ≤ 999999999) (hc : c = 10 ^ (6 - P)) (w : World) : Calls Try.prog 13 #[.agg #[.int .i64 k, .int .i64 n, .int .i64 (P : Int)]] w fun e w' => e = .returned (.int .i64 (n * (c : Int))) ∧ Below w.heap.size w w' := by
  have HC : Hid (n * (c : Int) = n * (tn (6 - P) : Int)) := Lib.hid (by rw [hc]; rfl)
  clear hc
  have hB : Below w.heap.size w (w.alloc (.cells #[.int .i64 k, .int .i64 n, .int .i64 (P : Int)] 26)) := (Below.refl _ _).alloc (Nat.le_refl _) _
  have HB := Lib.hid hB
  clear hB
  go_enter Try.func13, Try.ntmps13
  go_wp2_with fail
  go_loop [3, 4] (fun v i => ∃ d : Nat, P + d ≤ 6 ∧ i = .int .i64 ((P + d : Nat) : Int) ∧ v = .int .i64 (n * (tn d : Int))) (fun _ i => 6 - (intOf i).toNat)
  case atStart => exact ⟨0, by omega, rfl, by rw [show tn 0 = 1 from rfl]; simp⟩
  case round =>
    obtain ⟨d, hd, rfl, rfl⟩ := hrel
    have ht := tn_le (j := d) (by omega)
    have hb : (n * (tn d : Int)).natAbs ≤ 999999999 * 1000000 := by
      rw [Int.natAbs_mul, Int.natAbs_natCast]
      exact Nat.mul_le_mul (by omega) ht.2
    obtain ⟨i, hi⟩ : ∃ i : Nat, i = P + d := ⟨_, rfl⟩
    have HV := Lib.hid (show n * (tn (d + 1) : Int) = n * (tn d : Int) * 10 by rw [tn_succ, Int.natCast_mul, ← Int.mul_assoc]; rfl)
    have HI := Lib.hid hi
    have HE : Hid (i = 6 → n * (tn d : Int) = n * (c : Int)) := Lib.hid (fun h => by rw [HC.out]; congr 3; omega)
    rw [← hi]
    obtain ⟨V, hV⟩ : ∃ V, V = n * (tn d : Int) := ⟨_, rfl⟩
    have HV' : Hid (n * (tn (d + 1) : Int) = V * 10) := by rw [hV]; exact HV
    have HE' : Hid (i = 6 → V = n * (c : Int)) := by rw [hV]; exact HE
    rw [← hV] at hb ⊢
    have v0 : -999999999000000 ≤ V := by omega
    have v1 : V ≤ 999999999000000 := by omega
    have i6 : i ≤ 6 := by omega
    clear hV HV HE hb hi ht
    by_cases hlt : i < 6
    · have d2 : (i : Int) < 6 := by omega
      have hP6 : P + d + 1 ≤ 6 := by have := HI.out; omega
      clear hd
      go_wp2
      go_round
      case rel => exact ⟨d + 1, by omega, by have := HI.out; rw [this]; go_num, by rw [HV'.out]⟩
      case measure => simp [intOf]; omega
    · obtain rfl : i = 6 := by omega
      have HF := Lib.hid (HE'.out rfl)
      clear hd hlt HE' HV' HI
      go_wp2
      go_ret
      exact ⟨congrArg (fun v => Ending.returned (Value.int .i64 v)) HF.out, HB.out⟩
/-- one double, or NaN both -/
def Same (x z : Nat) : Prop := z = x ∨ (Fl.isNaN x ∧ Fl.isNaN z)
theorem wrSame_of {x z : Nat} (hx : x < 18446744073709551616) (h : Same x z) (w : World) : Calls Try.prog 11 #[.float .f64 x, .float .f64 z] w fun e w' => e = .returned (.bool true) ∧ w = w' := by
  rcases h with rfl | ⟨h1, h2⟩
  · exact wrSame_same z hx w
  · exact wrSame_nan x z h1 h2 w
/-- what is known of a decimal number's double -/
def Dec (n p : Int) (x : Nat) : Prop := ∃ P c : Nat, p = (P : Int) ∧ (1 ≤ P ∧ P ≤ 6) ∧ ((tn P = 10 ∧ c = 100000) ∨ (tn P = 100 ∧ c = 10000) ∨ (tn P = 1000 ∧ c = 1000) ∨ (tn P = 10000 ∧ c = 100) ∨ (tn P = 100000 ∧ c = 10) ∨ (tn P = 1000000 ∧ c = 1)) ∧ c = 10 ^ (6 - P) ∧ (tn P = 10 ∨ n % 10 ≠ 0) ∧ (-999999999 ≤ n ∧ n ≤ 999999999) ∧ floatBits .quo .f64 (floatOfInt .f64 n) (floatOfInt .f64 (tn P : Int)) = some x ∧ Fl.Near x (n * (c : Int))
theorem realArg_facts (k n p : Int) : ∃ x : Nat, x < 18446744073709551616 ∧ (∀ w, Calls Try.prog 8 #[.agg #[.int .i64 k, .int .i64 n, .int .i64 p]] w fun e w' => e = .returned (.float .f64 x) ∧ Below w.heap.size w w') ∧
    (∀ w, Calls Try.prog 6 #[.agg #[.int .i64 k, .int .i64 n, .int .i64 p]] w fun e w' => ∃ z, e = .returned (.float .f64 z) ∧ Same x z ∧ Below w.heap.size w w') ∧ (k = 12 → DevP.ok k n p = true → Dec n p x) := by
  by_cases hd : k = 12 ∧ DevP.ok k n p = true
  · obtain ⟨rfl, hok⟩ := hd
    have h := hok
    rw [DevP.ok_dec] at h
    have h := of_decide_eq_true h
    obtain ⟨P, c, rfl, hP, hc, h6, hcc, h10⟩ := powers ⟨h.2.2.1, h.2.2.2.1⟩
    obtain ⟨r, hr, hnear⟩ := Fl.dec_near (n := n) (by omega) hc
    refine ⟨r, hnear.1, fun w => realArg_i_dec n P r hok hP hr w, fun w => (realArg_s_dec n P r hok hP hr w).mono fun e w' hh => ⟨r, hh.1, .inl rfl, hh.2⟩, fun _ _ => ⟨P, c, rfl, by omega, h6, hcc, ?_, ⟨h.1, h.2.1⟩, hr, hnear⟩⟩
    rcases h.2.2.2.2 with h1 | h1
    · exact .inl (h10.2 h1)
    · right
      intro h2
      exact h1 (Int.tmod_eq_zero_of_dvd (Int.dvd_of_emod_eq_zero h2))
  · rcases realArg_both k n p with ⟨r, hr, hi, hs⟩ | ⟨hi, hs⟩
    · exact ⟨r, hr, hi, fun w => (hs w).mono fun e w' hh => ⟨r, hh.1, .inl rfl, hh.2⟩, fun h1 h2 => absurd ⟨h1, h2⟩ hd⟩
    · exact ⟨9221120237041090561, by omega, hi, fun w => (hs w).mono fun e w' ⟨b, he, hn, hb⟩ => ⟨b, he, .inr ⟨nan_const, hn⟩, hb⟩, fun h1 h2 => absurd ⟨h1, h2⟩ hd⟩
theorem small_dec {n : Int} {P c : Nat} (h6 : (tn P = 10 ∧ c = 100000) ∨ (tn P = 100 ∧ c = 10000) ∨ (tn P = 1000 ∧ c = 1000) ∨ (tn P = 10000 ∧ c = 100) ∨ (tn P = 100000 ∧ c = 10) ∨ (tn P = 1000000 ∧ c = 1)) (hn : -999999999 ≤ n ∧ n ≤ 999999999) : (n * (c : Int)).natAbs ≤ 1000000000000000 ∧ -1000000000000000 ≤ n * (c : Int) ∧ n * (c : Int) ≤ 1000000000000000 := by
  rcases h6 with ⟨_, rfl⟩ | ⟨_, rfl⟩ | ⟨_, rfl⟩ | ⟨_, rfl⟩ | ⟨_, rfl⟩ | ⟨_, rfl⟩ <;> omega
theorem dec_ord {n p n' p' : Int} {x y : Nat} (h : Dec n p x) (h' : Dec n' p' y) : ∃ (P c P' c' : Nat), p = (P : Int) ∧ p' = (P' : Int) ∧ (1 ≤ P ∧ P ≤ 6) ∧ (1 ≤ P' ∧ P' ≤ 6) ∧ (-999999999 ≤ n ∧ n ≤ 999999999) ∧ (-999999999 ≤ n' ∧ n' ≤ 999999999) ∧ c = 10 ^ (6 - P) ∧ c' = 10 ^ (6 - P') ∧
    FloatKind.f64.format.order x y = some (compare (n * (c : Int)) (n' * (c' : Int))) := by
  obtain ⟨P, c, rfl, hP, h6, hc, h10, hn, hf, hnear⟩ := h
  obtain ⟨P', c', rfl, hP', h6', hc', h10', hn', hf', hnear'⟩ := h'
  refine ⟨P, c, P', c', rfl, rfl, hP, hP', hn, hn', hc, hc', Fl.near_ord hnear hnear' (small_dec h6 hn).1 (small_dec h6' hn').1 fun he => ?_⟩
  obtain ⟨rfl, ht⟩ := Fl.dec_same h6 h6' h10 h10' he
  rw [ht] at hf
  exact Option.some.inj (hf.symm.trans hf')
theorem cmp_lt (a b : Int) : ((some (compare a b) : Option Ordering) == some .lt) = decide (a < b) := by
  rw [Fl.compare_int]
  by_cases h : a < b
  · rw [if_pos h, decide_eq_true h]; rfl
  · rw [if_neg h, decide_eq_false h]
    by_cases h2 : a = b
    · rw [if_pos h2]; rfl
    · rw [if_neg h2]; rfl
theorem cmp_eq (a b : Int) : ((some (compare a b) : Option Ordering) == some .eq) = (a == b) := by
  rw [Fl.compare_int]
  by_cases h : a < b
  · rw [if_pos h, show (a == b) = false by simp; omega]; rfl
  · rw [if_neg h]
    by_cases h2 : a = b
    · rw [if_pos h2, show (a == b) = true by simpa using h2]; rfl
    · rw [if_neg h2, show (a == b) = false by simpa using h2]; rfl
set_option maxRecDepth 100000 in
set_option maxHeartbeats 2000000 in
theorem FnRealArg_some (AA AB : Option Addr) (n c n' c' : Nat) (w : World) (h : IsCode w AA n c) (h' : IsCode w AB n' c') (hn : n ≤ 1048576) (hn' : n' ≤ 1048576) : Calls Try.prog 4 #[.slice AA n c, .slice AB n' c'] w fun e w' => e = .returned (.bool true) ∧ Below w.heap.size w w' := by
  have hd : decide ((1048576 : Int) < (n : Int)) = false := by simp; omega
  have hd' : decide ((1048576 : Int) < (n' : Int)) = false := by simp; omega
  go_enter Try.func4, Try.ntmps4
  go_wp2_with fail
  refine (DrawRealArg_any AA n c w h).mono ?_
  rintro e w1 ⟨ka, na, pa, rfl, hb1⟩
  have h2 := (h'.below hb1).below ((Below.refl w1.heap.size w1).alloc (Nat.le_refl _) (.cells #[.int .i64 ka, .int .i64 na, .int .i64 pa] 26))
  have s1 := Box.new w1 #[.int .i64 ka, .int .i64 na, .int .i64 pa] 26
  have hB1 : Below w.heap.size w (w1.alloc (.cells #[.int .i64 ka, .int .i64 na, .int .i64 pa] 26)) := hb1.alloc hb1.size _
  have l1 := hb1.size
  clear hb1 h h'
  go_wp2_with fail
  refine (DrawRealArg_any AB n' c' _ h2).mono ?_
  rintro e w2 ⟨kb, nb, pb, rfl, hb2⟩
  have s2 := (s1.kept hb2).alloc (.cells #[.int .i64 kb, .int .i64 nb, .int .i64 pb] 26)
  have u2 := Box.new w2 #[.int .i64 kb, .int .i64 nb, .int .i64 pb] 26
  have hB2 := (bel_step hB1 hb2 hB1.size).alloc (bel_step hB1 hb2 hB1.size).size (.cells #[.int .i64 kb, .int .i64 nb, .int .i64 pb] 26)
  have l2 : w1.heap.size < w2.heap.size := (s1.kept hb2).lt
  have c0 : w2.cell? ⟨w1.heap.size, 0, none⟩ = some (.int .i64 ka) := (s1.kept hb2).cell 0
  have c1 : w2.cell? ⟨w1.heap.size, 1, none⟩ = some (.int .i64 na) := (s1.kept hb2).cell 1
  have c2 : w2.cell? ⟨w1.heap.size, 2, none⟩ = some (.int .i64 pa) := (s1.kept hb2).cell 2
  clear hb2 h2 s1 hB1
  obtain ⟨x, hx, hxi, hxs, hxd⟩ := realArg_facts ka na pa
  obtain ⟨y, hy, hyi, _, hyd⟩ := realArg_facts kb nb pb
  have HXD := Lib.hid (And.intro hxd hyd)
  clear hxd hyd hy
  go_wp2_with fail
  refine (hxi _).mono ?_
  rintro e w3 ⟨rfl, hb3⟩
  have s3 := s2.kept hb3
  have u3 := u2.kept hb3
  have hB3 := bel_step hB2 hb3 hB2.size
  clear c0 c1 c2
  have d0 : w3.cell? ⟨w2.heap.size, 0, none⟩ = some (.int .i64 kb) := u3.cell 0
  have d1 : w3.cell? ⟨w2.heap.size, 1, none⟩ = some (.int .i64 nb) := u3.cell 1
  have d2 : w3.cell? ⟨w2.heap.size, 2, none⟩ = some (.int .i64 pb) := u3.cell 2
  clear hb3 s2 u2 hB2 hxi
  go_wp2_with fail
  refine (hyi _).mono ?_
  rintro e w4 ⟨rfl, hb4⟩
  have s4 := s3.kept hb4
  have u4 := u3.kept hb4
  have hB4 := bel_step hB3 hb4 hB3.size
  have c0 : w4.cell? ⟨w1.heap.size, 0, none⟩ = some (.int .i64 ka) := s4.cell 0
  have c1 : w4.cell? ⟨w1.heap.size, 1, none⟩ = some (.int .i64 na) := s4.cell 1
  have c2 : w4.cell? ⟨w1.heap.size, 2, none⟩ = some (.int .i64 pa) := s4.cell 2
  clear hb4 s3 u3 hB3 hyi d0 d1 d2
  go_wp2_with fail
  refine (hxs _).mono ?_
  rintro e w5 ⟨z, rfl, hsame, hb5⟩
  have s5 := s4.kept hb5
  have u5 := u4.kept hb5
  have hB5 := bel_step hB4 hb5 hB4.size
  clear hb5 s4 u4 hB4 hxs c0 c1 c2
  go_wp2_with fail
  refine (wrSame_of hx hsame _).mono ?_
  rintro e w6 ⟨rfl, rfl⟩
  clear hx hsame
  have c0 : w5.cell? ⟨w1.heap.size, 0, none⟩ = some (.int .i64 ka) := s5.cell 0
  have c1 : w5.cell? ⟨w1.heap.size, 1, none⟩ = some (.int .i64 na) := s5.cell 1
  have c2 : w5.cell? ⟨w1.heap.size, 2, none⟩ = some (.int .i64 pa) := s5.cell 2
  have d0 : w5.cell? ⟨w2.heap.size, 0, none⟩ = some (.int .i64 kb) := u5.cell 0
  have d1 : w5.cell? ⟨w2.heap.size, 1, none⟩ = some (.int .i64 nb) := u5.cell 1
  have d2 : w5.cell? ⟨w2.heap.size, 2, none⟩ = some (.int .i64 pb) := u5.cell 2
  by_cases q1 : ka = 12
  case neg =>
    have e1 : (ka != 12) = true := by simpa using q1
    clear s5 u5 q1 HXD
    go_wp2
    go_ret
    exact ⟨rfl, hB5⟩
  by_cases q2 : kb = 12
  case neg =>
    have e1 : (ka != 12) = false := by simpa using q1
    have e2 : (kb != 12) = true := by simpa using q2
    clear s5 u5 q1 q2 HXD
    go_wp2
    go_ret
    exact ⟨rfl, hB5⟩
  have e1 : (ka != 12) = false := by simpa using q1
  have e2 : (kb != 12) = false := by simpa using q2
  have Q1 := Lib.hid q1
  have Q2 := Lib.hid q2
  clear q1 q2
  go_wp2_with fail
  refine (devOk_s_any ka na pa _).mono ?_
  rintro e w6 ⟨rfl, hb6⟩
  have s6 := s5.kept hb6
  have u6 := u5.kept hb6
  have hB6 := bel_step hB5 hb6 hB5.size
  clear c0 c1 c2 d0 d1 d2
  have c0 : w6.cell? ⟨w1.heap.size, 0, none⟩ = some (.int .i64 ka) := s6.cell 0
  have c1 : w6.cell? ⟨w1.heap.size, 1, none⟩ = some (.int .i64 na) := s6.cell 1
  have c2 : w6.cell? ⟨w1.heap.size, 2, none⟩ = some (.int .i64 pa) := s6.cell 2
  have d0 : w6.cell? ⟨w2.heap.size, 0, none⟩ = some (.int .i64 kb) := u6.cell 0
  have d1 : w6.cell? ⟨w2.heap.size, 1, none⟩ = some (.int .i64 nb) := u6.cell 1
  have d2 : w6.cell? ⟨w2.heap.size, 2, none⟩ = some (.int .i64 pb) := u6.cell 2
  clear hb6 s5 u5 hB5
  cases hoka : DevP.ok ka na pa
  case false =>
    clear s6 u6 HXD hoka
    go_wp2
    go_ret
    exact ⟨rfl, hB6⟩
  go_wp2_with fail
  refine (devOk_s_any kb nb pb _).mono ?_
  rintro e w7 ⟨rfl, hb7⟩
  have s7 := s6.kept hb7
  have u7 := u6.kept hb7
  have hB7 := bel_step hB6 hb7 hB6.size
  clear hb7 s6 u6 hB6 c0 c1 c2 d0 d1 d2
  cases hokb : DevP.ok kb nb pb
  case false =>
    clear s7 u7 HXD hoka hokb
    go_wp2
    go_ret
    exact ⟨rfl, hB7⟩
  have q1 := Q1.out
  have q2 := Q2.out
  subst q1 q2
  clear Q1 Q2
  obtain ⟨P, cc, P', cc', rfl, rfl, hP, hP', hna, hnb, hcc, hcc', hord⟩ := dec_ord (HXD.out.1 rfl hoka) (HXD.out.2 rfl hokb)
  have hwa := fun w => wrDec_any 12 na P cc hP hna hcc w
  have hwb := fun w => wrDec_any 12 nb P' cc' hP' hnb hcc' w
  obtain ⟨VA, hVA⟩ : ∃ V, V = na * (cc : Int) := ⟨_, rfl⟩
  obtain ⟨VB, hVB⟩ : ∃ V, V = nb * (cc' : Int) := ⟨_, rfl⟩
  rw [← hVA] at hwa hord
  rw [← hVB] at hwb hord
  obtain ⟨t1, ht1⟩ : ∃ t, decide (VA < VB) = t := ⟨_, rfl⟩
  obtain ⟨t2, ht2⟩ : ∃ t, (VA == VB) = t := ⟨_, rfl⟩
  have f1 : (FloatKind.f64.format.order x y == some .lt) = t1 := by rw [hord, cmp_lt, ht1]
  have f2 : (FloatKind.f64.format.order x y == some .eq) = t2 := by rw [hord, cmp_eq, ht2]
  clear hVA hVB hord hoka hokb HXD hcc hcc' hP hP' hna hnb e1 e2
  have hS : ∀ w', Below w7.heap.size w7 w' → w'.cell? ⟨w1.heap.size, 0, none⟩ = some (.int .i64 12) ∧ w'.cell? ⟨w1.heap.size, 1, none⟩ = some (.int .i64 na) ∧ w'.cell? ⟨w1.heap.size, 2, none⟩ = some (.int .i64 P) ∧ w'.cell? ⟨w2.heap.size, 0, none⟩ = some (.int .i64 12) ∧ w'.cell? ⟨w2.heap.size, 1, none⟩ = some (.int .i64 nb) ∧ w'.cell? ⟨w2.heap.size, 2, none⟩ = some (.int .i64 P') ∧ Below w7.heap.size w7 w' := fun w' hb =>
    ⟨(s7.kept hb).cell 0, (s7.kept hb).cell 1, (s7.kept hb).cell 2, (u7.kept hb).cell 0, (u7.kept hb).cell 1, (u7.kept hb).cell 2, hb⟩
  go_wp2_with fail
  go_region_held3 (fun w' => w'.cell? ⟨w1.heap.size, 0, none⟩ = some (.int .i64 12) ∧ w'.cell? ⟨w1.heap.size, 1, none⟩ = some (.int .i64 na) ∧ w'.cell? ⟨w1.heap.size, 2, none⟩ = some (.int .i64 P) ∧ w'.cell? ⟨w2.heap.size, 0, none⟩ = some (.int .i64 12) ∧ w'.cell? ⟨w2.heap.size, 1, none⟩ = some (.int .i64 nb) ∧ w'.cell? ⟨w2.heap.size, 2, none⟩ = some (.int .i64 P') ∧ Below w7.heap.size w7 w')
    (first | exact hS _ (Below.refl _ _).drew | (obtain ⟨_, _, _, _, _, _, hq⟩ := (by assumption : _ ∧ _ ∧ _ ∧ _ ∧ _ ∧ _ ∧ Below w7.heap.size w7 _); exact hS _ (bel_step hq hbx hq.size)))
    (first | (go_at_call 13; (with_reducible refine (hwa _).mono ?_); rintro e w' ⟨rfl, hbx⟩) | (go_at_call 13; (with_reducible refine (hwb _).mono ?_); rintro e w' ⟨rfl, hbx⟩))
  obtain ⟨_, _, _, _, _, _, hq⟩ := (by assumption : _ ∧ _ ∧ _ ∧ _ ∧ _ ∧ _ ∧ Below w7.heap.size w7 _)
  have hB8 := bel_step hB7 hq hB7.size
  clear hq hS hwa hwb
  go_wp2
  go_ret
  exact ⟨rfl, hB8⟩
theorem FnRealArg_great1 (AA AB : Option Addr) (n c n' c' : Nat) (hn : 1048576 < n) (w : World) : Calls Try.prog 4 #[.slice AA n c, .slice AB n' c'] w fun e w' => e = .returned (.bool true) ∧ Below w.heap.size w w' := by
  have hd : decide ((1048576 : Int) < (n : Int)) = true := by simp; omega
  go_enter Try.func4, Try.ntmps4
  go_wp2
  go_ret
  exact ⟨rfl, Below.refl _ _⟩
theorem FnRealArg_great2 (AA AB : Option Addr) (n c n' c' : Nat) (hn0 : n ≤ 1048576) (hn : 1048576 < n') (w : World) : Calls Try.prog 4 #[.slice AA n c, .slice AB n' c'] w fun e w' => e = .returned (.bool true) ∧ Below w.heap.size w w' := by
  have hd : decide ((1048576 : Int) < (n : Int)) = false := by simp; omega
  have hd' : decide ((1048576 : Int) < (n' : Int)) = true := by simp; omega
  go_enter Try.func4, Try.ntmps4
  go_wp2
  go_ret
  exact ⟨rfl, Below.refl _ _⟩
theorem FnRealArg_walk (a0 : Option Addr) (len0 cap0 : Nat) (z0 : List Int) (a1 : Option Addr) (len1 cap1 : Nat) (z1 : List Int) (w : World) (w0 : IsRow .u8 w a0 len0 cap0 z0) (w1 : IsRow .u8 w a1 len1 cap1 z1) : Calls Try.prog 4 #[.slice a0 len0 cap0, .slice a1 len1 cap1] w fun e w' => e = .returned (.bool true) ∧ Below w.heap.size w w' := by
  by_cases hn : len0 ≤ 1048576
  · by_cases hn' : len1 ≤ 1048576
    · exact FnRealArg_some a0 a1 len0 cap0 len1 cap1 w (isCode_of w0) (isCode_of w1) hn hn'
    · exact FnRealArg_great2 a0 a1 len0 cap0 len1 cap1 hn (by omega) w
  · exact FnRealArg_great1 a0 a1 len0 cap0 len1 cap1 (by omega) w
end Go.Proofs.Ytikcabmohlaanaa
