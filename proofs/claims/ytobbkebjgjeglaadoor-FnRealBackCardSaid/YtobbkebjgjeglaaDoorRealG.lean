/-
  TEXTS OF REAL NUMBERS READ, PLAINLY, ON: the number that a text stands for. No program in this text.
-/
import Derived.Test.YtobbkebjgjeglaaDoorRealR
namespace RealG
open Go Lib ItoP RealP Fl RealR Ieee

/-- u is the text of the number b above 0 -/
structure Pos (u : ByteArray) (b : Nat) : Prop where
  lt : b < 18446744073709551616
  fin : rung b < 9218868437227405312
  nz : rung b ≠ 0
  sg : neg b = false
  tx : num (val (rung b)) = u
/-- t is the text of the number b that is not 0 -/
structure Good (t : ByteArray) (b : Nat) : Prop where
  lt : b < 18446744073709551616
  fin : rung b < 9218868437227405312
  nz : rung b ≠ 0
  tx : txt b = t
theorem parts_of {V : Nat} (hV0 : V ≠ 0) (hr : Rep V) : odd V < 9007199254740992 ∧ tz V < 2098 := by
  have h1 := odd_mul hV0
  refine ⟨?_, bound1 hr.1 (by have := odd_mod hV0; omega) h1.symm⟩
  obtain ⟨_, m, e, hm, he⟩ := hr
  have h2 : odd V * p2 (tz V) = m * p2 e := h1.symm.trans he
  have h3 : m ≠ 0 := by rintro rfl; rw [Nat.zero_mul] at he; exact hV0 he
  have h4 := odd_mul h3
  have h5 := odd_is (m := odd V) (t := tz V) (odd_mod hV0)
  have h6 := odd_is (m := odd m) (t := tz m + e) (odd_mod h3)
  rw [p2_add, ← Nat.mul_assoc, ← h4, ← h2] at h6
  have h7 : odd V = odd m := h5.1.symm.trans h6.1
  have h8 : odd m * 1 ≤ odd m * p2 (tz m) := Nat.mul_le_mul_left _ (p2_pos _)
  rw [← h4] at h8
  omega
/-- the parts of a text -/
structure Cut (u : ByteArray) (n T : Nat) : Prop where
  od : n % 2 = 1
  lt : n < 9007199254740992
  tx : u = (itoaB (n : Int) ++ star) ++ itoaB ((T : Int) - 1074)
theorem Pos.cut {u : ByteArray} {b : Nat} (h : Pos u b) : ∃ n T, Cut u n T ∧ T < 2098 ∧ Is b false (n * p2 T) := by
  have h0 : val (rung b) ≠ 0 := fun e => h.nz (val_eq_zero.1 e)
  have hI := Is.of_fin h.lt h.fin
  rw [h.sg] at hI
  obtain ⟨h1, h2⟩ := parts_of h0 hI.rep
  exact ⟨odd (val (rung b)), tz (val (rung b)), ⟨odd_mod h0, h1, h.tx.symm⟩, h2, by rw [← odd_mul h0]; exact hI⟩
theorem Cut.pos {u : ByteArray} {n T b : Nat} (h : Cut u n T) (hb : Is b false (n * p2 T)) : Pos u b := by
  have hp := p2_pos T
  have hv := hb.rung_
  have h0 : n * p2 T ≠ 0 := Nat.mul_ne_zero (by have := h.od; omega) (by omega)
  refine ⟨?_, hv.1, fun e => h0 (by rw [← hv.2, e, val_zero]), hb.neg_, ?_⟩
  · obtain ⟨r, hr, e, _⟩ := hb
    rw [e]; simp [word]; omega
  · rw [hv.2, num_at rfl h.od, h.tx]
theorem nat_bd {n : Nat} (h : n < 9007199254740992) : -(10 ^ 17) < (n : Int) ∧ (n : Int) < 10 ^ 17 := by omega
theorem star_list : star.data.toList = [42, 50, 94] := rfl
theorem Cut.list {u : ByteArray} {n T : Nat} (h : Cut u n T) : u.data.toList = (itoaB (n : Int)).data.toList ++ 42 :: 50 :: 94 :: (itoaB ((T : Int) - 1074)).data.toList := by
  rw [h.tx, app_list, app_list, star_list, List.append_assoc]; rfl
theorem itoa_inj {y z : Int} (hy : -(10 ^ 17) < y ∧ y < 10 ^ 17) (hz : -(10 ^ 17) < z ∧ z < 10 ^ 17) (h : (itoaB y).data.toList = (itoaB z).data.toList) : y = z :=
  num_inj (l := (itoaB y).data.toList) ⟨rfl, hy⟩ ⟨h, hz⟩
theorem Cut.inj {u : ByteArray} {n T m S : Nat} (h : Cut u n T) (k : Cut u m S) (hT : T < 10000) (hS : S < 10000) : n = m ∧ T = S := by
  have e := h.list.symm.trans k.list
  have c1 := cut_star (a := (itoaB (n : Int)).data.toList) (b := (itoaB ((T : Int) - 1074)).data.toList) no_star
  have c2 := cut_star (a := (itoaB (m : Int)).data.toList) (b := (itoaB ((S : Int) - 1074)).data.toList) no_star
  rw [e, c2] at c1
  have e1 := congrArg (·.1) c1
  have e2 := congrArg (·.2.1) c1
  have i1 := itoa_inj (nat_bd k.lt) (nat_bd h.lt) e1
  have i2 := itoa_inj (y := (S : Int) - 1074) (z := (T : Int) - 1074) (by omega) (by omega) e2
  omega
theorem Pos.inj {u : ByteArray} {b c : Nat} (h : Pos u b) (k : Pos u c) : b = c := by
  obtain ⟨n, T, h1, h2, h3⟩ := h.cut
  obtain ⟨m, S, k1, k2, k3⟩ := k.cut
  obtain ⟨rfl, rfl⟩ := h1.inj k1 (by omega) (by omega)
  exact h3.unique k3
/-- a text that is cut has one number alone, if any -/
theorem Cut.only {u : ByteArray} {n T b : Nat} (h : Cut u n T) (hT : T < 10000) (k : Pos u b) : Is b false (n * p2 T) ∧ T < 2098 := by
  obtain ⟨m, S, k1, k2, k3⟩ := k.cut
  obtain ⟨rfl, rfl⟩ := h.inj k1 hT (by omega)
  exact ⟨k3, k2⟩
theorem rung_not_nan {b : Nat} (h : rung b < 9218868437227405312) : ¬ isNaN b := by unfold isNaN; omega
theorem txt_of {b : Nat} (h1 : rung b < 9218868437227405312) (h2 : rung b ≠ 0) : txt b = if neg b = true then ⟨#[45]⟩ ++ num (val (rung b)) else num (val (rung b)) := by
  unfold txt
  rw [if_neg (rung_not_nan h1), if_neg (by omega), if_neg h2]
theorem Pos.good {u : ByteArray} {b : Nat} (h : Pos u b) : Good u b := ⟨h.lt, h.fin, h.nz, by rw [txt_of h.fin h.nz, h.sg]; exact h.tx⟩
theorem Pos.minus {u : ByteArray} {b : Nat} (h : Pos u b) : Good (⟨#[45]⟩ ++ u) (Op.negFloat .f64 b) := by
  have e := rung_neg h.lt
  refine ⟨negFloat_lt h.lt, by rw [e]; exact h.fin, by rw [e]; exact h.nz, ?_⟩
  rw [txt_of (by rw [e]; exact h.fin) (by rw [e]; exact h.nz), neg_neg h.lt, h.sg, show (!false) = true from rfl, if_pos rfl, e, h.tx]
theorem num_head {V : Nat} : ∀ r, (num V).data.toList ≠ 45 :: r := by
  intro r e
  unfold num at e
  rw [app_list, app_list, nat_list] at e
  obtain ⟨c, _, _⟩ := canon_dec (odd V) (odd V) (Nat.le_refl _)
  cases hq : decDigits (odd V) with
  | nil => exact c.ne hq
  | cons a s =>
    rw [hq] at e
    have ha := c.dg a (by rw [hq]; exact List.mem_cons_self)
    have : a = 45 := (List.cons.inj e).1
    rw [this] at ha
    exact absurd ha.1 (by decide)
theorem good_cases {t : ByteArray} {b : Nat} (h : Good t b) : Pos t b ∨ ∃ u, t = ⟨#[45]⟩ ++ u ∧ Pos u (Op.negFloat .f64 b) := by
  have e := txt_of h.fin h.nz
  have hr := rung_neg h.lt
  rw [h.tx] at e
  cases hs : neg b with
  | false =>
    rw [hs, if_neg (by decide)] at e
    exact .inl ⟨h.lt, h.fin, h.nz, hs, e.symm⟩
  | true =>
    rw [hs, if_pos rfl] at e
    refine .inr ⟨_, e, negFloat_lt h.lt, by rw [hr]; exact h.fin, by rw [hr]; exact h.nz, by rw [neg_neg h.lt, hs]; rfl, by rw [hr]⟩
theorem dash_list (u : ByteArray) : ((⟨#[45]⟩ : ByteArray) ++ u).data.toList = 45 :: u.data.toList := by rw [app_list]; rfl
theorem good_plain {t : ByteArray} {b : Nat} (h : Good t b) (hd : ∀ r, t.data.toList ≠ 45 :: r) : Pos t b := by
  rcases good_cases h with h | ⟨u, rfl, _⟩
  · exact h
  · exact absurd (dash_list u) (hd _)
theorem good_minus {u : ByteArray} {b : Nat} (h : Good (⟨#[45]⟩ ++ u) b) : Pos u (Op.negFloat .f64 b) := by
  rcases good_cases h with h | ⟨v, e, h⟩
  · exact absurd (by rw [h.tx]; exact dash_list u) (num_head (V := val (rung b)) _)
  · have e1 := congrArg (fun (x : ByteArray) => x.data.toList) e
    simp only [dash_list] at e1
    have : u = v := ItoP.ext (List.cons.inj e1).2
    rw [this]; exact h
theorem neg_inj {b c : Nat} (hb : b < 18446744073709551616) (hc : c < 18446744073709551616) (h : Op.negFloat .f64 b = Op.negFloat .f64 c) : b = c := by
  have h1 := rung_neg hb
  have h2 := rung_neg hc
  have h3 := neg_neg hb
  have h4 := neg_neg hc
  rw [h] at h1 h3
  rw [word_of hb, word_of hc, ← h1, h2]
  have : neg b = neg c := by
    have := h3.symm.trans h4
    generalize neg b = x at this
    generalize neg c = y at this
    revert this
    cases x <;> cases y <;> decide
  rw [this]
theorem Good.inj {t : ByteArray} {b c : Nat} (h : Good t b) (k : Good t c) : b = c := by
  rcases good_cases h with h' | ⟨u, rfl, h'⟩
  · rcases good_cases k with k' | ⟨u, rfl, _⟩
    · exact h'.inj k'
    · exact absurd (by rw [h'.tx]; exact dash_list u) (num_head (V := val (rung b)) _)
  · exact neg_inj h.lt k.lt (h'.inj (good_minus k))
/-- a double above 0 times 2 that is no double -/
theorem mul_over {x v m e : Nat} (hx : Is x false v) (hm : m < 9007199254740992) (hv : v * 2 = m * p2 e) (ho : p2 2098 ≤ v * 2) : double.mul x 4611686018427387904 = some 9218868437227405312 := by
  obtain ⟨a, p, e1, hp, hm1⟩ := read_fin hx.rung_.1
  obtain ⟨n, q, e2, hq, hn1⟩ := read_fin two_is.rung_.1
  have hX : a * n * p2 (p + q + ((2148 : Nat) : Int)).toNat = v * 2 * p2 (2148 - 1074) := by
    rw [show (p + q + ((2148 : Nat) : Int)).toNat = (p + 1074).toNat + (q + 1074).toNat by omega, p2_add, show 2148 - 1074 = 1074 by omega, Nat.mul_mul_mul_comm, hm1, hn1, hx.rung_.2, two_is.rung_.2, ← Nat.mul_assoc]
  have hX0 : v * 2 * p2 (2148 - 1074) ≠ 0 := by
    have := p2_pos (2148 - 1074)
    have := p2_pos 2098
    exact Nat.mul_ne_zero (by omega) (by omega)
  have h0 : a * n ≠ 0 := by
    intro h; rw [h, Nat.zero_mul] at hX; exact hX0 hX.symm
  unfold Format.mul
  rw [e1, e2]
  show some (double.nearest (neg x ^^ neg 4611686018427387904) (a * n) (p + q)) = _
  rw [nearest_eq (K := 2148) _ h0 (by omega) (by omega), hX, hx.neg_, two_is.neg_]
  have hm0 : m ≠ 0 := by rintro rfl; rw [Nat.zero_mul] at hv; have := p2_pos 2098; omega
  generalize hXe : v * 2 * p2 (2148 - 1074) = X at hX0
  have hXm : X = m * p2 (e + (2148 - 1074)) := by rw [← hXe, hv, Nat.mul_assoc, ← p2_add]
  have hlog : X.log2 = m.log2 + (e + (2148 - 1074)) := by rw [hXm, log2_mul_p2 hm0 _]
  have hml : m.log2 < 53 := log2_two_pow_le (show m < p2 53 from hm) hm0
  have hL : lastOf 2148 X ≤ e + (2148 - 1074) := by unfold lastOf; omega
  have hd : p2 (lastOf 2148 X) ∣ X := Nat.dvd_trans (p2_dvd hL) ⟨m, by rw [hXm, Nat.mul_comm]⟩
  have h1 := val_nearRung hX0 (show 1074 ≤ 2148 by omega)
  rw [rnd_dvd hd, ← hXe] at h1
  have h2 : val (nearRung 2148 (v * 2 * p2 (2148 - 1074))) = v * 2 := Nat.mul_right_cancel (p2_pos _) h1
  rw [hXe] at h2
  have h3 : 9218868437227405312 ≤ nearRung 2148 X := by
    rcases Nat.lt_or_ge (nearRung 2148 X) 9218868437227405312 with h | h
    · have := val_lt h
      rw [h2, val_inf] at this
      omega
    · exact h
  rw [Nat.min_eq_right h3]
  rfl
/-- what a loop of doublings holds -/
def Dbl (X v : Nat) : Prop := Is X false v ∨ (p2 2098 ≤ v ∧ X = 9218868437227405312)
theorem dbl_step {X n k : Nat} (hn : n < 9007199254740992) (h : Dbl X (n * p2 k)) : ∃ r, double.mul X 4611686018427387904 = some r ∧ Dbl r (n * p2 (k + 1)) := by
  have e : n * p2 (k + 1) = n * p2 k * 2 := by rw [p2_succ, ← Nat.mul_assoc]
  rw [e]
  rcases h with h | ⟨h1, rfl⟩
  · rcases Nat.lt_or_ge (n * p2 k * 2) (p2 2098) with hl | hl
    · obtain ⟨r, h1, h2⟩ := mul_two h ⟨hl, n, k + 1, hn, e.symm⟩
      exact ⟨r, h1, .inl h2⟩
    · exact ⟨_, mul_over h hn e.symm hl, .inr ⟨hl, rfl⟩⟩
  · exact ⟨_, by decide, .inr ⟨by omega, rfl⟩⟩
theorem div_step {X n k : Nat} (hn : n < 9007199254740992) (h : Is X false (n * p2 (k + 1))) : ∃ r, double.div X 4611686018427387904 = some r ∧ Is r false (n * p2 k) := by
  have e : n * p2 (k + 1) = n * p2 k * 2 := by rw [p2_succ, ← Nat.mul_assoc]
  rw [e] at h
  refine div_two h ⟨?_, n, k, hn, rfl⟩
  have h1 := h.rep.1
  omega
theorem lt_inf {X v : Nat} (h : Is X false v) : (FloatKind.f64.format.order X 9218868437227405312 == some .lt) = true := by
  rw [ord_pos h.not_nan (by decide) h.neg_ (by decide), lt_of_cmp, h.rung_.2]
  have e : val (rung 9218868437227405312) = p2 2098 := by rw [show rung 9218868437227405312 = 9218868437227405312 by decide]; exact val_inf
  rw [e]
  have := h.rep.1
  simpa using this
theorem start_is {n : Nat} (hn : n < 9007199254740992) : Is (floatOfInt .f64 (n : Int)) false (n * p2 1074) := by
  have := fo_is (n := (n : Int)) (by omega)
  rw [Int.natAbs_natCast, decide_eq_false (by omega)] at this
  exact this
end RealG
