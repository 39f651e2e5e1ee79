/-
  TEXTS OF REAL NUMBERS READ, PLAINLY. No program in this text.
-/
import Derived.Test.YtobbkebjgjeglaaDoorRealL
import Derived.Lib.IndexLaws
import Derived.Lib.IndexMore
import Derived.Lib.AtoiAllCases
namespace RealR
open Go Lib ItoP RealP Fl

def digs (l : List UInt8) : Prop := ∀ c ∈ l, 48 ≤ c.toNat ∧ c.toNat ≤ 57
instance (l : List UInt8) : Decidable (digs l) := by unfold digs; exact inferInstance
def dva (acc : Nat) (l : List UInt8) : Nat := l.foldl (fun a c => a * 10 + (c.toNat - 48)) acc
def dv (l : List UInt8) : Nat := dva 0 l
theorem dva_cons (acc : Nat) (c : UInt8) (l : List UInt8) : dva acc (c :: l) = dva (acc * 10 + (c.toNat - 48)) l := by unfold dva; rw [List.foldl_cons]
theorem dva_snoc (acc : Nat) (l : List UInt8) (c : UInt8) : dva acc (l ++ [c]) = dva acc l * 10 + (c.toNat - 48) := by unfold dva; rw [List.foldl_append]; rfl
theorem dva_ge : ∀ (l : List UInt8) (acc : Nat), acc ≤ dva acc l
  | [], acc => Nat.le_refl _
  | c :: l, acc => by have := dva_ge l (acc * 10 + (c.toNat - 48)); rw [dva_cons]; omega
theorem dva_lt : ∀ (l : List UInt8) (acc : Nat), digs l → dva acc l < (acc + 1) * 10 ^ l.length
  | [], acc, _ => by show acc < _; simp
  | c :: l, acc, h => by
    have h1 := dva_lt l (acc * 10 + (c.toNat - 48)) (fun b hb => h b (List.mem_cons_of_mem _ hb))
    have h2 := h c List.mem_cons_self
    rw [dva_cons, List.length_cons, Nat.pow_succ]
    have h3 : (acc * 10 + (c.toNat - 48) + 1) * 10 ^ l.length ≤ (acc + 1) * 10 * 10 ^ l.length := Nat.mul_le_mul_right _ (by omega)
    calc _ < _ := h1
      _ ≤ _ := h3
      _ = _ := by rw [Nat.mul_assoc, Nat.mul_comm 10]
theorem dv_lt {l : List UInt8} (h : digs l) (hl : l.length ≤ 17) : dv l < 10 ^ 17 := by
  have h1 := dva_lt l 0 h
  rw [Nat.zero_add, Nat.one_mul] at h1
  exact Nat.lt_of_lt_of_le h1 (Nat.pow_le_pow_right (by omega) hl)
theorem parse_dva : ∀ (l : List UInt8) (acc : Nat), digs l → dva acc l < 10 ^ 18 → parseUint10 acc l = .ok (dva acc l)
  | [], acc, _, _ => rfl
  | c :: l, acc, h, hb => by
    have h2 := h c List.mem_cons_self
    have h3 := dva_ge l (acc * 10 + (c.toNat - 48))
    rw [dva_cons] at hb
    unfold parseUint10
    rw [if_pos h2, if_neg (by omega), if_neg (by omega), parse_dva l _ (fun b hb => h b (List.mem_cons_of_mem _ hb)) hb]
    rfl
/-- a numeral as it is written -/
structure Canon (l : List UInt8) : Prop where
  ne : l ≠ []
  dg : digs l
  hd : l.head? = some 48 → l.length = 1
theorem canon_dec (n : Nat) : ∀ u, u ≤ n → Canon (decDigits u) ∧ dv (decDigits u) = u ∧ (u ≠ 0 → (decDigits u).head? ≠ some 48) := by
  induction n with
  | zero =>
    intro u hu
    obtain rfl : u = 0 := by omega
    rw [dig_small (by omega)]
    exact ⟨⟨by decide, by decide, by decide⟩, by decide, fun h => absurd rfl h⟩
  | succ n ih =>
    intro u hu
    by_cases hs : u < 10
    · rw [dig_small hs]
      have hx : u = 0 ∨ u = 1 ∨ u = 2 ∨ u = 3 ∨ u = 4 ∨ u = 5 ∨ u = 6 ∨ u = 7 ∨ u = 8 ∨ u = 9 := by omega
      rcases hx with rfl | rfl | rfl | rfl | rfl | rfl | rfl | rfl | rfl | rfl <;> exact ⟨⟨by decide, by decide, by decide⟩, by decide, by decide⟩
    · obtain ⟨h1, h2, h3⟩ := ih (u / 10) (by omega)
      have hh := h3 (by omega)
      have hc : (UInt8.ofNat (48 + u % 10)).toNat = 48 + u % 10 := by simp; omega
      rw [dig_big hs]
      have hne := h1.ne
      have hhd : (decDigits (u / 10) ++ [UInt8.ofNat (48 + u % 10)]).head? = (decDigits (u / 10)).head? := by
        cases hq : decDigits (u / 10) with
        | nil => exact absurd hq hne
        | cons a r => rfl
      refine ⟨⟨by simp, ?_, ?_⟩, ?_, ?_⟩
      · intro c hm
        rcases List.mem_append.1 hm with hm | hm
        · exact h1.dg c hm
        · simp only [List.mem_singleton] at hm
          rw [hm, hc]; omega
      · intro e; rw [hhd] at e; exact absurd e hh
      · unfold dv at h2 ⊢
        rw [dva_snoc, h2, hc]; omega
      · intro _; rw [hhd]; exact hh
theorem dec_of {k : Nat} : ∀ {l : List UInt8}, l.length = k → Canon l → l = decDigits (dv l) := by
  induction k with
  | zero => intro l h1 h2; exact absurd (List.length_eq_zero_iff.1 h1) h2.ne
  | succ k ih =>
    intro l hl hc
    rcases List.eq_nil_or_concat l with rfl | ⟨l', c, rfl⟩
    · exact absurd rfl hc.ne
    · simp only [List.concat_eq_append] at *
      have hcd := hc.dg c (by simp)
      have hcc : UInt8.ofNat (48 + (c.toNat - 48)) = c := by
        apply UInt8.toNat_inj.1
        simp
        omega
      have hv : dv (l' ++ [c]) = dv l' * 10 + (c.toNat - 48) := dva_snoc 0 l' c
      by_cases h0 : l' = []
      · subst h0
        have : dv ([] ++ [c]) = c.toNat - 48 := by rw [hv]; show 0 * 10 + _ = _; omega
        rw [this, dig_small (by omega), hcc]
        rfl
      · have hhd : (l' ++ [c]).head? = l'.head? := by
          cases l' with
          | nil => exact absurd rfl h0
          | cons a r => rfl
        have hl' : l'.length = k := by simpa using hl
        have hne : l'.head? ≠ some 48 := by
          intro e
          have := hc.hd (hhd.trans e)
          have h1 : l'.length = 0 := by simpa using this
          exact h0 (List.length_eq_zero_iff.1 h1)
        have hc' : Canon l' := ⟨h0, fun b hb => hc.dg b (List.mem_append_left _ hb), fun e => absurd e hne⟩
        have ih' := ih hl' hc'
        have hpos : 1 ≤ dv l' := by
          cases l' with
          | nil => exact absurd rfl h0
          | cons a r =>
            have ha := hc'.dg a List.mem_cons_self
            have h1 : a.toNat ≠ 48 := fun e => hne (by
              have : a = 48 := UInt8.toNat_inj.1 (by rw [e]; rfl)
              rw [this]; rfl)
            have h2 := dva_ge r (0 * 10 + (a.toNat - 48))
            show 1 ≤ dva 0 (a :: r)
            rw [dva_cons]
            omega
        rw [hv, dig_big (by omega), show (dv l' * 10 + (c.toNat - 48)) / 10 = dv l' by omega, show (dv l' * 10 + (c.toNat - 48)) % 10 = c.toNat - 48 by omega, hcc, ← ih']
theorem dec_len {u : Nat} (h : u < 10 ^ 17) : (decDigits u).length ≤ 17 := by
  rw [decDigits_length]
  rcases Nat.lt_or_ge 17 (nDigits u) with h1 | h1
  · exfalso
    obtain ⟨c, d, _⟩ := canon_dec u u (Nat.le_refl _)
    have h2 : ∀ (k v : Nat), v < 10 ^ k → 1 ≤ k → nDigits v ≤ k := by
      intro k
      induction k with
      | zero => intro v _ h; omega
      | succ k ih =>
        intro v hv _
        by_cases hs : v < 10
        · rw [nDigits_small hs]; omega
        · rw [nDigits_big hs]
          have h5 : v / 10 < 10 ^ k := by rw [Nat.pow_succ] at hv; omega
          have h6 : 1 ≤ k := by
            rcases Nat.eq_zero_or_pos k with e | e
            · subst e; omega
            · exact e
          have := ih (v / 10) h5 h6
          omega
    have := h2 17 u h (by omega)
    omega
  · exact h1
/-- what spec's l10Num reads -/
def numP (l : List UInt8) (z : Int) : Prop := l = (itoaB z).data.toList ∧ -(10 ^ 17) < z ∧ z < 10 ^ 17
theorem nat_list (u : Nat) : (itoaB (u : Int)).data.toList = decDigits u := by rw [itoaB_nat]
theorem neg_list {u : Nat} (h : 1 ≤ u) : (itoaB (-(u : Int))).data.toList = 45 :: decDigits u := by
  rw [itoaB_neg (by omega), app_list, show (- -(u : Int)) = (u : Int) by omega, nat_list]
  rfl
theorem atoi_itoa {z : Int} (h1 : -(10 ^ 17) < z) (h2 : z < 10 ^ 17) : atoiAll (itoaB z).data.toList = .ok z := by
  by_cases hz : z < 0
  · obtain ⟨u, rfl⟩ : ∃ u : Nat, z = -(u : Int) := ⟨z.natAbs, by omega⟩
    obtain ⟨c, d, _⟩ := canon_dec u u (Nat.le_refl _)
    rw [neg_list (by omega), atoiAll_minus]
    have : parseMag (decDigits u) = .ok u := by
      unfold parseMag
      rw [if_neg c.ne, parse_dva _ _ c.dg (by have : dva 0 (decDigits u) = u := d; rw [this]; omega)]
      rw [show dva 0 (decDigits u) = u from d]
    rw [this]
    simp only [signed]
    rw [if_neg (by omega)]
  · obtain ⟨u, rfl⟩ := Int.eq_ofNat_of_zero_le (show 0 ≤ z by omega)
    obtain ⟨c, d, _⟩ := canon_dec u u (Nat.le_refl _)
    rw [nat_list]
    have hp : parseMag (decDigits u) = .ok u := by
      unfold parseMag
      rw [if_neg c.ne, parse_dva _ _ c.dg (by have : dva 0 (decDigits u) = u := d; rw [this]; omega)]
      rw [show dva 0 (decDigits u) = u from d]
    cases hq : decDigits u with
    | nil => exact absurd hq c.ne
    | cons a r =>
      have ha := c.dg a (by rw [hq]; exact List.mem_cons_self)
      rw [atoiAll_plain a r (by omega) (by omega), ← hq, hp]
      simp only [signless]
      rw [if_neg (by omega)]
theorem no_star {z : Int} : ∀ b ∈ (itoaB z).data.toList, b ≠ 42 := by
  by_cases hz : z < 0
  · obtain ⟨u, rfl⟩ : ∃ u : Nat, z = -(u : Int) := ⟨z.natAbs, by omega⟩
    obtain ⟨c, _, _⟩ := canon_dec u u (Nat.le_refl _)
    rw [neg_list (by omega)]
    intro b hb e
    rcases List.mem_cons.1 hb with hb | hb
    · rw [hb] at e; exact absurd e (by decide)
    · have := c.dg b hb
      rw [e] at this
      exact absurd this.1 (by decide)
  · obtain ⟨u, rfl⟩ := Int.eq_ofNat_of_zero_le (show 0 ≤ z by omega)
    obtain ⟨c, _, _⟩ := canon_dec u u (Nat.le_refl _)
    rw [nat_list]
    intro b hb e
    have := c.dg b hb
    rw [e] at this
    exact absurd this.1 (by decide)
theorem cut_star {a b : List UInt8} (h : ∀ c ∈ a, c ≠ 42) : Lib.cut (a ++ 42 :: 50 :: 94 :: b) [42, 50, 94] = (a, b, true) := by
  have hi : Lib.index (a ++ 42 :: 50 :: 94 :: b) [42, 50, 94] = (a.length : Int) := by
    refine index_first (by simp) ?_ ?_
    · unfold occAt
      rw [List.drop_left]
      rfl
    · intro j hj
      cases ho : occAt (a ++ 42 :: 50 :: 94 :: b) [42, 50, 94] j with
      | false => rfl
      | true =>
        have h1 := occAt_head rfl ho
        rw [List.getElem?_append_left hj, List.getElem?_eq_getElem hj] at h1
        exact absurd (Option.some.inj h1) (h _ (List.getElem_mem hj))
  unfold Lib.cut
  rw [hi, if_pos (by omega), Int.toNat_natCast, List.take_left]
  congr 2
  rw [show a.length + ([42, 50, 94] : List UInt8).length = a.length + 3 from rfl, ← List.drop_drop, List.drop_left]
  rfl
end RealR
namespace RealR
open Go Lib ItoP RealP Fl
theorem num_pos {l : List UInt8} (hc : Canon l) (hl : l.length ≤ 17) : numP l (dv l) := by
  have := dv_lt hc.dg hl
  exact ⟨by rw [nat_list]; exact dec_of rfl hc, by omega, by omega⟩
theorem dv_ne {l : List UInt8} (hc : Canon l) (h : l.head? ≠ some 48) : 1 ≤ dv l := by
  rcases Nat.eq_zero_or_pos (dv l) with e | e
  · exfalso
    have h1 := dec_of rfl hc
    rw [e, dig_small (by omega)] at h1
    exact h (by rw [h1]; rfl)
  · exact e
theorem num_neg {l : List UInt8} (hc : Canon l) (h : l.head? ≠ some 48) (hl : l.length ≤ 17) : numP (45 :: l) (-(dv l : Int)) := by
  have := dv_lt hc.dg hl
  exact ⟨by rw [neg_list (dv_ne hc h)]; congr 1; exact dec_of rfl hc, by omega, by omega⟩
theorem num_shape {l : List UInt8} {z : Int} (h : numP l z) : (l.head? ≠ some 45 ∧ Canon l ∧ l.length ≤ 17) ∨ ∃ d, l = 45 :: d ∧ Canon d ∧ d.head? ≠ some 48 ∧ d.length ≤ 17 := by
  obtain ⟨h1, h2, h3⟩ := h
  by_cases hz : z < 0
  · obtain ⟨u, rfl⟩ : ∃ u : Nat, z = -(u : Int) := ⟨z.natAbs, by omega⟩
    obtain ⟨c, _, e⟩ := canon_dec u u (Nat.le_refl _)
    rw [neg_list (by omega)] at h1
    exact .inr ⟨_, h1, c, e (by omega), dec_len (by omega)⟩
  · obtain ⟨u, rfl⟩ := Int.eq_ofNat_of_zero_le (show 0 ≤ z by omega)
    obtain ⟨c, _, _⟩ := canon_dec u u (Nat.le_refl _)
    rw [nat_list] at h1
    rw [h1]
    refine .inl ⟨fun e => ?_, c, dec_len (by omega)⟩
    have hm : (45 : UInt8) ∈ decDigits u := by
      cases hq : decDigits u with
      | nil => rw [hq] at e; cases e
      | cons a r =>
        rw [hq] at e
        have : a = 45 := Option.some.inj e
        rw [this]; exact List.mem_cons_self
    exact absurd (c.dg 45 hm).1 (by decide)
theorem num_inj {l : List UInt8} {y z : Int} (h : numP l y) (k : numP l z) : y = z := by
  have a := atoi_itoa h.2.1 h.2.2
  have b := atoi_itoa k.2.1 k.2.2
  rw [← h.1] at a
  rw [← k.1, a] at b
  injection b
end RealR
