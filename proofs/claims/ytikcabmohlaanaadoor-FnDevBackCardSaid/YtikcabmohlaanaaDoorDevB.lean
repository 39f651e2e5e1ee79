/-
  AN OPERAND READ BACK, PLAINLY: two ways to guess the operand that a text is; each finds the operand whose text it is. No program in this text.
-/
import Derived.Test.YtikcabmohlaanaaDoorDevT
import Derived.Lib.AtoiAllCases
import Derived.Lib.IndexMore
import Derived.Lib.Bytealg
import Derived.Lib.SlicesS
namespace DevB
open Go Lib ItoP DevT

def letters : List UInt8 := [88, 89, 77, 83, 69, 71, 84, 67, 68, 82]
def wds : List ByteArray := [⟨#[110, 97, 110]⟩, ⟨#[105, 110, 102]⟩, ⟨#[45, 105, 110, 102]⟩, ⟨#[45, 48, 46, 48]⟩]
def digs (l : List UInt8) : Prop := ∀ c ∈ l, 48 ≤ c.toNat ∧ c.toNat ≤ 57

theorem pu_snoc : ∀ (l : List UInt8) (acc u d : Nat), parseUint10 acc l = .ok u → u < 10 ^ 15 → d < 10 → parseUint10 acc (l ++ [UInt8.ofNat (48 + d)]) = .ok (u * 10 + d)
  | [], acc, u, d, h, hu, hd => by
    simp only [parseUint10] at h
    injection h with h
    subst h
    have e : (UInt8.ofNat (48 + d)).toNat = 48 + d := by simp; omega
    simp only [List.nil_append, parseUint10, e]
    rw [if_pos (by omega), if_neg (by omega), if_neg (by omega)]
    congr 2
    omega
  | c :: r, acc, u, d, h, hu, hd => by
    simp only [parseUint10, List.cons_append] at h ⊢
    split at h
    · rename_i h1
      rw [if_pos h1]
      split at h
      · cases h
      · rename_i h2
        rw [if_neg h2]
        split at h
        · cases h
        · rename_i h3
          rw [if_neg h3]
          exact pu_snoc r _ u d h hu hd
    · cases h
theorem digs_snoc {l : List UInt8} {d : Nat} (h : digs l) (hd : d < 10) : digs (l ++ [UInt8.ofNat (48 + d)]) := by
  intro c hc
  rcases List.mem_append.1 hc with hc | hc
  · exact h c hc
  · simp only [List.mem_singleton] at hc
    subst hc
    have e : (UInt8.ofNat (48 + d)).toNat = 48 + d := by simp; omega
    omega
theorem parse_dec (u : Nat) (hu : u < 10 ^ 15) : parseUint10 0 (decDigits u) = .ok u ∧ digs (decDigits u) ∧ decDigits u ≠ [] := by
  induction u using Nat.strongRecOn with
  | _ u ih =>
    by_cases h : u < 10
    · rw [dig_small h]
      have := pu_snoc [] 0 0 u rfl (by decide) h
      have h2 := digs_snoc (l := []) (d := u) (by intro c hc; cases hc) h
      simp only [List.nil_append] at this h2
      exact ⟨by simpa using this, h2, by simp⟩
    · obtain ⟨h1, h2, h3⟩ := ih (u / 10) (by omega) (by omega)
      rw [dig_big h]
      have := pu_snoc _ 0 (u / 10) (u % 10) h1 (by omega) (by omega)
      exact ⟨by rw [this]; congr 1; omega, digs_snoc h2 (by omega), by simp⟩
theorem pad_parse (k : Nat) : ∀ {p : Nat} {s : ByteArray} {u : Nat}, p + 1 - s.size = k → parseUint10 0 s.data.toList = .ok u → digs s.data.toList → parseUint10 0 (pad p s).data.toList = .ok u ∧ digs (pad p s).data.toList := by
  induction k with
  | zero => intro p s u h h1 h2; rw [pad_out (by omega)]; exact ⟨h1, h2⟩
  | succ k ih =>
    intro p s u h h1 h2
    have hz := zero_size s
    rw [pad_in (by omega)]
    have e : ((⟨#[48]⟩ : ByteArray) ++ s).data.toList = 48 :: s.data.toList := by rw [app_list]; rfl
    refine ih (by omega) ?_ ?_
    · rw [e]
      show parseUint10 0 (48 :: s.data.toList) = _
      simp only [parseUint10]
      rw [if_pos (by decide), if_neg (by decide), if_neg (by decide)]
      exact h1
    · rw [e]
      intro c hc
      rcases List.mem_cons.1 hc with rfl | hc
      · decide
      · exact h2 c hc

/-! bytes and places -/
theorem index_one (l : List UInt8) (c : UInt8) : Lib.index l [c] = Lib.indexByte l c := by
  induction l with
  | nil => rfl
  | cons b l ih =>
    unfold Lib.index Lib.indexByte
    rw [ih]
    by_cases h : b = c
    · subst h; simp [List.isPrefixOf]
    · have h' : ¬ c = b := fun e => h e.symm
      simp [List.isPrefixOf, h, h']
theorem ib_no {l : List UInt8} {c : UInt8} (h : ∀ b ∈ l, b ≠ c) : Lib.indexByte l c = -1 := by
  induction l with
  | nil => rfl
  | cons b l ih =>
    unfold Lib.indexByte
    have h1 : b ≠ c := h b (List.Mem.head _)
    rw [ih (fun x hx => h x (List.Mem.tail _ hx))]
    simp [h1]
theorem ib_at {l : List UInt8} {c : UInt8} (r : List UInt8) (h : ∀ b ∈ l, b ≠ c) : Lib.indexByte (l ++ c :: r) c = (l.length : Int) := by
  induction l with
  | nil => simp [Lib.indexByte]
  | cons b l ih =>
    have h1 : b ≠ c := h b (List.Mem.head _)
    have e := ih (fun x hx => h x (List.Mem.tail _ hx))
    simp only [List.cons_append]
    unfold Lib.indexByte
    rw [e]
    have : ((l.length : Int) == -1) = false := by rw [beq_eq_false_iff_ne]; omega
    simp [h1, this]
theorem ib_letters {c : UInt8} (h : c.toNat < 58) : Lib.indexByte letters c = -1 := by
  apply ib_no
  intro b hb e
  subst e
  simp only [letters, List.mem_cons, List.not_mem_nil, or_false] at hb
  rcases hb with rfl | rfl | rfl | rfl | rfl | rfl | rfl | rfl | rfl | rfl <;> exact absurd h (by decide)
theorem digs_ne {l : List UInt8} (h : digs l) {c : UInt8} (hc : c.toNat < 48) : ∀ b ∈ l, b ≠ c := by
  intro b hb e
  subst e
  have := h b hb
  omega
theorem not_word {t : ByteArray} {c : UInt8} {r : List UInt8} (ht : t.data.toList = c :: r) (h1 : c ≠ 110) (h2 : c ≠ 105) (h3 : c = 45 → digs (r.take 1)) (h4 : c = 45 → r ≠ [48, 46, 48]) : containsS wds t = false := by
  cases h : containsS wds t with
  | false => rfl
  | true =>
    rw [containsS_iff] at h
    simp only [wds, List.mem_cons, List.not_mem_nil, or_false] at h
    rcases h with rfl | rfl | rfl | rfl
    · exact absurd (List.cons.inj ht).1.symm h1
    · exact absurd (List.cons.inj ht).1.symm h2
    · obtain ⟨e1, e2⟩ := List.cons.inj ht
      have := h3 e1.symm 105 (by rw [← e2]; decide)
      exact absurd this (by decide)
    · obtain ⟨e1, e2⟩ := List.cons.inj ht
      exact absurd e2.symm (h4 e1.symm)

/-! the two guesses -/
def av (l : List UInt8) : Int := match atoiAll l with | .ok v => v | .range => atoiSat l | _ => 0
def gi (t : List UInt8) : Int × Int × Int :=
  if 0 ≤ Lib.indexByte letters (t.headD 0) then (1 + Lib.indexByte letters (t.headD 0), av (t.drop 1), 0)
  else if (Lib.cut t [46]).2.2 = true then (12, av ((Lib.cut t [46]).1 ++ (Lib.cut t [46]).2.1), ((Lib.cut t [46]).2.1.length : Int))
  else (11, av t, 0)
def gw (g : List UInt8 → Int × Int × Int) (t : ByteArray) : Int × Int × Int := if containsS wds t = true then (13, idxOfS wds t, 0) else g t.data.toList
def l2d (l : List UInt8) : Int := if l.length = 0 ∨ 17 < l.length then -1 else match parseUint10 0 l with | .ok v => (v : Int) | _ => -1
def gt (s : Int) (r : List UInt8) : Int × Int × Int :=
  if Lib.indexByte r 46 < 0 then (11, s * l2d r, 0) else (12, s * l2d (r.take (Lib.indexByte r 46).toNat ++ r.drop ((Lib.indexByte r 46).toNat + 1)), (r.length : Int) - Lib.indexByte r 46 - 1)
def gs (t : List UInt8) : Int × Int × Int :=
  if 0 ≤ Lib.indexByte letters (t.headD 0) then (1 + Lib.indexByte letters (t.headD 0), l2d (t.drop 1), 0)
  else if t.headD 0 = 45 then gt (-1) (t.drop 1) else gt 1 t

/-- a row of digits, read either way -/
theorem av_dig {l : List UInt8} {u : Nat} (h : parseUint10 0 l = .ok u) (hd : digs l) (hn : l ≠ []) (hu : u < 10 ^ 15) : av l = u := by
  cases l with
  | nil => exact absurd rfl hn
  | cons c r =>
    have hc := hd c (List.Mem.head _)
    unfold av
    rw [atoiAll_plain c r (by omega) (by omega)]
    have : parseMag (c :: r) = .ok u := by unfold parseMag; rw [if_neg (by simp)]; exact h
    rw [this]
    simp only [signless]
    rw [if_neg (by omega)]
theorem av_neg {l : List UInt8} {u : Nat} (h : parseUint10 0 l = .ok u) (hn : l ≠ []) (hu : u < 10 ^ 15) : av (45 :: l) = -(u : Int) := by
  unfold av
  rw [atoiAll_minus]
  have : parseMag l = .ok u := by unfold parseMag; rw [if_neg hn]; exact h
  rw [this]
  simp only [signed]
  rw [if_neg (by omega)]
theorem l2d_dig {l : List UInt8} {u : Nat} (h : parseUint10 0 l = .ok u) (hn : l ≠ []) (hl : l.length ≤ 17) : l2d l = u := by
  unfold l2d
  rw [if_neg (by rintro (e | e); exact hn (List.length_eq_zero_iff.1 e); omega), h]

/-! each guess finds the operand -/
theorem ib_letter {k : Int} (h : 1 ≤ k ∧ k ≤ 10) : Lib.indexByte letters ((letter k).data.toList.headD 0) = k - 1 ∧ (letter k).data.toList.headD 0 ≠ 110 ∧ (letter k).data.toList.headD 0 ≠ 105 ∧ (letter k).data.toList.headD 0 ≠ 45 := by
  have : k = 1 ∨ k = 2 ∨ k = 3 ∨ k = 4 ∨ k = 5 ∨ k = 6 ∨ k = 7 ∨ k = 8 ∨ k = 9 ∨ k = 10 := by omega
  rcases this with rfl | rfl | rfl | rfl | rfl | rfl | rfl | rfl | rfl | rfl <;> decide
theorem letter_list (k : Int) : (letter k).data.toList = [(letter k).data.toList.headD 0] := rfl
theorem nat_list (u : Nat) : (itoaB (u : Int)).data.toList = decDigits u := by rw [itoaB_nat]
theorem nd : ∀ (k u : Nat), 1 ≤ k → u < 10 ^ k → nDigits u ≤ k := by
  intro k
  induction k with
  | zero => intro u h; omega
  | succ k ih =>
    intro u _ hu
    rw [← decDigits_length]
    by_cases h : u < 10
    · rw [dig_small h]; simp
    · rw [dig_big h]
      have hk : 1 ≤ k := by
        rcases Nat.eq_zero_or_pos k with rfl | hk
        · omega
        · exact hk
      have := ih (u / 10) hk (by rw [Nat.pow_succ] at hu; omega)
      rw [← decDigits_length] at this
      simp
      omega
theorem dec_len (u : Nat) (h : u < 10 ^ 15) : (decDigits u).length ≤ 15 := by
  rw [decDigits_length]
  exact nd 15 u (by omega) h
theorem word_at (n : Int) (h : 0 ≤ n ∧ n ≤ 3) : containsS wds (word n) = true ∧ idxOfS wds (word n) = n := by
  have : n = 0 ∨ n = 1 ∨ n = 2 ∨ n = 3 := by omega
  rcases this with rfl | rfl | rfl | rfl <;> decide
theorem complete_dev {k : Int} (h : 1 ≤ k ∧ k ≤ 10) (u : Nat) (hu : u < 100) : gw gi (letter k ++ itoaB u) = (k, (u : Int), 0) ∧ gw gs (letter k ++ itoaB u) = (k, (u : Int), 0) := by
  obtain ⟨h1, h2, h3⟩ := parse_dec u (by omega)
  obtain ⟨a1, a2, a3, a4⟩ := ib_letter h
  have hl : (letter k ++ itoaB (u : Int)).data.toList = (letter k).data.toList.headD 0 :: decDigits u := by rw [app_list, nat_list]; rfl
  have hlen := dec_len u (by omega)
  unfold gw
  rw [if_neg (by rw [not_word hl a2 a3 (fun e => absurd e a4) (fun e => absurd e a4)]; decide), if_neg (by rw [not_word hl a2 a3 (fun e => absurd e a4) (fun e => absurd e a4)]; decide), hl]
  unfold gi gs
  simp only [List.headD_cons, List.drop_one, List.tail_cons]
  rw [a1, if_pos (by omega), if_pos (by omega), av_dig h1 h2 h3 (by omega), l2d_dig h1 h3 (by omega)]
  constructor <;> (congr 1; omega)
theorem head_dig {l : List UInt8} (h : digs l) (hn : l ≠ []) : ∃ c r, l = c :: r ∧ 48 ≤ c.toNat ∧ c.toNat ≤ 57 := by
  cases l with
  | nil => exact absurd rfl hn
  | cons c r => exact ⟨c, r, rfl, h c (List.Mem.head _)⟩
theorem digs_take {l : List UInt8} (h : digs l) (k : Nat) : digs (l.take k) := fun c hc => h c (List.mem_of_mem_take hc)
theorem cut_no {l : List UInt8} (h : Lib.indexByte l 46 = -1) : Lib.cut l [46] = (l, [], false) := by
  unfold Lib.cut
  rw [index_one, h, if_neg (by decide)]
theorem cut_at {l : List UInt8} {i : Nat} (h : Lib.indexByte l 46 = (i : Int)) : Lib.cut l [46] = (l.take i, l.drop (i + 1), true) := by
  unfold Lib.cut
  rw [index_one, h, if_pos (by omega)]
  rfl
theorem digs_no46 {l : List UInt8} (h : digs l) : ∀ b ∈ l, b ≠ 46 := digs_ne h (by decide)
theorem complete_int (n : Int) (h : -1000000 ≤ n ∧ n ≤ 1000000) : gw gi (itoaB n) = (11, n, 0) ∧ gw gs (itoaB n) = (11, n, 0) := by
  by_cases hn : n < 0
  · obtain ⟨u, rfl⟩ : ∃ u : Nat, n = -(u : Int) := ⟨(-n).toNat, by omega⟩
    obtain ⟨h1, h2, h3⟩ := parse_dec u (by omega)
    have hlen := dec_len u (by omega)
    have hl : (itoaB (-(u : Int))).data.toList = 45 :: decDigits u := by rw [itoaB_neg hn, Int.neg_neg, app_list, nat_list]; rfl
    have hw : containsS wds (itoaB (-(u : Int))) = false := not_word hl (by decide) (by decide) (fun _ => digs_take h2 1) (fun _ e => digs_no46 h2 46 (by rw [e]; decide) rfl)
    have i1 : Lib.indexByte (45 :: decDigits u) 46 = -1 := ib_no (by
      intro b hb
      rcases List.mem_cons.1 hb with rfl | hb
      · decide
      · exact digs_no46 h2 b hb)
    have i2 : Lib.indexByte (decDigits u) 46 = -1 := ib_no (digs_no46 h2)
    unfold gw
    rw [if_neg (by rw [hw]; decide), if_neg (by rw [hw]; decide), hl]
    unfold gi gs gt
    simp only [List.headD_cons, List.drop_one, List.tail_cons]
    rw [ib_letters (c := 45) (by decide), cut_no i1, if_neg (by decide), if_neg (fun e => by cases e), if_neg (by decide), if_pos trivial, i2, if_pos (by decide), av_neg h1 h3 (by omega), l2d_dig h1 h3 (by omega)]
    constructor
    · rfl
    · rw [show (-1 : Int) * (u : Int) = -(u : Int) by omega]
  · obtain ⟨u, rfl⟩ := Int.eq_ofNat_of_zero_le (show 0 ≤ n by omega)
    obtain ⟨h1, h2, h3⟩ := parse_dec u (by omega)
    have hlen := dec_len u (by omega)
    obtain ⟨c, r, hcr, hc1, hc2⟩ := head_dig h2 h3
    have hl : (itoaB (u : Int)).data.toList = c :: r := by rw [nat_list, hcr]
    have hne : ∀ x : UInt8, (x.toNat < 48 ∨ 57 < x.toNat) → c ≠ x := fun x hx e => by subst e; omega
    have hw : containsS wds (itoaB (u : Int)) = false := not_word hl (hne _ (by decide)) (hne _ (by decide)) (fun e => absurd e (hne _ (by decide))) (fun e => absurd e (hne _ (by decide)))
    have i2 : Lib.indexByte (decDigits u) 46 = -1 := ib_no (digs_no46 h2)
    unfold gw
    rw [if_neg (by rw [hw]; decide), if_neg (by rw [hw]; decide), nat_list]
    have hhd : (decDigits u).headD 0 = c := by rw [hcr]; rfl
    unfold gi gs gt
    rw [hhd, ib_letters (c := c) (by omega), cut_no i2, if_neg (by decide), if_neg (fun e => by cases e), if_neg (by decide), if_neg (hne _ (by decide)), i2, if_pos (by decide), av_dig h1 h2 h3 (by omega), l2d_dig h1 h3 (by omega)]
    constructor
    · rfl
    · rw [Int.one_mul]
theorem pad_len (k : Nat) : ∀ {p : Nat} {s : ByteArray}, p + 1 - s.size = k → s.size ≤ 15 → p ≤ 6 → (pad p s).size ≤ 15 ∧ p < (pad p s).size := by
  induction k with
  | zero => intro p s h h1 h2; rw [pad_out (by omega)]; omega
  | succ k ih =>
    intro p s h h1 h2
    have := zero_size s
    rw [pad_in (by omega)]
    exact ih (by omega) (by omega) h2
/-- a decimal text, parted -/
theorem dec_parts (u p : Nat) (hu : u < 10 ^ 12) (hp : p ≤ 6) : ∃ (q : Nat) (S : List UInt8), 1 ≤ q ∧ S.length = q + p ∧ S.length ≤ 15 ∧ parseUint10 0 S = .ok u ∧ digs S ∧
    ∀ g : ByteArray, (decN g u p).data.toList = g.data.toList ++ (S.take q ++ 46 :: S.drop q) := by
  obtain ⟨h1, h2, h3⟩ := parse_dec u (by omega)
  have hlen := dec_len u (by omega)
  have hs : (itoaB (u : Int)).size ≤ 15 := by
    have : (itoaB (u : Int)).size = (itoaB (u : Int)).data.toList.length := rfl
    rw [this, nat_list]
    exact hlen
  obtain ⟨a1, a2⟩ := pad_len _ (p := p) rfl hs hp
  obtain ⟨b1, b2⟩ := pad_parse _ (p := p) (s := itoaB (u : Int)) rfl (by rw [nat_list]; exact h1) (by rw [nat_list]; exact h2)
  unfold decN
  generalize pad p (itoaB (u : Int)) = s at a1 a2 b1 b2
  have hsl : s.size = s.data.toList.length := rfl
  refine ⟨s.size - p, s.data.toList, by omega, by omega, by omega, b1, b2, fun g => ?_⟩
  unfold decS
  rw [app_list, app_list, app_list]
  simp only [ByteArray.data_extract, Array.toList_extract, List.append_assoc]
  congr 1
  simp only [List.extract, Nat.sub_zero, List.drop_zero, List.singleton_append]
  rw [List.take_of_length_le (i := s.size - (s.size - p)) (by rw [List.length_drop]; omega)]
theorem complete_dec (n : Int) (p : Nat) (h : -999999999 ≤ n ∧ n ≤ 999999999) (hp : p ≤ 6) : gw gi (decD n p) = (12, n, (p : Int)) ∧ gw gs (decD n p) = (12, n, (p : Int)) := by
  obtain ⟨u, hu⟩ : ∃ u : Nat, u = n.natAbs := ⟨_, rfl⟩
  obtain ⟨q, S, hq, hS, hS15, h1, h2, hd⟩ := dec_parts u p (by omega) hp
  have hn : S ≠ [] := by intro e; rw [e] at hS; simp at hS; omega
  have hlt : (S.take q).length = q := by rw [List.length_take]; omega
  obtain ⟨c, r, hcr, hc1, hc2⟩ := head_dig h2 hn
  have hR : S.take q ++ 46 :: S.drop q = c :: (r.take (q - 1) ++ 46 :: S.drop q) := by
    rw [hcr]
    obtain ⟨q', rfl⟩ : ∃ q', q = q' + 1 := ⟨q - 1, by omega⟩
    rfl
  have i1 : Lib.indexByte (S.take q ++ 46 :: S.drop q) 46 = (q : Int) := by
    rw [ib_at _ (digs_no46 (digs_take h2 q)), hlt]
  have hne : ∀ x : UInt8, (x.toNat < 48 ∨ 57 < x.toNat) → c ≠ x := fun x hx e => by subst e; omega
  have f2 : (S.take q ++ 46 :: S.drop q).take q = S.take q := by rw [List.take_append_of_le_length (by omega), List.take_of_length_le (by omega)]
  have f3 : (S.take q ++ 46 :: S.drop q).drop (q + 1) = S.drop q := by
    rw [List.drop_append, hlt, List.drop_eq_nil_of_le (by omega)]
    simp
  have f4 : (S.take q ++ 46 :: S.drop q).length = q + 1 + p := by simp; omega
  have f5 : (S.drop q).length = p := by rw [List.length_drop]; omega
  unfold decD
  by_cases hneg : n < 0
  · rw [if_pos hneg, show (-n).toNat = u by omega]
    have hl := hd ⟨#[45]⟩
    generalize decN ⟨#[45]⟩ u p = t at hl
    have hl' : t.data.toList = 45 :: (S.take q ++ 46 :: S.drop q) := hl
    have hw : containsS wds t = false := by
      refine not_word hl' (by decide) (by decide) (fun _ => ?_) (fun _ e => ?_)
      · rw [hR]
        intro x hx
        simp at hx
        subst hx
        exact ⟨hc1, hc2⟩
      · rw [e] at i1 f2 f3
        have hq1 : q = 1 := by
          have : Lib.indexByte [48, 46, 48] 46 = 1 := by decide
          rw [this] at i1
          omega
        subst hq1
        have hSS : S = [48, 48] := by
          rw [← List.take_append_drop 1 S, ← f2, ← f3]
          rfl
        rw [hSS] at h1
        have : parseUint10 0 [48, 48] = .ok 0 := by decide
        rw [this] at h1
        injection h1 with h1
        omega
    have i2 : Lib.indexByte (45 :: (S.take q ++ 46 :: S.drop q)) 46 = ((q + 1 : Nat) : Int) := by
      have := ib_at (l := 45 :: S.take q) (c := 46) (S.drop q) (by
        intro b hb
        rcases List.mem_cons.1 hb with rfl | hb
        · decide
        · exact digs_no46 (digs_take h2 q) b hb)
      rw [List.length_cons, hlt] at this
      exact this
    unfold gw
    rw [if_neg (by rw [hw]; decide), if_neg (by rw [hw]; decide), hl']
    unfold gi gs gt
    simp only [List.headD_cons, List.drop_one, List.tail_cons]
    rw [ib_letters (c := 45) (by decide), cut_at i2, if_neg (by decide), if_pos rfl, if_neg (by decide), if_pos trivial, i1, if_neg (by omega)]
    simp only [List.take_succ_cons, List.drop_succ_cons, Int.toNat_natCast, f2, f3, f4, f5, List.cons_append, List.take_append_drop]
    rw [av_neg h1 hn (by omega), l2d_dig h1 hn (by omega)]
    constructor
    · rw [show -(u : Int) = n by omega]
    · rw [show -1 * (u : Int) = n by omega, show ((q + 1 + p : Nat) : Int) - (q : Int) - 1 = (p : Int) by omega]
  · rw [if_neg hneg, show n.toNat = u by omega]
    have hl := hd ⟨#[]⟩
    generalize decN ⟨#[]⟩ u p = t at hl
    have hl' : t.data.toList = S.take q ++ 46 :: S.drop q := hl
    have hhd : (S.take q ++ 46 :: S.drop q).headD 0 = c := by rw [hR]; rfl
    have hw : containsS wds t = false := not_word (hl'.trans hR) (hne _ (by decide)) (hne _ (by decide)) (fun e => absurd e (hne _ (by decide))) (fun e => absurd e (hne _ (by decide)))
    unfold gw
    rw [if_neg (by rw [hw]; decide), if_neg (by rw [hw]; decide), hl']
    unfold gi gs gt
    rw [hhd, ib_letters (c := c) (by omega), cut_at i1, if_neg (by decide), if_pos rfl, if_neg (by decide), if_neg (hne _ (by decide)), i1, if_neg (by omega)]
    simp only [Int.toNat_natCast, f2, f3, f4, f5, List.take_append_drop]
    rw [av_dig h1 h2 hn (by omega), l2d_dig h1 hn (by omega)]
    constructor
    · rw [show (u : Int) = n by omega]
    · rw [show 1 * (u : Int) = n by omega, show ((q + 1 + p : Nat) : Int) - (q : Int) - 1 = (p : Int) by omega]

/-! the whole -/
theorem complete (k n p : Int) (h : DevP.ok k n p = true) : gw gi (txt k n p) = (k, n, p) ∧ gw gs (txt k n p) = (k, n, p) := by
  have hr := DevP.ok_range h
  by_cases h10 : k ≤ 10
  · have hd := h
    rw [DevP.ok_dev ⟨hr.1, h10⟩, decide_eq_true_iff] at hd
    have hs : DevP.size k ≤ 64 := by
      have : k = 1 ∨ k = 2 ∨ k = 3 ∨ k = 4 ∨ k = 5 ∨ k = 6 ∨ k = 7 ∨ k = 8 ∨ k = 9 ∨ k = 10 := by omega
      rcases this with rfl | rfl | rfl | rfl | rfl | rfl | rfl | rfl | rfl | rfl <;> decide
    obtain ⟨h0, h1, rfl⟩ := hd
    obtain ⟨u, rfl⟩ := Int.eq_ofNat_of_zero_le h0
    rw [txt_dev h10 h]
    exact complete_dev ⟨hr.1, h10⟩ u (by omega)
  · have : k = 11 ∨ k = 12 ∨ k = 13 := by omega
    rcases this with rfl | rfl | rfl
    · have hd := h
      rw [DevP.ok_int, decide_eq_true_iff] at hd
      obtain ⟨h0, h1, rfl⟩ := hd
      rw [txt_11 h]
      exact complete_int n (by omega)
    · have hd := h
      rw [DevP.ok_dec, decide_eq_true_iff] at hd
      obtain ⟨h0, h1, h3, h4, _⟩ := hd
      obtain ⟨q, rfl⟩ := Int.eq_ofNat_of_zero_le (show 0 ≤ p by omega)
      rw [txt_12 h]
      exact complete_dec n q ⟨h0, h1⟩ (by omega)
    · have hd := h
      rw [DevP.ok_word, decide_eq_true_iff] at hd
      obtain ⟨h0, h1, rfl⟩ := hd
      rw [txt_13 h]
      obtain ⟨a, b⟩ := word_at n ⟨h0, h1⟩
      unfold gw
      rw [if_pos a, if_pos a, b]
      exact ⟨rfl, rfl⟩
/-- what is read of a text, by a guess -/
def readBy (g : List UInt8 → Int × Int × Int) (t : ByteArray) : Option (Int × Int × Int) :=
  if t = ⟨#[]⟩ then none else if txt (gw g t).1 (gw g t).2.1 (gw g t).2.2 = t then some (gw g t) else none
theorem read_ok {g : List UInt8 → Int × Int × Int} {t : ByteArray} {a : Int × Int × Int} (h : readBy g t = some a) : DevP.ok a.1 a.2.1 a.2.2 = true ∧ txt a.1 a.2.1 a.2.2 = t ∧ t ≠ ⟨#[]⟩ := by
  unfold readBy at h
  split at h
  · cases h
  · rename_i h0
    split at h
    · rename_i h1
      injection h with h
      subst h
      refine ⟨?_, h1, h0⟩
      cases hok : DevP.ok (gw g t).1 (gw g t).2.1 (gw g t).2.2 with
      | true => rfl
      | false => rw [txt_no hok] at h1; exact absurd h1.symm h0
    · cases h
theorem read_of {t : ByteArray} {k n p : Int} (h : DevP.ok k n p = true) (ht : txt k n p = t) (h0 : t ≠ ⟨#[]⟩) : readBy gi t = some (k, n, p) ∧ readBy gs t = some (k, n, p) := by
  obtain ⟨a, b⟩ := complete k n p h
  rw [ht] at a b
  unfold readBy
  rw [if_neg h0, if_neg h0, a, b]
  simp only
  rw [if_pos ht]
  exact ⟨rfl, rfl⟩
theorem read_same (t : ByteArray) : readBy gi t = readBy gs t := by
  cases h : readBy gs t with
  | some a =>
    obtain ⟨h1, h2, h3⟩ := read_ok h
    exact (read_of h1 h2 h3).1
  | none =>
    cases h' : readBy gi t with
    | none => rfl
    | some a =>
      obtain ⟨h1, h2, h3⟩ := read_ok h'
      rw [(read_of h1 h2 h3).2] at h
      cases h
end DevB
