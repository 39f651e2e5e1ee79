/-
  PACKED STACKS, PLAINLY. No program in this text.
-/
import Derived.Laws.BitsAllLaws
namespace BitP
open Go (IntKind)

/-- a stack (max 16) or fork (max 8) is ok -/
def ok (m : Int) (b n : Int) : Bool := decide (0 ≤ n) && decide (n ≤ m) && (b / 2 ^ n.toNat == 0)

/-- the bits of a stack, the one on top last -/
def bits (b n : Nat) : List Bool := (List.range n).map fun i => b / 2 ^ (n - 1 - i) % 2 == 1
theorem bits_length (b n : Nat) : (bits b n).length = n := by simp [bits]
theorem bits_take (b n k : Nat) (h : k < n) : (bits b n).take (k + 1) = (bits b n).take k ++ [b / 2 ^ (n - 1 - k) % 2 == 1] := by
  rw [List.take_succ_eq_append_getElem (by rw [bits_length]; exact h)]
  congr 2
  simp [bits]
theorem bits_getElem (b n k : Nat) (h : k < (bits b n).length) : (bits b n)[k] = (b / 2 ^ (n - 1 - k) % 2 == 1) := by simp [bits]

/-- a list of bits as a number, the last the lowest -/
def num : List Bool → Nat
  | [] => 0
  | x :: r => (if x then 2 ^ r.length else 0) + num r
theorem num_lt : ∀ l : List Bool, num l < 2 ^ l.length
  | [] => by simp [num]
  | x :: r => by
    have := num_lt r
    simp only [num, List.length_cons, Nat.pow_succ]
    split <;> omega
theorem num_append (l r : List Bool) : num (l ++ r) = num l * 2 ^ r.length + num r := by
  induction l with
  | nil => simp [num]
  | cons x l ih =>
    simp only [List.cons_append, num, List.length_append, ih, Nat.add_mul]
    split
    · rw [Nat.pow_add]; omega
    · omega
theorem num_snoc (l : List Bool) (x : Bool) : num (l ++ [x]) = num l * 2 + x.toNat := by
  rw [num_append]; cases x <;> simp [num]

theorem bits_succ (b n : Nat) : bits b (n + 1) = bits (b / 2) n ++ [b % 2 == 1] := by
  unfold bits
  rw [List.range_succ, List.map_append]
  congr 1
  · refine List.map_congr_left fun i hi => ?_
    have hi' : i < n := List.mem_range.1 hi
    rw [show n + 1 - 1 - i = (n - 1 - i) + 1 by omega, Nat.pow_succ, Nat.mul_comm, ← Nat.div_div_eq_div_mul]
  · simp
theorem num_bits (b n : Nat) : num (bits b n) = b % 2 ^ n := by
  induction n generalizing b with
  | zero => simp [bits, num, Nat.mod_one]
  | succ n ih =>
    rw [bits_succ, num_snoc, ih, Nat.pow_succ, Nat.mul_comm (2 ^ n) 2, Nat.mod_mul]
    have h : (b % 2 == 1).toNat = b % 2 := by
      have : b % 2 = 0 ∨ b % 2 = 1 := by omega
      rcases this with h | h <;> rw [h] <;> rfl
    rw [h]; omega
theorem bits_num (l : List Bool) : bits (num l) l.length = l := by
  have key : ∀ n (l : List Bool), l.length = n → bits (num l) n = l := by
    intro n
    induction n with
    | zero => intro l h; have := List.eq_nil_of_length_eq_zero h; subst this; simp [bits]
    | succ n ih =>
      intro l h
      have hne : l ≠ [] := by intro e; rw [e] at h; cases h
      obtain ⟨l', x, rfl⟩ : ∃ l' x, l = l' ++ [x] := ⟨l.dropLast, l.getLast hne, (List.dropLast_concat_getLast hne).symm⟩
      have hl : l'.length = n := by simpa using h
      rw [bits_succ, num_snoc]
      have e1 : (num l' * 2 + x.toNat) / 2 = num l' := by cases x <;> simp only [Bool.toNat_false, Bool.toNat_true] <;> omega
      have e2 : ((num l' * 2 + x.toNat) % 2 == 1) = x := by
        have h3 : (num l' * 2 + x.toNat) % 2 = x.toNat := by cases x <;> simp only [Bool.toNat_false, Bool.toNat_true] <;> omega
        rw [h3]; cases x <;> rfl
      rw [e1, e2, ih l' hl]
  exact key _ l rfl

/-- the last m of a list -/
def last (m : Nat) (l : List Bool) : List Bool := l.drop (l.length - m)
theorem last_length (m : Nat) (l : List Bool) : (last m l).length = min m l.length := by unfold last; rw [List.length_drop]; omega
theorem last_min (m : Nat) (l : List Bool) : last (min m l.length) l = last m l := by unfold last; congr 1; omega
theorem num_last (m : Nat) (l : List Bool) : num (last m l) = num l % 2 ^ (min m l.length) := by
  have h : l = l.take (l.length - m) ++ last m l := by unfold last; rw [List.take_append_drop]
  have hl := last_length m l
  have hlt := num_lt (last m l)
  rw [hl] at hlt
  have h2 : num l = num (l.take (l.length - m)) * 2 ^ (min m l.length) + num (last m l) := by
    have := num_append (l.take (l.length - m)) (last m l)
    rw [← h, hl] at this
    exact this
  rw [h2, Nat.mul_comm, Nat.mul_add_mod, Nat.mod_eq_of_lt hlt]

theorem last_succ {l : List Bool} {k : Nat} (h : k < l.length) : num (last (k + 1) l) = (if l[l.length - 1 - k]'(by omega) then 2 ^ k else 0) + num (last k l) := by
  unfold last
  rw [List.drop_eq_getElem_cons (show l.length - (k + 1) < l.length by omega)]
  have e1 : l.length - (k + 1) + 1 = l.length - k := by omega
  have e2 : l.length - (k + 1) = l.length - 1 - k := by omega
  simp only [num, e1, List.length_drop]
  rw [show l.length - (l.length - k) = k by omega]
  simp only [e2]

theorem ok_iff {m b n : Int} : ok m b n = true ↔ 0 ≤ n ∧ n ≤ m ∧ b / 2 ^ n.toNat = 0 := by
  unfold ok; simp [and_assoc]
/-- an ok stack as natural numbers -/
theorem ok_nat {m b n : Int} (h : ok m b n = true) (hb : 0 ≤ b) : ∃ B N : Nat, b = B ∧ n = N ∧ (N : Int) ≤ m ∧ B < 2 ^ N := by
  obtain ⟨h1, h2, h3⟩ := ok_iff.1 h
  obtain ⟨B, rfl⟩ := Int.eq_ofNat_of_zero_le hb
  obtain ⟨N, rfl⟩ := Int.eq_ofNat_of_zero_le h1
  refine ⟨B, N, rfl, rfl, h2, ?_⟩
  rw [Int.toNat_natCast] at h3
  have h4 : ((B / 2 ^ N : Nat) : Int) = 0 := by rw [Int.natCast_ediv]; simpa using h3
  have h5 : B / 2 ^ N = 0 := by exact_mod_cast h4
  exact (Nat.div_eq_zero_iff_lt (Nat.two_pow_pos N)).1 h5
theorem ok_of {m : Int} {B N : Nat} (h1 : (N : Int) ≤ m) (h2 : B < 2 ^ N) : ok m (B : Int) (N : Int) = true := by
  refine ok_iff.2 ⟨by omega, h1, ?_⟩
  rw [Int.toNat_natCast]
  have : B / 2 ^ N = 0 := Nat.div_eq_of_lt h2
  have h : ((B / 2 ^ N : Nat) : Int) = 0 := by rw [this]; rfl
  rw [Int.natCast_ediv] at h
  simpa using h
theorem ok_mid {m b : Int} {n : Nat} (h0 : 0 ≤ b) (h : (n : Int) ≤ m) : ok m b (n : Int) = decide (b < ((2 ^ n : Nat) : Int)) := by
  obtain ⟨B, rfl⟩ := Int.eq_ofNat_of_zero_le h0
  have e1 : decide ((0 : Int) ≤ (n : Int)) = true := decide_eq_true (Int.natCast_nonneg n)
  have e2 : decide ((n : Int) ≤ m) = true := decide_eq_true h
  unfold ok
  rw [e1, e2, Int.toNat_natCast, Bool.true_and, Bool.true_and]
  have h5 : (B : Int) / 2 ^ n = ((B / 2 ^ n : Nat) : Int) := by rw [Int.natCast_ediv, Int.natCast_pow]; rfl
  have e3 : (((B / 2 ^ n : Nat) : Int) == 0) = decide (B / 2 ^ n = 0) := by rw [Bool.eq_iff_iff, beq_iff_eq, decide_eq_true_iff]; omega
  rw [h5, e3]
  refine decide_eq_decide.2 ?_
  rw [Nat.div_eq_zero_iff_lt (Nat.two_pow_pos n)]
  omega
theorem push_val {B N : Nat} (x : Bool) (hB : B < 2 ^ N) (hN : N ≤ 16) : num (last 16 (bits B N ++ [x])) = (B * 2 + x.toNat) % 65536 ∧ min 16 (bits B N ++ [x]).length = min (N + 1) 16 := by
  have hx : x.toNat ≤ 1 := by cases x <;> simp
  have hl : (bits B N ++ [x]).length = N + 1 := by simp [bits_length]
  refine ⟨?_, by rw [hl, Nat.min_comm]⟩
  rw [num_last, hl, num_snoc, num_bits, Nat.mod_eq_of_lt hB]
  by_cases h : N = 16
  · subst h; rfl
  · have h1 : 2 ^ (N + 1) ≤ 2 ^ 16 := Nat.pow_le_pow_right (by omega) (by omega)
    have h2 : 2 ^ (N + 1) = 2 ^ N * 2 := Nat.pow_succ _ _
    rw [Nat.min_eq_right (by omega), Nat.mod_eq_of_lt (by omega), Nat.mod_eq_of_lt (by omega)]
theorem pop_val {B N : Nat} (hB : B < 2 ^ (N + 1)) (hN : N + 1 ≤ 16) : num (last 16 (bits (B / 2) N)) = B / 2 ∧ min 16 (bits (B / 2) N).length = N := by
  have hl := bits_length (B / 2) N
  refine ⟨?_, by rw [hl]; omega⟩
  rw [Nat.pow_succ] at hB
  rw [num_last, hl, num_bits, Nat.min_eq_right (by omega), Nat.mod_mod, Nat.mod_eq_of_lt (by omega)]
theorem turn_val {B N : Nat} (x : Bool) (hB : B < 2 ^ (N + 1)) (hN : N + 1 ≤ 16) : num (last 16 (bits (B / 2) N ++ [x])) = B - B % 2 + x.toNat ∧ min 16 (bits (B / 2) N ++ [x]).length = N + 1 := by
  have hx : x.toNat ≤ 1 := by cases x <;> simp
  have h2 : 2 ^ (N + 1) = 2 ^ N * 2 := Nat.pow_succ _ _
  have h3 : 2 ^ (N + 1) ≤ 2 ^ 16 := Nat.pow_le_pow_right (by omega) (by omega)
  have h := push_val (B := B / 2) (N := N) x (by omega) (by omega)
  refine ⟨?_, by rw [h.2]; omega⟩
  rw [h.1, Nat.mod_eq_of_lt (by omega)]; omega
theorem and_even (x m : Nat) (h : x / 2 < 2 ^ m) : x &&& (2 ^ (m + 1) - 2) = x - x % 2 := by
  have h1 : (x &&& (2 ^ (m + 1) - 2)) / 2 = x / 2 := by
    rw [Nat.and_div_two, show (2 ^ (m + 1) - 2) / 2 = 2 ^ m - 1 by rw [Nat.pow_succ]; omega, Nat.and_two_pow_sub_one_eq_mod, Nat.mod_eq_of_lt h]
  have h2 : (x &&& (2 ^ (m + 1) - 2)) % 2 = 0 := by
    rw [show (2 : Nat) = 2 ^ 1 from rfl, Nat.and_mod_two_pow]
    rw [show (2 ^ (m + 1) - 2 ^ 1) % 2 ^ 1 = 0 by have := Nat.two_pow_pos m; rw [Nat.pow_succ]; omega]
    exact Nat.and_zero _
  omega
theorem and1_u16 (B : Nat) (h : B < 65536) : Go.bits .and .u16 (B : Int) 1 = ((B % 2 : Nat) : Int) := by
  have := Go.u16_and_nat B 1 h (by decide)
  rw [show ((1 : Nat) : Int) = 1 from rfl] at this
  rw [this, Go.nat_mask1]
theorem and1_u8 (B : Nat) (h : B < 256) : Go.bits .and .u8 (B : Int) 1 = ((B % 2 : Nat) : Int) := by
  have := Go.u8_and_nat B 1 h (by decide)
  rw [show ((1 : Nat) : Int) = 1 from rfl] at this
  rw [this, Go.nat_mask1]
theorem or_u16 (B : Nat) (x : Bool) : Go.bits .or .u16 (IntKind.u16.wrap ((B : Int) * 2)) (x.toNat : Int) = (((B * 2 + x.toNat) % 65536 : Nat) : Int) := by
  have e : IntKind.u16.wrap ((B : Int) * 2) = ((B * 2 % 65536 : Nat) : Int) := by rw [Go.IntKind.wrap_u16]; omega
  have hx : x.toNat ≤ 1 := by cases x <;> simp
  rw [e, Go.u16_or_nat _ _ (by omega) (by omega), Go.nat_join 1 _ _ (by omega) (by omega)]
  congr 1; omega
theorem or_u8 (B : Nat) (x : Bool) : Go.bits .or .u8 (IntKind.u8.wrap ((B : Int) * 2)) (x.toNat : Int) = (((B * 2 + x.toNat) % 256 : Nat) : Int) := by
  have e : IntKind.u8.wrap ((B : Int) * 2) = ((B * 2 % 256 : Nat) : Int) := by rw [Go.IntKind.wrap_u8']; omega
  have hx : x.toNat ≤ 1 := by cases x <;> simp
  rw [e, Go.u8_or_nat _ _ (by omega) (by omega), Go.nat_join 1 _ _ (by omega) (by omega)]
  congr 1; omega
theorem turn_u16 (B : Nat) (h : B < 65536) (x : Bool) : Go.bits .or .u16 (Go.bits .andNot .u16 (B : Int) 1) (x.toNat : Int) = ((B - B % 2 + x.toNat : Nat) : Int) := by
  have hx : x.toNat ≤ 1 := by cases x <;> simp
  have e := Go.u16_andNot_nat B 1 h (by decide)
  rw [show ((1 : Nat) : Int) = 1 from rfl] at e
  rw [e, show 65535 - 1 = 2 ^ (15 + 1) - 2 from rfl, and_even B 15 (by omega), Go.u16_or_nat _ _ (by omega) (by omega), Go.nat_join 1 _ _ (by omega) (by omega)]
/-- what stands in the place of a stack: the stack if it is ok, else the empty one -/
def good (m b n : Int) : Nat × Nat := if ok m b n then (b.toNat, n.toNat) else (0, 0)
end BitP
