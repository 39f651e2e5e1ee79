/-
  CONTACTS AND COILS, PLAINLY, ON: what follows from being one. No program in this text.
-/
import Derived.Test.YtmlpobecilbknaaDoorElemP
namespace ElemP

theorem bit_ok {a : Arg} (h : bitA a = true) : okA a = true := by simp only [bitA, DevP.isBit, Bool.and_eq_true] at h; exact h.1
theorem whole_ok {a : Arg} (h : wholeA a = true) : okA a = true := by simp only [wholeA, DevP.isWhole, Bool.and_eq_true] at h; exact h.1
theorem real_ok {a : Arg} (h : realA a = true) : okA a = true := by simp only [realA, DevP.isReal, Bool.and_eq_true] at h; exact h.1
theorem kind_ok {a : Arg} {k l : Int} (h : kindA a k l = true) : okA a = true := by simp only [kindA, Bool.and_eq_true] at h; exact h.1
theorem contact_in {op : Int} {xs : List Arg} (h : contact op xs = true) : (1 ≤ op ∧ op ≤ 10) ∧ xs.length = arity op ∧ ∀ x ∈ xs, okA x = true := by
  match xs, h with
  | [a], h =>
    simp only [contact, Bool.and_eq_true, decide_eq_true_eq] at h
    refine ⟨by omega, ?_, ?_⟩
    · unfold arity; rw [if_pos (by omega)]; rfl
    · intro x hx; simp at hx; subst hx; exact bit_ok h.2
  | [a, b], h =>
    simp only [contact] at h
    split at h
    · rename_i h1
      simp only [Bool.and_eq_true] at h
      refine ⟨by omega, ?_, ?_⟩
      · unfold arity; rw [if_neg (by omega), if_neg (by omega), if_pos (by omega)]; rfl
      · intro x hx; simp at hx; rcases hx with rfl | rfl
        · exact bit_ok h.1
        · exact h.2.1
    · simp only [Bool.and_eq_true, Bool.or_eq_true, decide_eq_true_eq] at h
      refine ⟨by omega, ?_, ?_⟩
      · unfold arity; rw [if_neg (by omega), if_neg (by omega), if_pos (by omega)]; rfl
      · intro x hx; simp at hx
        rcases h.2 with ⟨h1, h2⟩ | ⟨h1, h2⟩
        · rcases hx with rfl | rfl
          · exact whole_ok h1
          · exact whole_ok h2
        · rcases hx with rfl | rfl
          · exact real_ok h1
          · exact real_ok h2
theorem coil_in {op : Int} {xs : List Arg} (h : coil op xs = true) : (21 ≤ op ∧ op ≤ 37) ∧ xs.length = arity op ∧ ∀ x ∈ xs, okA x = true := by
  match xs, h with
  | [a], h =>
    have key : (op = 21 ∨ op = 22 ∨ op = 23 ∨ op = 25) ∧ okA a = true := by
      simp only [coil] at h
      repeat' split at h
      all_goals first | (cases h; done) | skip
      all_goals try simp only [Bool.or_eq_true] at h
      · exact ⟨by omega, kind_ok h⟩
      · exact ⟨by omega, h.elim kind_ok kind_ok⟩
      · exact ⟨by omega, h.elim kind_ok fun h => h.elim kind_ok kind_ok⟩
      · exact ⟨by omega, kind_ok h⟩
    refine ⟨by omega, ?_, ?_⟩
    · unfold arity; rw [if_pos (by omega)]; rfl
    · intro x hx; simp at hx; subst hx; exact key.2
  | [a, b], h =>
    have key : (op = 24 ∨ op = 26 ∨ op = 27 ∨ op = 28 ∨ op = 29 ∨ op = 30 ∨ op = 36 ∨ op = 37) ∧ okA a = true ∧ okA b = true := by
      simp only [coil] at h
      repeat' split at h
      all_goals first | (cases h; done) | skip
      all_goals simp only [Bool.or_eq_true, Bool.and_eq_true] at h
      · exact ⟨by omega, kind_ok h.1, kind_ok h.2⟩
      · exact ⟨by omega, kind_ok h.1, kind_ok h.2.1⟩
      · exact ⟨by omega, kind_ok h.1, kind_ok h.2.1⟩
      · exact ⟨by omega, kind_ok h.1, whole_ok h.2⟩
      · exact ⟨by omega, kind_ok h.1, real_ok h.2⟩
      · exact ⟨by omega, h.elim (fun h => kind_ok h.1) (fun h => kind_ok h.1), h.elim (fun h => whole_ok h.2) (fun h => real_ok h.2)⟩
    refine ⟨by omega, ?_, ?_⟩
    · unfold arity; rw [if_neg (by omega), if_neg (by omega), if_pos (by omega)]; rfl
    · intro x hx; simp at hx; rcases hx with rfl | rfl
      · exact key.2.1
      · exact key.2.2
  | [a, b, c], h =>
    have key : (31 ≤ op ∧ op ≤ 35) ∧ okA a = true ∧ okA b = true ∧ okA c = true := by
      simp only [coil] at h
      repeat' split at h
      all_goals first | (cases h; done) | skip
      all_goals simp only [Bool.or_eq_true, Bool.and_eq_true] at h
      · exact ⟨by omega, kind_ok h.1, whole_ok h.2.1, whole_ok h.2.2⟩
      · exact ⟨by omega, h.elim (fun h => kind_ok h.1) (fun h => kind_ok h.1), h.elim (fun h => whole_ok h.2.1) (fun h => real_ok h.2.1), h.elim (fun h => whole_ok h.2.2) (fun h => real_ok h.2.2)⟩
    refine ⟨by omega, ?_, ?_⟩
    · unfold arity; rw [if_neg (by omega), if_pos (by omega)]; rfl
    · intro x hx; simp at hx; rcases hx with rfl | rfl | rfl
      · exact key.2.1
      · exact key.2.2.1
      · exact key.2.2.2
theorem any_not {xs : List Arg} : (xs.any fun x => !okA x) = false ↔ ∀ x ∈ xs, okA x = true := by
  rw [List.any_eq_false]
  constructor
  · intro h x hx; have := h x hx; simpa using this
  · intro h x hx; rw [h x hx]; decide
theorem contact_no {op : Int} {xs : List Arg} (h : ¬ ((1 ≤ op ∧ op ≤ 10) ∧ xs.length = arity op ∧ ∀ x ∈ xs, okA x = true)) : contact op xs = false := by
  cases hc : contact op xs with
  | false => rfl
  | true => exact absurd (contact_in hc) h
theorem coil_no {op : Int} {xs : List Arg} (h : ¬ ((21 ≤ op ∧ op ≤ 37) ∧ xs.length = arity op ∧ ∀ x ∈ xs, okA x = true)) : coil op xs = false := by
  cases hc : coil op xs with
  | false => rfl
  | true => exact absurd (coil_in hc) h
/-- nothing is both -/
theorem not_both {op : Int} {xs : List Arg} (h : contact op xs = true) : coil op xs = false := coil_no (fun h2 => by have := (contact_in h).1; omega)
/-- three of a length -/
theorem len1 {xs : List Arg} (h : xs.length = 1) : ∃ k n p, xs = [(k, n, p)] := by
  match xs, h with
  | [(k, n, p)], _ => exact ⟨k, n, p, rfl⟩
theorem len2 {xs : List Arg} (h : xs.length = 2) : ∃ k n p k1 n1 p1, xs = [(k, n, p), (k1, n1, p1)] := by
  match xs, h with
  | [(k, n, p), (k1, n1, p1)], _ => exact ⟨k, n, p, k1, n1, p1, rfl⟩
theorem len3 {xs : List Arg} (h : xs.length = 3) : ∃ k n p k1 n1 p1 k2 n2 p2, xs = [(k, n, p), (k1, n1, p1), (k2, n2, p2)] := by
  match xs, h with
  | [(k, n, p), (k1, n1, p1), (k2, n2, p2)], _ => exact ⟨k, n, p, k1, n1, p1, k2, n2, p2, rfl⟩
section
variable {k0 n0 p0 k1 n1 p1 k2 n2 p2 : Int}
theorem v1 {op : Int} (h : op = 1 ∨ op = 2) : contact op [(k0, n0, p0)] = bitA (k0, n0, p0) := by simp [contact, h]
theorem v3 {op : Int} (h : op = 3 ∨ op = 4) : contact op [(k0, n0, p0), (k1, n1, p1)] = (bitA (k0, n0, p0) && (okA (k1, n1, p1) && k1 == 5)) := by simp [contact, h]
theorem v5 {op : Int} (h : 5 ≤ op ∧ op ≤ 10) : contact op [(k0, n0, p0), (k1, n1, p1)] = (wholeA (k0, n0, p0) && wholeA (k1, n1, p1) || realA (k0, n0, p0) && realA (k1, n1, p1)) := by
  have : ¬ (op = 3 ∨ op = 4) := by omega
  simp only [contact, if_neg this, decide_eq_true h, Bool.true_and]
theorem u21 (ho : okA (k0, n0, p0) = true) : coil 21 [(k0, n0, p0)] = ([2, 3] : List Int).any fun x => k0 == x := by
  show kindA _ 2 3 = _
  simp only [kindA, ho, Bool.true_and, List.any_cons, List.any_nil, Bool.or_false]
theorem u22 (ho : okA (k0, n0, p0) = true) : coil 22 [(k0, n0, p0)] = ([2, 3, 4] : List Int).any fun x => k0 == x := by
  show (kindA _ 2 3 || kindA _ 4 4) = _
  simp only [kindA, ho, Bool.true_and, List.any_cons, List.any_nil, Bool.or_false]
  cases (k0 == 2) <;> cases (k0 == 3) <;> cases (k0 == 4) <;> rfl
theorem u23 (ho : okA (k0, n0, p0) = true) : coil 23 [(k0, n0, p0)] = ([2, 3, 4, 7, 8] : List Int).any fun x => k0 == x := by
  show (kindA _ 2 3 || (kindA _ 4 7 || kindA _ 8 8)) = _
  simp only [kindA, ho, Bool.true_and, List.any_cons, List.any_nil, Bool.or_false]
  cases (k0 == 2) <;> cases (k0 == 3) <;> cases (k0 == 4) <;> cases (k0 == 7) <;> cases (k0 == 8) <;> rfl
theorem u25 (ho : okA (k0, n0, p0) = true) : coil 25 [(k0, n0, p0)] = (k0 == 4) := by
  show kindA _ 4 4 = _
  simp only [kindA, ho, Bool.true_and]
  cases (k0 == 4) <;> rfl
theorem u24 (ho : okA (k0, n0, p0) = true) (hp : okA (k1, n1, p1) = true) : coil 24 [(k0, n0, p0), (k1, n1, p1)] = ((([2, 3] : List Int).any fun x => k0 == x) && k1 == 5) := by
  show (kindA _ 2 3 && kindA _ 5 5) = _
  simp only [kindA, ho, hp, Bool.true_and, List.any_cons, List.any_nil, Bool.or_false]
  cases (k1 == 5) <;> rfl
theorem u26 {op : Int} (h : op = 26 ∨ op = 27 ∨ op = 28) (ho : okA (k0, n0, p0) = true) (hp : okA (k1, n1, p1) = true) : coil op [(k0, n0, p0), (k1, n1, p1)] = (k0 == 7 && (k1 == 11 && decide (0 ≤ n1))) := by
  have : ¬ op = 24 := by omega
  simp only [coil, if_neg this, if_pos h, kindA, ho, hp, Bool.true_and, Bool.or_self]
theorem u29 (ho : okA (k0, n0, p0) = true) (hp : okA (k1, n1, p1) = true) : coil 29 [(k0, n0, p0), (k1, n1, p1)] = (k0 == 8 && (k1 == 11 && decide (0 ≤ n1))) := by
  show (kindA _ 8 8 && (kindA _ 11 11 && _)) = _
  simp only [kindA, ho, hp, Bool.true_and, Bool.or_self]
theorem u36 (ho : okA (k0, n0, p0) = true) : coil 36 [(k0, n0, p0), (k1, n1, p1)] = (k0 == 10 && wholeA (k1, n1, p1)) := by
  show (kindA _ 10 10 && _) = _
  simp only [kindA, ho, Bool.true_and, Bool.or_self]
theorem u37 (ho : okA (k0, n0, p0) = true) : coil 37 [(k0, n0, p0), (k1, n1, p1)] = (k0 == 9 && realA (k1, n1, p1)) := by
  show (kindA _ 9 9 && _) = _
  simp only [kindA, ho, Bool.true_and, Bool.or_self]
theorem u30 (ho : okA (k0, n0, p0) = true) : coil 30 [(k0, n0, p0), (k1, n1, p1)] = (k0 == 9 && wholeA (k1, n1, p1) || k0 == 10 && realA (k1, n1, p1)) := by
  show (kindA _ 9 9 && _ || kindA _ 10 10 && _) = _
  simp only [kindA, ho, Bool.true_and, Bool.or_self]
theorem u35 (ho : okA (k0, n0, p0) = true) : coil 35 [(k0, n0, p0), (k1, n1, p1), (k2, n2, p2)] = (k0 == 9 && (wholeA (k1, n1, p1) && wholeA (k2, n2, p2))) := by
  show (kindA _ 9 9 && _) = _
  simp only [kindA, ho, Bool.true_and, Bool.or_self]
theorem u31 {op : Int} (h : 31 ≤ op ∧ op ≤ 34) (ho : okA (k0, n0, p0) = true) : coil op [(k0, n0, p0), (k1, n1, p1), (k2, n2, p2)] = (k0 == 9 && (wholeA (k1, n1, p1) && wholeA (k2, n2, p2)) || k0 == 10 && (realA (k1, n1, p1) && realA (k2, n2, p2))) := by
  have : ¬ op = 35 := by omega
  simp only [coil, if_neg this, if_pos h, kindA, ho, Bool.true_and, Bool.or_self]
theorem calc_eq {op : Int} {xs : List Arg} (h : (op = 30 ∧ xs.length = 1) ∨ (31 ≤ op ∧ op ≤ 35 ∧ xs.length = 2)) : coil op ((k0, n0, p0) :: xs) = (kindA (k0, n0, p0) 9 10 && if (k0 == 9) = true then xs.all wholeA else (xs.all realA && (op != 35))) := by
  by_cases h9 : k0 = 9
  · subst h9
    simp only [beq_self_eq_true, if_true]
    rcases h with ⟨rfl, hx⟩ | ⟨h1, h2, hx⟩
    · obtain ⟨a, b, c, rfl⟩ := len1 hx
      show (kindA _ 9 9 && _ || kindA _ 10 10 && _) = _
      simp [kindA]
    · obtain ⟨a, b, c, a1, b1, c1, rfl⟩ := len2 hx
      by_cases h5 : op = 35
      · subst h5
        show (kindA _ 9 9 && _) = _
        simp [kindA]
      · simp only [coil, if_neg h5, if_pos (show 31 ≤ op ∧ op ≤ 34 by omega)]
        simp [kindA]
  · have h9' : (k0 == 9) = false := by simpa using h9
    rw [h9', if_neg (by decide)]
    rcases h with ⟨rfl, hx⟩ | ⟨h1, h2, hx⟩
    · obtain ⟨a, b, c, rfl⟩ := len1 hx
      show (kindA _ 9 9 && _ || kindA _ 10 10 && _) = _
      simp [kindA, h9']
    · obtain ⟨a, b, c, a1, b1, c1, rfl⟩ := len2 hx
      by_cases h5 : op = 35
      · subst h5
        show (kindA _ 9 9 && _) = _
        simp [kindA, h9']
      · simp only [coil, if_neg h5, if_pos (show 31 ≤ op ∧ op ≤ 34 by omega)]
        have : (op != 35) = true := by simpa using h5
        simp [kindA, h9', this]
end
end ElemP
