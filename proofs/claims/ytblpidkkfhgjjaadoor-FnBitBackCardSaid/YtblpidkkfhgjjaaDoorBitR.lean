/-
  A STACK's TEXT READ, PLAINLY. No program in this text.
-/
import Derived.Test.YtblpidkkfhgjjaaDoorBitP
import Derived.Test.YtblpidkkfhgjjaaDoorBitT
import Derived.Lib.SlTrimSet
import Derived.Lib.Strings
namespace BitR

def byte (t : ByteArray) (i : Nat) : UInt8 := t.data.toList.getD i 0
theorem byte_get (t : ByteArray) (i : Nat) (h : i < t.size) : t[i] = byte t i := by
  unfold byte
  rw [List.getD_eq_getElem?_getD, List.getElem?_eq_getElem (by simpa using h)]
  rfl
/-- a text that a stack has -/
def okT (t : ByteArray) : Prop := 1 ≤ t.size ∧ t.size ≤ 17 ∧ byte t 0 = 124 ∧ ∀ i, 1 ≤ i → i < t.size → byte t i = 48 ∨ byte t i = 49
/-- the bits of the first j bytes behind the bar -/
def bl (t : ByteArray) (j : Nat) : List Bool := (List.range j).map fun i => byte t (i + 1) == 49
theorem bl_length (t : ByteArray) (j : Nat) : (bl t j).length = j := by simp [bl]
theorem bl_succ (t : ByteArray) (j : Nat) : bl t (j + 1) = bl t j ++ [byte t (j + 1) == 49] := by unfold bl; rw [List.range_succ, List.map_append]; rfl

theorem dw_nil {p : UInt8 → Bool} : ∀ l : List UInt8, l.dropWhile p = [] ↔ ∀ x ∈ l, p x = true
  | [] => by simp
  | a :: r => by
    rw [List.dropWhile_cons]
    by_cases h : p a = true
    · rw [if_pos h, dw_nil r]
      exact ⟨fun k x hx => (by rcases List.mem_cons.1 hx with rfl | hx; exact h; exact k x hx), fun k x hx => k x (List.mem_cons_of_mem _ hx)⟩
    · rw [if_neg h]
      exact ⟨fun k => (by cases k), fun k => absurd (k a (List.mem_cons_self ..)) h⟩
theorem tw_mem {p : UInt8 → Bool} : ∀ (l : List UInt8) {x : UInt8}, x ∈ l.takeWhile p → p x = true
  | [], _, h => by cases h
  | a :: r, x, h => by
    rw [List.takeWhile_cons] at h
    by_cases ha : p a = true
    · rw [if_pos ha] at h
      rcases List.mem_cons.1 h with rfl | h
      · exact ha
      · exact tw_mem r h
    · rw [if_neg ha] at h; cases h
theorem trim_nil {l : List UInt8} : Go.Lib.trimS l [48, 49] = [] ↔ ∀ x ∈ l, x = 48 ∨ x = 49 := by
  unfold Go.Lib.trimS Go.Lib.trimLeftS Go.Lib.trimRightS
  rw [dw_nil]
  have hp : ∀ x : UInt8, ([48, 49] : List UInt8).contains x = true ↔ (x = 48 ∨ x = 49) := by intro x; simp
  constructor
  · intro h x hx
    have h2 : x ∈ l.reverse := List.mem_reverse.2 hx
    rw [← List.takeWhile_append_dropWhile (p := fun x => ([48, 49] : List UInt8).contains x) (l := l.reverse)] at h2
    rcases List.mem_append.1 h2 with h3 | h3
    · exact (hp x).1 (tw_mem _ h3)
    · exact (hp x).1 (h x (List.mem_reverse.2 h3))
  · intro h x hx
    have h3 : x ∈ l.reverse := (List.dropWhile_sublist _).subset (List.mem_reverse.1 hx)
    exact (hp x).2 (h x (List.mem_reverse.1 h3))

theorem size_list (t : ByteArray) : t.data.toList.length = t.size := by simp
/-- what stands behind the bar -/
def tail (t : ByteArray) : ByteArray := ⟨t.data.toList.tail.toArray⟩
theorem tail_list (t : ByteArray) : (tail t).data.toList = t.data.toList.tail := by simp [tail]
theorem tail_size (t : ByteArray) : (tail t).size = t.size - 1 := by
  rw [← size_list, tail_list, List.length_tail, size_list]
theorem tail_byte (t : ByteArray) (i : Nat) : byte (tail t) i = byte t (i + 1) := by
  unfold byte; rw [tail_list]
  cases t.data.toList with
  | nil => rfl
  | cons a r => rfl
theorem bar_of {t : ByteArray} (h1 : 1 ≤ t.size) (h : byte t 0 = 124) : t.data.toList = 124 :: t.data.toList.tail := by
  unfold byte at h
  have := size_list t
  cases hl : t.data.toList with
  | nil => rw [hl] at this; simp at this; omega
  | cons a r => rw [hl] at h; simp at h; rw [h]; rfl
theorem all_tail {t : ByteArray} : (∀ x ∈ (tail t).data.toList, x = 48 ∨ x = 49) ↔ ∀ i, 1 ≤ i → i < t.size → byte t i = 48 ∨ byte t i = 49 := by
  have hs := tail_size t
  have hl := size_list (tail t)
  constructor
  · intro h i h1 h2
    obtain ⟨j, rfl⟩ : ∃ j, i = j + 1 := ⟨i - 1, by omega⟩
    rw [← tail_byte]
    unfold byte
    rw [List.getD_eq_getElem?_getD, List.getElem?_eq_getElem (by omega)]
    exact h _ (List.getElem_mem _)
  · intro h x hx
    obtain ⟨j, hj, rfl⟩ := List.getElem_of_mem hx
    have := h (j + 1) (by omega) (by omega)
    rw [← tail_byte] at this
    unfold byte at this
    rwa [List.getD_eq_getElem?_getD, List.getElem?_eq_getElem hj] at this
theorem prefix_bar {t : ByteArray} : Go.Lib.hasPrefix t.data.toList [124] = true ↔ 1 ≤ t.size ∧ byte t 0 = 124 := by
  have := size_list t
  unfold byte
  cases hl : t.data.toList with
  | nil => rw [hl] at this; simp [Go.Lib.hasPrefix]
  | cons a r =>
    rw [hl] at this
    simp at this
    have e : Go.Lib.hasPrefix (a :: r) [124] = (124 == a) := by simp [Go.Lib.hasPrefix, List.isPrefixOf]
    rw [e, beq_iff_eq]
    exact ⟨fun h => ⟨by omega, by rw [h]; rfl⟩, fun h => by have h2 := h.2; simp at h2; exact h2.symm⟩
end BitR
