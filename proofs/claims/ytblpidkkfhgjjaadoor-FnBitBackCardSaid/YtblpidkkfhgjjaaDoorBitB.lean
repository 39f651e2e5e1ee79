/-
  A STACK's TEXT AND ITS READING, EACH THE OTHER's INVERSE, PLAINLY. No program in this text.
-/
import Derived.Test.YtblpidkkfhgjjaaDoorBitR
namespace BitR
open BitP

def digb (x : Bool) : UInt8 := if x then 49 else 48
theorem dig_list (x : Bool) : (dig x).data.toList = [digb x] := by cases x <;> rfl
theorem app_list (a b : ByteArray) : (a ++ b).data.toList = a.data.toList ++ b.data.toList := by simp
theorem txt_list (l : List Bool) : (txt l).data.toList = 124 :: l.map digb := by
  have key : ∀ (l : List Bool) (s : ByteArray), (l.foldl (fun s x => s ++ dig x) s).data.toList = s.data.toList ++ l.map digb := by
    intro l
    induction l with
    | nil => intro s; simp
    | cons x r ih => intro s; rw [List.foldl_cons, ih, app_list, dig_list, List.map_cons, List.append_assoc]; rfl
  unfold txt
  rw [key]
  rfl
theorem byte_txt (l : List Bool) (i : Nat) (h : i < l.length) : byte (txt l) (i + 1) = digb l[i] := by
  unfold byte
  rw [txt_list, List.getD_eq_getElem?_getD]
  simp [h]
theorem ok_txt {l : List Bool} (h : l.length ≤ 16) : okT (txt l) := by
  have hs := txt_size l
  refine ⟨by omega, by omega, by unfold byte; rw [txt_list]; rfl, fun i h1 h2 => ?_⟩
  obtain ⟨j, rfl⟩ : ∃ j, i = j + 1 := ⟨i - 1, by omega⟩
  rw [byte_txt l j (by omega)]
  cases l[j]
  · exact .inl rfl
  · exact .inr rfl
theorem bl_txt (l : List Bool) : bl (txt l) l.length = l := by
  apply List.ext_getElem
  · rw [bl_length]
  · intro i h1 h2
    simp only [bl, List.getElem_map, List.getElem_range]
    rw [byte_txt l i h2]
    cases l[i] <;> rfl
theorem txt_bl {t : ByteArray} (h : okT t) : txt (bl t (t.size - 1)) = t := by
  have hs := size_list t
  have hbar := bar_of h.1 h.2.2.1
  have e : (txt (bl t (t.size - 1))).data.toList = t.data.toList := by
    rw [txt_list, hbar]
    congr 1
    apply List.ext_getElem
    · rw [List.length_map, bl_length, List.length_tail, hs]
    · intro i h1 h2
      rw [List.length_map, bl_length] at h1
      rw [List.length_tail, hs] at h2
      simp only [List.getElem_map, bl, List.getElem_range, List.getElem_tail]
      have h3 := h.2.2.2 (i + 1) (by omega) (by omega)
      have h4 : byte t (i + 1) = t.data.toList[i + 1]'(by omega) := by
        unfold byte
        rw [List.getD_eq_getElem?_getD, List.getElem?_eq_getElem (by omega)]
        rfl
      rw [h4] at h3
      rw [h4]
      rcases h3 with h3 | h3 <;> rw [h3] <;> rfl
  cases ht : t with
  | mk d =>
    rw [ht] at e
    cases hx : txt (bl ⟨d⟩ ((ByteArray.mk d).size - 1)) with
    | mk d' =>
      rw [hx] at e
      congr 1
      exact Array.toList_inj.1 e
/-- a stack's text is read back as the stack -/
theorem back_num {B N : Nat} (hB : B < 2 ^ N) (hN : N ≤ 16) : okT (txt (bits B N)) ∧ num (bl (txt (bits B N)) ((txt (bits B N)).size - 1)) = B ∧ (txt (bits B N)).size - 1 = N := by
  have hl := bits_length B N
  have hs := txt_size (bits B N)
  refine ⟨ok_txt (by omega), ?_, by omega⟩
  rw [show (txt (bits B N)).size - 1 = (bits B N).length by omega, bl_txt, num_bits, Nat.mod_eq_of_lt hB]
/-- what is read of a text is ok, and has that text -/
theorem read_ok {t : ByteArray} (h : okT t) : num (bl t (t.size - 1)) < 2 ^ (t.size - 1) ∧ t.size - 1 ≤ 16 ∧ txt (bits (num (bl t (t.size - 1))) (t.size - 1)) = t := by
  have hl := bl_length t (t.size - 1)
  have hn := num_lt (bl t (t.size - 1))
  rw [hl] at hn
  refine ⟨hn, by have := h.2.1; omega, ?_⟩
  have hb := bits_num (bl t (t.size - 1))
  rw [hl] at hb
  rw [hb, txt_bl h]
end BitR
