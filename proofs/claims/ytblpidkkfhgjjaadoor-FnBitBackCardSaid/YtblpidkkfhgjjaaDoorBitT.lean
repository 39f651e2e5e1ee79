/-
  A STACK's TEXT, PLAINLY. No program in this text.
-/
namespace BitP

/-- a digit, and a stack's text -/
def dig (x : Bool) : ByteArray := if x then ⟨#[49]⟩ else ⟨#[48]⟩
def txt (l : List Bool) : ByteArray := l.foldl (fun s x => s ++ dig x) ⟨#[124]⟩
theorem txt_snoc (l : List Bool) (x : Bool) : txt (l ++ [x]) = txt l ++ dig x := by unfold txt; rw [List.foldl_append]; rfl
theorem txt_size (l : List Bool) : (txt l).size = l.length + 1 := by
  have key : ∀ (l : List Bool) (s : ByteArray), (l.foldl (fun s x => s ++ dig x) s).size = s.size + l.length := by
    intro l
    induction l with
    | nil => intro s; rfl
    | cons x r ih =>
      intro s
      rw [List.foldl_cons, ih, ByteArray.size_append, List.length_cons]
      have : (dig x).size = 1 := by cases x <;> rfl
      omega
  unfold txt
  rw [key]
  exact Nat.add_comm 1 l.length
theorem txt_take {l : List Bool} {k : Nat} (h : k < l.length) : txt (l.take (k + 1)) = txt (l.take k) ++ dig l[k] := by
  rw [List.take_succ_eq_append_getElem h, txt_snoc]
end BitP
