/-
  AN ELEMENT'S TEXT, PLAINLY. No program in this text.
-/
import Derived.Test.YtmlpobecilbknaaDoorElemP2
import Derived.Test.YtmlpobecilbknaaDoorDevT2
import Derived.Lib.Join
namespace ElemT
open Go ElemP ItoP

def coils : List ByteArray := [⟨#[111, 117, 116]⟩, ⟨#[115, 101, 116]⟩, ⟨#[114, 101, 115, 101, 116]⟩, ⟨#[112, 117, 108, 115, 101]⟩, ⟨#[115, 116, 101, 112]⟩, ⟨#[116, 105, 109, 101, 114]⟩, ⟨#[104, 111, 108, 100]⟩, ⟨#[108, 97, 116, 101]⟩, ⟨#[99, 111, 117, 110, 116]⟩, ⟨#[109, 111, 118, 101]⟩, ⟨#[97, 100, 100]⟩, ⟨#[115, 117, 98]⟩, ⟨#[109, 117, 108]⟩, ⟨#[100, 105, 118]⟩, ⟨#[114, 101, 109]⟩, ⟨#[114, 101, 97, 108]⟩, ⟨#[119, 104, 111, 108, 101]⟩]
def signs : List ByteArray := [⟨#[60]⟩, ⟨#[60, 61]⟩, ⟨#[61]⟩, ⟨#[60, 62]⟩, ⟨#[62, 61]⟩, ⟨#[62]⟩]
def cname (op : Int) : ByteArray := if 21 ≤ op ∧ op ≤ 37 then coils.getD (op - 21).toNat ⟨#[]⟩ else ⟨#[]⟩
def sign (op : Int) : ByteArray := signs.getD (op - 5).toNat ⟨#[]⟩
def txA (a : Arg) : ByteArray := DevT.txt a.1 a.2.1 a.2.2
def joined (xs : List Arg) : ByteArray := ⟨(Lib.join ((xs.map txA).map (·.data.toList)) [44]).toArray⟩
def coilT (op : Int) (xs : List Arg) : ByteArray := (cname op ++ ⟨#[58]⟩) ++ joined xs
def contactT (op : Int) (xs : List Arg) : ByteArray := match xs with
  | [a] => if op = 1 then txA a else ⟨#[47]⟩ ++ txA a
  | [a, b] => if op = 3 then ((⟨#[43]⟩ ++ txA a) ++ ⟨#[58]⟩) ++ txA b else if op = 4 then ((⟨#[45]⟩ ++ txA a) ++ ⟨#[58]⟩) ++ txA b else (txA a ++ sign op) ++ txA b
  | _ => ⟨#[]⟩
def etxt (op : Int) (xs : List Arg) : ByteArray := if coil op xs = true then coilT op xs else if contact op xs = true then contactT op xs else ⟨#[]⟩
/-- the reference's way -/
def step (out : ByteArray) (b : Arg) : ByteArray := (out ++ ⟨#[44]⟩) ++ txA b
theorem coilT_fold {op : Int} {a : Arg} {xs : List Arg} (h : xs.length ≤ 2) : coilT op (a :: xs) = xs.foldl step ((cname op ++ ⟨#[58]⟩) ++ txA a) := by
  match xs, h with
  | [], _ =>
    unfold coilT joined
    apply ext
    simp [Lib.join]
  | [b], _ =>
    unfold coilT joined
    apply ext
    simp [Lib.join, step]
  | [b, c], _ =>
    unfold coilT joined
    apply ext
    simp [Lib.join, step]
theorem sign_size (op : Int) : (sign op).size ≤ 2 := by
  have key : ∀ x ∈ signs, x.size ≤ 2 := by decide
  unfold sign
  rw [List.getD_eq_getElem?_getD]
  cases h : signs[(op - 5).toNat]? with
  | none => decide
  | some v => exact key v (List.mem_of_getElem? h)
theorem cname_size (op : Int) : (cname op).size ≤ 5 := by
  have key : ∀ x ∈ coils, x.size ≤ 5 := by decide
  unfold cname
  split
  · rw [List.getD_eq_getElem?_getD]
    cases h : coils[(op - 21).toNat]? with
    | none => decide
    | some v => exact key v (List.mem_of_getElem? h)
  · decide
theorem txA_size (a : Arg) : (txA a).size ≤ 50 := DevT.size_le _ _ _
theorem joined_len {xs : List Arg} (h : xs.length ≤ 3) : (Lib.join ((xs.map txA).map (·.data.toList)) [44]).length ≤ 200 := by
  have e : ∀ a, (txA a).data.toList.length = (txA a).size := fun a => rfl
  match xs, h with
  | [], _ => simp [Lib.join]
  | [a], _ =>
    have := txA_size a
    simp [Lib.join, e]
    omega
  | [a, b], _ =>
    have := txA_size a
    have := txA_size b
    simp [Lib.join, e]
    omega
  | [a, b, c], _ =>
    have := txA_size a
    have := txA_size b
    have := txA_size c
    simp [Lib.join, e]
    omega
theorem joined_size {xs : List Arg} (h : xs.length ≤ 3) : (joined xs).size ≤ 200 := joined_len h
/-- a name is not empty just at a coil's number -/
theorem cname_ne (op : Int) : (cname op ≠ ⟨#[]⟩) ↔ (21 ≤ op ∧ op ≤ 37) := by
  constructor
  · intro h
    unfold cname at h
    split at h
    · assumption
    · exact absurd rfl h
  · intro h e
    have key : ∀ x ∈ coils, x ≠ (⟨#[]⟩ : ByteArray) := by decide
    unfold cname at e
    rw [if_pos h, List.getD_eq_getElem?_getD, List.getElem?_eq_getElem (by show (op - 21).toNat < 17; omega)] at e
    exact key _ (List.getElem_mem _) e
end ElemT
