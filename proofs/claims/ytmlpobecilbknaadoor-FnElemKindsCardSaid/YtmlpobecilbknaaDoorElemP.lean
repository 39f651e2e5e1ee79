/-
  CONTACTS AND COILS, PLAINLY: how many operands, which are ok. No program in this text.
-/
import Derived.Test.YtmlpobecilbknaaDoorDevP
namespace ElemP

abbrev Arg := Int × Int × Int
def okA (a : Arg) : Bool := DevP.ok a.1 a.2.1 a.2.2
def bitA (a : Arg) : Bool := DevP.isBit a.1 a.2.1 a.2.2
def wholeA (a : Arg) : Bool := DevP.isWhole a.1 a.2.1 a.2.2
def realA (a : Arg) : Bool := DevP.isReal a.1 a.2.1 a.2.2
def arity (op : Int) : Nat :=
  if op = 1 ∨ op = 2 ∨ op = 21 ∨ op = 22 ∨ op = 23 ∨ op = 25 then 1
  else if 31 ≤ op ∧ op ≤ 35 then 3
  else if (3 ≤ op ∧ op ≤ 10) ∨ (24 ≤ op ∧ op ≤ 37) then 2 else 0
def kindA (a : Arg) (k l : Int) : Bool := okA a && (a.1 == k || a.1 == l)
def contact (op : Int) (xs : List Arg) : Bool :=
  match xs with
  | [a] => decide (op = 1 ∨ op = 2) && bitA a
  | [a, b] => if op = 3 ∨ op = 4 then bitA a && (okA b && b.1 == 5) else decide (5 ≤ op ∧ op ≤ 10) && (wholeA a && wholeA b || realA a && realA b)
  | _ => false
def coil (op : Int) (xs : List Arg) : Bool :=
  match xs with
  | [a] => if op = 21 then kindA a 2 3 else if op = 22 then kindA a 2 3 || kindA a 4 4 else if op = 23 then kindA a 2 3 || (kindA a 4 7 || kindA a 8 8) else if op = 25 then kindA a 4 4 else false
  | [a, b] =>
    if op = 24 then kindA a 2 3 && kindA b 5 5
    else if op = 26 ∨ op = 27 ∨ op = 28 then kindA a 7 7 && (kindA b 11 11 && decide (0 ≤ b.2.1))
    else if op = 29 then kindA a 8 8 && (kindA b 11 11 && decide (0 ≤ b.2.1))
    else if op = 36 then kindA a 10 10 && wholeA b
    else if op = 37 then kindA a 9 9 && realA b
    else if op = 30 then kindA a 9 9 && wholeA b || kindA a 10 10 && realA b
    else false
  | [a, b, c] =>
    if op = 35 then kindA a 9 9 && (wholeA b && wholeA c)
    else if 31 ≤ op ∧ op ≤ 34 then kindA a 9 9 && (wholeA b && wholeA c) || kindA a 10 10 && (realA b && realA c)
    else false
  | _ => false
end ElemP
