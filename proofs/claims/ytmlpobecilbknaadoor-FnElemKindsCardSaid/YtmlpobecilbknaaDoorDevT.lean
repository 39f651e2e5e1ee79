/-
  AN OPERAND'S TEXT, PLAINLY. No program in this text.
-/
import Derived.Test.YtmlpobecilbknaaDoorDevP
import Derived.Test.YtmlpobecilbknaaDoorItoP
namespace DevT
open Go ItoP

def letter (k : Int) : ByteArray := ⟨#[([88, 89, 77, 83, 69, 71, 84, 67, 68, 82] : List UInt8).getD (k - 1).toNat 0]⟩
def word (n : Int) : ByteArray := if n = 0 then ⟨#[110, 97, 110]⟩ else if n = 1 then ⟨#[105, 110, 102]⟩ else if n = 2 then ⟨#[45, 105, 110, 102]⟩ else ⟨#[45, 48, 46, 48]⟩
def txt (k n p : Int) : ByteArray :=
  if DevP.ok k n p = true then
    if k = 11 then itoaB n else if k = 12 then decD n p.toNat else if k = 13 then word n else letter k ++ itoaB n
  else ⟨#[]⟩
theorem txt_no {k n p : Int} (h : DevP.ok k n p = false) : txt k n p = ⟨#[]⟩ := by unfold txt; rw [h]; rfl
theorem txt_11 {n p : Int} (h : DevP.ok 11 n p = true) : txt 11 n p = itoaB n := by unfold txt; rw [if_pos h, if_pos rfl]
theorem txt_12 {n p : Int} (h : DevP.ok 12 n p = true) : txt 12 n p = decD n p.toNat := by unfold txt; rw [if_pos h, if_neg (by decide), if_pos rfl]
theorem txt_13 {n p : Int} (h : DevP.ok 13 n p = true) : txt 13 n p = word n := by unfold txt; rw [if_pos h, if_neg (by decide), if_neg (by decide), if_pos rfl]
theorem txt_dev {k n p : Int} (hk : k ≤ 10) (h : DevP.ok k n p = true) : txt k n p = letter k ++ itoaB n := by unfold txt; rw [if_pos h, if_neg (by omega), if_neg (by omega), if_neg (by omega)]
end DevT
