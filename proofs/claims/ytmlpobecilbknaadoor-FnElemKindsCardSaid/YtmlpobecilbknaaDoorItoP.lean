/-
  DECIMAL NUMERALS, PLAINLY. No program in this text.
-/
import Derived.Lib.ItoaNum
import Derived.Lib.Itoa
import Derived.Lib.ItoaLen
namespace ItoP
open Go

def itoaB (n : Int) : ByteArray := ⟨(Lib.itoa n).toArray⟩
theorem dig_small {u : Nat} (h : u < 10) : Lib.decDigits u = [UInt8.ofNat (48 + u)] := by rw [Lib.decDigits, dif_pos h]
theorem dig_big {u : Nat} (h : ¬ u < 10) : Lib.decDigits u = Lib.decDigits (u / 10) ++ [UInt8.ofNat (48 + u % 10)] := by rw [Lib.decDigits, dif_neg h]
theorem itoaB_nat (u : Nat) : itoaB (u : Int) = ⟨(Lib.decDigits u).toArray⟩ := by
  unfold itoaB Lib.itoa
  rw [if_neg (by omega), Int.toNat_natCast]
theorem ext {a b : ByteArray} (h : a.data.toList = b.data.toList) : a = b := by
  cases a; cases b
  simp only at h
  congr 1
  exact Array.toList_inj.1 h
theorem app_list (a b : ByteArray) : (a ++ b).data.toList = a.data.toList ++ b.data.toList := by simp
theorem itoaB_neg {n : Int} (h : n < 0) : itoaB n = ⟨#[45]⟩ ++ itoaB (-n) := by
  apply ext
  rw [app_list]
  unfold itoaB Lib.itoa
  rw [if_pos h, if_neg (by omega), show n.natAbs = (-n).toNat by omega]
  rfl
/-- one more digit ahead -/
theorem dig_step {n0 m : Nat} {out : ByteArray} {c : ByteArray} (hm : ¬ m < 10) (h : Lib.decDigits n0 = Lib.decDigits m ++ out.data.toList) (hc : c.data.toList = [UInt8.ofNat (48 + m % 10)]) :
    Lib.decDigits n0 = Lib.decDigits (m / 10) ++ (c ++ out).data.toList := by
  rw [h, dig_big hm, app_list, hc, List.append_assoc]
theorem dig_end {n0 m : Nat} {out : ByteArray} {c : ByteArray} (hm : m < 10) (h : Lib.decDigits n0 = Lib.decDigits m ++ out.data.toList) (hc : c.data.toList = [UInt8.ofNat (48 + m)]) : c ++ out = itoaB (n0 : Int) := by
  apply ext
  rw [app_list, hc, itoaB_nat]
  show _ = Lib.decDigits n0
  rw [h, dig_small hm]
theorem itoaB_size {n : Int} (h0 : -9223372036854775808 ≤ n) (h1 : n ≤ 9223372036854775807) : (itoaB n).size ≤ 21 := Lib.itoa_length_le n h0 h1
theorem size_of_dig {n0 m : Nat} {out : ByteArray} (h : n0 ≤ 9223372036854775807) (hd : Lib.decDigits n0 = Lib.decDigits m ++ out.data.toList) : out.size ≤ 21 := by
  have h1 := itoaB_size (n := (n0 : Int)) (by omega) (by omega)
  rw [itoaB_nat] at h1
  have h2 : (Lib.decDigits n0).length ≤ 21 := h1
  rw [hd, List.length_append] at h2
  have : out.size = out.data.toList.length := rfl
  omega
/-- zeros ahead till there are more than p bytes -/
def pad (p : Nat) (s : ByteArray) : ByteArray := if s.size ≤ p then pad p (⟨#[48]⟩ ++ s) else s
termination_by p + 1 - s.size
decreasing_by
  have : ((⟨#[48]⟩ : ByteArray) ++ s).size = 1 + s.size := by rw [ByteArray.size_append]; rfl
  omega
theorem pad_in {p : Nat} {s : ByteArray} (h : s.size ≤ p) : pad p s = pad p (⟨#[48]⟩ ++ s) := by rw [pad, if_pos h]
theorem pad_out {p : Nat} {s : ByteArray} (h : ¬ s.size ≤ p) : pad p s = s := by rw [pad, if_neg h]
theorem zero_size (s : ByteArray) : ((⟨#[48]⟩ : ByteArray) ++ s).size = s.size + 1 := by
  rw [ByteArray.size_append, show (⟨#[48]⟩ : ByteArray).size = 1 from rfl]; omega
/-- the padded numeral, parted by a dot, behind a sign -/
def decS (g : ByteArray) (p : Nat) (s : ByteArray) : ByteArray := ((g ++ s.extract 0 (s.size - p)) ++ ⟨#[46]⟩) ++ s.extract (s.size - p) s.size
def decN (g : ByteArray) (u p : Nat) : ByteArray := decS g p (pad p (itoaB u))
def decD (n : Int) (p : Nat) : ByteArray := if n < 0 then decN ⟨#[45]⟩ (-n).toNat p else decN ⟨#[]⟩ n.toNat p
theorem decN_neg (u p : Nat) : decN ⟨#[45]⟩ u p = ⟨#[45]⟩ ++ decN ⟨#[]⟩ u p := by
  unfold decN decS
  apply ext
  simp
theorem empty_app (s : ByteArray) : (⟨#[]⟩ : ByteArray) ++ s = s := by apply ext; simp
theorem decS_at {g : ByteArray} {p q : Nat} {s : ByteArray} (h : s.size = q + p) : decS g p s = g ++ s.extract 0 q ++ ⟨#[46]⟩ ++ s.extract q (q + p) := by
  unfold decS
  rw [show s.size - p = q by omega, h]
theorem decS_at0 {p q : Nat} {s : ByteArray} (h : s.size = q + p) : decS ⟨#[]⟩ p s = s.extract 0 q ++ ⟨#[46]⟩ ++ s.extract q (q + p) := by
  rw [decS_at h, empty_app]
theorem pad_size (k : Nat) : ∀ {p : Nat} {s : ByteArray}, p + 1 - s.size = k → s.size ≤ 21 → p ≤ 6 → (pad p s).size ≤ 21 ∧ p < (pad p s).size := by
  induction k with
  | zero => intro p s h h1 h2; rw [pad_out (by omega)]; omega
  | succ k ih =>
    intro p s h h1 h2
    have := zero_size s
    rw [pad_in (by omega)]
    exact ih (by omega) (by omega) h2
theorem decN_size {g : ByteArray} {u p : Nat} (hg : g.size = 0) (hu : u ≤ 9223372036854775807) (hp : p ≤ 6) : (decN g u p).size ≤ 22 := by
  unfold decN
  obtain ⟨h1, h2⟩ := pad_size _ (p := p) (s := itoaB u) rfl (itoaB_size (by omega) (by omega)) hp
  generalize pad p (itoaB u) = s at h1 h2
  unfold decS
  have h3 : (⟨#[46]⟩ : ByteArray).size = 1 := rfl
  simp only [ByteArray.size_append, ByteArray.size_extract]
  omega
end ItoP
