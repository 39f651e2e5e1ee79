/- The walks of l10Dec, l2Dec, decText. -/
import Derived.Test.YtmlpobecilbknaaDoorRows
import Derived.Test.YtmlpobecilbknaaDoorItoP
import Derived.Test.YtmlpobecilbknaaDoorBox
import Derived.Test.YtmlpobecilbknaaDoorShelfI
import Derived.WalkKit
import Derived.WalkSpells
import Derived.WalkLawsBesides
import Derived.OpenShut
import Derived.OwnWalk
import Derived.IntWalk
import Derived.Lib.Hide
import Derived.Deep.QuietTactic
import Derived.BigQuiet
import Derived.Lib.AppendIntMem
import Derived.Lib.ItoaLen
namespace Go.Proofs.YtmlpobecilbknaaDoor
open Go.RowKit Bx ItoP
set_option linter.unusedVariables false

theorem byte_text (w : World) (x : Int) (u : Nat) (hx : x = (u : Int)) (hu : u < 256) : (convert 35 9 (.slice (some ⟨w.heap.size, 0, none⟩) 1 1)).run Tryd.prog (w.alloc (.cells #[.int .u8 x] 5)) = .ok (.string ⟨#[UInt8.ofNat u]⟩) (w.alloc (.cells #[.int .u8 x] 5)) := by
  have h := run_convert_bytes_back (P := Tryd.prog) (w.alloc (.cells #[.int .u8 x] 5)) 35 9 5 ⟨w.heap.size, 0, none⟩ 1 [UInt8.ofNat u] Tryd.underlying35 Tryd.underlying5 Tryd.underlying9 (fun j hj => by
    have hj0 : j = 0 := by simp at hj; omega
    subst hj0
    have : (UInt8.ofNat u).toNat = u := by simp; omega
    rw [hx]
    simp [Addr.add, World.cell?_alloc_mark, this])
  exact h
set_option maxRecDepth 100000 in
set_option maxHeartbeats 2000000 in
theorem l10Dec_nat (n0 : Nat) (hn : n0 ≤ 9223372036854775807) (w : World) : Calls Tryd.prog 51 #[.int .i64 n0] w fun e w' => e = .returned (.string (itoaB n0)) ∧ Below w.heap.size w w' := by
  go_enter Tryd.func51, Tryd.ntmps51
  go_wp2_with fail
  go_loopw [0, 3] (fun v s wr => ∃ (m : Nat) (out : ByteArray), m ≤ 9223372036854775807 ∧ v = .int .i64 m ∧ s = .string out ∧ Lib.decDigits n0 = Lib.decDigits m ++ out.data.toList ∧ Below w.heap.size w wr) (fun v _ _ => (intOf v).toNat)
  case atStart => exact ⟨n0, ⟨#[]⟩, hn, rfl, rfl, by simp, Below.refl _ _⟩
  case round =>
    obtain ⟨m, out, hm, rfl, rfl, hd, hbel⟩ := hrel
    have HD := Lib.hid hd
    have ho : out.size ≤ 21 := size_of_dig hn hd
    clear hd
    by_cases h9 : 9 < m
    · have d1 : (9 : Int) < (m : Int) := by omega
      have hcv := byte_text wr (48 + (m : Int) % 10) (48 + m % 10) (by omega) (by omega)
      have HS : Hid (Lib.decDigits n0 = Lib.decDigits (m / 10) ++ ((⟨#[UInt8.ofNat (48 + m % 10)]⟩ : ByteArray) ++ out).data.toList) := Lib.hid (dig_step (by omega) HD.out rfl)
      have hcs : (⟨#[UInt8.ofNat (48 + m % 10)]⟩ : ByteArray).size = 1 := rfl
      generalize (⟨#[UInt8.ofNat (48 + m % 10)]⟩ : ByteArray) = cc at hcv HS hcs
      have hsz : ¬ (cc.size + out.size > 9223372036854775807) := by omega
      clear HD
      go_wp2
      go_roundw
      case rel => exact ⟨m / 10, cc ++ out, by omega, by go_num, rfl, HS.out, hbel.alloc hbel.size _⟩
      case measure => simp [intOf]; omega
    · have d1 : ¬ (9 : Int) < (m : Int) := by omega
      have hcv := byte_text wr (48 + (m : Int)) (48 + m) (by omega) (by omega)
      have HE : Hid ((⟨#[UInt8.ofNat (48 + m)]⟩ : ByteArray) ++ out = itoaB n0) := Lib.hid (dig_end (by omega) HD.out rfl)
      have hcs : (⟨#[UInt8.ofNat (48 + m)]⟩ : ByteArray).size = 1 := rfl
      generalize (⟨#[UInt8.ofNat (48 + m)]⟩ : ByteArray) = cc at hcv HE hcs
      have hsz : ¬ (cc.size + out.size > 9223372036854775807) := by omega
      clear HD
      go_wp2
      go_ret
      exact ⟨by rw [HE.out]; rfl, hbel.alloc hbel.size _⟩
set_option maxRecDepth 100000 in
set_option maxHeartbeats 2000000 in
theorem l10Dec_neg (n : Int) (h : n < 0) (hn : -9223372036854775807 ≤ n) (w : World) : Calls Tryd.prog 51 #[.int .i64 n] w fun e w' => e = .returned (.string (itoaB n)) ∧ Below w.heap.size w w' := by
  obtain ⟨u, hu⟩ : ∃ u : Nat, -n = (u : Int) := ⟨(-n).toNat, by omega⟩
  have hc := fun w => l10Dec_nat u (by omega) w
  have HN : Hid (itoaB n = ⟨#[45]⟩ ++ itoaB u) := Lib.hid (by rw [itoaB_neg h, hu])
  have hw : wrap64 (-n) = (u : Int) := by rw [hu]; exact IntWalk.wrap64_in _ (by omega)
  have hsu := itoaB_size (n := (u : Int)) (by omega) (by omega)
  have hsz : ¬ ((⟨#[45]⟩ : ByteArray).size + (itoaB (u : Int)).size > 9223372036854775807) := by
    have : (⟨#[45]⟩ : ByteArray).size = 1 := rfl
    omega
  generalize itoaB (u : Int) = su at hc HN hsz
  go_enter Tryd.func51, Tryd.ntmps51
  go_wp2_with fail
  refine (hc _).mono ?_
  rintro e w1 ⟨rfl, hb1⟩
  clear hc
  go_wp2
  go_ret
  exact ⟨by rw [HN.out]; rfl, hb1⟩
theorem l10Dec_any (n : Int) (hn : -9223372036854775807 ≤ n) (hn2 : n ≤ 9223372036854775807) (w : World) : Calls Tryd.prog 51 #[.int .i64 n] w fun e w' => e = .returned (.string (itoaB n)) ∧ Below w.heap.size w w' := by
  by_cases h : n < 0
  · exact l10Dec_neg n h hn w
  · obtain ⟨u, rfl⟩ := Int.eq_ofNat_of_zero_le (show 0 ≤ n by omega)
    exact l10Dec_nat u (by omega) w
theorem itoa_any (n : Int) (hn : -9223372036854775807 ≤ n) (hn2 : n ≤ 9223372036854775807) (w : World) (htab : Lib.TabIs Tryd.prog w "internal/strconv.uint64pow10" .u64 Lib.pow10Tab) : Calls Tryd.prog 56 #[.int .i64 n] w fun e w' => e = .returned (.string (itoaB n)) ∧ Below w.heap.size w w' := by
  refine (Tryd.strconv_Itoa n (by omega) hn2 w htab).mono ?_
  rintro e w' ⟨he, k, os, rfl⟩
  exact ⟨he, Lib.below_grow _ _ (Nat.le_refl _) _ _⟩
end Go.Proofs.YtmlpobecilbknaaDoor
