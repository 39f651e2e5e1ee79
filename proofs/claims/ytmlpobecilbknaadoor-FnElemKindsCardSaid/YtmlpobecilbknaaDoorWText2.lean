/- The walks of l2Dec and decText. -/
import Derived.Test.YtmlpobecilbknaaDoorRows
import Derived.Test.YtmlpobecilbknaaDoorWText
import Derived.WalkKit
import Derived.WalkSpells
import Derived.WalkLawsBesides
import Derived.OpenShut
import Derived.OwnWalk
import Derived.IntWalk
import Derived.Lib.Hide
import Derived.Deep.QuietTactic
import Derived.BigQuiet
namespace Go.Proofs.YtmlpobecilbknaaDoor
open Go.RowKit Bx ItoP
set_option linter.unusedVariables false

theorem bel_drewN {B : Nat} {a w : World} (h : Below B a w) (n : Nat) : Below B a (w.drewN n) := ⟨h.os, h.tape, h.output, h.size, h.block⟩
set_option maxRecDepth 100000 in
set_option maxHeartbeats 2000000 in
theorem l2Dec_nat (u p : Nat) (hu : u ≤ 9223372036854775807) (hp : p ≤ 6) (w : World) : Calls Tryd.prog 52 #[.int .i64 (u : Int), .int .i64 (p : Int)] w fun e w' => e = .returned (.string (decN ⟨#[]⟩ u p)) ∧ Below w.heap.size w w' := by
  have hc := fun w => l10Dec_any (u : Int) (by omega) (by omega) w
  have hsu := itoaB_size (n := (u : Int)) (by omega) (by omega)
  have HG : Hid (decS ⟨#[]⟩ p (pad p (itoaB (u : Int))) = decN ⟨#[]⟩ u p) := Lib.hid rfl
  generalize decN ⟨#[]⟩ u p = fin at HG
  generalize itoaB (u : Int) = su at hc HG hsu
  have d0 : ¬ (u : Int) < 0 := by omega
  go_enter Tryd.func52, Tryd.ntmps52
  go_wp2_with fail
  refine (hc _).mono ?_
  rintro e w1 ⟨rfl, hb1⟩
  clear hc
  go_wp2_with fail
  go_loopw [5] (fun s wr => ∃ (out : ByteArray), s = .string out ∧ pad p su = pad p out ∧ out.size ≤ 21 ∧ wr = w1) (fun v _ => p + 1 - (match v with | .string b => b.size | _ => 0))
  case atStart => exact ⟨su, rfl, rfl, hsu, rfl⟩
  case round =>
    obtain ⟨out, rfl, hd, ho, rfl⟩ := hrel
    have HD := Lib.hid hd
    clear hd
    by_cases h9 : out.size ≤ p
    · have d1 : (out.size : Int) ≤ (p : Int) := by omega
      have HS : Hid (pad p su = pad p (⟨#[48]⟩ ++ out)) := Lib.hid (HD.out.trans (pad_in h9))
      have hcs : ((⟨#[48]⟩ : ByteArray) ++ out).size = out.size + 1 := zero_size out
      have hsz : ¬ ((⟨#[48]⟩ : ByteArray).size + out.size > 9223372036854775807) := by
        have : (⟨#[48]⟩ : ByteArray).size = 1 := rfl
        omega
      clear HD HG
      go_wp2
      go_roundw
      case rel => exact ⟨_, rfl, HS.out, by omega, trivial⟩
      case measure => show p + 1 - ((⟨#[48]⟩ : ByteArray) ++ out).size < p + 1 - out.size; omega
    · have d1 : ¬ (out.size : Int) ≤ (p : Int) := by omega
      have HE : Hid (decS ⟨#[]⟩ p out = fin) := Lib.hid (by rw [← HG.out, HD.out, pad_out h9])
      clear HD HG
      obtain ⟨q, hq⟩ : ∃ q : Nat, out.size = q + p := ⟨out.size - p, by omega⟩
      have hq1 : ((out.size : Nat) : Int) - (p : Int) = (q : Int) := by omega
      have hq2 : q ≤ out.size := by omega
      go_wp2
      go_quiet (fail)
      go_wp2
      go_ret
      exact ⟨congrArg (fun b => Ending.returned (.string b)) ((decS_at0 hq).symm.trans HE.out), bel_drewN hb1 _⟩
set_option maxRecDepth 100000 in
set_option maxHeartbeats 2000000 in
theorem decText_nat (u p : Nat) (hu : u ≤ 9223372036854775807) (hp : p ≤ 6) (w : World) (htab : Lib.TabIs Tryd.prog w "internal/strconv.uint64pow10" .u64 Lib.pow10Tab) : Calls Tryd.prog 57 #[.int .i64 (u : Int), .int .i64 (p : Int)] w fun e w' => e = .returned (.string (decN ⟨#[]⟩ u p)) ∧ Below w.heap.size w w' := by
  have hc := fun w => itoa_any (u : Int) (by omega) (by omega) w
  have hsu := itoaB_size (n := (u : Int)) (by omega) (by omega)
  have HG : Hid (decS ⟨#[]⟩ p (pad p (itoaB (u : Int))) = decN ⟨#[]⟩ u p) := Lib.hid rfl
  generalize decN ⟨#[]⟩ u p = fin at HG
  generalize itoaB (u : Int) = su at hc HG hsu
  have d0 : ¬ (u : Int) < 0 := by omega
  go_enter Tryd.func57, Tryd.ntmps57
  go_wp2_with fail
  refine (hc _ htab).mono ?_
  rintro e w1 ⟨rfl, hb1⟩
  clear hc
  go_wp2_with fail
  go_loopw [6] (fun s wr => ∃ (out : ByteArray), s = .string out ∧ pad p su = pad p out ∧ out.size ≤ 21 ∧ wr = w1) (fun v _ => p + 1 - (match v with | .string b => b.size | _ => 0))
  case atStart => exact ⟨su, rfl, rfl, hsu, rfl⟩
  case round =>
    obtain ⟨out, rfl, hd, ho, rfl⟩ := hrel
    have HD := Lib.hid hd
    clear hd
    by_cases h9 : out.size ≤ p
    · have d1 : (out.size : Int) ≤ (p : Int) := by omega
      have HS : Hid (pad p su = pad p (⟨#[48]⟩ ++ out)) := Lib.hid (HD.out.trans (pad_in h9))
      have hcs : ((⟨#[48]⟩ : ByteArray) ++ out).size = out.size + 1 := zero_size out
      have hsz : ¬ ((⟨#[48]⟩ : ByteArray).size + out.size > 9223372036854775807) := by
        have : (⟨#[48]⟩ : ByteArray).size = 1 := rfl
        omega
      clear HD HG
      go_wp2
      go_roundw
      case rel => exact ⟨_, rfl, HS.out, by omega, trivial⟩
      case measure => show p + 1 - ((⟨#[48]⟩ : ByteArray) ++ out).size < p + 1 - out.size; omega
    · have d1 : ¬ (out.size : Int) ≤ (p : Int) := by omega
      have HE : Hid (decS ⟨#[]⟩ p out = fin) := Lib.hid (by rw [← HG.out, HD.out, pad_out h9])
      clear HD HG
      obtain ⟨q, hq⟩ : ∃ q : Nat, out.size = q + p := ⟨out.size - p, by omega⟩
      have hq1 : ((out.size : Nat) : Int) - (p : Int) = (q : Int) := by omega
      have hq2 : q ≤ out.size := by omega
      go_wp2
      go_quiet (fail)
      go_wp2
      go_ret
      exact ⟨congrArg (fun b => Ending.returned (.string b)) ((decS_at hq).symm.trans HE.out), bel_drewN hb1 _⟩
set_option maxRecDepth 100000 in
set_option maxHeartbeats 2000000 in
theorem decText_neg (u p : Nat) (hu : u ≤ 9223372036854775807) (hp : p ≤ 6) (n : Int) (hneg : n < 0) (hnu : -n = (u : Int)) (w : World) (htab : Lib.TabIs Tryd.prog w "internal/strconv.uint64pow10" .u64 Lib.pow10Tab) : Calls Tryd.prog 57 #[.int .i64 n, .int .i64 (p : Int)] w fun e w' => e = .returned (.string (decN ⟨#[45]⟩ u p)) ∧ Below w.heap.size w w' := by
  have hc := fun w => itoa_any (u : Int) (by omega) (by omega) w
  have hsu := itoaB_size (n := (u : Int)) (by omega) (by omega)
  have HG : Hid (decS ⟨#[45]⟩ p (pad p (itoaB (u : Int))) = decN ⟨#[45]⟩ u p) := Lib.hid rfl
  generalize decN ⟨#[45]⟩ u p = fin at HG
  generalize itoaB (u : Int) = su at hc HG hsu
  have hw : wrap64 (-n) = (u : Int) := by rw [hnu]; exact IntWalk.wrap64_in _ (by omega)
  go_enter Tryd.func57, Tryd.ntmps57
  go_wp2_with fail
  refine (hc _ htab).mono ?_
  rintro e w1 ⟨rfl, hb1⟩
  clear hc
  go_wp2_with fail
  go_loopw [6] (fun s wr => ∃ (out : ByteArray), s = .string out ∧ pad p su = pad p out ∧ out.size ≤ 21 ∧ wr = w1) (fun v _ => p + 1 - (match v with | .string b => b.size | _ => 0))
  case atStart => exact ⟨su, rfl, rfl, hsu, rfl⟩
  case round =>
    obtain ⟨out, rfl, hd, ho, rfl⟩ := hrel
    have HD := Lib.hid hd
    clear hd
    by_cases h9 : out.size ≤ p
    · have d1 : (out.size : Int) ≤ (p : Int) := by omega
      have HS : Hid (pad p su = pad p (⟨#[48]⟩ ++ out)) := Lib.hid (HD.out.trans (pad_in h9))
      have hcs : ((⟨#[48]⟩ : ByteArray) ++ out).size = out.size + 1 := zero_size out
      have hsz : ¬ ((⟨#[48]⟩ : ByteArray).size + out.size > 9223372036854775807) := by
        have : (⟨#[48]⟩ : ByteArray).size = 1 := rfl
        omega
      clear HD HG
      go_wp2
      go_roundw
      case rel => exact ⟨_, rfl, HS.out, by omega, trivial⟩
      case measure => show p + 1 - ((⟨#[48]⟩ : ByteArray) ++ out).size < p + 1 - out.size; omega
    · have d1 : ¬ (out.size : Int) ≤ (p : Int) := by omega
      have HE : Hid (decS ⟨#[45]⟩ p out = fin) := Lib.hid (by rw [← HG.out, HD.out, pad_out h9])
      clear HD HG
      obtain ⟨q, hq⟩ : ∃ q : Nat, out.size = q + p := ⟨out.size - p, by omega⟩
      have hq1 : ((out.size : Nat) : Int) - (p : Int) = (q : Int) := by omega
      have hq2 : q ≤ out.size := by omega
      go_wp2
      go_quiet (fail)
      go_wp2
      go_ret
      exact ⟨congrArg (fun b => Ending.returned (.string b)) ((decS_at hq).symm.trans HE.out), bel_drewN hb1 _⟩
set_option maxRecDepth 100000 in
set_option maxHeartbeats 2000000 in
theorem l2Dec_neg (n : Int) (u p : Nat) (hneg : n < 0) (hnu : -n = (u : Int)) (hu : u ≤ 9223372036854775807) (hp : p ≤ 6) (w : World) : Calls Tryd.prog 52 #[.int .i64 n, .int .i64 (p : Int)] w fun e w' => e = .returned (.string (decN ⟨#[45]⟩ u p)) ∧ Below w.heap.size w w' := by
  have hc := fun w => l2Dec_nat u p hu hp w
  have HN : Hid (⟨#[45]⟩ ++ decN ⟨#[]⟩ u p = decN ⟨#[45]⟩ u p) := Lib.hid (decN_neg u p).symm
  have hw : wrap64 (-n) = (u : Int) := by rw [hnu]; exact IntWalk.wrap64_in _ (by omega)
  have hsu := decN_size (g := ⟨#[]⟩) (u := u) (p := p) (by rfl) hu hp
  generalize decN ⟨#[]⟩ u p = su at hc HN hsu
  generalize decN ⟨#[45]⟩ u p = fin at HN
  have hsz : ¬ ((⟨#[45]⟩ : ByteArray).size + su.size > 9223372036854775807) := by
    have : (⟨#[45]⟩ : ByteArray).size = 1 := rfl
    omega
  go_enter Tryd.func52, Tryd.ntmps52
  go_wp2_with fail
  refine (hc _).mono ?_
  rintro e w1 ⟨rfl, hb1⟩
  clear hc
  go_wp2
  go_ret
  exact ⟨congrArg (fun b => Ending.returned (.string b)) HN.out, hb1⟩
theorem l2Dec_any (n : Int) (p : Nat) (hn : -9223372036854775807 ≤ n) (hn2 : n ≤ 9223372036854775807) (hp : p ≤ 6) (w : World) : Calls Tryd.prog 52 #[.int .i64 n, .int .i64 (p : Int)] w fun e w' => e = .returned (.string (decD n p)) ∧ Below w.heap.size w w' := by
  unfold decD
  by_cases h : n < 0
  · rw [if_pos h]; exact l2Dec_neg n (-n).toNat p h (by omega) (by omega) hp w
  · rw [if_neg h]
    have := l2Dec_nat n.toNat p (by omega) hp w
    rwa [show ((n.toNat : Nat) : Int) = n by omega] at this
theorem decText_any (n : Int) (p : Nat) (hn : -9223372036854775807 ≤ n) (hn2 : n ≤ 9223372036854775807) (hp : p ≤ 6) (w : World) (htab : Lib.TabIs Tryd.prog w "internal/strconv.uint64pow10" .u64 Lib.pow10Tab) : Calls Tryd.prog 57 #[.int .i64 n, .int .i64 (p : Int)] w fun e w' => e = .returned (.string (decD n p)) ∧ Below w.heap.size w w' := by
  unfold decD
  by_cases h : n < 0
  · rw [if_pos h]; exact decText_neg (-n).toNat p (by omega) hp n h (by omega) w htab
  · rw [if_neg h]
    have := decText_nat n.toNat p (by omega) hp w htab
    rwa [show ((n.toNat : Nat) : Int) = n by omega] at this
end Go.Proofs.YtmlpobecilbknaaDoor
