/- The reference's forks. -/
import Derived.Test.YtmgmjhbbjllleaaRows
import Derived.Test.YtmgmjhbbjllleaaWBits4
import Derived.WalkKit
import Derived.WalkSpells
import Derived.WalkLawsBesides
import Derived.OpenShut
import Derived.OwnWalk
import Derived.IntWalk
import Derived.Lib.Hide
import Derived.Laws.BitsAllLaws
namespace Go.Proofs.Ytmgmjhbbjllleaa
open Go.RowKit Bx
set_option linter.unusedVariables false

theorem ok8 (b n : Int) : BitP.ok 8 b n = (decide (n ≤ 8) && BitP.ok 16 b n) := by
  rw [Bool.eq_iff_iff, Bool.and_eq_true, decide_eq_true_iff, BitP.ok_iff, BitP.ok_iff]
  constructor
  · rintro ⟨h1, h2, h3⟩; exact ⟨h2, h1, by omega, h3⟩
  · rintro ⟨h1, h2, h3, h4⟩; exact ⟨h2, h1, h4⟩
set_option maxRecDepth 100000 in
set_option maxHeartbeats 400000 in
theorem sForkOk_any (b n : Int) (h0 : 0 ≤ b) (h1 : b < 256) (w : World) : Calls Try.prog 18 #[.agg #[.int .u8 b, .int .i64 n]] w fun e w' => e = .returned (.bool (BitP.ok 8 b n)) ∧ Below w.heap.size w w' := by
  rw [ok8]
  have hw : IntKind.u16.wrap b = b := by rw [IntKind.wrap_u16]; omega
  by_cases h : n ≤ 8
  · have d : decide (n ≤ 8) = true := by simpa using h
    have hok := fun w => sBitOk_any b n h0 (by omega) w
    rw [d, Bool.true_and]
    obtain ⟨q, hq⟩ : ∃ q, q = BitP.ok 16 b n := ⟨_, rfl⟩
    rw [← hq] at hok ⊢
    clear hq
    go_enter Try.func18, Try.ntmps18
    go_wp2_with fail
    refine (hok _).mono ?_
    rintro e w1 ⟨rfl, hb1⟩
    go_wp2
    go_ret
    exact ⟨rfl, bel_step ((Below.refl _ _).alloc (Nat.le_refl _) _) hb1 (by simp)⟩
  · have d : decide (n ≤ 8) = false := by simpa using h
    go_enter Try.func18, Try.ntmps18
    go_wp2
    go_ret
    exact ⟨rfl, by repeat (first | exact Below.refl _ _ | refine Below.alloc ?_ (by first | (simp; done) | (simp; omega) | omega) _ | refine Below.drew ?_ | refine Bx.bel_drewN ?_ _ | refine Below.setCell ?_ (by first | (simp; done) | (simp; omega) | omega) _)⟩
set_option maxRecDepth 100000 in
set_option maxHeartbeats 400000 in
theorem l1Wide_any (b n : Int) (h0 : 0 ≤ b) (h1 : b < 256) (w : World) : Calls Try.prog 46 #[.agg #[.int .u8 b, .int .i64 n]] w fun e w' => ∃ B N : Nat, (B, N) = BitP.good 8 b n ∧ B < 2 ^ N ∧ N ≤ 8 ∧ e = .returned (.agg #[.int .u16 B, .int .i64 N]) ∧ Below w.heap.size w w' := by
  have hw : IntKind.u16.wrap b = b := by rw [IntKind.wrap_u16]; omega
  have hok := fun w => sForkOk_any b n h0 h1 w
  by_cases hk : BitP.ok 8 b n = true
  all_goals
    go_enter Try.func46, Try.ntmps46
    go_wp2_with fail
    refine (hok _).mono ?_
    rintro e w1 ⟨rfl, hb1⟩
    have b1 := ((Box.new w #[.int .u8 b, .int .i64 n] 32).alloc (.cells #[.int .u16 0, .int .i64 0] 26)).kept hb1
    have r1 := (Box.new (w.alloc (.cells #[.int .u8 b, .int .i64 n] 32)) #[.int .u16 0, .int .i64 0] 26).kept hb1
    have c0 : w1.cell? ⟨w.heap.size, 0, none⟩ = some (.int .u8 b) := by have := b1.cell 0; simpa using this
    have c1 : w1.cell? ⟨w.heap.size, 1, none⟩ = some (.int .i64 n) := by have := b1.cell 1; simpa using this
    have e0 : w1.cell? ⟨w.heap.size + 1, 0, none⟩ = some (.int .u16 0) := by have := r1.cell 0; simpa using this
    have e1 : w1.cell? ⟨w.heap.size + 1, 1, none⟩ = some (.int .i64 0) := by have := r1.cell 1; simpa using this
    have f0 : w1.frozen? ⟨w.heap.size + 1, 0, none⟩ = false := by have := r1.free 0; simpa using this
    have f1 : w1.frozen? ⟨w.heap.size + 1, 1, none⟩ = false := by have := r1.free 1; simpa using this
    have hs : w.heap.size + 1 < w1.heap.size := by have := hb1.size; simp at this; omega
    have hBel : Below w.heap.size w w1 := bel_step (((Below.refl _ _).alloc (Nat.le_refl _) _).alloc (by simp) _) hb1 (by simp; omega)
    clear hb1 b1 r1 hok
    go_wp2
  · refine bodyPost_ret (v := .agg #[.int .u16 b, .int .i64 n]) (by simp [results, Try.results46, go_sem, e0, e1]) rfl ?_
    obtain ⟨B, N, rfl, rfl, hN, hB⟩ := BitP.ok_nat hk h0
    refine ⟨B, N, by simp [BitP.good, hk], hB, by omega, rfl, ?_⟩
    repeat (first | exact hBel | refine Below.setCell ?_ (by first | (simp; done) | (simp; omega) | omega) _)
  · have hk : BitP.ok 8 b n = false := by simpa using hk
    refine bodyPost_ret (v := .agg #[.int .u16 0, .int .i64 0]) (by simp [results, Try.results46, go_sem, e0, e1]) rfl ⟨0, 0, by simp [BitP.good, hk], by omega, by omega, rfl, ?_⟩
    repeat (first | exact hBel | refine Below.setCell ?_ (by first | (simp; done) | (simp; omega) | omega) _)
set_option maxRecDepth 100000 in
set_option maxHeartbeats 400000 in
theorem l1Small_any (b n M : Int) (h0 : 0 ≤ b) (h1 : b < 65536) (hM : M = if n ≤ 8 then n else 8) (w : World) : Calls Try.prog 52 #[.agg #[.int .u16 b, .int .i64 n]] w fun e w' => e = .returned (.agg #[.int .u8 (b % 256), .int .i64 M]) ∧ Below w.heap.size w w' := by
  have hr : b.tmod 256 = b % 256 := Int.tmod_eq_emod_of_nonneg h0
  have hw : IntKind.u8.wrap (b % 256) = b % 256 := by rw [IntKind.wrap_u8']; omega
  by_cases h : n ≤ 8
  · have d : decide (8 < n) = false := by simp; omega
    obtain rfl : M = n := by rw [hM, if_pos h]
    clear hM
    go_enter Try.func52, Try.ntmps52
    go_wp2
    exact bodyPost_ret (v := .agg #[.int .u8 (b % 256), .int .i64 M]) (by simp [results, Try.results52, go_sem]) rfl ⟨rfl, by repeat (first | exact Below.refl _ _ | refine Below.alloc ?_ (by first | (simp; done) | (simp; omega) | omega) _ | refine Below.drew ?_ | refine Bx.bel_drewN ?_ _ | refine Below.setCell ?_ (by first | (simp; done) | (simp; omega) | omega) _)⟩
  · have d : decide (8 < n) = true := by simp; omega
    obtain rfl : M = 8 := by rw [hM, if_neg h]
    clear hM
    go_enter Try.func52, Try.ntmps52
    go_wp2
    exact bodyPost_ret (v := .agg #[.int .u8 (b % 256), .int .i64 8]) (by simp [results, Try.results52, go_sem]) rfl ⟨rfl, by repeat (first | exact Below.refl _ _ | refine Below.alloc ?_ (by first | (simp; done) | (simp; omega) | omega) _ | refine Below.drew ?_ | refine Bx.bel_drewN ?_ _ | refine Below.setCell ?_ (by first | (simp; done) | (simp; omega) | omega) _)⟩
theorem good_of {B N : Nat} (hB : B < 2 ^ N) (hN : N ≤ 8) : BitP.good 16 (B : Int) (N : Int) = (B, N) := by
  have : BitP.ok 16 (B : Int) (N : Int) = true := BitP.ok_of (by omega) hB
  simp [BitP.good, this]
theorem small8 {B N : Nat} (hB : B < 2 ^ N) (hN : N ≤ 8) : B < 256 := Nat.lt_of_lt_of_le hB (pow16 hN (by decide))
set_option maxRecDepth 100000 in
set_option maxHeartbeats 400000 in
theorem ForkTop_s_any (b n : Int) (h0 : 0 ≤ b) (h1 : b < 256) (w : World) : Calls Try.prog 23 #[.agg #[.int .u8 b, .int .i64 n]] w fun e w' => ∃ B N : Nat, (B, N) = BitP.good 8 b n ∧ B < 2 ^ N ∧ N ≤ 8 ∧ e = .returned (.bool (B % 2 == 1)) ∧ Below w.heap.size w w' := by
  go_enter Try.func23, Try.ntmps23
  go_wp2_with fail
  refine (l1Wide_any b n h0 h1 _).mono ?_
  rintro e w1 ⟨B, N, hg, hB, hN, rfl, hb1⟩
  go_wp2_with fail
  refine (BitTop_s_any (B : Int) (N : Int) (by omega) (by have := small8 hB hN; omega) _).mono ?_
  rintro e w2 ⟨B', N', hg', hB', hN', rfl, hb2⟩
  obtain ⟨rfl, rfl⟩ : B' = B ∧ N' = N := by have h := hg'.trans (good_of hB hN); exact ⟨congrArg Prod.fst h, congrArg Prod.snd h⟩
  obtain ⟨q, hq⟩ : ∃ q : Bool, q = (B' % 2 == 1) := ⟨_, rfl⟩
  rw [← hq]
  have HQ := Lib.hid hq
  have HG := Lib.hid (And.intro hg hB)
  have hBel1 : Below w.heap.size w w1 := bel_step ((Below.refl _ _).alloc (Nat.le_refl _) _) hb1 (by simp)
  have hBel := bel_step hBel1 hb2 hBel1.size
  clear hb1 hb2 hg hB hB' hg' hq hBel1
  go_wp2
  go_ret
  exact ⟨B', N', HG.out.1, HG.out.2, hN, by rw [← HQ.out]; rfl, hBel⟩
set_option maxRecDepth 100000 in
set_option maxHeartbeats 400000 in
theorem ForkPush_s_any (b n : Int) (x : Bool) (h0 : 0 ≤ b) (h1 : b < 256) (w : World) : Calls Try.prog 42 #[.agg #[.int .u8 b, .int .i64 n], .bool x] w fun e w' => ∃ B N : Nat, (B, N) = BitP.good 8 b n ∧ B < 2 ^ N ∧ N ≤ 8 ∧ e = .returned (.agg #[.int .u8 (((B * 2 + x.toNat) % 256 : Nat) : Int), .int .i64 ((min (N + 1) 8 : Nat) : Int)]) ∧ Below w.heap.size w w' := by
  go_enter Try.func42, Try.ntmps42
  go_wp2_with fail
  refine (l1Wide_any b n h0 h1 _).mono ?_
  rintro e w1 ⟨B, N, hg, hB, hN, rfl, hb1⟩
  go_wp2_with fail
  refine (BitPush_s_any (B : Int) (N : Int) x (by omega) (by have := small8 hB hN; omega) _).mono ?_
  rintro e w2 ⟨B', N', hg', hB', hN', rfl, hb2⟩
  obtain ⟨rfl, rfl⟩ : B' = B ∧ N' = N := by have h := hg'.trans (good_of hB hN); exact ⟨congrArg Prod.fst h, congrArg Prod.snd h⟩
  obtain ⟨M, hM⟩ : ∃ M : Int, M = ((min (N' + 1) 8 : Nat) : Int) := ⟨_, rfl⟩
  obtain ⟨P, hP⟩ : ∃ P : Int, P = (((B' * 2 + x.toNat) % 65536 : Nat) : Int) := ⟨_, rfl⟩
  obtain ⟨Q, hQ⟩ : ∃ Q : Int, Q = ((min (N' + 1) 16 : Nat) : Int) := ⟨_, rfl⟩
  rw [← hP, ← hQ]
  have hsm := fun w => l1Small_any P Q M (by omega) (by omega) (by rw [hM, hQ]; split <;> omega) w
  have e256 : P % 256 = (((B' * 2 + x.toNat) % 256 : Nat) : Int) := by omega
  rw [e256, hM] at hsm
  have r1 := ((Box.new (w.alloc (.cells #[.int .u8 b, .int .i64 n] 32)) #[.int .u8 0, .int .i64 0] 32).kept hb1).kept hb2
  have hBel1 : Below w.heap.size w w1 := bel_step (((Below.refl _ _).alloc (Nat.le_refl _) _).alloc (by simp) _) hb1 (by simp; omega)
  have hBel2 := bel_step hBel1 hb2 hBel1.size
  have HG := Lib.hid (And.intro hg hB)
  clear hb1 hb2 hg hB hB' hg' hP hQ hM hBel1 e256
  go_wp2_with fail
  refine (hsm _).mono ?_
  rintro e w3 ⟨rfl, hb3⟩
  have r3 := r1.kept hb3
  have hBel := bel_step hBel2 hb3 hBel2.size
  have e0 : w3.cell? ⟨w.heap.size + 1, 0, none⟩ = some (.int .u8 0) := by have := r3.cell 0; simpa using this
  have e1 : w3.cell? ⟨w.heap.size + 1, 1, none⟩ = some (.int .i64 0) := by have := r3.cell 1; simpa using this
  have f0 : w3.frozen? ⟨w.heap.size + 1, 0, none⟩ = false := by have := r3.free 0; simpa using this
  have f1 : w3.frozen? ⟨w.heap.size + 1, 1, none⟩ = false := by have := r3.free 1; simpa using this
  have hs : w.heap.size + 1 < w3.heap.size := by have := r3.lt; simpa using this
  obtain ⟨P', hP⟩ : ∃ P' : Int, P' = (((B' * 2 + x.toNat) % 256 : Nat) : Int) := ⟨_, rfl⟩
  obtain ⟨M', hM⟩ : ∃ M : Int, M = ((min (N' + 1) 8 : Nat) : Int) := ⟨_, rfl⟩
  rw [← hP, ← hM]
  have HP := Lib.hid (And.intro hP hM)
  clear hb3 r1 r3 hsm hBel2 hP hM
  go_wp2
  refine bodyPost_ret (v := .agg #[.int .u8 P', .int .i64 M']) (by simp [results, Try.results42, go_sem, e0, e1]) rfl ⟨B', N', HG.out.1, HG.out.2, hN, by rw [HP.out.1, HP.out.2], ?_⟩
  repeat (first | exact hBel | refine Below.setCell ?_ (by first | (simp; done) | (simp; omega) | omega) _)
set_option maxRecDepth 100000 in
set_option maxHeartbeats 400000 in
theorem ForkPop_s_any (b n : Int) (h0 : 0 ≤ b) (h1 : b < 256) (w : World) : Calls Try.prog 44 #[.agg #[.int .u8 b, .int .i64 n]] w fun e w' => ∃ B N : Nat, (B, N) = BitP.good 8 b n ∧ B < 2 ^ N ∧ N ≤ 8 ∧ e = .returned (.tuple #[.agg #[.int .u8 ((B / 2 : Nat) : Int), .int .i64 ((N - 1 : Nat) : Int)], .bool (B % 2 == 1)]) ∧ Below w.heap.size w w' := by
  go_enter Try.func44, Try.ntmps44
  go_wp2_with fail
  refine (l1Wide_any b n h0 h1 _).mono ?_
  rintro e w1 ⟨B, N, hg, hB, hN, rfl, hb1⟩
  go_wp2_with fail
  refine (BitPop_s_any (B : Int) (N : Int) (by omega) (by have := small8 hB hN; omega) _).mono ?_
  rintro e w2 ⟨B', N', hg', hB', hN', rfl, hb2⟩
  obtain ⟨rfl, rfl⟩ : B' = B ∧ N' = N := by have h := hg'.trans (good_of hB hN); exact ⟨congrArg Prod.fst h, congrArg Prod.snd h⟩
  obtain ⟨q, hq⟩ : ∃ q : Bool, q = (B' % 2 == 1) := ⟨_, rfl⟩
  obtain ⟨P, hP⟩ : ∃ P : Int, P = ((B' / 2 : Nat) : Int) := ⟨_, rfl⟩
  obtain ⟨Q, hQ⟩ : ∃ Q : Int, Q = ((N' - 1 : Nat) : Int) := ⟨_, rfl⟩
  rw [← hP, ← hQ, ← hq]
  have h256 := small8 hB hN
  have hsm := fun w => l1Small_any P Q Q (by omega) (by omega) (by rw [if_pos (by omega)]) w
  have e256 : P % 256 = P := by omega
  rw [e256] at hsm
  have r1 := ((Box.new (w.alloc (.cells #[.int .u8 b, .int .i64 n] 32)) #[.int .u8 0, .int .i64 0] 32).kept hb1).kept hb2
  have hBel1 : Below w.heap.size w w1 := bel_step (((Below.refl _ _).alloc (Nat.le_refl _) _).alloc (by simp) _) hb1 (by simp; omega)
  have hBel2 := bel_step hBel1 hb2 hBel1.size
  have HG := Lib.hid (And.intro hg hB)
  have HP := Lib.hid (And.intro hP (And.intro hQ hq))
  clear hb1 hb2 hg hB hB' hg' hP hQ hq hBel1 e256 h256
  go_wp2_with fail
  refine (hsm _).mono ?_
  rintro e w3 ⟨rfl, hb3⟩
  have r3 := (r1.alloc (.cells #[.int .u16 P, .int .i64 Q] 26)).kept hb3
  have hBel := bel_step (hBel2.alloc hBel2.size _) hb3 (by have := hBel2.size; simp; omega)
  have e0 : w3.cell? ⟨w.heap.size + 1, 0, none⟩ = some (.int .u8 0) := by have := r3.cell 0; simpa using this
  have e1 : w3.cell? ⟨w.heap.size + 1, 1, none⟩ = some (.int .i64 0) := by have := r3.cell 1; simpa using this
  have f0 : w3.frozen? ⟨w.heap.size + 1, 0, none⟩ = false := by have := r3.free 0; simpa using this
  have f1 : w3.frozen? ⟨w.heap.size + 1, 1, none⟩ = false := by have := r3.free 1; simpa using this
  have hs : w.heap.size + 1 < w3.heap.size := by have := r3.lt; simpa using this
  clear hb3 r1 r3 hsm hBel2
  go_wp2
  refine bodyPost_ret (v := .tuple #[.agg #[.int .u8 P, .int .i64 Q], .bool q]) (by simp [results, Try.results44, go_sem, e0, e1]) rfl ⟨B', N', HG.out.1, HG.out.2, hN, by rw [HP.out.1, HP.out.2.1, HP.out.2.2], ?_⟩
  repeat (first | exact hBel | refine Below.setCell ?_ (by first | (simp; done) | (simp; omega) | omega) _)
end Go.Proofs.Ytmgmjhbbjllleaa
