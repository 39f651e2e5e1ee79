/- The walk of FnFork. -/
import Derived.Test.YtblpidkkfhgjjaaRows
import Derived.Test.YtblpidkkfhgjjaaWBits13
import Derived.WalkKit
import Derived.WalkSpells
import Derived.WalkLawsBesides
import Derived.OpenShut
import Derived.OwnWalk
import Derived.IntWalk
import Derived.Lib.Hide
import Derived.Deep.RegionHeld3
namespace Go.Proofs.Ytblpidkkfhgjjaa
open Go.RowKit Bx Rdr
set_option linter.unusedVariables false

/-- pushed: what comes of it -/
theorem fork_pushed {B N : Nat} (x : Bool) (hB : B < 2 ^ N) (hN : N ≤ 8) : (B * 2 + x.toNat) % 256 < 2 ^ (min (N + 1) 8) ∧ ((B * 2 + x.toNat) % 256 % 2 == 1) = x := by
  have hx : x.toNat ≤ 1 := by cases x <;> simp
  constructor
  · by_cases h : N = 8
    · subst h; rw [show min (8 + 1) 8 = 8 from rfl]; exact Nat.mod_lt _ (by decide)
    · have h2 : 2 ^ (N + 1) = 2 ^ N * 2 := Nat.pow_succ _ _
      rw [Nat.min_eq_left (by omega), h2]
      exact Nat.lt_of_le_of_lt (Nat.mod_le _ _) (by omega)
  · have : (B * 2 + x.toNat) % 256 % 2 = x.toNat := by omega
    rw [this]; cases x <;> rfl
set_option maxRecDepth 100000 in
set_option maxHeartbeats 400000 in
theorem FnFork_some (AA : Option Addr) (n c : Nat) (w : World) (h : IsCode w AA n c) (hn : n ≤ 1048576) : Calls Try.prog 5 #[.slice AA n c] w fun e w' => e = .returned (.bool true) ∧ Below w.heap.size w w' := by
  have hd : decide ((1048576 : Int) < (n : Int)) = false := by simp; omega
  go_enter Try.func5, Try.ntmps5
  go_wp2_with fail
  refine (DrawForkPush_any AA n c w h).mono ?_
  rintro e w1 ⟨b, m, x, rfl, hb0, hb1, hB1⟩
  clear h
  have hb0' := hb0
  have s1 := Box.new w1 #[.int .u8 b, .int .i64 m] 36
  have hB1' : Below w.heap.size w (w1.alloc (.cells #[.int .u8 b, .int .i64 m] 36)) := hB1.alloc hB1.size _
  have l1 := hB1.size
  clear hB1
  go_wp2_with fail
  refine (ForkPush_i_any b m x hb0 hb1 _).mono ?_
  rintro e w2 ⟨B, N, hg, hB, hN, rfl, hb2⟩
  obtain ⟨hp1, hp2⟩ := fork_pushed x hB hN
  obtain ⟨P, hP⟩ : ∃ P, P = (B * 2 + x.toNat) % 256 := ⟨_, rfl⟩
  obtain ⟨M, hM⟩ : ∃ M, M = min (N + 1) 8 := ⟨_, rfl⟩
  rw [← hP, ← hM] at hp1
  rw [← hP] at hp2
  rw [← hP, ← hM]
  have hM8 : M ≤ 8 := by omega
  have hP256 : P < 256 := small8 hp1 hM8
  have hgp : BitP.good 8 (P : Int) (M : Int) = (P, M) := by
    have : BitP.ok 8 (P : Int) (M : Int) = true := BitP.ok_of (by omega) hp1
    simp [BitP.good, this]
  have hokp : ∀ w, Calls Try.prog 20 #[.agg #[.int .u8 P, .int .i64 M]] w fun e w' => e = .returned (.bool true) ∧ Below w.heap.size w w' := fun w => by
    have := ForkOk_i_any (P : Int) (M : Int) (by omega) (by omega) w
    rwa [show BitP.ok 8 (P : Int) (M : Int) = true from BitP.ok_of (by omega) hp1] at this
  have htop : ∀ w, Calls Try.prog 21 #[.agg #[.int .u8 P, .int .i64 M]] w fun e w' => e = .returned (.bool x) ∧ Below w.heap.size w w' := fun w => by
    refine (ForkTop_i_any (P : Int) (M : Int) (by omega) (by omega) w).mono ?_
    rintro e w' ⟨B', N', hg', _, _, he, hb⟩
    obtain ⟨rfl, rfl⟩ : B' = P ∧ N' = M := by have h := hg'.trans hgp; exact ⟨congrArg Prod.fst h, congrArg Prod.snd h⟩
    exact ⟨by rw [he, hp2], hb⟩
  have hsp : ∀ w, Calls Try.prog 22 #[.agg #[.int .u8 b, .int .i64 m], .bool x] w fun e w' => e = .returned (.agg #[.int .u8 P, .int .i64 M]) ∧ Below w.heap.size w w' := fun w => by
    refine (ForkPush_s_any b m x hb0 hb1 w).mono ?_
    rintro e w' ⟨B', N', hg', _, _, he, hb⟩
    obtain ⟨rfl, rfl⟩ : B' = B ∧ N' = N := by have h := hg'.trans hg.symm; exact ⟨congrArg Prod.fst h, congrArg Prod.snd h⟩
    exact ⟨by rw [he, hP, hM], hb⟩
  have hpop : ∀ w, Calls Try.prog 19 #[.agg #[.int .u8 P, .int .i64 M]] w fun e w' => e = .returned (.tuple #[.agg #[.int .u8 ((P / 2 : Nat) : Int), .int .i64 ((M - 1 : Nat) : Int)], .bool x]) ∧ Below w.heap.size w w' := fun w => by
    refine (ForkPop_i_any (P : Int) (M : Int) (by omega) (by omega) w).mono ?_
    rintro e w' ⟨B', N', hg', _, _, he, hb⟩
    obtain ⟨rfl, rfl⟩ : B' = P ∧ N' = M := by have h := hg'.trans hgp; exact ⟨congrArg Prod.fst h, congrArg Prod.snd h⟩
    exact ⟨by rw [he, hp2], hb⟩
  have hfo : ∀ w, Calls Try.prog 23 #[.agg #[.int .u8 b, .int .i64 m]] w fun e w' => e = .returned (.bool (BitP.ok 8 b m)) ∧ Below w.heap.size w w' := fun w => sForkOk_any b m hb0 hb1 w
  have s2 := s1.kept hb2
  have hB2 := bel_step hB1' hb2 hB1'.size
  have HV := Lib.hid (And.intro hg (And.intro hB (And.intro hN (And.intro hP hM))))
  clear hb2 hB1' s1 hg hB hN hP hM hp1 hp2 hgp hM8 hP256 l1 hb0 hb1
  have s3 := s2.alloc (.cells #[.int .u8 P, .int .i64 M] 36)
  have p3 := Box.new w2 #[.int .u8 P, .int .i64 M] 36
  have hB3 : Below w.heap.size w (w2.alloc (.cells #[.int .u8 P, .int .i64 M] 36)) := hB2.alloc hB2.size _
  have l3 := s2.lt
  clear s2 hB2
  go_wp2_with fail
  refine (hpop _).mono ?_
  rintro e w4 ⟨rfl, hb4⟩
  have s4 := s3.kept hb4
  have p4 := p3.kept hb4
  have hB4 := bel_step hB3 hb4 hB3.size
  clear hb4 s3 p3 hB3
  obtain ⟨D, hD⟩ : ∃ D : Int, D = ((P / 2 : Nat) : Int) := ⟨_, rfl⟩
  obtain ⟨E, hE⟩ : ∃ E : Int, E = ((M - 1 : Nat) : Int) := ⟨_, rfl⟩
  rw [← hD, ← hE]
  have HD := Lib.hid (And.intro hD hE)
  clear hD hE hpop
  have s5 := s4.alloc (.cells #[.int .u8 D, .int .i64 E] 36)
  have p5 := p4.alloc (.cells #[.int .u8 D, .int .i64 E] 36)
  have q5 := Box.new w4 #[.int .u8 D, .int .i64 E] 36
  have hB5 : Below w.heap.size w (w4.alloc (.cells #[.int .u8 D, .int .i64 E] 36)) := hB4.alloc hB4.size _
  clear s4 p4 hB4
  go_wp2_with fail
  generalize hw5 : w4.alloc (.cells #[.int .u8 D, .int .i64 E] 36) = w5 at s5 p5 q5 hB5 ⊢
  clear hw5
  have hS : ∀ w', Below w5.heap.size w5 w' → w'.cell? ⟨w1.heap.size, 0, none⟩ = some (.int .u8 b) ∧ w'.cell? ⟨w1.heap.size, 1, none⟩ = some (.int .i64 m) ∧ w'.cell? ⟨w2.heap.size, 0, none⟩ = some (.int .u8 P) ∧ w'.cell? ⟨w2.heap.size, 1, none⟩ = some (.int .i64 M) ∧ Below w5.heap.size w5 w' := fun w' hb =>
    ⟨(s5.kept hb).cell 0, (s5.kept hb).cell 1, (p5.kept hb).cell 0, (p5.kept hb).cell 1, hb⟩
  go_region_held3 (fun w' => w'.cell? ⟨w1.heap.size, 0, none⟩ = some (.int .u8 b) ∧ w'.cell? ⟨w1.heap.size, 1, none⟩ = some (.int .i64 m) ∧ w'.cell? ⟨w2.heap.size, 0, none⟩ = some (.int .u8 P) ∧ w'.cell? ⟨w2.heap.size, 1, none⟩ = some (.int .i64 M) ∧ Below w5.heap.size w5 w')
    (first | exact hS _ (Below.refl _ _).drew | (obtain ⟨_, _, _, _, hq⟩ := (by assumption : _ ∧ _ ∧ _ ∧ _ ∧ Below w5.heap.size w5 _); exact hS _ (bel_step hq hbx hq.size)))
    (first | (go_at_call 20; refine (hokp _).mono ?_; rintro e w' ⟨rfl, hbx⟩) | (go_at_call 21; refine (htop _).mono ?_; rintro e w' ⟨rfl, hbx⟩) | (go_at_call 22; refine (hsp _).mono ?_; rintro e w' ⟨rfl, hbx⟩))
  obtain ⟨_, _, _, _, hq⟩ := (by assumption : _ ∧ _ ∧ _ ∧ _ ∧ Below w5.heap.size w5 _)
  have s6 := s5.kept hq
  have p6 := p5.kept hq
  have q6 := q5.kept hq
  have hB6 := bel_step hB5 hq hB5.size
  clear hq s5 p5 q5 hB5 hS hokp htop hsp
  go_wp2_with fail
  refine (hfo _).mono ?_
  rintro e w7 ⟨rfl, hb7⟩
  have s7 := s6.kept hb7
  have p7 := p6.kept hb7
  have q7 := q6.kept hb7
  have hB7 := bel_step hB6 hb7 hB6.size
  clear hb7 s6 p6 q6 hB6 hfo
  obtain ⟨hg, hB, hN, hP, hM⟩ := HV.out
  obtain ⟨hD, hE⟩ := HD.out
  clear HV HD
  have hx : x.toNat ≤ 1 := by cases x <;> simp
  cases hok : BitP.ok 8 b m with
  | false =>
    have hz : B = 0 ∧ N = 0 := by
      have : (B, N) = (0, 0) := hg.trans (by simp [BitP.good, hok])
      exact ⟨congrArg Prod.fst this, congrArg Prod.snd this⟩
    obtain ⟨hb, hn0⟩ := hz
    obtain rfl : M = 1 := by omega
    obtain rfl : D = 0 := by omega
    obtain rfl : E = 0 := by omega
    have cs0 : w7.cell? ⟨w1.heap.size, 0, none⟩ = some (.int .u8 b) := s7.cell 0
    have cs1 : w7.cell? ⟨w1.heap.size, 1, none⟩ = some (.int .i64 m) := s7.cell 1
    have cp0 : w7.cell? ⟨w2.heap.size, 0, none⟩ = some (.int .u8 P) := p7.cell 0
    have cp1 : w7.cell? ⟨w2.heap.size, 1, none⟩ = some (.int .i64 1) := p7.cell 1
    have cq0 : w7.cell? ⟨w4.heap.size, 0, none⟩ = some (.int .u8 0) := q7.cell 0
    have cq1 : w7.cell? ⟨w4.heap.size, 1, none⟩ = some (.int .i64 0) := q7.cell 1
    clear s7 p7 q7 hb hn0 hg hB hN hP hM hD hE hok
    go_wp2
    go_ret
    exact ⟨rfl, hB7⟩
  | true =>
    obtain ⟨B', N', rfl, rfl, _, _⟩ := BitP.ok_nat hok hb0'
    have hz : B = B' ∧ N = N' := by
      have : (B, N) = (B', N') := hg.trans (by simp [BitP.good, hok])
      exact ⟨congrArg Prod.fst this, congrArg Prod.snd this⟩
    obtain ⟨rfl, rfl⟩ := hz
    by_cases h8 : N = 8
    · subst h8
      obtain rfl : M = 8 := by omega
      have cs0 : w7.cell? ⟨w1.heap.size, 0, none⟩ = some (.int .u8 B) := s7.cell 0
      have cs1 : w7.cell? ⟨w1.heap.size, 1, none⟩ = some (.int .i64 8) := s7.cell 1
      have cp0 : w7.cell? ⟨w2.heap.size, 0, none⟩ = some (.int .u8 P) := p7.cell 0
      have cp1 : w7.cell? ⟨w2.heap.size, 1, none⟩ = some (.int .i64 8) := p7.cell 1
      have cq0 : w7.cell? ⟨w4.heap.size, 0, none⟩ = some (.int .u8 D) := q7.cell 0
      have cq1 : w7.cell? ⟨w4.heap.size, 1, none⟩ = some (.int .i64 E) := q7.cell 1
      clear s7 p7 q7 hg hB hN hP hM hD hE hok
      go_wp2
      go_ret
      exact ⟨rfl, hB7⟩
    · have h256 := small8 hB hN
      have h2 : 2 ^ N ≤ 128 := pow16 (show N ≤ 7 by omega) (by decide)
      obtain rfl : D = (B : Int) := by omega
      obtain rfl : E = (N : Int) := by omega
      obtain rfl : M = N + 1 := by omega
      have dn : ((N : Int) == 8) = false := by simp; omega
      have hN8 : N ≤ 8 := hN
      have cs0 : w7.cell? ⟨w1.heap.size, 0, none⟩ = some (.int .u8 B) := s7.cell 0
      have cs1 : w7.cell? ⟨w1.heap.size, 1, none⟩ = some (.int .i64 N) := s7.cell 1
      have cp0 : w7.cell? ⟨w2.heap.size, 0, none⟩ = some (.int .u8 P) := p7.cell 0
      have cp1 : w7.cell? ⟨w2.heap.size, 1, none⟩ = some (.int .i64 ((N : Int) + 1)) := p7.cell 1
      have cq0 : w7.cell? ⟨w4.heap.size, 0, none⟩ = some (.int .u8 B) := q7.cell 0
      have cq1 : w7.cell? ⟨w4.heap.size, 1, none⟩ = some (.int .i64 N) := q7.cell 1
      clear s7 p7 q7 hg hB hP hM hD hE hok h2 h256
      go_wp2
      go_ret
      exact ⟨rfl, hB7⟩
theorem FnFork_great (AA : Option Addr) (n c : Nat) (hn : 1048576 < n) (w : World) : Calls Try.prog 5 #[.slice AA n c] w fun e w' => e = .returned (.bool true) ∧ Below w.heap.size w w' := by
  have hd : decide ((1048576 : Int) < (n : Int)) = true := by simp; omega
  go_enter Try.func5, Try.ntmps5
  go_wp2
  go_ret
  exact ⟨rfl, Below.refl _ _⟩
theorem FnFork_walk (a0 : Option Addr) (len0 cap0 : Nat) (z0 : List Int) (w : World) (w0 : IsRow .u8 w a0 len0 cap0 z0) : Calls Try.prog 5 #[.slice a0 len0 cap0] w fun e w' => e = .returned (.bool true) ∧ Below w.heap.size w w' := by
  by_cases hn : len0 ≤ 1048576
  · exact FnFork_some a0 len0 cap0 w (isCode_of w0) hn
  · exact FnFork_great a0 len0 cap0 (by omega) w
end Go.Proofs.Ytblpidkkfhgjjaa
