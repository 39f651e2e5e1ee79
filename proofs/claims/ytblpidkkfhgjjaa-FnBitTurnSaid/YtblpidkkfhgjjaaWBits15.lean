/- The walk of FnBitTurn. -/
import Derived.Test.YtblpidkkfhgjjaaRows
import Derived.Test.YtblpidkkfhgjjaaWBits13
import Derived.WalkKit
import Derived.WalkSpells
import Derived.WalkLawsBesides
import Derived.OpenShut
import Derived.OwnWalk
import Derived.IntWalk
import Derived.Lib.Hide
import Derived.Deep.RegionHeld3
namespace Go.Proofs.Ytblpidkkfhgjjaa
open Go.RowKit Bx Rdr
set_option linter.unusedVariables false

set_option maxRecDepth 100000 in
set_option maxHeartbeats 400000 in
theorem FnBitTurn_some (AA : Option Addr) (n c : Nat) (w : World) (h : IsCode w AA n c) (hn : n ≤ 1048576) : Calls Try.prog 4 #[.slice AA n c] w fun e w' => e = .returned (.bool true) ∧ Below w.heap.size w w' := by
  have hd : decide ((1048576 : Int) < (n : Int)) = false := by simp; omega
  go_enter Try.func4, Try.ntmps4
  go_wp2_with fail
  refine (DrawBitTurn_any AA n c w h).mono ?_
  rintro e w1 ⟨b, m, x, rfl, hb0, hb1, hB1⟩
  clear h
  obtain ⟨hB, hN⟩ := good_bounds (n := m) hb0
  have hlist := fun w => sBitList_any b m hb0 hb1 w
  obtain ⟨B, hBe⟩ : ∃ B, B = (BitP.good 16 b m).1 := ⟨_, rfl⟩
  obtain ⟨N, hNe⟩ : ∃ N, N = (BitP.good 16 b m).2 := ⟨_, rfl⟩
  rw [← hBe, ← hNe] at hB hlist
  rw [← hNe] at hN
  have hg : (B, N) = BitP.good 16 b m := by rw [hBe, hNe]
  clear hBe hNe
  obtain ⟨P, hP⟩ : ∃ P : Nat, P = if N = 0 then 0 else B - B % 2 + x.toNat := ⟨_, rfl⟩
  obtain ⟨q, hq⟩ : ∃ q : Bool, q = (B % 2 == 1) := ⟨_, rfl⟩
  have hx : x.toNat ≤ 1 := by cases x <;> simp
  have hPN : P < 2 ^ N := by
    rw [hP]; split
    · exact Nat.two_pow_pos N
    · obtain ⟨M, rfl⟩ : ∃ M, N = M + 1 := ⟨N - 1, by omega⟩
      rw [Nat.pow_succ] at hB ⊢; omega
  have hP16 : P < 65536 := Nat.lt_of_lt_of_le hPN (pow16 hN (by decide))
  have hgp : BitP.good 16 (P : Int) (N : Int) = (P, N) := by
    have : BitP.ok 16 (P : Int) (N : Int) = true := BitP.ok_of (by omega) hPN
    simp [BitP.good, this]
  have huniq : ∀ B' N', (B', N') = BitP.good 16 b m → B' = B ∧ N' = N := fun B' N' hg' => by
    have h := hg'.trans hg.symm; exact ⟨congrArg Prod.fst h, congrArg Prod.snd h⟩
  have htn : ∀ w, Calls Try.prog 15 #[.agg #[.int .u16 b, .int .i64 m], .bool x] w fun e w' => e = .returned (.agg #[.int .u16 P, .int .i64 N]) ∧ Below w.heap.size w w' := fun w => by
    refine (BitTurn_i_any b m x hb0 hb1 w).mono ?_
    rintro e w' ⟨B', N', hg', _, _, he, hb⟩
    obtain ⟨rfl, rfl⟩ := huniq B' N' hg'
    refine ⟨?_, hb⟩
    rw [he, hP]
    split
    · rename_i h0; rw [h0]; rfl
    · rfl
  have htop : ∀ w, Calls Try.prog 16 #[.agg #[.int .u16 b, .int .i64 m]] w fun e w' => e = .returned (.bool q) ∧ Below w.heap.size w w' := fun w => by
    refine (BitTop_i_any b m hb0 hb1 w).mono ?_
    rintro e w' ⟨B', N', hg', _, _, he, hb⟩
    obtain ⟨rfl, rfl⟩ := huniq B' N' hg'
    exact ⟨by rw [he, hq], hb⟩
  have hpop : ∀ w, Calls Try.prog 11 #[.agg #[.int .u16 b, .int .i64 m]] w fun e w' => ∃ D E : Int, e = .returned (.tuple #[.agg #[.int .u16 D, .int .i64 E], .bool q]) ∧ Below w.heap.size w w' := fun w => by
    refine (BitPop_i_any b m hb0 hb1 w).mono ?_
    rintro e w' ⟨B', N', hg', _, _, he, hb⟩
    obtain ⟨rfl, rfl⟩ := huniq B' N' hg'
    exact ⟨_, _, by rw [he, hq], hb⟩
  have hok : ∀ w, Calls Try.prog 12 #[.agg #[.int .u16 P, .int .i64 N]] w fun e w' => e = .returned (.bool true) ∧ Below w.heap.size w w' := fun w => by
    have := BitOk_i_any (P : Int) (N : Int) (by omega) (by omega) w
    rwa [show BitP.ok 16 (P : Int) (N : Int) = true from BitP.ok_of (by omega) hPN] at this
  have hli : ∀ w, Calls Try.prog 7 #[.agg #[.int .u16 P, .int .i64 N]] w fun e w' => ∃ g c, e = .returned (.slice (some ⟨g, 0, none⟩) N c) ∧ Own 4 w.heap.size w' g c ((BitP.bits P N).map Value.bool) ∧ Below w.heap.size w w' := fun w => by
    refine (BitList_i_any (P : Int) (N : Int) (by omega) (by omega) w).mono ?_
    rintro e w' ⟨B', N', hg', _, _, g, c, he, ho, hb⟩
    obtain ⟨rfl, rfl⟩ : B' = P ∧ N' = N := by have h := hg'.trans hgp; exact ⟨congrArg Prod.fst h, congrArg Prod.snd h⟩
    exact ⟨g, c, he, ho, hb⟩
  have hll : (BitP.bits B N).length = N := BitP.bits_length _ _
  rw [hll] at hlist
  have s1 := Box.new w1 #[.int .u16 b, .int .i64 m] 25
  have hB1' : Below w.heap.size w (w1.alloc (.cells #[.int .u16 b, .int .i64 m] 25)) := hB1.alloc hB1.size _
  have l1 := hB1.size
  have HV := Lib.hid (And.intro hB (And.intro hP (And.intro hq hll)))
  clear hB1 hB hP hq hll hg hgp huniq hb0 hb1 hPN hP16
  go_wp2_with fail
  refine (hlist _).mono ?_
  rintro e w2 ⟨g, cc, rfl, o2, hb2⟩
  have s2 := s1.kept hb2
  have hB2 := bel_step hB1' hb2 hB1'.size
  have l2 := s2.lt
  have lg := o2.lt
  have c0 : w2.cell? ⟨w1.heap.size, 0, none⟩ = some (.int .u16 b) := s2.cell 0
  have c1 : w2.cell? ⟨w1.heap.size, 1, none⟩ = some (.int .i64 m) := s2.cell 1
  clear hb2 s1 hB1' hlist
  go_wp2_with fail
  refine (htn _).mono ?_
  rintro e w3 ⟨rfl, hb3⟩
  have s3 := (s2.kept hb3).alloc (.cells #[.int .u16 P, .int .i64 N] 25)
  have o3 := (o2.kept hb3).alloc (.cells #[.int .u16 P, .int .i64 N] 25)
  have x3 := Box.new w3 #[.int .u16 P, .int .i64 N] 25
  have hB3 := bel_step hB2 hb3 hB2.size
  have hB3' : Below w.heap.size w (w3.alloc (.cells #[.int .u16 P, .int .i64 N] 25)) := hB3.alloc hB3.size _
  have l3 : w1.heap.size < w3.heap.size := Nat.lt_of_lt_of_le l2 hb3.size
  have lg3 : g < w3.heap.size := Nat.lt_of_lt_of_le lg.2 hb3.size
  clear c0 c1
  have hc0 := (s2.kept hb3).cell 0
  have hc1 := (s2.kept hb3).cell 1
  simp at hc0 hc1
  clear hb3 s2 o2 hB2 hB3 htn
  go_wp2_with fail
  refine (hpop _).mono ?_
  rintro e w4 ⟨D, E, rfl, hb4⟩
  have s4 := s3.kept hb4
  have o4 := o3.kept hb4
  have x4 := x3.kept hb4
  have hB4 := bel_step hB3' hb4 hB3'.size
  have l4 := x4.lt
  have l41 := s4.lt
  have s5 := s4.alloc (.cells #[.int .u16 D, .int .i64 E] 25)
  have o5 := o4.alloc (.cells #[.int .u16 D, .int .i64 E] 25)
  have x5 := x4.alloc (.cells #[.int .u16 D, .int .i64 E] 25)
  have hB5 : Below w.heap.size w (w4.alloc (.cells #[.int .u16 D, .int .i64 E] 25)) := hB4.alloc hB4.size _
  have c0 : w4.cell? ⟨w1.heap.size, 0, none⟩ = some (.int .u16 b) := s4.cell 0
  have c1 : w4.cell? ⟨w1.heap.size, 1, none⟩ = some (.int .i64 m) := s4.cell 1
  clear hb4 s3 o3 x3 hB3' hB4 hpop hc0 hc1 s4 o4 x4
  go_wp2_with fail
  refine (htop _).mono ?_
  rintro e w6 ⟨rfl, hb6⟩
  have o6 := o5.kept hb6
  have x6 := x5.kept hb6
  have hB6 := bel_step hB5 hb6 hB5.size
  have d0 : w6.cell? ⟨w3.heap.size, 0, none⟩ = some (.int .u16 P) := x6.cell 0
  have d1 : w6.cell? ⟨w3.heap.size, 1, none⟩ = some (.int .i64 N) := x6.cell 1
  clear hb6 s5 o5 x5 hB5 c0 c1 htop
  go_wp2_with fail
  refine (hok _).mono ?_
  rintro e w7 ⟨rfl, hb7⟩
  have o7 := o6.kept hb7
  have x7 := x6.kept hb7
  have hB7 := bel_step hB6 hb7 hB6.size
  clear hb7 o6 x6 hB6 d0 d1 hok
  cases N with
  | zero =>
    obtain ⟨hB, hP, hq, hll⟩ := HV.out
    obtain rfl : P = 0 := by rw [hP]; rfl
    obtain rfl : B = 0 := by omega
    obtain rfl : q = false := by rw [hq]; rfl
    have d0 : w7.cell? ⟨w3.heap.size, 0, none⟩ = some (.int .u16 0) := x7.cell 0
    have d1 : w7.cell? ⟨w3.heap.size, 1, none⟩ = some (.int .i64 0) := x7.cell 1
    clear hB hP hq hll HV o7 x7 hli
    go_wp2
    go_ret
    exact ⟨rfl, hB7⟩
  | succ M =>
    obtain ⟨hB, hP, hq, hll⟩ := HV.out
    rw [if_neg (by omega)] at hP
    have hbits : BitP.bits P (M + 1) = BitP.bits (B / 2) M ++ [x] := by
      rw [BitP.bits_succ, hP]
      have e1 : (B - B % 2 + x.toNat) / 2 = B / 2 := by omega
      have e2 : ((B - B % 2 + x.toNat) % 2 == 1) = x := by
        have h3 : (B - B % 2 + x.toNat) % 2 = x.toNat := by omega
        rw [h3]; cases x <;> rfl
      rw [e1, e2]
    have hc : w7.cell? ⟨g, M, none⟩ = some (.bool q) := by
      have := o7.bits M (by rw [hll]; omega)
      rw [this, BitP.bits_getElem, hq]
      simp
    have hf : w7.frozen? ⟨g, M, none⟩ = false := o7.free M
    have hset : Own 4 0 (w7.setCell ⟨g, M, none⟩ (.bool x)) g cc ((BitP.bits P (M + 1)).map Value.bool) := by
      have h2 := o7.set M (.bool x)
      rw [BitP.bits_succ, List.map_append] at h2
      have e : (((BitP.bits (B / 2) M).map Value.bool ++ [B % 2 == 1].map Value.bool).set M (.bool x)) = (BitP.bits P (M + 1)).map Value.bool := by
        rw [hbits, List.set_append_right _ _ (by simp [BitP.bits_length]), List.map_append]
        simp [BitP.bits_length]
      rw [e] at h2
      exact h2.mono (Nat.zero_le _)
    have x8 := x7.far (p := ⟨g, M, none⟩) (by simp; omega) (.bool x)
    have hB8 := hB7.setCell (p := ⟨g, M, none⟩) (by have hlg := lg.1; simp at hlg ⊢; omega) (.bool x)
    have d0 : w7.cell? ⟨w3.heap.size, 0, none⟩ = some (.int .u16 P) := x7.cell 0
    have d1 : w7.cell? ⟨w3.heap.size, 1, none⟩ = some (.int .i64 ((M : Int) + 1)) := x7.cell 1
    have dw : IntKind.i64.wrap (M : Int) = (M : Int) := IntWalk.i64_in _ (by omega)
    have dm1 : (M : Int) < (M : Int) + 1 := by omega
    have dm0 : (0 : Int) ≤ (M : Int) := by omega
    have hl17 : (BitP.bits P (M + 1)).length ≤ 1000000 := by rw [BitP.bits_length]; omega
    have hsz : (M + 1) = (BitP.bits P (M + 1)).length := by rw [BitP.bits_length]
    have lg7 := o7.lt.2
    have HS := Lib.hid (And.intro hset (And.intro x8 (And.intro hB8 (And.intro hl17 hsz))))
    clear hB hP hq hll HV o7 x7 hbits hset x8 hB8 hB7 hl17 hsz
    go_wp2_with fail
    refine (hli _).mono ?_
    rintro e w9 ⟨g2, c2, rfl, o9, hb9⟩
    have o9' := HS.out.1.kept hb9
    have hB9 := bel_step HS.out.2.2.1 hb9 HS.out.2.2.1.size
    clear hb9 hli hc hf d0 d1
    go_wp2_with fail
    refine (wbSame_same (BitP.bits P (M + 1)) (M + 1) g2 c2 g cc _ _ HS.out.2.2.2.2 HS.out.2.2.2.1 w9 o9 o9').mono ?_
    rintro e wa ⟨rfl, hba⟩
    have hBa := bel_step hB9 hba hB9.size
    clear hba hB9 o9 o9' HS
    go_wp2
    go_ret
    exact ⟨rfl, hBa⟩
theorem FnBitTurn_great (AA : Option Addr) (n c : Nat) (hn : 1048576 < n) (w : World) : Calls Try.prog 4 #[.slice AA n c] w fun e w' => e = .returned (.bool true) ∧ Below w.heap.size w w' := by
  have hd : decide ((1048576 : Int) < (n : Int)) = true := by simp; omega
  go_enter Try.func4, Try.ntmps4
  go_wp2
  go_ret
  exact ⟨rfl, Below.refl _ _⟩
theorem FnBitTurn_walk (a0 : Option Addr) (len0 cap0 : Nat) (z0 : List Int) (w : World) (w0 : IsRow .u8 w a0 len0 cap0 z0) : Calls Try.prog 4 #[.slice a0 len0 cap0] w fun e w' => e = .returned (.bool true) ∧ Below w.heap.size w w' := by
  by_cases hn : len0 ≤ 1048576
  · exact FnBitTurn_some a0 len0 cap0 w (isCode_of w0) hn
  · exact FnBitTurn_great a0 len0 cap0 (by omega) w
end Go.Proofs.Ytblpidkkfhgjjaa
