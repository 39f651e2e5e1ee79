/- The walk of FnExactBitList. -/
import Derived.Test.YtmgmjhbbjllleaaRows
import Derived.Test.YtmgmjhbbjllleaaWBits10
import Derived.WalkKit
import Derived.WalkSpells
import Derived.WalkLawsBesides
import Derived.OpenShut
import Derived.OwnWalk
import Derived.IntWalk
import Derived.Lib.Hide
namespace Go.Proofs.Ytmgmjhbbjllleaa
open Go.RowKit Bx Rdr
set_option linter.unusedVariables false

set_option maxRecDepth 100000 in
set_option maxHeartbeats 400000 in
theorem FnExactBitList_any (b n : Int) (h0 : 0 ≤ b) (h1 : b < 65536) (w : World) : Calls Try.prog 9 #[.agg #[.int .u16 b, .int .i64 n]] w fun e w' => e = .returned (.bool true) ∧ Below w.heap.size w w' := by
  obtain ⟨B, hBe⟩ : ∃ B, B = (BitP.good 16 b n).1 := ⟨_, rfl⟩
  obtain ⟨N, hNe⟩ : ∃ N, N = (BitP.good 16 b n).2 := ⟨_, rfl⟩
  obtain ⟨_, hN⟩ := good_bounds (n := n) h0
  rw [← hNe] at hN
  have hts := fun w => sBitList_any b n h0 h1 w
  rw [← hBe, ← hNe] at hts
  obtain ⟨l, hl⟩ : ∃ l, l = BitP.bits B N := ⟨_, rfl⟩
  have hln : N = l.length := by rw [hl, BitP.bits_length]
  have hls : l.length ≤ 1000000 := by omega
  rw [← hl, ← hln] at hts
  have hti : ∀ w, Calls Try.prog 30 #[.agg #[.int .u16 b, .int .i64 n]] w fun e w' => ∃ g c, e = .returned (.slice (some ⟨g, 0, none⟩) N c) ∧ Own 4 w.heap.size w' g c (l.map Value.bool) ∧ Below w.heap.size w w' := fun w => by
    refine (BitList_i_any b n h0 h1 w).mono ?_
    rintro e w' ⟨B', N', hg, _, _, g, c, he, ho, hb⟩
    obtain ⟨rfl, rfl⟩ : B' = B ∧ N' = N := by rw [hBe, hNe, ← hg]; exact ⟨rfl, rfl⟩
    exact ⟨g, c, he, by rw [hl]; exact ho, hb⟩
  have HL := Lib.hid (And.intro hln hls)
  clear hBe hNe hl hln hls
  go_enter Try.func9, Try.ntmps9
  go_wp2_with fail
  refine (toBitStack_any b n _).mono ?_
  rintro e w1 ⟨rfl, hb1⟩
  have b1 := (Box.new w #[.int .u16 b, .int .i64 n] 24).kept hb1
  have hB1 : Below w.heap.size w w1 := bel_step ((Below.refl _ _).alloc (Nat.le_refl _) _) hb1 (by simp)
  clear hb1
  go_wp2_with fail
  refine (hts _).mono ?_
  rintro e w2 ⟨g1, q1, rfl, o1, hb2⟩
  have b2 := b1.kept hb2
  have hB2 := bel_step hB1 hb2 hB1.size
  have l1 := o1.lt
  have c0 : w2.cell? ⟨w.heap.size, 0, none⟩ = some (.int .u16 b) := by have := b2.cell 0; simpa using this
  have c1 : w2.cell? ⟨w.heap.size, 1, none⟩ = some (.int .i64 n) := by have := b2.cell 1; simpa using this
  clear hb2 hB1 b1 hts
  go_wp2_with fail
  refine (toBitStack_any b n _).mono ?_
  rintro e w3 ⟨rfl, hb3⟩
  have b3 := b2.kept hb3
  have o13 := o1.kept hb3
  have hB3 := bel_step hB2 hb3 hB2.size
  have l3 := hb3.size
  clear hb3 hB2 c0 c1 b2 o1
  go_wp2_with fail
  refine (hti _).mono ?_
  rintro e w4 ⟨g2, q2, rfl, o2, hb4⟩
  have b4 := b3.kept hb4
  have o14 := o13.kept hb4
  have hB4 := bel_step hB3 hb4 hB3.size
  have l2 := o2.lt
  have ls3 := hB3.size
  have lt3 := b3.lt
  clear hb4 hB3 b3 o13
  go_wp2_with fail
  refine (eqBoolS_same l N g2 q2 g1 q1 _ _ HL.out.1 HL.out.2 _ o2 o14).mono ?_
  rintro e w5 ⟨rfl, hb5⟩
  have b5 := b4.kept hb5
  have o15 := o14.kept hb5
  have o25 := o2.kept hb5
  have hB5 := bel_step hB4 hb5 hB4.size
  clear hb5 hB4 b4 o14 o2
  have hmk := mark_any l N g2 q2 _ 1 HL.out.1 HL.out.2 (by omega) w5 o25
  go_wp2_with fail
  refine hmk.mono ?_
  rintro e w6 ⟨rfl, o26, hy⟩
  have b6 : Box w6 w.heap.size #[.int .u16 b, .int .i64 n] 24 := Own.box_grown b5 hy (show some w.heap.size ≠ some g2 by simp; omega)
  have o16 : Own 4 _ w6 g1 q1 (l.map Value.bool) := o15.same (hy.block g1 o15.lt.2 (show some g1 ≠ some g2 by simp; omega))
  have hB6 := Only.below hB5 hy hB5.size (by omega)
  clear hy hB5 b5 o15 o25 hmk
  obtain ⟨M, hM⟩ : ∃ M : Int, M = ((1 + N : Nat) : Int) := ⟨_, rfl⟩
  rw [← hM]
  have hhd := fun w h => held_any N g2 q2 w3.heap.size 1 (by omega) (by omega) w h
  rw [← hM] at hhd
  have hM0 : decide (M < 0) = false := by simp; omega
  have HM := Lib.hid hM
  clear hM
  go_wp2_with fail
  refine (hhd _ o26).mono ?_
  rintro e w7 ⟨rfl, rfl⟩
  have c0 : w6.cell? ⟨w.heap.size, 0, none⟩ = some (.int .u16 b) := by have := b6.cell 0; simpa using this
  have c1 : w6.cell? ⟨w.heap.size, 1, none⟩ = some (.int .i64 n) := by have := b6.cell 1; simpa using this
  go_wp2_with fail
  refine (toBitStack_any b n _).mono ?_
  rintro e w8 ⟨rfl, hb8⟩
  have o18 := o16.kept hb8
  have o28 := o26.kept hb8
  have hB8 := bel_step hB6 hb8 hB6.size
  clear hb8 hB6 o16 o26 c0 c1 b6
  go_wp2_with fail
  refine (hti _).mono ?_
  rintro e w9 ⟨g3, q3, rfl, o3, hb9⟩
  have o19 := o18.kept hb9
  have o29 := o28.kept hb9
  have hB9 := bel_step hB8 hb9 hB8.size
  clear hb9 hB8 o18 o28 hti
  go_wp2_with fail
  refine (eqBoolS_same l N g3 q3 g1 q1 _ _ HL.out.1 HL.out.2 _ o3 o19).mono ?_
  rintro e wa ⟨rfl, hba⟩
  have o2a := o29.kept hba
  have hBa := bel_step hB9 hba hB9.size
  clear hba hB9 o19 o29 o3
  go_wp2_with fail
  refine (hhd _ o2a).mono ?_
  rintro e wb ⟨rfl, rfl⟩
  clear hhd
  go_wp2
  go_ret
  exact ⟨rfl, hBa⟩
theorem FnExactBitList_walk (a00 : Int) (w00 : (Lit.int .u16 a00).wf = true) (a01 : Int) (w01 : (Lit.int .i64 a01).wf = true) (w : World) : Calls Try.prog 9 #[.agg #[.int .u16 a00, .int .i64 a01]] w fun e w' => e = .returned (.bool true) ∧ Below w.heap.size w w' := FnExactBitList_any a00 a01 (bounds_u16 w00).1 (by have := (bounds_u16 w00).2; omega) w
end Go.Proofs.Ytmgmjhbbjllleaa
