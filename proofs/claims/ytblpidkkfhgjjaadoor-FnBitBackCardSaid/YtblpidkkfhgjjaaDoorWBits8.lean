/- The program's list of bits. -/
import Derived.Test.YtblpidkkfhgjjaaDoorRows
import Derived.Test.YtblpidkkfhgjjaaDoorWBits4
import Derived.WalkKit
import Derived.WalkSpells
import Derived.WalkLawsBesides
import Derived.OpenShut
import Derived.Deep.QuietTactic
import Derived.BigQuiet
import Derived.Deep.RegionHeld3
import Derived.Deep.RegionLaw
import Derived.Deep.AppendLies
import Derived.OwnWalk
import Derived.IntWalk
import Derived.Lib.Hide
import Derived.Laws.BitsAllLaws
namespace Go.Proofs.YtblpidkkfhgjjaaDoor
open Go.RowKit Bx
set_option linter.unusedVariables false

theorem bit_shr (B j : Nat) (hB : B < 65536) : (bits .and .u16 ((B : Int) / 2 ^ j) 1 == 1) = (B / 2 ^ j % 2 == 1) := by
  have e : (B : Int) / 2 ^ j = ((B / 2 ^ j : Nat) : Int) := by rw [Int.natCast_ediv, Int.natCast_pow]; rfl
  have h1 : B / 2 ^ j ≤ B := Nat.div_le_self _ _
  rw [e, BitP.and1_u16 _ (by omega), Bool.eq_iff_iff, beq_iff_eq, beq_iff_eq]
  omega
set_option maxRecDepth 100000 in
set_option maxHeartbeats 400000 in
theorem BitList_i_any (b n : Int) (h0 : 0 ≤ b) (h1 : b < 65536) (w : World) : Calls Tryd.prog 20 #[.agg #[.int .u16 b, .int .i64 n]] w fun e w' => ∃ B N : Nat, (B, N) = BitP.good 16 b n ∧ B < 2 ^ N ∧ N ≤ 16 ∧ ∃ g c, e = .returned (.slice (some ⟨g, 0, none⟩) N c) ∧ Own 4 w.heap.size w' g c ((BitP.bits B N).map Value.bool) ∧ Below w.heap.size w w' := by
  obtain ⟨i0, hi0, hz0, hz1, hz2⟩ := info_parts infoB
  go_enter Tryd.func20, Tryd.ntmps20
  go_wp2_with fail
  refine (BitGood_any b n h0 h1 _).mono ?_
  rintro e w1 ⟨B, N, hg, hB, hN, rfl, hb1⟩
  have b1 := (Box.new w #[.int .u16 b, .int .i64 n] 24).kept hb1
  have c0 : w1.cell? ⟨w.heap.size, 0, none⟩ = some (.int .u16 b) := by have := b1.cell 0; simpa using this
  have c1 : w1.cell? ⟨w.heap.size, 1, none⟩ = some (.int .i64 n) := by have := b1.cell 1; simpa using this
  have k0 : w1.frozen? ⟨w.heap.size, 0, none⟩ = false := by have := b1.free 0; simpa using this
  have k1 : w1.frozen? ⟨w.heap.size, 1, none⟩ = false := by have := b1.free 1; simpa using this
  have hs : w.heap.size < w1.heap.size := b1.lt
  have hBel : Below w.heap.size w w1 := bel_step ((Below.refl _ _).alloc (Nat.le_refl _) _) hb1 (by simp)
  have b2 : Box ((w1.setCell ⟨w.heap.size, 0, none⟩ (.int .u16 B)).setCell ⟨w.heap.size, 1, none⟩ (.int .i64 N)) w.heap.size #[.int .u16 B, .int .i64 N] 24 := by simpa using (b1.set 0 (.int .u16 B)).set 1 (.int .i64 N)
  have hBel2 : Below w.heap.size w ((w1.setCell ⟨w.heap.size, 0, none⟩ (.int .u16 B)).setCell ⟨w.heap.size, 1, none⟩ (.int .i64 N)) := (hBel.setCell (by simp) _).setCell (by simp) _
  have ho := Own.made (t := 4) ((w1.setCell ⟨w.heap.size, 0, none⟩ (.int .u16 B)).setCell ⟨w.heap.size, 1, none⟩ (.int .i64 N)) #[] (w.heap.size + 1) (by simp; omega) (by decide)
  have HO := Lib.hid (And.intro (b2.alloc (.cells #[] 4)) (And.intro (hBel2.alloc (by simp; omega) (.cells #[] 4)) ho))
  have HG := Lib.hid (And.intro hg (And.intro hB hN))
  have hN16 := hN
  clear hb1 b1 hBel b2 hBel2 ho hg hB hN
  go_wp2_with fail
  clear c0 c1 k0 k1
  go_loopw [3, 4] (fun v i wr => ∃ (k g c : Nat) (x : Int), k ≤ N ∧ x = (N : Int) - 1 - (k : Int) ∧ v = .slice (some ⟨g, 0, none⟩) k c ∧ i = .int .i64 x ∧ Own 4 (w.heap.size + 1) wr g c (((BitP.bits B N).take k).map Value.bool) ∧ Box wr w.heap.size #[.int .u16 B, .int .i64 N] 24 ∧ Below w.heap.size w wr) (fun _ i _ => (intOf i + 1).toNat)
  case atStart => exact ⟨0, w1.heap.size, 0, (N : Int) - 1, by omega, by omega, by simp, by go_num, by simpa using HO.out.2.2, HO.out.1, HO.out.2.1⟩
  case round =>
    obtain ⟨k, g, c, x, hk, hx, rfl, rfl, hown, hbox, hbel⟩ := hrel
    clear hs
    by_cases hlt : k < N
    · obtain ⟨j, hj⟩ : ∃ j : Nat, j = N - 1 - k := ⟨_, rfl⟩
      obtain rfl : x = (j : Int) := by omega
      have hl : ((((BitP.bits B N).take k).map Value.bool).length) = k := by simp [BitP.bits_length]; omega
      have hown' := hown.row hl
      have hcell : wr.cell? ⟨w.heap.size, 0, none⟩ = some (.int .u16 B) := by have := hbox.cell 0; simpa using this
      have lt0 := hbox.lt
      have ltg := hown.lt.1
      have hj15 : j ≤ 15 := by omega
      have hB16 : B < 65536 := Nat.lt_of_lt_of_le HG.out.2.1 (pow16 hN16 (by decide))
      have HJ := Lib.hid hj
      have HX := Lib.hid hx
      have HK := Lib.hid hown
      clear hx hj hown
      go_wp2_with (first | (at_builtin; refine wpList_append_lies _ rfl _ _ 35 rfl _ 4 i0 (.bool false) 1 1 Tryd.underlying35 hi0 hz0 hz1 hz2 rfl (by decide) (.slice (some ⟨g, 0, none⟩) k c) k _ rfl (hown'.alloc _) ⟨wr.heap.size, 0, none⟩ 1 1 [_] (by rfl) (by rfl) (World.news_of_block (cs := #[_]) (t := 4) (fr := (0, 0)) (heap_alloc_new wr _)) (by simp [Value.oneCell']) (by omega) (by unfold maxLen; omega) (by omega) (by simp; omega) (wr.heap.size + 1) (by simp) ?_; intro gg cap w2 hown2 hgrow hat hlt2))
      have hbox2 : Box w2 w.heap.size #[.int .u16 B, .int .i64 N] 24 := Own.box_grown (hbox.alloc _) hgrow (by simp [Value.ownBlock]; omega)
      have hbel2 : Below w.heap.size w w2 := below_grown (hbel.alloc (Nat.le_of_lt lt0) _) hgrow (by intro k hk; simp [Value.ownBlock] at hk; omega) (Nat.le_refl _)
      have hown3 := own_snoc hlt (by rw [bit_shr B j hB16, HJ.out]) hown2
      clear hown' hbox hbel hown2 hgrow hcell hl
      go_wp2
      go_roundw
      case rel => exact ⟨k + 1, gg, cap, (j : Int) - 1, by omega, by have := HX.out; omega, rfl, by go_num, hown3, hbox2, hbel2⟩
      case measure => simp [intOf]
    · obtain rfl : k = N := by omega
      have d3 : decide (0 ≤ x) = false := by simp; omega
      have ht : (BitP.bits B k).take k = BitP.bits B k := List.take_of_length_le (by rw [BitP.bits_length]; exact Nat.le_refl _)
      rw [ht] at hown
      clear hx
      go_wp2
      go_ret
      exact ⟨B, k, HG.out.1, HG.out.2.1, HG.out.2.2, g, c, rfl, hown.mono (by omega), hbel⟩
end Go.Proofs.YtblpidkkfhgjjaaDoor
