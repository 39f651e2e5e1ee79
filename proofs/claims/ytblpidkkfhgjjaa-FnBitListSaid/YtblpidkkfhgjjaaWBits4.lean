/- The reference's push, pop, top, turn. -/
import Derived.Test.YtblpidkkfhgjjaaRows
import Derived.Test.YtblpidkkfhgjjaaWBits3
import Derived.WalkKit
import Derived.WalkSpells
import Derived.WalkLawsBesides
import Derived.OpenShut
import Derived.Deep.QuietTactic
import Derived.BigQuiet
import Derived.Deep.RegionHeld3
import Derived.Deep.RegionLaw
import Derived.Deep.AppendLies
import Derived.Deep.Onto
import Derived.OwnWalk
import Derived.IntWalk
import Derived.Laws.OwnMore
import Derived.StillTailTactics
import Derived.StillTactics
import Derived.Laws.BitsAllLaws
import Derived.Lib.Hide
namespace Go.Proofs.Ytblpidkkfhgjjaa
open Go.RowKit Bx
set_option linter.unusedVariables false

theorem l1Stack_n (l : List Bool) (m g c base : Nat) (w : World) (hm : m = l.length) (h16 : l.length ≤ 17) (hown : Own 4 base w g c (l.map Value.bool)) :
    Calls Try.prog 37 #[.slice (some ⟨g, 0, none⟩) m c] w fun e w' => e = .returned (.agg #[.int .u16 (BitP.num (BitP.last 16 l)), .int .i64 ((min 16 l.length : Nat) : Int)]) ∧ Below w.heap.size w w' := by
  subst hm
  exact l1Stack_any l g c w hown.lt.2 (by have := hown.len; simp at this; omega) (by omega) fun i hi => hown.bits i hi
theorem good_bounds {b n : Int} (h0 : 0 ≤ b) : (BitP.good 16 b n).1 < 2 ^ (BitP.good 16 b n).2 ∧ (BitP.good 16 b n).2 ≤ 16 := by
  by_cases hok : BitP.ok 16 b n = true
  · obtain ⟨B, N, rfl, rfl, hN, hB⟩ := BitP.ok_nat hok h0
    simp [BitP.good, hok]; omega
  · simp [BitP.good, hok]
set_option maxRecDepth 100000 in
set_option maxHeartbeats 400000 in
theorem BitPush_s_any (b n : Int) (x : Bool) (h0 : 0 ≤ b) (h1 : b < 65536) (w : World) : Calls Try.prog 34 #[.agg #[.int .u16 b, .int .i64 n], .bool x] w fun e w' => ∃ B N : Nat, (B, N) = BitP.good 16 b n ∧ B < 2 ^ N ∧ N ≤ 16 ∧ e = .returned (.agg #[.int .u16 (((B * 2 + x.toNat) % 65536 : Nat) : Int), .int .i64 ((min (N + 1) 16 : Nat) : Int)]) ∧ Below w.heap.size w w' := by
  obtain ⟨i0, hi0, hz0, hz1, hz2⟩ := info_parts infoB
  go_enter Try.func34, Try.ntmps34
  go_wp2_with fail
  refine (sBitList_any b n h0 h1 _).mono ?_
  rintro e w1 ⟨g, c, rfl, hown, hb1⟩
  obtain ⟨hB, hN⟩ := good_bounds (n := n) h0
  obtain ⟨B, hBe⟩ : ∃ B, B = (BitP.good 16 b n).1 := ⟨_, rfl⟩
  obtain ⟨N, hNe⟩ : ∃ N, N = (BitP.good 16 b n).2 := ⟨_, rfl⟩
  rw [← hBe, ← hNe] at hown hB
  rw [← hNe] at hN
  rw [← hBe, ← hNe]
  have r1 := (Box.new (w.alloc (.cells #[.int .u16 b, .int .i64 n] 25)) #[.int .u16 0, .int .i64 0] 25).kept hb1
  have hBel : Below w.heap.size w w1 := bel_step (((Below.refl _ _).alloc (Nat.le_refl _) _).alloc (by simp) _) hb1 (by simp; omega)
  have hs : w.heap.size + 1 < w1.heap.size := by have := hb1.size; simp at this; omega
  rw [BitP.bits_length]
  have hrow := hown.row (n := N) (by simp [BitP.bits_length])
  have hgl := hown.lt.1
  have HG := Lib.hid (And.intro hBe (And.intro hNe hB))
  have HO := Lib.hid hown
  simp at hgl
  clear hb1 hBe hNe hB hown
  go_wp2_with (first | (at_builtin; refine wpList_append_lies _ rfl _ _ 28 rfl _ 4 i0 (.bool false) 1 1 Try.underlying28 hi0 hz0 hz1 hz2 rfl (by decide) (.slice (some ⟨g, 0, none⟩) N c) N _ rfl (hrow.alloc _) ⟨w1.heap.size, 0, none⟩ 1 1 [.bool x] (by rfl) (by rfl) (World.news_of_block (cs := #[.bool x]) (t := 4) (fr := (0, 0)) (heap_alloc_new w1 _)) (by simp [Value.oneCell']) (by omega) (by unfold maxLen; omega) (by omega) (by simp; omega) (w1.heap.size + 1) (by simp) ?_; intro gg cap w2 hown2 hgrow hat hlt2))
  have hown3 : Own 4 _ w2 gg cap ((BitP.bits B N ++ [x]).map Value.bool) := Own.of (by rw [List.map_append]; exact hown2) (by simp [BitP.bits_length])
  refine (l1Stack_n (BitP.bits B N ++ [x]) (N + 1) gg cap _ w2 (by simp [BitP.bits_length]) (by simp [BitP.bits_length]; omega) hown3).mono ?_
  rintro e w3 ⟨rfl, hb3⟩
  have r2 := (Own.box_grown (r1.alloc _) hgrow (by simp [Value.ownBlock]; omega)).kept hb3
  have hBel2 : Below w.heap.size w w2 := below_grown (hBel.alloc (by omega) _) hgrow (by intro k hk; simp [Value.ownBlock] at hk; omega) (Nat.le_refl _)
  have hBel3 := bel_step hBel2 hb3 hBel2.size
  have e0 : w3.cell? ⟨w.heap.size + 1, 0, none⟩ = some (.int .u16 0) := by have := r2.cell 0; simpa using this
  have e1 : w3.cell? ⟨w.heap.size + 1, 1, none⟩ = some (.int .i64 0) := by have := r2.cell 1; simpa using this
  have f0 : w3.frozen? ⟨w.heap.size + 1, 0, none⟩ = false := by have := r2.free 0; simpa using this
  have f1 : w3.frozen? ⟨w.heap.size + 1, 1, none⟩ = false := by have := r2.free 1; simpa using this
  have hs3 : w.heap.size + 1 < w3.heap.size := by have := r2.lt; simpa using this
  obtain ⟨v1, v2⟩ := BitP.push_val x HG.out.2.2 hN
  rw [v1, v2]
  clear hown2 hown3 hgrow hrow r1 r2 hb3 hBel hBel2 v1 v2 hs
  go_wp2
  refine bodyPost_ret (v := .agg #[.int .u16 (((B * 2 + x.toNat) % 65536 : Nat) : Int), .int .i64 ((min (N + 1) 16 : Nat) : Int)]) (by simp [results, Try.results34, go_sem, e0, e1]) rfl ⟨B, N, by rw [HG.out.1, HG.out.2.1], HG.out.2.2, hN, rfl, ?_⟩
  repeat (first | exact hBel3 | refine Below.setCell ?_ (by first | (simp; done) | (simp; omega) | omega) _)
end Go.Proofs.Ytblpidkkfhgjjaa
