/- The reference's push, pop, top, turn. -/
import Derived.Test.YtmgmjhbbjllleaaRows
import Derived.Test.YtmgmjhbbjllleaaWBits3
import Derived.WalkKit
import Derived.WalkSpells
import Derived.WalkLawsBesides
import Derived.OpenShut
import Derived.Deep.QuietTactic
import Derived.BigQuiet
import Derived.Deep.RegionHeld3
import Derived.Deep.RegionLaw
import Derived.Deep.AppendLies
import Derived.Deep.Onto
import Derived.OwnWalk
import Derived.IntWalk
import Derived.Laws.OwnMore
import Derived.StillTailTactics
import Derived.StillTactics
import Derived.Laws.BitsAllLaws
import Derived.Lib.Hide
namespace Go.Proofs.Ytmgmjhbbjllleaa
open Go.RowKit Bx
set_option linter.unusedVariables false

theorem l1Stack_n (l : List Bool) (m g c base : Nat) (w : World) (hm : m = l.length) (h16 : l.length ≤ 17) (hown : Own 4 base w g c (l.map Value.bool)) :
    Calls Try.prog 50 #[.slice (some ⟨g, 0, none⟩) m c] w fun e w' => e = .returned (.agg #[.int .u16 (BitP.num (BitP.last 16 l)), .int .i64 ((min 16 l.length : Nat) : Int)]) ∧ Below w.heap.size w w' := by
  subst hm
  exact l1Stack_any l g c w hown.lt.2 (by have := hown.len; simp at this; omega) (by omega) fun i hi => hown.bits i hi
theorem good_bounds {b n : Int} (h0 : 0 ≤ b) : (BitP.good 16 b n).1 < 2 ^ (BitP.good 16 b n).2 ∧ (BitP.good 16 b n).2 ≤ 16 := by
  by_cases hok : BitP.ok 16 b n = true
  · obtain ⟨B, N, rfl, rfl, hN, hB⟩ := BitP.ok_nat hok h0
    simp [BitP.good, hok]; omega
  · simp [BitP.good, hok]
set_option maxRecDepth 100000 in
set_option maxHeartbeats 400000 in
theorem BitPush_s_any (b n : Int) (x : Bool) (h0 : 0 ≤ b) (h1 : b < 65536) (w : World) : Calls Try.prog 31 #[.agg #[.int .u16 b, .int .i64 n], .bool x] w fun e w' => ∃ B N : Nat, (B, N) = BitP.good 16 b n ∧ B < 2 ^ N ∧ N ≤ 16 ∧ e = .returned (.agg #[.int .u16 (((B * 2 + x.toNat) % 65536 : Nat) : Int), .int .i64 ((min (N + 1) 16 : Nat) : Int)]) ∧ Below w.heap.size w w' := by
  obtain ⟨i0, hi0, hz0, hz1, hz2⟩ := info_parts infoB
  go_enter Try.func31, Try.ntmps31
  go_wp2_with fail
  refine (sBitList_any b n h0 h1 _).mono ?_
  rintro e w1 ⟨g, c, rfl, hown, hb1⟩
  obtain ⟨hB, hN⟩ := good_bounds (n := n) h0
  obtain ⟨B, hBe⟩ : ∃ B, B = (BitP.good 16 b n).1 := ⟨_, rfl⟩
  obtain ⟨N, hNe⟩ : ∃ N, N = (BitP.good 16 b n).2 := ⟨_, rfl⟩
  rw [← hBe, ← hNe] at hown hB
  rw [← hNe] at hN
  rw [← hBe, ← hNe]
  have r1 := (Box.new (w.alloc (.cells #[.int .u16 b, .int .i64 n] 26)) #[.int .u16 0, .int .i64 0] 26).kept hb1
  have hBel : Below w.heap.size w w1 := bel_step (((Below.refl _ _).alloc (Nat.le_refl _) _).alloc (by simp) _) hb1 (by simp; omega)
  have hs : w.heap.size + 1 < w1.heap.size := by have := hb1.size; simp at this; omega
  rw [BitP.bits_length]
  have hrow := hown.row (n := N) (by simp [BitP.bits_length])
  have hgl := hown.lt.1
  have HG := Lib.hid (And.intro hBe (And.intro hNe hB))
  have HO := Lib.hid hown
  simp at hgl
  clear hb1 hBe hNe hB hown
  go_wp2_with (first | (at_builtin; refine wpList_append_lies _ rfl _ _ 36 rfl _ 4 i0 (.bool false) 1 1 Try.underlying36 hi0 hz0 hz1 hz2 rfl (by decide) (.slice (some ⟨g, 0, none⟩) N c) N _ rfl (hrow.alloc _) ⟨w1.heap.size, 0, none⟩ 1 1 [.bool x] (by rfl) (by rfl) (World.news_of_block (cs := #[.bool x]) (t := 4) (fr := (0, 0)) (heap_alloc_new w1 _)) (by simp [Value.oneCell']) (by omega) (by unfold maxLen; omega) (by omega) (by simp; omega) (w1.heap.size + 1) (by simp) ?_; intro gg cap w2 hown2 hgrow hat hlt2))
  have hown3 : Own 4 _ w2 gg cap ((BitP.bits B N ++ [x]).map Value.bool) := Own.of (by rw [List.map_append]; exact hown2) (by simp [BitP.bits_length])
  refine (l1Stack_n (BitP.bits B N ++ [x]) (N + 1) gg cap _ w2 (by simp [BitP.bits_length]) (by simp [BitP.bits_length]; omega) hown3).mono ?_
  rintro e w3 ⟨rfl, hb3⟩
  have r2 := (Own.box_grown (r1.alloc _) hgrow (by simp [Value.ownBlock]; omega)).kept hb3
  have hBel2 : Below w.heap.size w w2 := below_grown (hBel.alloc (by omega) _) hgrow (by intro k hk; simp [Value.ownBlock] at hk; omega) (Nat.le_refl _)
  have hBel3 := bel_step hBel2 hb3 hBel2.size
  have e0 : w3.cell? ⟨w.heap.size + 1, 0, none⟩ = some (.int .u16 0) := by have := r2.cell 0; simpa using this
  have e1 : w3.cell? ⟨w.heap.size + 1, 1, none⟩ = some (.int .i64 0) := by have := r2.cell 1; simpa using this
  have f0 : w3.frozen? ⟨w.heap.size + 1, 0, none⟩ = false := by have := r2.free 0; simpa using this
  have f1 : w3.frozen? ⟨w.heap.size + 1, 1, none⟩ = false := by have := r2.free 1; simpa using this
  have hs3 : w.heap.size + 1 < w3.heap.size := by have := r2.lt; simpa using this
  obtain ⟨v1, v2⟩ := BitP.push_val x HG.out.2.2 hN
  rw [v1, v2]
  clear hown2 hown3 hgrow hrow r1 r2 hb3 hBel hBel2 v1 v2 hs
  go_wp2
  refine bodyPost_ret (v := .agg #[.int .u16 (((B * 2 + x.toNat) % 65536 : Nat) : Int), .int .i64 ((min (N + 1) 16 : Nat) : Int)]) (by simp [results, Try.results31, go_sem, e0, e1]) rfl ⟨B, N, by rw [HG.out.1, HG.out.2.1], HG.out.2.2, hN, rfl, ?_⟩
  repeat (first | exact hBel3 | refine Below.setCell ?_ (by first | (simp; done) | (simp; omega) | omega) _)
set_option maxRecDepth 100000 in
set_option maxHeartbeats 400000 in
theorem BitTop_s_any (b n : Int) (h0 : 0 ≤ b) (h1 : b < 65536) (w : World) : Calls Try.prog 21 #[.agg #[.int .u16 b, .int .i64 n]] w fun e w' => ∃ B N : Nat, (B, N) = BitP.good 16 b n ∧ B < 2 ^ N ∧ N ≤ 16 ∧ e = .returned (.bool (B % 2 == 1)) ∧ Below w.heap.size w w' := by
  obtain ⟨hB, hN⟩ := good_bounds (n := n) h0
  obtain ⟨B, hBe⟩ : ∃ B, B = (BitP.good 16 b n).1 := ⟨_, rfl⟩
  obtain ⟨N, hNe⟩ : ∃ N, N = (BitP.good 16 b n).2 := ⟨_, rfl⟩
  rw [← hBe, ← hNe] at hB
  rw [← hNe] at hN
  have hlist := fun w => sBitList_any b n h0 h1 w
  rw [← hBe, ← hNe] at hlist
  have HG := Lib.hid (show (B, N) = BitP.good 16 b n by rw [hBe, hNe])
  clear hBe hNe
  go_enter Try.func21, Try.ntmps21
  go_wp2_with fail
  refine (hlist _).mono ?_
  rintro e w1 ⟨g, c, rfl, hown, hb1⟩
  have hBel : Below w.heap.size w w1 := bel_step (((Below.refl _ _).alloc (Nat.le_refl _) _)) hb1 (by simp; try omega)
  have hgl := hown.lt
  simp at hgl
  clear hb1 hlist
  cases N with
  | zero =>
    have hB0 : B = 0 := by omega
    rw [BitP.bits_length]
    clear hB
    go_wp2
    go_ret
    exact ⟨B, 0, HG.out, by omega, hN, by rw [hB0]; rfl, hBel⟩
  | succ M =>
    have hl : (BitP.bits B (M + 1)).length = M + 1 := BitP.bits_length _ _
    have hc : w1.cell? ⟨g, M, none⟩ = some (.bool (B % 2 == 1)) := by
      have := hown.bits M (by rw [hl]; omega)
      rw [this, BitP.bits_getElem]
      simp
    rw [hl]
    have HB := Lib.hid hB
    obtain ⟨q, hq⟩ : ∃ q : Bool, q = (B % 2 == 1) := ⟨_, rfl⟩
    rw [← hq] at hc
    have HQ := Lib.hid hq
    have HO := Lib.hid hown
    clear hB hq hl hown
    go_wp2
    go_ret
    exact ⟨B, M + 1, HG.out, HB.out, hN, by rw [← HQ.out]; rfl, hBel⟩
set_option maxRecDepth 100000 in
set_option maxHeartbeats 400000 in
theorem BitPop_s_any (b n : Int) (h0 : 0 ≤ b) (h1 : b < 65536) (w : World) : Calls Try.prog 37 #[.agg #[.int .u16 b, .int .i64 n]] w fun e w' => ∃ B N : Nat, (B, N) = BitP.good 16 b n ∧ B < 2 ^ N ∧ N ≤ 16 ∧ e = .returned (.tuple #[.agg #[.int .u16 ((B / 2 : Nat) : Int), .int .i64 ((N - 1 : Nat) : Int)], .bool (B % 2 == 1)]) ∧ Below w.heap.size w w' := by
  obtain ⟨hB, hN⟩ := good_bounds (n := n) h0
  obtain ⟨B, hBe⟩ : ∃ B, B = (BitP.good 16 b n).1 := ⟨_, rfl⟩
  obtain ⟨N, hNe⟩ : ∃ N, N = (BitP.good 16 b n).2 := ⟨_, rfl⟩
  rw [← hBe, ← hNe] at hB
  rw [← hNe] at hN
  have hlist := fun w => sBitList_any b n h0 h1 w
  rw [← hBe, ← hNe] at hlist
  have HG := Lib.hid (show (B, N) = BitP.good 16 b n by rw [hBe, hNe])
  clear hBe hNe
  go_enter Try.func37, Try.ntmps37
  go_wp2_with fail
  refine (hlist _).mono ?_
  rintro e w1 ⟨g, c, rfl, hown, hb1⟩
  have hBel : Below w.heap.size w w1 := bel_step (((Below.refl _ _).alloc (Nat.le_refl _) _).alloc (by simp) _) hb1 (by simp; try omega)
  have r1 := (Box.new (w.alloc (.cells #[.int .u16 b, .int .i64 n] 26)) #[.int .u16 0, .int .i64 0] 26).kept hb1
  have hs : w.heap.size + 1 < w1.heap.size := by have := hb1.size; simp at this; omega
  have hgl := hown.lt
  simp at hgl
  clear hb1 hlist
  cases N with
  | zero =>
    have hB0 : B = 0 := by omega
    rw [BitP.bits_length]
    clear hB
    have e0 : w1.cell? ⟨w.heap.size + 1, 0, none⟩ = some (.int .u16 0) := by have := r1.cell 0; simpa using this
    have e1 : w1.cell? ⟨w.heap.size + 1, 1, none⟩ = some (.int .i64 0) := by have := r1.cell 1; simpa using this
    have f0 : w1.frozen? ⟨w.heap.size + 1, 0, none⟩ = false := by have := r1.free 0; simpa using this
    have f1 : w1.frozen? ⟨w.heap.size + 1, 1, none⟩ = false := by have := r1.free 1; simpa using this
    go_wp2
    refine bodyPost_ret (v := .tuple #[.agg #[.int .u16 0, .int .i64 0], .bool false]) (by simp [results, Try.results37, go_sem, e0, e1]) rfl ⟨B, 0, HG.out, by omega, hN, by rw [hB0]; rfl, ?_⟩
    repeat (first | exact hBel | refine Below.setCell ?_ (by first | (simp; done) | (simp; omega) | omega) _)
  | succ M =>
    have hl : (BitP.bits B (M + 1)).length = M + 1 := BitP.bits_length _ _
    have hc : w1.cell? ⟨g, M, none⟩ = some (.bool (B % 2 == 1)) := by
      have := hown.bits M (by rw [hl]; omega)
      rw [this, BitP.bits_getElem]
      simp
    rw [hl]
    obtain ⟨v1, v2⟩ := BitP.pop_val hB hN
    have hown2 : Own 4 (w.heap.size + 2) w1 g c ((BitP.bits (B / 2) M).map Value.bool) := by
      have h2 := hown
      rw [BitP.bits_succ, List.map_append] at h2
      exact Own.init (by simpa using h2)
    obtain ⟨q, hq⟩ : ∃ q : Bool, q = (B % 2 == 1) := ⟨_, rfl⟩
    rw [← hq] at hc
    have hst := fun (wd : World) (ho : Own 4 (w.heap.size + 2) wd g c ((BitP.bits (B / 2) M).map Value.bool)) => l1Stack_n (BitP.bits (B / 2) M) M g c _ wd (by rw [BitP.bits_length]) (by rw [BitP.bits_length]; omega) ho
    rw [v1, v2] at hst
    have hgm : M < c := by have := hown.len.1; simp [BitP.bits_length] at this; omega
    have dw : IntKind.i64.wrap (M : Int) = (M : Int) := IntWalk.i64_in _ (by omega)
    have dm : (M : Int) ≤ (c : Int) := by omega
    have dm1 : (M : Int) < (M : Int) + 1 := by omega
    have dm0 : (0 : Int) ≤ (M : Int) := by omega
    have hfacts : ∀ w3, Below w1.heap.size w1.drew w3 → w.heap.size + 1 < w3.heap.size ∧ w3.cell? ⟨w.heap.size + 1, 0, none⟩ = some (.int .u16 0) ∧ w3.cell? ⟨w.heap.size + 1, 1, none⟩ = some (.int .i64 0) ∧ w3.frozen? ⟨w.heap.size + 1, 0, none⟩ = false ∧ w3.frozen? ⟨w.heap.size + 1, 1, none⟩ = false ∧ Below w.heap.size w w3 ∧ w3.cell? ⟨g, M, none⟩ = some (.bool q) := fun w3 hb => by
      have r3 : Box w3 (w.heap.size + 1) #[.int .u16 0, .int .i64 0] 26 := by have := (r1.drew).below hb (by simp; omega); simpa using this
      exact ⟨r3.lt, by have := r3.cell 0; simpa using this, by have := r3.cell 1; simpa using this, r3.free 0, r3.free 1, bel_step hBel.drew hb hBel.size, (hb.cell (p := ⟨g, M, none⟩) hgl.2).trans hc⟩
    have HB := Lib.hid hB
    have HQ := Lib.hid hq
    have HO := Lib.hid hown
    have HO2 := Lib.hid hown2
    clear hB hq hl hown hown2 v1 v2
    go_wp2_with fail
    go_region_law (first | (go_simp; go_at_call 50; refine (hst _ HO2.out.drew).mono ?_; rintro e w3 ⟨rfl, hb3⟩; obtain ⟨hs3, e0, e1, f0, f1, hB3, hc3⟩ := hfacts w3 hb3; clear hb3))
    all_goals
      go_wp2
      have ev : (B : Int) / 2 = ((B / 2 : Nat) : Int) := by omega
      refine bodyPost_ret (v := .tuple #[.agg #[.int .u16 ((B : Int) / 2), .int .i64 (M : Int)], .bool q]) (by simp [results, Try.results37, go_sem, e0, e1]) rfl ⟨B, M + 1, HG.out, HB.out, hN, by rw [ev, HQ.out]; rfl, ?_⟩
      repeat (first | exact hB3 | refine Below.drew ?_ | refine Bx.bel_drewN ?_ _ | refine Below.setCell ?_ (by first | (simp; done) | (simp; omega) | omega) _)
set_option maxRecDepth 100000 in
set_option maxHeartbeats 400000 in
theorem BitTurn_s_any (b n : Int) (x : Bool) (h0 : 0 ≤ b) (h1 : b < 65536) (w : World) : Calls Try.prog 40 #[.agg #[.int .u16 b, .int .i64 n], .bool x] w fun e w' => ∃ B N : Nat, (B, N) = BitP.good 16 b n ∧ B < 2 ^ N ∧ N ≤ 16 ∧ e = .returned (if N = 0 then .agg #[.int .u16 0, .int .i64 0] else .agg #[.int .u16 ((B - B % 2 + x.toNat : Nat) : Int), .int .i64 N]) ∧ Below w.heap.size w w' := by
  obtain ⟨hB, hN⟩ := good_bounds (n := n) h0
  obtain ⟨B, hBe⟩ : ∃ B, B = (BitP.good 16 b n).1 := ⟨_, rfl⟩
  obtain ⟨N, hNe⟩ : ∃ N, N = (BitP.good 16 b n).2 := ⟨_, rfl⟩
  rw [← hBe, ← hNe] at hB
  rw [← hNe] at hN
  have hlist := fun w => sBitList_any b n h0 h1 w
  rw [← hBe, ← hNe] at hlist
  have HG := Lib.hid (show (B, N) = BitP.good 16 b n by rw [hBe, hNe])
  clear hBe hNe
  go_enter Try.func40, Try.ntmps40
  go_wp2_with fail
  refine (hlist _).mono ?_
  rintro e w1 ⟨g, c, rfl, hown, hb1⟩
  have hBel : Below w.heap.size w w1 := bel_step (((Below.refl _ _).alloc (Nat.le_refl _) _).alloc (by simp) _) hb1 (by simp; try omega)
  have r1 := (Box.new (w.alloc (.cells #[.int .u16 b, .int .i64 n] 26)) #[.int .u16 0, .int .i64 0] 26).kept hb1
  have hs : w.heap.size + 1 < w1.heap.size := by have := hb1.size; simp at this; omega
  have hgl := hown.lt
  simp at hgl
  clear hb1 hlist
  cases N with
  | zero =>
    rw [BitP.bits_length]
    have HB := Lib.hid hB
    clear hB
    have e0 : w1.cell? ⟨w.heap.size + 1, 0, none⟩ = some (.int .u16 0) := by have := r1.cell 0; simpa using this
    have e1 : w1.cell? ⟨w.heap.size + 1, 1, none⟩ = some (.int .i64 0) := by have := r1.cell 1; simpa using this
    have f0 : w1.frozen? ⟨w.heap.size + 1, 0, none⟩ = false := by have := r1.free 0; simpa using this
    have f1 : w1.frozen? ⟨w.heap.size + 1, 1, none⟩ = false := by have := r1.free 1; simpa using this
    go_wp2
    refine bodyPost_ret (v := .agg #[.int .u16 0, .int .i64 0]) (by simp [results, Try.results40, go_sem, e0, e1]) rfl ⟨B, 0, HG.out, HB.out, hN, by rw [if_pos rfl], ?_⟩
    repeat (first | exact hBel | refine Below.setCell ?_ (by first | (simp; done) | (simp; omega) | omega) _)
  | succ M =>
    have hl : (BitP.bits B (M + 1)).length = M + 1 := BitP.bits_length _ _
    have hc : w1.cell? ⟨g, M, none⟩ = some (.bool (B % 2 == 1)) := by
      have := hown.bits M (by rw [hl]; omega)
      rw [this, BitP.bits_getElem]
      simp
    have hf : w1.frozen? ⟨g, M, none⟩ = false := hown.free M
    rw [hl]
    obtain ⟨v1, v2⟩ := BitP.turn_val x hB hN
    have hown2 : Own 4 (w.heap.size + 2) (w1.setCell ⟨g, M, none⟩ (.bool x)) g c ((BitP.bits (B / 2) M ++ [x]).map Value.bool) := by
      have h2 := hown.set M (.bool x)
      rw [BitP.bits_succ, List.map_append] at h2
      have e : (((BitP.bits (B / 2) M).map Value.bool ++ [B % 2 == 1].map Value.bool).set M (.bool x)) = (BitP.bits (B / 2) M ++ [x]).map Value.bool := by
        rw [List.set_append_right _ _ (by simp [BitP.bits_length]), List.map_append]
        simp [BitP.bits_length]
      rw [e] at h2
      simpa using h2
    have hst := l1Stack_n (BitP.bits (B / 2) M ++ [x]) (M + 1) g c _ (w1.setCell ⟨g, M, none⟩ (.bool x)) (by simp [BitP.bits_length]) (by simp [BitP.bits_length]; omega) hown2
    rw [v1, v2] at hst
    have dw : IntKind.i64.wrap (M : Int) = (M : Int) := IntWalk.i64_in _ (by omega)
    have dm1 : (M : Int) < (M : Int) + 1 := by omega
    have dm0 : (0 : Int) ≤ (M : Int) := by omega
    have hfacts : ∀ w3, Below (w1.setCell ⟨g, M, none⟩ (.bool x)).heap.size (w1.setCell ⟨g, M, none⟩ (.bool x)) w3 → w.heap.size + 1 < w3.heap.size ∧ w3.cell? ⟨w.heap.size + 1, 0, none⟩ = some (.int .u16 0) ∧ w3.cell? ⟨w.heap.size + 1, 1, none⟩ = some (.int .i64 0) ∧ w3.frozen? ⟨w.heap.size + 1, 0, none⟩ = false ∧ w3.frozen? ⟨w.heap.size + 1, 1, none⟩ = false ∧ Below w.heap.size w w3 := fun w3 hb => by
      have r3 : Box w3 (w.heap.size + 1) #[.int .u16 0, .int .i64 0] 26 := by have := (r1.far (p := ⟨g, M, none⟩) (by simp; omega) (.bool x)).below hb (by simp; omega); simpa using this
      exact ⟨r3.lt, by have := r3.cell 0; simpa using this, by have := r3.cell 1; simpa using this, r3.free 0, r3.free 1, bel_step (hBel.setCell (by simp; omega) _) hb (by simp; exact hBel.size)⟩
    have HB := Lib.hid hB
    have HO := Lib.hid hown
    have HO2 := Lib.hid hown2
    clear hB hl hown hown2 v1 v2
    go_wp2_with fail
    refine hst.mono ?_
    rintro e w3 ⟨rfl, hb3⟩
    obtain ⟨hs3, e0, e1, f0, f1, hB3⟩ := hfacts w3 hb3
    clear hb3 hst hfacts hc hf
    go_wp2
    refine bodyPost_ret (v := .agg #[.int .u16 ((B - B % 2 + x.toNat : Nat) : Int), .int .i64 ((M + 1 : Nat) : Int)]) (by simp [results, Try.results40, go_sem, e0, e1]) rfl ⟨B, M + 1, HG.out, HB.out, hN, by rw [if_neg (by omega)], ?_⟩
    repeat (first | exact hB3 | refine Below.setCell ?_ (by first | (simp; done) | (simp; omega) | omega) _)
end Go.Proofs.Ytmgmjhbbjllleaa
