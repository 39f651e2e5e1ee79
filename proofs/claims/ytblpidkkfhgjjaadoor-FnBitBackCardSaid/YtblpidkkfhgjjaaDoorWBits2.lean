/- The reference's packed stacks: BitOk, l1Power, BitList, l1Stack. -/
import Derived.Test.YtblpidkkfhgjjaaDoorRows
import Derived.Test.YtblpidkkfhgjjaaDoorWBits
import Derived.WalkKit
import Derived.WalkSpells
import Derived.WalkLawsBesides
import Derived.OpenShut
import Derived.Deep.QuietTactic
import Derived.BigQuiet
import Derived.Deep.RegionHeld3
import Derived.Deep.AppendLies
import Derived.Deep.Onto
import Derived.OwnWalk
import Derived.IntWalk
import Derived.Laws.OwnMore
import Derived.StillTailTactics
import Derived.StillTactics
import Derived.Laws.BitsAllLaws
import Derived.Lib.Hide
namespace Go.Proofs.YtblpidkkfhgjjaaDoor
open Go.RowKit Bx
set_option linter.unusedVariables false

set_option maxRecDepth 100000 in
set_option maxHeartbeats 400000 in
theorem sBitOk_low (b n : Int) (h : n < 0) (w : World) : Calls Tryd.prog 11 #[.agg #[.int .u16 b, .int .i64 n]] w fun e w' => e = .returned (.bool false) ∧ Below w.heap.size w w' := by
  have d1 : decide (n < 0) = true := by simp; omega
  go_enter Tryd.func11, Tryd.ntmps11
  go_wp2
  go_ret
  exact ⟨rfl, by repeat (first | exact Below.refl _ _ | refine Below.alloc ?_ (by first | (simp; done) | (simp; omega) | omega) _ | refine Below.drew ?_ | refine Bx.bel_drewN ?_ _ | refine Below.setCell ?_ (by first | (simp; done) | (simp; omega) | omega) _)⟩
set_option maxRecDepth 100000 in
set_option maxHeartbeats 400000 in
theorem sBitOk_high (b n : Int) (h : 16 < n) (w : World) : Calls Tryd.prog 11 #[.agg #[.int .u16 b, .int .i64 n]] w fun e w' => e = .returned (.bool false) ∧ Below w.heap.size w w' := by
  have d1 : decide (n < 0) = false := by simp; omega
  have d2 : decide (16 < n) = true := by simp; omega
  go_enter Tryd.func11, Tryd.ntmps11
  go_wp2
  go_ret
  exact ⟨rfl, by repeat (first | exact Below.refl _ _ | refine Below.alloc ?_ (by first | (simp; done) | (simp; omega) | omega) _ | refine Below.drew ?_ | refine Bx.bel_drewN ?_ _ | refine Below.setCell ?_ (by first | (simp; done) | (simp; omega) | omega) _)⟩
theorem pow16 {k m M : Nat} (h : k ≤ m) (hM : 2 ^ m ≤ M) : 2 ^ k ≤ M := Nat.le_trans (Nat.pow_le_pow_right (by omega) h) hM
set_option maxRecDepth 100000 in
set_option maxHeartbeats 400000 in
theorem sBitOk_mid (b : Int) (n q : Nat) (h0 : 0 ≤ b) (h1 : b < 65536) (h : n ≤ 16) (hq : q = 2 ^ n) (w : World) : Calls Tryd.prog 11 #[.agg #[.int .u16 b, .int .i64 n]] w fun e w' => e = .returned (.bool (decide (b < (q : Int)))) ∧ Below w.heap.size w w' := by
  have d1 : decide ((n : Int) < 0) = false := by simp
  have d2 : decide (16 < (n : Int)) = false := by simp; omega
  go_enter Tryd.func11, Tryd.ntmps11
  go_wp2_with fail
  have HQ := Lib.hid hq
  clear hq
  go_loop [3, 4] (fun r i => ∃ k p : Nat, k ≤ n ∧ p = 2 ^ k ∧ r = .int .i64 p ∧ i = .int .i64 k) (fun _ i => n - (intOf i).toNat)
  case atStart => exact ⟨0, 1, by omega, rfl, rfl, rfl⟩
  case round =>
    obtain ⟨k, p, hk, hp, rfl, rfl⟩ := hrel
    have hp2 : p ≤ 65536 := by rw [hp]; exact pow16 (Nat.le_trans hk h) (by decide)
    have HP := Lib.hid hp
    clear hp
    by_cases hlt : k < n
    · go_wp2
      go_round
      case rel => exact ⟨k + 1, p * 2, by omega, by rw [HP.out, Nat.pow_succ], by go_num, by go_num⟩
      case measure => simp [intOf]; omega
    · go_wp2
      go_ret
      obtain rfl : k = n := by omega
      obtain rfl : p = q := HP.out.trans HQ.out.symm
      exact ⟨rfl, by repeat (first | exact Below.refl _ _ | refine Below.alloc ?_ (by first | (simp; done) | (simp; omega) | omega) _ | refine Below.drew ?_ | refine Bx.bel_drewN ?_ _ | refine Below.setCell ?_ (by first | (simp; done) | (simp; omega) | omega) _)⟩
theorem sBitOk_any (b n : Int) (h0 : 0 ≤ b) (h1 : b < 65536) (w : World) : Calls Tryd.prog 11 #[.agg #[.int .u16 b, .int .i64 n]] w fun e w' => e = .returned (.bool (BitP.ok 16 b n)) ∧ Below w.heap.size w w' := by
  by_cases hl : n < 0
  · rw [show BitP.ok 16 b n = false by unfold BitP.ok; rw [decide_eq_false (by omega)]; rfl]; exact sBitOk_low b n hl w
  by_cases hh : 16 < n
  · rw [show BitP.ok 16 b n = false by unfold BitP.ok; rw [decide_eq_false (p := n ≤ 16) (by omega), Bool.and_false]; rfl]; exact sBitOk_high b n hh w
  · obtain ⟨m, rfl⟩ := Int.eq_ofNat_of_zero_le (show 0 ≤ n by omega)
    rw [show BitP.ok 16 b (m : Int) = decide (b < ((2 ^ m : Nat) : Int)) from BitP.ok_mid h0 (by omega)]
    exact sBitOk_mid b m _ h0 h1 (by omega) rfl w
set_option maxRecDepth 100000 in
set_option maxHeartbeats 400000 in
theorem l1Power_any (n q : Nat) (h : n ≤ 15) (hq : q = 2 ^ n) (w : World) : Calls Tryd.prog 36 #[.int .i64 n] w fun e w' => e = .returned (.int .u16 q) ∧ w = w' := by
  have HQ := Lib.hid hq
  clear hq
  go_enter Tryd.func36, Tryd.ntmps36
  go_wp2_with fail
  go_loop [3, 4] (fun r i => ∃ k p : Nat, k ≤ n ∧ p = 2 ^ k ∧ r = .int .u16 p ∧ i = .int .i64 k) (fun _ i => n - (intOf i).toNat)
  case atStart => exact ⟨0, 1, by omega, rfl, rfl, rfl⟩
  case round =>
    obtain ⟨k, p, hk, hp, rfl, rfl⟩ := hrel
    by_cases hlt : k < n
    · have hp2 : p ≤ 16384 := by rw [hp]; exact pow16 (show k ≤ 14 by omega) (by decide)
      have hw : IntKind.u16.wrap ((p : Int) * 2) = (p : Int) * 2 := by unfold IntKind.wrap IntKind.bits IntKind.signed; simp; omega
      have HP := Lib.hid hp
      clear hp
      go_wp2
      go_round
      case rel => exact ⟨k + 1, p * 2, by omega, by rw [HP.out, Nat.pow_succ], by go_num, by go_num⟩
      case measure => simp [intOf]; omega
    · have HP := Lib.hid hp
      clear hp
      go_wp2
      go_ret
      obtain rfl : k = n := by omega
      obtain rfl : p = q := HP.out.trans HQ.out.symm
      exact ⟨rfl, rfl⟩

theorem l1Power_int (n : Nat) (q : Int) (h : n ≤ 15) (hq : q = ((2 ^ n : Nat) : Int)) (w : World) : Calls Tryd.prog 36 #[.int .i64 n] w fun e w' => e = .returned (.int .u16 q) ∧ w = w' := by
  subst hq; exact l1Power_any n _ h rfl w
theorem bit_at (b j : Nat) (hb : b < 65536) {p : Int} (hp : p = ((2 ^ j : Nat) : Int)) : ((IntKind.u16.wrap ((b : Int) / p)).tmod 2 == 1) = (b / 2 ^ j % 2 == 1) := by
  subst hp
  rw [← Int.natCast_ediv]
  have h1 : b / 2 ^ j ≤ b := Nat.div_le_self _ _
  generalize b / 2 ^ j = x at h1 ⊢
  have hw : IntKind.u16.wrap (x : Int) = (x : Int) := by unfold IntKind.wrap IntKind.bits IntKind.signed; simp; omega
  rw [hw, Bool.eq_iff_iff, beq_iff_eq, beq_iff_eq, Int.tmod_eq_emod_of_nonneg (by omega)]
  omega
theorem own_snoc {w : World} {base g c b n k : Nat} {x : Bool} (hk : k < n) (hx : x = (b / 2 ^ (n - 1 - k) % 2 == 1)) (h : w.ownsRow base 4 1 (.slice (some ⟨g, 0, none⟩) (k + 1) c) (k + 1) (((BitP.bits b n).take k).map Value.bool ++ [.bool x])) :
    Own 4 base w g c (((BitP.bits b n).take (k + 1)).map Value.bool) := by
  have e : ((BitP.bits b n).take (k + 1)).map Value.bool = ((BitP.bits b n).take k).map Value.bool ++ [.bool x] := by rw [BitP.bits_take _ _ _ hk, List.map_append, hx]; rfl
  have hl : (((BitP.bits b n).take (k + 1)).map Value.bool).length = k + 1 := by simp [BitP.bits_length]; omega
  unfold Own
  rw [hl, e]; exact h
theorem infoB : (Tryd.prog.info? 4).map (fun i => (i.zero, i.size, i.bytes)) = some (some (.bool false), 1, 1) := by kernel_rfl
set_option maxRecDepth 100000 in
set_option maxHeartbeats 400000 in
theorem sBitList_no (b n : Int) (h0 : 0 ≤ b) (h1 : b < 65536) (hok : BitP.ok 16 b n = false) (w : World) : Calls Tryd.prog 21 #[.agg #[.int .u16 b, .int .i64 n]] w fun e w' => ∃ g c, e = .returned (.slice (some ⟨g, 0, none⟩) ([] : List Bool).length c) ∧ Own 4 w.heap.size w' g c (([] : List Bool).map Value.bool) ∧ Below w.heap.size w w' := by
  go_enter Tryd.func21, Tryd.ntmps21
  go_wp2_with fail
  refine (sBitOk_any b n h0 h1 _).mono ?_
  rintro e w1 ⟨rfl, hb1⟩
  go_wp2
  go_ret
  have ho := (Own.made (t := 4) (w.alloc (.cells #[.int .u16 b, .int .i64 n] 24)) #[] w.heap.size (by simp) (by decide)).kept hb1
  have hB : Below w.heap.size w w1 := bel_step (((Below.refl _ _).alloc (Nat.le_refl _) _).alloc (by simp) _) hb1 (by simp; omega)
  exact ⟨w.heap.size + 1, 0, rfl, by simpa using ho, hB⟩
set_option maxRecDepth 100000 in
set_option maxHeartbeats 400000 in
theorem sBitList_yes (b n : Nat) (hb : b < 65536) (hn : n ≤ 16) (hok : BitP.ok 16 (b : Int) (n : Int) = true) (w : World) : Calls Tryd.prog 21 #[.agg #[.int .u16 b, .int .i64 n]] w fun e w' => ∃ g c, e = .returned (.slice (some ⟨g, 0, none⟩) (BitP.bits b n).length c) ∧ Own 4 w.heap.size w' g c ((BitP.bits b n).map Value.bool) ∧ Below w.heap.size w w' := by
  obtain ⟨i0, hi0, hz0, hz1, hz2⟩ := info_parts infoB
  go_enter Tryd.func21, Tryd.ntmps21
  go_wp2_with fail
  refine (sBitOk_any _ _ (by omega) (by omega) _).mono ?_
  rintro e w1 ⟨rfl, hb1⟩
  have ho := (Own.made (t := 4) (w.alloc (.cells #[.int .u16 b, .int .i64 n] 24)) #[] (w.heap.size + 1) (by simp) (by decide)).kept hb1
  have hbx := ((Box.new w #[.int .u16 b, .int .i64 n] 24).alloc (.cells #[] 4)).kept hb1
  have hB : Below w.heap.size w w1 := bel_step (((Below.refl _ _).alloc (Nat.le_refl _) _).alloc (by simp) _) hb1 (by simp; omega)
  have hs1 : w.heap.size + 1 < w1.heap.size := by have := hb1.size; simp at this; omega
  have c1 : w1.cell? ⟨w.heap.size, 1, none⟩ = some (.int .i64 n) := by have := hbx.cell 1; simpa using this
  clear hb1
  go_wp2_with fail
  clear c1
  go_loopw [3, 4] (fun v i wr => ∃ (k g c : Nat) (x : Int), k ≤ n ∧ x = (n : Int) - 1 - (k : Int) ∧ v = .slice (some ⟨g, 0, none⟩) k c ∧ i = .int .i64 x ∧ Own 4 (w.heap.size + 1) wr g c (((BitP.bits b n).take k).map Value.bool) ∧ Box wr w.heap.size #[.int .u16 b, .int .i64 n] 24 ∧ Below w.heap.size w wr) (fun _ i _ => (intOf i + 1).toNat)
  case atStart => exact ⟨0, w.heap.size + 1, 0, _, by omega, by omega, rfl, rfl, by simpa using ho, hbx, hB⟩
  case round =>
    obtain ⟨k, g, c, x, hk, hx, rfl, rfl, hown, hbox, hbel⟩ := hrel
    clear ho hbx hB hs1
    by_cases hlt : k < n
    · obtain ⟨j, hj⟩ : ∃ j : Nat, j = n - 1 - k := ⟨_, rfl⟩
      obtain rfl : x = (j : Int) := by omega
      obtain ⟨p, hp⟩ : ∃ p : Int, p = ((2 ^ j : Nat) : Int) := ⟨_, rfl⟩
      have hpw := fun w => l1Power_int j p (by omega) hp w
      have hp1 : 0 < p := by rw [hp]; exact Int.natCast_pos.2 (Nat.two_pow_pos j)
      have hp0 : (p == 0) = false := by simp; omega
      have hpz : ¬ p = 0 := by omega
      have lt0 := hbox.lt
      have ltg := hown.lt.1
      have hl : ((((BitP.bits b n).take k).map Value.bool).length) = k := by simp [BitP.bits_length]; omega
      have hown' := hown
      unfold Own at hown'
      rw [hl] at hown'
      have hcell : wr.cell? ⟨w.heap.size, 0, none⟩ = some (.int .u16 b) := by have := hbox.cell 0; simpa using this
      have hj15 : j ≤ 15 := by omega
      have HJ := Lib.hid hj
      have HX := Lib.hid hx
      have HP := Lib.hid hp
      clear hx hp hj
      go_wp2_with fail
      go_region_held3 (fun w' => w'.cell? ⟨w.heap.size, 0, none⟩ = some (.int .u16 b)) (first | go_keep | (rw [hgrow.cell_far _ (by simp; omega) (by simp [Value.ownBlock]; omega)]; assumption))
        (first | (go_at_call 36; refine (hpw _).mono ?_; rintro e w' ⟨rfl, rfl⟩)
               | (refine step_append_lies _ (by rfl) _ _ _ (by rfl) (w.heap.size + 1) 4 i0 _ 1 1 Tryd.underlying35 hi0 hz0 hz1 hz2 rfl (by decide) _ k _ (by rfl) ((hown'.alloc _).drew) ⟨wr.heap.size, 0, none⟩ 1 1 [_] (by rfl) (by rfl) (World.news_of_block (cs := #[_]) (t := 4) (fr := (0, 0)) (heap_alloc_new wr _)) (by simp [Value.oneCell']) (by omega) (by unfold maxLen; omega) (by omega) (by simp; omega) (wr.heap.size + 1) (by simp) ?_; intro gg cap w2 hown2 hgrow hat hlt2))
      have hbox2 : Box w2 w.heap.size #[.int .u16 b, .int .i64 n] 24 := Own.box_grown ((hbox.alloc _).drew) hgrow (by simp [Value.ownBlock]; omega)
      have hbel2 : Below w.heap.size w w2 := below_grown ((hbel.alloc (Nat.le_of_lt lt0) _).drew) hgrow (by intro k hk; simp [Value.ownBlock] at hk; omega) (Nat.le_refl _)
      have hown3 := own_snoc hlt (by rw [bit_at b j hb HP.out, HJ.out]) hown2
      clear hown hown' hbox hbel hown2 hgrow hcell hl hp0 hpz hp1
      go_wp2
      go_roundw
      case rel => exact ⟨k + 1, gg, cap, (j : Int) - 1, by omega, by have := HX.out; omega, rfl, by go_num, hown3, hbox2, hbel2⟩
      case measure => simp [intOf]
    · obtain rfl : k = n := by omega
      have d3 : decide (0 ≤ x) = false := by simp; omega
      have ht : (BitP.bits b k).take k = BitP.bits b k := List.take_of_length_le (by rw [BitP.bits_length]; exact Nat.le_refl _)
      rw [ht] at hown
      clear hx
      go_wp2
      go_ret
      exact ⟨g, c, by rw [BitP.bits_length]; rfl, hown.mono (by omega), hbel⟩
theorem sBitList_any (b n : Int) (h0 : 0 ≤ b) (h1 : b < 65536) (w : World) : Calls Tryd.prog 21 #[.agg #[.int .u16 b, .int .i64 n]] w fun e w' => ∃ g c, e = .returned (.slice (some ⟨g, 0, none⟩) (BitP.bits (BitP.good 16 b n).1 (BitP.good 16 b n).2).length c) ∧ Own 4 w.heap.size w' g c ((BitP.bits (BitP.good 16 b n).1 (BitP.good 16 b n).2).map Value.bool) ∧ Below w.heap.size w w' := by
  by_cases hok : BitP.ok 16 b n = true
  · obtain ⟨B, N, rfl, rfl, hN, hB⟩ := BitP.ok_nat hok h0
    have e : BitP.good 16 (B : Int) (N : Int) = (B, N) := by simp [BitP.good, hok]
    rw [e]
    exact sBitList_yes B N (by omega) (by omega) hok w
  · have hok : BitP.ok 16 b n = false := by simpa using hok
    have e : BitP.good 16 b n = (0, 0) := by simp [BitP.good, hok]
    rw [e]
    exact sBitList_no b n h0 h1 hok w
theorem l1_bit {l : List Bool} {k : Nat} {bt p : Int} (hk : k < l.length) (h16 : k < 16) (hb : bt = (BitP.num (BitP.last k l) : Int)) (hp : p = ((2 ^ k % 65536 : Nat) : Int)) :
    0 ≤ bt ∧ 0 < p ∧ bt + p ≤ 65535 ∧ IntKind.u16.wrap (p * 2) = ((2 ^ (k + 1) % 65536 : Nat) : Int) ∧ ((BitP.num (BitP.last (k + 1) l) : Int)) = if l[l.length - 1 - k]'(by omega) then bt + p else bt := by
  have h1 := BitP.num_lt (BitP.last k l)
  rw [BitP.last_length, Nat.min_eq_left (by omega)] at h1
  have h2 : 2 ^ k ≤ 32768 := pow16 (show k ≤ 15 by omega) (by decide)
  have h3 : 2 ^ k % 65536 = 2 ^ k := Nat.mod_eq_of_lt (by omega)
  have h4 := BitP.last_succ hk
  have h5 := Nat.two_pow_pos k
  rw [h3] at hp
  refine ⟨by omega, by omega, by omega, ?_, ?_⟩
  · rw [hp, Nat.pow_succ]; unfold IntKind.wrap IntKind.bits IntKind.signed; simp <;> omega
  · rw [h4, hb, hp]; split <;> push_cast <;> omega
set_option maxRecDepth 100000 in
set_option maxHeartbeats 400000 in
theorem l1Stack_any (l : List Bool) (g c : Nat) (w : World) (hg : g < w.heap.size) (hl : l.length ≤ c) (hm : l.length ≤ 4611686018427387904) (hcell : ∀ i, (h : i < l.length) → w.cell? ⟨g, i, none⟩ = some (.bool (l[i]'h))) :
    Calls Tryd.prog 14 #[.slice (some ⟨g, 0, none⟩) l.length c] w fun e w' => e = .returned (.agg #[.int .u16 (BitP.num (BitP.last 16 l)), .int .i64 ((min 16 l.length : Nat) : Int)]) ∧ Below w.heap.size w w' := by
  obtain ⟨n, hn⟩ : ∃ n, n = l.length := ⟨_, rfl⟩
  rw [← hn] at hm hl ⊢
  have hcell' : ∀ i y, i < n → l[i]? = some y → w.cell? ⟨g, i, none⟩ = some (.bool y) := fun i y hi hy => by
    rw [hcell i (by omega)]; rw [List.getElem?_eq_getElem (by omega)] at hy; rw [Option.some.inj hy]
  have HN := Lib.hid hn
  clear hn hcell
  have hB : Below w.heap.size w ((w.alloc (.cells #[.int .u16 0, .int .i64 0] 24)).alloc (.cells #[.int .u16 0, .int .i64 0] 24)) := ((Below.refl _ _).alloc (Nat.le_refl _) _).alloc (by simp) _
  have hx1 := (Box.new w #[.int .u16 0, .int .i64 0] 24).alloc (.cells #[.int .u16 0, .int .i64 0] 24)
  have hx2 := Box.new (w.alloc (.cells #[.int .u16 0, .int .i64 0] 24)) #[.int .u16 0, .int .i64 0] 24
  have HX := Lib.hid (And.intro hB (And.intro hx1 hx2))
  clear hB hx1 hx2
  go_enter Tryd.func14, Tryd.ntmps14
  go_wp2_with fail
  go_loopw [4, 5] (fun q i wr => ∃ (k : Nat) (bt p x : Int), k ≤ n ∧ k ≤ 16 ∧ x = (n : Int) - 1 - (k : Int) ∧ bt = (BitP.num (BitP.last k l) : Int) ∧ p = ((2 ^ k % 65536 : Nat) : Int) ∧ q = .int .u16 p ∧ i = .int .i64 x ∧
      Box wr w.heap.size #[.int .u16 0, .int .i64 0] 24 ∧ Box wr (w.heap.size + 1) #[.int .u16 bt, .int .i64 k] 24 ∧ Below w.heap.size w wr) (fun _ i _ => (intOf i + 1).toNat)
  case atStart => exact ⟨0, 0, 1, _, by omega, by omega, by omega, by simp [BitP.last, BitP.num], rfl, rfl, rfl, HX.out.2.1, by simpa using HX.out.2.2, HX.out.1⟩
  case round =>
    obtain ⟨k, bt, p, x, hk, hk16, hx, hb, hp, rfl, rfl, hbox, hbs, hbel⟩ := hrel
    have hcn : wr.cell? ⟨w.heap.size + 1, 1, none⟩ = some (.int .i64 k) := by have := hbs.cell 1; simpa using this
    by_cases hlt : k < n
    · by_cases h16 : k < 16
      · obtain ⟨j, hj⟩ : ∃ j : Nat, j = n - 1 - k := ⟨_, rfl⟩
        have hjn : j < n := by omega
        obtain rfl : x = (j : Int) := by omega
        have hkl : k < l.length := by rw [← HN.out]; exact hlt
        obtain ⟨f1, f2, f3, f4, f5⟩ := l1_bit hkl h16 hb hp
        obtain ⟨y, hy⟩ : ∃ y, y = l[l.length - 1 - k]'(by omega) := ⟨_, rfl⟩
        rw [← hy] at f5
        have key : ∀ i (h : i < l.length), i = j → l[j]? = some (l[i]'h) := fun i h e => by subst e; exact List.getElem?_eq_getElem h
        have hy2 : l[j]? = some y := by rw [hy]; exact key _ _ (by have := HN.out; omega)
        have hcy : wr.cell? ⟨g, j, none⟩ = some (.bool y) := (hbel.cell (p := ⟨g, j, none⟩) hg).trans (hcell' j y hjn hy2)
        have hcb : wr.cell? ⟨w.heap.size + 1, 0, none⟩ = some (.int .u16 bt) := by have := hbs.cell 0; simpa using this
        have hf0 : wr.frozen? ⟨w.heap.size + 1, 0, none⟩ = false := hbs.free 0
        have hf1 : wr.frozen? ⟨w.heap.size + 1, 1, none⟩ = false := hbs.free 1
        have hs := hbs.lt
        have HJ := Lib.hid (And.intro hj hx)
        have HP := Lib.hid (And.intro hp (And.intro f4 (And.intro f5 hb)))
        clear hj hx hp f4 f5 hb hy hy2 key
        cases y
        · go_wp2
          go_roundw
          case rel => exact ⟨k + 1, bt, _, (j : Int) - 1, by omega, by omega, by have := HJ.out; omega, by have := HP.out; rw [this.2.2.1, if_neg (by simp)], HP.out.2.1, rfl, by go_num, hbox.far (by simp) _, (by simpa using hbs.set 1 _), hbel.setCell (by simp) _⟩
          case measure => simp [intOf]
        · go_wp2
          go_roundw
          case rel => exact ⟨k + 1, bt + p, _, (j : Int) - 1, by omega, by omega, by have := HJ.out; omega, by have := HP.out; rw [this.2.2.1, if_pos rfl], HP.out.2.1, rfl, by go_num, (hbox.far (by simp) _).far (by simp) _, (by simpa using (hbs.set 0 _).set 1 _), (hbel.setCell (by simp) _).setCell (by simp) _⟩
          case measure => simp [intOf]
      · have hk : k = min 16 n := by omega
        have hcb : wr.cell? ⟨w.heap.size + 1, 0, none⟩ = some (.int .u16 bt) := by have := hbs.cell 0; simpa using this
        have r0 : wr.cell? ⟨w.heap.size, 0, none⟩ = some (.int .u16 0) := by have := hbox.cell 0; simpa using this
        have r1 : wr.cell? ⟨w.heap.size, 1, none⟩ = some (.int .i64 0) := by have := hbox.cell 1; simpa using this
        have f0 : wr.frozen? ⟨w.heap.size, 0, none⟩ = false := hbox.free 0
        have f1 : wr.frozen? ⟨w.heap.size, 1, none⟩ = false := hbox.free 1
        have hs := hbs.lt
        have e1 : bt = (BitP.num (BitP.last 16 l) : Int) := by rw [hb, hk, HN.out, BitP.last_min]
        have d3 : decide (0 ≤ x) = true := by simp; omega
        have HE := Lib.hid (And.intro e1 hk)
        clear e1 hk hb hp hx
        go_wp2
        refine bodyPost_ret (v := .agg #[.int .u16 bt, .int .i64 k]) (by simp [results, Tryd.results14, go_sem, r0, r1]) rfl ⟨?_, ?_⟩
        · rw [← HE.out.1, ← HE.out.2]
        · repeat (first | exact hbel | refine Below.setCell ?_ (by first | (simp; done) | (simp; omega) | omega) _)
    · have hk : k = min 16 n := by omega
      have hcb : wr.cell? ⟨w.heap.size + 1, 0, none⟩ = some (.int .u16 bt) := by have := hbs.cell 0; simpa using this
      have r0 : wr.cell? ⟨w.heap.size, 0, none⟩ = some (.int .u16 0) := by have := hbox.cell 0; simpa using this
      have r1 : wr.cell? ⟨w.heap.size, 1, none⟩ = some (.int .i64 0) := by have := hbox.cell 1; simpa using this
      have f0 : wr.frozen? ⟨w.heap.size, 0, none⟩ = false := hbox.free 0
      have f1 : wr.frozen? ⟨w.heap.size, 1, none⟩ = false := hbox.free 1
      have hs := hbs.lt
      have e1 : bt = (BitP.num (BitP.last 16 l) : Int) := by rw [hb, hk, HN.out, BitP.last_min]
      have d3 : decide (0 ≤ x) = false := by simp; omega
      have HE := Lib.hid (And.intro e1 hk)
      clear e1 hk hb hp hx
      go_wp2
      refine bodyPost_ret (v := .agg #[.int .u16 bt, .int .i64 k]) (by simp [results, Tryd.results14, go_sem, r0, r1]) rfl ⟨?_, ?_⟩
      · rw [← HE.out.1, ← HE.out.2]
      · repeat (first | exact hbel | refine Below.setCell ?_ (by first | (simp; done) | (simp; omega) | omega) _)
end Go.Proofs.YtblpidkkfhgjjaaDoor
