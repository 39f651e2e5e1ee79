/- The walk of the reference's l2Guess. -/
import Derived.Test.YtikcabmohlaanaaDoorRows
import Derived.Test.YtikcabmohlaanaaDoorWGs
import Derived.Test.YtikcabmohlaanaaDoorWRd
import Derived.WalkKit
import Derived.WalkSpells
import Derived.WalkLawsBesides
import Derived.OpenShut
import Derived.IntWalk
import Derived.Lib.Hide
import Derived.Lib.SmallJoins
import Derived.Deep.QuietTactic
import Derived.BigQuiet
import Derived.Deep.RegionWith
namespace Go.Proofs.YtikcabmohlaanaaDoor
open Go.RowKit Bx ItoP
set_option linter.unusedVariables false

set_option maxRecDepth 100000 in
set_option maxHeartbeats 4000000 in
theorem dl_1 (w : World) : Calls Tryd.prog 24 #[.int .i64 1] w fun e w' => e = .returned (.string ⟨#[88]⟩) ∧ w' = w := by
  go_enter Tryd.func24, Tryd.ntmps24
  go_wp2_with (go_at_call 39; refine (devSize_s_1 _).mono ?_; rintro e w' ⟨rfl, rfl⟩)
  go_ret
  exact ⟨rfl, rfl⟩
set_option maxRecDepth 100000 in
set_option maxHeartbeats 4000000 in
theorem dl_2 (w : World) : Calls Tryd.prog 24 #[.int .i64 2] w fun e w' => e = .returned (.string ⟨#[89]⟩) ∧ w' = w := by
  go_enter Tryd.func24, Tryd.ntmps24
  go_wp2_with (go_at_call 39; refine (devSize_s_2 _).mono ?_; rintro e w' ⟨rfl, rfl⟩)
  go_ret
  exact ⟨rfl, rfl⟩
set_option maxRecDepth 100000 in
set_option maxHeartbeats 4000000 in
theorem dl_3 (w : World) : Calls Tryd.prog 24 #[.int .i64 3] w fun e w' => e = .returned (.string ⟨#[77]⟩) ∧ w' = w := by
  go_enter Tryd.func24, Tryd.ntmps24
  go_wp2_with (go_at_call 39; refine (devSize_s_3 _).mono ?_; rintro e w' ⟨rfl, rfl⟩)
  go_ret
  exact ⟨rfl, rfl⟩
set_option maxRecDepth 100000 in
set_option maxHeartbeats 4000000 in
theorem dl_4 (w : World) : Calls Tryd.prog 24 #[.int .i64 4] w fun e w' => e = .returned (.string ⟨#[83]⟩) ∧ w' = w := by
  go_enter Tryd.func24, Tryd.ntmps24
  go_wp2_with (go_at_call 39; refine (devSize_s_4 _).mono ?_; rintro e w' ⟨rfl, rfl⟩)
  go_ret
  exact ⟨rfl, rfl⟩
set_option maxRecDepth 100000 in
set_option maxHeartbeats 4000000 in
theorem dl_5 (w : World) : Calls Tryd.prog 24 #[.int .i64 5] w fun e w' => e = .returned (.string ⟨#[69]⟩) ∧ w' = w := by
  go_enter Tryd.func24, Tryd.ntmps24
  go_wp2_with (go_at_call 39; refine (devSize_s_5 _).mono ?_; rintro e w' ⟨rfl, rfl⟩)
  go_ret
  exact ⟨rfl, rfl⟩
set_option maxRecDepth 100000 in
set_option maxHeartbeats 4000000 in
theorem dl_6 (w : World) : Calls Tryd.prog 24 #[.int .i64 6] w fun e w' => e = .returned (.string ⟨#[71]⟩) ∧ w' = w := by
  go_enter Tryd.func24, Tryd.ntmps24
  go_wp2_with (go_at_call 39; refine (devSize_s_6 _).mono ?_; rintro e w' ⟨rfl, rfl⟩)
  go_ret
  exact ⟨rfl, rfl⟩
set_option maxRecDepth 100000 in
set_option maxHeartbeats 4000000 in
theorem dl_7 (w : World) : Calls Tryd.prog 24 #[.int .i64 7] w fun e w' => e = .returned (.string ⟨#[84]⟩) ∧ w' = w := by
  go_enter Tryd.func24, Tryd.ntmps24
  go_wp2_with (go_at_call 39; refine (devSize_s_7 _).mono ?_; rintro e w' ⟨rfl, rfl⟩)
  go_ret
  exact ⟨rfl, rfl⟩
set_option maxRecDepth 100000 in
set_option maxHeartbeats 4000000 in
theorem dl_8 (w : World) : Calls Tryd.prog 24 #[.int .i64 8] w fun e w' => e = .returned (.string ⟨#[67]⟩) ∧ w' = w := by
  go_enter Tryd.func24, Tryd.ntmps24
  go_wp2_with (go_at_call 39; refine (devSize_s_8 _).mono ?_; rintro e w' ⟨rfl, rfl⟩)
  go_ret
  exact ⟨rfl, rfl⟩
set_option maxRecDepth 100000 in
set_option maxHeartbeats 4000000 in
theorem dl_9 (w : World) : Calls Tryd.prog 24 #[.int .i64 9] w fun e w' => e = .returned (.string ⟨#[68]⟩) ∧ w' = w := by
  go_enter Tryd.func24, Tryd.ntmps24
  go_wp2_with (go_at_call 39; refine (devSize_s_9 _).mono ?_; rintro e w' ⟨rfl, rfl⟩)
  go_ret
  exact ⟨rfl, rfl⟩
set_option maxRecDepth 100000 in
set_option maxHeartbeats 4000000 in
theorem dl_10 (w : World) : Calls Tryd.prog 24 #[.int .i64 10] w fun e w' => e = .returned (.string ⟨#[82]⟩) ∧ w' = w := by
  go_enter Tryd.func24, Tryd.ntmps24
  go_wp2_with (go_at_call 39; refine (devSize_s_10 _).mono ?_; rintro e w' ⟨rfl, rfl⟩)
  go_ret
  exact ⟨rfl, rfl⟩
theorem dl_any (k : Nat) (h1 : 1 ≤ k) (h2 : k ≤ 10) (w : World) : Calls Tryd.prog 24 #[.int .i64 k] w fun e w' => e = .returned (.string (DevT.letter k)) ∧ w' = w := by
  have : k = 1 ∨ k = 2 ∨ k = 3 ∨ k = 4 ∨ k = 5 ∨ k = 6 ∨ k = 7 ∨ k = 8 ∨ k = 9 ∨ k = 10 := by omega
  rcases this with rfl | rfl | rfl | rfl | rfl | rfl | rfl | rfl | rfl | rfl
  · exact dl_1 w
  · exact dl_2 w
  · exact dl_3 w
  · exact dl_4 w
  · exact dl_5 w
  · exact dl_6 w
  · exact dl_7 w
  · exact dl_8 w
  · exact dl_9 w
  · exact dl_10 w
theorem ib_get : ∀ (l : List UInt8) (c : UInt8) (i : Nat), Lib.indexByte l c = (i : Int) → l[i]? = some c
  | [], _, i, h => by unfold Lib.indexByte at h; omega
  | b :: l, c, i, h => by
    unfold Lib.indexByte at h
    split at h
    · rename_i hb
      have : i = 0 := by omega
      subst this
      simpa using (beq_iff_eq.1 hb)
    · split at h
      · omega
      · have hg := Lib.indexByte_ge l c
        obtain ⟨q, rfl⟩ : ∃ q, i = q + 1 := ⟨i - 1, by rename_i h2; have : Lib.indexByte l c ≠ -1 := fun e => h2 (by rw [e]; decide); omega⟩
        have := ib_get l c q (by omega)
        simpa using this
/-- the first byte is a letter just where its place says so -/
theorem letter_cmp {t : ByteArray} {j : Int} (ht : 0 < t.size) (hj : Lib.indexByte DevB.letters (t.data.toList.headD 0) = j) (k : Nat) (h1 : 1 ≤ k) (h2 : k ≤ 10) : ((t.extract 0 1).toList == (DevT.letter k).toList) = decide (j = (k : Int) - 1) := by
  have e1 : (t.extract 0 1).toList = [t.data.toList.headD 0] := by
    rw [ByteArray.toList_eq]
    have h3 : 0 < t.data.toList.length := ht
    simp only [ByteArray.data_extract, Array.toList_extract, List.extract]
    cases hl : t.data.toList with
    | nil => rw [hl] at h3; cases h3
    | cons a r => rfl
  have e2 : (DevT.letter k).toList = [(DevT.letter k).data.toList.headD 0] := by rw [ByteArray.toList_eq]; rfl
  obtain ⟨a1, _⟩ := DevB.ib_letter (k := (k : Int)) ⟨by omega, by omega⟩
  rw [e1, e2]
  by_cases h : t.data.toList.headD 0 = (DevT.letter k).data.toList.headD 0
  · rw [h] at hj ⊢
    rw [a1] at hj
    rw [decide_eq_true hj.symm]
    simp
  · have : ¬ j = (k : Int) - 1 := by
      intro e
      obtain ⟨q, hq⟩ : ∃ q : Nat, (k : Int) - 1 = (q : Int) := ⟨k - 1, by omega⟩
      rw [e, hq] at hj
      rw [hq] at a1
      have x := ib_get _ _ _ hj
      have y := ib_get _ _ _ a1
      rw [x] at y
      exact h (Option.some.inj y)
    rw [decide_eq_false this]
    simpa using h
theorem pu_lt : ∀ (l : List UInt8) (acc u k : Nat), acc < 10 ^ k → Lib.parseUint10 acc l = .ok u → u < 10 ^ (k + l.length)
  | [], acc, u, k, ha, h => by
    simp only [Lib.parseUint10] at h
    injection h with h
    subst h
    simpa using ha
  | c :: r, acc, u, k, ha, h => by
    simp only [Lib.parseUint10] at h
    split at h
    · split at h
      · cases h
      · split at h
        · cases h
        · have := pu_lt r _ u (k + 1) (by rw [Nat.pow_succ]; omega) h
          rw [show k + 1 + r.length = k + (c :: r).length by simp; omega] at this
          exact this
    · cases h
theorem l2d_bounds (l : List UInt8) : -1 ≤ DevB.l2d l ∧ DevB.l2d l ≤ 100000000000000000 := by
  unfold DevB.l2d
  split
  · decide
  · rename_i h
    have hl : l.length ≤ 17 := by omega
    split
    · rename_i v hv
      have h1 := pu_lt l 0 v 0 (by decide) hv
      have h2 : (10 : Nat) ^ (0 + l.length) ≤ 10 ^ 17 := Nat.pow_le_pow_right (by decide) (by omega)
      have h3 : (10 : Nat) ^ 17 = 100000000000000000 := by decide
      omega
    · decide
theorem set3a {w : World} {g : Nat} {cs : Array Value} {t : TypeId} (b : Box w g cs t) (h : cs.size = 3) (x y z : Value) (o : Obj) :
    ((((w.setCell ⟨g, 0, none⟩ x).setCell ⟨g, 1, none⟩ y).setCell ⟨g, 2, none⟩ z).alloc o).cell? ⟨g, 0, none⟩ = some x ∧ ((((w.setCell ⟨g, 0, none⟩ x).setCell ⟨g, 1, none⟩ y).setCell ⟨g, 2, none⟩ z).alloc o).cell? ⟨g, 1, none⟩ = some y ∧ ((((w.setCell ⟨g, 0, none⟩ x).setCell ⟨g, 1, none⟩ y).setCell ⟨g, 2, none⟩ z).alloc o).cell? ⟨g, 2, none⟩ = some z := by
  have b3 := (((b.set 0 x).set 1 y).set 2 z).alloc o
  refine ⟨(b3.cell 0).trans ?_, (b3.cell 1).trans ?_, (b3.cell 2).trans ?_⟩ <;> simp [h]
theorem no_word {t : ByteArray} (h : ∀ q, q < 4 → DevB.wds.getD q ByteArray.empty ≠ t) : Lib.containsS DevB.wds t = false := by
  cases hc : Lib.containsS DevB.wds t with
  | false => rfl
  | true =>
    rw [Lib.containsS_iff] at hc
    simp only [DevB.wds, List.mem_cons, List.not_mem_nil, or_false] at hc
    rcases hc with e | e | e | e
    · exact absurd e.symm (h 0 (by omega))
    · exact absurd e.symm (h 1 (by omega))
    · exact absurd e.symm (h 2 (by omega))
    · exact absurd e.symm (h 3 (by omega))
set_option maxRecDepth 100000 in
set_option maxHeartbeats 4000000 in
theorem guess_some (t : ByteArray) (ht : t.size ≤ 1048576) (h0 : 0 < t.size) (a b c : Int) (hr : DevB.gw DevB.gs t = (a, b, c)) (w : World) : Calls Tryd.prog 35 #[.string t] w fun e w' => e = .returned (.agg #[.int .i64 a, .int .i64 b, .int .i64 c]) ∧ Below w.heap.size w w' := by
  have HR := Lib.hid hr
  clear hr
  obtain ⟨n1, n2⟩ := ne_fact h0
  go_enter Tryd.func35, Tryd.ntmps35
  go_wp2_with fail
  go_loopw [3] (fun v wr => ∃ k : Nat, v = .int .i64 k ∧ k ≤ 4 ∧ (∀ q, q < k → DevB.wds.getD q ByteArray.empty ≠ t) ∧ Box wr w.heap.size #[.int .i64 0, .int .i64 0, .int .i64 0] 24 ∧ Below w.heap.size w wr) (fun v _ => 4 - (intOf v).toNat)
  case atStart => exact ⟨0, rfl, by omega, fun q hq => by omega, Box.new _ _ _, (Below.refl _ _).alloc (Nat.le_refl _) _⟩
  case round =>
    obtain ⟨k, rfl, hk, hno, bx, hB⟩ := hrel
    have HS := Lib.hid (And.intro hno (And.intro bx hB))
    clear hno bx hB
    by_cases hk4 : k < 4
    · have hk' : k = 0 ∨ k = 1 ∨ k = 2 ∨ k = 3 := by omega
      rcases hk' with rfl | rfl | rfl | rfl
      · by_cases hq : t = ⟨#[110, 97, 110]⟩
        · subst hq
          have HF : Hid (a = 13 ∧ b = 0 ∧ c = 0) := Lib.hid (by
            have h := HR.out
            rw [show DevB.gw DevB.gs ⟨#[110, 97, 110]⟩ = (13, 0, 0) by decide] at h
            obtain ⟨h1, h2⟩ := Prod.mk.inj h
            obtain ⟨h2, h3⟩ := Prod.mk.inj h2
            exact ⟨h1.symm, h2.symm, h3.symm⟩)
          obtain ⟨hno, bx, hB⟩ := HS.out
          clear HS HR
          have bxc0 : wr.cell? ⟨w.heap.size, 0, none⟩ = some (.int .i64 0) := bx.cell 0
          have bxf0 : wr.frozen? ⟨w.heap.size, 0, none⟩ = false := bx.free 0
          have bxc1 : wr.cell? ⟨w.heap.size, 1, none⟩ = some (.int .i64 0) := bx.cell 1
          have bxf1 : wr.frozen? ⟨w.heap.size, 1, none⟩ = false := bx.free 1
          have bxc2 : wr.cell? ⟨w.heap.size, 2, none⟩ = some (.int .i64 0) := bx.cell 2
          have bxf2 : wr.frozen? ⟨w.heap.size, 2, none⟩ = false := bx.free 2
          have hlt := bx.lt
          go_wp2_with fail
          refine (l2Words_same _).mono ?_
          rintro e w' ⟨rfl, rfl⟩
          obtain ⟨d0, d1, d2⟩ := set3a bx rfl (.int .i64 13) (.int .i64 0) (.int .i64 0) (.cells #[.string ⟨#[110, 97, 110]⟩, .string ⟨#[105, 110, 102]⟩, .string ⟨#[45, 105, 110, 102]⟩, .string ⟨#[45, 48, 46, 48]⟩] 9)
          go_wp2
          refine bodyPost_ret (v := .agg #[.int .i64 13, .int .i64 0, .int .i64 0]) (by simp [results, Tryd.results35, go_sem, d0, d1, d2]) rfl ⟨by rw [HF.out.1, HF.out.2.1, HF.out.2.2], ?_⟩
          have hBs := hB.size
          repeat (first | exact Below.refl _ _ | assumption | refine Below.setCell ?_ (by first | (simp; done) | (simp; omega) | omega) _ | refine Below.alloc ?_ (by first | (simp; done) | (simp; omega) | omega) _ | refine Bx.bel_drewN ?_ _ | refine Below.drew ?_)
        · have hql : (t.toList == [110, 97, 110]) = false := beq_eq_false_iff_ne.2 (fun e => hq (ItoP.ext (by rw [← ByteArray.toList_eq]; exact e)))
          have HQ := Lib.hid hq
          clear hq
          obtain ⟨hno, bx, hB⟩ := HS.out
          have HN := Lib.hid hno
          clear HS hno
          have bxc0 : wr.cell? ⟨w.heap.size, 0, none⟩ = some (.int .i64 0) := bx.cell 0
          have bxf0 : wr.frozen? ⟨w.heap.size, 0, none⟩ = false := bx.free 0
          have bxc1 : wr.cell? ⟨w.heap.size, 1, none⟩ = some (.int .i64 0) := bx.cell 1
          have bxf1 : wr.frozen? ⟨w.heap.size, 1, none⟩ = false := bx.free 1
          have bxc2 : wr.cell? ⟨w.heap.size, 2, none⟩ = some (.int .i64 0) := bx.cell 2
          have bxf2 : wr.frozen? ⟨w.heap.size, 2, none⟩ = false := bx.free 2
          have hlt := bx.lt
          go_wp2_with fail
          refine (l2Words_same _).mono ?_
          rintro e w' ⟨rfl, rfl⟩
          go_wp2
          go_roundw
          case rel =>
            refine ⟨1, by go_num, by omega, ?_, bx.alloc _, by have hBs := hB.size; repeat (first | exact Below.refl _ _ | assumption | refine Below.setCell ?_ (by first | (simp; done) | (simp; omega) | omega) _ | refine Below.alloc ?_ (by first | (simp; done) | (simp; omega) | omega) _ | refine Bx.bel_drewN ?_ _ | refine Below.drew ?_)⟩
            intro q hq
            by_cases h : q = 0
            · subst h
              exact fun e => HQ.out e.symm
            · exact HN.out q (by omega)
          case measure => simp [intOf]
      · by_cases hq : t = ⟨#[105, 110, 102]⟩
        · subst hq
          have HF : Hid (a = 13 ∧ b = 1 ∧ c = 0) := Lib.hid (by
            have h := HR.out
            rw [show DevB.gw DevB.gs ⟨#[105, 110, 102]⟩ = (13, 1, 0) by decide] at h
            obtain ⟨h1, h2⟩ := Prod.mk.inj h
            obtain ⟨h2, h3⟩ := Prod.mk.inj h2
            exact ⟨h1.symm, h2.symm, h3.symm⟩)
          obtain ⟨hno, bx, hB⟩ := HS.out
          clear HS HR
          have bxc0 : wr.cell? ⟨w.heap.size, 0, none⟩ = some (.int .i64 0) := bx.cell 0
          have bxf0 : wr.frozen? ⟨w.heap.size, 0, none⟩ = false := bx.free 0
          have bxc1 : wr.cell? ⟨w.heap.size, 1, none⟩ = some (.int .i64 0) := bx.cell 1
          have bxf1 : wr.frozen? ⟨w.heap.size, 1, none⟩ = false := bx.free 1
          have bxc2 : wr.cell? ⟨w.heap.size, 2, none⟩ = some (.int .i64 0) := bx.cell 2
          have bxf2 : wr.frozen? ⟨w.heap.size, 2, none⟩ = false := bx.free 2
          have hlt := bx.lt
          go_wp2_with fail
          refine (l2Words_same _).mono ?_
          rintro e w' ⟨rfl, rfl⟩
          obtain ⟨d0, d1, d2⟩ := set3a bx rfl (.int .i64 13) (.int .i64 1) (.int .i64 0) (.cells #[.string ⟨#[110, 97, 110]⟩, .string ⟨#[105, 110, 102]⟩, .string ⟨#[45, 105, 110, 102]⟩, .string ⟨#[45, 48, 46, 48]⟩] 9)
          go_wp2
          refine bodyPost_ret (v := .agg #[.int .i64 13, .int .i64 1, .int .i64 0]) (by simp [results, Tryd.results35, go_sem, d0, d1, d2]) rfl ⟨by rw [HF.out.1, HF.out.2.1, HF.out.2.2], ?_⟩
          have hBs := hB.size
          repeat (first | exact Below.refl _ _ | assumption | refine Below.setCell ?_ (by first | (simp; done) | (simp; omega) | omega) _ | refine Below.alloc ?_ (by first | (simp; done) | (simp; omega) | omega) _ | refine Bx.bel_drewN ?_ _ | refine Below.drew ?_)
        · have hql : (t.toList == [105, 110, 102]) = false := beq_eq_false_iff_ne.2 (fun e => hq (ItoP.ext (by rw [← ByteArray.toList_eq]; exact e)))
          have HQ := Lib.hid hq
          clear hq
          obtain ⟨hno, bx, hB⟩ := HS.out
          have HN := Lib.hid hno
          clear HS hno
          have bxc0 : wr.cell? ⟨w.heap.size, 0, none⟩ = some (.int .i64 0) := bx.cell 0
          have bxf0 : wr.frozen? ⟨w.heap.size, 0, none⟩ = false := bx.free 0
          have bxc1 : wr.cell? ⟨w.heap.size, 1, none⟩ = some (.int .i64 0) := bx.cell 1
          have bxf1 : wr.frozen? ⟨w.heap.size, 1, none⟩ = false := bx.free 1
          have bxc2 : wr.cell? ⟨w.heap.size, 2, none⟩ = some (.int .i64 0) := bx.cell 2
          have bxf2 : wr.frozen? ⟨w.heap.size, 2, none⟩ = false := bx.free 2
          have hlt := bx.lt
          go_wp2_with fail
          refine (l2Words_same _).mono ?_
          rintro e w' ⟨rfl, rfl⟩
          go_wp2
          go_roundw
          case rel =>
            refine ⟨2, by go_num, by omega, ?_, bx.alloc _, by have hBs := hB.size; repeat (first | exact Below.refl _ _ | assumption | refine Below.setCell ?_ (by first | (simp; done) | (simp; omega) | omega) _ | refine Below.alloc ?_ (by first | (simp; done) | (simp; omega) | omega) _ | refine Bx.bel_drewN ?_ _ | refine Below.drew ?_)⟩
            intro q hq
            by_cases h : q = 1
            · subst h
              exact fun e => HQ.out e.symm
            · exact HN.out q (by omega)
          case measure => simp [intOf]
      · by_cases hq : t = ⟨#[45, 105, 110, 102]⟩
        · subst hq
          have HF : Hid (a = 13 ∧ b = 2 ∧ c = 0) := Lib.hid (by
            have h := HR.out
            rw [show DevB.gw DevB.gs ⟨#[45, 105, 110, 102]⟩ = (13, 2, 0) by decide] at h
            obtain ⟨h1, h2⟩ := Prod.mk.inj h
            obtain ⟨h2, h3⟩ := Prod.mk.inj h2
            exact ⟨h1.symm, h2.symm, h3.symm⟩)
          obtain ⟨hno, bx, hB⟩ := HS.out
          clear HS HR
          have bxc0 : wr.cell? ⟨w.heap.size, 0, none⟩ = some (.int .i64 0) := bx.cell 0
          have bxf0 : wr.frozen? ⟨w.heap.size, 0, none⟩ = false := bx.free 0
          have bxc1 : wr.cell? ⟨w.heap.size, 1, none⟩ = some (.int .i64 0) := bx.cell 1
          have bxf1 : wr.frozen? ⟨w.heap.size, 1, none⟩ = false := bx.free 1
          have bxc2 : wr.cell? ⟨w.heap.size, 2, none⟩ = some (.int .i64 0) := bx.cell 2
          have bxf2 : wr.frozen? ⟨w.heap.size, 2, none⟩ = false := bx.free 2
          have hlt := bx.lt
          go_wp2_with fail
          refine (l2Words_same _).mono ?_
          rintro e w' ⟨rfl, rfl⟩
          obtain ⟨d0, d1, d2⟩ := set3a bx rfl (.int .i64 13) (.int .i64 2) (.int .i64 0) (.cells #[.string ⟨#[110, 97, 110]⟩, .string ⟨#[105, 110, 102]⟩, .string ⟨#[45, 105, 110, 102]⟩, .string ⟨#[45, 48, 46, 48]⟩] 9)
          go_wp2
          refine bodyPost_ret (v := .agg #[.int .i64 13, .int .i64 2, .int .i64 0]) (by simp [results, Tryd.results35, go_sem, d0, d1, d2]) rfl ⟨by rw [HF.out.1, HF.out.2.1, HF.out.2.2], ?_⟩
          have hBs := hB.size
          repeat (first | exact Below.refl _ _ | assumption | refine Below.setCell ?_ (by first | (simp; done) | (simp; omega) | omega) _ | refine Below.alloc ?_ (by first | (simp; done) | (simp; omega) | omega) _ | refine Bx.bel_drewN ?_ _ | refine Below.drew ?_)
        · have hql : (t.toList == [45, 105, 110, 102]) = false := beq_eq_false_iff_ne.2 (fun e => hq (ItoP.ext (by rw [← ByteArray.toList_eq]; exact e)))
          have HQ := Lib.hid hq
          clear hq
          obtain ⟨hno, bx, hB⟩ := HS.out
          have HN := Lib.hid hno
          clear HS hno
          have bxc0 : wr.cell? ⟨w.heap.size, 0, none⟩ = some (.int .i64 0) := bx.cell 0
          have bxf0 : wr.frozen? ⟨w.heap.size, 0, none⟩ = false := bx.free 0
          have bxc1 : wr.cell? ⟨w.heap.size, 1, none⟩ = some (.int .i64 0) := bx.cell 1
          have bxf1 : wr.frozen? ⟨w.heap.size, 1, none⟩ = false := bx.free 1
          have bxc2 : wr.cell? ⟨w.heap.size, 2, none⟩ = some (.int .i64 0) := bx.cell 2
          have bxf2 : wr.frozen? ⟨w.heap.size, 2, none⟩ = false := bx.free 2
          have hlt := bx.lt
          go_wp2_with fail
          refine (l2Words_same _).mono ?_
          rintro e w' ⟨rfl, rfl⟩
          go_wp2
          go_roundw
          case rel =>
            refine ⟨3, by go_num, by omega, ?_, bx.alloc _, by have hBs := hB.size; repeat (first | exact Below.refl _ _ | assumption | refine Below.setCell ?_ (by first | (simp; done) | (simp; omega) | omega) _ | refine Below.alloc ?_ (by first | (simp; done) | (simp; omega) | omega) _ | refine Bx.bel_drewN ?_ _ | refine Below.drew ?_)⟩
            intro q hq
            by_cases h : q = 2
            · subst h
              exact fun e => HQ.out e.symm
            · exact HN.out q (by omega)
          case measure => simp [intOf]
      · by_cases hq : t = ⟨#[45, 48, 46, 48]⟩
        · subst hq
          have HF : Hid (a = 13 ∧ b = 3 ∧ c = 0) := Lib.hid (by
            have h := HR.out
            rw [show DevB.gw DevB.gs ⟨#[45, 48, 46, 48]⟩ = (13, 3, 0) by decide] at h
            obtain ⟨h1, h2⟩ := Prod.mk.inj h
            obtain ⟨h2, h3⟩ := Prod.mk.inj h2
            exact ⟨h1.symm, h2.symm, h3.symm⟩)
          obtain ⟨hno, bx, hB⟩ := HS.out
          clear HS HR
          have bxc0 : wr.cell? ⟨w.heap.size, 0, none⟩ = some (.int .i64 0) := bx.cell 0
          have bxf0 : wr.frozen? ⟨w.heap.size, 0, none⟩ = false := bx.free 0
          have bxc1 : wr.cell? ⟨w.heap.size, 1, none⟩ = some (.int .i64 0) := bx.cell 1
          have bxf1 : wr.frozen? ⟨w.heap.size, 1, none⟩ = false := bx.free 1
          have bxc2 : wr.cell? ⟨w.heap.size, 2, none⟩ = some (.int .i64 0) := bx.cell 2
          have bxf2 : wr.frozen? ⟨w.heap.size, 2, none⟩ = false := bx.free 2
          have hlt := bx.lt
          go_wp2_with fail
          refine (l2Words_same _).mono ?_
          rintro e w' ⟨rfl, rfl⟩
          obtain ⟨d0, d1, d2⟩ := set3a bx rfl (.int .i64 13) (.int .i64 3) (.int .i64 0) (.cells #[.string ⟨#[110, 97, 110]⟩, .string ⟨#[105, 110, 102]⟩, .string ⟨#[45, 105, 110, 102]⟩, .string ⟨#[45, 48, 46, 48]⟩] 9)
          go_wp2
          refine bodyPost_ret (v := .agg #[.int .i64 13, .int .i64 3, .int .i64 0]) (by simp [results, Tryd.results35, go_sem, d0, d1, d2]) rfl ⟨by rw [HF.out.1, HF.out.2.1, HF.out.2.2], ?_⟩
          have hBs := hB.size
          repeat (first | exact Below.refl _ _ | assumption | refine Below.setCell ?_ (by first | (simp; done) | (simp; omega) | omega) _ | refine Below.alloc ?_ (by first | (simp; done) | (simp; omega) | omega) _ | refine Bx.bel_drewN ?_ _ | refine Below.drew ?_)
        · have hql : (t.toList == [45, 48, 46, 48]) = false := beq_eq_false_iff_ne.2 (fun e => hq (ItoP.ext (by rw [← ByteArray.toList_eq]; exact e)))
          have HQ := Lib.hid hq
          clear hq
          obtain ⟨hno, bx, hB⟩ := HS.out
          have HN := Lib.hid hno
          clear HS hno
          have bxc0 : wr.cell? ⟨w.heap.size, 0, none⟩ = some (.int .i64 0) := bx.cell 0
          have bxf0 : wr.frozen? ⟨w.heap.size, 0, none⟩ = false := bx.free 0
          have bxc1 : wr.cell? ⟨w.heap.size, 1, none⟩ = some (.int .i64 0) := bx.cell 1
          have bxf1 : wr.frozen? ⟨w.heap.size, 1, none⟩ = false := bx.free 1
          have bxc2 : wr.cell? ⟨w.heap.size, 2, none⟩ = some (.int .i64 0) := bx.cell 2
          have bxf2 : wr.frozen? ⟨w.heap.size, 2, none⟩ = false := bx.free 2
          have hlt := bx.lt
          go_wp2_with fail
          refine (l2Words_same _).mono ?_
          rintro e w' ⟨rfl, rfl⟩
          go_wp2
          go_roundw
          case rel =>
            refine ⟨4, by go_num, by omega, ?_, bx.alloc _, by have hBs := hB.size; repeat (first | exact Below.refl _ _ | assumption | refine Below.setCell ?_ (by first | (simp; done) | (simp; omega) | omega) _ | refine Below.alloc ?_ (by first | (simp; done) | (simp; omega) | omega) _ | refine Bx.bel_drewN ?_ _ | refine Below.drew ?_)⟩
            intro q hq
            by_cases h : q = 3
            · subst h
              exact fun e => HQ.out e.symm
            · exact HN.out q (by omega)
          case measure => simp [intOf]
    · have d1 : ¬ (k : Int) < 4 := by omega
      obtain rfl : k = 4 := by omega
      have HW := Lib.hid (no_word HS.out.1)
      obtain ⟨_, bx, hB⟩ := HS.out
      have HB := Lib.hid (And.intro bx hB)
      clear HS bx hB
      have HG : Hid (DevB.gs t.data.toList = (a, b, c)) := Lib.hid (by
        have h := HR.out
        unfold DevB.gw at h
        rw [if_neg (by rw [HW.out]; decide)] at h
        exact h)
      clear HR HW
      obtain ⟨j, hj⟩ : ∃ j, Lib.indexByte DevB.letters (t.data.toList.headD 0) = j := ⟨_, rfl⟩
      have hj1 := Lib.indexByte_ge DevB.letters (t.data.toList.headD 0)
      have hj2 : Lib.indexByte DevB.letters (t.data.toList.headD 0) < 10 := ib_lt DevB.letters (t.data.toList.headD 0)
      rw [hj] at hj1 hj2
      have HJ := Lib.hid hj
      clear hj
      have dt1 : (1 : Int) ≤ (t.size : Int) := by omega
      have he1 : (t.extract 1 t.size).data.toList = t.data.toList.drop 1 := by
        simp only [ByteArray.data_extract, Array.toList_extract, List.extract]
        rw [List.take_of_length_le (by rw [List.length_drop]; exact Nat.le_refl _)]
      have HE1 := Lib.hid he1
      clear he1
      have hes : (t.extract 1 t.size).size ≤ 1048576 := by simp [ByteArray.size_extract]; omega
      go_wp2_with fail
      go_loopw [4] (fun v wr2 => ∃ k : Nat, v = .int .i64 k ∧ 1 ≤ k ∧ k ≤ 11 ∧ (j < 0 ∨ (k : Int) ≤ j + 1) ∧ Box wr2 w.heap.size #[.int .i64 0, .int .i64 0, .int .i64 0] 24 ∧ Below w.heap.size w wr2) (fun v _ => 11 - (intOf v).toNat)
      case atStart => exact ⟨1, rfl, by omega, by omega, by omega, HB.out.1, HB.out.2⟩
      case round =>
        obtain ⟨k, rfl, hk1, hk11, hkj, bx2, hB2⟩ := hrel
        have HS := Lib.hid (And.intro bx2 hB2)
        clear HB bx2 hB2
        by_cases hk : k ≤ 10
        · have d1 : (k : Int) ≤ 10 := by omega
          have hle := fun w => dl_any k hk1 hk w
          have hcmp := letter_cmp h0 HJ.out k hk1 hk
          generalize DevT.letter k = lk at hle hcmp
          by_cases hjk : j = (k : Int) - 1
          · rw [decide_eq_true hjk] at hcmp
            have hdg := fun w => l2Digits_any (t.extract 1 t.size) (by omega) w
            have HF : Hid (a = (k : Int) ∧ b = DevB.l2d (t.extract 1 t.size).data.toList ∧ c = 0) := Lib.hid (by
              have h := HG.out
              unfold DevB.gs at h
              rw [HJ.out, if_pos (by omega)] at h
              obtain ⟨h1, h2⟩ := Prod.mk.inj h
              obtain ⟨h2, h3⟩ := Prod.mk.inj h2
              rw [HE1.out]
              exact ⟨by omega, h2.symm, h3.symm⟩)
            generalize DevB.l2d (t.extract 1 t.size).data.toList = m at hdg HF
            clear HG HJ hjk hkj
            obtain ⟨bx, hB⟩ := HS.out
            have hlt := bx.lt
            clear HS
            go_wp2
            go_quiet ((go_at_call 24; exact Calls.quiet_of_same (hle _)))
            have bq := bx.drewN nq
            have hBq := Bx.bel_drewN hB nq
            clear bx hB hle hcmp
            have bqc0 : (wr.drewN nq).cell? ⟨w.heap.size, 0, none⟩ = some (.int .i64 0) := bq.cell 0
            have bqf0 : (wr.drewN nq).frozen? ⟨w.heap.size, 0, none⟩ = false := bq.free 0
            have bqc1 : (wr.drewN nq).cell? ⟨w.heap.size, 1, none⟩ = some (.int .i64 0) := bq.cell 1
            have bqf1 : (wr.drewN nq).frozen? ⟨w.heap.size, 1, none⟩ = false := bq.free 1
            have bqc2 : (wr.drewN nq).cell? ⟨w.heap.size, 2, none⟩ = some (.int .i64 0) := bq.cell 2
            have bqf2 : (wr.drewN nq).frozen? ⟨w.heap.size, 2, none⟩ = false := bq.free 2
            go_wp2_with fail
            refine (hdg _).mono ?_
            rintro e w' ⟨rfl, rfl⟩
            obtain ⟨d0, d1, d2⟩ := set3 bq rfl (.int .i64 k) (.int .i64 m) (.int .i64 0)
            go_wp2
            refine bodyPost_ret (v := .agg #[.int .i64 k, .int .i64 m, .int .i64 0]) (by simp [results, Tryd.results35, go_sem, d0, d1, d2]) rfl ⟨by rw [HF.out.1, HF.out.2.1, HF.out.2.2], ?_⟩
            repeat (first | exact Below.refl _ _ | assumption | refine Below.setCell ?_ (by first | (simp; done) | (simp; omega) | omega) _ | refine Below.alloc ?_ (by first | (simp; done) | (simp; omega) | omega) _ | refine Bx.bel_drewN ?_ _ | refine Below.drew ?_)
          · rw [decide_eq_false hjk] at hcmp
            clear HG HJ HE1 hes
            obtain ⟨bx, hB⟩ := HS.out
            have hlt := bx.lt
            clear HS
            go_wp2
            go_quiet ((go_at_call 24; exact Calls.quiet_of_same (hle _)))
            have bq := bx.drewN nq
            have hBq := Bx.bel_drewN hB nq
            clear bx hB hle hcmp
            go_wp2
            go_roundw
            case rel => exact ⟨k + 1, by go_num, by omega, by omega, by omega, bq, hBq⟩
            case measure => simp [intOf]; omega
        · have d1 : ¬ (k : Int) ≤ 10 := by omega
          obtain rfl : k = 11 := by omega
          have hjn : j < 0 := by omega
          have HT : Hid ((if t[0] = 45 then DevB.gt (-1) (t.extract 1 t.size).data.toList else DevB.gt 1 t.data.toList) = (a, b, c)) := Lib.hid (by
            have h := HG.out
            unfold DevB.gs at h
            have hh : t.data.toList.headD 0 = t[0] := by
              rw [byte_at t 0 h0]
              rfl
            rw [HJ.out, if_neg (by omega), hh, ← HE1.out] at h
            exact h)
          obtain ⟨bx, hB⟩ := HS.out
          have hlt := bx.lt
          clear HS HG HJ HE1 hkj hk1 hk11 hj1 hj2
          have dt0 : (0 : Int) < (t.size : Int) := by omega
          by_cases hs : t[0] = 45
          · have e0 : (t[0].toNat : Int) = 45 := by rw [hs]; rfl
            have HT2 : Hid (DevB.gt (-1) (t.extract 1 t.size).data.toList = (a, b, c)) := Lib.hid (by rw [← HT.out, if_pos hs])
            clear HT hs
            go_wp2_with fail
            generalize hrr : t.extract 1 t.size = r at HT2 hes ⊢
            clear hrr
            obtain ⟨d, hd⟩ : ∃ d, Lib.indexByte r.data.toList 46 = d := ⟨_, rfl⟩
            have hf := fun w => l10Find_any r (by omega) w
            have hd1 := Lib.indexByte_ge r.data.toList 46
            have hd2 : Lib.indexByte r.data.toList 46 < (r.size : Int) := ib_lt r.data.toList 46
            rw [hd] at hf hd1 hd2
            have HD := Lib.hid hd
            clear hd
            refine (hf _).mono ?_
            rintro e w' ⟨rfl, rfl⟩
            clear hf
            by_cases hneg : d < 0
            · have hdg := fun w => l2Digits_any r (by omega) w
              obtain ⟨m1, m2⟩ := l2d_bounds r.data.toList
              have HF : Hid (a = 11 ∧ b = (-1) * DevB.l2d r.data.toList ∧ c = 0) := Lib.hid (by
                have h := HT2.out
                unfold DevB.gt at h
                rw [HD.out, if_pos hneg] at h
                obtain ⟨h1, h2⟩ := Prod.mk.inj h
                obtain ⟨h2, h3⟩ := Prod.mk.inj h2
                exact ⟨h1.symm, h2.symm, h3.symm⟩)
              generalize DevB.l2d r.data.toList = m at hdg HF m1 m2
              clear HT2 HD
              have bxc0 : w'.cell? ⟨w.heap.size, 0, none⟩ = some (.int .i64 0) := bx.cell 0
              have bxf0 : w'.frozen? ⟨w.heap.size, 0, none⟩ = false := bx.free 0
              have bxc1 : w'.cell? ⟨w.heap.size, 1, none⟩ = some (.int .i64 0) := bx.cell 1
              have bxf1 : w'.frozen? ⟨w.heap.size, 1, none⟩ = false := bx.free 1
              have bxc2 : w'.cell? ⟨w.heap.size, 2, none⟩ = some (.int .i64 0) := bx.cell 2
              have bxf2 : w'.frozen? ⟨w.heap.size, 2, none⟩ = false := bx.free 2
              go_wp2_with fail
              refine (hdg _).mono ?_
              rintro e w' ⟨rfl, rfl⟩
              obtain ⟨d0, d1, d2⟩ := set3 bx rfl (.int .i64 11) (.int .i64 (-m)) (.int .i64 0)
              go_wp2
              refine bodyPost_ret (v := .agg #[.int .i64 11, .int .i64 (-m), .int .i64 0]) (by simp [results, Tryd.results35, go_sem, d0, d1, d2]) rfl ⟨by rw [HF.out.1, HF.out.2.1, HF.out.2.2]; simp, ?_⟩
              repeat (first | exact Below.refl _ _ | assumption | refine Below.setCell ?_ (by first | (simp; done) | (simp; omega) | omega) _ | refine Below.alloc ?_ (by first | (simp; done) | (simp; omega) | omega) _ | refine Bx.bel_drewN ?_ _ | refine Below.drew ?_)
            · obtain ⟨q, rfl⟩ := Int.eq_ofNat_of_zero_le (show 0 ≤ d by omega)
              have hsc : (r.extract 0 q ++ r.extract (q + 1) r.size).size ≤ 1048576 := by simp [ByteArray.size_append, ByteArray.size_extract]; omega
              have hdg := fun w => l2Digits_any (r.extract 0 q ++ r.extract (q + 1) r.size) (by omega) w
              have hsz : ¬ ((r.extract 0 q).size + (r.extract (q + 1) r.size).size > 9223372036854775807) := by
                rw [← ByteArray.size_append]
                omega
              have hcl : (r.extract 0 q ++ r.extract (q + 1) r.size).data.toList = r.data.toList.take q ++ r.data.toList.drop (q + 1) := by
                have hl : r.data.toList.length = r.size := rfl
                rw [app_list]
                simp only [ByteArray.data_extract, Array.toList_extract, List.extract, Nat.sub_zero, List.drop_zero]
                rw [List.take_of_length_le (i := r.size - (q + 1)) (by rw [List.length_drop]; omega)]
              obtain ⟨m1, m2⟩ := l2d_bounds (r.extract 0 q ++ r.extract (q + 1) r.size).data.toList
              have HF : Hid (a = 12 ∧ b = (-1) * DevB.l2d (r.extract 0 q ++ r.extract (q + 1) r.size).data.toList ∧ c = (r.size : Int) - q - 1) := Lib.hid (by
                have h := HT2.out
                unfold DevB.gt at h
                rw [HD.out, if_neg hneg] at h
                obtain ⟨h1, h2⟩ := Prod.mk.inj h
                obtain ⟨h2, h3⟩ := Prod.mk.inj h2
                rw [hcl]
                exact ⟨h1.symm, h2.symm, h3.symm⟩)
              clear hcl hsc
              generalize DevB.l2d (r.extract 0 q ++ r.extract (q + 1) r.size).data.toList = m at hdg HF m1 m2
              clear HT2 HD
              have q1 : (q : Int) ≤ (r.size : Int) := by omega
              have q2 : (q : Int) + 1 ≤ (r.size : Int) := by omega
              have q3 : IntKind.i64.wrap ((q : Int) + 1) = (q : Int) + 1 := by rw [IntWalk.i64_left]; exact IntWalk.wrap64_in _ (by omega)
              have q4 : IntKind.i64.wrap (-m) = (-m) := by rw [IntWalk.i64_left]; exact IntWalk.wrap64_in _ (by omega)
              have q5 : IntKind.i64.wrap ((-1) * m) = (-m) := by rw [IntWalk.i64_left, IntWalk.wrap64_in _ (by omega)]; omega
              have bxc0 : w'.cell? ⟨w.heap.size, 0, none⟩ = some (.int .i64 0) := bx.cell 0
              have bxf0 : w'.frozen? ⟨w.heap.size, 0, none⟩ = false := bx.free 0
              have bxc1 : w'.cell? ⟨w.heap.size, 1, none⟩ = some (.int .i64 0) := bx.cell 1
              have bxf1 : w'.frozen? ⟨w.heap.size, 1, none⟩ = false := bx.free 1
              have bxc2 : w'.cell? ⟨w.heap.size, 2, none⟩ = some (.int .i64 0) := bx.cell 2
              have bxf2 : w'.frozen? ⟨w.heap.size, 2, none⟩ = false := bx.free 2
              go_wp2
              go_region_with (first | (go_at_call 44; refine (hdg _).mono ?_; rintro e w' ⟨rfl, rfl⟩))
              all_goals
                obtain ⟨d0, d1, d2⟩ := set3 bx rfl (.int .i64 12) (.int .i64 (-m)) (.int .i64 ((r.size : Int) - q - 1))
                go_wp2
                refine bodyPost_ret (v := .agg #[.int .i64 12, .int .i64 (-m), .int .i64 ((r.size : Int) - q - 1)]) (by simp [results, Tryd.results35, go_sem, d0, d1, d2]) rfl ⟨by rw [HF.out.1, HF.out.2.1, HF.out.2.2]; simp, ?_⟩
                repeat (first | exact Below.refl _ _ | assumption | refine Below.setCell ?_ (by first | (simp; done) | (simp; omega) | omega) _ | refine Below.alloc ?_ (by first | (simp; done) | (simp; omega) | omega) _ | refine Bx.bel_drewN ?_ _ | refine Below.drew ?_)
          · have e0 : ¬ (t[0].toNat : Int) = 45 := by
              intro h2
              exact hs (UInt8.toNat_inj.1 (by have : (45 : UInt8).toNat = 45 := rfl; omega))
            have HT2 : Hid (DevB.gt 1 t.data.toList = (a, b, c)) := Lib.hid (by rw [← HT.out, if_neg hs])
            clear HT hs hes
            have hes := ht
            go_wp2_with fail
            obtain ⟨d, hd⟩ : ∃ d, Lib.indexByte t.data.toList 46 = d := ⟨_, rfl⟩
            have hf := fun w => l10Find_any t (by omega) w
            have hd1 := Lib.indexByte_ge t.data.toList 46
            have hd2 : Lib.indexByte t.data.toList 46 < (t.size : Int) := ib_lt t.data.toList 46
            rw [hd] at hf hd1 hd2
            have HD := Lib.hid hd
            clear hd
            refine (hf _).mono ?_
            rintro e w' ⟨rfl, rfl⟩
            clear hf
            by_cases hneg : d < 0
            · have hdg := fun w => l2Digits_any t (by omega) w
              obtain ⟨m1, m2⟩ := l2d_bounds t.data.toList
              have HF : Hid (a = 11 ∧ b = 1 * DevB.l2d t.data.toList ∧ c = 0) := Lib.hid (by
                have h := HT2.out
                unfold DevB.gt at h
                rw [HD.out, if_pos hneg] at h
                obtain ⟨h1, h2⟩ := Prod.mk.inj h
                obtain ⟨h2, h3⟩ := Prod.mk.inj h2
                exact ⟨h1.symm, h2.symm, h3.symm⟩)
              generalize DevB.l2d t.data.toList = m at hdg HF m1 m2
              clear HT2 HD
              have bxc0 : w'.cell? ⟨w.heap.size, 0, none⟩ = some (.int .i64 0) := bx.cell 0
              have bxf0 : w'.frozen? ⟨w.heap.size, 0, none⟩ = false := bx.free 0
              have bxc1 : w'.cell? ⟨w.heap.size, 1, none⟩ = some (.int .i64 0) := bx.cell 1
              have bxf1 : w'.frozen? ⟨w.heap.size, 1, none⟩ = false := bx.free 1
              have bxc2 : w'.cell? ⟨w.heap.size, 2, none⟩ = some (.int .i64 0) := bx.cell 2
              have bxf2 : w'.frozen? ⟨w.heap.size, 2, none⟩ = false := bx.free 2
              go_wp2_with fail
              refine (hdg _).mono ?_
              rintro e w' ⟨rfl, rfl⟩
              obtain ⟨d0, d1, d2⟩ := set3 bx rfl (.int .i64 11) (.int .i64 m) (.int .i64 0)
              go_wp2
              refine bodyPost_ret (v := .agg #[.int .i64 11, .int .i64 m, .int .i64 0]) (by simp [results, Tryd.results35, go_sem, d0, d1, d2]) rfl ⟨by rw [HF.out.1, HF.out.2.1, HF.out.2.2]; simp, ?_⟩
              repeat (first | exact Below.refl _ _ | assumption | refine Below.setCell ?_ (by first | (simp; done) | (simp; omega) | omega) _ | refine Below.alloc ?_ (by first | (simp; done) | (simp; omega) | omega) _ | refine Bx.bel_drewN ?_ _ | refine Below.drew ?_)
            · obtain ⟨q, rfl⟩ := Int.eq_ofNat_of_zero_le (show 0 ≤ d by omega)
              have hsc : (t.extract 0 q ++ t.extract (q + 1) t.size).size ≤ 1048576 := by simp [ByteArray.size_append, ByteArray.size_extract]; omega
              have hdg := fun w => l2Digits_any (t.extract 0 q ++ t.extract (q + 1) t.size) (by omega) w
              have hsz : ¬ ((t.extract 0 q).size + (t.extract (q + 1) t.size).size > 9223372036854775807) := by
                rw [← ByteArray.size_append]
                omega
              have hcl : (t.extract 0 q ++ t.extract (q + 1) t.size).data.toList = t.data.toList.take q ++ t.data.toList.drop (q + 1) := by
                have hl : t.data.toList.length = t.size := rfl
                rw [app_list]
                simp only [ByteArray.data_extract, Array.toList_extract, List.extract, Nat.sub_zero, List.drop_zero]
                rw [List.take_of_length_le (i := t.size - (q + 1)) (by rw [List.length_drop]; omega)]
              obtain ⟨m1, m2⟩ := l2d_bounds (t.extract 0 q ++ t.extract (q + 1) t.size).data.toList
              have HF : Hid (a = 12 ∧ b = 1 * DevB.l2d (t.extract 0 q ++ t.extract (q + 1) t.size).data.toList ∧ c = (t.size : Int) - q - 1) := Lib.hid (by
                have h := HT2.out
                unfold DevB.gt at h
                rw [HD.out, if_neg hneg] at h
                obtain ⟨h1, h2⟩ := Prod.mk.inj h
                obtain ⟨h2, h3⟩ := Prod.mk.inj h2
                rw [hcl]
                exact ⟨h1.symm, h2.symm, h3.symm⟩)
              clear hcl hsc
              generalize DevB.l2d (t.extract 0 q ++ t.extract (q + 1) t.size).data.toList = m at hdg HF m1 m2
              clear HT2 HD
              have q1 : (q : Int) ≤ (t.size : Int) := by omega
              have q2 : (q : Int) + 1 ≤ (t.size : Int) := by omega
              have q3 : IntKind.i64.wrap ((q : Int) + 1) = (q : Int) + 1 := by rw [IntWalk.i64_left]; exact IntWalk.wrap64_in _ (by omega)
              have q4 : IntKind.i64.wrap m = m := by rw [IntWalk.i64_left]; exact IntWalk.wrap64_in _ (by omega)
              have q5 : IntKind.i64.wrap (1 * m) = m := by rw [IntWalk.i64_left, IntWalk.wrap64_in _ (by omega)]; omega
              have bxc0 : w'.cell? ⟨w.heap.size, 0, none⟩ = some (.int .i64 0) := bx.cell 0
              have bxf0 : w'.frozen? ⟨w.heap.size, 0, none⟩ = false := bx.free 0
              have bxc1 : w'.cell? ⟨w.heap.size, 1, none⟩ = some (.int .i64 0) := bx.cell 1
              have bxf1 : w'.frozen? ⟨w.heap.size, 1, none⟩ = false := bx.free 1
              have bxc2 : w'.cell? ⟨w.heap.size, 2, none⟩ = some (.int .i64 0) := bx.cell 2
              have bxf2 : w'.frozen? ⟨w.heap.size, 2, none⟩ = false := bx.free 2
              go_wp2
              go_region_with (first | (go_at_call 44; refine (hdg _).mono ?_; rintro e w' ⟨rfl, rfl⟩))
              all_goals
                obtain ⟨d0, d1, d2⟩ := set3 bx rfl (.int .i64 12) (.int .i64 m) (.int .i64 ((t.size : Int) - q - 1))
                go_wp2
                refine bodyPost_ret (v := .agg #[.int .i64 12, .int .i64 m, .int .i64 ((t.size : Int) - q - 1)]) (by simp [results, Tryd.results35, go_sem, d0, d1, d2]) rfl ⟨by rw [HF.out.1, HF.out.2.1, HF.out.2.2]; simp, ?_⟩
                repeat (first | exact Below.refl _ _ | assumption | refine Below.setCell ?_ (by first | (simp; done) | (simp; omega) | omega) _ | refine Below.alloc ?_ (by first | (simp; done) | (simp; omega) | omega) _ | refine Bx.bel_drewN ?_ _ | refine Below.drew ?_)
end Go.Proofs.YtikcabmohlaanaaDoor
