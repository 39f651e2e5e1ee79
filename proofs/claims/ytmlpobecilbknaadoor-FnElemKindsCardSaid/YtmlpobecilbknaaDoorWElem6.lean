/- Operands copied and compared. -/
import Derived.Test.YtmlpobecilbknaaDoorRows
import Derived.Test.YtmlpobecilbknaaDoorWElem2
import Derived.WalkKit
import Derived.WalkSpells
import Derived.WalkLawsBesides
import Derived.OpenShut
import Derived.IntWalk
import Derived.Lib.Hide
import Derived.Deep.QuietTactic
import Derived.BigQuiet
import Derived.Deep.RegionHeld3
import Derived.Deep.RegionWith
import Derived.Deep.OwnRows
namespace Go.Proofs.YtmlpobecilbknaaDoor
open Go.RowKit Bx ElemP
set_option linter.unusedVariables false

/-- a row of n operands of which the first k are set -/
def Out (w : World) (h n k : Nat) (xs : List Arg) (t : TypeId) : Prop := ∃ cs : Array Value, Box w h cs t ∧ cs.size = n * 3 ∧ ∀ i x, i < k → xs[i]? = some x → cs[i * 3]? = some (.int .i64 x.1) ∧ cs[i * 3 + 1]? = some (.int .i64 x.2.1) ∧ cs[i * 3 + 2]? = some (.int .i64 x.2.2)
theorem Out.lt {w : World} {h n k : Nat} {xs : List Arg} {t : TypeId} (H : Out w h n k xs t) : h < w.heap.size := by obtain ⟨cs, hb, _⟩ := H; exact hb.lt
theorem Out.kept {w w' : World} {h n k : Nat} {xs : List Arg} {t : TypeId} (H : Out w h n k xs t) (hb : Below w.heap.size w w') : Out w' h n k xs t := by obtain ⟨cs, hbx, hr⟩ := H; exact ⟨cs, hbx.kept hb, hr⟩
theorem Out.drewN {w : World} {h n k : Nat} {xs : List Arg} {t : TypeId} (H : Out w h n k xs t) (m : Nat) : Out (w.drewN m) h n k xs t := H
theorem Out.cells {w : World} {h n k : Nat} {xs : List Arg} {t : TypeId} (H : Out w h n k xs t) (i : Nat) (hi : i < n * 3) : ∃ v, w.cell? ⟨h, i, none⟩ = some v := by
  obtain ⟨cs, hb, hs, _⟩ := H
  exact ⟨cs[i]'(by omega), by rw [hb.cell i]; exact Array.getElem?_eq_getElem _⟩
theorem Out.free {w : World} {h n k : Nat} {xs : List Arg} {t : TypeId} (H : Out w h n k xs t) (i : Nat) : w.frozen? ⟨h, i, none⟩ = false := by
  obtain ⟨cs, hb, _⟩ := H; exact hb.free i
theorem Out.step {w : World} {h n k : Nat} {xs : List Arg} {t : TypeId} {x : Arg} (H : Out w h n k xs t) (hx : xs[k]? = some x) (hk : k < n) : Out (((w.setCell ⟨h, k * 3, none⟩ (.int .i64 x.1)).setCell ⟨h, k * 3 + 1, none⟩ (.int .i64 x.2.1)).setCell ⟨h, k * 3 + 2, none⟩ (.int .i64 x.2.2)) h n (k + 1) xs t := by
  obtain ⟨cs, hb, hs, hc⟩ := H
  refine ⟨_, ((hb.set (k * 3) _).set (k * 3 + 1) _).set (k * 3 + 2) _, by simpa using hs, fun i y hi hy => ?_⟩
  simp only [Array.getElem?_setIfInBounds, Array.size_setIfInBounds]
  by_cases e : i = k
  · subst e
    obtain rfl : x = y := Option.some.inj (hx.symm.trans hy)
    refine ⟨?_, ?_, ?_⟩
    · rw [if_neg (by omega), if_neg (by omega), if_pos rfl, if_pos (by omega)]
    · rw [if_neg (by omega), if_pos rfl, if_pos (by omega)]
    · rw [if_pos rfl, if_pos (by omega)]
  · obtain ⟨a, b, c⟩ := hc i y (by omega) hy
    refine ⟨?_, ?_, ?_⟩
    · rw [if_neg (by omega), if_neg (by omega), if_neg (by omega)]; exact a
    · rw [if_neg (by omega), if_neg (by omega), if_neg (by omega)]; exact b
    · rw [if_neg (by omega), if_neg (by omega), if_neg (by omega)]; exact c
theorem Out.lie {w : World} {h n k : Nat} {xs : List Arg} {t : TypeId} (H : Out w h n k xs t) (hk : xs.length ≤ k) : Lie w h 0 xs := by
  refine ⟨H.lt, fun i x hx => ?_⟩
  obtain ⟨cs, hb, hs, hc⟩ := H
  have hi : i < xs.length := (List.getElem?_eq_some_iff.1 hx).1
  obtain ⟨a, b, c⟩ := hc i x (by omega) hx
  rw [Nat.zero_add, hb.cell, hb.cell, hb.cell]
  exact ⟨a, b, c⟩
theorem Out.new (w : World) (n : Nat) (xs : List Arg) (z : Array Value) (t : TypeId) : Out (w.alloc (.cells (madeCells z (n * 3)) t)) w.heap.size n 0 xs t :=
  ⟨_, Box.new w _ t, size_madeCells _ _, fun i x hi => absurd hi (Nat.not_lt_zero _)⟩
theorem infoArg : (Tryd.prog.info? 40).map (fun i => (i.zero, i.size, i.bytes)) = some (some (.agg #[.int .i64 0, .int .i64 0, .int .i64 0]), 3, 24) := by kernel_rfl
theorem make_args (n : Nat) (h : n ≤ 1048576) (kl kc : IntKind) (w : World) : (Instr.makeSlice 29 (.int kl (n : Int)) (.int kc (n : Int))).run Tryd.prog w = .ok (.slice (some ⟨w.heap.size, 0, none⟩) n n) (w.alloc (.cells (madeCells #[.int .i64 0, .int .i64 0, .int .i64 0] (n * 3)) 40)) := by
  obtain ⟨i, hi, hz⟩ := Option.map_eq_some_iff.1 infoArg
  simp only [Prod.mk.injEq] at hz
  obtain ⟨hz, hs, hb⟩ := hz
  have hr := run_make (P := Tryd.prog) w 29 40 i _ Tryd.underlying29 hi hz kl kc n n (by omega) (Int.le_refl _) (by rw [hb]; omega) (by omega)
  simp only [Int.toNat_natCast, hs] at hr
  exact hr
/-- operands of a slice: none, or lying there -/
def In (w : World) (a : Option Addr) (xs : List Arg) : Prop := xs = [] ∨ ∃ g o, a = some ⟨g, o, none⟩ ∧ Lie w g o xs
theorem In.kept {w w' : World} {a : Option Addr} {xs : List Arg} (h : In w a xs) (hb : Below w.heap.size w w') : In w' a xs := by
  rcases h with h | ⟨g, o, rfl, hl⟩
  · exact .inl h
  · exact .inr ⟨g, o, rfl, hl.kept hb⟩
theorem Lie.same {w w' : World} {g o : Nat} {xs : List Arg} (h : Lie w g o xs) (hs : w.heap.size ≤ w'.heap.size) (hb : w'.heap[g]? = w.heap[g]?) : Lie w' g o xs :=
  ⟨Nat.lt_of_lt_of_le h.1 hs, fun i x hx => by obtain ⟨a, b, c⟩ := h.2 i x hx; simp only [World.cell?, hb] at a b c ⊢; exact ⟨a, b, c⟩⟩
theorem Lie.far {w : World} {g o : Nat} {xs : List Arg} (h : Lie w g o xs) {p : Addr} (hp : g ≠ p.block) (u : Value) : Lie (w.setCell p u) g o xs := h.same (by simp) (Below.heap_setCell w p u g hp)
set_option maxRecDepth 100000 in
set_option maxHeartbeats 1000000 in
theorem toArgs_any (a : Option Addr) (n c : Nat) (xs : List Arg) (hn : n = xs.length) (h3 : n ≤ 1048576) (w : World) (hI : In w a xs) :
    Calls Tryd.prog 24 #[.slice a n c] w fun e w' => ∃ h, e = .returned (.slice (some ⟨h, 0, none⟩) n n) ∧ w.heap.size ≤ h ∧ Lie w' h 0 xs ∧ Below w.heap.size w w' := by
  have hmk := make_args n h3
  have HN := Lib.hid hn
  have HI := Lib.hid hI
  have hO := Out.new w n xs #[.int .i64 0, .int .i64 0, .int .i64 0] 40
  have hB : Below w.heap.size w (w.alloc (.cells (madeCells #[.int .i64 0, .int .i64 0, .int .i64 0] (n * 3)) 40)) := by repeat (first | exact Below.refl _ _ | assumption | refine Below.setCell ?_ (by first | (simp; done) | (simp; omega) | omega) _ | refine Below.alloc ?_ (by first | (simp; done) | (simp; omega) | omega) _ | refine Bx.bel_drewN ?_ _ | refine Below.drew ?_)
  have HO := Lib.hid (And.intro hO hB)
  clear hn hI hO hB
  go_enter Tryd.func24, Tryd.ntmps24
  go_wp2_with fail
  go_loopw [4] (fun i wr => ∃ k : Nat, k ≤ n ∧ i = .int .i64 k ∧ Out wr w.heap.size n k xs 40 ∧ Below w.heap.size w wr) (fun i _ => n - (intOf i).toNat)
  case atStart => exact ⟨0, by omega, rfl, HO.out.1, HO.out.2⟩
  case round =>
    obtain ⟨k, hk, rfl, hout, hbel⟩ := hrel
    by_cases hlt : k < n
    · obtain ⟨z, hz⟩ : ∃ z, xs[k]? = some z := ⟨_, List.getElem?_eq_getElem (by have := HN.out; omega)⟩
      rcases HI.out with h0 | ⟨g, o, rfl, hl⟩
      · rw [h0] at hz; simp at hz
      have hl := hl.kept hbel
      obtain ⟨q0, q1, q2⟩ := hl.2 k z hz
      obtain ⟨u0, m0⟩ := hout.cells (k * 3) (by omega)
      obtain ⟨u1, m1⟩ := hout.cells (k * 3 + 1) (by omega)
      obtain ⟨u2, m2⟩ := hout.cells (k * 3 + 2) (by omega)
      have f0 := hout.free (k * 3)
      have f1 := hout.free (k * 3 + 1)
      have f2 := hout.free (k * 3 + 2)
      have cz := fun w => toDevArg_any z.1 z.2.1 z.2.2 w
      have d1 : (k : Int) < (n : Int) := by omega
      have HZ := Lib.hid hz
      obtain ⟨z0, z1, z2⟩ := z
      simp only at q0 q1 q2 cz
      clear hz hl m0 m1 m2 f0 f1 f2
      go_wp2_with fail
      refine (cz _).mono ?_
      rintro e w1 ⟨rfl, hb1⟩
      have hout1 := hout.kept hb1
      have hB1 : Below w.heap.size w w1 := bel_step hbel hb1 hbel.size
      obtain ⟨u0, m0⟩ := hout1.cells (k * 3) (by omega)
      obtain ⟨u1, m1⟩ := hout1.cells (k * 3 + 1) (by omega)
      obtain ⟨u2, m2⟩ := hout1.cells (k * 3 + 2) (by omega)
      have f0 := hout1.free (k * 3)
      have f1 := hout1.free (k * 3 + 1)
      have f2 := hout1.free (k * 3 + 2)
      have hnew := Out.step hout1 HZ.out hlt
      simp only at hnew
      have HS := Lib.hid (And.intro hnew (And.intro hB1 hout1.lt))
      clear hb1 cz hbel hout hout1 hnew hB1 q0 q1 q2
      go_wp2
      go_roundw
      case rel => exact ⟨k + 1, by omega, by go_num, HS.out.1, ((HS.out.2.1.setCell (by simp) _).setCell (by simp) _).setCell (by simp) _⟩
      case measure => simp [intOf]; omega
    · obtain rfl : k = n := by omega
      clear hmk
      go_wp2
      go_ret
      exact ⟨w.heap.size, rfl, Nat.le_refl _, hout.lie (by have := HN.out; omega), hbel⟩
set_option maxRecDepth 100000 in
set_option maxHeartbeats 1000000 in
theorem toElem_any (op : Int) (a : Option Addr) (n c : Nat) (xs : List Arg) (hn : n = xs.length) (h3 : n ≤ 1048576) (w : World) (hI : In w a xs) :
    Calls Tryd.prog 10 #[.agg #[.int .i64 op, .slice a n c]] w fun e w' => ∃ h, e = .returned (.agg #[.int .i64 op, .slice (some ⟨h, 0, none⟩) n n]) ∧ w.heap.size ≤ h ∧ Lie w' h 0 xs ∧ Below w.heap.size w w' := by
  have ht := fun w' (h : Below w.heap.size w w') => toArgs_any a n c xs hn h3 w' (hI.kept h)
  clear hI hn
  have B0 := Box.new ((w.alloc (.cells #[.int .i64 op, .slice a n c] 26)).alloc (.cells #[.int .i64 0, .slice none 0 0] 31)) #[.int .i64 op, .slice none 0 0] 31
  have R0 := (Box.new (w.alloc (.cells #[.int .i64 op, .slice a n c] 26)) #[.int .i64 0, .slice none 0 0] 31).alloc (.cells #[.int .i64 op, .slice none 0 0] 31)
  have hB0 : Below w.heap.size w (((w.alloc (.cells #[.int .i64 op, .slice a n c] 26)).alloc (.cells #[.int .i64 0, .slice none 0 0] 31)).alloc (.cells #[.int .i64 op, .slice none 0 0] 31)) := by repeat (first | exact Below.refl _ _ | assumption | refine Below.setCell ?_ (by first | (simp; done) | (simp; omega) | omega) _ | refine Below.alloc ?_ (by first | (simp; done) | (simp; omega) | omega) _ | refine Bx.bel_drewN ?_ _ | refine Below.drew ?_)
  go_enter Tryd.func10, Tryd.ntmps10
  go_wp2_with fail
  refine (ht _ hB0).mono ?_
  rintro e w1 ⟨h, rfl, hhl, hl, hb1⟩
  have b1 : Box w1 (w.heap.size + 1 + 1) #[.int .i64 op, .slice none 0 0] 31 := by have := B0.kept hb1; simpa using this
  have r1 : Box w1 (w.heap.size + 1) #[.int .i64 0, .slice none 0 0] 31 := by have := R0.kept hb1; simpa using this
  have hB1 : Below w.heap.size w w1 := bel_step hB0 hb1 hB0.size
  have hs0 : w.heap.size + 3 ≤ w1.heap.size := by have := hb1.size; simpa using this
  have hge : w.heap.size + 3 ≤ h := by simpa using hhl
  clear hb1 ht hB0 B0 R0 hhl
  have c0 : w1.cell? ⟨w.heap.size + 1 + 1, 0, none⟩ = some (.int .i64 op) := b1.cell 0
  have c1 : w1.cell? ⟨w.heap.size + 1 + 1, 1, none⟩ = some (.slice none 0 0) := b1.cell 1
  have d0 : w1.cell? ⟨w.heap.size + 1, 0, none⟩ = some (.int .i64 0) := r1.cell 0
  have d1 : w1.cell? ⟨w.heap.size + 1, 1, none⟩ = some (.slice none 0 0) := r1.cell 1
  have f1 : w1.frozen? ⟨w.heap.size + 1 + 1, 1, none⟩ = false := b1.free 1
  have g0 : w1.frozen? ⟨w.heap.size + 1, 0, none⟩ = false := r1.free 0
  have g1 : w1.frozen? ⟨w.heap.size + 1, 1, none⟩ = false := r1.free 1
  go_wp2
  have rX := ((r1.far (p := ⟨w.heap.size + 1 + 1, 1, none⟩) (by simp) (.slice (some ⟨h, 0, none⟩) n n)).set 0 (.int .i64 op)).set 1 (.slice (some ⟨h, 0, none⟩) n n)
  have hl2 := ((hl.far (p := ⟨w.heap.size + 1 + 1, 1, none⟩) (by simp; omega) (.slice (some ⟨h, 0, none⟩) n n)).far (p := ⟨w.heap.size + 1, 0, none⟩) (by simp; omega) (.int .i64 op)).far (p := ⟨w.heap.size + 1, 1, none⟩) (by simp; omega) (.slice (some ⟨h, 0, none⟩) n n)
  have hB2 : Below w.heap.size w (((w1.setCell ⟨w.heap.size + 1 + 1, 1, none⟩ (.slice (some ⟨h, 0, none⟩) n n)).setCell ⟨w.heap.size + 1, 0, none⟩ (.int .i64 op)).setCell ⟨w.heap.size + 1, 1, none⟩ (.slice (some ⟨h, 0, none⟩) n n)) := ((hB1.setCell (by simp; omega) _).setCell (by simp) _).setCell (by simp) _
  generalize (((w1.setCell ⟨w.heap.size + 1 + 1, 1, none⟩ (.slice (some ⟨h, 0, none⟩) n n)).setCell ⟨w.heap.size + 1, 0, none⟩ (.int .i64 op)).setCell ⟨w.heap.size + 1, 1, none⟩ (.slice (some ⟨h, 0, none⟩) n n)) = X at rX hl2 hB2 ⊢
  have x0 : X.cell? ⟨w.heap.size + 1, 0, none⟩ = some (.int .i64 op) := rX.cell 0
  have x1 : X.cell? ⟨w.heap.size + 1, 1, none⟩ = some (.slice (some ⟨h, 0, none⟩) n n) := rX.cell 1
  exact bodyPost_ret (v := .agg #[.int .i64 op, .slice (some ⟨h, 0, none⟩) n n]) (by simp [results, Tryd.results10, go_sem, x0, x1]) rfl ⟨h, rfl, by omega, hl2, hB2⟩
set_option maxRecDepth 100000 in
set_option maxHeartbeats 1000000 in
theorem eqArg_same (a b d : Int) (w : World) : Calls Tryd.prog 63 #[.agg #[.int .i64 a, .int .i64 b, .int .i64 d], .agg #[.int .i64 a, .int .i64 b, .int .i64 d]] w fun e w' => e = .returned (.bool true) ∧ w' = (w.alloc (.cells #[.int .i64 a, .int .i64 b, .int .i64 d] 40)).alloc (.cells #[.int .i64 a, .int .i64 b, .int .i64 d] 40) := by
  go_enter Tryd.func63, Tryd.ntmps63
  go_wp2
  go_ret
  exact ⟨rfl, rfl⟩
set_option maxRecDepth 100000 in
set_option maxHeartbeats 1000000 in
theorem eqArgs_same (g h c d n : Nat) (xs : List Arg) (hn : n = xs.length) (h3 : n ≤ 1048576) (w : World) (hg : Lie w g 0 xs) (hh : Lie w h 0 xs) : Calls Tryd.prog 28 #[.slice (some ⟨g, 0, none⟩) n c, .slice (some ⟨h, 0, none⟩) n d] w fun e w' => e = .returned (.bool true) ∧ Below w.heap.size w w' := by
  have HN := Lib.hid hn
  have HG := Lib.hid hg
  have HH := Lib.hid hh
  clear hn hg hh
  go_enter Tryd.func28, Tryd.ntmps28
  go_wp2_with fail
  go_loopw [5] (fun i wr => ∃ k : Nat, k ≤ n ∧ i = .int .i64 k ∧ Below w.heap.size w wr) (fun i _ => n - (intOf i).toNat)
  case atStart => exact ⟨0, by omega, rfl, Below.refl _ _⟩
  case round =>
    obtain ⟨k, hk, rfl, hbel⟩ := hrel
    by_cases hlt : k < n
    · obtain ⟨z, hz⟩ : ∃ z, xs[k]? = some z := ⟨_, List.getElem?_eq_getElem (by have := HN.out; omega)⟩
      have l1 := HG.out.kept hbel
      have l2 := HH.out.kept hbel
      obtain ⟨q0, q1, q2⟩ := l1.at k z hz
      obtain ⟨r0, r1, r2⟩ := l2.at k z hz
      have cz := fun w => eqArg_same z.1 z.2.1 z.2.2 w
      obtain ⟨z0, z1, z2⟩ := z
      simp only at q0 q1 q2 r0 r1 r2 cz
      have d1 : (k : Int) < (n : Int) := by omega
      clear hz
      have s1 : g < wr.heap.size := l1.1
      have s2 : h < wr.heap.size := l2.1
      clear l1 l2
      go_wp2_with fail
      have hsz := hbel.size
      go_region_with (first | (go_at_call 63; refine (cz _).mono ?_; rintro e w' ⟨rfl, rfl⟩))
      all_goals
        clear cz q0 q1 q2 r0 r1 r2
        go_wp2
        go_roundw
        case rel => exact ⟨k + 1, by omega, by go_num, by repeat (first | exact hbel | refine Below.alloc ?_ (by first | assumption | (simp; done) | (simp; omega)) _ | refine Below.drew ?_)⟩
        case measure => simp [intOf]; omega
    · obtain rfl : k = n := by omega
      go_wp2
      go_ret
      exact ⟨rfl, hbel⟩
set_option maxRecDepth 100000 in
set_option maxHeartbeats 1000000 in
theorem eqElem_same (op : Int) (g h n : Nat) (xs : List Arg) (hn : n = xs.length) (h3 : n ≤ 1048576) (w : World) (hg : Lie w g 0 xs) (hh : Lie w h 0 xs) : Calls Tryd.prog 12 #[.agg #[.int .i64 op, .slice (some ⟨g, 0, none⟩) n n], .agg #[.int .i64 op, .slice (some ⟨h, 0, none⟩) n n]] w fun e w' => e = .returned (.bool true) ∧ Below w.heap.size w w' := by
  have hc := fun w' (hb : Below w.heap.size w w') => eqArgs_same g h n n n xs hn h3 w' (hg.kept hb) (hh.kept hb)
  clear hn hg hh
  go_enter Tryd.func12, Tryd.ntmps12
  go_wp2_with fail
  refine (hc _ (by repeat (first | exact Below.refl _ _ | assumption | refine Below.setCell ?_ (by first | (simp; done) | (simp; omega) | omega) _ | refine Below.alloc ?_ (by first | (simp; done) | (simp; omega) | omega) _ | refine Bx.bel_drewN ?_ _ | refine Below.drew ?_))).mono ?_
  rintro e w1 ⟨rfl, hb1⟩
  have hB1 : Below w.heap.size w w1 := bel_step (by repeat (first | exact Below.refl _ _ | assumption | refine Below.setCell ?_ (by first | (simp; done) | (simp; omega) | omega) _ | refine Below.alloc ?_ (by first | (simp; done) | (simp; omega) | omega) _ | refine Bx.bel_drewN ?_ _ | refine Below.drew ?_)) hb1 (by first | (simp; done) | (simp; omega))
  clear hb1 hc
  go_wp2
  go_ret
  exact ⟨rfl, hB1⟩
set_option maxRecDepth 100000 in
set_option maxHeartbeats 1000000 in
theorem sz_any (op : Int) (a : Option Addr) (n c : Nat) (w : World) (r : Int) (hr : (if 1048576 - (n : Int) < 0 then -1 else 1048576 - (n : Int)) = r) (h3 : n ≤ 9223372036854775807) : Calls Tryd.prog 8 #[.agg #[.int .i64 op, .slice a n c], .int .i64 1048576] w fun e w' => e = .returned (.int .i64 r) ∧ Below w.heap.size w w' := by
  have hs : ∀ w, Calls Tryd.prog 21 #[.slice a n c, .int .i64 1048576] w fun e w' => e = .returned (.int .i64 r) ∧ w' = w := by
    intro w
    by_cases hlt : 1048576 - (n : Int) < 0
    · rw [if_pos hlt] at hr
      subst hr
      have d : decide (1048576 - (n : Int) < 0) = true := by simpa using hlt
      go_enter Tryd.func21, Tryd.ntmps21
      go_wp2
      go_ret
      exact ⟨rfl, rfl⟩
    · rw [if_neg hlt] at hr
      subst hr
      have d : decide (1048576 - (n : Int) < 0) = false := by simpa using hlt
      go_enter Tryd.func21, Tryd.ntmps21
      go_wp2
      go_ret
      exact ⟨rfl, rfl⟩
  go_enter Tryd.func8, Tryd.ntmps8
  go_wp2_with fail
  refine (hs _).mono ?_
  rintro e w1 ⟨rfl, rfl⟩
  clear hs
  by_cases hlt : 1048576 - (n : Int) < 0
  · rw [if_pos hlt] at hr
    subst hr
    go_wp2
    go_ret
    exact ⟨rfl, by repeat (first | exact Below.refl _ _ | assumption | refine Below.setCell ?_ (by first | (simp; done) | (simp; omega) | omega) _ | refine Below.alloc ?_ (by first | (simp; done) | (simp; omega) | omega) _ | refine Bx.bel_drewN ?_ _ | refine Below.drew ?_)⟩
  · rw [if_neg hlt] at hr
    have d : decide (r < 0) = false := by simp; omega
    clear hr
    go_wp2
    go_ret
    exact ⟨rfl, by repeat (first | exact Below.refl _ _ | assumption | refine Below.setCell ?_ (by first | (simp; done) | (simp; omega) | omega) _ | refine Below.alloc ?_ (by first | (simp; done) | (simp; omega) | omega) _ | refine Bx.bel_drewN ?_ _ | refine Below.drew ?_)⟩
end Go.Proofs.YtmlpobecilbknaaDoor
