/- The draws of FnElemKinds: an element, spoilt. -/
import Derived.Test.YtmlpobecilbknaaDoorRows
import Derived.Test.YtmlpobecilbknaaDoorWEk6
import Derived.WalkKit
import Derived.WalkSpells
import Derived.WalkLawsBesides
import Derived.OpenShut
import Derived.OwnWalk
import Derived.IntWalk
import Derived.Lib.Hide
import Derived.Deep.QuietTactic
import Derived.BigQuiet
import Derived.Deep.RegionHeld3
import Derived.Deep.RegionLaw
import Derived.Deep.RegionWith
namespace Go.Proofs.YtmlpobecilbknaaDoor
open Go.RowKit Bx Rdr ElemP
set_option linter.unusedVariables false

/-- what an element's operands are: at most N -/
def EA (N : Nat) (w : World) (g : Nat) (a : Option Addr) (n c : Nat) : Prop := n ≤ c ∧ c ≤ maxLen ∧ n ≤ N ∧ (n = 0 ∨ ∃ b, a = some ⟨b, 0, none⟩ ∧ b ≠ g ∧ Whole3 w b n)
def DrewA (N d : Nat) (w : World) (g j : Nat) (e : Ending) (w' : World) : Prop :=
  ∃ (op : Int) (a : Option Addr) (n c : Nat), e = .returned (.agg #[.int .i64 op, .slice a n c]) ∧ EA N w' g a n c ∧ Rd 82 w' g (j + d) ∧ Only g w w'
theorem only_grown {a w w' : World} {g b : Nat} (h : Only g a w) (k : w.grownBy w' (some b)) (hb : a.heap.size ≤ b) : Only g a w' :=
  ⟨k.os.trans h.os, k.tape.trans h.tape, k.output.trans h.output, Nat.le_trans h.size k.size, fun i hi hne => (k.block i (Nat.lt_of_lt_of_le hi h.size) (fun e => by injection e with e; omega)).trans (h.block i hi hne)⟩
theorem box_grown2 {w w' : World} {g b : Nat} {cs : Array Value} {t : TypeId} (h : Box w b cs t) (hg : w.grownBy w' (some g)) (hne : b ≠ g) : Box w' b cs t := (hg.block b h.lt (by simp; exact hne)).trans h
theorem Rd.grown2 {T : TypeId} {w w' : World} {g k b : Nat} (h : Rd T w g k) (hg : w.grownBy w' (some b)) (hr : g < b) : Rd T w' g k := Rd.grown h hg (fun i hi => by injection hi with hi; omega)
set_option maxRecDepth 100000 in
set_option maxHeartbeats 2000000 in
theorem l4Spoil_any (N : Nat) (hN : N ≤ 20) (op : Int) (a : Option Addr) (n c : Nat) (w : World) (g k : Nat) (h : Rd 82 w g k) (hk : k ≤ 20000) (he : EA N w g a n c) : Calls Tryd.prog 67 #[.pointer (some ⟨g, 0, none⟩), .agg #[.int .i64 op, .slice a n c]] w (DrewA (N + 1) 60 w g k) := by
  have hlt := h.lt
  obtain ⟨hnc, hcm, hnN, hx⟩ := he
  have be0 := ((Box.new w #[.int .i64 op, .slice a n c] 31).alloc (.cells #[.int .i64 0, .slice none 0 0] 31)).alloc (.cells #[] 40)
  have bw0 := (Box.new (w.alloc (.cells #[.int .i64 op, .slice a n c] 31)) #[.int .i64 0, .slice none 0 0] 31).alloc (.cells #[] 40)
  have hrow0 := Row3.empty ((w.alloc (.cells #[.int .i64 op, .slice a n c] 31)).alloc (.cells #[.int .i64 0, .slice none 0 0] 31)) (w.heap.size + 2) (by simp)
  have r0 : Rd 82 (((w.alloc (.cells #[.int .i64 op, .slice a n c] 31)).alloc (.cells #[.int .i64 0, .slice none 0 0] 31)).alloc (.cells #[] 40)) g k := ((h.alloc _).alloc _).alloc _
  have tw0 : Only g w (((w.alloc (.cells #[.int .i64 op, .slice a n c] 31)).alloc (.cells #[.int .i64 0, .slice none 0 0] 31)).alloc (.cells #[] 40)) := (((Only.refl g w).alloc _).alloc _).alloc _
  obtain ⟨gb, cb, w0, hr, rw0, hgr, hat⟩ := append_args 29 hrow0 a n c (hx.imp id fun ⟨b, e, hne, hw⟩ => ⟨b, e, ((hw.alloc _).alloc _).alloc _⟩) (by omega) (by simp)
  have hs1 : ((w.alloc (.cells #[.int .i64 op, .slice a n c] 31)).alloc (.cells #[.int .i64 0, .slice none 0 0] 31)).heap.size = w.heap.size + 1 + 1 := by simp
  have hs0 : (w.alloc (.cells #[.int .i64 op, .slice a n c] 31)).heap.size = w.heap.size + 1 := by simp
  rw [hs1] at hr hgr
  rw [hs0] at bw0
  rw [Nat.zero_add] at hr rw0
  have be0 := box_grown2 be0 hgr (by omega)
  have bw0 := box_grown2 bw0 hgr (by omega)
  have r0 := Rd.grown2 r0 hgr (by omega)
  have tw0 := only_grown tw0 hgr (by omega)
  have lgb := rw0.lt.1
  have lbe0 := be0.lt
  have lbw0 := bw0.lt
  have lrw0 := rw0.lt.2
  have lr0 := r0.lt
  have ls0 := tw0.size_le
  have HX := Lib.hid hx
  clear hx h hrow0 hgr hat hs1 hs0
  go_enter Tryd.func67, Tryd.ntmps67
  go_wp2_with (first | (at_builtin; refine wpList_append_run (by rfl) _ _ 29 (by rfl) (.slice (some ⟨w.heap.size + 1 + 1, 0, none⟩) 0 0) (.slice a n c) _ w0 (by rfl) (by rfl) hr ?_))
  clear hr
  go_wp2_with fail
  refine (pick_any w0 g k 6 r0 (by omega)).mono ?_
  rintro e w1 ⟨y, rfl, hy0, hy1, _, r1, ow1⟩
  have be1 := box_only (be0) ow1 (by omega)
  have bw1 := box_only (bw0) ow1 (by omega)
  have rw1 := Row3.only (rw0) ow1 (by omega)
  have tw1 := (tw0).trans ow1
  have lr1 := r1.lt
  have ls1 := tw1.size_le
  have lbe1 := be1.lt
  have lbw1 := bw1.lt
  have lrw1 := rw1.lt.2
  clear ow1 r0 tw0 be0 bw0 rw0 hy1
  by_cases h0 : y = 0
  · subst h0
    have hlit := cells_lit w1 [-1, 0, 1, 5, 11, 20, 21, 26, 37, 38] 3 (fun _ => True) (fun _ _ => trivial)
    go_wp2_with fail
    refine (num_any (w1.alloc (.cells (([-1, 0, 1, 5, 11, 20, 21, 26, 37, 38] : List Int).map (Value.int .i64)).toArray 3)) g (k + 1) w1.heap.size 10 10 (fun _ => True) (r1.alloc _) (by omega) (by omega) (by omega) (by simp) (by omega) hlit).mono ?_
    rintro e w2 ⟨z, rfl, _, r2, ow2⟩
    have bw2 := box_only (bw1.alloc (.cells (([-1, 0, 1, 5, 11, 20, 21, 26, 37, 38] : List Int).map (Value.int .i64)).toArray 3)) ow2 (by omega)
    have rw2 := Row3.only (rw1.alloc (.cells (([-1, 0, 1, 5, 11, 20, 21, 26, 37, 38] : List Int).map (Value.int .i64)).toArray 3)) ow2 (by omega)
    have tw2 := (tw1.alloc (.cells (([-1, 0, 1, 5, 11, 20, 21, 26, 37, 38] : List Int).map (Value.int .i64)).toArray 3)).trans ow2
    have lrw2 := rw2.lt.2
    clear hlit ow2 bw1 be1 rw1 tw1 r1
    have hlen := rw2.len
    have wh := (rw2.whole.far (p := ⟨w.heap.size + 1, 0, none⟩) (by simp; omega) (.int .i64 z)).far (p := ⟨w.heap.size + 1, 1, none⟩) (by simp; omega) (.slice (some ⟨gb, 0, none⟩) n cb)
    have e0 : w2.cell? ⟨w.heap.size + 1, 0, none⟩ = some (.int .i64 0) := (bw2.cell 0).trans (by rfl)
    have e1 : w2.cell? ⟨w.heap.size + 1, 1, none⟩ = some (.slice none 0 0) := (bw2.cell 1).trans (by rfl)
    have f0 : w2.frozen? ⟨w.heap.size + 1, 0, none⟩ = false := bw2.free 0
    have f1 : w2.frozen? ⟨w.heap.size + 1, 1, none⟩ = false := bw2.free 1
    have bz := (bw2.set 0 (.int .i64 z)).set 1 (.slice (some ⟨gb, 0, none⟩) n cb)
    have d0 := (bz.cell 0).trans (show _ = some (.int .i64 z) by rfl)
    have d1 := (bz.cell 1).trans (show _ = some (.slice (some ⟨gb, 0, none⟩) n cb) by rfl)
    have lz := bw2.lt
    have lzr := r2.lt
    have lzs := tw2.size_le
    clear bz
    go_wp2
    refine bodyPost_ret (v := .agg #[.int .i64 z, .slice (some ⟨gb, 0, none⟩) n cb]) (by simp [results, Tryd.results67, go_sem, d0, d1]) rfl ⟨z, _, n, cb, rfl, ⟨hlen.1, hlen.2, by omega, .inr ⟨gb, rfl, by omega, wh⟩⟩, ?_, ?_⟩
    · exact Rd.setCell (Rd.setCell (r2.mono (by omega)) (by simp; try omega) _) (by simp; try omega) _
    · exact Only.setCell (Only.setCell tw2 (by right; simp; try omega) _) (by right; simp; try omega) _
  have y0 : (y == 0) = false := beq_eq_false_iff_ne.2 h0
  by_cases h1 : y = 1
  · subst h1
    clear y0 h0
    obtain ⟨i0, hi0, hz⟩ := Option.map_eq_some_iff.1 infoArg
    simp only [Prod.mk.injEq] at hz
    obtain ⟨hz0, hz1, hz2⟩ := hz
    go_wp2_with fail
    have hS : ∀ w', Box w' w.heap.size #[.int .i64 op, .slice a n c] 31 → (w'.cell? ⟨w.heap.size, 0, none⟩ = some (.int .i64 op) ∧ Box w' w.heap.size #[.int .i64 op, .slice a n c] 31) := fun w' h1 => ⟨h1.cell 0, h1⟩
    go_region_held3 (fun w' => w'.cell? ⟨w.heap.size, 0, none⟩ = some (.int .i64 op) ∧ Box w' w.heap.size #[.int .i64 op, .slice a n c] 31)
      (first | assumption | exact hS _ be1 | exact hS _ be3 | (refine hS _ ?_; repeat (first | exact be1 | exact be2 | exact be3 | refine Box.far ?_ (by first | (simp; done) | (simp; omega) | omega) _ | refine Box.alloc ?_ _)))
      (first | (go_at_call 78; refine (l2Any_any _ g (k + 1) (by exact r1) (by omega)).mono ?_; rintro e w2 ⟨a2, b2, c2, rfl, r2, ow2⟩; have be2 := (box_only (by exact be1 : Box _ w.heap.size #[.int .i64 op, .slice a n c] 31) ow2 (by omega)); have bw2 := box_only (by exact bw1 : Box _ (w.heap.size + 1) #[.int .i64 0, .slice none 0 0] 31) ow2 (by omega); obtain ⟨zs, rw2⟩ := Row3.only (by exact rw1 : Row3 (w.heap.size + 2) _ gb n cb) ow2 (by omega); have lrw2 := World.ownsRow.lt rw2 gb rfl; have lbw2 := bw2.lt; have lbe2 := be2.lt; have lr2 := r2.lt; have tw2 := (by exact tw1.drew : Only g w _).trans ow2; clear ow2) | (refine step_append_lies _ (by rfl) _ _ _ (by rfl) (w.heap.size + 2) 40 i0 _ 3 24 Tryd.underlying29 hi0 hz0 hz1 hz2 rfl (by decide) _ n _ (by rfl) (rw2.alloc _) ⟨w2.heap.size, 0, none⟩ 1 1 [.int .i64 a2, .int .i64 b2, .int .i64 c2] (by rfl) (by rfl) (World.news_of_block (cs := #[.int .i64 a2, .int .i64 b2, .int .i64 c2]) (t := 40) (fr := (0, 0)) (heap_alloc_new w2 _)) (by simp [Value.oneCell']) (by omega) (by unfold maxLen; omega) (by omega) (by simp; omega) (w2.heap.size + 1) (by simp) ?_; intro gc cc w3 rw3 hgr hat hlt2; have be3 := box_grown2 (g := gb) (be2.alloc _) hgr (by omega); have bw3 := box_grown2 (g := gb) (bw2.alloc _) hgr (by omega); have e0 : w3.cell? ⟨w.heap.size + 1, 0, none⟩ = some (.int .i64 0) := (bw3.cell 0).trans (by rfl); have f0 : w3.frozen? ⟨w.heap.size + 1, 0, none⟩ = false := bw3.free 0; have e1 : w3.cell? ⟨w.heap.size + 1, 1, none⟩ = some (.slice none 0 0) := (bw3.cell 1).trans (by rfl); have f1 : w3.frozen? ⟨w.heap.size + 1, 1, none⟩ = false := bw3.free 1; have lbw3 := bw3.lt))
    have rw4 : Row3 (w.heap.size + 2) w3 gc (n + 1) cc := ⟨zs ++ [a2, b2, c2], by rw [List.map_append]; exact rw3⟩
    have r3 := Rd.grown2 (b := gb) (r2.alloc _) hgr (by omega)
    have tw3 := only_grown (b := gb) (tw2.alloc _) hgr (by omega)
    have lgc := rw4.lt.1
    have lgc2 := rw4.lt.2
    clear hS hgr hat rw3 rw2 be2 be3 bw2 r2 tw2 rw1 be1 bw1 tw1
    have hlen := rw4.len
    have wh := (rw4.whole.far (p := ⟨w.heap.size + 1, 0, none⟩) (by simp; omega) (.int .i64 op)).far (p := ⟨w.heap.size + 1, 1, none⟩) (by simp; omega) (.slice (some ⟨gc, 0, none⟩) (n + 1) cc)
    have e0 : w3.cell? ⟨w.heap.size + 1, 0, none⟩ = some (.int .i64 0) := (bw3.cell 0).trans (by rfl)
    have e1 : w3.cell? ⟨w.heap.size + 1, 1, none⟩ = some (.slice none 0 0) := (bw3.cell 1).trans (by rfl)
    have f0 : w3.frozen? ⟨w.heap.size + 1, 0, none⟩ = false := bw3.free 0
    have f1 : w3.frozen? ⟨w.heap.size + 1, 1, none⟩ = false := bw3.free 1
    have bz := (bw3.set 0 (.int .i64 op)).set 1 (.slice (some ⟨gc, 0, none⟩) (n + 1) cc)
    have d0 := (bz.cell 0).trans (show _ = some (.int .i64 op) by rfl)
    have d1 := (bz.cell 1).trans (show _ = some (.slice (some ⟨gc, 0, none⟩) (n + 1) cc) by rfl)
    have lz := bw3.lt
    have lzr := r3.lt
    have lzs := tw3.size_le
    clear bz
    go_wp2
    refine bodyPost_ret (v := .agg #[.int .i64 op, .slice (some ⟨gc, 0, none⟩) (n + 1) cc]) (by simp [results, Tryd.results67, go_sem, d0, d1]) rfl ⟨op, _, (n + 1), cc, rfl, ⟨hlen.1, hlen.2, by omega, .inr ⟨gc, rfl, by omega, wh⟩⟩, ?_, ?_⟩
    · exact Rd.setCell (Rd.setCell (r3.mono (by omega)) (by simp; try omega) _) (by simp; try omega) _
    · exact Only.setCell (Only.setCell tw3 (by right; simp; try omega) _) (by right; simp; try omega) _
  have y1 : (y == 1) = false := beq_eq_false_iff_ne.2 h1
  by_cases h2 : y = 2
  · subst h2
    clear y0 y1 h0 h1
    have c0 : w1.cell? ⟨w.heap.size, 0, none⟩ = some (.int .i64 op) := (be1.cell 0).trans (by rfl)
    have e0 : w1.cell? ⟨w.heap.size + 1, 0, none⟩ = some (.int .i64 0) := (bw1.cell 0).trans (by rfl)
    have e1 : w1.cell? ⟨w.heap.size + 1, 1, none⟩ = some (.slice none 0 0) := (bw1.cell 1).trans (by rfl)
    have f0 : w1.frozen? ⟨w.heap.size + 1, 0, none⟩ = false := bw1.free 0
    have f1 : w1.frozen? ⟨w.heap.size + 1, 1, none⟩ = false := bw1.free 1
    have bz := (bw1.set 0 (.int .i64 op)).set 1 (.slice none 0 0)
    have d0 := (bz.cell 0).trans (show _ = some (.int .i64 op) by rfl)
    have d1 := (bz.cell 1).trans (show _ = some (.slice none 0 0) by rfl)
    have lz := bw1.lt
    have lzr := r1.lt
    have lzs := tw1.size_le
    clear bz
    go_wp2
    refine bodyPost_ret (v := .agg #[.int .i64 op, .slice none 0 0]) (by simp [results, Tryd.results67, go_sem, d0, d1]) rfl ⟨op, none, 0, 0, rfl, ⟨Nat.le_refl _, Nat.zero_le _, Nat.zero_le _, .inl rfl⟩, ?_, ?_⟩
    · exact Rd.setCell (Rd.setCell (r1.mono (by omega)) (by simp; try omega) _) (by simp; try omega) _
    · exact Only.setCell (Only.setCell tw1 (by right; simp; try omega) _) (by right; simp; try omega) _
  have y2 : (y == 2) = false := beq_eq_false_iff_ne.2 h2
  clear h0 h1 h2
  by_cases hn0 : n = 0
  · subst hn0
    have c0 : w1.cell? ⟨w.heap.size, 0, none⟩ = some (.int .i64 op) := (be1.cell 0).trans (by rfl)
    have hlen := rw1.len
    have wh := (rw1.whole.far (p := ⟨w.heap.size + 1, 0, none⟩) (by simp; omega) (.int .i64 op)).far (p := ⟨w.heap.size + 1, 1, none⟩) (by simp; omega) (.slice (some ⟨gb, 0, none⟩) 0 cb)
    have e0 : w1.cell? ⟨w.heap.size + 1, 0, none⟩ = some (.int .i64 0) := (bw1.cell 0).trans (by rfl)
    have e1 : w1.cell? ⟨w.heap.size + 1, 1, none⟩ = some (.slice none 0 0) := (bw1.cell 1).trans (by rfl)
    have f0 : w1.frozen? ⟨w.heap.size + 1, 0, none⟩ = false := bw1.free 0
    have f1 : w1.frozen? ⟨w.heap.size + 1, 1, none⟩ = false := bw1.free 1
    have bz := (bw1.set 0 (.int .i64 op)).set 1 (.slice (some ⟨gb, 0, none⟩) 0 cb)
    have d0 := (bz.cell 0).trans (show _ = some (.int .i64 op) by rfl)
    have d1 := (bz.cell 1).trans (show _ = some (.slice (some ⟨gb, 0, none⟩) 0 cb) by rfl)
    have lz := bw1.lt
    have lzr := r1.lt
    have lzs := tw1.size_le
    clear bz
    go_wp2
    refine bodyPost_ret (v := .agg #[.int .i64 op, .slice (some ⟨gb, 0, none⟩) 0 cb]) (by simp [results, Tryd.results67, go_sem, d0, d1]) rfl ⟨op, _, 0, cb, rfl, ⟨hlen.1, hlen.2, by omega, .inr ⟨gb, rfl, by omega, wh⟩⟩, ?_, ?_⟩
    · exact Rd.setCell (Rd.setCell (r1.mono (by omega)) (by simp; try omega) _) (by simp; try omega) _
    · exact Only.setCell (Only.setCell tw1 (by right; simp; try omega) _) (by right; simp; try omega) _
  · have d0 : decide (0 < (n : Int)) = true := by simp; omega
    go_wp2_with fail
    refine (pick_any w1 g (k + 1) n r1 (by omega)).mono ?_
    rintro e w2 ⟨q', rfl, hq0, hq1, _, r2, ow2⟩
    have be2 := box_only (be1) ow2 (by omega)
    have bw2 := box_only (bw1) ow2 (by omega)
    have rw2 := Row3.only (rw1) ow2 (by omega)
    have tw2 := (tw1).trans ow2
    have lr2 := r2.lt
    have ls2 := tw2.size_le
    have lbe2 := be2.lt
    have lbw2 := bw2.lt
    have lrw2 := rw2.lt.2
    clear ow2 r1 tw1 be1 bw1 rw1
    have hq2 := hq1 (by omega)
    obtain ⟨q, rfl⟩ := Int.eq_ofNat_of_zero_le hq0
    have hqn : q < n := by omega
    clear hq0 hq1
    obtain ⟨m0, mc0⟩ := rw2.whole.2 (q * 3) (by omega)
    have mf0 := rw2.free (q * 3)
    obtain ⟨m1, mc1⟩ := rw2.whole.2 (q * 3 + 1) (by omega)
    have mf1 := rw2.free (q * 3 + 1)
    obtain ⟨m2, mc2⟩ := rw2.whole.2 (q * 3 + 2) (by omega)
    have mf2 := rw2.free (q * 3 + 2)
    go_wp2_with fail
    refine (l2Spoilt_any w2 g (k + 1 + 1) m0 m1 m2 r2 (by omega)).mono ?_
    rintro e w3 ⟨a3, b3, c3, rfl, r3, ow3⟩
    have be3 := box_only (be2) ow3 (by omega)
    have bw3 := box_only (bw2) ow3 (by omega)
    have rw3 := Row3.only (rw2) ow3 (by omega)
    have tw3 := (tw2).trans ow3
    have lr3 := r3.lt
    have ls3 := tw3.size_le
    have lbe3 := be3.lt
    have lbw3 := bw3.lt
    have lrw3 := rw3.lt.2
    clear ow3 r2 tw2 be2 bw2 rw2 mc0 mc1 mc2 mf0 mf1 mf2
    obtain ⟨m0, mc0⟩ := rw3.whole.2 (q * 3) (by omega)
    have mf0 := rw3.free (q * 3)
    obtain ⟨m1, mc1⟩ := rw3.whole.2 (q * 3 + 1) (by omega)
    have mf1 := rw3.free (q * 3 + 1)
    obtain ⟨m2, mc2⟩ := rw3.whole.2 (q * 3 + 2) (by omega)
    have mf2 := rw3.free (q * 3 + 2)
    have be4 : Box (((w3.setCell ⟨gb, q * 3, none⟩ (.int .i64 a3)).setCell ⟨gb, q * 3 + 1, none⟩ (.int .i64 b3)).setCell ⟨gb, q * 3 + 2, none⟩ (.int .i64 c3)) w.heap.size #[.int .i64 op, .slice a n c] 31 := ((be3.far (p := ⟨gb, q * 3, none⟩) (by simp; omega) _).far (p := ⟨gb, q * 3 + 1, none⟩) (by simp; omega) _).far (p := ⟨gb, q * 3 + 2, none⟩) (by simp; omega) _
    have bw4 : Box (((w3.setCell ⟨gb, q * 3, none⟩ (.int .i64 a3)).setCell ⟨gb, q * 3 + 1, none⟩ (.int .i64 b3)).setCell ⟨gb, q * 3 + 2, none⟩ (.int .i64 c3)) (w.heap.size + 1) #[.int .i64 0, .slice none 0 0] 31 := ((bw3.far (p := ⟨gb, q * 3, none⟩) (by simp; omega) _).far (p := ⟨gb, q * 3 + 1, none⟩) (by simp; omega) _).far (p := ⟨gb, q * 3 + 2, none⟩) (by simp; omega) _
    have rw4 : Row3 (w.heap.size + 2) (((w3.setCell ⟨gb, q * 3, none⟩ (.int .i64 a3)).setCell ⟨gb, q * 3 + 1, none⟩ (.int .i64 b3)).setCell ⟨gb, q * 3 + 2, none⟩ (.int .i64 c3)) gb n cb := ((rw3.set (q * 3) a3).set (q * 3 + 1) b3).set (q * 3 + 2) c3
    have r4 : Rd 82 (((w3.setCell ⟨gb, q * 3, none⟩ (.int .i64 a3)).setCell ⟨gb, q * 3 + 1, none⟩ (.int .i64 b3)).setCell ⟨gb, q * 3 + 2, none⟩ (.int .i64 c3)) g (k + 20) := (((r3.setCell (by simp; omega) _).setCell (by simp; omega) _).setCell (by simp; omega) _).mono (by omega)
    have tw4 : Only g w (((w3.setCell ⟨gb, q * 3, none⟩ (.int .i64 a3)).setCell ⟨gb, q * 3 + 1, none⟩ (.int .i64 b3)).setCell ⟨gb, q * 3 + 2, none⟩ (.int .i64 c3)) := ((tw3.setCell (by right; simp; omega) _).setCell (by right; simp; omega) _).setCell (by right; simp; omega) _
    have hgen := Lib.hid (And.intro be4 (And.intro bw4 (And.intro rw4 (And.intro r4 tw4))))
    clear be4 bw4 rw4 r4 tw4
    go_wp2_with fail
    obtain ⟨be4, bw4, rw4, r4, tw4⟩ := hgen.out
    clear hgen be3 bw3 rw3 r3 tw3 mc0 mc1 mc2 mf0 mf1 mf2
    generalize (((w3.setCell ⟨gb, q * 3, none⟩ (.int .i64 a3)).setCell ⟨gb, q * 3 + 1, none⟩ (.int .i64 b3)).setCell ⟨gb, q * 3 + 2, none⟩ (.int .i64 c3)) = w4 at be4 bw4 rw4 r4 tw4 ⊢
    refine (pick_any w4 g (k + 20) 2 r4 (by omega)).mono ?_
    rintro e w5 ⟨p, rfl, hp0, hp1, _, r5, ow5⟩
    have be5 := box_only (be4) ow5 (by omega)
    have bw5 := box_only (bw4) ow5 (by omega)
    have rw5 := Row3.only (rw4) ow5 (by omega)
    have tw5 := (tw4).trans ow5
    have lr5 := r5.lt
    have ls5 := tw5.size_le
    have lbe5 := be5.lt
    have lbw5 := bw5.lt
    have lrw5 := rw5.lt.2
    clear ow5 r4 tw4 be4 bw4 rw4 hp1
    by_cases hp : p = 0
    · subst hp
      go_wp2_with fail
      refine (l2Any_any w5 g (k + 20 + 1) r5 (by omega)).mono ?_
      rintro e w6 ⟨a6, b6, c6, rfl, r6, ow6⟩
      have be6 := box_only (be5) ow6 (by omega)
      have bw6 := box_only (bw5) ow6 (by omega)
      have rw6 := Row3.only (rw5) ow6 (by omega)
      have tw6 := (tw5).trans ow6
      have lr6 := r6.lt
      have ls6 := tw6.size_le
      have lbe6 := be6.lt
      have lbw6 := bw6.lt
      have lrw6 := rw6.lt.2
      clear ow6 r5 tw5 be5 bw5 rw5
      obtain ⟨m0, mc0⟩ := rw6.whole.2 (q * 3) (by omega)
      have mf0 := rw6.free (q * 3)
      obtain ⟨m1, mc1⟩ := rw6.whole.2 (q * 3 + 1) (by omega)
      have mf1 := rw6.free (q * 3 + 1)
      obtain ⟨m2, mc2⟩ := rw6.whole.2 (q * 3 + 2) (by omega)
      have mf2 := rw6.free (q * 3 + 2)
      have be7 : Box (((w6.setCell ⟨gb, q * 3, none⟩ (.int .i64 a6)).setCell ⟨gb, q * 3 + 1, none⟩ (.int .i64 b6)).setCell ⟨gb, q * 3 + 2, none⟩ (.int .i64 c6)) w.heap.size #[.int .i64 op, .slice a n c] 31 := ((be6.far (p := ⟨gb, q * 3, none⟩) (by simp; omega) _).far (p := ⟨gb, q * 3 + 1, none⟩) (by simp; omega) _).far (p := ⟨gb, q * 3 + 2, none⟩) (by simp; omega) _
      have bw7 : Box (((w6.setCell ⟨gb, q * 3, none⟩ (.int .i64 a6)).setCell ⟨gb, q * 3 + 1, none⟩ (.int .i64 b6)).setCell ⟨gb, q * 3 + 2, none⟩ (.int .i64 c6)) (w.heap.size + 1) #[.int .i64 0, .slice none 0 0] 31 := ((bw6.far (p := ⟨gb, q * 3, none⟩) (by simp; omega) _).far (p := ⟨gb, q * 3 + 1, none⟩) (by simp; omega) _).far (p := ⟨gb, q * 3 + 2, none⟩) (by simp; omega) _
      have rw7 : Row3 (w.heap.size + 2) (((w6.setCell ⟨gb, q * 3, none⟩ (.int .i64 a6)).setCell ⟨gb, q * 3 + 1, none⟩ (.int .i64 b6)).setCell ⟨gb, q * 3 + 2, none⟩ (.int .i64 c6)) gb n cb := ((rw6.set (q * 3) a6).set (q * 3 + 1) b6).set (q * 3 + 2) c6
      have r7 : Rd 82 (((w6.setCell ⟨gb, q * 3, none⟩ (.int .i64 a6)).setCell ⟨gb, q * 3 + 1, none⟩ (.int .i64 b6)).setCell ⟨gb, q * 3 + 2, none⟩ (.int .i64 c6)) g (k + 40) := (((r6.setCell (by simp; omega) _).setCell (by simp; omega) _).setCell (by simp; omega) _).mono (by omega)
      have tw7 : Only g w (((w6.setCell ⟨gb, q * 3, none⟩ (.int .i64 a6)).setCell ⟨gb, q * 3 + 1, none⟩ (.int .i64 b6)).setCell ⟨gb, q * 3 + 2, none⟩ (.int .i64 c6)) := ((tw6.setCell (by right; simp; omega) _).setCell (by right; simp; omega) _).setCell (by right; simp; omega) _
      have hgen := Lib.hid (And.intro be7 (And.intro bw7 (And.intro rw7 (And.intro r7 tw7))))
      clear be7 bw7 rw7 r7 tw7
      have c0 : w6.cell? ⟨w.heap.size, 0, none⟩ = some (.int .i64 op) := (be6.cell 0).trans (by rfl)
      have e0 : w6.cell? ⟨w.heap.size + 1, 0, none⟩ = some (.int .i64 0) := (bw6.cell 0).trans (by rfl)
      have e1 : w6.cell? ⟨w.heap.size + 1, 1, none⟩ = some (.slice none 0 0) := (bw6.cell 1).trans (by rfl)
      have f0 : w6.frozen? ⟨w.heap.size + 1, 0, none⟩ = false := bw6.free 0
      have f1 : w6.frozen? ⟨w.heap.size + 1, 1, none⟩ = false := bw6.free 1
      obtain ⟨be7, bw7, rw7, r7, tw7⟩ := hgen.out
      clear hgen
      have ne0 : ¬ gb = w.heap.size := by omega
      have ne1 : ¬ gb = w.heap.size + 1 := by omega
      have hlen := rw7.len
      have wh := (rw7.whole.far (p := ⟨w.heap.size + 1, 0, none⟩) (by simp; omega) (.int .i64 op)).far (p := ⟨w.heap.size + 1, 1, none⟩) (by simp; omega) (.slice (some ⟨gb, 0, none⟩) n cb)
      have bz := (bw7.set 0 (.int .i64 op)).set 1 (.slice (some ⟨gb, 0, none⟩) n cb)
      have d0 := (bz.cell 0).trans (show _ = some (.int .i64 op) by rfl)
      have d1 := (bz.cell 1).trans (show _ = some (.slice (some ⟨gb, 0, none⟩) n cb) by rfl)
      have lz := bw7.lt
      have lzr := r7.lt
      have lzs := tw7.size_le
      clear bz
      go_wp2
      refine bodyPost_ret (v := .agg #[.int .i64 op, .slice (some ⟨gb, 0, none⟩) n cb]) (by simp [results, Tryd.results67, go_sem, d0, d1]) rfl ⟨op, _, n, cb, rfl, ⟨hlen.1, hlen.2, by omega, .inr ⟨gb, rfl, by omega, wh⟩⟩, ?_, ?_⟩
      · exact Rd.setCell (Rd.setCell (r7.mono (by omega)) (by simp; try omega) _) (by simp; try omega) _
      · exact Only.setCell (Only.setCell tw7 (by right; simp; try omega) _) (by right; simp; try omega) _
    · have hp2 : (p == 0) = false := beq_eq_false_iff_ne.2 hp
      clear hp
      have c0 : w5.cell? ⟨w.heap.size, 0, none⟩ = some (.int .i64 op) := (be5.cell 0).trans (by rfl)
      have hlen := rw5.len
      have wh := (rw5.whole.far (p := ⟨w.heap.size + 1, 0, none⟩) (by simp; omega) (.int .i64 op)).far (p := ⟨w.heap.size + 1, 1, none⟩) (by simp; omega) (.slice (some ⟨gb, 0, none⟩) n cb)
      have e0 : w5.cell? ⟨w.heap.size + 1, 0, none⟩ = some (.int .i64 0) := (bw5.cell 0).trans (by rfl)
      have e1 : w5.cell? ⟨w.heap.size + 1, 1, none⟩ = some (.slice none 0 0) := (bw5.cell 1).trans (by rfl)
      have f0 : w5.frozen? ⟨w.heap.size + 1, 0, none⟩ = false := bw5.free 0
      have f1 : w5.frozen? ⟨w.heap.size + 1, 1, none⟩ = false := bw5.free 1
      have bz := (bw5.set 0 (.int .i64 op)).set 1 (.slice (some ⟨gb, 0, none⟩) n cb)
      have d0 := (bz.cell 0).trans (show _ = some (.int .i64 op) by rfl)
      have d1 := (bz.cell 1).trans (show _ = some (.slice (some ⟨gb, 0, none⟩) n cb) by rfl)
      have lz := bw5.lt
      have lzr := r5.lt
      have lzs := tw5.size_le
      clear bz
      go_wp2
      refine bodyPost_ret (v := .agg #[.int .i64 op, .slice (some ⟨gb, 0, none⟩) n cb]) (by simp [results, Tryd.results67, go_sem, d0, d1]) rfl ⟨op, _, n, cb, rfl, ⟨hlen.1, hlen.2, by omega, .inr ⟨gb, rfl, by omega, wh⟩⟩, ?_, ?_⟩
      · exact Rd.setCell (Rd.setCell (r5.mono (by omega)) (by simp; try omega) _) (by simp; try omega) _
      · exact Only.setCell (Only.setCell tw5 (by right; simp; try omega) _) (by right; simp; try omega) _
end Go.Proofs.YtmlpobecilbknaaDoor
