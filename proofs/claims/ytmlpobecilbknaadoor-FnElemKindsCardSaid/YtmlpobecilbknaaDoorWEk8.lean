/- The draws of FnElemKinds: an element. -/
import Derived.Test.YtmlpobecilbknaaDoorRows
import Derived.Test.YtmlpobecilbknaaDoorWEk5
import Derived.Test.YtmlpobecilbknaaDoorWEk7
import Derived.WalkKit
import Derived.WalkSpells
import Derived.WalkLawsBesides
import Derived.OpenShut
import Derived.OwnWalk
import Derived.IntWalk
import Derived.Lib.Hide
import Derived.Deep.QuietTactic
import Derived.BigQuiet
namespace Go.Proofs.YtmlpobecilbknaaDoor
open Go.RowKit Bx Rdr ElemP
set_option linter.unusedVariables false

theorem EA.of {w : World} {g : Nat} {a : Option Addr} {n c : Nat} {xs : List Arg} (h : EArr w g a n c xs) : EA 4 w g a n c := by
  obtain ⟨hn, hc, hm, h4, hx⟩ := h
  refine ⟨hc, by unfold maxLen; omega, h4, ?_⟩
  rcases hx with rfl | ⟨b, e, hne, hl⟩
  · exact .inl hn
  · exact .inr ⟨b, e, hne, by rw [hn]; exact Whole3.of_lie hl⟩
theorem EA.mono {N M : Nat} {w : World} {g : Nat} {a : Option Addr} {n c : Nat} (h : EA N w g a n c) (hN : N ≤ M) : EA M w g a n c := ⟨h.1, h.2.1, Nat.le_trans h.2.2.1 hN, h.2.2.2⟩
theorem EA.alloc {N : Nat} {w : World} {g : Nat} {a : Option Addr} {n c : Nat} (h : EA N w g a n c) (o : Obj) : EA N (w.alloc o) g a n c :=
  ⟨h.1, h.2.1, h.2.2.1, h.2.2.2.imp id fun ⟨b, e, hne, hw⟩ => ⟨b, e, hne, hw.alloc o⟩⟩
theorem EA.only {N : Nat} {w w' : World} {g : Nat} {a : Option Addr} {n c : Nat} (h : EA N w g a n c) (ho : Only g w w') : EA N w' g a n c :=
  ⟨h.1, h.2.1, h.2.2.1, h.2.2.2.imp id fun ⟨b, e, hne, hw⟩ => ⟨b, e, hne, hw.only ho hne⟩⟩
/-- a block that holds an element holds no operands -/
theorem whole_ne_box {w : World} {b n q : Nat} {v : Value} {x : Option Addr} {y z : Nat} {t : TypeId} (h : Whole3 w b n) (hn : n ≠ 0) (hb : Box w q #[v, .slice x y z] t) : b ≠ q := by
  rintro rfl
  obtain ⟨u, hu⟩ := h.2 1 (by omega)
  have := (hb.cell 1).symm.trans hu
  simp at this
/-- an element stored in a block that held one -/
theorem EA.put {N : Nat} {w : World} {g : Nat} {a : Option Addr} {n c : Nat} {q : Nat} {v : Value} {x : Option Addr} {y z : Nat} {t : TypeId} (h : EA N w g a n c) (hb : Box w q #[v, .slice x y z] t) (u0 u1 : Value) :
    EA N ((w.setCell ⟨q, 0, none⟩ u0).setCell ⟨q, 1, none⟩ u1) g a n c := by
  refine ⟨h.1, h.2.1, h.2.2.1, ?_⟩
  by_cases hn : n = 0
  · exact .inl hn
  rcases h.2.2.2 with h0 | ⟨b, e, hne, hw⟩
  · exact .inl h0
  · have hq := whole_ne_box hw hn hb
    exact .inr ⟨b, e, hne, (hw.far (p := ⟨q, 0, none⟩) hq u0).far (p := ⟨q, 1, none⟩) hq u1⟩
set_option maxRecDepth 100000 in
set_option maxHeartbeats 2000000 in
theorem l4Any_any (w : World) (g k : Nat) (h : Rd 82 w g k) (hk : k ≤ 10000) : Calls Tryd.prog 65 #[.pointer (some ⟨g, 0, none⟩)] w (DrewA 5 200 w g k) := by
  have hlt := h.lt
  have bw0 := Box.new w #[.int .i64 0, .slice none 0 0] 31
  have tw0 : Only g w (w.alloc (.cells #[.int .i64 0, .slice none 0 0] 31)) := (Only.refl g w).alloc _
  have r0 : Rd 82 (w.alloc (.cells #[.int .i64 0, .slice none 0 0] 31)) g k := h.alloc _
  clear h
  go_enter Tryd.func65, Tryd.ntmps65
  go_wp2_with fail
  refine (l4Coil_any (w.alloc (.cells #[.int .i64 0, .slice none 0 0] 31)) g k r0 (by omega)).mono ?_
  rintro e w1 ⟨op, a, n, c, xs, rfl, hE, r1, ow1⟩
  have bw1 := box_only (bw0) ow1 (by omega)
  have tw1 := (tw0).trans ow1
  have lr1 := r1.lt
  have ls1 := tw1.size_le
  have lbw1 := bw1.lt
  clear ow1
  have ea1 := EA.of hE
  have be1 := Box.new w1 #[.int .i64 op, .slice a n c] 31
  clear hE bw0 r0 tw0 xs
  go_wp2_with fail
  refine (pick_any (w1.alloc (.cells #[.int .i64 op, .slice a n c] 31)) g (k + 40) 2 (r1.alloc _) (by omega)).mono ?_
  rintro e w2 ⟨y, rfl, hy0, hy1, _, r2, ow2⟩
  have bw2 := box_only (bw1.alloc _) ow2 (by omega)
  have be2 := box_only (be1) ow2 (by omega)
  have ea2 := EA.only (ea1.alloc _) ow2
  have tw2 := (tw1.alloc _).trans ow2
  have lr2 := r2.lt
  have ls2 := tw2.size_le
  have lbw2 := bw2.lt
  have lbe2 := be2.lt
  clear ow2
  clear r1 tw1 bw1 be1 ea1 hy1
  by_cases hy : y = 0
  · subst hy
    go_wp2_with fail
    refine (l4Contact_any w2 g (k + 40 + 1) r2 (by omega)).mono ?_
    rintro e w3 ⟨op', a', n', c', xs', rfl, hE, r3, ow3⟩
    have bw3 := box_only (bw2) ow3 (by omega)
    have be3 := box_only (be2) ow3 (by omega)
    have tw3 := (tw2).trans ow3
    have lr3 := r3.lt
    have ls3 := tw3.size_le
    have lbw3 := bw3.lt
    have lbe3 := be3.lt
    clear ow3
    have ea3 := EA.of hE
    clear hE xs' ea2 r2 tw2 bw2 be2
    have m0 : w3.cell? ⟨w1.heap.size, 0, none⟩ = some (.int .i64 op) := (be3.cell 0).trans (by rfl)
    have m1 : w3.cell? ⟨w1.heap.size, 1, none⟩ = some (.slice a n c) := (be3.cell 1).trans (by rfl)
    have mf0 : w3.frozen? ⟨w1.heap.size, 0, none⟩ = false := be3.free 0
    have mf1 : w3.frozen? ⟨w1.heap.size, 1, none⟩ = false := be3.free 1
    have be4 : Box ((w3.setCell ⟨w1.heap.size, 0, none⟩ (.int .i64 op')).setCell ⟨w1.heap.size, 1, none⟩ (.slice a' n' c')) w1.heap.size #[.int .i64 op', .slice a' n' c'] 31 := (be3.set 0 (.int .i64 op')).set 1 (.slice a' n' c')
    have bw4 : Box ((w3.setCell ⟨w1.heap.size, 0, none⟩ (.int .i64 op')).setCell ⟨w1.heap.size, 1, none⟩ (.slice a' n' c')) w.heap.size #[.int .i64 0, .slice none 0 0] 31 := (bw3.far (p := ⟨w1.heap.size, 0, none⟩) (by simp; omega) _).far (p := ⟨w1.heap.size, 1, none⟩) (by simp; omega) _
    have ea4 := EA.put ea3 be3 (.int .i64 op') (.slice a' n' c')
    have r4 : Rd 82 ((w3.setCell ⟨w1.heap.size, 0, none⟩ (.int .i64 op')).setCell ⟨w1.heap.size, 1, none⟩ (.slice a' n' c')) g (k + 90) := (Rd.setCell (Rd.setCell r3 (by simp; omega) _) (by simp; omega) _).mono (by omega)
    have tw4 : Only g w ((w3.setCell ⟨w1.heap.size, 0, none⟩ (.int .i64 op')).setCell ⟨w1.heap.size, 1, none⟩ (.slice a' n' c')) := Only.setCell (Only.setCell tw3 (by right; simp; omega) _) (by right; simp; omega) _
    have hgen := Lib.hid (And.intro be4 (And.intro bw4 (And.intro ea4 (And.intro r4 tw4))))
    clear be4 bw4 ea4 r4 tw4
    go_wp2_with fail
    obtain ⟨be4, bw4, ea4, r4, tw4⟩ := hgen.out
    clear hgen be3 bw3 ea3 r3 tw3 m0 m1 mf0 mf1
    generalize ((w3.setCell ⟨w1.heap.size, 0, none⟩ (.int .i64 op')).setCell ⟨w1.heap.size, 1, none⟩ (.slice a' n' c')) = w4 at be4 bw4 ea4 r4 tw4 ⊢
    refine (pick_any w4 g (k + 90) 16 r4 (by omega)).mono ?_
    rintro e w5 ⟨z, rfl, hz0, hz1, _, r5, ow5⟩
    have bw5 := box_only (bw4) ow5 (by omega)
    have be5 := box_only (be4) ow5 (by omega)
    have ea5 := EA.only (ea4) ow5
    have tw5 := (tw4).trans ow5
    have lr5 := r5.lt
    have ls5 := tw5.size_le
    have lbw5 := bw5.lt
    have lbe5 := be5.lt
    clear ow5
    clear r4 tw4 bw4 be4 ea4 hz1
    have m0 : w5.cell? ⟨w1.heap.size, 0, none⟩ = some (.int .i64 op') := (be5.cell 0).trans (by rfl)
    have m1 : w5.cell? ⟨w1.heap.size, 1, none⟩ = some (.slice a' n' c') := (be5.cell 1).trans (by rfl)
    by_cases hz : z = 0
    · subst hz
      go_wp2_with fail
      refine (l4Spoil_any 4 (by omega) op' a' n' c' w5 g ((k + 90) + 1) r5 (by omega) ea5).mono ?_
      rintro e w6 ⟨op9, a9, n9, c9, rfl, ea6, r6, ow6⟩
      have bw6 := box_only (bw5) ow6 (by omega)
      have tw6 := (tw5).trans ow6
      clear ow6
      clear m0 m1 be5 ea5 r5 tw5 bw5
      have e0 : w6.cell? ⟨w.heap.size, 0, none⟩ = some (.int .i64 0) := (bw6.cell 0).trans (by rfl)
      have e1 : w6.cell? ⟨w.heap.size, 1, none⟩ = some (.slice none 0 0) := (bw6.cell 1).trans (by rfl)
      have f0 : w6.frozen? ⟨w.heap.size, 0, none⟩ = false := bw6.free 0
      have f1 : w6.frozen? ⟨w.heap.size, 1, none⟩ = false := bw6.free 1
      have eaz := EA.put ea6 bw6 (.int .i64 op9) (.slice a9 n9 c9)
      have bz := (bw6.set 0 (.int .i64 op9)).set 1 (.slice a9 n9 c9)
      have d0 := (bz.cell 0).trans (show _ = some (.int .i64 op9) by rfl)
      have d1 := (bz.cell 1).trans (show _ = some (.slice a9 n9 c9) by rfl)
      have lz := bw6.lt
      have lzr := r6.lt
      have lzs := tw6.size_le
      clear bz
      go_wp2
      refine bodyPost_ret (v := .agg #[.int .i64 op9, .slice a9 n9 c9]) (by simp [results, Tryd.results65, go_sem, d0, d1]) rfl ⟨op9, a9, n9, c9, rfl, eaz.mono (by omega), ?_, ?_⟩
      · exact Rd.setCell (Rd.setCell (r6.mono (by omega)) (by simp; try omega) _) (by simp; try omega) _
      · exact Only.setCell (Only.setCell tw6 (by right; simp; try omega) _) (by right; simp; try omega) _
    · have hz2 : (z == 0) = false := beq_eq_false_iff_ne.2 hz
      clear hz
      have e0 : w5.cell? ⟨w.heap.size, 0, none⟩ = some (.int .i64 0) := (bw5.cell 0).trans (by rfl)
      have e1 : w5.cell? ⟨w.heap.size, 1, none⟩ = some (.slice none 0 0) := (bw5.cell 1).trans (by rfl)
      have f0 : w5.frozen? ⟨w.heap.size, 0, none⟩ = false := bw5.free 0
      have f1 : w5.frozen? ⟨w.heap.size, 1, none⟩ = false := bw5.free 1
      have eaz := EA.put ea5 bw5 (.int .i64 op') (.slice a' n' c')
      have bz := (bw5.set 0 (.int .i64 op')).set 1 (.slice a' n' c')
      have d0 := (bz.cell 0).trans (show _ = some (.int .i64 op') by rfl)
      have d1 := (bz.cell 1).trans (show _ = some (.slice a' n' c') by rfl)
      have lz := bw5.lt
      have lzr := r5.lt
      have lzs := tw5.size_le
      clear bz
      go_wp2
      refine bodyPost_ret (v := .agg #[.int .i64 op', .slice a' n' c']) (by simp [results, Tryd.results65, go_sem, d0, d1]) rfl ⟨op', a', n', c', rfl, eaz.mono (by omega), ?_, ?_⟩
      · exact Rd.setCell (Rd.setCell (r5.mono (by omega)) (by simp; try omega) _) (by simp; try omega) _
      · exact Only.setCell (Only.setCell tw5 (by right; simp; try omega) _) (by right; simp; try omega) _
  · have hy2 : (y == 0) = false := beq_eq_false_iff_ne.2 hy
    clear hy
    go_wp2_with fail
    refine (pick_any w2 g (k + 40 + 1) 16 r2 (by omega)).mono ?_
    rintro e w3 ⟨z, rfl, hz0, hz1, _, r3, ow3⟩
    have bw3 := box_only (bw2) ow3 (by omega)
    have be3 := box_only (be2) ow3 (by omega)
    have ea3 := EA.only (ea2) ow3
    have tw3 := (tw2).trans ow3
    have lr3 := r3.lt
    have ls3 := tw3.size_le
    have lbw3 := bw3.lt
    have lbe3 := be3.lt
    clear ow3
    clear r2 tw2 bw2 be2 ea2 hz1
    have m0 : w3.cell? ⟨w1.heap.size, 0, none⟩ = some (.int .i64 op) := (be3.cell 0).trans (by rfl)
    have m1 : w3.cell? ⟨w1.heap.size, 1, none⟩ = some (.slice a n c) := (be3.cell 1).trans (by rfl)
    by_cases hz : z = 0
    · subst hz
      go_wp2_with fail
      refine (l4Spoil_any 4 (by omega) op a n c w3 g ((k + 40 + 1) + 1) r3 (by omega) ea3).mono ?_
      rintro e w4 ⟨op9, a9, n9, c9, rfl, ea4, r4, ow4⟩
      have bw4 := box_only (bw3) ow4 (by omega)
      have tw4 := (tw3).trans ow4
      clear ow4
      clear m0 m1 be3 ea3 r3 tw3 bw3
      have e0 : w4.cell? ⟨w.heap.size, 0, none⟩ = some (.int .i64 0) := (bw4.cell 0).trans (by rfl)
      have e1 : w4.cell? ⟨w.heap.size, 1, none⟩ = some (.slice none 0 0) := (bw4.cell 1).trans (by rfl)
      have f0 : w4.frozen? ⟨w.heap.size, 0, none⟩ = false := bw4.free 0
      have f1 : w4.frozen? ⟨w.heap.size, 1, none⟩ = false := bw4.free 1
      have eaz := EA.put ea4 bw4 (.int .i64 op9) (.slice a9 n9 c9)
      have bz := (bw4.set 0 (.int .i64 op9)).set 1 (.slice a9 n9 c9)
      have d0 := (bz.cell 0).trans (show _ = some (.int .i64 op9) by rfl)
      have d1 := (bz.cell 1).trans (show _ = some (.slice a9 n9 c9) by rfl)
      have lz := bw4.lt
      have lzr := r4.lt
      have lzs := tw4.size_le
      clear bz
      go_wp2
      refine bodyPost_ret (v := .agg #[.int .i64 op9, .slice a9 n9 c9]) (by simp [results, Tryd.results65, go_sem, d0, d1]) rfl ⟨op9, a9, n9, c9, rfl, eaz.mono (by omega), ?_, ?_⟩
      · exact Rd.setCell (Rd.setCell (r4.mono (by omega)) (by simp; try omega) _) (by simp; try omega) _
      · exact Only.setCell (Only.setCell tw4 (by right; simp; try omega) _) (by right; simp; try omega) _
    · have hz2 : (z == 0) = false := beq_eq_false_iff_ne.2 hz
      clear hz
      have e0 : w3.cell? ⟨w.heap.size, 0, none⟩ = some (.int .i64 0) := (bw3.cell 0).trans (by rfl)
      have e1 : w3.cell? ⟨w.heap.size, 1, none⟩ = some (.slice none 0 0) := (bw3.cell 1).trans (by rfl)
      have f0 : w3.frozen? ⟨w.heap.size, 0, none⟩ = false := bw3.free 0
      have f1 : w3.frozen? ⟨w.heap.size, 1, none⟩ = false := bw3.free 1
      have eaz := EA.put ea3 bw3 (.int .i64 op) (.slice a n c)
      have bz := (bw3.set 0 (.int .i64 op)).set 1 (.slice a n c)
      have d0 := (bz.cell 0).trans (show _ = some (.int .i64 op) by rfl)
      have d1 := (bz.cell 1).trans (show _ = some (.slice a n c) by rfl)
      have lz := bw3.lt
      have lzr := r3.lt
      have lzs := tw3.size_le
      clear bz
      go_wp2
      refine bodyPost_ret (v := .agg #[.int .i64 op, .slice a n c]) (by simp [results, Tryd.results65, go_sem, d0, d1]) rfl ⟨op, a, n, c, rfl, eaz.mono (by omega), ?_, ?_⟩
      · exact Rd.setCell (Rd.setCell (r3.mono (by omega)) (by simp; try omega) _) (by simp; try omega) _
      · exact Only.setCell (Only.setCell tw3 (by right; simp; try omega) _) (by right; simp; try omega) _
/-- an element's operands, whatever the reader's block -/
def EB6 (w : World) (a : Option Addr) (n c : Nat) : Prop := n ≤ c ∧ c ≤ maxLen ∧ n ≤ 6 ∧ (n = 0 ∨ ∃ b, a = some ⟨b, 0, none⟩ ∧ Whole3 w b n)
theorem EA.bare {N : Nat} {w : World} {g : Nat} {a : Option Addr} {n c : Nat} (h : EA N w g a n c) (hN : N ≤ 6) : EB6 w a n c :=
  ⟨h.1, h.2.1, Nat.le_trans h.2.2.1 hN, h.2.2.2.imp id fun ⟨b, e, _, hw⟩ => ⟨b, e, hw⟩⟩
theorem EB6.put {w : World} {a : Option Addr} {n c : Nat} {q : Nat} {v : Value} {x : Option Addr} {y z : Nat} {t : TypeId} (h : EB6 w a n c) (hb : Box w q #[v, .slice x y z] t) (u0 u1 : Value) :
    EB6 ((w.setCell ⟨q, 0, none⟩ u0).setCell ⟨q, 1, none⟩ u1) a n c := by
  refine ⟨h.1, h.2.1, h.2.2.1, ?_⟩
  by_cases hn : n = 0
  · exact .inl hn
  rcases h.2.2.2 with h0 | ⟨b, e, hw⟩
  · exact .inl h0
  · have hq := whole_ne_box hw hn hb
    exact .inr ⟨b, e, (hw.far (p := ⟨q, 0, none⟩) hq u0).far (p := ⟨q, 1, none⟩) hq u1⟩
set_option maxRecDepth 100000 in
set_option maxHeartbeats 2000000 in
theorem l4Half_any (aa : Option Addr) (m cp : Nat) (w : World) (h : IsCode w aa m cp) : Calls Tryd.prog 29 #[.slice aa m cp] w fun e w' => ∃ (op : Int) (a : Option Addr) (n c : Nat), e = .returned (.agg #[.int .i64 op, .slice a n c]) ∧ EB6 w' a n c ∧ Below w.heap.size w w' := by
  have hb0 : Below w.heap.size w (w.alloc (.cells #[.int .i64 0, .slice none 0 0] 31)) := (Below.refl _ _).alloc (Nat.le_refl _) _
  have h1 := h.below hb0
  have HB := Lib.hid (And.intro (Box.new w #[.int .i64 0, .slice none 0 0] 31) hb0)
  clear hb0 h
  go_enter Tryd.func29, Tryd.ntmps29
  go_wp2_with fail
  refine (open_any aa m cp _ h1).mono ?_
  rintro e w1 ⟨rfl, r1, hb1, hs1⟩
  have bw1 := HB.out.1.kept hb1
  have tw1 := bel_step HB.out.2 hb1 (by simp)
  simp at r1 hs1
  have hs1' : w1.heap.size = w.heap.size + 2 := by simp [hs1]
  clear hb1 h1 hs1 HB
  go_wp2_with fail
  refine (l4Any_any w1 (w.heap.size + 1) 0 r1 (by omega)).mono ?_
  rintro e w2 ⟨op, a, n, c, rfl, ea2, r2, ow2⟩
  have bw2 := box_only (bw1) ow2 (by omega)
  have tw2 := Only.below (tw1) ow2 (tw1).size (by omega)
  have lbw2 := bw2.lt
  have lr2 := r2.lt
  clear ow2
  have be2 := Box.new w2 #[.int .i64 op, .slice a n c] 31
  clear bw1 tw1 r1
  go_wp2_with fail
  refine (pick_any (w2.alloc (.cells #[.int .i64 op, .slice a n c] 31)) (w.heap.size + 1) (0 + 200) 2 (r2.alloc _) (by omega)).mono ?_
  rintro e w3 ⟨y, rfl, hy0, hy1, _, r3, ow3⟩
  have bw3 := box_only (bw2.alloc _) ow3 (by omega)
  have be3 := box_only (be2) ow3 (by omega)
  have tw3 := Only.below (tw2.alloc tw2.size (.cells #[.int .i64 op, .slice a n c] 31)) ow3 (tw2.alloc tw2.size (.cells #[.int .i64 op, .slice a n c] 31)).size (by omega)
  have ea3 := EA.only (ea2.alloc (.cells #[.int .i64 op, .slice a n c] 31)) ow3
  have lbw3 := bw3.lt
  have lbe3 := be3.lt
  have lr3 := r3.lt
  clear ow3
  clear bw2 tw2 be2 r2 ea2 hy1
  have m0 : w3.cell? ⟨w2.heap.size, 0, none⟩ = some (.int .i64 op) := (be3.cell 0).trans (by rfl)
  have m1 : w3.cell? ⟨w2.heap.size, 1, none⟩ = some (.slice a n c) := (be3.cell 1).trans (by rfl)
  by_cases hy : y = 0
  · subst hy
    go_wp2_with fail
    refine (l4Spoil_any 5 (by omega) op a n c w3 (w.heap.size + 1) (0 + 200 + 1) r3 (by omega) ea3).mono ?_
    rintro e w4 ⟨op9, a9, n9, c9, rfl, ea4, r4, ow4⟩
    have bw4 := box_only bw3 ow4 (by omega)
    have tw4 := Only.below tw3 ow4 tw3.size (by omega)
    have eb4 := ea4.bare (by omega)
    clear ow4 m0 m1 be3 ea3 r3 tw3 bw3 ea4 r4
    have e0 : w4.cell? ⟨w.heap.size, 0, none⟩ = some (.int .i64 0) := (bw4.cell 0).trans (by rfl)
    have e1 : w4.cell? ⟨w.heap.size, 1, none⟩ = some (.slice none 0 0) := (bw4.cell 1).trans (by rfl)
    have f0 : w4.frozen? ⟨w.heap.size, 0, none⟩ = false := bw4.free 0
    have f1 : w4.frozen? ⟨w.heap.size, 1, none⟩ = false := bw4.free 1
    have eaz := EB6.put eb4 bw4 (.int .i64 op9) (.slice a9 n9 c9)
    have bz := (bw4.set 0 (.int .i64 op9)).set 1 (.slice a9 n9 c9)
    have d0 := (bz.cell 0).trans (show _ = some (.int .i64 op9) by rfl)
    have d1 := (bz.cell 1).trans (show _ = some (.slice a9 n9 c9) by rfl)
    have lz := bw4.lt
    have lzs := tw4.size
    clear bz
    go_wp2
    refine bodyPost_ret (v := .agg #[.int .i64 op9, .slice a9 n9 c9]) (by simp [results, Tryd.results29, go_sem, d0, d1]) rfl ⟨op9, a9, n9, c9, rfl, eaz, ?_⟩
    repeat (first | exact tw4 | refine Below.setCell ?_ (by first | (simp; done) | (simp; omega) | omega) _)
  · have hy2 : (y == 0) = false := beq_eq_false_iff_ne.2 hy
    have eb3 := ea3.bare (by omega)
    clear hy r3 ea3
    have e0 : w3.cell? ⟨w.heap.size, 0, none⟩ = some (.int .i64 0) := (bw3.cell 0).trans (by rfl)
    have e1 : w3.cell? ⟨w.heap.size, 1, none⟩ = some (.slice none 0 0) := (bw3.cell 1).trans (by rfl)
    have f0 : w3.frozen? ⟨w.heap.size, 0, none⟩ = false := bw3.free 0
    have f1 : w3.frozen? ⟨w.heap.size, 1, none⟩ = false := bw3.free 1
    have eaz := EB6.put eb3 bw3 (.int .i64 op) (.slice a n c)
    have bz := (bw3.set 0 (.int .i64 op)).set 1 (.slice a n c)
    have d0 := (bz.cell 0).trans (show _ = some (.int .i64 op) by rfl)
    have d1 := (bz.cell 1).trans (show _ = some (.slice a n c) by rfl)
    have lz := bw3.lt
    have lzs := tw3.size
    clear bz
    go_wp2
    refine bodyPost_ret (v := .agg #[.int .i64 op, .slice a n c]) (by simp [results, Tryd.results29, go_sem, d0, d1]) rfl ⟨op, a, n, c, rfl, eaz, ?_⟩
    repeat (first | exact tw3 | refine Below.setCell ?_ (by first | (simp; done) | (simp; omega) | omega) _)
set_option maxRecDepth 100000 in
set_option maxHeartbeats 2000000 in
theorem drawElem_any (aa : Option Addr) (m cp : Nat) (w : World) (h : IsCode w aa m cp) : Calls Tryd.prog 13 #[.slice aa m cp] w fun e w' => ∃ (op : Int) (a : Option Addr) (n c : Nat), e = .returned (.agg #[.int .i64 op, .slice a n c]) ∧ EB6 w' a n c ∧ Below w.heap.size w w' := by
  have hb0 : Below w.heap.size w (w.alloc (.cells #[.int .i64 0, .slice none 0 0] 31)) := (Below.refl _ _).alloc (Nat.le_refl _) _
  have h1 := h.below hb0
  have HB := Lib.hid (And.intro (Box.new w #[.int .i64 0, .slice none 0 0] 31) hb0)
  clear hb0 h
  go_enter Tryd.func13, Tryd.ntmps13
  go_wp2_with fail
  refine (l4Half_any aa m cp _ h1).mono ?_
  rintro e w1 ⟨op, a, n, c, rfl, eb1, hb1⟩
  have bw1 := HB.out.1.kept hb1
  have tw1 := bel_step HB.out.2 hb1 (by simp)
  clear hb1 h1 HB
  have e0 : w1.cell? ⟨w.heap.size, 0, none⟩ = some (.int .i64 0) := (bw1.cell 0).trans (by rfl)
  have e1 : w1.cell? ⟨w.heap.size, 1, none⟩ = some (.slice none 0 0) := (bw1.cell 1).trans (by rfl)
  have f0 : w1.frozen? ⟨w.heap.size, 0, none⟩ = false := bw1.free 0
  have f1 : w1.frozen? ⟨w.heap.size, 1, none⟩ = false := bw1.free 1
  have eaz := EB6.put eb1 bw1 (.int .i64 op) (.slice a n c)
  have bz := (bw1.set 0 (.int .i64 op)).set 1 (.slice a n c)
  have d0 := (bz.cell 0).trans (show _ = some (.int .i64 op) by rfl)
  have d1 := (bz.cell 1).trans (show _ = some (.slice a n c) by rfl)
  have lz := bw1.lt
  have lzs := tw1.size
  clear bz
  go_wp2
  refine bodyPost_ret (v := .agg #[.int .i64 op, .slice a n c]) (by simp [results, Tryd.results13, go_sem, d0, d1]) rfl ⟨op, a, n, c, rfl, eaz, ?_⟩
  repeat (first | exact tw1 | refine Below.setCell ?_ (by first | (simp; done) | (simp; omega) | omega) _)
end Go.Proofs.YtmlpobecilbknaaDoor
