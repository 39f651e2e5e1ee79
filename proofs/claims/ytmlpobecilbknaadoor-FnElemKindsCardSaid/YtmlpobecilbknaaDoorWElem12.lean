/- The walk of FnExactElemText. -/
import Derived.Test.YtmlpobecilbknaaDoorRows
import Derived.Test.YtmlpobecilbknaaDoorWElem6
import Derived.Test.YtmlpobecilbknaaDoorWElem10
import Derived.Test.YtmlpobecilbknaaDoorWElem11
import Derived.Test.YtmlpobecilbknaaDoorLaidS
import Derived.WalkKit
import Derived.WalkSpells
import Derived.WalkLawsBesides
import Derived.OpenShut
import Derived.IntWalk
import Derived.Lib.Hide
import Derived.Deep.QuietTactic
import Derived.BigQuiet
import Derived.Deep.RegionHeld3
import Derived.Deep.RegionWith
import Derived.Deep.Strs
import Derived.Deep.Slices
import Derived.ChangeOld
import Derived.DataReads
namespace Go.Proofs.YtmlpobecilbknaaDoor
open Go.RowKit Bx ElemP ElemT
set_option linter.unusedVariables false

set_option maxRecDepth 100000 in
set_option maxHeartbeats 4000000 in
theorem FnExactElemText_big (op : Int) (a : Option Addr) (n c : Nat) (hn : 1048576 < n) (hm : n ≤ 9223372036854775807) (w : World) : Calls Tryd.prog 4 #[.agg #[.int .i64 op, .slice a n c]] w fun e w' => e = .returned (.bool true) ∧ Below w.heap.size w w' := by
  have hs := fun w => sz_any op a n c w (-1) (by rw [if_pos (by omega)]) hm
  have b1 := Box.new w #[.int .i64 op, .slice a n c] 26
  have hB1 : Below w.heap.size w (w.alloc (.cells #[.int .i64 op, .slice a n c] 26)) := by repeat (first | exact Below.refl _ _ | assumption | refine Below.setCell ?_ (by first | (simp; done) | (simp; omega) | omega) _ | refine Below.alloc ?_ (by first | (simp; done) | (simp; omega) | omega) _ | refine Bx.bel_drewN ?_ _ | refine Below.drew ?_)
  go_enter Tryd.func4, Tryd.ntmps4
  go_wp2_with fail
  refine (hs _).mono ?_
  rintro e w1 ⟨rfl, hb1⟩
  have hB2 : Below w.heap.size w w1 := by first | exact bel_step (by repeat (first | exact Below.refl _ _ | assumption | refine Below.setCell ?_ (by first | (simp; done) | (simp; omega) | omega) _ | refine Below.alloc ?_ (by first | (simp; done) | (simp; omega) | omega) _ | refine Bx.bel_drewN ?_ _ | refine Below.drew ?_)) hb1 (by simp) | exact hb1
  clear hs hb1 hB1 b1
  go_wp2
  go_ret
  exact ⟨rfl, hB2⟩
set_option maxRecDepth 100000 in
set_option maxHeartbeats 4000000 in
theorem FnExactElemText_small (op : Int) (a : Option Addr) (n c : Nat) (xs : List Arg) (hn : n = xs.length) (h3 : n ≤ 1048576) (w : World) (hI : In w a xs) (henv : EEnv w) : Calls Tryd.prog 4 #[.agg #[.int .i64 op, .slice a n c]] w fun e w' => e = .returned (.bool true) ∧ Below w.heap.size w w' := by
  have hs := fun w => sz_any op a n c w (1048576 - (n : Int)) (by rw [if_neg (by omega)]) (by omega)
  have ht := fun w' (hb : Below w.heap.size w w') => toElem_any op a n c xs hn h3 w' (hI.kept hb)
  have hcs := fun g w' (hb : Below w.heap.size w w') (hl : Lie w' g 0 xs) => elemText_s_any op (some ⟨g, 0, none⟩) n n xs w' ⟨hn, Nat.le_refl _, by unfold maxLen; omega, h3, .inr ⟨g, rfl, hl⟩⟩ (henv.kept hb)
  have hci := fun g w' (hb : Below w.heap.size w w') (hl : Lie w' g 0 xs) => elemText_i_any op (some ⟨g, 0, none⟩) n n xs w' ⟨hn, Nat.le_refl _, by unfold maxLen; omega, h3, .inr ⟨g, rfl, hl⟩⟩ (henv.kept hb)
  have heq := fun g h w' hg hh => eqElem_same op g h n xs hn h3 w' hg hh
  generalize etxt op xs = R at hcs hci
  have d : decide (1048576 - (n : Int) < 0) = false := by simp; omega
  clear hI hn henv
  go_enter Tryd.func4, Tryd.ntmps4
  go_wp2_with fail
  refine (hs _).mono ?_
  rintro e w1 ⟨rfl, hb1⟩
  have hB1 : Below w.heap.size w w1 := by first | exact hb1 | exact bel_step (by repeat (first | exact Below.refl _ _ | assumption | refine Below.setCell ?_ (by first | (simp; done) | (simp; omega) | omega) _ | refine Below.alloc ?_ (by first | (simp; done) | (simp; omega) | omega) _ | refine Bx.bel_drewN ?_ _ | refine Below.drew ?_)) hb1 (by simp)
  have b1 := (Box.new w #[.int .i64 op, .slice a n c] 26).kept hb1
  have c0 : w1.cell? ⟨w.heap.size, 0, none⟩ = some (.int .i64 op) := b1.cell 0
  have c1 : w1.cell? ⟨w.heap.size, 1, none⟩ = some (.slice a n c) := b1.cell 1
  clear hs hb1
  go_wp2_with fail
  refine (ht _ hB1).mono ?_
  rintro e w2 ⟨g, rfl, _, hl2, hb2⟩
  have b2 := b1.kept hb2
  have hB2 : Below w.heap.size w w2 := bel_step hB1 hb2 hB1.size
  clear hb2 hB1 b1 c0 c1
  go_wp2_with fail
  refine (hcs g _ hB2 hl2).mono ?_
  rintro e w3 ⟨rfl, hb3⟩
  have b3 := b2.kept hb3
  have hB3 : Below w.heap.size w w3 := bel_step hB2 hb3 hB2.size
  have c0 : w3.cell? ⟨w.heap.size, 0, none⟩ = some (.int .i64 op) := b3.cell 0
  have c1 : w3.cell? ⟨w.heap.size, 1, none⟩ = some (.slice a n c) := b3.cell 1
  clear hcs hb3 hB2 b2 hl2
  go_wp2_with fail
  refine (ht _ hB3).mono ?_
  rintro e w4 ⟨h, rfl, _, hl4, hb4⟩
  have x4 := Box.new w4 #[.int .i64 op, .slice (some ⟨h, 0, none⟩) n n] 31
  have b4 := (b3.kept hb4).alloc (.cells #[.int .i64 op, .slice (some ⟨h, 0, none⟩) n n] 31)
  have l4 : Lie (w4.alloc (.cells #[.int .i64 op, .slice (some ⟨h, 0, none⟩) n n] 31)) h 0 xs := hl4.kept ((Below.refl _ _).alloc (Nat.le_refl _) _)
  have hB4 : Below w.heap.size w (w4.alloc (.cells #[.int .i64 op, .slice (some ⟨h, 0, none⟩) n n] 31)) := (bel_step hB3 hb4 hB3.size).alloc (bel_step hB3 hb4 hB3.size).size _
  clear hb4 hB3 b3 c0 c1 hl4
  go_wp2_with fail
  refine (hci h _ hB4 l4).mono ?_
  rintro e w5 ⟨rfl, hb5⟩
  have x5 := x4.kept hb5
  have b5 := b4.kept hb5
  have l5 := l4.kept hb5
  have hB5 : Below w.heap.size w w5 := bel_step hB4 hb5 hB4.size
  have c0 : w5.cell? ⟨w.heap.size, 0, none⟩ = some (.int .i64 op) := b5.cell 0
  have c1 : w5.cell? ⟨w.heap.size, 1, none⟩ = some (.slice a n c) := b5.cell 1
  have e0 : w5.cell? ⟨w4.heap.size, 0, none⟩ = some (.int .i64 op) := x5.cell 0
  have e1 : w5.cell? ⟨w4.heap.size, 1, none⟩ = some (.slice (some ⟨h, 0, none⟩) n n) := x5.cell 1
  clear hci hb5 hB4 b4 l4 x4
  go_wp2_with fail
  have hS : ∀ w', Below w5.heap.size w5 w' → w'.cell? ⟨w.heap.size, 0, none⟩ = some (.int .i64 op) ∧ w'.cell? ⟨w.heap.size, 1, none⟩ = some (.slice a n c) ∧ w'.cell? ⟨w4.heap.size, 0, none⟩ = some (.int .i64 op) ∧ w'.cell? ⟨w4.heap.size, 1, none⟩ = some (.slice (some ⟨h, 0, none⟩) n n) ∧ Below w5.heap.size w5 w' := fun w' hb => ⟨(b5.kept hb).cell 0, (b5.kept hb).cell 1, (x5.kept hb).cell 0, (x5.kept hb).cell 1, hb⟩
  go_region_held3 (fun w' => w'.cell? ⟨w.heap.size, 0, none⟩ = some (.int .i64 op) ∧ w'.cell? ⟨w.heap.size, 1, none⟩ = some (.slice a n c) ∧ w'.cell? ⟨w4.heap.size, 0, none⟩ = some (.int .i64 op) ∧ w'.cell? ⟨w4.heap.size, 1, none⟩ = some (.slice (some ⟨h, 0, none⟩) n n) ∧ Below w5.heap.size w5 w')
    (first | assumption | exact hS _ (Below.refl _ _).drew | (obtain ⟨_, _, _, _, hq⟩ := (by assumption : _ ∧ _ ∧ _ ∧ _ ∧ Below w5.heap.size w5 _); exact hS _ (bel_step hq hbx hq.size)))
    (first | (go_at_call 10; (with_reducible refine (ht _ (bel_step hB5 (by first | exact (Below.refl _ _).drew | exact (by assumption : _ ∧ _ ∧ _ ∧ _ ∧ Below w5.heap.size w5 _).2.2.2.2) hB5.size)).mono ?_); rintro e w' ⟨h2, rfl, _, hl2, hbx⟩) | (go_at_call 12; (with_reducible refine (heq h h2 _ (l5.kept (by assumption : _ ∧ _ ∧ _ ∧ _ ∧ Below w5.heap.size w5 _).2.2.2.2) hl2).mono ?_); rintro e w' ⟨rfl, hbx⟩))
  all_goals
    obtain ⟨_, _, _, _, hq⟩ := (by assumption : _ ∧ _ ∧ _ ∧ _ ∧ Below w5.heap.size w5 _)
    have hB6 := bel_step hB5 hq hB5.size
    clear hq hS b5 x5 l5 hB5
    go_wp2
    go_ret
    exact ⟨rfl, hB6⟩
theorem FnExactElemText_any (op : Int) (a : Option Addr) (n c : Nat) (xs : List Arg) (hn : n = xs.length) (hm : n ≤ maxLen) (w : World) (hI : In w a xs) (henv : EEnv w) : Calls Tryd.prog 4 #[.agg #[.int .i64 op, .slice a n c]] w fun e w' => e = .returned (.bool true) ∧ Below w.heap.size w w' := by
  by_cases h : n ≤ 1048576
  · exact FnExactElemText_small op a n c xs hn h w hI henv
  · exact FnExactElemText_big op a n c (by omega) (by unfold maxLen at hm; omega) w
instance : Inhabited Arg := ⟨(0, 0, 0)⟩
theorem cell3 {W : World} {a : Addr} {cs : List Value} (h : W.cells? 0 a 3 = some cs) : ∃ v0 v1 v2, cs = [v0, v1, v2] ∧ W.cell? a = some v0 ∧ W.cell? (a.add 1) = some v1 ∧ W.cell? (a.add 2) = some v2 := by
  obtain ⟨_, hl, hc⟩ := World.cells?_some h
  match cs, hl with
  | [v0, v1, v2], _ => exact ⟨v0, v1, v2, rfl, hc 0 (by omega), hc 1 (by omega), hc 2 (by omega)⟩
theorem in_of {H : Type} {enc : TypeId × Value → H} {W : World} {spare : Nat → Bool} {held : Bool} {fuel : Nat} {cs : List Value} {y : DataW H × List MemPlace} (h : DataW.trod enc Tryd.prog W 0 spare held fuel 24 cs = some y) :
    ∃ (a : Option Addr) (n c : Nat) (xs : List Arg), cs = [.slice a n c] ∧ n = xs.length ∧ n ≤ maxLen ∧ In W a xs := by
  rcases Deep.open_slice Tryd.underlying24 h with ⟨rfl, _⟩ | ⟨a, len, cap, m, fn, D, Pl, rfl, _, hl, hm, hmm, _, hel⟩
  · exact ⟨none, 0, 0, [], rfl, rfl, Nat.zero_le _, .inl rfl⟩
  · have hlm : len ≤ m := by rw [hmm]; split <;> omega
    have hce : Tryd.prog.cellsOf 60 = 3 := by kernel_rfl
    have hci : Tryd.prog.cellsOf 3 = 1 := by kernel_rfl
    have key : ∀ i, i < len → ∃ x : Arg, W.cell? (a.add (i * 3)) = some (.int .i64 x.1) ∧ W.cell? ((a.add (i * 3)).add 1) = some (.int .i64 x.2.1) ∧ W.cell? ((a.add (i * 3)).add 2) = some (.int .i64 x.2.2) := by
      intro i hi
      obtain ⟨cs', hc, ht⟩ := hel i (by omega)
      rw [hce] at hc
      obtain ⟨v0, v1, v2, rfl, h0, h1, h2⟩ := cell3 hc
      obtain ⟨y0, y1, y2, n, _, _, t0, t1, t2⟩ := Deep.trod_struct3 Tryd.underlying60 ht
      simp only [hci, List.drop_zero, List.drop_succ_cons, List.take_succ_cons, List.take_zero] at t0 t1 t2
      obtain ⟨x0, e0, _, w0⟩ := DataW.trod_int Tryd.underlying3 t0
      obtain ⟨x1, e1, _, w1⟩ := DataW.trod_int Tryd.underlying3 t1
      obtain ⟨x2, e2, _, w2⟩ := DataW.trod_int Tryd.underlying3 t2
      simp at e0 e1 e2
      subst e0 e1 e2
      exact ⟨(x0, x1, x2), h0, h1, h2⟩
    obtain ⟨f, hf⟩ := Deep.choose_lt key
    refine ⟨some a, len, cap, (List.range len).map f, rfl, by simp, by omega, ?_⟩
    by_cases h0 : len = 0
    · subst h0; exact .inl rfl
    · obtain ⟨b, off, spot⟩ := a
      have hz := (hf 0 (by omega)).1
      have hs : spot = none := by simpa [Addr.add] using World.cell?_spot hz
      subst hs
      have hb : b < W.heap.size := by
        rcases Nat.lt_or_ge b W.heap.size with h | h
        · exact h
        · simp [World.cell?, Addr.add, Array.getElem?_eq_none h] at hz
      refine .inr ⟨b, off, rfl, hb, fun i x hx => ?_⟩
      have hi : i < len := by have := (List.getElem?_eq_some_iff.1 hx).1; simpa using this
      obtain rfl : f i = x := by simpa [hi] using hx
      obtain ⟨q0, q1, q2⟩ := hf i hi
      have e : ((⟨b, off, none⟩ : Addr).add (i * 3)) = ⟨b, off + i * 3, none⟩ := by unfold Addr.add; split <;> simp_all
      rw [e] at q0 q1 q2
      exact ⟨q0, q1, q2⟩
theorem eenv_fnExactElemText {w : World} (h : laidMetH Tryd.prog Rows.fnExactElemTextRow.laid w) : EEnv w := by
  rw [MakeChecks.laidMetH_plain _ _ _ (by kernel_rfl)] at h
  exact ⟨Ls.tab_of_laid (g := 3) (t := 99) (by kernel_rfl) (by kernel_rfl) Tryd.underlying99 Tryd.underlying93 (by kernel_rfl) (by kernel_rfl) (List.Mem.tail _ (List.Mem.tail _ (List.Mem.head _))) h,
    Ls.strs_of_laid (g := 1) (t := 61) (by kernel_rfl) (by kernel_rfl) Tryd.underlying61 Tryd.underlying9 (by kernel_rfl) (by kernel_rfl) (List.Mem.tail _ (List.Mem.tail _ (List.Mem.tail _ (List.Mem.head _)))) h,
    Ls.strs_of_laid (g := 0) (t := 44) (by kernel_rfl) (by kernel_rfl) Tryd.underlying44 Tryd.underlying9 (by kernel_rfl) (by kernel_rfl) (List.Mem.tail _ (List.Mem.tail _ (List.Mem.tail _ (List.Mem.tail _ (List.Mem.head _))))) h⟩
theorem eenv_fnElemKinds {w : World} (h : laidMetH Tryd.prog Rows.fnElemKindsRow.laid w) : EEnv w := by
  rw [MakeChecks.laidMetH_plain _ _ _ (by kernel_rfl)] at h
  exact ⟨Ls.tab_of_laid (g := 3) (t := 99) (by kernel_rfl) (by kernel_rfl) Tryd.underlying99 Tryd.underlying93 (by kernel_rfl) (by kernel_rfl) (List.Mem.tail _ (List.Mem.tail _ (List.Mem.head _))) h,
    Ls.strs_of_laid (g := 1) (t := 61) (by kernel_rfl) (by kernel_rfl) Tryd.underlying61 Tryd.underlying9 (by kernel_rfl) (by kernel_rfl) (List.Mem.tail _ (List.Mem.tail _ (List.Mem.tail _ (List.Mem.head _)))) h,
    Ls.strs_of_laid (g := 0) (t := 44) (by kernel_rfl) (by kernel_rfl) Tryd.underlying44 Tryd.underlying9 (by kernel_rfl) (by kernel_rfl) (List.Mem.tail _ (List.Mem.tail _ (List.Mem.tail _ (List.Mem.tail _ (List.Mem.head _))))) h⟩
theorem FnExactElemText_walk (op : Int) (a : Option Addr) (n c : Nat) (xs : List Arg) (w : World) (hx : n = xs.length ∧ n ≤ maxLen ∧ In w a xs) (hL : laidMetH Tryd.prog Rows.fnExactElemTextRow.laid w) : Calls Tryd.prog 4 #[.agg #[.int .i64 op, .slice a n c]] w fun e w' => e = .returned (.bool true) ∧ Below w.heap.size w w' := FnExactElemText_any op a n c xs hx.1 hx.2.1 w hx.2.2 (eenv_fnExactElemText hL)
end Go.Proofs.YtmlpobecilbknaaDoor
