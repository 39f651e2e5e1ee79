/-
  A BLOCK OF THE CALL's OWN THAT IS KNOWN WHOLE: its cells, and that calls which write nothing old leave it. No program in this text.
-/
import Derived.WalkKit
import Derived.Deep.Draws
import Derived.Laws.OwnMore
import Derived.Deep.AppendLies
import Derived.Deep.Onto
namespace Bx
open Go Go.RowKit

def Box (w : World) (g : Nat) (cs : Array Value) (t : TypeId) : Prop := w.heap[g]? = some (.cells cs t (0, 0))
section
variable {w w' : World} {g : Nat} {t : TypeId} {cs : Array Value}
theorem Box.lt (h : Box w g cs t) : g < w.heap.size := by
  rcases Nat.lt_or_ge g w.heap.size with hl | hl
  · exact hl
  · unfold Box at h; rw [Array.getElem?_eq_none hl] at h; cases h
theorem Box.cell (h : Box w g cs t) (i : Nat) : w.cell? ⟨g, i, none⟩ = cs[i]? := by
  unfold Box at h; simp [World.cell?, h]
theorem Box.free (h : Box w g cs t) (i : Nat) : w.frozen? ⟨g, i, none⟩ = false := by
  unfold Box at h; simp [World.frozen?, h]
theorem Box.new (w : World) (cs : Array Value) (t : TypeId) : Box (w.alloc (.cells cs t)) w.heap.size cs t := heap_alloc_new w _
theorem Box.drewN (h : Box w g cs t) (n : Nat) : Box (w.drewN n) g cs t := h
theorem Box.drew (h : Box w g cs t) : Box w.drew g cs t := h
theorem Box.alloc (h : Box w g cs t) (o : Obj) : Box (w.alloc o) g cs t := (Below.heap_alloc w o g h.lt).trans h
theorem Box.below {B : Nat} (h : Box w g cs t) (hb : Below B w w') (hg : g < B) : Box w' g cs t := (hb.block g hg).trans h
theorem Box.kept (h : Box w g cs t) (hb : Below w.heap.size w w') : Box w' g cs t := h.below hb h.lt
theorem Box.far (h : Box w g cs t) {p : Addr} (hp : g ≠ p.block) (u : Value) : Box (w.setCell p u) g cs t := (Below.heap_setCell w p u g hp).trans h
theorem Box.set (h : Box w g cs t) (i : Nat) (u : Value) : Box (w.setCell ⟨g, i, none⟩ u) g (cs.setIfInBounds i u) t := by
  unfold Box at h ⊢
  simp [World.setCell, Array.getElem?_modify, h]
end
theorem bel_drewN {B : Nat} {a w : World} (h : Below B a w) (n : Nat) : Below B a (w.drewN n) := ⟨h.os, h.tape, h.output, h.size, h.block⟩
/-- one more call behind what stands -/
theorem bel_step {B : Nat} {a w w' : World} (h : Below B a w) (k : Below w.heap.size w w') (hB : B ≤ w.heap.size) : Below B a w' := h.trans (k.mono hB)
/-- A ROW OF THE CALL's OWN, not nil: the slice at ⟨g, 0⟩ with capacity c holds xs (one cell each). -/
def Own (t : TypeId) (base : Nat) (w : World) (g c : Nat) (xs : List Value) : Prop :=
  w.ownsRow base t 1 (.slice (some ⟨g, 0, none⟩) xs.length c) xs.length xs
section
variable {w w' : World} {base g c : Nat} {t : TypeId} {xs : List Value}
theorem Own.lt (h : Own t base w g c xs) : base ≤ g ∧ g < w.heap.size := World.ownsRow.lt h g rfl
theorem Own.len (h : Own t base w g c xs) : xs.length ≤ c ∧ c ≤ maxLen := by
  rcases h.2 with ⟨h', _⟩ | ⟨g', cap', cur, h', hb, hg, hnc, hcm, hcs, htake⟩
  · simp at h'
  · simp only [Value.slice.injEq, Option.some.injEq, Addr.mk.injEq, and_true, true_and] at h'
    obtain ⟨rfl, rfl⟩ := h'
    exact ⟨hnc, hcm⟩
theorem Own.cell (h : Own t base w g c xs) (i : Nat) (hi : i < xs.length) : w.cell? ⟨g, i, none⟩ = xs[i]? := World.ownsRow.cellAt h i (by omega)
theorem Own.free (h : Own t base w g c xs) (i : Nat) : w.frozen? ⟨g, i, none⟩ = false := World.ownsRow.frozenAt h i
theorem Own.same (h : Own t base w g c xs) (hb : w'.heap[g]? = w.heap[g]?) : Own t base w' g c xs := by
  refine ⟨h.1, ?_⟩
  rcases h.2 with hn | ⟨g', cap', cur, h', hbb, hg, rest⟩
  · exact .inl hn
  · have h2 := h'
    simp only [Value.slice.injEq, Option.some.injEq, Addr.mk.injEq, and_true, true_and] at h2
    obtain ⟨rfl, rfl⟩ := h2
    exact .inr ⟨_, _, cur, rfl, hbb, hb.trans hg, rest⟩
theorem Own.below {B : Nat} (h : Own t base w g c xs) (hb : Below B w w') (hg : g < B) : Own t base w' g c xs := h.same (hb.block g hg)
theorem Own.kept (h : Own t base w g c xs) (hb : Below w.heap.size w w') : Own t base w' g c xs := h.below hb h.lt.2
theorem Own.alloc (h : Own t base w g c xs) (o : Obj) : Own t base (w.alloc o) g c xs := h.same (Below.heap_alloc w o g h.lt.2)
theorem Own.drew (h : Own t base w g c xs) : Own t base w.drew g c xs := h
theorem Own.drewN (h : Own t base w g c xs) (n : Nat) : Own t base (w.drewN n) g c xs := h
theorem Own.far (h : Own t base w g c xs) {p : Addr} (hp : g ≠ p.block) (u : Value) : Own t base (w.setCell p u) g c xs := h.same (Below.heap_setCell w p u g hp)
theorem Own.mono {base' : Nat} (h : Own t base w g c xs) (hb : base' ≤ base) : Own t base' w g c xs := World.ownsRow.mono h hb
theorem Own.made (w : World) (cs : Array Value) (base : Nat) (hb : base ≤ w.heap.size) (hm : cs.size ≤ maxLen) : Own t base (w.alloc (.cells cs t)) w.heap.size cs.size cs.toList := by
  have := World.ownsRow_lit (base := base) (e := t) (size := 1) w cs cs.size hb hm (by omega)
  unfold Own
  rw [show cs.toList.length = cs.size from Array.length_toList]
  exact this
theorem Own.set (h : Own t base w g c xs) (i : Nat) (u : Value) : Own t base (w.setCell ⟨g, i, none⟩ u) g c (xs.set i u) := by
  have := (World.ownsRow.stored h i u).1
  unfold Own
  rw [List.length_set]
  exact this
theorem Own.row {n : Nat} (h : Own t base w g c xs) (hn : xs.length = n) : w.ownsRow base t 1 (.slice (some ⟨g, 0, none⟩) n c) n xs := by subst hn; exact h
theorem Own.of {n : Nat} (h : w.ownsRow base t 1 (.slice (some ⟨g, 0, none⟩) n c) n xs) (hn : xs.length = n) : Own t base w g c xs := by subst hn; exact h
theorem Own.bits {l : List Bool} (h : Own t base w g c (l.map Value.bool)) (i : Nat) (hi : i < l.length) : w.cell? ⟨g, i, none⟩ = some (.bool (l[i]'hi)) := by
  rw [h.cell i (by simpa using hi)]; simp [hi]
theorem Own.take (h : Own t base w g c xs) (k : Nat) : Own t base w g c (xs.take k) := by
  rcases h.2 with ⟨h', _⟩ | ⟨g', cap', cur, h', hb, hg, hnc, hcm, hcs, htake⟩
  · simp at h'
  · simp only [Value.slice.injEq, Option.some.injEq, Addr.mk.injEq, and_true, true_and] at h'
    obtain ⟨rfl, rfl⟩ := h'
    refine ⟨by simp, .inr ⟨g, c, cur, rfl, hb, hg, by rw [List.length_take]; omega, hcm, hcs, ?_⟩⟩
    have e : (xs.take k).length * 1 = min k (xs.length * 1) := by rw [List.length_take]; omega
    rw [e]
    conv => rhs; rw [← htake]
    rw [List.take_take]
theorem Own.init {y : Value} (h : Own t base w g c (xs ++ [y])) : Own t base w g c xs := by
  have := h.take xs.length
  rwa [List.take_left] at this
/-- behind an append's law -/
theorem Own.box_grown {cs : Array Value} {b : Nat} {tb : TypeId} {row : Option Nat} (h : Box w b cs tb) (hg : w.grownBy w' row) (hne : some b ≠ row) : Box w' b cs tb := (hg.block b h.lt hne).trans h
theorem below_grown {B : Nat} {a w w' : World} {row : Option Nat} (h : Below B a w) (hg : w.grownBy w' row) (hrow : ∀ k, row = some k → B ≤ k) (hB : B ≤ a.heap.size) : Below B a w' :=
  ⟨hg.os.trans h.os, hg.tape.trans h.tape, hg.output.trans h.output, Nat.le_trans h.size hg.size, fun k hk => (hg.block k (by have := h.size; omega) (fun e => by have := hrow k e.symm; omega)).trans (h.block k hk)⟩
end
end Bx
