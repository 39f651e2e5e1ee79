/-
  A BLOCK OF THE CALL's OWN THAT IS KNOWN WHOLE: its cells, and that calls which write nothing old leave it. No program in this text.
-/
import Derived.WalkKit
import Derived.Deep.Draws
namespace Bx
open Go Go.RowKit

def Box (w : World) (g : Nat) (cs : Array Value) (t : TypeId) : Prop := w.heap[g]? = some (.cells cs t (0, 0))
section
variable {w w' : World} {g : Nat} {t : TypeId} {cs : Array Value}
theorem Box.lt (h : Box w g cs t) : g < w.heap.size := by
  rcases Nat.lt_or_ge g w.heap.size with hl | hl
  · exact hl
  · unfold Box at h; rw [Array.getElem?_eq_none hl] at h; cases h
theorem Box.cell (h : Box w g cs t) (i : Nat) : w.cell? ⟨g, i, none⟩ = cs[i]? := by
  unfold Box at h; simp [World.cell?, h]
theorem Box.free (h : Box w g cs t) (i : Nat) : w.frozen? ⟨g, i, none⟩ = false := by
  unfold Box at h; simp [World.frozen?, h]
theorem Box.new (w : World) (cs : Array Value) (t : TypeId) : Box (w.alloc (.cells cs t)) w.heap.size cs t := heap_alloc_new w _
theorem Box.drewN (h : Box w g cs t) (n : Nat) : Box (w.drewN n) g cs t := h
theorem Box.drew (h : Box w g cs t) : Box w.drew g cs t := h
theorem Box.alloc (h : Box w g cs t) (o : Obj) : Box (w.alloc o) g cs t := (Below.heap_alloc w o g h.lt).trans h
theorem Box.below {B : Nat} (h : Box w g cs t) (hb : Below B w w') (hg : g < B) : Box w' g cs t := (hb.block g hg).trans h
theorem Box.kept (h : Box w g cs t) (hb : Below w.heap.size w w') : Box w' g cs t := h.below hb h.lt
theorem Box.far (h : Box w g cs t) {p : Addr} (hp : g ≠ p.block) (u : Value) : Box (w.setCell p u) g cs t := (Below.heap_setCell w p u g hp).trans h
theorem Box.set (h : Box w g cs t) (i : Nat) (u : Value) : Box (w.setCell ⟨g, i, none⟩ u) g (cs.setIfInBounds i u) t := by
  unfold Box at h ⊢
  simp [World.setCell, Array.getElem?_modify, h]
end
theorem bel_drewN {B : Nat} {a w : World} (h : Below B a w) (n : Nat) : Below B a (w.drewN n) := ⟨h.os, h.tape, h.output, h.size, h.block⟩
/-- one more call behind what stands -/
theorem bel_step {B : Nat} {a w w' : World} (h : Below B a w) (k : Below w.heap.size w w') (hB : B ≤ w.heap.size) : Below B a w' := h.trans (k.mono hB)
end Bx
