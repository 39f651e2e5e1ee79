/-
  THE READER OF A CODE (a block of two cells: a slice of bytes that lies below it, and a place): what every draw keeps. No program in this text.
-/
import Derived.WalkKit
import Derived.Laws.BitsAllLaws
import Derived.Laws.BitsLemmas
import Derived.Deep.Draws
import Derived.Deep.OwnRows
import Derived.Maps.AppendAt
namespace Rdr
open Go Go.RowKit

def Bytes (w : World) (g : Nat) (A : Option Addr) (n : Nat) : Prop :=
  n = 0 ∨ ∃ b off, A = some ⟨b, off, none⟩ ∧ b < g ∧ ∀ i, i < n → ∃ u : Nat, u < 256 ∧ w.cell? ⟨b, off + i, none⟩ = some (.int .u8 u)

/-- block g is the reader's: its slice has at most 2000 bytes, its place is at most k -/
def Rd (T : TypeId) (w : World) (g k : Nat) : Prop :=
  ∃ (A : Option Addr) (n c p : Nat), w.heap[g]? = some (.cells #[.slice A n c, .int .i64 (p : Int)] T (0, 0)) ∧ n ≤ 2000 ∧ p ≤ k ∧ Bytes w g A n

theorem Bytes.keep {w w' : World} {g : Nat} {A : Option Addr} {n : Nat} (h : Bytes w g A n) (hk : ∀ p : Addr, p.block < g → w'.cell? p = w.cell? p) : Bytes w' g A n := by
  rcases h with h | ⟨b, off, e, hb, hc⟩
  · exact .inl h
  · refine .inr ⟨b, off, e, hb, fun i hi => ?_⟩
    obtain ⟨u, hu, h1⟩ := hc i hi
    exact ⟨u, hu, (hk _ hb).trans h1⟩

section
variable {T : TypeId} {w w' : World} {g k : Nat}
theorem Rd.lt (h : Rd T w g k) : g < w.heap.size := by
  obtain ⟨A, n, c, p, h, _⟩ := h
  rcases Nat.lt_or_ge g w.heap.size with hl | hl
  · exact hl
  · rw [Array.getElem?_eq_none hl] at h; cases h
theorem Rd.mono {k' : Nat} (h : Rd T w g k) (hk : k ≤ k') : Rd T w g k' := by
  obtain ⟨A, n, c, p, h, hn, hp, hb⟩ := h
  exact ⟨A, n, c, p, h, hn, by omega, hb⟩
theorem Rd.drew (h : Rd T w g k) : Rd T w.drew g k := h
theorem Rd.drewN (h : Rd T w g k) (n : Nat) : Rd T (w.drewN n) g k := h
theorem Rd.keep (h : Rd T w g k) (hb : ∀ i, i ≤ g → w'.heap[i]? = w.heap[i]?) : Rd T w' g k := by
  obtain ⟨A, n, c, p, h, hn, hp, hB⟩ := h
  exact ⟨A, n, c, p, (hb g (Nat.le_refl _)).trans h, hn, hp, hB.keep fun q hq => World.cell?_of_block (hb q.block (by omega))⟩
theorem Rd.alloc (h : Rd T w g k) (o : Obj) : Rd T (w.alloc o) g k :=
  h.keep fun i hi => Below.heap_alloc w o i (by have := h.lt; omega)
theorem Rd.setCell (h : Rd T w g k) {q : Addr} (hq : g < q.block) (v : Value) : Rd T (w.setCell q v) g k :=
  h.keep fun i hi => Below.heap_setCell w q v i (by omega)
theorem Rd.below {B : Nat} (h : Rd T w g k) (hb : Below B w w') (hg : g < B) : Rd T w' g k :=
  h.keep fun i hi => hb.block i (by omega)
theorem Rd.grown {row : Option Nat} (h : Rd T w g k) (hg : w.grownBy w' row) (hr : ∀ i, row = some i → g < i) : Rd T w' g k :=
  h.keep fun i hi => hg.block i (by have := h.lt; omega) (fun e => by have := hr i e.symm; omega)
end

/-- only block g, and what is new, has turned -/
def Only (g : Nat) (w w' : World) : Prop := w.grownBy w' (some g)
section
variable {a w w' : World} {g : Nat}
theorem Only.refl (g : Nat) (w : World) : Only g w w := World.grownBy.refl w _
theorem Only.trans (h : Only g a w) (h' : Only g w w') : Only g a w' := World.grownBy.trans h h'
theorem Only.drewN (h : Only g a w) (n : Nat) : Only g a (w.drewN n) := ⟨h.os, h.tape, h.output, h.size, h.block⟩
theorem Only.drew (h : Only g a w) : Only g a w.drew := ⟨h.os, h.tape, h.output, h.size, h.block⟩
theorem Only.alloc (h : Only g a w) (o : Obj) : Only g a (w.alloc o) :=
  ⟨h.os, h.tape, h.output, Nat.le_trans h.size (by simp), fun i hi hne => (Below.heap_alloc w o i (Nat.lt_of_lt_of_le hi h.size)).trans (h.block i hi hne)⟩
theorem Only.setCell (h : Only g a w) {p : Addr} (hp : p.block = g ∨ a.heap.size ≤ p.block) (u : Value) : Only g a (w.setCell p u) :=
  ⟨h.os, h.tape, h.output, by simpa [World.setCell] using h.size, fun i hi hne => (Below.heap_setCell w p u i (by
    rintro rfl
    rcases hp with hp | hp
    · exact hne (by rw [hp])
    · omega)).trans (h.block i hi hne)⟩
theorem Only.of_below (h : Below a.heap.size a w) : Only g a w := ⟨h.os, h.tape, h.output, h.size, fun i hi _ => h.block i hi⟩
theorem Only.below {B : Nat} (h : Below B a w) (k : Only g w w') (hB : B ≤ w.heap.size) (hg : B ≤ g) : Below B a w' :=
  Below.grown h k hB (fun i hi => by injection hi with hi; omega)
theorem Only.toBelow (h : Only g a w) {B : Nat} (hB : B ≤ a.heap.size) (hg : B ≤ g) : Below B a w := Only.below (Below.refl _ _) h hB hg
theorem Only.cell (h : Only g a w) {p : Addr} (hp : p.block < a.heap.size) (hne : p.block ≠ g) : w.cell? p = a.cell? p :=
  World.cell?_of_block (h.block p.block hp (fun e => hne (by injection e)))
theorem Only.frozen (h : Only g a w) {p : Addr} (hp : p.block < a.heap.size) (hne : p.block ≠ g) : w.frozen? p = a.frozen? p :=
  World.frozen?_of_block (h.block p.block hp (fun e => hne (by injection e)))
theorem Only.size_le (h : Only g a w) : a.heap.size ≤ w.heap.size := h.size
end

/-- what one pick does: the place goes on -/
theorem Rd.step {T : TypeId} {w : World} {g n c p k m : Nat} {A : Option Addr} (hb : w.heap[g]? = some (.cells #[.slice A n c, .int .i64 (p : Int)] T (0, 0))) (hn : n ≤ 2000) (hp : p ≤ k) (hB : Bytes w g A n) :
    Rd T ((w.setCell ⟨g, 1, none⟩ (.int .i64 ((p : Int) + 1))).drewN m) g (k + 1) := by
  refine ⟨A, n, c, p + 1, ?_, hn, by omega, ?_⟩
  · show (w.setCell ⟨g, 1, none⟩ (.int .i64 ((p : Int) + 1))).heap[g]? = _
    simp [World.setCell, Array.getElem?_modify, hb]
  · refine Bytes.keep hB fun q hq => ?_
    show (w.setCell ⟨g, 1, none⟩ (.int .i64 ((p : Int) + 1))).cell? q = _
    exact World.cell?_of_block (Below.heap_setCell w _ _ _ (by intro e; simp at e; omega))

theorem ofInt_i64 (a : Nat) (ha : a < 9223372036854775808) : (BitVec.ofInt 64 (a : Int)).toNat = a := by
  rw [BitVec.ofInt_natCast, BitVec.toNat_ofNat]; exact Nat.mod_eq_of_lt (by omega)
theorem i64_xor_nat (a b : Nat) (ha : a < 9223372036854775808) (hb : b < 9223372036854775808) : bits .xor .i64 (a : Int) (b : Int) = ((a ^^^ b : Nat) : Int) := by
  have hx : a ^^^ b < 2 ^ 63 := Nat.xor_lt_two_pow (by omega) (by omega)
  show IntKind.i64.wrap ((BitVec.ofInt 64 (a : Int) ^^^ BitVec.ofInt 64 (b : Int)).toNat : Int) = _
  rw [BitVec.toNat_xor, ofInt_i64 a ha, ofInt_i64 b hb, IntKind.wrap_i64]
  omega
theorem xor_nonneg (a b : Int) (ha : 0 ≤ a) (hb : 0 ≤ b) (ha2 : a < 9223372036854775808) (hb2 : b < 9223372036854775808) : 0 ≤ bits .xor .i64 a b := by
  obtain ⟨x, rfl⟩ := Int.eq_ofNat_of_zero_le ha
  obtain ⟨y, rfl⟩ := Int.eq_ofNat_of_zero_le hb
  rw [i64_xor_nat x y (by omega) (by omega)]
  omega
theorem tmod_in (x m : Int) (hx : 0 ≤ x) (hm : 1 ≤ m) : 0 ≤ x.tmod m ∧ x.tmod m < m := by
  rw [Int.tmod_eq_emod_of_nonneg hx]
  exact ⟨Int.emod_nonneg _ (by omega), Int.emod_lt_of_pos _ (by omega)⟩
end Rdr
