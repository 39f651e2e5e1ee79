/- The walks of num, l3Op, l3Whole: what each draws, and that it changes the reader's block alone. -/
import Derived.Test.YtmlpobecilbknaaDoorRows
import Derived.Test.YtmlpobecilbknaaDoorWDraw
import Derived.WalkKit
import Derived.WalkSpells
import Derived.WalkLawsBesides
import Derived.OpenShut
namespace Go.Proofs.YtmlpobecilbknaaDoor
open Go.RowKit Rdr
set_option linter.unusedVariables false

set_option maxRecDepth 100000 in
set_option maxHeartbeats 400000 in
theorem num_any (w : World) (g k b n c : Nat) (P : Int → Prop) (h : Rd 82 w g k) (hk : k ≤ 1000000) (h1 : 1 ≤ n) (hn : n ≤ 1000) (hb : b < w.heap.size) (hne : b ≠ g)
    (hc : ∀ i, i < n → ∃ x : Int, P x ∧ w.cell? ⟨b, i, none⟩ = some (.int .i64 x)) :
    Calls Tryd.prog 77 #[.pointer (some ⟨g, 0, none⟩), .slice (some ⟨b, 0, none⟩) n c] w fun e w' => ∃ x : Int, e = .returned (.int .i64 x) ∧ P x ∧ Rd 82 w' g (k + 1) ∧ Only g w w' := by
  go_enter Tryd.func77, Tryd.ntmps77
  go_wp2_with fail
  refine (pick_any w g k n h hk).mono ?_
  rintro e w1 ⟨x, rfl, h0, hx, _, hrd, ho⟩
  have hx2 := hx (by omega)
  obtain ⟨y, rfl⟩ := Int.eq_ofNat_of_zero_le h0
  obtain ⟨v, hv, hcell⟩ := hc y (by omega)
  have hcell1 : w1.cell? ⟨b, y, none⟩ = some (.int .i64 v) := (ho.cell (p := ⟨b, y, none⟩) hb hne).trans hcell
  clear hx hc hcell h
  go_wp2
  go_ret
  exact ⟨v, rfl, hv, hrd, ho⟩

/-- A DRAWN NUMBER of which P holds; the reader goes on by at most d; no other block turns. -/
def Drew (k : IntKind) (P : Int → Prop) (d : Nat) (w : World) (g j : Nat) (e : Ending) (w' : World) : Prop :=
  ∃ x : Int, e = .returned (.int k x) ∧ P x ∧ Rd 82 w' g (j + d) ∧ Only g w w'
theorem cells_lit (w : World) (xs : List Int) (t : TypeId) (P : Int → Prop) (hP : ∀ x ∈ xs, P x) :
    ∀ i, i < xs.length → ∃ x : Int, P x ∧ (w.alloc (.cells (xs.map (Value.int .i64)).toArray t)).cell? ⟨w.heap.size, i, none⟩ = some (.int .i64 x) := by
  intro i hi
  refine ⟨xs[i], hP _ (List.getElem_mem hi), ?_⟩
  rw [World.cell?_alloc_mark]
  simp [hi]
end Go.Proofs.YtmlpobecilbknaaDoor
