/- The walks of num, l3Op, l3Whole: what each draws, and that it changes the reader's block alone. -/
import Derived.Test.YtobbkebjgjeglaaRows
import Derived.Test.YtobbkebjgjeglaaWDraw
import Derived.WalkKit
import Derived.WalkSpells
import Derived.WalkLawsBesides
import Derived.OpenShut
namespace Go.Proofs.Ytobbkebjgjeglaa
open Go.RowKit Rdr
set_option linter.unusedVariables false

set_option maxRecDepth 100000 in
set_option maxHeartbeats 400000 in
theorem num_any (w : World) (g k b n c : Nat) (P : Int → Prop) (h : Rd 39 w g k) (hk : k ≤ 1000000) (h1 : 1 ≤ n) (hn : n ≤ 1000) (hb : b < w.heap.size) (hne : b ≠ g)
    (hc : ∀ i, i < n → ∃ x : Int, P x ∧ w.cell? ⟨b, i, none⟩ = some (.int .i64 x)) :
    Calls Try.prog 13 #[.pointer (some ⟨g, 0, none⟩), .slice (some ⟨b, 0, none⟩) n c] w fun e w' => ∃ x : Int, e = .returned (.int .i64 x) ∧ P x ∧ Rd 39 w' g (k + 1) ∧ Only g w w' := by
  go_enter Try.func13, Try.ntmps13
  go_wp2_with fail
  refine (pick_any w g k n h hk).mono ?_
  rintro e w1 ⟨x, rfl, h0, hx, _, hrd, ho⟩
  have hx2 := hx (by omega)
  obtain ⟨y, rfl⟩ := Int.eq_ofNat_of_zero_le h0
  obtain ⟨v, hv, hcell⟩ := hc y (by omega)
  have hcell1 : w1.cell? ⟨b, y, none⟩ = some (.int .i64 v) := (ho.cell (p := ⟨b, y, none⟩) hb hne).trans hcell
  clear hx hc hcell h
  go_wp2
  go_ret
  exact ⟨v, rfl, hv, hrd, ho⟩

/-- A DRAWN NUMBER of which P holds; the reader goes on by at most d; no other block turns. -/
def Drew (k : IntKind) (P : Int → Prop) (d : Nat) (w : World) (g j : Nat) (e : Ending) (w' : World) : Prop :=
  ∃ x : Int, e = .returned (.int k x) ∧ P x ∧ Rd 39 w' g (j + d) ∧ Only g w w'
theorem cells_lit (w : World) (xs : List Int) (t : TypeId) (P : Int → Prop) (hP : ∀ x ∈ xs, P x) :
    ∀ i, i < xs.length → ∃ x : Int, P x ∧ (w.alloc (.cells (xs.map (Value.int .i64)).toArray t)).cell? ⟨w.heap.size, i, none⟩ = some (.int .i64 x) := by
  intro i hi
  refine ⟨xs[i], hP _ (List.getElem_mem hi), ?_⟩
  rw [World.cell?_alloc_mark]
  simp [hi]
set_option maxRecDepth 100000 in
set_option maxHeartbeats 400000 in
theorem l3Op_any (w : World) (g k : Nat) (h : Rd 39 w g k) (hk : k ≤ 100000) :
    Calls Try.prog 8 #[.pointer (some ⟨g, 0, none⟩)] w (Drew .i64 (fun x => -1 ≤ x ∧ x ≤ 99) 2 w g k) := by
  go_enter Try.func8, Try.ntmps8
  go_wp2_with fail
  refine (pick_any w g k 16 h (by omega)).mono ?_
  rintro e w1 ⟨x, rfl, h0, hx, _, hrd, ho⟩
  have hx2 := hx (by omega)
  have hlt := hrd.lt
  clear hx h
  by_cases hz : x = 0
  · subst hz
    go_wp2_with fail
    refine (num_any (w1.alloc (.cells (([-1, 0, 7, 8, 99] : List Int).map (Value.int .i64)).toArray 3)) g (k + 1) w1.heap.size 5 5 (fun x => -1 ≤ x ∧ x ≤ 99) (hrd.alloc _) (by omega) (by omega) (by omega) (by simp) (by omega) (cells_lit w1 [-1, 0, 7, 8, 99] 3 _ (by decide))).mono ?_
    rintro e w2 ⟨y, rfl, hy, hrd2, ho2⟩
    go_wp2
    go_ret
    exact ⟨y, rfl, hy, hrd2, (ho.alloc _).trans ho2⟩
  · have hz' : (x == 0) = false := by simpa using hz
    go_wp2_with fail
    refine (pick_any w1 g (k + 1) 6 hrd (by omega)).mono ?_
    rintro e w2 ⟨y, rfl, h0y, hy, _, hrd2, ho2⟩
    have hy2 := hy (by omega)
    clear hy
    go_wp2
    go_ret
    exact ⟨_, rfl, by omega, hrd2, ho.trans ho2⟩
set_option maxRecDepth 100000 in
set_option maxHeartbeats 400000 in
theorem l3Whole_any (w : World) (g k : Nat) (h : Rd 39 w g k) (hk : k ≤ 100000) :
    Calls Try.prog 9 #[.pointer (some ⟨g, 0, none⟩)] w (Drew .i16 (fun x => -32768 ≤ x ∧ x ≤ 32767) 2 w g k) := by
  go_enter Try.func9, Try.ntmps9
  go_wp2_with fail
  refine (pick_any w g k 4 h (by omega)).mono ?_
  rintro e w1 ⟨x, rfl, h0, hx, _, hrd, ho⟩
  have hx2 := hx (by omega)
  have hlt := hrd.lt
  clear hx h
  by_cases hz : x = 0
  · subst hz
    go_wp2_with fail
    refine (num_any (w1.alloc (.cells (([32767, -32768, 0, -1, 1, 32766, -32767, 181, 182, -182] : List Int).map (Value.int .i64)).toArray 3)) g (k + 1) w1.heap.size 10 10 (fun x => -32768 ≤ x ∧ x ≤ 32767) (hrd.alloc _) (by omega) (by omega) (by omega) (by simp) (by omega) (cells_lit w1 [32767, -32768, 0, -1, 1, 32766, -32767, 181, 182, -182] 3 _ (by decide))).mono ?_
    rintro e w2 ⟨y, rfl, hy, hrd2, ho2⟩
    obtain ⟨hy1, hy2⟩ := hy
    go_wp2
    go_ret
    exact ⟨y, rfl, ⟨hy1, hy2⟩, hrd2, (ho.alloc _).trans ho2⟩
  · have hz' : (x == 0) = false := by simpa using hz
    go_wp2_with fail
    refine (pick_any w1 g (k + 1) 65536 hrd (by omega)).mono ?_
    rintro e w2 ⟨y, rfl, h0y, hy, _, hrd2, ho2⟩
    have hy2 := hy (by omega)
    clear hy
    go_wp2
    go_ret
    exact ⟨_, rfl, by omega, hrd2, ho.trans ho2⟩
end Go.Proofs.Ytobbkebjgjeglaa
