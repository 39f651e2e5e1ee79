/- The draws of FnDevBack. -/
import Derived.Test.YtikcabmohlaanaaDoorRows
import Derived.Test.YtikcabmohlaanaaDoorWRdL
import Derived.Test.YtikcabmohlaanaaDoorWDArg2
import Derived.Test.YtikcabmohlaanaaDoorDevB2
import Derived.WalkKit
import Derived.WalkSpells
import Derived.WalkLawsBesides
import Derived.OpenShut
import Derived.OwnWalk
import Derived.IntWalk
import Derived.Lib.Hide
namespace Go.Proofs.YtikcabmohlaanaaDoor
open Go.RowKit Bx Rdr
set_option linter.unusedVariables false

set_option maxRecDepth 100000 in
set_option maxHeartbeats 4000000 in
theorem of_any (w : World) (g k b n c m : Nat) (h : Rd 62 w g k) (hk : k ≤ 1000000) (h1 : 1 ≤ n) (hn : n ≤ 1000) (hb : b < w.heap.size) (hne : b ≠ g)
    (hc : ∀ i, i < n → ∃ s : ByteArray, s.size ≤ m ∧ w.cell? ⟨b, i, none⟩ = some (.string s)) :
    Calls Tryd.prog 34 #[.pointer (some ⟨g, 0, none⟩), .slice (some ⟨b, 0, none⟩) n c] w fun e w' => ∃ s : ByteArray, e = .returned (.string s) ∧ s.size ≤ m ∧ Rd 62 w' g (k + 1) ∧ Only g w w' := by
  go_enter Tryd.func34, Tryd.ntmps34
  go_wp2_with fail
  refine (pick_any w g k n h hk).mono ?_
  rintro e w1 ⟨x, rfl, h0, hx, _, hrd, ho⟩
  have hx2 := hx (by omega)
  obtain ⟨y, rfl⟩ := Int.eq_ofNat_of_zero_le h0
  obtain ⟨v, hv, hcell⟩ := hc y (by omega)
  have hcell1 : w1.cell? ⟨b, y, none⟩ = some (.string v) := (ho.cell (p := ⟨b, y, none⟩) hb hne).trans hcell
  clear hx hc hcell h
  go_wp2
  go_ret
  exact ⟨v, rfl, hv, hrd, ho⟩
theorem strs_lit (w : World) (xs : List ByteArray) (t : TypeId) (m : Nat) (hm : ∀ x ∈ xs, x.size ≤ m) :
    ∀ i, i < xs.length → ∃ s : ByteArray, s.size ≤ m ∧ (w.alloc (.cells (xs.map Value.string).toArray t)).cell? ⟨w.heap.size, i, none⟩ = some (.string s) := by
  intro i hi
  refine ⟨xs[i], hm _ (List.getElem_mem hi), ?_⟩
  rw [World.cell?_alloc_mark]
  simp [hi]
/-- a drawn text -/
def DrawnText (w : World) (e : Ending) (w' : World) : Prop := ∃ s : ByteArray, e = .returned (.string s) ∧ s.size ≤ 100 ∧ Below w.heap.size w w'
set_option maxRecDepth 100000 in
set_option maxHeartbeats 4000000 in
theorem DrawDevRead_any (aa : Option Addr) (n c : Nat) (w : World) (h : IsCode w aa n c) (henv : REnv w) : Calls Tryd.prog 11 #[.slice aa n c] w (DrawnText w) := by
  have HE := Lib.hid henv
  clear henv
  go_enter Tryd.func11, Tryd.ntmps11
  go_wp2_with fail
  refine (open_any aa n c w h).mono ?_
  rintro e w1 ⟨rfl, r1, hb1, hs1⟩
  clear h hs1
  go_wp2_with fail
  refine (l2Any_any w1 w.heap.size 0 r1 (by omega)).mono ?_
  rintro e w2 ⟨a, b, d, rfl, r2, o2⟩
  have t2 := Only.below hb1 o2 hb1.size (by omega)
  clear r1 hb1 o2
  go_wp2_with fail
  refine (devText_s_any a b d _ (HE.out.kept t2).tab (HE.out.kept t2).wd).mono ?_
  rintro e w3 ⟨he, hb3⟩
  have hs17 := DevB.txt_size a b d
  generalize DevT.txt a b d = s at he hs17
  subst he
  have r3 := r2.below hb3 r2.lt
  have t3 := bel_step t2 hb3 t2.size
  clear hb3 r2 t2 HE
  go_wp2_with fail
  refine (pick_any w3 w.heap.size _ 9 r3 (by omega)).mono ?_
  rintro e w4 ⟨z, rfl, hz0, _, _, r4, o4⟩
  have t4 := Only.below t3 o4 t3.size (by omega)
  have l4 := r4.lt
  clear r3 t3 o4
  by_cases z0 : z = 0
  · subst z0
    go_wp2_with fail
    refine (of_any (w4.alloc (.cells (([⟨#[]⟩, ⟨#[88]⟩, ⟨#[88, 48, 49]⟩, ⟨#[88, 45, 49]⟩, ⟨#[88, 51, 50]⟩, ⟨#[89, 51, 50]⟩, ⟨#[77, 54, 52]⟩, ⟨#[77, 54, 51]⟩, ⟨#[83, 49, 54]⟩, ⟨#[69, 51, 50]⟩, ⟨#[71, 53]⟩, ⟨#[84, 49, 54]⟩, ⟨#[67, 49, 54]⟩, ⟨#[68, 51, 50]⟩, ⟨#[82, 49, 54]⟩, ⟨#[90, 49]⟩, ⟨#[120, 49]⟩, ⟨#[45, 48]⟩, ⟨#[43, 53]⟩, ⟨#[48, 48, 55]⟩, ⟨#[49, 46]⟩, ⟨#[46, 53]⟩, ⟨#[48, 46, 53, 48]⟩, ⟨#[45, 48, 46, 48]⟩, ⟨#[48, 46, 48]⟩, ⟨#[45, 48, 46, 48, 48]⟩, ⟨#[49, 46, 50, 46, 51]⟩, ⟨#[45, 45, 49]⟩, ⟨#[51, 50, 55, 54, 56]⟩, ⟨#[45, 51, 50, 55, 54, 56]⟩, ⟨#[45, 51, 50, 55, 54, 57]⟩, ⟨#[49, 50, 51, 52, 53, 54, 55, 46, 49, 50, 51, 52, 53, 54, 55]⟩, ⟨#[57, 57, 57, 57, 57, 57, 57, 57, 46, 57]⟩, ⟨#[49, 48, 48, 48, 48, 48, 48, 48, 48, 46, 48]⟩, ⟨#[57, 57, 57, 46, 57, 57, 57, 57, 57, 57]⟩, ⟨#[78, 97, 78]⟩, ⟨#[45, 110, 97, 110]⟩, ⟨#[105, 110, 102, 32]⟩, ⟨#[48, 46, 48, 48, 48, 48, 48, 49]⟩, ⟨#[45, 48, 46, 48, 48, 48, 48, 48, 49]⟩, ⟨#[49, 101, 53]⟩, ⟨#[49, 50, 51, 52, 53, 54, 55, 56, 57, 48, 49, 50, 51, 52, 53, 54, 55, 56, 57, 48]⟩, ⟨#[88, 32, 49]⟩] : List ByteArray).map Value.string).toArray 9)) w.heap.size _ w4.heap.size 43 43 20 (r4.alloc _) (by omega) (by omega) (by omega) (by simp) (by omega) (strs_lit w4 [⟨#[]⟩, ⟨#[88]⟩, ⟨#[88, 48, 49]⟩, ⟨#[88, 45, 49]⟩, ⟨#[88, 51, 50]⟩, ⟨#[89, 51, 50]⟩, ⟨#[77, 54, 52]⟩, ⟨#[77, 54, 51]⟩, ⟨#[83, 49, 54]⟩, ⟨#[69, 51, 50]⟩, ⟨#[71, 53]⟩, ⟨#[84, 49, 54]⟩, ⟨#[67, 49, 54]⟩, ⟨#[68, 51, 50]⟩, ⟨#[82, 49, 54]⟩, ⟨#[90, 49]⟩, ⟨#[120, 49]⟩, ⟨#[45, 48]⟩, ⟨#[43, 53]⟩, ⟨#[48, 48, 55]⟩, ⟨#[49, 46]⟩, ⟨#[46, 53]⟩, ⟨#[48, 46, 53, 48]⟩, ⟨#[45, 48, 46, 48]⟩, ⟨#[48, 46, 48]⟩, ⟨#[45, 48, 46, 48, 48]⟩, ⟨#[49, 46, 50, 46, 51]⟩, ⟨#[45, 45, 49]⟩, ⟨#[51, 50, 55, 54, 56]⟩, ⟨#[45, 51, 50, 55, 54, 56]⟩, ⟨#[45, 51, 50, 55, 54, 57]⟩, ⟨#[49, 50, 51, 52, 53, 54, 55, 46, 49, 50, 51, 52, 53, 54, 55]⟩, ⟨#[57, 57, 57, 57, 57, 57, 57, 57, 46, 57]⟩, ⟨#[49, 48, 48, 48, 48, 48, 48, 48, 48, 46, 48]⟩, ⟨#[57, 57, 57, 46, 57, 57, 57, 57, 57, 57]⟩, ⟨#[78, 97, 78]⟩, ⟨#[45, 110, 97, 110]⟩, ⟨#[105, 110, 102, 32]⟩, ⟨#[48, 46, 48, 48, 48, 48, 48, 49]⟩, ⟨#[45, 48, 46, 48, 48, 48, 48, 48, 49]⟩, ⟨#[49, 101, 53]⟩, ⟨#[49, 50, 51, 52, 53, 54, 55, 56, 57, 48, 49, 50, 51, 52, 53, 54, 55, 56, 57, 48]⟩, ⟨#[88, 32, 49]⟩] 9 20 (by decide))).mono ?_
    rintro e w5 ⟨r, rfl, hr, r5, o5⟩
    have t5 := Only.below (t4.alloc t4.size _) o5 (t4.alloc t4.size _).size (by omega)
    clear r4 t4 o5 r5
    go_wp2
    go_ret
    exact ⟨r, rfl, by omega, t5⟩
  by_cases z1 : z = 1
  · subst z1
    go_wp2_with fail
    refine (of_any (w4.alloc (.cells (([⟨#[48]⟩, ⟨#[32]⟩, ⟨#[46]⟩, ⟨#[49]⟩, ⟨#[10]⟩] : List ByteArray).map Value.string).toArray 9)) w.heap.size _ w4.heap.size 5 5 20 (r4.alloc _) (by omega) (by omega) (by omega) (by simp) (by omega) (strs_lit w4 [⟨#[48]⟩, ⟨#[32]⟩, ⟨#[46]⟩, ⟨#[49]⟩, ⟨#[10]⟩] 9 20 (by decide))).mono ?_
    rintro e w5 ⟨r, rfl, hr, r5, o5⟩
    have t5 := Only.below (t4.alloc t4.size _) o5 (t4.alloc t4.size _).size (by omega)
    have hsr : (s ++ r).size ≤ 100 := by rw [ByteArray.size_append]; omega
    have HSR := Lib.hid hsr
    clear r4 t4 o5 r5 hsr
    go_wp2
    go_ret
    exact ⟨s ++ r, rfl, HSR.out, t5⟩
  by_cases z2 : z = 2
  · subst z2
    go_wp2_with fail
    refine (of_any (w4.alloc (.cells (([⟨#[45]⟩, ⟨#[48]⟩, ⟨#[32]⟩, ⟨#[88]⟩, ⟨#[43]⟩] : List ByteArray).map Value.string).toArray 9)) w.heap.size _ w4.heap.size 5 5 20 (r4.alloc _) (by omega) (by omega) (by omega) (by simp) (by omega) (strs_lit w4 [⟨#[45]⟩, ⟨#[48]⟩, ⟨#[32]⟩, ⟨#[88]⟩, ⟨#[43]⟩] 9 20 (by decide))).mono ?_
    rintro e w5 ⟨r, rfl, hr, r5, o5⟩
    have t5 := Only.below (t4.alloc t4.size _) o5 (t4.alloc t4.size _).size (by omega)
    have hsr : (r ++ s).size ≤ 100 := by rw [ByteArray.size_append]; omega
    have HSR := Lib.hid hsr
    clear r4 t4 o5 r5 hsr
    go_wp2
    go_ret
    exact ⟨r ++ s, rfl, HSR.out, t5⟩
  · have z0' : (z == 0) = false := by simpa using z0
    have z1' : (z == 1) = false := by simpa using z1
    have z2' : (z == 2) = false := by simpa using z2
    clear r4 z0 z1 z2
    go_wp2
    go_ret
    exact ⟨s, rfl, by omega, t4⟩
end Go.Proofs.YtikcabmohlaanaaDoor
