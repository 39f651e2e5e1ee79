/- The draws of FnRealBack; wrSame that says no. -/
import Derived.Test.YtobbkebjgjeglaaDoorRows
import Derived.Test.YtobbkebjgjeglaaDoorWRRL
import Derived.Test.YtobbkebjgjeglaaDoorWReal
import Derived.WalkKit
import Derived.WalkSpells
import Derived.WalkLawsBesides
import Derived.OpenShut
import Derived.OwnWalk
import Derived.IntWalk
import Derived.Lib.Hide
import Derived.Deep.QuietTactic
import Derived.BigQuiet
import Derived.Laws.FloatArith
namespace Go.Proofs.YtobbkebjgjeglaaDoor
open Go.RowKit Bx Rdr ItoP RealP Fl RealR RealG
set_option linter.unusedVariables false

set_option maxRecDepth 100000 in
set_option maxHeartbeats 1000000 in
theorem of_any (w : World) (g k b n c m : Nat) (h : Rd 64 w g k) (hk : k ≤ 1000000) (h1 : 1 ≤ n) (hn : n ≤ 1000) (hb : b < w.heap.size) (hne : b ≠ g)
    (hc : ∀ i, i < n → ∃ s : ByteArray, s.size ≤ m ∧ w.cell? ⟨b, i, none⟩ = some (.string s)) :
    Calls Tryd.prog 30 #[.pointer (some ⟨g, 0, none⟩), .slice (some ⟨b, 0, none⟩) n c] w fun e w' => ∃ s : ByteArray, e = .returned (.string s) ∧ s.size ≤ m ∧ Rd 64 w' g (k + 1) ∧ Only g w w' := by
  go_enter Tryd.func30, Tryd.ntmps30
  go_wp2_with fail
  refine (pick_any w g k n h hk).mono ?_
  rintro e w1 ⟨x, rfl, h0, hx, _, hrd, ho⟩
  have hx2 := hx (by omega)
  obtain ⟨y, rfl⟩ := Int.eq_ofNat_of_zero_le h0
  obtain ⟨v, hv, hcell⟩ := hc y (by omega)
  have hcell1 : w1.cell? ⟨b, y, none⟩ = some (.string v) := (ho.cell (p := ⟨b, y, none⟩) hb hne).trans hcell
  clear hx hc hcell h
  go_wp2
  go_ret
  exact ⟨v, rfl, hv, hrd, ho⟩
theorem strs_lit (w : World) (xs : List ByteArray) (t : TypeId) (m : Nat) (hm : ∀ x ∈ xs, x.size ≤ m) :
    ∀ i, i < xs.length → ∃ s : ByteArray, s.size ≤ m ∧ (w.alloc (.cells (xs.map Value.string).toArray t)).cell? ⟨w.heap.size, i, none⟩ = some (.string s) := by
  intro i hi
  refine ⟨xs[i], hm _ (List.getElem_mem hi), ?_⟩
  rw [World.cell?_alloc_mark]
  simp [hi]
theorem txt_le {b : Nat} (hb : b < 18446744073709551616) : (txt b).size ≤ 1001 := by
  by_cases h1 : isNaN b
  · rw [txt_nan h1]; decide
  by_cases h2 : rung b = 9218868437227405312
  · rw [txt_inf h2]; split <;> decide
  by_cases h3 : rung b = 0
  · rw [txt_zero h3]; split <;> decide
  · have hf : rung b < 9218868437227405312 := by unfold isNaN at h1; omega
    have hI := Is.of_fin hb hf
    have hv : val (rung b) ≠ 0 := fun e => h3 (val_eq_zero.1 e)
    have hz := num_size hv hI.rep.1 hI.rep
    rw [txt_of hf h3]
    split
    · rw [ByteArray.size_append]
      have : (⟨#[45]⟩ : ByteArray).size = 1 := rfl
      omega
    · omega
/-- a drawn text -/
def DrawnText (w : World) (e : Ending) (w' : World) : Prop := ∃ s : ByteArray, e = .returned (.string s) ∧ s.size ≤ 1100 ∧ Below w.heap.size w w'
set_option maxRecDepth 100000 in
set_option maxHeartbeats 1000000 in
theorem DrawRealRead_any (aa : Option Addr) (n c : Nat) (w : World) (h : IsCode w aa n c) : Calls Tryd.prog 12 #[.slice aa n c] w (DrawnText w) := by
  go_enter Tryd.func12, Tryd.ntmps12
  go_wp2_with fail
  refine (open_any aa n c w h).mono ?_
  rintro e w1 ⟨rfl, r1, hb1, hs1⟩
  clear h hs1
  go_wp2_with fail
  refine (l3Real_any w1 w.heap.size 0 r1 (by omega)).mono ?_
  rintro e w2 ⟨b, rfl, hbl, r2, o2⟩
  have t2 := Only.below hb1 o2 hb1.size (by omega)
  clear r1 hb1 o2
  go_wp2_with fail
  refine (realText_s_any b hbl _).mono ?_
  rintro e w3 ⟨he, hb3⟩
  have hs17 := txt_le hbl
  generalize txt b = s at he hs17
  subst he
  have r3 := r2.below hb3 r2.lt
  have t3 := bel_step t2 hb3 t2.size
  clear hb3 r2 t2
  go_wp2_with fail
  refine (pick_any w3 w.heap.size _ 9 r3 (by omega)).mono ?_
  rintro e w4 ⟨z, rfl, hz0, _, _, r4, o4⟩
  have t4 := Only.below t3 o4 t3.size (by omega)
  have l4 := r4.lt
  clear r3 t3 o4
  by_cases z0 : z = 0
  · subst z0
    go_wp2_with fail
    refine (of_any (w4.alloc (.cells (([⟨#[]⟩, ⟨#[45]⟩, ⟨#[49]⟩, ⟨#[49, 42, 50, 94, 48]⟩, ⟨#[50, 42, 50, 94, 48]⟩, ⟨#[48, 42, 50, 94, 48]⟩, ⟨#[45, 48, 42, 50, 94, 48]⟩, ⟨#[49, 42, 50, 94, 49, 48, 50, 51]⟩, ⟨#[49, 42, 50, 94, 49, 48, 50, 52]⟩, ⟨#[51, 42, 50, 94, 49, 48, 50, 50]⟩, ⟨#[51, 42, 50, 94, 49, 48, 50, 51]⟩, ⟨#[49, 42, 50, 94, 45, 49, 48, 55, 52]⟩, ⟨#[49, 42, 50, 94, 45, 49, 48, 55, 53]⟩, ⟨#[57, 48, 48, 55, 49, 57, 57, 50, 53, 52, 55, 52, 48, 57, 57, 49, 42, 50, 94, 57, 55, 49]⟩, ⟨#[57, 48, 48, 55, 49, 57, 57, 50, 53, 52, 55, 52, 48, 57, 57, 49, 42, 50, 94, 57, 55, 50]⟩, ⟨#[57, 48, 48, 55, 49, 57, 57, 50, 53, 52, 55, 52, 48, 57, 57, 51, 42, 50, 94, 48]⟩, ⟨#[49, 42, 50, 94, 43, 51]⟩, ⟨#[49, 42, 50, 94]⟩, ⟨#[49, 42, 50]⟩, ⟨#[42, 50, 94, 51]⟩, ⟨#[48, 49, 42, 50, 94, 51]⟩, ⟨#[49, 42, 50, 94, 48, 51]⟩, ⟨#[45, 45, 49, 42, 50, 94, 51]⟩, ⟨#[45, 110, 97, 110]⟩, ⟨#[45, 105, 110, 102]⟩, ⟨#[57, 48, 48, 55, 49, 57, 57, 50, 53, 52, 55, 52, 48, 57, 57, 49, 42, 50, 94, 45, 49, 48, 55, 52]⟩, ⟨#[49, 42, 50, 94, 45, 48]⟩, ⟨#[51, 42, 50, 94, 45, 49, 48, 55, 52, 32]⟩] : List ByteArray).map Value.string).toArray 9)) w.heap.size _ w4.heap.size 28 28 30 (r4.alloc _) (by omega) (by omega) (by omega) (by simp) (by omega) (strs_lit w4 [⟨#[]⟩, ⟨#[45]⟩, ⟨#[49]⟩, ⟨#[49, 42, 50, 94, 48]⟩, ⟨#[50, 42, 50, 94, 48]⟩, ⟨#[48, 42, 50, 94, 48]⟩, ⟨#[45, 48, 42, 50, 94, 48]⟩, ⟨#[49, 42, 50, 94, 49, 48, 50, 51]⟩, ⟨#[49, 42, 50, 94, 49, 48, 50, 52]⟩, ⟨#[51, 42, 50, 94, 49, 48, 50, 50]⟩, ⟨#[51, 42, 50, 94, 49, 48, 50, 51]⟩, ⟨#[49, 42, 50, 94, 45, 49, 48, 55, 52]⟩, ⟨#[49, 42, 50, 94, 45, 49, 48, 55, 53]⟩, ⟨#[57, 48, 48, 55, 49, 57, 57, 50, 53, 52, 55, 52, 48, 57, 57, 49, 42, 50, 94, 57, 55, 49]⟩, ⟨#[57, 48, 48, 55, 49, 57, 57, 50, 53, 52, 55, 52, 48, 57, 57, 49, 42, 50, 94, 57, 55, 50]⟩, ⟨#[57, 48, 48, 55, 49, 57, 57, 50, 53, 52, 55, 52, 48, 57, 57, 51, 42, 50, 94, 48]⟩, ⟨#[49, 42, 50, 94, 43, 51]⟩, ⟨#[49, 42, 50, 94]⟩, ⟨#[49, 42, 50]⟩, ⟨#[42, 50, 94, 51]⟩, ⟨#[48, 49, 42, 50, 94, 51]⟩, ⟨#[49, 42, 50, 94, 48, 51]⟩, ⟨#[45, 45, 49, 42, 50, 94, 51]⟩, ⟨#[45, 110, 97, 110]⟩, ⟨#[45, 105, 110, 102]⟩, ⟨#[57, 48, 48, 55, 49, 57, 57, 50, 53, 52, 55, 52, 48, 57, 57, 49, 42, 50, 94, 45, 49, 48, 55, 52]⟩, ⟨#[49, 42, 50, 94, 45, 48]⟩, ⟨#[51, 42, 50, 94, 45, 49, 48, 55, 52, 32]⟩] 9 30 (by decide))).mono ?_
    rintro e w5 ⟨r, rfl, hr, r5, o5⟩
    have t5 := Only.below (t4.alloc t4.size _) o5 (t4.alloc t4.size _).size (by omega)
    clear r4 t4 o5 r5
    go_wp2
    go_ret
    exact ⟨r, rfl, by omega, t5⟩
  by_cases z1 : z = 1
  · subst z1
    go_wp2_with fail
    refine (of_any (w4.alloc (.cells (([⟨#[48]⟩, ⟨#[32]⟩, ⟨#[42]⟩, ⟨#[49]⟩] : List ByteArray).map Value.string).toArray 9)) w.heap.size _ w4.heap.size 4 4 20 (r4.alloc _) (by omega) (by omega) (by omega) (by simp) (by omega) (strs_lit w4 [⟨#[48]⟩, ⟨#[32]⟩, ⟨#[42]⟩, ⟨#[49]⟩] 9 20 (by decide))).mono ?_
    rintro e w5 ⟨r, rfl, hr, r5, o5⟩
    have t5 := Only.below (t4.alloc t4.size _) o5 (t4.alloc t4.size _).size (by omega)
    have hsr : (s ++ r).size ≤ 1100 := by rw [ByteArray.size_append]; omega
    have HSR := Lib.hid hsr
    clear r4 t4 o5 r5 hsr
    go_wp2
    go_ret
    exact ⟨s ++ r, rfl, HSR.out, t5⟩
  by_cases z2 : z = 2
  · subst z2
    go_wp2_with fail
    refine (of_any (w4.alloc (.cells (([⟨#[45]⟩, ⟨#[48]⟩, ⟨#[32]⟩, ⟨#[49]⟩] : List ByteArray).map Value.string).toArray 9)) w.heap.size _ w4.heap.size 4 4 20 (r4.alloc _) (by omega) (by omega) (by omega) (by simp) (by omega) (strs_lit w4 [⟨#[45]⟩, ⟨#[48]⟩, ⟨#[32]⟩, ⟨#[49]⟩] 9 20 (by decide))).mono ?_
    rintro e w5 ⟨r, rfl, hr, r5, o5⟩
    have t5 := Only.below (t4.alloc t4.size _) o5 (t4.alloc t4.size _).size (by omega)
    have hsr : (r ++ s).size ≤ 1100 := by rw [ByteArray.size_append]; omega
    have HSR := Lib.hid hsr
    clear r4 t4 o5 r5 hsr
    go_wp2
    go_ret
    exact ⟨r ++ s, rfl, HSR.out, t5⟩
  · have z0' : (z == 0) = false := by simpa using z0
    have z1' : (z == 1) = false := by simpa using z1
    have z2' : (z == 2) = false := by simpa using z2
    clear r4 z0 z1 z2
    go_wp2
    go_ret
    exact ⟨s, rfl, by omega, t4⟩
set_option maxRecDepth 100000 in
set_option maxHeartbeats 1000000 in
theorem DrawRealText_any (aa : Option Addr) (n c : Nat) (w : World) (h : IsCode w aa n c) : Calls Tryd.prog 9 #[.slice aa n c] w fun e w' => ∃ b : Nat, e = .returned (.float .f64 b) ∧ b < 18446744073709551616 ∧ Below w.heap.size w w' := by
  go_enter Tryd.func9, Tryd.ntmps9
  go_wp2_with fail
  refine (open_any aa n c w h).mono ?_
  rintro e w1 ⟨rfl, r1, hb1, hs1⟩
  clear h hs1
  go_wp2_with fail
  refine (l3Real_any w1 w.heap.size 0 r1 (by omega)).mono ?_
  rintro e w2 ⟨b, rfl, hbl, r2, o2⟩
  have t2 := Only.below hb1 o2 hb1.size (by omega)
  clear r1 hb1 o2 r2
  have HB := Lib.hid hbl
  clear hbl
  go_wp2
  go_ret
  exact ⟨b, rfl, HB.out, t2⟩
set_option maxRecDepth 100000 in
set_option maxHeartbeats 1000000 in
theorem wrSame_no_l (a b : Nat) (ha : isNaN a) (hb : ¬ isNaN b) (w : World) : Calls Tryd.prog 11 #[.float .f64 a, .float .f64 b] w fun e w' => e = .returned (.bool false) ∧ w = w' := by
  have e1 := ord_nan_l ha
  have e2 := ord_self hb
  clear ha hb
  go_enter Tryd.func11, Tryd.ntmps11
  go_wp2
  go_ret
  exact ⟨rfl, rfl⟩
set_option maxRecDepth 100000 in
set_option maxHeartbeats 1000000 in
theorem wrSame_no_r (a b : Nat) (ha : ¬ isNaN a) (hb : isNaN b) (w : World) : Calls Tryd.prog 11 #[.float .f64 a, .float .f64 b] w fun e w' => e = .returned (.bool false) ∧ w = w' := by
  have e1 := ord_self ha
  have e2 := ord_nan_l hb
  clear ha hb
  go_enter Tryd.func11, Tryd.ntmps11
  go_wp2
  go_ret
  exact ⟨rfl, rfl⟩
set_option maxRecDepth 100000 in
set_option maxHeartbeats 1000000 in
theorem wrSame_no_ne (a b : Nat) (ha : ¬ isNaN a) (hb : ¬ isNaN b) (h : (FloatKind.f64.format.order a b == some .eq) = false) (w : World) : Calls Tryd.prog 11 #[.float .f64 a, .float .f64 b] w fun e w' => e = .returned (.bool false) ∧ w = w' := by
  have e1 := ord_self ha
  have e2 := ord_self hb
  clear ha hb
  go_enter Tryd.func11, Tryd.ntmps11
  go_wp2
  go_ret
  exact ⟨rfl, rfl⟩
set_option maxRecDepth 100000 in
set_option maxHeartbeats 1000000 in
theorem wrSame_no_zero (a b : Nat) (ha0 : a < 18446744073709551616) (hb0 : b < 18446744073709551616) (ha : rung a = 0) (hb : rung b = 0) (hs : neg a = !neg b) (w : World) : Calls Tryd.prog 11 #[.float .f64 a, .float .f64 b] w fun e w' => e = .returned (.bool false) ∧ w = w' := by
  have na : ¬ isNaN a := by unfold isNaN; omega
  have nb : ¬ isNaN b := by unfold isNaN; omega
  have e1 := ord_self na
  have e2 := ord_self nb
  have e0 : (FloatKind.f64.format.order a b == some .eq) = true := by
    show (Ieee.double.order a b == some .eq) = true
    rw [order_eq na nb]
    have u1 : units a = 0 := by unfold units; rw [ha, val_zero]; split <;> rfl
    have u2 : units b = 0 := by unfold units; rw [hb, val_zero]; split <;> rfl
    rw [u1, u2]; rfl
  have e3 : (FloatKind.f64.format.order a 0 == some .eq) = true := by rw [ord_zero na, ha]; rfl
  have e3' : (FloatKind.f64.format.order a 0 != some .eq) = false := by rw [bne, e3]; rfl
  have hd1 := one_div_zero ha0 ha
  have hd2 := one_div_zero hb0 hb
  have e4 := fun (w : World) (t : TypeId) => run_float_arith (P := Tryd.prog) w .quo t .f64 _ _ _ hd1
  have e5 := fun (w : World) (t : TypeId) => run_float_arith (P := Tryd.prog) w .quo t .f64 _ _ _ hd2
  have e6 := word_inf_pos (neg a)
  have e7 := word_inf_pos (neg b)
  rw [hs] at e4 e6
  clear na nb ha hb ha0 hb0 hs hd1 hd2
  generalize neg b = s at *
  cases s with
  | true =>
    go_enter Tryd.func11, Tryd.ntmps11
    go_wp2
    go_ret
    exact ⟨rfl, rfl⟩
  | false =>
    go_enter Tryd.func11, Tryd.ntmps11
    go_wp2
    go_ret
    exact ⟨rfl, rfl⟩
theorem wrSame_not {a b : Nat} (ha : a < 18446744073709551616) (hb : b < 18446744073709551616) (h : ¬ ((isNaN a ∧ isNaN b) ∨ a = b)) (w : World) : Calls Tryd.prog 11 #[.float .f64 a, .float .f64 b] w fun e w' => e = .returned (.bool false) ∧ w = w' := by
  by_cases n1 : isNaN a
  · by_cases n2 : isNaN b
    · exact absurd (.inl ⟨n1, n2⟩) h
    · exact wrSame_no_l a b n1 n2 w
  by_cases n2 : isNaN b
  · exact wrSame_no_r a b n1 n2 w
  by_cases hu : units a = units b
  · have hv : val (rung a) = val (rung b) ∧ (neg a = neg b ∨ val (rung a) = 0) := by
      unfold units at hu
      revert hu
      generalize neg a = x
      generalize neg b = y
      intro hu
      cases x <;> cases y <;> simp at hu ⊢ <;> omega
    have hr := val_inj hv.1
    by_cases hs : neg a = neg b
    · exact absurd (.inr (same_word ha hb hr hs)) h
    · have h0 : rung a = 0 := val_eq_zero.1 (hv.2.resolve_left hs)
      refine wrSame_no_zero a b ha hb h0 (hr ▸ h0) ?_ w
      revert hs
      generalize neg a = x
      generalize neg b = y
      cases x <;> cases y <;> decide
  · refine wrSame_no_ne a b n1 n2 ?_ w
    show (Ieee.double.order a b == some .eq) = false
    rw [order_eq n1 n2, compare_int]
    split
    · rfl
    · rfl
end Go.Proofs.YtobbkebjgjeglaaDoor
