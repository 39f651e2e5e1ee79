/- The program's ElemIsCoil. -/
import Derived.Test.YtmlpobecilbknaaDoorRows
import Derived.Test.YtmlpobecilbknaaDoorWElem2
import Derived.WalkKit
import Derived.WalkSpells
import Derived.WalkLawsBesides
import Derived.OpenShut
import Derived.IntWalk
import Derived.Lib.Hide
import Derived.Deep.QuietTactic
import Derived.BigQuiet
import Derived.Shelf.Abstract
namespace Go.Proofs.YtmlpobecilbknaaDoor
open Go.RowKit Bx ElemP
set_option linter.unusedVariables false

theorem enters_notWhole : ∀ args w, (callFunc 35 args).run Tryd.prog w = .ok (.enter 35 args) w := enters_of Tryd.func35 (by kernel_rfl) rfl
theorem enters_notReal : ∀ args w, (callFunc 37 args).run Tryd.prog w = .ok (.enter 37 args) w := enters_of Tryd.func37 (by kernel_rfl) rfl
def ixI (v : Int) : List Int → Int
  | [] => -1
  | x :: xs => if x = v then 0 else if ixI v xs < 0 then -1 else ixI v xs + 1
theorem ixI_ge (v : Int) : ∀ xs, -1 ≤ ixI v xs
  | [] => by show (-1 : Int) ≤ -1; omega
  | x :: xs => by
    have h := ixI_ge v xs
    show -1 ≤ (if x = v then 0 else if ixI v xs < 0 then -1 else ixI v xs + 1 : Int)
    split
    · omega
    · split <;> omega
theorem ixI_hit (v : Int) (ys : List Int) : ∀ xs : List Int, (∀ y ∈ xs, y ≠ v) → ixI v (xs ++ v :: ys) = (xs.length : Int)
  | [], _ => by simp [ixI]
  | z :: zs, h => by
    have := ixI_hit v ys zs (fun y hy => h y (List.mem_cons_of_mem _ hy))
    have hz := h z List.mem_cons_self
    simp only [List.cons_append, ixI, hz, if_false, this, List.length_cons]
    rw [if_neg (by omega)]; omega
theorem ixI_miss (v : Int) : ∀ xs : List Int, (∀ y ∈ xs, y ≠ v) → ixI v xs = -1
  | [], _ => rfl
  | z :: zs, h => by
    have := ixI_miss v zs (fun y hy => h y (List.mem_cons_of_mem _ hy))
    have hz := h z List.mem_cons_self
    simp only [ixI, hz, if_false, this]
    rfl
theorem ixI_any (v : Int) : ∀ xs : List Int, decide (0 ≤ ixI v xs) = xs.any fun x => v == x
  | [] => rfl
  | x :: xs => by
    have h := ixI_any v xs
    have := ixI_ge v xs
    rw [List.any_cons, ← h]
    show decide (0 ≤ (if x = v then 0 else if ixI v xs < 0 then -1 else ixI v xs + 1 : Int)) = _
    by_cases hx : x = v
    · simp [hx]
    · have : (v == x) = false := by simp; omega
      rw [this, if_neg hx, Bool.false_or]
      split <;> simp <;> omega
set_option maxRecDepth 100000 in
set_option maxHeartbeats 1000000 in
theorem index_any (g n c : Nat) (v : Int) (ks : List Int) (hn : n = ks.length) (h3 : n ≤ 100) (w : World) (hg : g < w.heap.size) (hl : ∀ i x, ks[i]? = some x → w.cell? ⟨g, i, none⟩ = some (.int .i64 x)) :
    Calls Tryd.prog 80 #[.slice (some ⟨g, 0, none⟩) n c, .int .i64 v] w fun e w' => e = .returned (.int .i64 (ixI v ks)) ∧ Below w.heap.size w w' := by
  have HN := Lib.hid hn
  have HL := Lib.hid (fun i x (h : ks[i]? = some x) (wr : World) (hb : Below w.heap.size w wr) => (hb.cell (p := ⟨g, i, none⟩) hg).trans (hl i x h))
  clear hn hl
  go_enter Tryd.func80, Tryd.ntmps80
  go_wp2_with fail
  go_loopw [5, 8] (fun _ i wr => ∃ k : Nat, k ≤ n ∧ i = .int .i64 k ∧ (∀ y ∈ ks.take k, y ≠ v) ∧ Below w.heap.size w wr) (fun _ i _ => n - (intOf i).toNat)
  case atStart => exact ⟨0, by omega, rfl, by simp, Below.refl _ _⟩
  case round =>
    obtain ⟨k, hk, rfl, hno, hbel⟩ := hrel
    have HO := Lib.hid hno
    clear hno
    by_cases hlt : k < n
    · obtain ⟨x, hx⟩ : ∃ x, ks[k]? = some x := ⟨_, List.getElem?_eq_getElem (by have := HN.out; omega)⟩
      have hcell := HL.out k x hx wr hbel
      have HX := Lib.hid hx
      clear hx
      by_cases he : v = x
      · subst he
        go_wp2
        go_ret
        refine ⟨?_, by first | exact hbel | exact bel_drewN hbel _⟩
        have hd : ks = ks.take k ++ v :: ks.drop (k + 1) := by
          have hk2 : k < ks.length := by have := HN.out; omega
          have he : ks[k] = v := by have := HX.out; rw [List.getElem?_eq_getElem hk2] at this; exact Option.some.inj this
          rw [← he, ← List.drop_eq_getElem_cons hk2, List.take_append_drop]
        have hi := ixI_hit v (ks.drop (k + 1)) (ks.take k) HO.out
        rw [← hd, List.length_take, Nat.min_eq_left (by have := HN.out; omega)] at hi
        rw [hi]; rfl
      · have hev : (v == x) = false := by simpa using he
        go_wp2
        go_roundw
        case rel =>
          refine ⟨k + 1, by omega, by go_num, fun y hy => ?_, by first | exact hbel | exact bel_drewN hbel _⟩
          rw [List.take_add_one, HX.out] at hy
          rcases List.mem_append.1 hy with h1 | h1
          · exact HO.out y h1
          · simp at h1; rw [h1]; exact fun h => he h.symm
        case measure => simp [intOf]; omega
    · obtain rfl : k = n := by omega
      go_wp2
      go_ret
      refine ⟨?_, hbel⟩
      have ht : ks.take k = ks := List.take_of_length_le (by have := HN.out; omega)
      rw [ixI_miss v ks (by have := HO.out; rwa [ht] at this)]
      rfl
set_option maxRecDepth 100000 in
set_option maxHeartbeats 1000000 in
theorem contains_any (g n c : Nat) (v : Int) (ks : List Int) (hn : n = ks.length) (h3 : n ≤ 100) (w : World) (hg : g < w.heap.size) (hl : ∀ i x, ks[i]? = some x → w.cell? ⟨g, i, none⟩ = some (.int .i64 x)) :
    Calls Tryd.prog 70 #[.slice (some ⟨g, 0, none⟩) n c, .int .i64 v] w fun e w' => e = .returned (.bool (ks.any fun x => v == x)) ∧ Below w.heap.size w w' := by
  rw [← ixI_any v ks]
  have hi := index_any g n c v ks hn h3 w hg hl
  generalize ixI v ks = r at hi ⊢
  clear hn hl
  go_enter Tryd.func70, Tryd.ntmps70
  go_wp2_with fail
  refine hi.mono ?_
  rintro e w1 ⟨rfl, hb1⟩
  clear hi
  go_wp2
  go_ret
  exact ⟨rfl, hb1⟩
set_option maxRecDepth 100000 in
set_option maxHeartbeats 1000000 in
theorem isKind_any (a b d : Int) (g n c : Nat) (ks : List Int) (hn : n = ks.length) (h3 : n ≤ 100) (w : World) (hg : g < w.heap.size) (hl : ∀ i x, ks[i]? = some x → w.cell? ⟨g, i, none⟩ = some (.int .i64 x)) :
    Calls Tryd.prog 39 #[.agg #[.int .i64 a, .int .i64 b, .int .i64 d], .slice (some ⟨g, 0, none⟩) n c] w fun e w' => e = .returned (.bool (ks.any fun x => a == x)) ∧ Below w.heap.size w w' := by
  have hc := fun w' (hb : Below w.heap.size w w') => contains_any g n c a ks hn h3 w' (by have := hb.size; omega) (fun i x hx => (hb.cell (p := ⟨g, i, none⟩) hg).trans (hl i x hx))
  generalize (ks.any fun x => a == x) = r at hc ⊢
  clear hn hl
  go_enter Tryd.func39, Tryd.ntmps39
  go_wp2_with fail
  refine (hc _ (by repeat (first | exact Below.refl _ _ | assumption | refine Below.setCell ?_ (by first | (simp; done) | (simp; omega) | omega) _ | refine Below.alloc ?_ (by first | (simp; done) | (simp; omega) | omega) _ | refine Bx.bel_drewN ?_ _ | refine Below.drew ?_))).mono ?_
  rintro e w1 ⟨rfl, hb1⟩
  have hB1 : Below w.heap.size w w1 := bel_step (by repeat (first | exact Below.refl _ _ | assumption | refine Below.setCell ?_ (by first | (simp; done) | (simp; omega) | omega) _ | refine Below.alloc ?_ (by first | (simp; done) | (simp; omega) | omega) _ | refine Bx.bel_drewN ?_ _ | refine Below.drew ?_)) hb1 (by simp)
  clear hc hb1
  go_wp2
  go_ret
  exact ⟨rfl, hB1⟩
set_option maxRecDepth 100000 in
set_option maxHeartbeats 1000000 in
theorem containsFunc0 (N : Nat) (a : Option Addr) (c : Nat) (w : World) : Calls Tryd.prog 34 #[.slice a 0 c, .func (.func N) #[] #[]] w fun e w' => e = .returned (.bool false) ∧ Below w.heap.size w w' := by
  have hx : Calls Tryd.prog 69 #[.slice a 0 c, .func (.func N) #[] #[]] w fun e w' => e = .returned (.int .i64 (-1)) ∧ Below w.heap.size w w' := by
    go_enter Tryd.func69, Tryd.ntmps69
    go_wp2_with fail
    go_loopw [5, 8] (fun _ i wr => i = .int .i64 0 ∧ wr = w) (fun _ i _ => 0)
    case atStart => exact ⟨rfl, rfl⟩
    case round =>
      obtain ⟨rfl, rfl⟩ := hrel
      go_wp2
      go_ret
      exact ⟨rfl, Below.refl _ _⟩
  go_enter Tryd.func34, Tryd.ntmps34
  go_wp2_with fail
  refine hx.mono ?_
  rintro e w1 ⟨rfl, hb1⟩
  clear hx
  go_wp2
  go_ret
  exact ⟨rfl, hb1⟩
set_option maxRecDepth 100000 in
set_option maxHeartbeats 1000000 in
theorem isPreset_any (a b d : Int) (w : World) : Calls Tryd.prog 40 #[.agg #[.int .i64 a, .int .i64 b, .int .i64 d]] w fun e w' => e = .returned (.bool (a == 11 && decide (0 ≤ b))) ∧ Below w.heap.size w w' := by
  go_enter Tryd.func40, Tryd.ntmps40
  by_cases h1 : a = 11
  · subst h1
    go_wp2
    go_ret
    exact ⟨rfl, by repeat (first | exact Below.refl _ _ | assumption | refine Below.setCell ?_ (by first | (simp; done) | (simp; omega) | omega) _ | refine Below.alloc ?_ (by first | (simp; done) | (simp; omega) | omega) _ | refine Bx.bel_drewN ?_ _ | refine Below.drew ?_)⟩
  · have h2 : (a == 11) = false := by simpa using h1
    rw [h2]
    go_wp2
    go_ret
    exact ⟨rfl, by repeat (first | exact Below.refl _ _ | assumption | refine Below.setCell ?_ (by first | (simp; done) | (simp; omega) | omega) _ | refine Below.alloc ?_ (by first | (simp; done) | (simp; omega) | omega) _ | refine Bx.bel_drewN ?_ _ | refine Below.drew ?_)⟩
set_option maxRecDepth 100000 in
set_option maxHeartbeats 1000000 in
theorem coil_i_21_one (k0 n0 p0 : Int) (g : Nat) (w : World) (hl : Lie w g 0 [(k0, n0, p0)]) (r : Bool) (hr0 : (([2, 3] : List Int).any fun x => k0 == x) = r) 
    (ha : ∀ w', Below w.heap.size w w' → Calls Tryd.prog 31 #[.agg #[.int .i64 21, .slice (some ⟨g, 0, none⟩) 1 1]] w' fun e w'' => e = .returned (.bool true) ∧ Below w'.heap.size w' w'') : Calls Tryd.prog 15 #[.agg #[.int .i64 21, .slice (some ⟨g, 0, none⟩) 1 1]] w fun e w' => e = .returned (.bool r) ∧ Below w.heap.size w w' := by
  have hi := fun w => isCoilOp_any 21 w
  rw [show (decide ((21 : Int) ≤ 21) && decide ((21 : Int) ≤ 37)) = true from rfl] at hi
  have hmf := hmf_all
  have hw := fun w' (h : Below w.heap.size w w') => containsFunc0 35 (some ⟨g, 0, none⟩) 0 w'
  have hr := fun w' (h : Below w.heap.size w w') => containsFunc0 37 (some ⟨g, 0, none⟩) 0 w'
  have hk := fun g' w' hg hlit => isKind_any k0 n0 p0 g' 2 2 [2, 3] rfl (by omega) w' hg hlit
  rw [hr0] at hk
  clear hr0
  have HL := Lib.hid hl
  clear hl
  go_enter Tryd.func15, Tryd.ntmps15
  go_wp2_with fail
  refine (hi _).mono ?_
  rintro e w1 ⟨rfl, rfl⟩
  clear hi
  go_wp2_with fail
  refine (ha _ (by repeat (first | exact Below.refl _ _ | assumption | refine Below.setCell ?_ (by first | (simp; done) | (simp; omega) | omega) _ | refine Below.alloc ?_ (by first | (simp; done) | (simp; omega) | omega) _ | refine Bx.bel_drewN ?_ _ | refine Below.drew ?_))).mono ?_
  rintro e w2 ⟨rfl, hb2⟩
  have b2 := (Box.new w #[.int .i64 21, .slice (some ⟨g, 0, none⟩) 1 1] 31).kept hb2
  have hB2 : Below w.heap.size w w2 := bel_step (by repeat (first | exact Below.refl _ _ | assumption | refine Below.setCell ?_ (by first | (simp; done) | (simp; omega) | omega) _ | refine Below.alloc ?_ (by first | (simp; done) | (simp; omega) | omega) _ | refine Bx.bel_drewN ?_ _ | refine Below.drew ?_)) hb2 (by simp)
  have c0 : w2.cell? ⟨w.heap.size, 0, none⟩ = some (.int .i64 21) := b2.cell 0
  have c1 : w2.cell? ⟨w.heap.size, 1, none⟩ = some (.slice (some ⟨g, 0, none⟩) 1 1) := b2.cell 1
  have hl2 := HL.out.kept hB2
  have d0 : w2.cell? ⟨g, 0, none⟩ = some (.int .i64 k0) := (hl2.at 0 _ rfl).1
  have d1 : w2.cell? ⟨g, 1, none⟩ = some (.int .i64 n0) := (hl2.at 0 _ rfl).2.1
  have d2 : w2.cell? ⟨g, 2, none⟩ = some (.int .i64 p0) := (hl2.at 0 _ rfl).2.2
  have b3 : Box (w2.alloc (.cells #[.int .i64 k0, .int .i64 n0, .int .i64 p0] 40)).drew w2.heap.size #[.int .i64 k0, .int .i64 n0, .int .i64 p0] 40 := Box.new w2 #[.int .i64 k0, .int .i64 n0, .int .i64 p0] 40
  have b2' : Box (w2.alloc (.cells #[.int .i64 k0, .int .i64 n0, .int .i64 p0] 40)).drew w.heap.size #[.int .i64 21, .slice (some ⟨g, 0, none⟩) 1 1] 31 := b2.alloc (.cells #[.int .i64 k0, .int .i64 n0, .int .i64 p0] 40)
  have hB3 : Below w.heap.size w (w2.alloc (.cells #[.int .i64 k0, .int .i64 n0, .int .i64 p0] 40)).drew := (hB2.alloc hB2.size _).drew
  have l2 : w.heap.size < w2.heap.size := b2.lt
  have lg : g < w2.heap.size := hl2.1
  clear hb2 ha hl2
  go_wp2_with fail
  go_region
  go_wp2_with fail
  refine (hw _ hB3).mono ?_
  rintro e w4 ⟨rfl, hb4⟩
  have b4 := b3.kept hb4
  have e4 := b2'.kept hb4
  have hB4 : Below w.heap.size w w4 := bel_step hB3 hb4 hB3.size
  clear hb4 hw b3 b2' hB3 c0 c1 d0 d1 d2 b2 hB2
  go_wp2_with fail
  refine (hr _ hB4).mono ?_
  rintro e w5 ⟨rfl, hb5⟩
  have b5 := b4.kept hb5
  have e5 := e4.kept hb5
  have hB5 : Below w.heap.size w w5 := bel_step hB4 hb5 hB4.size
  clear hb5 hr b4 e4 hB4
  have c0 : w5.cell? ⟨w.heap.size, 0, none⟩ = some (.int .i64 21) := e5.cell 0
  have c1 : w5.cell? ⟨w.heap.size, 1, none⟩ = some (.slice (some ⟨g, 0, none⟩) 1 1) := e5.cell 1
  have a0 : w5.cell? ⟨w2.heap.size, 0, none⟩ = some (.int .i64 k0) := b5.cell 0
  have a1 : w5.cell? ⟨w2.heap.size, 1, none⟩ = some (.int .i64 n0) := b5.cell 1
  have a2 : w5.cell? ⟨w2.heap.size, 2, none⟩ = some (.int .i64 p0) := b5.cell 2
  have hlit : ∀ i x, ([2, 3] : List Int)[i]? = some x → (w5.alloc (.cells #[.int .i64 2, .int .i64 3] 3)).cell? ⟨w5.heap.size, i, none⟩ = some (.int .i64 x) := by
    intro i x hx
    rw [World.cell?_alloc_mark]
    have hi : i < 2 := by have := (List.getElem?_eq_some_iff.1 hx).1; simpa using this
    have hi2 : i = 0 ∨ i = 1 := by omega
    rcases hi2 with rfl | rfl <;> simp_all
  have hk2 := hk w5.heap.size (w5.alloc (.cells #[.int .i64 2, .int .i64 3] 3)) (by simp) hlit
  have hB6 : Below w.heap.size w (w5.alloc (.cells #[.int .i64 2, .int .i64 3] 3)) := hB5.alloc hB5.size _
  clear hlit hk
  go_wp2_with fail
  refine hk2.mono ?_
  rintro e w7 ⟨rfl, hb7⟩
  have hB7 := bel_step hB6 hb7 hB6.size
  clear hk2 hb7 hB6 hB5 b5 e5 a0 a1 a2 c0 c1
  go_wp2
  go_ret
  exact ⟨rfl, hB7⟩
set_option maxRecDepth 100000 in
set_option maxHeartbeats 1000000 in
theorem coil_i_21_more (k0 n0 p0 : Int) (g c : Nat) (hcap : 2 ≤ c ∧ c ≤ maxLen) (w : World) (hl : Lie w g 0 [(k0, n0, p0)]) (r : Bool) (hr0 : (([2, 3] : List Int).any fun x => k0 == x) = r) 
    (ha : ∀ w', Below w.heap.size w w' → Calls Tryd.prog 31 #[.agg #[.int .i64 21, .slice (some ⟨g, 0, none⟩) 1 c]] w' fun e w'' => e = .returned (.bool true) ∧ Below w'.heap.size w' w'') : Calls Tryd.prog 15 #[.agg #[.int .i64 21, .slice (some ⟨g, 0, none⟩) 1 c]] w fun e w' => e = .returned (.bool r) ∧ Below w.heap.size w w' := by
  have hi := fun w => isCoilOp_any 21 w
  rw [show (decide ((21 : Int) ≤ 21) && decide ((21 : Int) ≤ 37)) = true from rfl] at hi
  have hmf := hmf_all
  have hw := fun w' (h : Below w.heap.size w w') => containsFunc0 35 (some ⟨g, 3, none⟩) (c - 1) w'
  have hr := fun w' (h : Below w.heap.size w w') => containsFunc0 37 (some ⟨g, 3, none⟩) (c - 1) w'
  have hk := fun g' w' hg hlit => isKind_any k0 n0 p0 g' 2 2 [2, 3] rfl (by omega) w' hg hlit
  rw [hr0] at hk
  clear hr0
  have HL := Lib.hid hl
  obtain ⟨hcap, hcm⟩ := hcap
  clear hl
  go_enter Tryd.func15, Tryd.ntmps15
  go_wp2_with fail
  refine (hi _).mono ?_
  rintro e w1 ⟨rfl, rfl⟩
  clear hi
  go_wp2_with fail
  refine (ha _ (by repeat (first | exact Below.refl _ _ | assumption | refine Below.setCell ?_ (by first | (simp; done) | (simp; omega) | omega) _ | refine Below.alloc ?_ (by first | (simp; done) | (simp; omega) | omega) _ | refine Bx.bel_drewN ?_ _ | refine Below.drew ?_))).mono ?_
  rintro e w2 ⟨rfl, hb2⟩
  have b2 := (Box.new w #[.int .i64 21, .slice (some ⟨g, 0, none⟩) 1 c] 31).kept hb2
  have hB2 : Below w.heap.size w w2 := bel_step (by repeat (first | exact Below.refl _ _ | assumption | refine Below.setCell ?_ (by first | (simp; done) | (simp; omega) | omega) _ | refine Below.alloc ?_ (by first | (simp; done) | (simp; omega) | omega) _ | refine Bx.bel_drewN ?_ _ | refine Below.drew ?_)) hb2 (by simp)
  have c0 : w2.cell? ⟨w.heap.size, 0, none⟩ = some (.int .i64 21) := b2.cell 0
  have c1 : w2.cell? ⟨w.heap.size, 1, none⟩ = some (.slice (some ⟨g, 0, none⟩) 1 c) := b2.cell 1
  have hl2 := HL.out.kept hB2
  have d0 : w2.cell? ⟨g, 0, none⟩ = some (.int .i64 k0) := (hl2.at 0 _ rfl).1
  have d1 : w2.cell? ⟨g, 1, none⟩ = some (.int .i64 n0) := (hl2.at 0 _ rfl).2.1
  have d2 : w2.cell? ⟨g, 2, none⟩ = some (.int .i64 p0) := (hl2.at 0 _ rfl).2.2
  have b3 : Box (w2.alloc (.cells #[.int .i64 k0, .int .i64 n0, .int .i64 p0] 40)).drew w2.heap.size #[.int .i64 k0, .int .i64 n0, .int .i64 p0] 40 := Box.new w2 #[.int .i64 k0, .int .i64 n0, .int .i64 p0] 40
  have b2' : Box (w2.alloc (.cells #[.int .i64 k0, .int .i64 n0, .int .i64 p0] 40)).drew w.heap.size #[.int .i64 21, .slice (some ⟨g, 0, none⟩) 1 c] 31 := b2.alloc (.cells #[.int .i64 k0, .int .i64 n0, .int .i64 p0] 40)
  have hB3 : Below w.heap.size w (w2.alloc (.cells #[.int .i64 k0, .int .i64 n0, .int .i64 p0] 40)).drew := (hB2.alloc hB2.size _).drew
  have l2 : w.heap.size < w2.heap.size := b2.lt
  have lg : g < w2.heap.size := hl2.1
  clear hb2 ha hl2
  go_wp2_with fail
  go_region
  go_wp2_with fail
  refine (hw _ hB3).mono ?_
  rintro e w4 ⟨rfl, hb4⟩
  have b4 := b3.kept hb4
  have e4 := b2'.kept hb4
  have hB4 : Below w.heap.size w w4 := bel_step hB3 hb4 hB3.size
  clear hb4 hw b3 b2' hB3 c0 c1 d0 d1 d2 b2 hB2
  go_wp2_with fail
  refine (hr _ hB4).mono ?_
  rintro e w5 ⟨rfl, hb5⟩
  have b5 := b4.kept hb5
  have e5 := e4.kept hb5
  have hB5 : Below w.heap.size w w5 := bel_step hB4 hb5 hB4.size
  clear hb5 hr b4 e4 hB4
  have c0 : w5.cell? ⟨w.heap.size, 0, none⟩ = some (.int .i64 21) := e5.cell 0
  have c1 : w5.cell? ⟨w.heap.size, 1, none⟩ = some (.slice (some ⟨g, 0, none⟩) 1 c) := e5.cell 1
  have a0 : w5.cell? ⟨w2.heap.size, 0, none⟩ = some (.int .i64 k0) := b5.cell 0
  have a1 : w5.cell? ⟨w2.heap.size, 1, none⟩ = some (.int .i64 n0) := b5.cell 1
  have a2 : w5.cell? ⟨w2.heap.size, 2, none⟩ = some (.int .i64 p0) := b5.cell 2
  have hlit : ∀ i x, ([2, 3] : List Int)[i]? = some x → (w5.alloc (.cells #[.int .i64 2, .int .i64 3] 3)).cell? ⟨w5.heap.size, i, none⟩ = some (.int .i64 x) := by
    intro i x hx
    rw [World.cell?_alloc_mark]
    have hi : i < 2 := by have := (List.getElem?_eq_some_iff.1 hx).1; simpa using this
    have hi2 : i = 0 ∨ i = 1 := by omega
    rcases hi2 with rfl | rfl <;> simp_all
  have hk2 := hk w5.heap.size (w5.alloc (.cells #[.int .i64 2, .int .i64 3] 3)) (by simp) hlit
  have hB6 : Below w.heap.size w (w5.alloc (.cells #[.int .i64 2, .int .i64 3] 3)) := hB5.alloc hB5.size _
  clear hlit hk
  go_wp2_with fail
  refine hk2.mono ?_
  rintro e w7 ⟨rfl, hb7⟩
  have hB7 := bel_step hB6 hb7 hB6.size
  clear hk2 hb7 hB6 hB5 b5 e5 a0 a1 a2 c0 c1
  go_wp2
  go_ret
  exact ⟨rfl, hB7⟩
set_option maxRecDepth 100000 in
set_option maxHeartbeats 1000000 in
theorem coil_i_22_one (k0 n0 p0 : Int) (g : Nat) (w : World) (hl : Lie w g 0 [(k0, n0, p0)]) (r : Bool) (hr0 : (([2, 3, 4] : List Int).any fun x => k0 == x) = r) 
    (ha : ∀ w', Below w.heap.size w w' → Calls Tryd.prog 31 #[.agg #[.int .i64 22, .slice (some ⟨g, 0, none⟩) 1 1]] w' fun e w'' => e = .returned (.bool true) ∧ Below w'.heap.size w' w'') : Calls Tryd.prog 15 #[.agg #[.int .i64 22, .slice (some ⟨g, 0, none⟩) 1 1]] w fun e w' => e = .returned (.bool r) ∧ Below w.heap.size w w' := by
  have hi := fun w => isCoilOp_any 22 w
  rw [show (decide ((21 : Int) ≤ 22) && decide ((22 : Int) ≤ 37)) = true from rfl] at hi
  have hmf := hmf_all
  have hw := fun w' (h : Below w.heap.size w w') => containsFunc0 35 (some ⟨g, 0, none⟩) 0 w'
  have hr := fun w' (h : Below w.heap.size w w') => containsFunc0 37 (some ⟨g, 0, none⟩) 0 w'
  have hk := fun g' w' hg hlit => isKind_any k0 n0 p0 g' 3 3 [2, 3, 4] rfl (by omega) w' hg hlit
  rw [hr0] at hk
  clear hr0
  have HL := Lib.hid hl
  clear hl
  go_enter Tryd.func15, Tryd.ntmps15
  go_wp2_with fail
  refine (hi _).mono ?_
  rintro e w1 ⟨rfl, rfl⟩
  clear hi
  go_wp2_with fail
  refine (ha _ (by repeat (first | exact Below.refl _ _ | assumption | refine Below.setCell ?_ (by first | (simp; done) | (simp; omega) | omega) _ | refine Below.alloc ?_ (by first | (simp; done) | (simp; omega) | omega) _ | refine Bx.bel_drewN ?_ _ | refine Below.drew ?_))).mono ?_
  rintro e w2 ⟨rfl, hb2⟩
  have b2 := (Box.new w #[.int .i64 22, .slice (some ⟨g, 0, none⟩) 1 1] 31).kept hb2
  have hB2 : Below w.heap.size w w2 := bel_step (by repeat (first | exact Below.refl _ _ | assumption | refine Below.setCell ?_ (by first | (simp; done) | (simp; omega) | omega) _ | refine Below.alloc ?_ (by first | (simp; done) | (simp; omega) | omega) _ | refine Bx.bel_drewN ?_ _ | refine Below.drew ?_)) hb2 (by simp)
  have c0 : w2.cell? ⟨w.heap.size, 0, none⟩ = some (.int .i64 22) := b2.cell 0
  have c1 : w2.cell? ⟨w.heap.size, 1, none⟩ = some (.slice (some ⟨g, 0, none⟩) 1 1) := b2.cell 1
  have hl2 := HL.out.kept hB2
  have d0 : w2.cell? ⟨g, 0, none⟩ = some (.int .i64 k0) := (hl2.at 0 _ rfl).1
  have d1 : w2.cell? ⟨g, 1, none⟩ = some (.int .i64 n0) := (hl2.at 0 _ rfl).2.1
  have d2 : w2.cell? ⟨g, 2, none⟩ = some (.int .i64 p0) := (hl2.at 0 _ rfl).2.2
  have b3 : Box (w2.alloc (.cells #[.int .i64 k0, .int .i64 n0, .int .i64 p0] 40)).drew w2.heap.size #[.int .i64 k0, .int .i64 n0, .int .i64 p0] 40 := Box.new w2 #[.int .i64 k0, .int .i64 n0, .int .i64 p0] 40
  have b2' : Box (w2.alloc (.cells #[.int .i64 k0, .int .i64 n0, .int .i64 p0] 40)).drew w.heap.size #[.int .i64 22, .slice (some ⟨g, 0, none⟩) 1 1] 31 := b2.alloc (.cells #[.int .i64 k0, .int .i64 n0, .int .i64 p0] 40)
  have hB3 : Below w.heap.size w (w2.alloc (.cells #[.int .i64 k0, .int .i64 n0, .int .i64 p0] 40)).drew := (hB2.alloc hB2.size _).drew
  have l2 : w.heap.size < w2.heap.size := b2.lt
  have lg : g < w2.heap.size := hl2.1
  clear hb2 ha hl2
  go_wp2_with fail
  go_region
  go_wp2_with fail
  refine (hw _ hB3).mono ?_
  rintro e w4 ⟨rfl, hb4⟩
  have b4 := b3.kept hb4
  have e4 := b2'.kept hb4
  have hB4 : Below w.heap.size w w4 := bel_step hB3 hb4 hB3.size
  clear hb4 hw b3 b2' hB3 c0 c1 d0 d1 d2 b2 hB2
  go_wp2_with fail
  refine (hr _ hB4).mono ?_
  rintro e w5 ⟨rfl, hb5⟩
  have b5 := b4.kept hb5
  have e5 := e4.kept hb5
  have hB5 : Below w.heap.size w w5 := bel_step hB4 hb5 hB4.size
  clear hb5 hr b4 e4 hB4
  have c0 : w5.cell? ⟨w.heap.size, 0, none⟩ = some (.int .i64 22) := e5.cell 0
  have c1 : w5.cell? ⟨w.heap.size, 1, none⟩ = some (.slice (some ⟨g, 0, none⟩) 1 1) := e5.cell 1
  have a0 : w5.cell? ⟨w2.heap.size, 0, none⟩ = some (.int .i64 k0) := b5.cell 0
  have a1 : w5.cell? ⟨w2.heap.size, 1, none⟩ = some (.int .i64 n0) := b5.cell 1
  have a2 : w5.cell? ⟨w2.heap.size, 2, none⟩ = some (.int .i64 p0) := b5.cell 2
  have hlit : ∀ i x, ([2, 3, 4] : List Int)[i]? = some x → (w5.alloc (.cells #[.int .i64 2, .int .i64 3, .int .i64 4] 3)).cell? ⟨w5.heap.size, i, none⟩ = some (.int .i64 x) := by
    intro i x hx
    rw [World.cell?_alloc_mark]
    have hi : i < 3 := by have := (List.getElem?_eq_some_iff.1 hx).1; simpa using this
    have hi2 : i = 0 ∨ i = 1 ∨ i = 2 := by omega
    rcases hi2 with rfl | rfl | rfl <;> simp_all
  have hk2 := hk w5.heap.size (w5.alloc (.cells #[.int .i64 2, .int .i64 3, .int .i64 4] 3)) (by simp) hlit
  have hB6 : Below w.heap.size w (w5.alloc (.cells #[.int .i64 2, .int .i64 3, .int .i64 4] 3)) := hB5.alloc hB5.size _
  clear hlit hk
  go_wp2_with fail
  refine hk2.mono ?_
  rintro e w7 ⟨rfl, hb7⟩
  have hB7 := bel_step hB6 hb7 hB6.size
  clear hk2 hb7 hB6 hB5 b5 e5 a0 a1 a2 c0 c1
  go_wp2
  go_ret
  exact ⟨rfl, hB7⟩
set_option maxRecDepth 100000 in
set_option maxHeartbeats 1000000 in
theorem coil_i_22_more (k0 n0 p0 : Int) (g c : Nat) (hcap : 2 ≤ c ∧ c ≤ maxLen) (w : World) (hl : Lie w g 0 [(k0, n0, p0)]) (r : Bool) (hr0 : (([2, 3, 4] : List Int).any fun x => k0 == x) = r) 
    (ha : ∀ w', Below w.heap.size w w' → Calls Tryd.prog 31 #[.agg #[.int .i64 22, .slice (some ⟨g, 0, none⟩) 1 c]] w' fun e w'' => e = .returned (.bool true) ∧ Below w'.heap.size w' w'') : Calls Tryd.prog 15 #[.agg #[.int .i64 22, .slice (some ⟨g, 0, none⟩) 1 c]] w fun e w' => e = .returned (.bool r) ∧ Below w.heap.size w w' := by
  have hi := fun w => isCoilOp_any 22 w
  rw [show (decide ((21 : Int) ≤ 22) && decide ((22 : Int) ≤ 37)) = true from rfl] at hi
  have hmf := hmf_all
  have hw := fun w' (h : Below w.heap.size w w') => containsFunc0 35 (some ⟨g, 3, none⟩) (c - 1) w'
  have hr := fun w' (h : Below w.heap.size w w') => containsFunc0 37 (some ⟨g, 3, none⟩) (c - 1) w'
  have hk := fun g' w' hg hlit => isKind_any k0 n0 p0 g' 3 3 [2, 3, 4] rfl (by omega) w' hg hlit
  rw [hr0] at hk
  clear hr0
  have HL := Lib.hid hl
  obtain ⟨hcap, hcm⟩ := hcap
  clear hl
  go_enter Tryd.func15, Tryd.ntmps15
  go_wp2_with fail
  refine (hi _).mono ?_
  rintro e w1 ⟨rfl, rfl⟩
  clear hi
  go_wp2_with fail
  refine (ha _ (by repeat (first | exact Below.refl _ _ | assumption | refine Below.setCell ?_ (by first | (simp; done) | (simp; omega) | omega) _ | refine Below.alloc ?_ (by first | (simp; done) | (simp; omega) | omega) _ | refine Bx.bel_drewN ?_ _ | refine Below.drew ?_))).mono ?_
  rintro e w2 ⟨rfl, hb2⟩
  have b2 := (Box.new w #[.int .i64 22, .slice (some ⟨g, 0, none⟩) 1 c] 31).kept hb2
  have hB2 : Below w.heap.size w w2 := bel_step (by repeat (first | exact Below.refl _ _ | assumption | refine Below.setCell ?_ (by first | (simp; done) | (simp; omega) | omega) _ | refine Below.alloc ?_ (by first | (simp; done) | (simp; omega) | omega) _ | refine Bx.bel_drewN ?_ _ | refine Below.drew ?_)) hb2 (by simp)
  have c0 : w2.cell? ⟨w.heap.size, 0, none⟩ = some (.int .i64 22) := b2.cell 0
  have c1 : w2.cell? ⟨w.heap.size, 1, none⟩ = some (.slice (some ⟨g, 0, none⟩) 1 c) := b2.cell 1
  have hl2 := HL.out.kept hB2
  have d0 : w2.cell? ⟨g, 0, none⟩ = some (.int .i64 k0) := (hl2.at 0 _ rfl).1
  have d1 : w2.cell? ⟨g, 1, none⟩ = some (.int .i64 n0) := (hl2.at 0 _ rfl).2.1
  have d2 : w2.cell? ⟨g, 2, none⟩ = some (.int .i64 p0) := (hl2.at 0 _ rfl).2.2
  have b3 : Box (w2.alloc (.cells #[.int .i64 k0, .int .i64 n0, .int .i64 p0] 40)).drew w2.heap.size #[.int .i64 k0, .int .i64 n0, .int .i64 p0] 40 := Box.new w2 #[.int .i64 k0, .int .i64 n0, .int .i64 p0] 40
  have b2' : Box (w2.alloc (.cells #[.int .i64 k0, .int .i64 n0, .int .i64 p0] 40)).drew w.heap.size #[.int .i64 22, .slice (some ⟨g, 0, none⟩) 1 c] 31 := b2.alloc (.cells #[.int .i64 k0, .int .i64 n0, .int .i64 p0] 40)
  have hB3 : Below w.heap.size w (w2.alloc (.cells #[.int .i64 k0, .int .i64 n0, .int .i64 p0] 40)).drew := (hB2.alloc hB2.size _).drew
  have l2 : w.heap.size < w2.heap.size := b2.lt
  have lg : g < w2.heap.size := hl2.1
  clear hb2 ha hl2
  go_wp2_with fail
  go_region
  go_wp2_with fail
  refine (hw _ hB3).mono ?_
  rintro e w4 ⟨rfl, hb4⟩
  have b4 := b3.kept hb4
  have e4 := b2'.kept hb4
  have hB4 : Below w.heap.size w w4 := bel_step hB3 hb4 hB3.size
  clear hb4 hw b3 b2' hB3 c0 c1 d0 d1 d2 b2 hB2
  go_wp2_with fail
  refine (hr _ hB4).mono ?_
  rintro e w5 ⟨rfl, hb5⟩
  have b5 := b4.kept hb5
  have e5 := e4.kept hb5
  have hB5 : Below w.heap.size w w5 := bel_step hB4 hb5 hB4.size
  clear hb5 hr b4 e4 hB4
  have c0 : w5.cell? ⟨w.heap.size, 0, none⟩ = some (.int .i64 22) := e5.cell 0
  have c1 : w5.cell? ⟨w.heap.size, 1, none⟩ = some (.slice (some ⟨g, 0, none⟩) 1 c) := e5.cell 1
  have a0 : w5.cell? ⟨w2.heap.size, 0, none⟩ = some (.int .i64 k0) := b5.cell 0
  have a1 : w5.cell? ⟨w2.heap.size, 1, none⟩ = some (.int .i64 n0) := b5.cell 1
  have a2 : w5.cell? ⟨w2.heap.size, 2, none⟩ = some (.int .i64 p0) := b5.cell 2
  have hlit : ∀ i x, ([2, 3, 4] : List Int)[i]? = some x → (w5.alloc (.cells #[.int .i64 2, .int .i64 3, .int .i64 4] 3)).cell? ⟨w5.heap.size, i, none⟩ = some (.int .i64 x) := by
    intro i x hx
    rw [World.cell?_alloc_mark]
    have hi : i < 3 := by have := (List.getElem?_eq_some_iff.1 hx).1; simpa using this
    have hi2 : i = 0 ∨ i = 1 ∨ i = 2 := by omega
    rcases hi2 with rfl | rfl | rfl <;> simp_all
  have hk2 := hk w5.heap.size (w5.alloc (.cells #[.int .i64 2, .int .i64 3, .int .i64 4] 3)) (by simp) hlit
  have hB6 : Below w.heap.size w (w5.alloc (.cells #[.int .i64 2, .int .i64 3, .int .i64 4] 3)) := hB5.alloc hB5.size _
  clear hlit hk
  go_wp2_with fail
  refine hk2.mono ?_
  rintro e w7 ⟨rfl, hb7⟩
  have hB7 := bel_step hB6 hb7 hB6.size
  clear hk2 hb7 hB6 hB5 b5 e5 a0 a1 a2 c0 c1
  go_wp2
  go_ret
  exact ⟨rfl, hB7⟩
set_option maxRecDepth 100000 in
set_option maxHeartbeats 1000000 in
theorem coil_i_23_one (k0 n0 p0 : Int) (g : Nat) (w : World) (hl : Lie w g 0 [(k0, n0, p0)]) (r : Bool) (hr0 : (([2, 3, 4, 7, 8] : List Int).any fun x => k0 == x) = r) 
    (ha : ∀ w', Below w.heap.size w w' → Calls Tryd.prog 31 #[.agg #[.int .i64 23, .slice (some ⟨g, 0, none⟩) 1 1]] w' fun e w'' => e = .returned (.bool true) ∧ Below w'.heap.size w' w'') : Calls Tryd.prog 15 #[.agg #[.int .i64 23, .slice (some ⟨g, 0, none⟩) 1 1]] w fun e w' => e = .returned (.bool r) ∧ Below w.heap.size w w' := by
  have hi := fun w => isCoilOp_any 23 w
  rw [show (decide ((21 : Int) ≤ 23) && decide ((23 : Int) ≤ 37)) = true from rfl] at hi
  have hmf := hmf_all
  have hw := fun w' (h : Below w.heap.size w w') => containsFunc0 35 (some ⟨g, 0, none⟩) 0 w'
  have hr := fun w' (h : Below w.heap.size w w') => containsFunc0 37 (some ⟨g, 0, none⟩) 0 w'
  have hk := fun g' w' hg hlit => isKind_any k0 n0 p0 g' 5 5 [2, 3, 4, 7, 8] rfl (by omega) w' hg hlit
  rw [hr0] at hk
  clear hr0
  have HL := Lib.hid hl
  clear hl
  go_enter Tryd.func15, Tryd.ntmps15
  go_wp2_with fail
  refine (hi _).mono ?_
  rintro e w1 ⟨rfl, rfl⟩
  clear hi
  go_wp2_with fail
  refine (ha _ (by repeat (first | exact Below.refl _ _ | assumption | refine Below.setCell ?_ (by first | (simp; done) | (simp; omega) | omega) _ | refine Below.alloc ?_ (by first | (simp; done) | (simp; omega) | omega) _ | refine Bx.bel_drewN ?_ _ | refine Below.drew ?_))).mono ?_
  rintro e w2 ⟨rfl, hb2⟩
  have b2 := (Box.new w #[.int .i64 23, .slice (some ⟨g, 0, none⟩) 1 1] 31).kept hb2
  have hB2 : Below w.heap.size w w2 := bel_step (by repeat (first | exact Below.refl _ _ | assumption | refine Below.setCell ?_ (by first | (simp; done) | (simp; omega) | omega) _ | refine Below.alloc ?_ (by first | (simp; done) | (simp; omega) | omega) _ | refine Bx.bel_drewN ?_ _ | refine Below.drew ?_)) hb2 (by simp)
  have c0 : w2.cell? ⟨w.heap.size, 0, none⟩ = some (.int .i64 23) := b2.cell 0
  have c1 : w2.cell? ⟨w.heap.size, 1, none⟩ = some (.slice (some ⟨g, 0, none⟩) 1 1) := b2.cell 1
  have hl2 := HL.out.kept hB2
  have d0 : w2.cell? ⟨g, 0, none⟩ = some (.int .i64 k0) := (hl2.at 0 _ rfl).1
  have d1 : w2.cell? ⟨g, 1, none⟩ = some (.int .i64 n0) := (hl2.at 0 _ rfl).2.1
  have d2 : w2.cell? ⟨g, 2, none⟩ = some (.int .i64 p0) := (hl2.at 0 _ rfl).2.2
  have b3 : Box (w2.alloc (.cells #[.int .i64 k0, .int .i64 n0, .int .i64 p0] 40)).drew w2.heap.size #[.int .i64 k0, .int .i64 n0, .int .i64 p0] 40 := Box.new w2 #[.int .i64 k0, .int .i64 n0, .int .i64 p0] 40
  have b2' : Box (w2.alloc (.cells #[.int .i64 k0, .int .i64 n0, .int .i64 p0] 40)).drew w.heap.size #[.int .i64 23, .slice (some ⟨g, 0, none⟩) 1 1] 31 := b2.alloc (.cells #[.int .i64 k0, .int .i64 n0, .int .i64 p0] 40)
  have hB3 : Below w.heap.size w (w2.alloc (.cells #[.int .i64 k0, .int .i64 n0, .int .i64 p0] 40)).drew := (hB2.alloc hB2.size _).drew
  have l2 : w.heap.size < w2.heap.size := b2.lt
  have lg : g < w2.heap.size := hl2.1
  clear hb2 ha hl2
  go_wp2_with fail
  go_region
  go_wp2_with fail
  refine (hw _ hB3).mono ?_
  rintro e w4 ⟨rfl, hb4⟩
  have b4 := b3.kept hb4
  have e4 := b2'.kept hb4
  have hB4 : Below w.heap.size w w4 := bel_step hB3 hb4 hB3.size
  clear hb4 hw b3 b2' hB3 c0 c1 d0 d1 d2 b2 hB2
  go_wp2_with fail
  refine (hr _ hB4).mono ?_
  rintro e w5 ⟨rfl, hb5⟩
  have b5 := b4.kept hb5
  have e5 := e4.kept hb5
  have hB5 : Below w.heap.size w w5 := bel_step hB4 hb5 hB4.size
  clear hb5 hr b4 e4 hB4
  have c0 : w5.cell? ⟨w.heap.size, 0, none⟩ = some (.int .i64 23) := e5.cell 0
  have c1 : w5.cell? ⟨w.heap.size, 1, none⟩ = some (.slice (some ⟨g, 0, none⟩) 1 1) := e5.cell 1
  have a0 : w5.cell? ⟨w2.heap.size, 0, none⟩ = some (.int .i64 k0) := b5.cell 0
  have a1 : w5.cell? ⟨w2.heap.size, 1, none⟩ = some (.int .i64 n0) := b5.cell 1
  have a2 : w5.cell? ⟨w2.heap.size, 2, none⟩ = some (.int .i64 p0) := b5.cell 2
  have hlit : ∀ i x, ([2, 3, 4, 7, 8] : List Int)[i]? = some x → (w5.alloc (.cells #[.int .i64 2, .int .i64 3, .int .i64 4, .int .i64 7, .int .i64 8] 3)).cell? ⟨w5.heap.size, i, none⟩ = some (.int .i64 x) := by
    intro i x hx
    rw [World.cell?_alloc_mark]
    have hi : i < 5 := by have := (List.getElem?_eq_some_iff.1 hx).1; simpa using this
    have hi2 : i = 0 ∨ i = 1 ∨ i = 2 ∨ i = 3 ∨ i = 4 := by omega
    rcases hi2 with rfl | rfl | rfl | rfl | rfl <;> simp_all
  have hk2 := hk w5.heap.size (w5.alloc (.cells #[.int .i64 2, .int .i64 3, .int .i64 4, .int .i64 7, .int .i64 8] 3)) (by simp) hlit
  have hB6 : Below w.heap.size w (w5.alloc (.cells #[.int .i64 2, .int .i64 3, .int .i64 4, .int .i64 7, .int .i64 8] 3)) := hB5.alloc hB5.size _
  clear hlit hk
  go_wp2_with fail
  refine hk2.mono ?_
  rintro e w7 ⟨rfl, hb7⟩
  have hB7 := bel_step hB6 hb7 hB6.size
  clear hk2 hb7 hB6 hB5 b5 e5 a0 a1 a2 c0 c1
  go_wp2
  go_ret
  exact ⟨rfl, hB7⟩
set_option maxRecDepth 100000 in
set_option maxHeartbeats 1000000 in
theorem coil_i_23_more (k0 n0 p0 : Int) (g c : Nat) (hcap : 2 ≤ c ∧ c ≤ maxLen) (w : World) (hl : Lie w g 0 [(k0, n0, p0)]) (r : Bool) (hr0 : (([2, 3, 4, 7, 8] : List Int).any fun x => k0 == x) = r) 
    (ha : ∀ w', Below w.heap.size w w' → Calls Tryd.prog 31 #[.agg #[.int .i64 23, .slice (some ⟨g, 0, none⟩) 1 c]] w' fun e w'' => e = .returned (.bool true) ∧ Below w'.heap.size w' w'') : Calls Tryd.prog 15 #[.agg #[.int .i64 23, .slice (some ⟨g, 0, none⟩) 1 c]] w fun e w' => e = .returned (.bool r) ∧ Below w.heap.size w w' := by
  have hi := fun w => isCoilOp_any 23 w
  rw [show (decide ((21 : Int) ≤ 23) && decide ((23 : Int) ≤ 37)) = true from rfl] at hi
  have hmf := hmf_all
  have hw := fun w' (h : Below w.heap.size w w') => containsFunc0 35 (some ⟨g, 3, none⟩) (c - 1) w'
  have hr := fun w' (h : Below w.heap.size w w') => containsFunc0 37 (some ⟨g, 3, none⟩) (c - 1) w'
  have hk := fun g' w' hg hlit => isKind_any k0 n0 p0 g' 5 5 [2, 3, 4, 7, 8] rfl (by omega) w' hg hlit
  rw [hr0] at hk
  clear hr0
  have HL := Lib.hid hl
  obtain ⟨hcap, hcm⟩ := hcap
  clear hl
  go_enter Tryd.func15, Tryd.ntmps15
  go_wp2_with fail
  refine (hi _).mono ?_
  rintro e w1 ⟨rfl, rfl⟩
  clear hi
  go_wp2_with fail
  refine (ha _ (by repeat (first | exact Below.refl _ _ | assumption | refine Below.setCell ?_ (by first | (simp; done) | (simp; omega) | omega) _ | refine Below.alloc ?_ (by first | (simp; done) | (simp; omega) | omega) _ | refine Bx.bel_drewN ?_ _ | refine Below.drew ?_))).mono ?_
  rintro e w2 ⟨rfl, hb2⟩
  have b2 := (Box.new w #[.int .i64 23, .slice (some ⟨g, 0, none⟩) 1 c] 31).kept hb2
  have hB2 : Below w.heap.size w w2 := bel_step (by repeat (first | exact Below.refl _ _ | assumption | refine Below.setCell ?_ (by first | (simp; done) | (simp; omega) | omega) _ | refine Below.alloc ?_ (by first | (simp; done) | (simp; omega) | omega) _ | refine Bx.bel_drewN ?_ _ | refine Below.drew ?_)) hb2 (by simp)
  have c0 : w2.cell? ⟨w.heap.size, 0, none⟩ = some (.int .i64 23) := b2.cell 0
  have c1 : w2.cell? ⟨w.heap.size, 1, none⟩ = some (.slice (some ⟨g, 0, none⟩) 1 c) := b2.cell 1
  have hl2 := HL.out.kept hB2
  have d0 : w2.cell? ⟨g, 0, none⟩ = some (.int .i64 k0) := (hl2.at 0 _ rfl).1
  have d1 : w2.cell? ⟨g, 1, none⟩ = some (.int .i64 n0) := (hl2.at 0 _ rfl).2.1
  have d2 : w2.cell? ⟨g, 2, none⟩ = some (.int .i64 p0) := (hl2.at 0 _ rfl).2.2
  have b3 : Box (w2.alloc (.cells #[.int .i64 k0, .int .i64 n0, .int .i64 p0] 40)).drew w2.heap.size #[.int .i64 k0, .int .i64 n0, .int .i64 p0] 40 := Box.new w2 #[.int .i64 k0, .int .i64 n0, .int .i64 p0] 40
  have b2' : Box (w2.alloc (.cells #[.int .i64 k0, .int .i64 n0, .int .i64 p0] 40)).drew w.heap.size #[.int .i64 23, .slice (some ⟨g, 0, none⟩) 1 c] 31 := b2.alloc (.cells #[.int .i64 k0, .int .i64 n0, .int .i64 p0] 40)
  have hB3 : Below w.heap.size w (w2.alloc (.cells #[.int .i64 k0, .int .i64 n0, .int .i64 p0] 40)).drew := (hB2.alloc hB2.size _).drew
  have l2 : w.heap.size < w2.heap.size := b2.lt
  have lg : g < w2.heap.size := hl2.1
  clear hb2 ha hl2
  go_wp2_with fail
  go_region
  go_wp2_with fail
  refine (hw _ hB3).mono ?_
  rintro e w4 ⟨rfl, hb4⟩
  have b4 := b3.kept hb4
  have e4 := b2'.kept hb4
  have hB4 : Below w.heap.size w w4 := bel_step hB3 hb4 hB3.size
  clear hb4 hw b3 b2' hB3 c0 c1 d0 d1 d2 b2 hB2
  go_wp2_with fail
  refine (hr _ hB4).mono ?_
  rintro e w5 ⟨rfl, hb5⟩
  have b5 := b4.kept hb5
  have e5 := e4.kept hb5
  have hB5 : Below w.heap.size w w5 := bel_step hB4 hb5 hB4.size
  clear hb5 hr b4 e4 hB4
  have c0 : w5.cell? ⟨w.heap.size, 0, none⟩ = some (.int .i64 23) := e5.cell 0
  have c1 : w5.cell? ⟨w.heap.size, 1, none⟩ = some (.slice (some ⟨g, 0, none⟩) 1 c) := e5.cell 1
  have a0 : w5.cell? ⟨w2.heap.size, 0, none⟩ = some (.int .i64 k0) := b5.cell 0
  have a1 : w5.cell? ⟨w2.heap.size, 1, none⟩ = some (.int .i64 n0) := b5.cell 1
  have a2 : w5.cell? ⟨w2.heap.size, 2, none⟩ = some (.int .i64 p0) := b5.cell 2
  have hlit : ∀ i x, ([2, 3, 4, 7, 8] : List Int)[i]? = some x → (w5.alloc (.cells #[.int .i64 2, .int .i64 3, .int .i64 4, .int .i64 7, .int .i64 8] 3)).cell? ⟨w5.heap.size, i, none⟩ = some (.int .i64 x) := by
    intro i x hx
    rw [World.cell?_alloc_mark]
    have hi : i < 5 := by have := (List.getElem?_eq_some_iff.1 hx).1; simpa using this
    have hi2 : i = 0 ∨ i = 1 ∨ i = 2 ∨ i = 3 ∨ i = 4 := by omega
    rcases hi2 with rfl | rfl | rfl | rfl | rfl <;> simp_all
  have hk2 := hk w5.heap.size (w5.alloc (.cells #[.int .i64 2, .int .i64 3, .int .i64 4, .int .i64 7, .int .i64 8] 3)) (by simp) hlit
  have hB6 : Below w.heap.size w (w5.alloc (.cells #[.int .i64 2, .int .i64 3, .int .i64 4, .int .i64 7, .int .i64 8] 3)) := hB5.alloc hB5.size _
  clear hlit hk
  go_wp2_with fail
  refine hk2.mono ?_
  rintro e w7 ⟨rfl, hb7⟩
  have hB7 := bel_step hB6 hb7 hB6.size
  clear hk2 hb7 hB6 hB5 b5 e5 a0 a1 a2 c0 c1
  go_wp2
  go_ret
  exact ⟨rfl, hB7⟩
set_option maxRecDepth 100000 in
set_option maxHeartbeats 1000000 in
theorem coil_i_24 (k0 n0 p0 k1 n1 p1 : Int) (g c : Nat) (hcap : 2 ≤ c ∧ c ≤ maxLen) (w : World) (hl : Lie w g 0 [(k0, n0, p0), (k1, n1, p1)]) (W R : Bool) (hW : (!([(k1, n1, p1)] : List Arg).any fun x => !wholeA x) = W) (hR : (!([(k1, n1, p1)] : List Arg).any fun x => !realA x) = R) (r : Bool) (hr0 : (([2, 3] : List Int).any fun x => k0 == x) = r) (P : Bool) (hP : (k1 == 5) = P) 
    (ha : ∀ w', Below w.heap.size w w' → Calls Tryd.prog 31 #[.agg #[.int .i64 24, .slice (some ⟨g, 0, none⟩) 2 c]] w' fun e w'' => e = .returned (.bool true) ∧ Below w'.heap.size w' w'') : Calls Tryd.prog 15 #[.agg #[.int .i64 24, .slice (some ⟨g, 0, none⟩) 2 c]] w fun e w' => e = .returned (.bool (r && P)) ∧ Below w.heap.size w w' := by
  have hi := fun w => isCoilOp_any 24 w
  rw [show (decide ((21 : Int) ≤ 24) && decide ((24 : Int) ≤ 37)) = true from rfl] at hi
  have hmf := hmf_all
  have hw := fun w' (h : Below w.heap.size w w') => containsFunc_any 35 (fun x => !wholeA x) notWhole_test enters_notWhole g 3 1 (c - 1) [(k1, n1, p1)] rfl (by omega) w' ((hl.kept h).rest)
  have hr := fun w' (h : Below w.heap.size w w') => containsFunc_any 37 (fun x => !realA x) notReal_test enters_notReal g 3 1 (c - 1) [(k1, n1, p1)] rfl (by omega) w' ((hl.kept h).rest)
  generalize (([(k1, n1, p1)] : List Arg).any fun x => !wholeA x) = u at hw hW
  generalize (([(k1, n1, p1)] : List Arg).any fun x => !realA x) = v at hr hR
  subst hW hR
  have hk := fun g' w' hg hlit => isKind_any k0 n0 p0 g' 2 2 [2, 3] rfl (by omega) w' hg hlit
  rw [hr0] at hk
  clear hr0
  have HL := Lib.hid hl
  obtain ⟨hcap, hcm⟩ := hcap
  clear hl
  go_enter Tryd.func15, Tryd.ntmps15
  go_wp2_with fail
  refine (hi _).mono ?_
  rintro e w1 ⟨rfl, rfl⟩
  clear hi
  go_wp2_with fail
  refine (ha _ (by repeat (first | exact Below.refl _ _ | assumption | refine Below.setCell ?_ (by first | (simp; done) | (simp; omega) | omega) _ | refine Below.alloc ?_ (by first | (simp; done) | (simp; omega) | omega) _ | refine Bx.bel_drewN ?_ _ | refine Below.drew ?_))).mono ?_
  rintro e w2 ⟨rfl, hb2⟩
  have b2 := (Box.new w #[.int .i64 24, .slice (some ⟨g, 0, none⟩) 2 c] 31).kept hb2
  have hB2 : Below w.heap.size w w2 := bel_step (by repeat (first | exact Below.refl _ _ | assumption | refine Below.setCell ?_ (by first | (simp; done) | (simp; omega) | omega) _ | refine Below.alloc ?_ (by first | (simp; done) | (simp; omega) | omega) _ | refine Bx.bel_drewN ?_ _ | refine Below.drew ?_)) hb2 (by simp)
  have c0 : w2.cell? ⟨w.heap.size, 0, none⟩ = some (.int .i64 24) := b2.cell 0
  have c1 : w2.cell? ⟨w.heap.size, 1, none⟩ = some (.slice (some ⟨g, 0, none⟩) 2 c) := b2.cell 1
  have hl2 := HL.out.kept hB2
  have d0 : w2.cell? ⟨g, 0, none⟩ = some (.int .i64 k0) := (hl2.at 0 _ rfl).1
  have d1 : w2.cell? ⟨g, 1, none⟩ = some (.int .i64 n0) := (hl2.at 0 _ rfl).2.1
  have d2 : w2.cell? ⟨g, 2, none⟩ = some (.int .i64 p0) := (hl2.at 0 _ rfl).2.2
  have b3 : Box (w2.alloc (.cells #[.int .i64 k0, .int .i64 n0, .int .i64 p0] 40)).drew w2.heap.size #[.int .i64 k0, .int .i64 n0, .int .i64 p0] 40 := Box.new w2 #[.int .i64 k0, .int .i64 n0, .int .i64 p0] 40
  have b2' : Box (w2.alloc (.cells #[.int .i64 k0, .int .i64 n0, .int .i64 p0] 40)).drew w.heap.size #[.int .i64 24, .slice (some ⟨g, 0, none⟩) 2 c] 31 := b2.alloc (.cells #[.int .i64 k0, .int .i64 n0, .int .i64 p0] 40)
  have hB3 : Below w.heap.size w (w2.alloc (.cells #[.int .i64 k0, .int .i64 n0, .int .i64 p0] 40)).drew := (hB2.alloc hB2.size _).drew
  have l2 : w.heap.size < w2.heap.size := b2.lt
  have lg : g < w2.heap.size := hl2.1
  clear hb2 ha hl2
  go_wp2_with fail
  go_region
  go_wp2_with fail
  refine (hw _ hB3).mono ?_
  rintro e w4 ⟨rfl, hb4⟩
  have b4 := b3.kept hb4
  have e4 := b2'.kept hb4
  have hB4 : Below w.heap.size w w4 := bel_step hB3 hb4 hB3.size
  clear hb4 hw b3 b2' hB3 c0 c1 d0 d1 d2 b2 hB2
  go_wp2_with fail
  refine (hr _ hB4).mono ?_
  rintro e w5 ⟨rfl, hb5⟩
  have b5 := b4.kept hb5
  have e5 := e4.kept hb5
  have hB5 : Below w.heap.size w w5 := bel_step hB4 hb5 hB4.size
  clear hb5 hr b4 e4 hB4
  have c0 : w5.cell? ⟨w.heap.size, 0, none⟩ = some (.int .i64 24) := e5.cell 0
  have c1 : w5.cell? ⟨w.heap.size, 1, none⟩ = some (.slice (some ⟨g, 0, none⟩) 2 c) := e5.cell 1
  have a0 : w5.cell? ⟨w2.heap.size, 0, none⟩ = some (.int .i64 k0) := b5.cell 0
  have a1 : w5.cell? ⟨w2.heap.size, 1, none⟩ = some (.int .i64 n0) := b5.cell 1
  have a2 : w5.cell? ⟨w2.heap.size, 2, none⟩ = some (.int .i64 p0) := b5.cell 2
  have hl5 := HL.out.kept hB5
  have q0 : w5.cell? ⟨g, 3, none⟩ = some (.int .i64 k1) := (hl5.at 1 _ rfl).1
  have q1 : w5.cell? ⟨g, 4, none⟩ = some (.int .i64 n1) := (hl5.at 1 _ rfl).2.1
  have q2 : w5.cell? ⟨g, 5, none⟩ = some (.int .i64 p1) := (hl5.at 1 _ rfl).2.2
  have Q0 := Lib.hid (And.intro hl5.1 (fun w' (h : Below w5.heap.size w5 w') => (h.cell (p := ⟨g, 3, none⟩) hl5.1).trans q0))
  clear hl5 HL
  have hlit : ∀ i x, ([2, 3] : List Int)[i]? = some x → (w5.alloc (.cells #[.int .i64 2, .int .i64 3] 3)).cell? ⟨w5.heap.size, i, none⟩ = some (.int .i64 x) := by
    intro i x hx
    rw [World.cell?_alloc_mark]
    have hi : i < 2 := by have := (List.getElem?_eq_some_iff.1 hx).1; simpa using this
    have hi2 : i = 0 ∨ i = 1 := by omega
    rcases hi2 with rfl | rfl <;> simp_all
  have hk2 := hk w5.heap.size (w5.alloc (.cells #[.int .i64 2, .int .i64 3] 3)) (by simp) hlit
  have hB6 : Below w.heap.size w (w5.alloc (.cells #[.int .i64 2, .int .i64 3] 3)) := hB5.alloc hB5.size _
  clear hlit hk
  go_wp2_with fail
  refine hk2.mono ?_
  rintro e w7 ⟨rfl, hb7⟩
  have hB7 := bel_step hB6 hb7 hB6.size
  have z0 : w7.cell? ⟨g, 3, none⟩ = some (.int .i64 k1) := Q0.out.2 w7 (bel_step ((Below.refl _ _).alloc (Nat.le_refl _) _) hb7 (by simp))
  clear hk2 hb7 hB6 hB5 b5 e5 q0 q1 q2 a0 a1 a2 c0 c1
  cases r with
  | true =>
    go_wp2
    go_ret
    exact ⟨rfl, hB7⟩
  | false =>
    go_wp2
    go_ret
    exact ⟨rfl, hB7⟩
set_option maxRecDepth 100000 in
set_option maxHeartbeats 1000000 in
theorem coil_i_25_one (k0 n0 p0 : Int) (g : Nat) (w : World) (hl : Lie w g 0 [(k0, n0, p0)]) (P : Bool) (hP : (k0 == 4) = P) 
    (ha : ∀ w', Below w.heap.size w w' → Calls Tryd.prog 31 #[.agg #[.int .i64 25, .slice (some ⟨g, 0, none⟩) 1 1]] w' fun e w'' => e = .returned (.bool true) ∧ Below w'.heap.size w' w'') : Calls Tryd.prog 15 #[.agg #[.int .i64 25, .slice (some ⟨g, 0, none⟩) 1 1]] w fun e w' => e = .returned (.bool P) ∧ Below w.heap.size w w' := by
  have hi := fun w => isCoilOp_any 25 w
  rw [show (decide ((21 : Int) ≤ 25) && decide ((25 : Int) ≤ 37)) = true from rfl] at hi
  have hmf := hmf_all
  have hw := fun w' (h : Below w.heap.size w w') => containsFunc0 35 (some ⟨g, 0, none⟩) 0 w'
  have hr := fun w' (h : Below w.heap.size w w') => containsFunc0 37 (some ⟨g, 0, none⟩) 0 w'
  have HL := Lib.hid hl
  clear hl
  go_enter Tryd.func15, Tryd.ntmps15
  go_wp2_with fail
  refine (hi _).mono ?_
  rintro e w1 ⟨rfl, rfl⟩
  clear hi
  go_wp2_with fail
  refine (ha _ (by repeat (first | exact Below.refl _ _ | assumption | refine Below.setCell ?_ (by first | (simp; done) | (simp; omega) | omega) _ | refine Below.alloc ?_ (by first | (simp; done) | (simp; omega) | omega) _ | refine Bx.bel_drewN ?_ _ | refine Below.drew ?_))).mono ?_
  rintro e w2 ⟨rfl, hb2⟩
  have b2 := (Box.new w #[.int .i64 25, .slice (some ⟨g, 0, none⟩) 1 1] 31).kept hb2
  have hB2 : Below w.heap.size w w2 := bel_step (by repeat (first | exact Below.refl _ _ | assumption | refine Below.setCell ?_ (by first | (simp; done) | (simp; omega) | omega) _ | refine Below.alloc ?_ (by first | (simp; done) | (simp; omega) | omega) _ | refine Bx.bel_drewN ?_ _ | refine Below.drew ?_)) hb2 (by simp)
  have c0 : w2.cell? ⟨w.heap.size, 0, none⟩ = some (.int .i64 25) := b2.cell 0
  have c1 : w2.cell? ⟨w.heap.size, 1, none⟩ = some (.slice (some ⟨g, 0, none⟩) 1 1) := b2.cell 1
  have hl2 := HL.out.kept hB2
  have d0 : w2.cell? ⟨g, 0, none⟩ = some (.int .i64 k0) := (hl2.at 0 _ rfl).1
  have d1 : w2.cell? ⟨g, 1, none⟩ = some (.int .i64 n0) := (hl2.at 0 _ rfl).2.1
  have d2 : w2.cell? ⟨g, 2, none⟩ = some (.int .i64 p0) := (hl2.at 0 _ rfl).2.2
  have b3 : Box (w2.alloc (.cells #[.int .i64 k0, .int .i64 n0, .int .i64 p0] 40)).drew w2.heap.size #[.int .i64 k0, .int .i64 n0, .int .i64 p0] 40 := Box.new w2 #[.int .i64 k0, .int .i64 n0, .int .i64 p0] 40
  have b2' : Box (w2.alloc (.cells #[.int .i64 k0, .int .i64 n0, .int .i64 p0] 40)).drew w.heap.size #[.int .i64 25, .slice (some ⟨g, 0, none⟩) 1 1] 31 := b2.alloc (.cells #[.int .i64 k0, .int .i64 n0, .int .i64 p0] 40)
  have hB3 : Below w.heap.size w (w2.alloc (.cells #[.int .i64 k0, .int .i64 n0, .int .i64 p0] 40)).drew := (hB2.alloc hB2.size _).drew
  have l2 : w.heap.size < w2.heap.size := b2.lt
  have lg : g < w2.heap.size := hl2.1
  clear hb2 ha hl2
  go_wp2_with fail
  go_region
  go_wp2_with fail
  refine (hw _ hB3).mono ?_
  rintro e w4 ⟨rfl, hb4⟩
  have b4 := b3.kept hb4
  have e4 := b2'.kept hb4
  have hB4 : Below w.heap.size w w4 := bel_step hB3 hb4 hB3.size
  clear hb4 hw b3 b2' hB3 c0 c1 d0 d1 d2 b2 hB2
  go_wp2_with fail
  refine (hr _ hB4).mono ?_
  rintro e w5 ⟨rfl, hb5⟩
  have b5 := b4.kept hb5
  have e5 := e4.kept hb5
  have hB5 : Below w.heap.size w w5 := bel_step hB4 hb5 hB4.size
  clear hb5 hr b4 e4 hB4
  have c0 : w5.cell? ⟨w.heap.size, 0, none⟩ = some (.int .i64 25) := e5.cell 0
  have c1 : w5.cell? ⟨w.heap.size, 1, none⟩ = some (.slice (some ⟨g, 0, none⟩) 1 1) := e5.cell 1
  have a0 : w5.cell? ⟨w2.heap.size, 0, none⟩ = some (.int .i64 k0) := b5.cell 0
  have a1 : w5.cell? ⟨w2.heap.size, 1, none⟩ = some (.int .i64 n0) := b5.cell 1
  have a2 : w5.cell? ⟨w2.heap.size, 2, none⟩ = some (.int .i64 p0) := b5.cell 2
  go_wp2
  go_ret
  exact ⟨rfl, hB5⟩
set_option maxRecDepth 100000 in
set_option maxHeartbeats 1000000 in
theorem coil_i_25_more (k0 n0 p0 : Int) (g c : Nat) (hcap : 2 ≤ c ∧ c ≤ maxLen) (w : World) (hl : Lie w g 0 [(k0, n0, p0)]) (P : Bool) (hP : (k0 == 4) = P) 
    (ha : ∀ w', Below w.heap.size w w' → Calls Tryd.prog 31 #[.agg #[.int .i64 25, .slice (some ⟨g, 0, none⟩) 1 c]] w' fun e w'' => e = .returned (.bool true) ∧ Below w'.heap.size w' w'') : Calls Tryd.prog 15 #[.agg #[.int .i64 25, .slice (some ⟨g, 0, none⟩) 1 c]] w fun e w' => e = .returned (.bool P) ∧ Below w.heap.size w w' := by
  have hi := fun w => isCoilOp_any 25 w
  rw [show (decide ((21 : Int) ≤ 25) && decide ((25 : Int) ≤ 37)) = true from rfl] at hi
  have hmf := hmf_all
  have hw := fun w' (h : Below w.heap.size w w') => containsFunc0 35 (some ⟨g, 3, none⟩) (c - 1) w'
  have hr := fun w' (h : Below w.heap.size w w') => containsFunc0 37 (some ⟨g, 3, none⟩) (c - 1) w'
  have HL := Lib.hid hl
  obtain ⟨hcap, hcm⟩ := hcap
  clear hl
  go_enter Tryd.func15, Tryd.ntmps15
  go_wp2_with fail
  refine (hi _).mono ?_
  rintro e w1 ⟨rfl, rfl⟩
  clear hi
  go_wp2_with fail
  refine (ha _ (by repeat (first | exact Below.refl _ _ | assumption | refine Below.setCell ?_ (by first | (simp; done) | (simp; omega) | omega) _ | refine Below.alloc ?_ (by first | (simp; done) | (simp; omega) | omega) _ | refine Bx.bel_drewN ?_ _ | refine Below.drew ?_))).mono ?_
  rintro e w2 ⟨rfl, hb2⟩
  have b2 := (Box.new w #[.int .i64 25, .slice (some ⟨g, 0, none⟩) 1 c] 31).kept hb2
  have hB2 : Below w.heap.size w w2 := bel_step (by repeat (first | exact Below.refl _ _ | assumption | refine Below.setCell ?_ (by first | (simp; done) | (simp; omega) | omega) _ | refine Below.alloc ?_ (by first | (simp; done) | (simp; omega) | omega) _ | refine Bx.bel_drewN ?_ _ | refine Below.drew ?_)) hb2 (by simp)
  have c0 : w2.cell? ⟨w.heap.size, 0, none⟩ = some (.int .i64 25) := b2.cell 0
  have c1 : w2.cell? ⟨w.heap.size, 1, none⟩ = some (.slice (some ⟨g, 0, none⟩) 1 c) := b2.cell 1
  have hl2 := HL.out.kept hB2
  have d0 : w2.cell? ⟨g, 0, none⟩ = some (.int .i64 k0) := (hl2.at 0 _ rfl).1
  have d1 : w2.cell? ⟨g, 1, none⟩ = some (.int .i64 n0) := (hl2.at 0 _ rfl).2.1
  have d2 : w2.cell? ⟨g, 2, none⟩ = some (.int .i64 p0) := (hl2.at 0 _ rfl).2.2
  have b3 : Box (w2.alloc (.cells #[.int .i64 k0, .int .i64 n0, .int .i64 p0] 40)).drew w2.heap.size #[.int .i64 k0, .int .i64 n0, .int .i64 p0] 40 := Box.new w2 #[.int .i64 k0, .int .i64 n0, .int .i64 p0] 40
  have b2' : Box (w2.alloc (.cells #[.int .i64 k0, .int .i64 n0, .int .i64 p0] 40)).drew w.heap.size #[.int .i64 25, .slice (some ⟨g, 0, none⟩) 1 c] 31 := b2.alloc (.cells #[.int .i64 k0, .int .i64 n0, .int .i64 p0] 40)
  have hB3 : Below w.heap.size w (w2.alloc (.cells #[.int .i64 k0, .int .i64 n0, .int .i64 p0] 40)).drew := (hB2.alloc hB2.size _).drew
  have l2 : w.heap.size < w2.heap.size := b2.lt
  have lg : g < w2.heap.size := hl2.1
  clear hb2 ha hl2
  go_wp2_with fail
  go_region
  go_wp2_with fail
  refine (hw _ hB3).mono ?_
  rintro e w4 ⟨rfl, hb4⟩
  have b4 := b3.kept hb4
  have e4 := b2'.kept hb4
  have hB4 : Below w.heap.size w w4 := bel_step hB3 hb4 hB3.size
  clear hb4 hw b3 b2' hB3 c0 c1 d0 d1 d2 b2 hB2
  go_wp2_with fail
  refine (hr _ hB4).mono ?_
  rintro e w5 ⟨rfl, hb5⟩
  have b5 := b4.kept hb5
  have e5 := e4.kept hb5
  have hB5 : Below w.heap.size w w5 := bel_step hB4 hb5 hB4.size
  clear hb5 hr b4 e4 hB4
  have c0 : w5.cell? ⟨w.heap.size, 0, none⟩ = some (.int .i64 25) := e5.cell 0
  have c1 : w5.cell? ⟨w.heap.size, 1, none⟩ = some (.slice (some ⟨g, 0, none⟩) 1 c) := e5.cell 1
  have a0 : w5.cell? ⟨w2.heap.size, 0, none⟩ = some (.int .i64 k0) := b5.cell 0
  have a1 : w5.cell? ⟨w2.heap.size, 1, none⟩ = some (.int .i64 n0) := b5.cell 1
  have a2 : w5.cell? ⟨w2.heap.size, 2, none⟩ = some (.int .i64 p0) := b5.cell 2
  go_wp2
  go_ret
  exact ⟨rfl, hB5⟩
set_option maxRecDepth 100000 in
set_option maxHeartbeats 1000000 in
theorem coil_i_26 (k0 n0 p0 k1 n1 p1 : Int) (g c : Nat) (hcap : 2 ≤ c ∧ c ≤ maxLen) (w : World) (hl : Lie w g 0 [(k0, n0, p0), (k1, n1, p1)]) (W R : Bool) (hW : (!([(k1, n1, p1)] : List Arg).any fun x => !wholeA x) = W) (hR : (!([(k1, n1, p1)] : List Arg).any fun x => !realA x) = R) (r : Bool) (hr0 : (k1 == 11 && decide (0 ≤ n1)) = r) (P : Bool) (hP : (k0 == 7) = P) 
    (ha : ∀ w', Below w.heap.size w w' → Calls Tryd.prog 31 #[.agg #[.int .i64 26, .slice (some ⟨g, 0, none⟩) 2 c]] w' fun e w'' => e = .returned (.bool true) ∧ Below w'.heap.size w' w'') : Calls Tryd.prog 15 #[.agg #[.int .i64 26, .slice (some ⟨g, 0, none⟩) 2 c]] w fun e w' => e = .returned (.bool (P && r)) ∧ Below w.heap.size w w' := by
  have hi := fun w => isCoilOp_any 26 w
  rw [show (decide ((21 : Int) ≤ 26) && decide ((26 : Int) ≤ 37)) = true from rfl] at hi
  have hmf := hmf_all
  have hw := fun w' (h : Below w.heap.size w w') => containsFunc_any 35 (fun x => !wholeA x) notWhole_test enters_notWhole g 3 1 (c - 1) [(k1, n1, p1)] rfl (by omega) w' ((hl.kept h).rest)
  have hr := fun w' (h : Below w.heap.size w w') => containsFunc_any 37 (fun x => !realA x) notReal_test enters_notReal g 3 1 (c - 1) [(k1, n1, p1)] rfl (by omega) w' ((hl.kept h).rest)
  generalize (([(k1, n1, p1)] : List Arg).any fun x => !wholeA x) = u at hw hW
  generalize (([(k1, n1, p1)] : List Arg).any fun x => !realA x) = v at hr hR
  subst hW hR
  have hp := fun w => isPreset_any k1 n1 p1 w
  rw [hr0] at hp
  clear hr0
  have HL := Lib.hid hl
  obtain ⟨hcap, hcm⟩ := hcap
  clear hl
  go_enter Tryd.func15, Tryd.ntmps15
  go_wp2_with fail
  refine (hi _).mono ?_
  rintro e w1 ⟨rfl, rfl⟩
  clear hi
  go_wp2_with fail
  refine (ha _ (by repeat (first | exact Below.refl _ _ | assumption | refine Below.setCell ?_ (by first | (simp; done) | (simp; omega) | omega) _ | refine Below.alloc ?_ (by first | (simp; done) | (simp; omega) | omega) _ | refine Bx.bel_drewN ?_ _ | refine Below.drew ?_))).mono ?_
  rintro e w2 ⟨rfl, hb2⟩
  have b2 := (Box.new w #[.int .i64 26, .slice (some ⟨g, 0, none⟩) 2 c] 31).kept hb2
  have hB2 : Below w.heap.size w w2 := bel_step (by repeat (first | exact Below.refl _ _ | assumption | refine Below.setCell ?_ (by first | (simp; done) | (simp; omega) | omega) _ | refine Below.alloc ?_ (by first | (simp; done) | (simp; omega) | omega) _ | refine Bx.bel_drewN ?_ _ | refine Below.drew ?_)) hb2 (by simp)
  have c0 : w2.cell? ⟨w.heap.size, 0, none⟩ = some (.int .i64 26) := b2.cell 0
  have c1 : w2.cell? ⟨w.heap.size, 1, none⟩ = some (.slice (some ⟨g, 0, none⟩) 2 c) := b2.cell 1
  have hl2 := HL.out.kept hB2
  have d0 : w2.cell? ⟨g, 0, none⟩ = some (.int .i64 k0) := (hl2.at 0 _ rfl).1
  have d1 : w2.cell? ⟨g, 1, none⟩ = some (.int .i64 n0) := (hl2.at 0 _ rfl).2.1
  have d2 : w2.cell? ⟨g, 2, none⟩ = some (.int .i64 p0) := (hl2.at 0 _ rfl).2.2
  have b3 : Box (w2.alloc (.cells #[.int .i64 k0, .int .i64 n0, .int .i64 p0] 40)).drew w2.heap.size #[.int .i64 k0, .int .i64 n0, .int .i64 p0] 40 := Box.new w2 #[.int .i64 k0, .int .i64 n0, .int .i64 p0] 40
  have b2' : Box (w2.alloc (.cells #[.int .i64 k0, .int .i64 n0, .int .i64 p0] 40)).drew w.heap.size #[.int .i64 26, .slice (some ⟨g, 0, none⟩) 2 c] 31 := b2.alloc (.cells #[.int .i64 k0, .int .i64 n0, .int .i64 p0] 40)
  have hB3 : Below w.heap.size w (w2.alloc (.cells #[.int .i64 k0, .int .i64 n0, .int .i64 p0] 40)).drew := (hB2.alloc hB2.size _).drew
  have l2 : w.heap.size < w2.heap.size := b2.lt
  have lg : g < w2.heap.size := hl2.1
  clear hb2 ha hl2
  go_wp2_with fail
  go_region
  go_wp2_with fail
  refine (hw _ hB3).mono ?_
  rintro e w4 ⟨rfl, hb4⟩
  have b4 := b3.kept hb4
  have e4 := b2'.kept hb4
  have hB4 : Below w.heap.size w w4 := bel_step hB3 hb4 hB3.size
  clear hb4 hw b3 b2' hB3 c0 c1 d0 d1 d2 b2 hB2
  go_wp2_with fail
  refine (hr _ hB4).mono ?_
  rintro e w5 ⟨rfl, hb5⟩
  have b5 := b4.kept hb5
  have e5 := e4.kept hb5
  have hB5 : Below w.heap.size w w5 := bel_step hB4 hb5 hB4.size
  clear hb5 hr b4 e4 hB4
  have c0 : w5.cell? ⟨w.heap.size, 0, none⟩ = some (.int .i64 26) := e5.cell 0
  have c1 : w5.cell? ⟨w.heap.size, 1, none⟩ = some (.slice (some ⟨g, 0, none⟩) 2 c) := e5.cell 1
  have a0 : w5.cell? ⟨w2.heap.size, 0, none⟩ = some (.int .i64 k0) := b5.cell 0
  have a1 : w5.cell? ⟨w2.heap.size, 1, none⟩ = some (.int .i64 n0) := b5.cell 1
  have a2 : w5.cell? ⟨w2.heap.size, 2, none⟩ = some (.int .i64 p0) := b5.cell 2
  have hl5 := HL.out.kept hB5
  have q0 : w5.cell? ⟨g, 3, none⟩ = some (.int .i64 k1) := (hl5.at 1 _ rfl).1
  have q1 : w5.cell? ⟨g, 4, none⟩ = some (.int .i64 n1) := (hl5.at 1 _ rfl).2.1
  have q2 : w5.cell? ⟨g, 5, none⟩ = some (.int .i64 p1) := (hl5.at 1 _ rfl).2.2
  have Q0 := Lib.hid (And.intro hl5.1 (fun w' (h : Below w5.heap.size w5 w') => (h.cell (p := ⟨g, 3, none⟩) hl5.1).trans q0))
  clear hl5 HL
  cases P with
  | true =>
    go_wp2_with fail
    refine (hp _).mono ?_
    rintro e w7 ⟨rfl, hb7⟩
    have hB7 := bel_step hB5 hb7 hB5.size
    clear hp hb7 hB5 b5 e5 q0 q1 q2 a0 a1 a2 c0 c1
    go_wp2
    go_ret
    exact ⟨rfl, hB7⟩
  | false =>
    go_wp2
    go_ret
    exact ⟨rfl, hB5⟩
set_option maxRecDepth 100000 in
set_option maxHeartbeats 1000000 in
theorem coil_i_27 (k0 n0 p0 k1 n1 p1 : Int) (g c : Nat) (hcap : 2 ≤ c ∧ c ≤ maxLen) (w : World) (hl : Lie w g 0 [(k0, n0, p0), (k1, n1, p1)]) (W R : Bool) (hW : (!([(k1, n1, p1)] : List Arg).any fun x => !wholeA x) = W) (hR : (!([(k1, n1, p1)] : List Arg).any fun x => !realA x) = R) (r : Bool) (hr0 : (k1 == 11 && decide (0 ≤ n1)) = r) (P : Bool) (hP : (k0 == 7) = P) 
    (ha : ∀ w', Below w.heap.size w w' → Calls Tryd.prog 31 #[.agg #[.int .i64 27, .slice (some ⟨g, 0, none⟩) 2 c]] w' fun e w'' => e = .returned (.bool true) ∧ Below w'.heap.size w' w'') : Calls Tryd.prog 15 #[.agg #[.int .i64 27, .slice (some ⟨g, 0, none⟩) 2 c]] w fun e w' => e = .returned (.bool (P && r)) ∧ Below w.heap.size w w' := by
  have hi := fun w => isCoilOp_any 27 w
  rw [show (decide ((21 : Int) ≤ 27) && decide ((27 : Int) ≤ 37)) = true from rfl] at hi
  have hmf := hmf_all
  have hw := fun w' (h : Below w.heap.size w w') => containsFunc_any 35 (fun x => !wholeA x) notWhole_test enters_notWhole g 3 1 (c - 1) [(k1, n1, p1)] rfl (by omega) w' ((hl.kept h).rest)
  have hr := fun w' (h : Below w.heap.size w w') => containsFunc_any 37 (fun x => !realA x) notReal_test enters_notReal g 3 1 (c - 1) [(k1, n1, p1)] rfl (by omega) w' ((hl.kept h).rest)
  generalize (([(k1, n1, p1)] : List Arg).any fun x => !wholeA x) = u at hw hW
  generalize (([(k1, n1, p1)] : List Arg).any fun x => !realA x) = v at hr hR
  subst hW hR
  have hp := fun w => isPreset_any k1 n1 p1 w
  rw [hr0] at hp
  clear hr0
  have HL := Lib.hid hl
  obtain ⟨hcap, hcm⟩ := hcap
  clear hl
  go_enter Tryd.func15, Tryd.ntmps15
  go_wp2_with fail
  refine (hi _).mono ?_
  rintro e w1 ⟨rfl, rfl⟩
  clear hi
  go_wp2_with fail
  refine (ha _ (by repeat (first | exact Below.refl _ _ | assumption | refine Below.setCell ?_ (by first | (simp; done) | (simp; omega) | omega) _ | refine Below.alloc ?_ (by first | (simp; done) | (simp; omega) | omega) _ | refine Bx.bel_drewN ?_ _ | refine Below.drew ?_))).mono ?_
  rintro e w2 ⟨rfl, hb2⟩
  have b2 := (Box.new w #[.int .i64 27, .slice (some ⟨g, 0, none⟩) 2 c] 31).kept hb2
  have hB2 : Below w.heap.size w w2 := bel_step (by repeat (first | exact Below.refl _ _ | assumption | refine Below.setCell ?_ (by first | (simp; done) | (simp; omega) | omega) _ | refine Below.alloc ?_ (by first | (simp; done) | (simp; omega) | omega) _ | refine Bx.bel_drewN ?_ _ | refine Below.drew ?_)) hb2 (by simp)
  have c0 : w2.cell? ⟨w.heap.size, 0, none⟩ = some (.int .i64 27) := b2.cell 0
  have c1 : w2.cell? ⟨w.heap.size, 1, none⟩ = some (.slice (some ⟨g, 0, none⟩) 2 c) := b2.cell 1
  have hl2 := HL.out.kept hB2
  have d0 : w2.cell? ⟨g, 0, none⟩ = some (.int .i64 k0) := (hl2.at 0 _ rfl).1
  have d1 : w2.cell? ⟨g, 1, none⟩ = some (.int .i64 n0) := (hl2.at 0 _ rfl).2.1
  have d2 : w2.cell? ⟨g, 2, none⟩ = some (.int .i64 p0) := (hl2.at 0 _ rfl).2.2
  have b3 : Box (w2.alloc (.cells #[.int .i64 k0, .int .i64 n0, .int .i64 p0] 40)).drew w2.heap.size #[.int .i64 k0, .int .i64 n0, .int .i64 p0] 40 := Box.new w2 #[.int .i64 k0, .int .i64 n0, .int .i64 p0] 40
  have b2' : Box (w2.alloc (.cells #[.int .i64 k0, .int .i64 n0, .int .i64 p0] 40)).drew w.heap.size #[.int .i64 27, .slice (some ⟨g, 0, none⟩) 2 c] 31 := b2.alloc (.cells #[.int .i64 k0, .int .i64 n0, .int .i64 p0] 40)
  have hB3 : Below w.heap.size w (w2.alloc (.cells #[.int .i64 k0, .int .i64 n0, .int .i64 p0] 40)).drew := (hB2.alloc hB2.size _).drew
  have l2 : w.heap.size < w2.heap.size := b2.lt
  have lg : g < w2.heap.size := hl2.1
  clear hb2 ha hl2
  go_wp2_with fail
  go_region
  go_wp2_with fail
  refine (hw _ hB3).mono ?_
  rintro e w4 ⟨rfl, hb4⟩
  have b4 := b3.kept hb4
  have e4 := b2'.kept hb4
  have hB4 : Below w.heap.size w w4 := bel_step hB3 hb4 hB3.size
  clear hb4 hw b3 b2' hB3 c0 c1 d0 d1 d2 b2 hB2
  go_wp2_with fail
  refine (hr _ hB4).mono ?_
  rintro e w5 ⟨rfl, hb5⟩
  have b5 := b4.kept hb5
  have e5 := e4.kept hb5
  have hB5 : Below w.heap.size w w5 := bel_step hB4 hb5 hB4.size
  clear hb5 hr b4 e4 hB4
  have c0 : w5.cell? ⟨w.heap.size, 0, none⟩ = some (.int .i64 27) := e5.cell 0
  have c1 : w5.cell? ⟨w.heap.size, 1, none⟩ = some (.slice (some ⟨g, 0, none⟩) 2 c) := e5.cell 1
  have a0 : w5.cell? ⟨w2.heap.size, 0, none⟩ = some (.int .i64 k0) := b5.cell 0
  have a1 : w5.cell? ⟨w2.heap.size, 1, none⟩ = some (.int .i64 n0) := b5.cell 1
  have a2 : w5.cell? ⟨w2.heap.size, 2, none⟩ = some (.int .i64 p0) := b5.cell 2
  have hl5 := HL.out.kept hB5
  have q0 : w5.cell? ⟨g, 3, none⟩ = some (.int .i64 k1) := (hl5.at 1 _ rfl).1
  have q1 : w5.cell? ⟨g, 4, none⟩ = some (.int .i64 n1) := (hl5.at 1 _ rfl).2.1
  have q2 : w5.cell? ⟨g, 5, none⟩ = some (.int .i64 p1) := (hl5.at 1 _ rfl).2.2
  have Q0 := Lib.hid (And.intro hl5.1 (fun w' (h : Below w5.heap.size w5 w') => (h.cell (p := ⟨g, 3, none⟩) hl5.1).trans q0))
  clear hl5 HL
  cases P with
  | true =>
    go_wp2_with fail
    refine (hp _).mono ?_
    rintro e w7 ⟨rfl, hb7⟩
    have hB7 := bel_step hB5 hb7 hB5.size
    clear hp hb7 hB5 b5 e5 q0 q1 q2 a0 a1 a2 c0 c1
    go_wp2
    go_ret
    exact ⟨rfl, hB7⟩
  | false =>
    go_wp2
    go_ret
    exact ⟨rfl, hB5⟩
set_option maxRecDepth 100000 in
set_option maxHeartbeats 1000000 in
theorem coil_i_28 (k0 n0 p0 k1 n1 p1 : Int) (g c : Nat) (hcap : 2 ≤ c ∧ c ≤ maxLen) (w : World) (hl : Lie w g 0 [(k0, n0, p0), (k1, n1, p1)]) (W R : Bool) (hW : (!([(k1, n1, p1)] : List Arg).any fun x => !wholeA x) = W) (hR : (!([(k1, n1, p1)] : List Arg).any fun x => !realA x) = R) (r : Bool) (hr0 : (k1 == 11 && decide (0 ≤ n1)) = r) (P : Bool) (hP : (k0 == 7) = P) 
    (ha : ∀ w', Below w.heap.size w w' → Calls Tryd.prog 31 #[.agg #[.int .i64 28, .slice (some ⟨g, 0, none⟩) 2 c]] w' fun e w'' => e = .returned (.bool true) ∧ Below w'.heap.size w' w'') : Calls Tryd.prog 15 #[.agg #[.int .i64 28, .slice (some ⟨g, 0, none⟩) 2 c]] w fun e w' => e = .returned (.bool (P && r)) ∧ Below w.heap.size w w' := by
  have hi := fun w => isCoilOp_any 28 w
  rw [show (decide ((21 : Int) ≤ 28) && decide ((28 : Int) ≤ 37)) = true from rfl] at hi
  have hmf := hmf_all
  have hw := fun w' (h : Below w.heap.size w w') => containsFunc_any 35 (fun x => !wholeA x) notWhole_test enters_notWhole g 3 1 (c - 1) [(k1, n1, p1)] rfl (by omega) w' ((hl.kept h).rest)
  have hr := fun w' (h : Below w.heap.size w w') => containsFunc_any 37 (fun x => !realA x) notReal_test enters_notReal g 3 1 (c - 1) [(k1, n1, p1)] rfl (by omega) w' ((hl.kept h).rest)
  generalize (([(k1, n1, p1)] : List Arg).any fun x => !wholeA x) = u at hw hW
  generalize (([(k1, n1, p1)] : List Arg).any fun x => !realA x) = v at hr hR
  subst hW hR
  have hp := fun w => isPreset_any k1 n1 p1 w
  rw [hr0] at hp
  clear hr0
  have HL := Lib.hid hl
  obtain ⟨hcap, hcm⟩ := hcap
  clear hl
  go_enter Tryd.func15, Tryd.ntmps15
  go_wp2_with fail
  refine (hi _).mono ?_
  rintro e w1 ⟨rfl, rfl⟩
  clear hi
  go_wp2_with fail
  refine (ha _ (by repeat (first | exact Below.refl _ _ | assumption | refine Below.setCell ?_ (by first | (simp; done) | (simp; omega) | omega) _ | refine Below.alloc ?_ (by first | (simp; done) | (simp; omega) | omega) _ | refine Bx.bel_drewN ?_ _ | refine Below.drew ?_))).mono ?_
  rintro e w2 ⟨rfl, hb2⟩
  have b2 := (Box.new w #[.int .i64 28, .slice (some ⟨g, 0, none⟩) 2 c] 31).kept hb2
  have hB2 : Below w.heap.size w w2 := bel_step (by repeat (first | exact Below.refl _ _ | assumption | refine Below.setCell ?_ (by first | (simp; done) | (simp; omega) | omega) _ | refine Below.alloc ?_ (by first | (simp; done) | (simp; omega) | omega) _ | refine Bx.bel_drewN ?_ _ | refine Below.drew ?_)) hb2 (by simp)
  have c0 : w2.cell? ⟨w.heap.size, 0, none⟩ = some (.int .i64 28) := b2.cell 0
  have c1 : w2.cell? ⟨w.heap.size, 1, none⟩ = some (.slice (some ⟨g, 0, none⟩) 2 c) := b2.cell 1
  have hl2 := HL.out.kept hB2
  have d0 : w2.cell? ⟨g, 0, none⟩ = some (.int .i64 k0) := (hl2.at 0 _ rfl).1
  have d1 : w2.cell? ⟨g, 1, none⟩ = some (.int .i64 n0) := (hl2.at 0 _ rfl).2.1
  have d2 : w2.cell? ⟨g, 2, none⟩ = some (.int .i64 p0) := (hl2.at 0 _ rfl).2.2
  have b3 : Box (w2.alloc (.cells #[.int .i64 k0, .int .i64 n0, .int .i64 p0] 40)).drew w2.heap.size #[.int .i64 k0, .int .i64 n0, .int .i64 p0] 40 := Box.new w2 #[.int .i64 k0, .int .i64 n0, .int .i64 p0] 40
  have b2' : Box (w2.alloc (.cells #[.int .i64 k0, .int .i64 n0, .int .i64 p0] 40)).drew w.heap.size #[.int .i64 28, .slice (some ⟨g, 0, none⟩) 2 c] 31 := b2.alloc (.cells #[.int .i64 k0, .int .i64 n0, .int .i64 p0] 40)
  have hB3 : Below w.heap.size w (w2.alloc (.cells #[.int .i64 k0, .int .i64 n0, .int .i64 p0] 40)).drew := (hB2.alloc hB2.size _).drew
  have l2 : w.heap.size < w2.heap.size := b2.lt
  have lg : g < w2.heap.size := hl2.1
  clear hb2 ha hl2
  go_wp2_with fail
  go_region
  go_wp2_with fail
  refine (hw _ hB3).mono ?_
  rintro e w4 ⟨rfl, hb4⟩
  have b4 := b3.kept hb4
  have e4 := b2'.kept hb4
  have hB4 : Below w.heap.size w w4 := bel_step hB3 hb4 hB3.size
  clear hb4 hw b3 b2' hB3 c0 c1 d0 d1 d2 b2 hB2
  go_wp2_with fail
  refine (hr _ hB4).mono ?_
  rintro e w5 ⟨rfl, hb5⟩
  have b5 := b4.kept hb5
  have e5 := e4.kept hb5
  have hB5 : Below w.heap.size w w5 := bel_step hB4 hb5 hB4.size
  clear hb5 hr b4 e4 hB4
  have c0 : w5.cell? ⟨w.heap.size, 0, none⟩ = some (.int .i64 28) := e5.cell 0
  have c1 : w5.cell? ⟨w.heap.size, 1, none⟩ = some (.slice (some ⟨g, 0, none⟩) 2 c) := e5.cell 1
  have a0 : w5.cell? ⟨w2.heap.size, 0, none⟩ = some (.int .i64 k0) := b5.cell 0
  have a1 : w5.cell? ⟨w2.heap.size, 1, none⟩ = some (.int .i64 n0) := b5.cell 1
  have a2 : w5.cell? ⟨w2.heap.size, 2, none⟩ = some (.int .i64 p0) := b5.cell 2
  have hl5 := HL.out.kept hB5
  have q0 : w5.cell? ⟨g, 3, none⟩ = some (.int .i64 k1) := (hl5.at 1 _ rfl).1
  have q1 : w5.cell? ⟨g, 4, none⟩ = some (.int .i64 n1) := (hl5.at 1 _ rfl).2.1
  have q2 : w5.cell? ⟨g, 5, none⟩ = some (.int .i64 p1) := (hl5.at 1 _ rfl).2.2
  have Q0 := Lib.hid (And.intro hl5.1 (fun w' (h : Below w5.heap.size w5 w') => (h.cell (p := ⟨g, 3, none⟩) hl5.1).trans q0))
  clear hl5 HL
  cases P with
  | true =>
    go_wp2_with fail
    refine (hp _).mono ?_
    rintro e w7 ⟨rfl, hb7⟩
    have hB7 := bel_step hB5 hb7 hB5.size
    clear hp hb7 hB5 b5 e5 q0 q1 q2 a0 a1 a2 c0 c1
    go_wp2
    go_ret
    exact ⟨rfl, hB7⟩
  | false =>
    go_wp2
    go_ret
    exact ⟨rfl, hB5⟩
set_option maxRecDepth 100000 in
set_option maxHeartbeats 1000000 in
theorem coil_i_29 (k0 n0 p0 k1 n1 p1 : Int) (g c : Nat) (hcap : 2 ≤ c ∧ c ≤ maxLen) (w : World) (hl : Lie w g 0 [(k0, n0, p0), (k1, n1, p1)]) (W R : Bool) (hW : (!([(k1, n1, p1)] : List Arg).any fun x => !wholeA x) = W) (hR : (!([(k1, n1, p1)] : List Arg).any fun x => !realA x) = R) (r : Bool) (hr0 : (k1 == 11 && decide (0 ≤ n1)) = r) (P : Bool) (hP : (k0 == 8) = P) 
    (ha : ∀ w', Below w.heap.size w w' → Calls Tryd.prog 31 #[.agg #[.int .i64 29, .slice (some ⟨g, 0, none⟩) 2 c]] w' fun e w'' => e = .returned (.bool true) ∧ Below w'.heap.size w' w'') : Calls Tryd.prog 15 #[.agg #[.int .i64 29, .slice (some ⟨g, 0, none⟩) 2 c]] w fun e w' => e = .returned (.bool (P && r)) ∧ Below w.heap.size w w' := by
  have hi := fun w => isCoilOp_any 29 w
  rw [show (decide ((21 : Int) ≤ 29) && decide ((29 : Int) ≤ 37)) = true from rfl] at hi
  have hmf := hmf_all
  have hw := fun w' (h : Below w.heap.size w w') => containsFunc_any 35 (fun x => !wholeA x) notWhole_test enters_notWhole g 3 1 (c - 1) [(k1, n1, p1)] rfl (by omega) w' ((hl.kept h).rest)
  have hr := fun w' (h : Below w.heap.size w w') => containsFunc_any 37 (fun x => !realA x) notReal_test enters_notReal g 3 1 (c - 1) [(k1, n1, p1)] rfl (by omega) w' ((hl.kept h).rest)
  generalize (([(k1, n1, p1)] : List Arg).any fun x => !wholeA x) = u at hw hW
  generalize (([(k1, n1, p1)] : List Arg).any fun x => !realA x) = v at hr hR
  subst hW hR
  have hp := fun w => isPreset_any k1 n1 p1 w
  rw [hr0] at hp
  clear hr0
  have HL := Lib.hid hl
  obtain ⟨hcap, hcm⟩ := hcap
  clear hl
  go_enter Tryd.func15, Tryd.ntmps15
  go_wp2_with fail
  refine (hi _).mono ?_
  rintro e w1 ⟨rfl, rfl⟩
  clear hi
  go_wp2_with fail
  refine (ha _ (by repeat (first | exact Below.refl _ _ | assumption | refine Below.setCell ?_ (by first | (simp; done) | (simp; omega) | omega) _ | refine Below.alloc ?_ (by first | (simp; done) | (simp; omega) | omega) _ | refine Bx.bel_drewN ?_ _ | refine Below.drew ?_))).mono ?_
  rintro e w2 ⟨rfl, hb2⟩
  have b2 := (Box.new w #[.int .i64 29, .slice (some ⟨g, 0, none⟩) 2 c] 31).kept hb2
  have hB2 : Below w.heap.size w w2 := bel_step (by repeat (first | exact Below.refl _ _ | assumption | refine Below.setCell ?_ (by first | (simp; done) | (simp; omega) | omega) _ | refine Below.alloc ?_ (by first | (simp; done) | (simp; omega) | omega) _ | refine Bx.bel_drewN ?_ _ | refine Below.drew ?_)) hb2 (by simp)
  have c0 : w2.cell? ⟨w.heap.size, 0, none⟩ = some (.int .i64 29) := b2.cell 0
  have c1 : w2.cell? ⟨w.heap.size, 1, none⟩ = some (.slice (some ⟨g, 0, none⟩) 2 c) := b2.cell 1
  have hl2 := HL.out.kept hB2
  have d0 : w2.cell? ⟨g, 0, none⟩ = some (.int .i64 k0) := (hl2.at 0 _ rfl).1
  have d1 : w2.cell? ⟨g, 1, none⟩ = some (.int .i64 n0) := (hl2.at 0 _ rfl).2.1
  have d2 : w2.cell? ⟨g, 2, none⟩ = some (.int .i64 p0) := (hl2.at 0 _ rfl).2.2
  have b3 : Box (w2.alloc (.cells #[.int .i64 k0, .int .i64 n0, .int .i64 p0] 40)).drew w2.heap.size #[.int .i64 k0, .int .i64 n0, .int .i64 p0] 40 := Box.new w2 #[.int .i64 k0, .int .i64 n0, .int .i64 p0] 40
  have b2' : Box (w2.alloc (.cells #[.int .i64 k0, .int .i64 n0, .int .i64 p0] 40)).drew w.heap.size #[.int .i64 29, .slice (some ⟨g, 0, none⟩) 2 c] 31 := b2.alloc (.cells #[.int .i64 k0, .int .i64 n0, .int .i64 p0] 40)
  have hB3 : Below w.heap.size w (w2.alloc (.cells #[.int .i64 k0, .int .i64 n0, .int .i64 p0] 40)).drew := (hB2.alloc hB2.size _).drew
  have l2 : w.heap.size < w2.heap.size := b2.lt
  have lg : g < w2.heap.size := hl2.1
  clear hb2 ha hl2
  go_wp2_with fail
  go_region
  go_wp2_with fail
  refine (hw _ hB3).mono ?_
  rintro e w4 ⟨rfl, hb4⟩
  have b4 := b3.kept hb4
  have e4 := b2'.kept hb4
  have hB4 : Below w.heap.size w w4 := bel_step hB3 hb4 hB3.size
  clear hb4 hw b3 b2' hB3 c0 c1 d0 d1 d2 b2 hB2
  go_wp2_with fail
  refine (hr _ hB4).mono ?_
  rintro e w5 ⟨rfl, hb5⟩
  have b5 := b4.kept hb5
  have e5 := e4.kept hb5
  have hB5 : Below w.heap.size w w5 := bel_step hB4 hb5 hB4.size
  clear hb5 hr b4 e4 hB4
  have c0 : w5.cell? ⟨w.heap.size, 0, none⟩ = some (.int .i64 29) := e5.cell 0
  have c1 : w5.cell? ⟨w.heap.size, 1, none⟩ = some (.slice (some ⟨g, 0, none⟩) 2 c) := e5.cell 1
  have a0 : w5.cell? ⟨w2.heap.size, 0, none⟩ = some (.int .i64 k0) := b5.cell 0
  have a1 : w5.cell? ⟨w2.heap.size, 1, none⟩ = some (.int .i64 n0) := b5.cell 1
  have a2 : w5.cell? ⟨w2.heap.size, 2, none⟩ = some (.int .i64 p0) := b5.cell 2
  have hl5 := HL.out.kept hB5
  have q0 : w5.cell? ⟨g, 3, none⟩ = some (.int .i64 k1) := (hl5.at 1 _ rfl).1
  have q1 : w5.cell? ⟨g, 4, none⟩ = some (.int .i64 n1) := (hl5.at 1 _ rfl).2.1
  have q2 : w5.cell? ⟨g, 5, none⟩ = some (.int .i64 p1) := (hl5.at 1 _ rfl).2.2
  have Q0 := Lib.hid (And.intro hl5.1 (fun w' (h : Below w5.heap.size w5 w') => (h.cell (p := ⟨g, 3, none⟩) hl5.1).trans q0))
  clear hl5 HL
  cases P with
  | true =>
    go_wp2_with fail
    refine (hp _).mono ?_
    rintro e w7 ⟨rfl, hb7⟩
    have hB7 := bel_step hB5 hb7 hB5.size
    clear hp hb7 hB5 b5 e5 q0 q1 q2 a0 a1 a2 c0 c1
    go_wp2
    go_ret
    exact ⟨rfl, hB7⟩
  | false =>
    go_wp2
    go_ret
    exact ⟨rfl, hB5⟩
set_option maxRecDepth 100000 in
set_option maxHeartbeats 1000000 in
theorem coil_i_30 (k0 n0 p0 k1 n1 p1 : Int) (g c : Nat) (hcap : 2 ≤ c ∧ c ≤ maxLen) (w : World) (hl : Lie w g 0 [(k0, n0, p0), (k1, n1, p1)]) (W R : Bool) (hW : (!([(k1, n1, p1)] : List Arg).any fun x => !wholeA x) = W) (hR : (!([(k1, n1, p1)] : List Arg).any fun x => !realA x) = R) (P : Bool) (hP : (k0 == 9) = P) (Q : Bool) (hQ : (k0 == 10) = Q) 
    (ha : ∀ w', Below w.heap.size w w' → Calls Tryd.prog 31 #[.agg #[.int .i64 30, .slice (some ⟨g, 0, none⟩) 2 c]] w' fun e w'' => e = .returned (.bool true) ∧ Below w'.heap.size w' w'') : Calls Tryd.prog 15 #[.agg #[.int .i64 30, .slice (some ⟨g, 0, none⟩) 2 c]] w fun e w' => e = .returned (.bool (P && W || Q && R)) ∧ Below w.heap.size w w' := by
  have hi := fun w => isCoilOp_any 30 w
  rw [show (decide ((21 : Int) ≤ 30) && decide ((30 : Int) ≤ 37)) = true from rfl] at hi
  have hmf := hmf_all
  have hw := fun w' (h : Below w.heap.size w w') => containsFunc_any 35 (fun x => !wholeA x) notWhole_test enters_notWhole g 3 1 (c - 1) [(k1, n1, p1)] rfl (by omega) w' ((hl.kept h).rest)
  have hr := fun w' (h : Below w.heap.size w w') => containsFunc_any 37 (fun x => !realA x) notReal_test enters_notReal g 3 1 (c - 1) [(k1, n1, p1)] rfl (by omega) w' ((hl.kept h).rest)
  generalize (([(k1, n1, p1)] : List Arg).any fun x => !wholeA x) = u at hw hW
  generalize (([(k1, n1, p1)] : List Arg).any fun x => !realA x) = v at hr hR
  subst hW hR
  have HL := Lib.hid hl
  obtain ⟨hcap, hcm⟩ := hcap
  clear hl
  go_enter Tryd.func15, Tryd.ntmps15
  go_wp2_with fail
  refine (hi _).mono ?_
  rintro e w1 ⟨rfl, rfl⟩
  clear hi
  go_wp2_with fail
  refine (ha _ (by repeat (first | exact Below.refl _ _ | assumption | refine Below.setCell ?_ (by first | (simp; done) | (simp; omega) | omega) _ | refine Below.alloc ?_ (by first | (simp; done) | (simp; omega) | omega) _ | refine Bx.bel_drewN ?_ _ | refine Below.drew ?_))).mono ?_
  rintro e w2 ⟨rfl, hb2⟩
  have b2 := (Box.new w #[.int .i64 30, .slice (some ⟨g, 0, none⟩) 2 c] 31).kept hb2
  have hB2 : Below w.heap.size w w2 := bel_step (by repeat (first | exact Below.refl _ _ | assumption | refine Below.setCell ?_ (by first | (simp; done) | (simp; omega) | omega) _ | refine Below.alloc ?_ (by first | (simp; done) | (simp; omega) | omega) _ | refine Bx.bel_drewN ?_ _ | refine Below.drew ?_)) hb2 (by simp)
  have c0 : w2.cell? ⟨w.heap.size, 0, none⟩ = some (.int .i64 30) := b2.cell 0
  have c1 : w2.cell? ⟨w.heap.size, 1, none⟩ = some (.slice (some ⟨g, 0, none⟩) 2 c) := b2.cell 1
  have hl2 := HL.out.kept hB2
  have d0 : w2.cell? ⟨g, 0, none⟩ = some (.int .i64 k0) := (hl2.at 0 _ rfl).1
  have d1 : w2.cell? ⟨g, 1, none⟩ = some (.int .i64 n0) := (hl2.at 0 _ rfl).2.1
  have d2 : w2.cell? ⟨g, 2, none⟩ = some (.int .i64 p0) := (hl2.at 0 _ rfl).2.2
  have b3 : Box (w2.alloc (.cells #[.int .i64 k0, .int .i64 n0, .int .i64 p0] 40)).drew w2.heap.size #[.int .i64 k0, .int .i64 n0, .int .i64 p0] 40 := Box.new w2 #[.int .i64 k0, .int .i64 n0, .int .i64 p0] 40
  have b2' : Box (w2.alloc (.cells #[.int .i64 k0, .int .i64 n0, .int .i64 p0] 40)).drew w.heap.size #[.int .i64 30, .slice (some ⟨g, 0, none⟩) 2 c] 31 := b2.alloc (.cells #[.int .i64 k0, .int .i64 n0, .int .i64 p0] 40)
  have hB3 : Below w.heap.size w (w2.alloc (.cells #[.int .i64 k0, .int .i64 n0, .int .i64 p0] 40)).drew := (hB2.alloc hB2.size _).drew
  have l2 : w.heap.size < w2.heap.size := b2.lt
  have lg : g < w2.heap.size := hl2.1
  clear hb2 ha hl2
  go_wp2_with fail
  go_region
  go_wp2_with fail
  refine (hw _ hB3).mono ?_
  rintro e w4 ⟨rfl, hb4⟩
  have b4 := b3.kept hb4
  have e4 := b2'.kept hb4
  have hB4 : Below w.heap.size w w4 := bel_step hB3 hb4 hB3.size
  clear hb4 hw b3 b2' hB3 c0 c1 d0 d1 d2 b2 hB2
  go_wp2_with fail
  refine (hr _ hB4).mono ?_
  rintro e w5 ⟨rfl, hb5⟩
  have b5 := b4.kept hb5
  have e5 := e4.kept hb5
  have hB5 : Below w.heap.size w w5 := bel_step hB4 hb5 hB4.size
  clear hb5 hr b4 e4 hB4
  have c0 : w5.cell? ⟨w.heap.size, 0, none⟩ = some (.int .i64 30) := e5.cell 0
  have c1 : w5.cell? ⟨w.heap.size, 1, none⟩ = some (.slice (some ⟨g, 0, none⟩) 2 c) := e5.cell 1
  have a0 : w5.cell? ⟨w2.heap.size, 0, none⟩ = some (.int .i64 k0) := b5.cell 0
  have a1 : w5.cell? ⟨w2.heap.size, 1, none⟩ = some (.int .i64 n0) := b5.cell 1
  have a2 : w5.cell? ⟨w2.heap.size, 2, none⟩ = some (.int .i64 p0) := b5.cell 2
  have hl5 := HL.out.kept hB5
  have q0 : w5.cell? ⟨g, 3, none⟩ = some (.int .i64 k1) := (hl5.at 1 _ rfl).1
  have q1 : w5.cell? ⟨g, 4, none⟩ = some (.int .i64 n1) := (hl5.at 1 _ rfl).2.1
  have q2 : w5.cell? ⟨g, 5, none⟩ = some (.int .i64 p1) := (hl5.at 1 _ rfl).2.2
  have Q0 := Lib.hid (And.intro hl5.1 (fun w' (h : Below w5.heap.size w5 w') => (h.cell (p := ⟨g, 3, none⟩) hl5.1).trans q0))
  clear hl5 HL
  cases P with
  | true =>
    cases u with
    | true =>
      cases Q with
      | true =>
        go_wp2
        go_ret
        exact ⟨rfl, hB5⟩
      | false =>
        go_wp2
        go_ret
        exact ⟨rfl, hB5⟩
    | false =>
      go_wp2
      go_ret
      exact ⟨rfl, hB5⟩
  | false =>
    cases Q with
    | true =>
      go_wp2
      go_ret
      exact ⟨rfl, hB5⟩
    | false =>
      go_wp2
      go_ret
      exact ⟨rfl, hB5⟩
set_option maxRecDepth 100000 in
set_option maxHeartbeats 1000000 in
theorem coil_i_31 (k0 n0 p0 k1 n1 p1 k2 n2 p2 : Int) (g c : Nat) (hcap : 3 ≤ c ∧ c ≤ maxLen) (w : World) (hl : Lie w g 0 [(k0, n0, p0), (k1, n1, p1), (k2, n2, p2)]) (W R : Bool) (hW : (!([(k1, n1, p1), (k2, n2, p2)] : List Arg).any fun x => !wholeA x) = W) (hR : (!([(k1, n1, p1), (k2, n2, p2)] : List Arg).any fun x => !realA x) = R) (P : Bool) (hP : (k0 == 9) = P) (Q : Bool) (hQ : (k0 == 10) = Q) 
    (ha : ∀ w', Below w.heap.size w w' → Calls Tryd.prog 31 #[.agg #[.int .i64 31, .slice (some ⟨g, 0, none⟩) 3 c]] w' fun e w'' => e = .returned (.bool true) ∧ Below w'.heap.size w' w'') : Calls Tryd.prog 15 #[.agg #[.int .i64 31, .slice (some ⟨g, 0, none⟩) 3 c]] w fun e w' => e = .returned (.bool (P && W || Q && R)) ∧ Below w.heap.size w w' := by
  have hi := fun w => isCoilOp_any 31 w
  rw [show (decide ((21 : Int) ≤ 31) && decide ((31 : Int) ≤ 37)) = true from rfl] at hi
  have hmf := hmf_all
  have hw := fun w' (h : Below w.heap.size w w') => containsFunc_any 35 (fun x => !wholeA x) notWhole_test enters_notWhole g 3 2 (c - 1) [(k1, n1, p1), (k2, n2, p2)] rfl (by omega) w' ((hl.kept h).rest)
  have hr := fun w' (h : Below w.heap.size w w') => containsFunc_any 37 (fun x => !realA x) notReal_test enters_notReal g 3 2 (c - 1) [(k1, n1, p1), (k2, n2, p2)] rfl (by omega) w' ((hl.kept h).rest)
  generalize (([(k1, n1, p1), (k2, n2, p2)] : List Arg).any fun x => !wholeA x) = u at hw hW
  generalize (([(k1, n1, p1), (k2, n2, p2)] : List Arg).any fun x => !realA x) = v at hr hR
  subst hW hR
  have HL := Lib.hid hl
  obtain ⟨hcap, hcm⟩ := hcap
  clear hl
  go_enter Tryd.func15, Tryd.ntmps15
  go_wp2_with fail
  refine (hi _).mono ?_
  rintro e w1 ⟨rfl, rfl⟩
  clear hi
  go_wp2_with fail
  refine (ha _ (by repeat (first | exact Below.refl _ _ | assumption | refine Below.setCell ?_ (by first | (simp; done) | (simp; omega) | omega) _ | refine Below.alloc ?_ (by first | (simp; done) | (simp; omega) | omega) _ | refine Bx.bel_drewN ?_ _ | refine Below.drew ?_))).mono ?_
  rintro e w2 ⟨rfl, hb2⟩
  have b2 := (Box.new w #[.int .i64 31, .slice (some ⟨g, 0, none⟩) 3 c] 31).kept hb2
  have hB2 : Below w.heap.size w w2 := bel_step (by repeat (first | exact Below.refl _ _ | assumption | refine Below.setCell ?_ (by first | (simp; done) | (simp; omega) | omega) _ | refine Below.alloc ?_ (by first | (simp; done) | (simp; omega) | omega) _ | refine Bx.bel_drewN ?_ _ | refine Below.drew ?_)) hb2 (by simp)
  have c0 : w2.cell? ⟨w.heap.size, 0, none⟩ = some (.int .i64 31) := b2.cell 0
  have c1 : w2.cell? ⟨w.heap.size, 1, none⟩ = some (.slice (some ⟨g, 0, none⟩) 3 c) := b2.cell 1
  have hl2 := HL.out.kept hB2
  have d0 : w2.cell? ⟨g, 0, none⟩ = some (.int .i64 k0) := (hl2.at 0 _ rfl).1
  have d1 : w2.cell? ⟨g, 1, none⟩ = some (.int .i64 n0) := (hl2.at 0 _ rfl).2.1
  have d2 : w2.cell? ⟨g, 2, none⟩ = some (.int .i64 p0) := (hl2.at 0 _ rfl).2.2
  have b3 : Box (w2.alloc (.cells #[.int .i64 k0, .int .i64 n0, .int .i64 p0] 40)).drew w2.heap.size #[.int .i64 k0, .int .i64 n0, .int .i64 p0] 40 := Box.new w2 #[.int .i64 k0, .int .i64 n0, .int .i64 p0] 40
  have b2' : Box (w2.alloc (.cells #[.int .i64 k0, .int .i64 n0, .int .i64 p0] 40)).drew w.heap.size #[.int .i64 31, .slice (some ⟨g, 0, none⟩) 3 c] 31 := b2.alloc (.cells #[.int .i64 k0, .int .i64 n0, .int .i64 p0] 40)
  have hB3 : Below w.heap.size w (w2.alloc (.cells #[.int .i64 k0, .int .i64 n0, .int .i64 p0] 40)).drew := (hB2.alloc hB2.size _).drew
  have l2 : w.heap.size < w2.heap.size := b2.lt
  have lg : g < w2.heap.size := hl2.1
  clear hb2 ha hl2
  go_wp2_with fail
  go_region
  go_wp2_with fail
  refine (hw _ hB3).mono ?_
  rintro e w4 ⟨rfl, hb4⟩
  have b4 := b3.kept hb4
  have e4 := b2'.kept hb4
  have hB4 : Below w.heap.size w w4 := bel_step hB3 hb4 hB3.size
  clear hb4 hw b3 b2' hB3 c0 c1 d0 d1 d2 b2 hB2
  go_wp2_with fail
  refine (hr _ hB4).mono ?_
  rintro e w5 ⟨rfl, hb5⟩
  have b5 := b4.kept hb5
  have e5 := e4.kept hb5
  have hB5 : Below w.heap.size w w5 := bel_step hB4 hb5 hB4.size
  clear hb5 hr b4 e4 hB4
  have c0 : w5.cell? ⟨w.heap.size, 0, none⟩ = some (.int .i64 31) := e5.cell 0
  have c1 : w5.cell? ⟨w.heap.size, 1, none⟩ = some (.slice (some ⟨g, 0, none⟩) 3 c) := e5.cell 1
  have a0 : w5.cell? ⟨w2.heap.size, 0, none⟩ = some (.int .i64 k0) := b5.cell 0
  have a1 : w5.cell? ⟨w2.heap.size, 1, none⟩ = some (.int .i64 n0) := b5.cell 1
  have a2 : w5.cell? ⟨w2.heap.size, 2, none⟩ = some (.int .i64 p0) := b5.cell 2
  have hl5 := HL.out.kept hB5
  have q0 : w5.cell? ⟨g, 3, none⟩ = some (.int .i64 k1) := (hl5.at 1 _ rfl).1
  have q1 : w5.cell? ⟨g, 4, none⟩ = some (.int .i64 n1) := (hl5.at 1 _ rfl).2.1
  have q2 : w5.cell? ⟨g, 5, none⟩ = some (.int .i64 p1) := (hl5.at 1 _ rfl).2.2
  have Q0 := Lib.hid (And.intro hl5.1 (fun w' (h : Below w5.heap.size w5 w') => (h.cell (p := ⟨g, 3, none⟩) hl5.1).trans q0))
  clear hl5 HL
  cases P with
  | true =>
    cases u with
    | true =>
      cases Q with
      | true =>
        go_wp2
        go_ret
        exact ⟨rfl, hB5⟩
      | false =>
        go_wp2
        go_ret
        exact ⟨rfl, hB5⟩
    | false =>
      go_wp2
      go_ret
      exact ⟨rfl, hB5⟩
  | false =>
    cases Q with
    | true =>
      go_wp2
      go_ret
      exact ⟨rfl, hB5⟩
    | false =>
      go_wp2
      go_ret
      exact ⟨rfl, hB5⟩
set_option maxRecDepth 100000 in
set_option maxHeartbeats 1000000 in
theorem coil_i_32 (k0 n0 p0 k1 n1 p1 k2 n2 p2 : Int) (g c : Nat) (hcap : 3 ≤ c ∧ c ≤ maxLen) (w : World) (hl : Lie w g 0 [(k0, n0, p0), (k1, n1, p1), (k2, n2, p2)]) (W R : Bool) (hW : (!([(k1, n1, p1), (k2, n2, p2)] : List Arg).any fun x => !wholeA x) = W) (hR : (!([(k1, n1, p1), (k2, n2, p2)] : List Arg).any fun x => !realA x) = R) (P : Bool) (hP : (k0 == 9) = P) (Q : Bool) (hQ : (k0 == 10) = Q) 
    (ha : ∀ w', Below w.heap.size w w' → Calls Tryd.prog 31 #[.agg #[.int .i64 32, .slice (some ⟨g, 0, none⟩) 3 c]] w' fun e w'' => e = .returned (.bool true) ∧ Below w'.heap.size w' w'') : Calls Tryd.prog 15 #[.agg #[.int .i64 32, .slice (some ⟨g, 0, none⟩) 3 c]] w fun e w' => e = .returned (.bool (P && W || Q && R)) ∧ Below w.heap.size w w' := by
  have hi := fun w => isCoilOp_any 32 w
  rw [show (decide ((21 : Int) ≤ 32) && decide ((32 : Int) ≤ 37)) = true from rfl] at hi
  have hmf := hmf_all
  have hw := fun w' (h : Below w.heap.size w w') => containsFunc_any 35 (fun x => !wholeA x) notWhole_test enters_notWhole g 3 2 (c - 1) [(k1, n1, p1), (k2, n2, p2)] rfl (by omega) w' ((hl.kept h).rest)
  have hr := fun w' (h : Below w.heap.size w w') => containsFunc_any 37 (fun x => !realA x) notReal_test enters_notReal g 3 2 (c - 1) [(k1, n1, p1), (k2, n2, p2)] rfl (by omega) w' ((hl.kept h).rest)
  generalize (([(k1, n1, p1), (k2, n2, p2)] : List Arg).any fun x => !wholeA x) = u at hw hW
  generalize (([(k1, n1, p1), (k2, n2, p2)] : List Arg).any fun x => !realA x) = v at hr hR
  subst hW hR
  have HL := Lib.hid hl
  obtain ⟨hcap, hcm⟩ := hcap
  clear hl
  go_enter Tryd.func15, Tryd.ntmps15
  go_wp2_with fail
  refine (hi _).mono ?_
  rintro e w1 ⟨rfl, rfl⟩
  clear hi
  go_wp2_with fail
  refine (ha _ (by repeat (first | exact Below.refl _ _ | assumption | refine Below.setCell ?_ (by first | (simp; done) | (simp; omega) | omega) _ | refine Below.alloc ?_ (by first | (simp; done) | (simp; omega) | omega) _ | refine Bx.bel_drewN ?_ _ | refine Below.drew ?_))).mono ?_
  rintro e w2 ⟨rfl, hb2⟩
  have b2 := (Box.new w #[.int .i64 32, .slice (some ⟨g, 0, none⟩) 3 c] 31).kept hb2
  have hB2 : Below w.heap.size w w2 := bel_step (by repeat (first | exact Below.refl _ _ | assumption | refine Below.setCell ?_ (by first | (simp; done) | (simp; omega) | omega) _ | refine Below.alloc ?_ (by first | (simp; done) | (simp; omega) | omega) _ | refine Bx.bel_drewN ?_ _ | refine Below.drew ?_)) hb2 (by simp)
  have c0 : w2.cell? ⟨w.heap.size, 0, none⟩ = some (.int .i64 32) := b2.cell 0
  have c1 : w2.cell? ⟨w.heap.size, 1, none⟩ = some (.slice (some ⟨g, 0, none⟩) 3 c) := b2.cell 1
  have hl2 := HL.out.kept hB2
  have d0 : w2.cell? ⟨g, 0, none⟩ = some (.int .i64 k0) := (hl2.at 0 _ rfl).1
  have d1 : w2.cell? ⟨g, 1, none⟩ = some (.int .i64 n0) := (hl2.at 0 _ rfl).2.1
  have d2 : w2.cell? ⟨g, 2, none⟩ = some (.int .i64 p0) := (hl2.at 0 _ rfl).2.2
  have b3 : Box (w2.alloc (.cells #[.int .i64 k0, .int .i64 n0, .int .i64 p0] 40)).drew w2.heap.size #[.int .i64 k0, .int .i64 n0, .int .i64 p0] 40 := Box.new w2 #[.int .i64 k0, .int .i64 n0, .int .i64 p0] 40
  have b2' : Box (w2.alloc (.cells #[.int .i64 k0, .int .i64 n0, .int .i64 p0] 40)).drew w.heap.size #[.int .i64 32, .slice (some ⟨g, 0, none⟩) 3 c] 31 := b2.alloc (.cells #[.int .i64 k0, .int .i64 n0, .int .i64 p0] 40)
  have hB3 : Below w.heap.size w (w2.alloc (.cells #[.int .i64 k0, .int .i64 n0, .int .i64 p0] 40)).drew := (hB2.alloc hB2.size _).drew
  have l2 : w.heap.size < w2.heap.size := b2.lt
  have lg : g < w2.heap.size := hl2.1
  clear hb2 ha hl2
  go_wp2_with fail
  go_region
  go_wp2_with fail
  refine (hw _ hB3).mono ?_
  rintro e w4 ⟨rfl, hb4⟩
  have b4 := b3.kept hb4
  have e4 := b2'.kept hb4
  have hB4 : Below w.heap.size w w4 := bel_step hB3 hb4 hB3.size
  clear hb4 hw b3 b2' hB3 c0 c1 d0 d1 d2 b2 hB2
  go_wp2_with fail
  refine (hr _ hB4).mono ?_
  rintro e w5 ⟨rfl, hb5⟩
  have b5 := b4.kept hb5
  have e5 := e4.kept hb5
  have hB5 : Below w.heap.size w w5 := bel_step hB4 hb5 hB4.size
  clear hb5 hr b4 e4 hB4
  have c0 : w5.cell? ⟨w.heap.size, 0, none⟩ = some (.int .i64 32) := e5.cell 0
  have c1 : w5.cell? ⟨w.heap.size, 1, none⟩ = some (.slice (some ⟨g, 0, none⟩) 3 c) := e5.cell 1
  have a0 : w5.cell? ⟨w2.heap.size, 0, none⟩ = some (.int .i64 k0) := b5.cell 0
  have a1 : w5.cell? ⟨w2.heap.size, 1, none⟩ = some (.int .i64 n0) := b5.cell 1
  have a2 : w5.cell? ⟨w2.heap.size, 2, none⟩ = some (.int .i64 p0) := b5.cell 2
  have hl5 := HL.out.kept hB5
  have q0 : w5.cell? ⟨g, 3, none⟩ = some (.int .i64 k1) := (hl5.at 1 _ rfl).1
  have q1 : w5.cell? ⟨g, 4, none⟩ = some (.int .i64 n1) := (hl5.at 1 _ rfl).2.1
  have q2 : w5.cell? ⟨g, 5, none⟩ = some (.int .i64 p1) := (hl5.at 1 _ rfl).2.2
  have Q0 := Lib.hid (And.intro hl5.1 (fun w' (h : Below w5.heap.size w5 w') => (h.cell (p := ⟨g, 3, none⟩) hl5.1).trans q0))
  clear hl5 HL
  cases P with
  | true =>
    cases u with
    | true =>
      cases Q with
      | true =>
        go_wp2
        go_ret
        exact ⟨rfl, hB5⟩
      | false =>
        go_wp2
        go_ret
        exact ⟨rfl, hB5⟩
    | false =>
      go_wp2
      go_ret
      exact ⟨rfl, hB5⟩
  | false =>
    cases Q with
    | true =>
      go_wp2
      go_ret
      exact ⟨rfl, hB5⟩
    | false =>
      go_wp2
      go_ret
      exact ⟨rfl, hB5⟩
set_option maxRecDepth 100000 in
set_option maxHeartbeats 1000000 in
theorem coil_i_33 (k0 n0 p0 k1 n1 p1 k2 n2 p2 : Int) (g c : Nat) (hcap : 3 ≤ c ∧ c ≤ maxLen) (w : World) (hl : Lie w g 0 [(k0, n0, p0), (k1, n1, p1), (k2, n2, p2)]) (W R : Bool) (hW : (!([(k1, n1, p1), (k2, n2, p2)] : List Arg).any fun x => !wholeA x) = W) (hR : (!([(k1, n1, p1), (k2, n2, p2)] : List Arg).any fun x => !realA x) = R) (P : Bool) (hP : (k0 == 9) = P) (Q : Bool) (hQ : (k0 == 10) = Q) 
    (ha : ∀ w', Below w.heap.size w w' → Calls Tryd.prog 31 #[.agg #[.int .i64 33, .slice (some ⟨g, 0, none⟩) 3 c]] w' fun e w'' => e = .returned (.bool true) ∧ Below w'.heap.size w' w'') : Calls Tryd.prog 15 #[.agg #[.int .i64 33, .slice (some ⟨g, 0, none⟩) 3 c]] w fun e w' => e = .returned (.bool (P && W || Q && R)) ∧ Below w.heap.size w w' := by
  have hi := fun w => isCoilOp_any 33 w
  rw [show (decide ((21 : Int) ≤ 33) && decide ((33 : Int) ≤ 37)) = true from rfl] at hi
  have hmf := hmf_all
  have hw := fun w' (h : Below w.heap.size w w') => containsFunc_any 35 (fun x => !wholeA x) notWhole_test enters_notWhole g 3 2 (c - 1) [(k1, n1, p1), (k2, n2, p2)] rfl (by omega) w' ((hl.kept h).rest)
  have hr := fun w' (h : Below w.heap.size w w') => containsFunc_any 37 (fun x => !realA x) notReal_test enters_notReal g 3 2 (c - 1) [(k1, n1, p1), (k2, n2, p2)] rfl (by omega) w' ((hl.kept h).rest)
  generalize (([(k1, n1, p1), (k2, n2, p2)] : List Arg).any fun x => !wholeA x) = u at hw hW
  generalize (([(k1, n1, p1), (k2, n2, p2)] : List Arg).any fun x => !realA x) = v at hr hR
  subst hW hR
  have HL := Lib.hid hl
  obtain ⟨hcap, hcm⟩ := hcap
  clear hl
  go_enter Tryd.func15, Tryd.ntmps15
  go_wp2_with fail
  refine (hi _).mono ?_
  rintro e w1 ⟨rfl, rfl⟩
  clear hi
  go_wp2_with fail
  refine (ha _ (by repeat (first | exact Below.refl _ _ | assumption | refine Below.setCell ?_ (by first | (simp; done) | (simp; omega) | omega) _ | refine Below.alloc ?_ (by first | (simp; done) | (simp; omega) | omega) _ | refine Bx.bel_drewN ?_ _ | refine Below.drew ?_))).mono ?_
  rintro e w2 ⟨rfl, hb2⟩
  have b2 := (Box.new w #[.int .i64 33, .slice (some ⟨g, 0, none⟩) 3 c] 31).kept hb2
  have hB2 : Below w.heap.size w w2 := bel_step (by repeat (first | exact Below.refl _ _ | assumption | refine Below.setCell ?_ (by first | (simp; done) | (simp; omega) | omega) _ | refine Below.alloc ?_ (by first | (simp; done) | (simp; omega) | omega) _ | refine Bx.bel_drewN ?_ _ | refine Below.drew ?_)) hb2 (by simp)
  have c0 : w2.cell? ⟨w.heap.size, 0, none⟩ = some (.int .i64 33) := b2.cell 0
  have c1 : w2.cell? ⟨w.heap.size, 1, none⟩ = some (.slice (some ⟨g, 0, none⟩) 3 c) := b2.cell 1
  have hl2 := HL.out.kept hB2
  have d0 : w2.cell? ⟨g, 0, none⟩ = some (.int .i64 k0) := (hl2.at 0 _ rfl).1
  have d1 : w2.cell? ⟨g, 1, none⟩ = some (.int .i64 n0) := (hl2.at 0 _ rfl).2.1
  have d2 : w2.cell? ⟨g, 2, none⟩ = some (.int .i64 p0) := (hl2.at 0 _ rfl).2.2
  have b3 : Box (w2.alloc (.cells #[.int .i64 k0, .int .i64 n0, .int .i64 p0] 40)).drew w2.heap.size #[.int .i64 k0, .int .i64 n0, .int .i64 p0] 40 := Box.new w2 #[.int .i64 k0, .int .i64 n0, .int .i64 p0] 40
  have b2' : Box (w2.alloc (.cells #[.int .i64 k0, .int .i64 n0, .int .i64 p0] 40)).drew w.heap.size #[.int .i64 33, .slice (some ⟨g, 0, none⟩) 3 c] 31 := b2.alloc (.cells #[.int .i64 k0, .int .i64 n0, .int .i64 p0] 40)
  have hB3 : Below w.heap.size w (w2.alloc (.cells #[.int .i64 k0, .int .i64 n0, .int .i64 p0] 40)).drew := (hB2.alloc hB2.size _).drew
  have l2 : w.heap.size < w2.heap.size := b2.lt
  have lg : g < w2.heap.size := hl2.1
  clear hb2 ha hl2
  go_wp2_with fail
  go_region
  go_wp2_with fail
  refine (hw _ hB3).mono ?_
  rintro e w4 ⟨rfl, hb4⟩
  have b4 := b3.kept hb4
  have e4 := b2'.kept hb4
  have hB4 : Below w.heap.size w w4 := bel_step hB3 hb4 hB3.size
  clear hb4 hw b3 b2' hB3 c0 c1 d0 d1 d2 b2 hB2
  go_wp2_with fail
  refine (hr _ hB4).mono ?_
  rintro e w5 ⟨rfl, hb5⟩
  have b5 := b4.kept hb5
  have e5 := e4.kept hb5
  have hB5 : Below w.heap.size w w5 := bel_step hB4 hb5 hB4.size
  clear hb5 hr b4 e4 hB4
  have c0 : w5.cell? ⟨w.heap.size, 0, none⟩ = some (.int .i64 33) := e5.cell 0
  have c1 : w5.cell? ⟨w.heap.size, 1, none⟩ = some (.slice (some ⟨g, 0, none⟩) 3 c) := e5.cell 1
  have a0 : w5.cell? ⟨w2.heap.size, 0, none⟩ = some (.int .i64 k0) := b5.cell 0
  have a1 : w5.cell? ⟨w2.heap.size, 1, none⟩ = some (.int .i64 n0) := b5.cell 1
  have a2 : w5.cell? ⟨w2.heap.size, 2, none⟩ = some (.int .i64 p0) := b5.cell 2
  have hl5 := HL.out.kept hB5
  have q0 : w5.cell? ⟨g, 3, none⟩ = some (.int .i64 k1) := (hl5.at 1 _ rfl).1
  have q1 : w5.cell? ⟨g, 4, none⟩ = some (.int .i64 n1) := (hl5.at 1 _ rfl).2.1
  have q2 : w5.cell? ⟨g, 5, none⟩ = some (.int .i64 p1) := (hl5.at 1 _ rfl).2.2
  have Q0 := Lib.hid (And.intro hl5.1 (fun w' (h : Below w5.heap.size w5 w') => (h.cell (p := ⟨g, 3, none⟩) hl5.1).trans q0))
  clear hl5 HL
  cases P with
  | true =>
    cases u with
    | true =>
      cases Q with
      | true =>
        go_wp2
        go_ret
        exact ⟨rfl, hB5⟩
      | false =>
        go_wp2
        go_ret
        exact ⟨rfl, hB5⟩
    | false =>
      go_wp2
      go_ret
      exact ⟨rfl, hB5⟩
  | false =>
    cases Q with
    | true =>
      go_wp2
      go_ret
      exact ⟨rfl, hB5⟩
    | false =>
      go_wp2
      go_ret
      exact ⟨rfl, hB5⟩
set_option maxRecDepth 100000 in
set_option maxHeartbeats 1000000 in
theorem coil_i_34 (k0 n0 p0 k1 n1 p1 k2 n2 p2 : Int) (g c : Nat) (hcap : 3 ≤ c ∧ c ≤ maxLen) (w : World) (hl : Lie w g 0 [(k0, n0, p0), (k1, n1, p1), (k2, n2, p2)]) (W R : Bool) (hW : (!([(k1, n1, p1), (k2, n2, p2)] : List Arg).any fun x => !wholeA x) = W) (hR : (!([(k1, n1, p1), (k2, n2, p2)] : List Arg).any fun x => !realA x) = R) (P : Bool) (hP : (k0 == 9) = P) (Q : Bool) (hQ : (k0 == 10) = Q) 
    (ha : ∀ w', Below w.heap.size w w' → Calls Tryd.prog 31 #[.agg #[.int .i64 34, .slice (some ⟨g, 0, none⟩) 3 c]] w' fun e w'' => e = .returned (.bool true) ∧ Below w'.heap.size w' w'') : Calls Tryd.prog 15 #[.agg #[.int .i64 34, .slice (some ⟨g, 0, none⟩) 3 c]] w fun e w' => e = .returned (.bool (P && W || Q && R)) ∧ Below w.heap.size w w' := by
  have hi := fun w => isCoilOp_any 34 w
  rw [show (decide ((21 : Int) ≤ 34) && decide ((34 : Int) ≤ 37)) = true from rfl] at hi
  have hmf := hmf_all
  have hw := fun w' (h : Below w.heap.size w w') => containsFunc_any 35 (fun x => !wholeA x) notWhole_test enters_notWhole g 3 2 (c - 1) [(k1, n1, p1), (k2, n2, p2)] rfl (by omega) w' ((hl.kept h).rest)
  have hr := fun w' (h : Below w.heap.size w w') => containsFunc_any 37 (fun x => !realA x) notReal_test enters_notReal g 3 2 (c - 1) [(k1, n1, p1), (k2, n2, p2)] rfl (by omega) w' ((hl.kept h).rest)
  generalize (([(k1, n1, p1), (k2, n2, p2)] : List Arg).any fun x => !wholeA x) = u at hw hW
  generalize (([(k1, n1, p1), (k2, n2, p2)] : List Arg).any fun x => !realA x) = v at hr hR
  subst hW hR
  have HL := Lib.hid hl
  obtain ⟨hcap, hcm⟩ := hcap
  clear hl
  go_enter Tryd.func15, Tryd.ntmps15
  go_wp2_with fail
  refine (hi _).mono ?_
  rintro e w1 ⟨rfl, rfl⟩
  clear hi
  go_wp2_with fail
  refine (ha _ (by repeat (first | exact Below.refl _ _ | assumption | refine Below.setCell ?_ (by first | (simp; done) | (simp; omega) | omega) _ | refine Below.alloc ?_ (by first | (simp; done) | (simp; omega) | omega) _ | refine Bx.bel_drewN ?_ _ | refine Below.drew ?_))).mono ?_
  rintro e w2 ⟨rfl, hb2⟩
  have b2 := (Box.new w #[.int .i64 34, .slice (some ⟨g, 0, none⟩) 3 c] 31).kept hb2
  have hB2 : Below w.heap.size w w2 := bel_step (by repeat (first | exact Below.refl _ _ | assumption | refine Below.setCell ?_ (by first | (simp; done) | (simp; omega) | omega) _ | refine Below.alloc ?_ (by first | (simp; done) | (simp; omega) | omega) _ | refine Bx.bel_drewN ?_ _ | refine Below.drew ?_)) hb2 (by simp)
  have c0 : w2.cell? ⟨w.heap.size, 0, none⟩ = some (.int .i64 34) := b2.cell 0
  have c1 : w2.cell? ⟨w.heap.size, 1, none⟩ = some (.slice (some ⟨g, 0, none⟩) 3 c) := b2.cell 1
  have hl2 := HL.out.kept hB2
  have d0 : w2.cell? ⟨g, 0, none⟩ = some (.int .i64 k0) := (hl2.at 0 _ rfl).1
  have d1 : w2.cell? ⟨g, 1, none⟩ = some (.int .i64 n0) := (hl2.at 0 _ rfl).2.1
  have d2 : w2.cell? ⟨g, 2, none⟩ = some (.int .i64 p0) := (hl2.at 0 _ rfl).2.2
  have b3 : Box (w2.alloc (.cells #[.int .i64 k0, .int .i64 n0, .int .i64 p0] 40)).drew w2.heap.size #[.int .i64 k0, .int .i64 n0, .int .i64 p0] 40 := Box.new w2 #[.int .i64 k0, .int .i64 n0, .int .i64 p0] 40
  have b2' : Box (w2.alloc (.cells #[.int .i64 k0, .int .i64 n0, .int .i64 p0] 40)).drew w.heap.size #[.int .i64 34, .slice (some ⟨g, 0, none⟩) 3 c] 31 := b2.alloc (.cells #[.int .i64 k0, .int .i64 n0, .int .i64 p0] 40)
  have hB3 : Below w.heap.size w (w2.alloc (.cells #[.int .i64 k0, .int .i64 n0, .int .i64 p0] 40)).drew := (hB2.alloc hB2.size _).drew
  have l2 : w.heap.size < w2.heap.size := b2.lt
  have lg : g < w2.heap.size := hl2.1
  clear hb2 ha hl2
  go_wp2_with fail
  go_region
  go_wp2_with fail
  refine (hw _ hB3).mono ?_
  rintro e w4 ⟨rfl, hb4⟩
  have b4 := b3.kept hb4
  have e4 := b2'.kept hb4
  have hB4 : Below w.heap.size w w4 := bel_step hB3 hb4 hB3.size
  clear hb4 hw b3 b2' hB3 c0 c1 d0 d1 d2 b2 hB2
  go_wp2_with fail
  refine (hr _ hB4).mono ?_
  rintro e w5 ⟨rfl, hb5⟩
  have b5 := b4.kept hb5
  have e5 := e4.kept hb5
  have hB5 : Below w.heap.size w w5 := bel_step hB4 hb5 hB4.size
  clear hb5 hr b4 e4 hB4
  have c0 : w5.cell? ⟨w.heap.size, 0, none⟩ = some (.int .i64 34) := e5.cell 0
  have c1 : w5.cell? ⟨w.heap.size, 1, none⟩ = some (.slice (some ⟨g, 0, none⟩) 3 c) := e5.cell 1
  have a0 : w5.cell? ⟨w2.heap.size, 0, none⟩ = some (.int .i64 k0) := b5.cell 0
  have a1 : w5.cell? ⟨w2.heap.size, 1, none⟩ = some (.int .i64 n0) := b5.cell 1
  have a2 : w5.cell? ⟨w2.heap.size, 2, none⟩ = some (.int .i64 p0) := b5.cell 2
  have hl5 := HL.out.kept hB5
  have q0 : w5.cell? ⟨g, 3, none⟩ = some (.int .i64 k1) := (hl5.at 1 _ rfl).1
  have q1 : w5.cell? ⟨g, 4, none⟩ = some (.int .i64 n1) := (hl5.at 1 _ rfl).2.1
  have q2 : w5.cell? ⟨g, 5, none⟩ = some (.int .i64 p1) := (hl5.at 1 _ rfl).2.2
  have Q0 := Lib.hid (And.intro hl5.1 (fun w' (h : Below w5.heap.size w5 w') => (h.cell (p := ⟨g, 3, none⟩) hl5.1).trans q0))
  clear hl5 HL
  cases P with
  | true =>
    cases u with
    | true =>
      cases Q with
      | true =>
        go_wp2
        go_ret
        exact ⟨rfl, hB5⟩
      | false =>
        go_wp2
        go_ret
        exact ⟨rfl, hB5⟩
    | false =>
      go_wp2
      go_ret
      exact ⟨rfl, hB5⟩
  | false =>
    cases Q with
    | true =>
      go_wp2
      go_ret
      exact ⟨rfl, hB5⟩
    | false =>
      go_wp2
      go_ret
      exact ⟨rfl, hB5⟩
set_option maxRecDepth 100000 in
set_option maxHeartbeats 1000000 in
theorem coil_i_35 (k0 n0 p0 k1 n1 p1 k2 n2 p2 : Int) (g c : Nat) (hcap : 3 ≤ c ∧ c ≤ maxLen) (w : World) (hl : Lie w g 0 [(k0, n0, p0), (k1, n1, p1), (k2, n2, p2)]) (W R : Bool) (hW : (!([(k1, n1, p1), (k2, n2, p2)] : List Arg).any fun x => !wholeA x) = W) (hR : (!([(k1, n1, p1), (k2, n2, p2)] : List Arg).any fun x => !realA x) = R) (P : Bool) (hP : (k0 == 9) = P) 
    (ha : ∀ w', Below w.heap.size w w' → Calls Tryd.prog 31 #[.agg #[.int .i64 35, .slice (some ⟨g, 0, none⟩) 3 c]] w' fun e w'' => e = .returned (.bool true) ∧ Below w'.heap.size w' w'') : Calls Tryd.prog 15 #[.agg #[.int .i64 35, .slice (some ⟨g, 0, none⟩) 3 c]] w fun e w' => e = .returned (.bool (P && W)) ∧ Below w.heap.size w w' := by
  have hi := fun w => isCoilOp_any 35 w
  rw [show (decide ((21 : Int) ≤ 35) && decide ((35 : Int) ≤ 37)) = true from rfl] at hi
  have hmf := hmf_all
  have hw := fun w' (h : Below w.heap.size w w') => containsFunc_any 35 (fun x => !wholeA x) notWhole_test enters_notWhole g 3 2 (c - 1) [(k1, n1, p1), (k2, n2, p2)] rfl (by omega) w' ((hl.kept h).rest)
  have hr := fun w' (h : Below w.heap.size w w') => containsFunc_any 37 (fun x => !realA x) notReal_test enters_notReal g 3 2 (c - 1) [(k1, n1, p1), (k2, n2, p2)] rfl (by omega) w' ((hl.kept h).rest)
  generalize (([(k1, n1, p1), (k2, n2, p2)] : List Arg).any fun x => !wholeA x) = u at hw hW
  generalize (([(k1, n1, p1), (k2, n2, p2)] : List Arg).any fun x => !realA x) = v at hr hR
  subst hW hR
  have HL := Lib.hid hl
  obtain ⟨hcap, hcm⟩ := hcap
  clear hl
  go_enter Tryd.func15, Tryd.ntmps15
  go_wp2_with fail
  refine (hi _).mono ?_
  rintro e w1 ⟨rfl, rfl⟩
  clear hi
  go_wp2_with fail
  refine (ha _ (by repeat (first | exact Below.refl _ _ | assumption | refine Below.setCell ?_ (by first | (simp; done) | (simp; omega) | omega) _ | refine Below.alloc ?_ (by first | (simp; done) | (simp; omega) | omega) _ | refine Bx.bel_drewN ?_ _ | refine Below.drew ?_))).mono ?_
  rintro e w2 ⟨rfl, hb2⟩
  have b2 := (Box.new w #[.int .i64 35, .slice (some ⟨g, 0, none⟩) 3 c] 31).kept hb2
  have hB2 : Below w.heap.size w w2 := bel_step (by repeat (first | exact Below.refl _ _ | assumption | refine Below.setCell ?_ (by first | (simp; done) | (simp; omega) | omega) _ | refine Below.alloc ?_ (by first | (simp; done) | (simp; omega) | omega) _ | refine Bx.bel_drewN ?_ _ | refine Below.drew ?_)) hb2 (by simp)
  have c0 : w2.cell? ⟨w.heap.size, 0, none⟩ = some (.int .i64 35) := b2.cell 0
  have c1 : w2.cell? ⟨w.heap.size, 1, none⟩ = some (.slice (some ⟨g, 0, none⟩) 3 c) := b2.cell 1
  have hl2 := HL.out.kept hB2
  have d0 : w2.cell? ⟨g, 0, none⟩ = some (.int .i64 k0) := (hl2.at 0 _ rfl).1
  have d1 : w2.cell? ⟨g, 1, none⟩ = some (.int .i64 n0) := (hl2.at 0 _ rfl).2.1
  have d2 : w2.cell? ⟨g, 2, none⟩ = some (.int .i64 p0) := (hl2.at 0 _ rfl).2.2
  have b3 : Box (w2.alloc (.cells #[.int .i64 k0, .int .i64 n0, .int .i64 p0] 40)).drew w2.heap.size #[.int .i64 k0, .int .i64 n0, .int .i64 p0] 40 := Box.new w2 #[.int .i64 k0, .int .i64 n0, .int .i64 p0] 40
  have b2' : Box (w2.alloc (.cells #[.int .i64 k0, .int .i64 n0, .int .i64 p0] 40)).drew w.heap.size #[.int .i64 35, .slice (some ⟨g, 0, none⟩) 3 c] 31 := b2.alloc (.cells #[.int .i64 k0, .int .i64 n0, .int .i64 p0] 40)
  have hB3 : Below w.heap.size w (w2.alloc (.cells #[.int .i64 k0, .int .i64 n0, .int .i64 p0] 40)).drew := (hB2.alloc hB2.size _).drew
  have l2 : w.heap.size < w2.heap.size := b2.lt
  have lg : g < w2.heap.size := hl2.1
  clear hb2 ha hl2
  go_wp2_with fail
  go_region
  go_wp2_with fail
  refine (hw _ hB3).mono ?_
  rintro e w4 ⟨rfl, hb4⟩
  have b4 := b3.kept hb4
  have e4 := b2'.kept hb4
  have hB4 : Below w.heap.size w w4 := bel_step hB3 hb4 hB3.size
  clear hb4 hw b3 b2' hB3 c0 c1 d0 d1 d2 b2 hB2
  go_wp2_with fail
  refine (hr _ hB4).mono ?_
  rintro e w5 ⟨rfl, hb5⟩
  have b5 := b4.kept hb5
  have e5 := e4.kept hb5
  have hB5 : Below w.heap.size w w5 := bel_step hB4 hb5 hB4.size
  clear hb5 hr b4 e4 hB4
  have c0 : w5.cell? ⟨w.heap.size, 0, none⟩ = some (.int .i64 35) := e5.cell 0
  have c1 : w5.cell? ⟨w.heap.size, 1, none⟩ = some (.slice (some ⟨g, 0, none⟩) 3 c) := e5.cell 1
  have a0 : w5.cell? ⟨w2.heap.size, 0, none⟩ = some (.int .i64 k0) := b5.cell 0
  have a1 : w5.cell? ⟨w2.heap.size, 1, none⟩ = some (.int .i64 n0) := b5.cell 1
  have a2 : w5.cell? ⟨w2.heap.size, 2, none⟩ = some (.int .i64 p0) := b5.cell 2
  have hl5 := HL.out.kept hB5
  have q0 : w5.cell? ⟨g, 3, none⟩ = some (.int .i64 k1) := (hl5.at 1 _ rfl).1
  have q1 : w5.cell? ⟨g, 4, none⟩ = some (.int .i64 n1) := (hl5.at 1 _ rfl).2.1
  have q2 : w5.cell? ⟨g, 5, none⟩ = some (.int .i64 p1) := (hl5.at 1 _ rfl).2.2
  have Q0 := Lib.hid (And.intro hl5.1 (fun w' (h : Below w5.heap.size w5 w') => (h.cell (p := ⟨g, 3, none⟩) hl5.1).trans q0))
  clear hl5 HL
  cases P with
  | true =>
    go_wp2
    go_ret
    exact ⟨rfl, hB5⟩
  | false =>
    go_wp2
    go_ret
    exact ⟨rfl, hB5⟩
set_option maxRecDepth 100000 in
set_option maxHeartbeats 1000000 in
theorem coil_i_36 (k0 n0 p0 k1 n1 p1 : Int) (g c : Nat) (hcap : 2 ≤ c ∧ c ≤ maxLen) (w : World) (hl : Lie w g 0 [(k0, n0, p0), (k1, n1, p1)]) (W R : Bool) (hW : (!([(k1, n1, p1)] : List Arg).any fun x => !wholeA x) = W) (hR : (!([(k1, n1, p1)] : List Arg).any fun x => !realA x) = R) (P : Bool) (hP : (k0 == 10) = P) 
    (ha : ∀ w', Below w.heap.size w w' → Calls Tryd.prog 31 #[.agg #[.int .i64 36, .slice (some ⟨g, 0, none⟩) 2 c]] w' fun e w'' => e = .returned (.bool true) ∧ Below w'.heap.size w' w'') : Calls Tryd.prog 15 #[.agg #[.int .i64 36, .slice (some ⟨g, 0, none⟩) 2 c]] w fun e w' => e = .returned (.bool (P && W)) ∧ Below w.heap.size w w' := by
  have hi := fun w => isCoilOp_any 36 w
  rw [show (decide ((21 : Int) ≤ 36) && decide ((36 : Int) ≤ 37)) = true from rfl] at hi
  have hmf := hmf_all
  have hw := fun w' (h : Below w.heap.size w w') => containsFunc_any 35 (fun x => !wholeA x) notWhole_test enters_notWhole g 3 1 (c - 1) [(k1, n1, p1)] rfl (by omega) w' ((hl.kept h).rest)
  have hr := fun w' (h : Below w.heap.size w w') => containsFunc_any 37 (fun x => !realA x) notReal_test enters_notReal g 3 1 (c - 1) [(k1, n1, p1)] rfl (by omega) w' ((hl.kept h).rest)
  generalize (([(k1, n1, p1)] : List Arg).any fun x => !wholeA x) = u at hw hW
  generalize (([(k1, n1, p1)] : List Arg).any fun x => !realA x) = v at hr hR
  subst hW hR
  have HL := Lib.hid hl
  obtain ⟨hcap, hcm⟩ := hcap
  clear hl
  go_enter Tryd.func15, Tryd.ntmps15
  go_wp2_with fail
  refine (hi _).mono ?_
  rintro e w1 ⟨rfl, rfl⟩
  clear hi
  go_wp2_with fail
  refine (ha _ (by repeat (first | exact Below.refl _ _ | assumption | refine Below.setCell ?_ (by first | (simp; done) | (simp; omega) | omega) _ | refine Below.alloc ?_ (by first | (simp; done) | (simp; omega) | omega) _ | refine Bx.bel_drewN ?_ _ | refine Below.drew ?_))).mono ?_
  rintro e w2 ⟨rfl, hb2⟩
  have b2 := (Box.new w #[.int .i64 36, .slice (some ⟨g, 0, none⟩) 2 c] 31).kept hb2
  have hB2 : Below w.heap.size w w2 := bel_step (by repeat (first | exact Below.refl _ _ | assumption | refine Below.setCell ?_ (by first | (simp; done) | (simp; omega) | omega) _ | refine Below.alloc ?_ (by first | (simp; done) | (simp; omega) | omega) _ | refine Bx.bel_drewN ?_ _ | refine Below.drew ?_)) hb2 (by simp)
  have c0 : w2.cell? ⟨w.heap.size, 0, none⟩ = some (.int .i64 36) := b2.cell 0
  have c1 : w2.cell? ⟨w.heap.size, 1, none⟩ = some (.slice (some ⟨g, 0, none⟩) 2 c) := b2.cell 1
  have hl2 := HL.out.kept hB2
  have d0 : w2.cell? ⟨g, 0, none⟩ = some (.int .i64 k0) := (hl2.at 0 _ rfl).1
  have d1 : w2.cell? ⟨g, 1, none⟩ = some (.int .i64 n0) := (hl2.at 0 _ rfl).2.1
  have d2 : w2.cell? ⟨g, 2, none⟩ = some (.int .i64 p0) := (hl2.at 0 _ rfl).2.2
  have b3 : Box (w2.alloc (.cells #[.int .i64 k0, .int .i64 n0, .int .i64 p0] 40)).drew w2.heap.size #[.int .i64 k0, .int .i64 n0, .int .i64 p0] 40 := Box.new w2 #[.int .i64 k0, .int .i64 n0, .int .i64 p0] 40
  have b2' : Box (w2.alloc (.cells #[.int .i64 k0, .int .i64 n0, .int .i64 p0] 40)).drew w.heap.size #[.int .i64 36, .slice (some ⟨g, 0, none⟩) 2 c] 31 := b2.alloc (.cells #[.int .i64 k0, .int .i64 n0, .int .i64 p0] 40)
  have hB3 : Below w.heap.size w (w2.alloc (.cells #[.int .i64 k0, .int .i64 n0, .int .i64 p0] 40)).drew := (hB2.alloc hB2.size _).drew
  have l2 : w.heap.size < w2.heap.size := b2.lt
  have lg : g < w2.heap.size := hl2.1
  clear hb2 ha hl2
  go_wp2_with fail
  go_region
  go_wp2_with fail
  refine (hw _ hB3).mono ?_
  rintro e w4 ⟨rfl, hb4⟩
  have b4 := b3.kept hb4
  have e4 := b2'.kept hb4
  have hB4 : Below w.heap.size w w4 := bel_step hB3 hb4 hB3.size
  clear hb4 hw b3 b2' hB3 c0 c1 d0 d1 d2 b2 hB2
  go_wp2_with fail
  refine (hr _ hB4).mono ?_
  rintro e w5 ⟨rfl, hb5⟩
  have b5 := b4.kept hb5
  have e5 := e4.kept hb5
  have hB5 : Below w.heap.size w w5 := bel_step hB4 hb5 hB4.size
  clear hb5 hr b4 e4 hB4
  have c0 : w5.cell? ⟨w.heap.size, 0, none⟩ = some (.int .i64 36) := e5.cell 0
  have c1 : w5.cell? ⟨w.heap.size, 1, none⟩ = some (.slice (some ⟨g, 0, none⟩) 2 c) := e5.cell 1
  have a0 : w5.cell? ⟨w2.heap.size, 0, none⟩ = some (.int .i64 k0) := b5.cell 0
  have a1 : w5.cell? ⟨w2.heap.size, 1, none⟩ = some (.int .i64 n0) := b5.cell 1
  have a2 : w5.cell? ⟨w2.heap.size, 2, none⟩ = some (.int .i64 p0) := b5.cell 2
  have hl5 := HL.out.kept hB5
  have q0 : w5.cell? ⟨g, 3, none⟩ = some (.int .i64 k1) := (hl5.at 1 _ rfl).1
  have q1 : w5.cell? ⟨g, 4, none⟩ = some (.int .i64 n1) := (hl5.at 1 _ rfl).2.1
  have q2 : w5.cell? ⟨g, 5, none⟩ = some (.int .i64 p1) := (hl5.at 1 _ rfl).2.2
  have Q0 := Lib.hid (And.intro hl5.1 (fun w' (h : Below w5.heap.size w5 w') => (h.cell (p := ⟨g, 3, none⟩) hl5.1).trans q0))
  clear hl5 HL
  cases P with
  | true =>
    go_wp2
    go_ret
    exact ⟨rfl, hB5⟩
  | false =>
    go_wp2
    go_ret
    exact ⟨rfl, hB5⟩
set_option maxRecDepth 100000 in
set_option maxHeartbeats 1000000 in
theorem coil_i_37 (k0 n0 p0 k1 n1 p1 : Int) (g c : Nat) (hcap : 2 ≤ c ∧ c ≤ maxLen) (w : World) (hl : Lie w g 0 [(k0, n0, p0), (k1, n1, p1)]) (W R : Bool) (hW : (!([(k1, n1, p1)] : List Arg).any fun x => !wholeA x) = W) (hR : (!([(k1, n1, p1)] : List Arg).any fun x => !realA x) = R) (P : Bool) (hP : (k0 == 9) = P) 
    (ha : ∀ w', Below w.heap.size w w' → Calls Tryd.prog 31 #[.agg #[.int .i64 37, .slice (some ⟨g, 0, none⟩) 2 c]] w' fun e w'' => e = .returned (.bool true) ∧ Below w'.heap.size w' w'') : Calls Tryd.prog 15 #[.agg #[.int .i64 37, .slice (some ⟨g, 0, none⟩) 2 c]] w fun e w' => e = .returned (.bool (P && R)) ∧ Below w.heap.size w w' := by
  have hi := fun w => isCoilOp_any 37 w
  rw [show (decide ((21 : Int) ≤ 37) && decide ((37 : Int) ≤ 37)) = true from rfl] at hi
  have hmf := hmf_all
  have hw := fun w' (h : Below w.heap.size w w') => containsFunc_any 35 (fun x => !wholeA x) notWhole_test enters_notWhole g 3 1 (c - 1) [(k1, n1, p1)] rfl (by omega) w' ((hl.kept h).rest)
  have hr := fun w' (h : Below w.heap.size w w') => containsFunc_any 37 (fun x => !realA x) notReal_test enters_notReal g 3 1 (c - 1) [(k1, n1, p1)] rfl (by omega) w' ((hl.kept h).rest)
  generalize (([(k1, n1, p1)] : List Arg).any fun x => !wholeA x) = u at hw hW
  generalize (([(k1, n1, p1)] : List Arg).any fun x => !realA x) = v at hr hR
  subst hW hR
  have HL := Lib.hid hl
  obtain ⟨hcap, hcm⟩ := hcap
  clear hl
  go_enter Tryd.func15, Tryd.ntmps15
  go_wp2_with fail
  refine (hi _).mono ?_
  rintro e w1 ⟨rfl, rfl⟩
  clear hi
  go_wp2_with fail
  refine (ha _ (by repeat (first | exact Below.refl _ _ | assumption | refine Below.setCell ?_ (by first | (simp; done) | (simp; omega) | omega) _ | refine Below.alloc ?_ (by first | (simp; done) | (simp; omega) | omega) _ | refine Bx.bel_drewN ?_ _ | refine Below.drew ?_))).mono ?_
  rintro e w2 ⟨rfl, hb2⟩
  have b2 := (Box.new w #[.int .i64 37, .slice (some ⟨g, 0, none⟩) 2 c] 31).kept hb2
  have hB2 : Below w.heap.size w w2 := bel_step (by repeat (first | exact Below.refl _ _ | assumption | refine Below.setCell ?_ (by first | (simp; done) | (simp; omega) | omega) _ | refine Below.alloc ?_ (by first | (simp; done) | (simp; omega) | omega) _ | refine Bx.bel_drewN ?_ _ | refine Below.drew ?_)) hb2 (by simp)
  have c0 : w2.cell? ⟨w.heap.size, 0, none⟩ = some (.int .i64 37) := b2.cell 0
  have c1 : w2.cell? ⟨w.heap.size, 1, none⟩ = some (.slice (some ⟨g, 0, none⟩) 2 c) := b2.cell 1
  have hl2 := HL.out.kept hB2
  have d0 : w2.cell? ⟨g, 0, none⟩ = some (.int .i64 k0) := (hl2.at 0 _ rfl).1
  have d1 : w2.cell? ⟨g, 1, none⟩ = some (.int .i64 n0) := (hl2.at 0 _ rfl).2.1
  have d2 : w2.cell? ⟨g, 2, none⟩ = some (.int .i64 p0) := (hl2.at 0 _ rfl).2.2
  have b3 : Box (w2.alloc (.cells #[.int .i64 k0, .int .i64 n0, .int .i64 p0] 40)).drew w2.heap.size #[.int .i64 k0, .int .i64 n0, .int .i64 p0] 40 := Box.new w2 #[.int .i64 k0, .int .i64 n0, .int .i64 p0] 40
  have b2' : Box (w2.alloc (.cells #[.int .i64 k0, .int .i64 n0, .int .i64 p0] 40)).drew w.heap.size #[.int .i64 37, .slice (some ⟨g, 0, none⟩) 2 c] 31 := b2.alloc (.cells #[.int .i64 k0, .int .i64 n0, .int .i64 p0] 40)
  have hB3 : Below w.heap.size w (w2.alloc (.cells #[.int .i64 k0, .int .i64 n0, .int .i64 p0] 40)).drew := (hB2.alloc hB2.size _).drew
  have l2 : w.heap.size < w2.heap.size := b2.lt
  have lg : g < w2.heap.size := hl2.1
  clear hb2 ha hl2
  go_wp2_with fail
  go_region
  go_wp2_with fail
  refine (hw _ hB3).mono ?_
  rintro e w4 ⟨rfl, hb4⟩
  have b4 := b3.kept hb4
  have e4 := b2'.kept hb4
  have hB4 : Below w.heap.size w w4 := bel_step hB3 hb4 hB3.size
  clear hb4 hw b3 b2' hB3 c0 c1 d0 d1 d2 b2 hB2
  go_wp2_with fail
  refine (hr _ hB4).mono ?_
  rintro e w5 ⟨rfl, hb5⟩
  have b5 := b4.kept hb5
  have e5 := e4.kept hb5
  have hB5 : Below w.heap.size w w5 := bel_step hB4 hb5 hB4.size
  clear hb5 hr b4 e4 hB4
  have c0 : w5.cell? ⟨w.heap.size, 0, none⟩ = some (.int .i64 37) := e5.cell 0
  have c1 : w5.cell? ⟨w.heap.size, 1, none⟩ = some (.slice (some ⟨g, 0, none⟩) 2 c) := e5.cell 1
  have a0 : w5.cell? ⟨w2.heap.size, 0, none⟩ = some (.int .i64 k0) := b5.cell 0
  have a1 : w5.cell? ⟨w2.heap.size, 1, none⟩ = some (.int .i64 n0) := b5.cell 1
  have a2 : w5.cell? ⟨w2.heap.size, 2, none⟩ = some (.int .i64 p0) := b5.cell 2
  have hl5 := HL.out.kept hB5
  have q0 : w5.cell? ⟨g, 3, none⟩ = some (.int .i64 k1) := (hl5.at 1 _ rfl).1
  have q1 : w5.cell? ⟨g, 4, none⟩ = some (.int .i64 n1) := (hl5.at 1 _ rfl).2.1
  have q2 : w5.cell? ⟨g, 5, none⟩ = some (.int .i64 p1) := (hl5.at 1 _ rfl).2.2
  have Q0 := Lib.hid (And.intro hl5.1 (fun w' (h : Below w5.heap.size w5 w') => (h.cell (p := ⟨g, 3, none⟩) hl5.1).trans q0))
  clear hl5 HL
  cases P with
  | true =>
    go_wp2
    go_ret
    exact ⟨rfl, hB5⟩
  | false =>
    go_wp2
    go_ret
    exact ⟨rfl, hB5⟩
end Go.Proofs.YtmlpobecilbknaaDoor
