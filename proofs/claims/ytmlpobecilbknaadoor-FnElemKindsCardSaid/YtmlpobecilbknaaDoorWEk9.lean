/- The walk of FnElemKinds. -/
import Derived.Test.YtmlpobecilbknaaDoorRows
import Derived.Test.YtmlpobecilbknaaDoorWEk8
import Derived.Test.YtmlpobecilbknaaDoorWElem12
import Derived.WalkKit
import Derived.WalkSpells
import Derived.WalkLawsBesides
import Derived.OpenShut
import Derived.OwnWalk
import Derived.IntWalk
import Derived.Lib.Hide
import Derived.Deep.QuietTactic
import Derived.BigQuiet
import Derived.Deep.RegionHeld3
import Derived.Deep.RegionWith
import Derived.ChangeOld
import Derived.DataReads
namespace Go.Proofs.YtmlpobecilbknaaDoor
open Go.RowKit Bx Rdr ElemP ElemT
set_option linter.unusedVariables false

theorem EB6.arr {w : World} {a : Option Addr} {n c : Nat} (h : EB6 w a n c) : ∃ xs, Arr w a n c xs := by
  obtain ⟨h1, h2, h3, h4⟩ := h
  rcases h4 with h4 | ⟨b, e, hw⟩
  · exact ⟨[], h4, h1, h2, by omega, .inl rfl⟩
  · obtain ⟨xs, hx, hl⟩ := hw.lie
    exact ⟨xs, hx, h1, h2, by omega, .inr ⟨b, e, hl⟩⟩
theorem cname_some {op : Int} (h : 21 ≤ op ∧ op ≤ 37) : ((cname op).toList == []) = false := by
  have h3 : op = 21 ∨ op = 22 ∨ op = 23 ∨ op = 24 ∨ op = 25 ∨ op = 26 ∨ op = 27 ∨ op = 28 ∨ op = 29 ∨ op = 30 ∨ op = 31 ∨ op = 32 ∨ op = 33 ∨ op = 34 ∨ op = 35 ∨ op = 36 ∨ op = 37 := by omega
  rcases h3 with rfl | rfl | rfl | rfl | rfl | rfl | rfl | rfl | rfl | rfl | rfl | rfl | rfl | rfl | rfl | rfl | rfl <;> (rw [ByteArray.toList_eq]; rfl)
set_option maxRecDepth 100000 in
set_option maxHeartbeats 4000000 in
theorem FnElemKinds_big (a : Option Addr) (n c : Nat) (hn : 1048576 < n) (w : World) : Calls Tryd.prog 5 #[.slice a n c] w fun e w' => e = .returned (.bool true) ∧ Below w.heap.size w w' := by
  have d : decide ((1048576 : Int) < (n : Int)) = true := by simp; omega
  go_enter Tryd.func5, Tryd.ntmps5
  go_wp2
  go_ret
  exact ⟨rfl, by repeat (first | exact Below.refl _ _ | assumption | refine Below.setCell ?_ (by first | (simp; done) | (simp; omega) | omega) _ | refine Below.alloc ?_ (by first | (simp; done) | (simp; omega) | omega) _ | refine Bx.bel_drewN ?_ _ | refine Below.drew ?_)⟩
set_option maxRecDepth 100000 in
set_option maxHeartbeats 4000000 in
theorem FnElemKinds_small (aa : Option Addr) (m cp : Nat) (hm : m ≤ 1048576) (w : World) (hI : IsCode w aa m cp) (henv : EEnv w) : Calls Tryd.prog 5 #[.slice aa m cp] w fun e w' => e = .returned (.bool true) ∧ Below w.heap.size w w' := by
  have d : decide ((1048576 : Int) < (m : Int)) = false := by simp; omega
  have hdr := drawElem_any aa m cp w hI
  have HE := Lib.hid henv
  clear hI henv
  go_enter Tryd.func5, Tryd.ntmps5
  go_wp2_with fail
  refine hdr.mono ?_
  rintro e w1 ⟨op, a, n, c, rfl, hE, hB1⟩
  obtain ⟨xs, hX⟩ := hE.arr
  clear hE hdr
  have b2 := Box.new w1 #[.int .i64 op, .slice a n c] 31
  have hX2 : Arr (w1.alloc (.cells #[.int .i64 op, .slice a n c] 31)) a n c xs := hX.kept ((Below.refl _ _).alloc (Nat.le_refl _) _)
  have hB2 : Below w.heap.size w (w1.alloc (.cells #[.int .i64 op, .slice a n c] 31)) := hB1.alloc hB1.size _
  clear hX hB1
  have e2 : (w1.alloc (.cells #[.int .i64 op, .slice a n c] 31)).heap.size = w1.heap.size + 1 := by simp
  obtain ⟨w2, hw2⟩ : ∃ w2, w2 = w1.alloc (.cells #[.int .i64 op, .slice a n c] 31) := ⟨_, rfl⟩
  rw [← hw2] at b2 hX2 hB2 e2
  have HW := Lib.hid hw2
  clear hw2
  cases hA : contact op xs with
  | true =>
    have hB : coil op xs = false := not_both hA
    obtain ⟨hop, hlen, hok⟩ := contact_in hA
    have hnm : cname op = ⟨#[]⟩ := by unfold cname; rw [if_neg (by omega)]
    have hci : ∀ w', Arr w' a n c xs → Calls Tryd.prog 14 #[.agg #[.int .i64 op, .slice a n c]] w' fun e w'' => e = .returned (.bool true) ∧ Below w'.heap.size w' w'' := fun w' h => by have := contact_i_any op a n c xs w' h; rwa [hA] at this
    have hco : ∀ w', Arr w' a n c xs → Calls Tryd.prog 15 #[.agg #[.int .i64 op, .slice a n c]] w' fun e w'' => e = .returned (.bool false) ∧ Below w'.heap.size w' w'' := fun w' h => by have := coil_i_any op a n c xs w' h; rwa [hB] at this
    have hcs : ∀ w', Arr w' a n c xs → Calls Tryd.prog 16 #[.agg #[.int .i64 op, .slice a n c]] w' fun e w'' => e = .returned (.bool true) ∧ Below w'.heap.size w' w'' := fun w' h => by have := contact_s_any op a n c xs w' h; rwa [hA] at this
    have hks : ∀ w', Arr w' a n c xs → Calls Tryd.prog 17 #[.agg #[.int .i64 op, .slice a n c]] w' fun e w'' => e = .returned (.bool false) ∧ Below w'.heap.size w' w'' := fun w' h => by have := coil_s_any op a n c xs w' h; rwa [hB] at this
    clear hA hB
    go_wp2_with fail
    refine (hci _ (by rw [← HW.out]; exact hX2)).mono ?_
    rintro e w3 ⟨rfl, hb3⟩
    rw [← HW.out] at hb3
    have b3 := b2.kept hb3
    have hX3 := hX2.kept hb3
    have hB3 := bel_step hB2 hb3 hB2.size
    clear hb3 b2 hX2 hB2
    have c0 : w3.cell? ⟨w1.heap.size, 0, none⟩ = some (.int .i64 op) := (b3.cell 0).trans (by rfl)
    have c1 : w3.cell? ⟨w1.heap.size, 1, none⟩ = some (.slice a n c) := (b3.cell 1).trans (by rfl)
    go_wp2_with fail
    refine (hco _ hX3).mono ?_
    rintro e w4 ⟨rfl, hb4⟩
    have b4 := b3.kept hb4
    have hX4 := hX3.kept hb4
    have hB4 := bel_step hB3 hb4 hB3.size
    clear hb4 b3 hX3 hB3 c0 c1
    have c0 : w4.cell? ⟨w1.heap.size, 0, none⟩ = some (.int .i64 op) := (b4.cell 0).trans (by rfl)
    have c1 : w4.cell? ⟨w1.heap.size, 1, none⟩ = some (.slice a n c) := (b4.cell 1).trans (by rfl)
    go_wp2_with fail
    refine (hcs _ hX4).mono ?_
    rintro e w5 ⟨rfl, hb5⟩
    have b5 := b4.kept hb5
    have hX5 := hX4.kept hb5
    have hB5 := bel_step hB4 hb5 hB4.size
    clear hb5 b4 hX4 hB4 c0 c1
    have c0 : w5.cell? ⟨w1.heap.size, 0, none⟩ = some (.int .i64 op) := (b5.cell 0).trans (by rfl)
    have c1 : w5.cell? ⟨w1.heap.size, 1, none⟩ = some (.slice a n c) := (b5.cell 1).trans (by rfl)
    go_wp2_with fail
    refine (hks _ hX5).mono ?_
    rintro e w6 ⟨rfl, hb6⟩
    have b6 := b5.kept hb6
    have hX6 := hX5.kept hb6
    have hB6 := bel_step hB5 hb6 hB5.size
    clear hb6 b5 hX5 hB5 c0 c1
    have c0 : w6.cell? ⟨w1.heap.size, 0, none⟩ = some (.int .i64 op) := (b6.cell 0).trans (by rfl)
    have c1 : w6.cell? ⟨w1.heap.size, 1, none⟩ = some (.slice a n c) := (b6.cell 1).trans (by rfl)
    clear hci hco hcs hks
    have HOK := Lib.hid (And.intro hlen hok)
    clear hlen hok c0 c1
    go_wp2_with fail
    go_loopw [6] (fun i wr => ∃ k : Nat, k ≤ n ∧ i = .int .i64 k ∧ Box wr w1.heap.size #[.int .i64 op, .slice a n c] 31 ∧ Arr wr a n c xs ∧ Below w.heap.size w wr) (fun i _ => n - (intOf i).toNat)
    case atStart => exact ⟨0, by omega, rfl, b6, hX6, hB6⟩
    case round =>
      obtain ⟨k, hk, rfl, b7, hX7, hB7⟩ := hrel
      by_cases hlt : k < n
      · have hX7' := hX7
        obtain ⟨hn, _, _, _, hx⟩ := hX7'
        obtain ⟨z, hz⟩ : ∃ z, xs[k]? = some z := ⟨_, List.getElem?_eq_getElem (by omega)⟩
        have hzo := HOK.out.2 z (List.mem_of_getElem? hz)
        rcases hx with h0 | ⟨g0, rfl, hl⟩
        · rw [h0] at hz; simp at hz
        obtain ⟨q0, q1, q2⟩ := hl.at k z hz
        have hcz := fun w' => devOk_i_any z.1 z.2.1 z.2.2 w'
        have hzo2 : DevP.ok z.1 z.2.1 z.2.2 = true := hzo
        rw [hzo2] at hcz
        obtain ⟨z0, z1, z2⟩ := z
        simp only at q0 q1 q2 hcz
        have c1 : wr.cell? ⟨w1.heap.size, 1, none⟩ = some (.slice (some ⟨g0, 0, none⟩) n c) := (b7.cell 1).trans (by rfl)
        have d1 : (k : Int) < (n : Int) := by omega
        clear hz hl hzo hzo2 hn
        go_wp2_with fail
        refine (hcz _).mono ?_
        rintro e w8 ⟨rfl, hb8⟩
        have b8 := b7.kept hb8
        have hX8 := hX7.kept hb8
        have hB8 := bel_step hB7 hb8 hB7.size
        clear hcz hb8 b7 hX7 hB7 q0 q1 q2 c1
        go_wp2
        go_roundw
        case rel => exact ⟨k + 1, by omega, by go_num, b8, hX8, hB8⟩
        case measure => simp [intOf]; omega
      · obtain rfl : k = n := by omega
        have c0 : wr.cell? ⟨w1.heap.size, 0, none⟩ = some (.int .i64 op) := (b7.cell 0).trans (by rfl)
        have c1 : wr.cell? ⟨w1.heap.size, 1, none⟩ = some (.slice a k c) := (b7.cell 1).trans (by rfl)
        have hna : arity op = k := HOK.out.1.symm.trans hX7.1.symm
        have har : ∀ w, Calls Tryd.prog 19 #[.int .i64 op] w fun e w' => e = .returned (.int .i64 (k : Int)) ∧ w' = w := fun w => by have := arity_i_any op w; rwa [hna] at this
        have hnn := fun w' (hb : Below wr.heap.size wr w') => name_i_any op w' (HE.out.kept (bel_step hB7 hb hB7.size))
        rw [hnm] at hnn
        clear hnm
        clear hna hlt
        go_wp2_with fail
        have hS : ∀ w', Below wr.heap.size wr w' → (w'.cell? ⟨w1.heap.size, 0, none⟩ = some (.int .i64 op) ∧ w'.cell? ⟨w1.heap.size, 1, none⟩ = some (.slice a k c) ∧ Below wr.heap.size wr w') := fun w' hb => ⟨((b7.kept hb).cell 0).trans (by rfl), ((b7.kept hb).cell 1).trans (by rfl), hb⟩
        go_region_held3 (fun w' => w'.cell? ⟨w1.heap.size, 0, none⟩ = some (.int .i64 op) ∧ w'.cell? ⟨w1.heap.size, 1, none⟩ = some (.slice a k c) ∧ Below wr.heap.size wr w')
          (first | assumption | exact hS _ (Below.refl _ _).drew | (obtain ⟨_, _, hq⟩ := (by assumption : _ ∧ _ ∧ Below wr.heap.size wr _); exact hS _ (bel_step hq hbx hq.size)))
          (first | (go_at_call 19; refine (har _).mono ?_; rintro e w' ⟨rfl, rfl⟩) | (go_at_call 7; (with_reducible refine (hnn _ (by first | exact (Below.refl _ _).drew | exact (by assumption : _ ∧ _ ∧ Below wr.heap.size wr _).2.2)).mono ?_); rintro e w' ⟨rfl, hbx⟩))
        all_goals
          obtain ⟨_, _, hq⟩ := (by assumption : _ ∧ _ ∧ Below wr.heap.size wr _)
          have hB9 := bel_step hB7 hq hB7.size
          clear hq hS b7 hX7 hB7
          go_wp2
          go_ret
          exact ⟨rfl, hB9⟩
  | false =>
    cases hB : coil op xs with
    | true =>
      obtain ⟨hop, hlen, hok⟩ := coil_in hB
      have hnm : ((cname op).toList == []) = false := cname_some hop
      have hci : ∀ w', Arr w' a n c xs → Calls Tryd.prog 14 #[.agg #[.int .i64 op, .slice a n c]] w' fun e w'' => e = .returned (.bool false) ∧ Below w'.heap.size w' w'' := fun w' h => by have := contact_i_any op a n c xs w' h; rwa [hA] at this
      have hco : ∀ w', Arr w' a n c xs → Calls Tryd.prog 15 #[.agg #[.int .i64 op, .slice a n c]] w' fun e w'' => e = .returned (.bool true) ∧ Below w'.heap.size w' w'' := fun w' h => by have := coil_i_any op a n c xs w' h; rwa [hB] at this
      have hcs : ∀ w', Arr w' a n c xs → Calls Tryd.prog 16 #[.agg #[.int .i64 op, .slice a n c]] w' fun e w'' => e = .returned (.bool false) ∧ Below w'.heap.size w' w'' := fun w' h => by have := contact_s_any op a n c xs w' h; rwa [hA] at this
      have hks : ∀ w', Arr w' a n c xs → Calls Tryd.prog 17 #[.agg #[.int .i64 op, .slice a n c]] w' fun e w'' => e = .returned (.bool true) ∧ Below w'.heap.size w' w'' := fun w' h => by have := coil_s_any op a n c xs w' h; rwa [hB] at this
      clear hA hB
      go_wp2_with fail
      refine (hci _ (by rw [← HW.out]; exact hX2)).mono ?_
      rintro e w3 ⟨rfl, hb3⟩
      rw [← HW.out] at hb3
      have b3 := b2.kept hb3
      have hX3 := hX2.kept hb3
      have hB3 := bel_step hB2 hb3 hB2.size
      clear hb3 b2 hX2 hB2
      have c0 : w3.cell? ⟨w1.heap.size, 0, none⟩ = some (.int .i64 op) := (b3.cell 0).trans (by rfl)
      have c1 : w3.cell? ⟨w1.heap.size, 1, none⟩ = some (.slice a n c) := (b3.cell 1).trans (by rfl)
      go_wp2_with fail
      refine (hco _ hX3).mono ?_
      rintro e w4 ⟨rfl, hb4⟩
      have b4 := b3.kept hb4
      have hX4 := hX3.kept hb4
      have hB4 := bel_step hB3 hb4 hB3.size
      clear hb4 b3 hX3 hB3 c0 c1
      have c0 : w4.cell? ⟨w1.heap.size, 0, none⟩ = some (.int .i64 op) := (b4.cell 0).trans (by rfl)
      have c1 : w4.cell? ⟨w1.heap.size, 1, none⟩ = some (.slice a n c) := (b4.cell 1).trans (by rfl)
      go_wp2_with fail
      refine (hcs _ hX4).mono ?_
      rintro e w5 ⟨rfl, hb5⟩
      have b5 := b4.kept hb5
      have hX5 := hX4.kept hb5
      have hB5 := bel_step hB4 hb5 hB4.size
      clear hb5 b4 hX4 hB4 c0 c1
      have c0 : w5.cell? ⟨w1.heap.size, 0, none⟩ = some (.int .i64 op) := (b5.cell 0).trans (by rfl)
      have c1 : w5.cell? ⟨w1.heap.size, 1, none⟩ = some (.slice a n c) := (b5.cell 1).trans (by rfl)
      go_wp2_with fail
      refine (hks _ hX5).mono ?_
      rintro e w6 ⟨rfl, hb6⟩
      have b6 := b5.kept hb6
      have hX6 := hX5.kept hb6
      have hB6 := bel_step hB5 hb6 hB5.size
      clear hb6 b5 hX5 hB5 c0 c1
      have c0 : w6.cell? ⟨w1.heap.size, 0, none⟩ = some (.int .i64 op) := (b6.cell 0).trans (by rfl)
      have c1 : w6.cell? ⟨w1.heap.size, 1, none⟩ = some (.slice a n c) := (b6.cell 1).trans (by rfl)
      clear hci hco hcs hks
      have HOK := Lib.hid (And.intro hlen hok)
      clear hlen hok c0 c1
      go_wp2_with fail
      go_loopw [6] (fun i wr => ∃ k : Nat, k ≤ n ∧ i = .int .i64 k ∧ Box wr w1.heap.size #[.int .i64 op, .slice a n c] 31 ∧ Arr wr a n c xs ∧ Below w.heap.size w wr) (fun i _ => n - (intOf i).toNat)
      case atStart => exact ⟨0, by omega, rfl, b6, hX6, hB6⟩
      case round =>
        obtain ⟨k, hk, rfl, b7, hX7, hB7⟩ := hrel
        by_cases hlt : k < n
        · have hX7' := hX7
          obtain ⟨hn, _, _, _, hx⟩ := hX7'
          obtain ⟨z, hz⟩ : ∃ z, xs[k]? = some z := ⟨_, List.getElem?_eq_getElem (by omega)⟩
          have hzo := HOK.out.2 z (List.mem_of_getElem? hz)
          rcases hx with h0 | ⟨g0, rfl, hl⟩
          · rw [h0] at hz; simp at hz
          obtain ⟨q0, q1, q2⟩ := hl.at k z hz
          have hcz := fun w' => devOk_i_any z.1 z.2.1 z.2.2 w'
          have hzo2 : DevP.ok z.1 z.2.1 z.2.2 = true := hzo
          rw [hzo2] at hcz
          obtain ⟨z0, z1, z2⟩ := z
          simp only at q0 q1 q2 hcz
          have c1 : wr.cell? ⟨w1.heap.size, 1, none⟩ = some (.slice (some ⟨g0, 0, none⟩) n c) := (b7.cell 1).trans (by rfl)
          have d1 : (k : Int) < (n : Int) := by omega
          clear hz hl hzo hzo2 hn
          go_wp2_with fail
          refine (hcz _).mono ?_
          rintro e w8 ⟨rfl, hb8⟩
          have b8 := b7.kept hb8
          have hX8 := hX7.kept hb8
          have hB8 := bel_step hB7 hb8 hB7.size
          clear hcz hb8 b7 hX7 hB7 q0 q1 q2 c1
          go_wp2
          go_roundw
          case rel => exact ⟨k + 1, by omega, by go_num, b8, hX8, hB8⟩
          case measure => simp [intOf]; omega
        · obtain rfl : k = n := by omega
          have c0 : wr.cell? ⟨w1.heap.size, 0, none⟩ = some (.int .i64 op) := (b7.cell 0).trans (by rfl)
          have c1 : wr.cell? ⟨w1.heap.size, 1, none⟩ = some (.slice a k c) := (b7.cell 1).trans (by rfl)
          have hna : arity op = k := HOK.out.1.symm.trans hX7.1.symm
          have har : ∀ w, Calls Tryd.prog 19 #[.int .i64 op] w fun e w' => e = .returned (.int .i64 (k : Int)) ∧ w' = w := fun w => by have := arity_i_any op w; rwa [hna] at this
          have hnn := fun w' (hb : Below wr.heap.size wr w') => name_i_any op w' (HE.out.kept (bel_step hB7 hb hB7.size))
          generalize cname op = nm at hnn hnm
          clear hna hlt
          go_wp2_with fail
          have hS : ∀ w', Below wr.heap.size wr w' → (w'.cell? ⟨w1.heap.size, 0, none⟩ = some (.int .i64 op) ∧ w'.cell? ⟨w1.heap.size, 1, none⟩ = some (.slice a k c) ∧ Below wr.heap.size wr w') := fun w' hb => ⟨((b7.kept hb).cell 0).trans (by rfl), ((b7.kept hb).cell 1).trans (by rfl), hb⟩
          go_region_held3 (fun w' => w'.cell? ⟨w1.heap.size, 0, none⟩ = some (.int .i64 op) ∧ w'.cell? ⟨w1.heap.size, 1, none⟩ = some (.slice a k c) ∧ Below wr.heap.size wr w')
            (first | assumption | exact hS _ (Below.refl _ _).drew | (obtain ⟨_, _, hq⟩ := (by assumption : _ ∧ _ ∧ Below wr.heap.size wr _); exact hS _ (bel_step hq hbx hq.size)))
            (first | (go_at_call 19; refine (har _).mono ?_; rintro e w' ⟨rfl, rfl⟩) | (go_at_call 7; (with_reducible refine (hnn _ (by first | exact (Below.refl _ _).drew | exact (by assumption : _ ∧ _ ∧ Below wr.heap.size wr _).2.2)).mono ?_); rintro e w' ⟨rfl, hbx⟩))
          all_goals
            obtain ⟨_, _, hq⟩ := (by assumption : _ ∧ _ ∧ Below wr.heap.size wr _)
            have hB9 := bel_step hB7 hq hB7.size
            clear hq hS b7 hX7 hB7
            go_wp2
            go_ret
            exact ⟨rfl, hB9⟩
    | false =>
      have htx : etxt op xs = ⟨#[]⟩ := by unfold etxt; rw [hA, hB]; rfl
      have hci : ∀ w', Arr w' a n c xs → Calls Tryd.prog 14 #[.agg #[.int .i64 op, .slice a n c]] w' fun e w'' => e = .returned (.bool false) ∧ Below w'.heap.size w' w'' := fun w' h => by have := contact_i_any op a n c xs w' h; rwa [hA] at this
      have hco : ∀ w', Arr w' a n c xs → Calls Tryd.prog 15 #[.agg #[.int .i64 op, .slice a n c]] w' fun e w'' => e = .returned (.bool false) ∧ Below w'.heap.size w' w'' := fun w' h => by have := coil_i_any op a n c xs w' h; rwa [hB] at this
      have hcs : ∀ w', Arr w' a n c xs → Calls Tryd.prog 16 #[.agg #[.int .i64 op, .slice a n c]] w' fun e w'' => e = .returned (.bool false) ∧ Below w'.heap.size w' w'' := fun w' h => by have := contact_s_any op a n c xs w' h; rwa [hA] at this
      have hks : ∀ w', Arr w' a n c xs → Calls Tryd.prog 17 #[.agg #[.int .i64 op, .slice a n c]] w' fun e w'' => e = .returned (.bool false) ∧ Below w'.heap.size w' w'' := fun w' h => by have := coil_s_any op a n c xs w' h; rwa [hB] at this
      clear hA hB
      go_wp2_with fail
      refine (hci _ (by rw [← HW.out]; exact hX2)).mono ?_
      rintro e w3 ⟨rfl, hb3⟩
      rw [← HW.out] at hb3
      have b3 := b2.kept hb3
      have hX3 := hX2.kept hb3
      have hB3 := bel_step hB2 hb3 hB2.size
      clear hb3 b2 hX2 hB2
      have c0 : w3.cell? ⟨w1.heap.size, 0, none⟩ = some (.int .i64 op) := (b3.cell 0).trans (by rfl)
      have c1 : w3.cell? ⟨w1.heap.size, 1, none⟩ = some (.slice a n c) := (b3.cell 1).trans (by rfl)
      go_wp2_with fail
      refine (hco _ hX3).mono ?_
      rintro e w4 ⟨rfl, hb4⟩
      have b4 := b3.kept hb4
      have hX4 := hX3.kept hb4
      have hB4 := bel_step hB3 hb4 hB3.size
      clear hb4 b3 hX3 hB3 c0 c1
      have c0 : w4.cell? ⟨w1.heap.size, 0, none⟩ = some (.int .i64 op) := (b4.cell 0).trans (by rfl)
      have c1 : w4.cell? ⟨w1.heap.size, 1, none⟩ = some (.slice a n c) := (b4.cell 1).trans (by rfl)
      go_wp2_with fail
      refine (hcs _ hX4).mono ?_
      rintro e w5 ⟨rfl, hb5⟩
      have b5 := b4.kept hb5
      have hX5 := hX4.kept hb5
      have hB5 := bel_step hB4 hb5 hB4.size
      clear hb5 b4 hX4 hB4 c0 c1
      have c0 : w5.cell? ⟨w1.heap.size, 0, none⟩ = some (.int .i64 op) := (b5.cell 0).trans (by rfl)
      have c1 : w5.cell? ⟨w1.heap.size, 1, none⟩ = some (.slice a n c) := (b5.cell 1).trans (by rfl)
      go_wp2_with fail
      refine (hks _ hX5).mono ?_
      rintro e w6 ⟨rfl, hb6⟩
      have b6 := b5.kept hb6
      have hX6 := hX5.kept hb6
      have hB6 := bel_step hB5 hb6 hB5.size
      clear hb6 b5 hX5 hB5 c0 c1
      have c0 : w6.cell? ⟨w1.heap.size, 0, none⟩ = some (.int .i64 op) := (b6.cell 0).trans (by rfl)
      have c1 : w6.cell? ⟨w1.heap.size, 1, none⟩ = some (.slice a n c) := (b6.cell 1).trans (by rfl)
      clear hci hco hcs hks
      have htc := fun w' (hb : Below w6.heap.size w6 w') => elemText_i_any op a n c xs w' (hX6.kept hb) (HE.out.kept (bel_step hB6 hb hB6.size))
      rw [htx] at htc
      clear htx
      go_wp2_with fail
      refine (htc w6 (Below.refl _ _)).mono ?_
      rintro e w7 ⟨rfl, hb7⟩
      have hB7 := bel_step hB6 hb7 hB6.size
      clear htc hb7 b6 hX6 hB6 c0 c1
      go_wp2
      go_ret
      exact ⟨rfl, hB7⟩
theorem FnElemKinds_walk (a0 : Option Addr) (len0 cap0 : Nat) (z0 : List Int) (w : World) (w0 : IsRow .u8 w a0 len0 cap0 z0) (hL : laidMetH Tryd.prog Rows.fnElemKindsRow.laid w) : Calls Tryd.prog 5 #[.slice a0 len0 cap0] w fun e w' => e = .returned (.bool true) ∧ Below w.heap.size w w' := by
  by_cases h : len0 ≤ 1048576
  · exact FnElemKinds_small a0 len0 cap0 h w (isCode_of w0) (eenv_fnElemKinds hL)
  · exact FnElemKinds_big a0 len0 cap0 (by omega) w
end Go.Proofs.YtmlpobecilbknaaDoor
