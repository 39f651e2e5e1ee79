/- Operands searched; arity; argsOk. -/
import Derived.Test.YtmlpobecilbknaaDoorRows
import Derived.Test.YtmlpobecilbknaaDoorWDev2
import Derived.Test.YtmlpobecilbknaaDoorElemP
import Derived.WalkKit
import Derived.WalkSpells
import Derived.WalkLawsBesides
import Derived.OpenShut
import Derived.IntWalk
import Derived.Lib.Hide
import Derived.Deep.QuietTactic
import Derived.BigQuiet
namespace Go.Proofs.YtmlpobecilbknaaDoor
open Go.RowKit Bx ElemP
set_option linter.unusedVariables false

/-- operands that lie in the world, three cells each -/
def Lie (w : World) (g o : Nat) (xs : List Arg) : Prop := g < w.heap.size ∧ ∀ i x, xs[i]? = some x → w.cell? ⟨g, o + i * 3, none⟩ = some (.int .i64 x.1) ∧ w.cell? ⟨g, o + i * 3 + 1, none⟩ = some (.int .i64 x.2.1) ∧ w.cell? ⟨g, o + i * 3 + 2, none⟩ = some (.int .i64 x.2.2)
theorem Lie.below {w w' : World} {g o B : Nat} {xs : List Arg} (h : Lie w g o xs) (hb : Below B w w') (hB : g < B) (hs : B ≤ w.heap.size) : Lie w' g o xs :=
  ⟨Nat.lt_of_lt_of_le h.1 hb.size, fun i x hx => by obtain ⟨a, b, c⟩ := h.2 i x hx; exact ⟨(hb.cell (p := ⟨g, o + i * 3, none⟩) hB).trans a, (hb.cell (p := ⟨g, o + i * 3 + 1, none⟩) hB).trans b, (hb.cell (p := ⟨g, o + i * 3 + 2, none⟩) hB).trans c⟩⟩
theorem Lie.kept {w w' : World} {g o : Nat} {xs : List Arg} (h : Lie w g o xs) (hb : Below w.heap.size w w') : Lie w' g o xs := h.below hb h.1 (Nat.le_refl _)
theorem Lie.rest {w : World} {g o : Nat} {x : Arg} {xs : List Arg} (h : Lie w g o (x :: xs)) : Lie w g (o + 3) xs :=
  ⟨h.1, fun i y hy => by obtain ⟨a, b, c⟩ := h.2 (i + 1) y (by simpa using hy); rw [show o + (i + 1) * 3 = o + 3 + i * 3 by omega] at a b c; exact ⟨a, b, c⟩⟩
def aggA (x : Arg) : Value := .agg #[.int .i64 x.1, .int .i64 x.2.1, .int .i64 x.2.2]
/-- a test of operands -/
def Test (N : Nat) (F : Arg → Bool) : Prop := ∀ x w, Calls Tryd.prog N #[aggA x] w fun e w' => e = .returned (.bool (F x)) ∧ Below w.heap.size w w'
set_option maxRecDepth 100000 in
set_option maxHeartbeats 1000000 in
theorem notOk_test : Test 68 (fun x => !okA x) := by
  intro x w
  obtain ⟨a, b, d⟩ := x
  show Calls Tryd.prog 68 #[.agg #[.int .i64 a, .int .i64 b, .int .i64 d]] w fun e w' => e = .returned (.bool (!okA (a, b, d))) ∧ Below w.heap.size w w'
  have hc := fun w => devOk_i_any a b d w
  have hF : okA (a, b, d) = DevP.ok a b d := rfl
  rw [hF]
  generalize DevP.ok a b d = r at hc ⊢
  clear hF
  go_enter Tryd.func68, Tryd.ntmps68
  go_wp2_with fail
  refine (hc _).mono ?_
  rintro e w1 ⟨rfl, hb1⟩
  have hB1 : Below w.heap.size w w1 := bel_step (by repeat (first | exact Below.refl _ _ | assumption | refine Below.setCell ?_ (by first | (simp; done) | (simp; omega) | omega) _ | refine Below.alloc ?_ (by first | (simp; done) | (simp; omega) | omega) _ | refine Bx.bel_drewN ?_ _ | refine Below.drew ?_)) hb1 (by simp)
  clear hb1 hc
  go_wp2
  go_ret
  exact ⟨rfl, hB1⟩
set_option maxRecDepth 100000 in
set_option maxHeartbeats 1000000 in
theorem notWhole_test : Test 35 (fun x => !wholeA x) := by
  intro x w
  obtain ⟨a, b, d⟩ := x
  show Calls Tryd.prog 35 #[.agg #[.int .i64 a, .int .i64 b, .int .i64 d]] w fun e w' => e = .returned (.bool (!wholeA (a, b, d))) ∧ Below w.heap.size w w'
  have hc := fun w => devIsWhole_i_any a b d w
  have hF : wholeA (a, b, d) = DevP.isWhole a b d := rfl
  rw [hF]
  generalize DevP.isWhole a b d = r at hc ⊢
  clear hF
  go_enter Tryd.func35, Tryd.ntmps35
  go_wp2_with fail
  refine (hc _).mono ?_
  rintro e w1 ⟨rfl, hb1⟩
  have hB1 : Below w.heap.size w w1 := bel_step (by repeat (first | exact Below.refl _ _ | assumption | refine Below.setCell ?_ (by first | (simp; done) | (simp; omega) | omega) _ | refine Below.alloc ?_ (by first | (simp; done) | (simp; omega) | omega) _ | refine Bx.bel_drewN ?_ _ | refine Below.drew ?_)) hb1 (by simp)
  clear hb1 hc
  go_wp2
  go_ret
  exact ⟨rfl, hB1⟩
set_option maxRecDepth 100000 in
set_option maxHeartbeats 1000000 in
theorem notReal_test : Test 37 (fun x => !realA x) := by
  intro x w
  obtain ⟨a, b, d⟩ := x
  show Calls Tryd.prog 37 #[.agg #[.int .i64 a, .int .i64 b, .int .i64 d]] w fun e w' => e = .returned (.bool (!realA (a, b, d))) ∧ Below w.heap.size w w'
  have hc := fun w => devIsReal_i_any a b d w
  have hF : realA (a, b, d) = DevP.isReal a b d := rfl
  rw [hF]
  generalize DevP.isReal a b d = r at hc ⊢
  clear hF
  go_enter Tryd.func37, Tryd.ntmps37
  go_wp2_with fail
  refine (hc _).mono ?_
  rintro e w1 ⟨rfl, hb1⟩
  have hB1 : Below w.heap.size w w1 := bel_step (by repeat (first | exact Below.refl _ _ | assumption | refine Below.setCell ?_ (by first | (simp; done) | (simp; omega) | omega) _ | refine Below.alloc ?_ (by first | (simp; done) | (simp; omega) | omega) _ | refine Bx.bel_drewN ?_ _ | refine Below.drew ?_)) hb1 (by simp)
  clear hb1 hc
  go_wp2
  go_ret
  exact ⟨rfl, hB1⟩
def ixOf (F : Arg → Bool) : List Arg → Int
  | [] => -1
  | x :: xs => if F x = true then 0 else if ixOf F xs < 0 then -1 else ixOf F xs + 1
theorem ixOf_ge (F : Arg → Bool) : ∀ xs, -1 ≤ ixOf F xs
  | [] => by show (-1 : Int) ≤ -1; omega
  | x :: xs => by
    have h := ixOf_ge F xs
    show -1 ≤ (if F x = true then 0 else if ixOf F xs < 0 then -1 else ixOf F xs + 1 : Int)
    split
    · omega
    · split <;> omega
theorem ixOf_any (F : Arg → Bool) : ∀ xs : List Arg, decide (0 ≤ ixOf F xs) = xs.any F
  | [] => rfl
  | x :: xs => by
    have h := ixOf_any F xs
    have := ixOf_ge F xs
    rw [List.any_cons, ← h]
    show decide (0 ≤ (if F x = true then 0 else if ixOf F xs < 0 then -1 else ixOf F xs + 1 : Int)) = _
    cases hx : F x with
    | true => simp
    | false => simp only [Bool.false_eq_true, if_false, Bool.false_or]; split <;> simp <;> omega
theorem ixOf_hit (F : Arg → Bool) (x : Arg) (ys : List Arg) (hx : F x = true) : ∀ xs : List Arg, (∀ y ∈ xs, F y = false) → ixOf F (xs ++ x :: ys) = (xs.length : Int)
  | [], _ => by simp [ixOf, hx]
  | z :: zs, h => by
    have := ixOf_hit F x ys hx zs (fun y hy => h y (List.mem_cons_of_mem _ hy))
    have hz := h z List.mem_cons_self
    simp only [List.cons_append, ixOf, hz, Bool.false_eq_true, if_false, this, List.length_cons]
    rw [if_neg (by omega)]; omega
theorem ixOf_miss (F : Arg → Bool) : ∀ xs : List Arg, (∀ y ∈ xs, F y = false) → ixOf F xs = -1
  | [], _ => rfl
  | z :: zs, h => by
    have := ixOf_miss F zs (fun y hy => h y (List.mem_cons_of_mem _ hy))
    have hz := h z List.mem_cons_self
    simp only [ixOf, hz, Bool.false_eq_true, if_false, this]
    rfl
theorem mem_take_succ {F : Arg → Bool} {xs : List Arg} {k : Nat} {x : Arg} (hx : xs[k]? = some x) (hF : F x = false) (h : ∀ y ∈ xs.take k, F y = false) : ∀ y ∈ xs.take (k + 1), F y = false := by
  intro y hy
  rw [List.take_add_one, hx] at hy
  rcases List.mem_append.1 hy with h1 | h1
  · exact h y h1
  · simp at h1; rw [h1]; exact hF
set_option maxRecDepth 100000 in
set_option maxHeartbeats 1000000 in
theorem indexFunc_any (N : Nat) (F : Arg → Bool) (hT : Test N F) (eN : ∀ args w, (callFunc N args).run Tryd.prog w = .ok (.enter N args) w) (g o n c : Nat) (xs : List Arg) (hn : n = xs.length) (h3 : n ≤ 1048576) (w : World) (hl : Lie w g o xs) :
    Calls Tryd.prog 69 #[.slice (some ⟨g, o, none⟩) n c, .func (.func N) #[] #[]] w fun e w' => e = .returned (.int .i64 (ixOf F xs)) ∧ Below w.heap.size w w' := by
  have HN := Lib.hid hn
  have HT := Lib.hid hT
  have HL := Lib.hid hl
  clear hn hT hl
  go_enter Tryd.func69, Tryd.ntmps69
  go_wp2_with fail
  go_loopw [5, 8] (fun _ i wr => ∃ k : Nat, k ≤ n ∧ i = .int .i64 k ∧ (∀ y ∈ xs.take k, F y = false) ∧ Below w.heap.size w wr) (fun _ i _ => n - (intOf i).toNat)
  case atStart => exact ⟨0, by omega, rfl, by simp, Below.refl _ _⟩
  case round =>
    obtain ⟨k, hk, rfl, hno, hbel⟩ := hrel
    have HO := Lib.hid hno
    clear hno
    by_cases hlt : k < n
    · obtain ⟨x, hx⟩ : ∃ x, xs[k]? = some x := ⟨_, List.getElem?_eq_getElem (by have := HN.out; omega)⟩
      have hl := HL.out.kept hbel
      obtain ⟨d0, d1, d2⟩ := hl.2 k x hx
      have HX := Lib.hid hx
      obtain ⟨x0, x1, x2⟩ := x
      simp only at d0 d1 d2
      clear hx hl
      go_wp2_with fail
      refine (HT.out (x0, x1, x2) wr).mono ?_
      rintro e w1 ⟨rfl, hb1⟩
      have hB1 : Below w.heap.size w w1 := bel_step hbel hb1 hbel.size
      clear hb1 hbel d0 d1 d2
      cases hF : F (x0, x1, x2) with
      | true =>
        have HF := Lib.hid hF
        clear hF
        go_wp2
        go_ret
        refine ⟨?_, hB1⟩
        have hd : xs = xs.take k ++ (x0, x1, x2) :: xs.drop (k + 1) := by
          have hk2 : k < xs.length := by have := HN.out; omega
          have he : xs[k] = (x0, x1, x2) := by have := HX.out; rw [List.getElem?_eq_getElem hk2] at this; exact Option.some.inj this
          rw [← he, ← List.drop_eq_getElem_cons hk2, List.take_append_drop]
        have hi := ixOf_hit F (x0, x1, x2) (xs.drop (k + 1)) HF.out (xs.take k) HO.out
        rw [← hd, List.length_take, Nat.min_eq_left (by have := HN.out; omega)] at hi
        rw [hi]; rfl
      | false =>
        have HF := Lib.hid hF
        clear hF
        go_wp2
        go_roundw
        case rel => exact ⟨k + 1, by omega, by go_num, mem_take_succ HX.out HF.out HO.out, hB1⟩
        case measure => simp [intOf]; omega
    · obtain rfl : k = n := by omega
      go_wp2
      go_ret
      refine ⟨?_, hbel⟩
      have ht : xs.take k = xs := List.take_of_length_le (by have := HN.out; omega)
      rw [ixOf_miss F xs (by have := HO.out; rwa [ht] at this)]
      rfl
set_option maxRecDepth 100000 in
set_option maxHeartbeats 1000000 in
theorem containsFunc_any (N : Nat) (F : Arg → Bool) (hT : Test N F) (eN : ∀ args w, (callFunc N args).run Tryd.prog w = .ok (.enter N args) w) (g o n c : Nat) (xs : List Arg) (hn : n = xs.length) (h3 : n ≤ 1048576) (w : World) (hl : Lie w g o xs) :
    Calls Tryd.prog 34 #[.slice (some ⟨g, o, none⟩) n c, .func (.func N) #[] #[]] w fun e w' => e = .returned (.bool (xs.any F)) ∧ Below w.heap.size w w' := by
  rw [← ixOf_any F xs]
  have hi := indexFunc_any N F hT eN g o n c xs hn h3 w hl
  generalize ixOf F xs = r at hi ⊢
  clear hT eN hl hn
  go_enter Tryd.func34, Tryd.ntmps34
  go_wp2_with fail
  refine hi.mono ?_
  rintro e w1 ⟨rfl, hb1⟩
  clear hi
  go_wp2
  go_ret
  exact ⟨rfl, hb1⟩
theorem era_ix0 (w : World) : (Instr.index 55 (.agg #[.int .i64 1, .int .i64 1, .int .i64 2, .int .i64 2, .int .i64 2, .int .i64 2, .int .i64 2, .int .i64 2, .int .i64 2, .int .i64 2]) (.int .i64 0)).run Tryd.prog w = .ok (.int .i64 1) w := by kernel_rfl
theorem era_ix1 (w : World) : (Instr.index 55 (.agg #[.int .i64 1, .int .i64 1, .int .i64 2, .int .i64 2, .int .i64 2, .int .i64 2, .int .i64 2, .int .i64 2, .int .i64 2, .int .i64 2]) (.int .i64 1)).run Tryd.prog w = .ok (.int .i64 1) w := by kernel_rfl
theorem era_ix2 (w : World) : (Instr.index 55 (.agg #[.int .i64 1, .int .i64 1, .int .i64 2, .int .i64 2, .int .i64 2, .int .i64 2, .int .i64 2, .int .i64 2, .int .i64 2, .int .i64 2]) (.int .i64 2)).run Tryd.prog w = .ok (.int .i64 2) w := by kernel_rfl
theorem era_ix3 (w : World) : (Instr.index 55 (.agg #[.int .i64 1, .int .i64 1, .int .i64 2, .int .i64 2, .int .i64 2, .int .i64 2, .int .i64 2, .int .i64 2, .int .i64 2, .int .i64 2]) (.int .i64 3)).run Tryd.prog w = .ok (.int .i64 2) w := by kernel_rfl
theorem era_ix4 (w : World) : (Instr.index 55 (.agg #[.int .i64 1, .int .i64 1, .int .i64 2, .int .i64 2, .int .i64 2, .int .i64 2, .int .i64 2, .int .i64 2, .int .i64 2, .int .i64 2]) (.int .i64 4)).run Tryd.prog w = .ok (.int .i64 2) w := by kernel_rfl
theorem era_ix5 (w : World) : (Instr.index 55 (.agg #[.int .i64 1, .int .i64 1, .int .i64 2, .int .i64 2, .int .i64 2, .int .i64 2, .int .i64 2, .int .i64 2, .int .i64 2, .int .i64 2]) (.int .i64 5)).run Tryd.prog w = .ok (.int .i64 2) w := by kernel_rfl
theorem era_ix6 (w : World) : (Instr.index 55 (.agg #[.int .i64 1, .int .i64 1, .int .i64 2, .int .i64 2, .int .i64 2, .int .i64 2, .int .i64 2, .int .i64 2, .int .i64 2, .int .i64 2]) (.int .i64 6)).run Tryd.prog w = .ok (.int .i64 2) w := by kernel_rfl
theorem era_ix7 (w : World) : (Instr.index 55 (.agg #[.int .i64 1, .int .i64 1, .int .i64 2, .int .i64 2, .int .i64 2, .int .i64 2, .int .i64 2, .int .i64 2, .int .i64 2, .int .i64 2]) (.int .i64 7)).run Tryd.prog w = .ok (.int .i64 2) w := by kernel_rfl
theorem era_ix8 (w : World) : (Instr.index 55 (.agg #[.int .i64 1, .int .i64 1, .int .i64 2, .int .i64 2, .int .i64 2, .int .i64 2, .int .i64 2, .int .i64 2, .int .i64 2, .int .i64 2]) (.int .i64 8)).run Tryd.prog w = .ok (.int .i64 2) w := by kernel_rfl
theorem era_ix9 (w : World) : (Instr.index 55 (.agg #[.int .i64 1, .int .i64 1, .int .i64 2, .int .i64 2, .int .i64 2, .int .i64 2, .int .i64 2, .int .i64 2, .int .i64 2, .int .i64 2]) (.int .i64 9)).run Tryd.prog w = .ok (.int .i64 2) w := by kernel_rfl
theorem erb_ix0 (w : World) : (Instr.index 56 (.agg #[.int .i64 1, .int .i64 1, .int .i64 1, .int .i64 2, .int .i64 1, .int .i64 2, .int .i64 2, .int .i64 2, .int .i64 2, .int .i64 2, .int .i64 3, .int .i64 3, .int .i64 3, .int .i64 3, .int .i64 3, .int .i64 2, .int .i64 2]) (.int .i64 0)).run Tryd.prog w = .ok (.int .i64 1) w := by kernel_rfl
theorem erb_ix1 (w : World) : (Instr.index 56 (.agg #[.int .i64 1, .int .i64 1, .int .i64 1, .int .i64 2, .int .i64 1, .int .i64 2, .int .i64 2, .int .i64 2, .int .i64 2, .int .i64 2, .int .i64 3, .int .i64 3, .int .i64 3, .int .i64 3, .int .i64 3, .int .i64 2, .int .i64 2]) (.int .i64 1)).run Tryd.prog w = .ok (.int .i64 1) w := by kernel_rfl
theorem erb_ix2 (w : World) : (Instr.index 56 (.agg #[.int .i64 1, .int .i64 1, .int .i64 1, .int .i64 2, .int .i64 1, .int .i64 2, .int .i64 2, .int .i64 2, .int .i64 2, .int .i64 2, .int .i64 3, .int .i64 3, .int .i64 3, .int .i64 3, .int .i64 3, .int .i64 2, .int .i64 2]) (.int .i64 2)).run Tryd.prog w = .ok (.int .i64 1) w := by kernel_rfl
theorem erb_ix3 (w : World) : (Instr.index 56 (.agg #[.int .i64 1, .int .i64 1, .int .i64 1, .int .i64 2, .int .i64 1, .int .i64 2, .int .i64 2, .int .i64 2, .int .i64 2, .int .i64 2, .int .i64 3, .int .i64 3, .int .i64 3, .int .i64 3, .int .i64 3, .int .i64 2, .int .i64 2]) (.int .i64 3)).run Tryd.prog w = .ok (.int .i64 2) w := by kernel_rfl
theorem erb_ix4 (w : World) : (Instr.index 56 (.agg #[.int .i64 1, .int .i64 1, .int .i64 1, .int .i64 2, .int .i64 1, .int .i64 2, .int .i64 2, .int .i64 2, .int .i64 2, .int .i64 2, .int .i64 3, .int .i64 3, .int .i64 3, .int .i64 3, .int .i64 3, .int .i64 2, .int .i64 2]) (.int .i64 4)).run Tryd.prog w = .ok (.int .i64 1) w := by kernel_rfl
theorem erb_ix5 (w : World) : (Instr.index 56 (.agg #[.int .i64 1, .int .i64 1, .int .i64 1, .int .i64 2, .int .i64 1, .int .i64 2, .int .i64 2, .int .i64 2, .int .i64 2, .int .i64 2, .int .i64 3, .int .i64 3, .int .i64 3, .int .i64 3, .int .i64 3, .int .i64 2, .int .i64 2]) (.int .i64 5)).run Tryd.prog w = .ok (.int .i64 2) w := by kernel_rfl
theorem erb_ix6 (w : World) : (Instr.index 56 (.agg #[.int .i64 1, .int .i64 1, .int .i64 1, .int .i64 2, .int .i64 1, .int .i64 2, .int .i64 2, .int .i64 2, .int .i64 2, .int .i64 2, .int .i64 3, .int .i64 3, .int .i64 3, .int .i64 3, .int .i64 3, .int .i64 2, .int .i64 2]) (.int .i64 6)).run Tryd.prog w = .ok (.int .i64 2) w := by kernel_rfl
theorem erb_ix7 (w : World) : (Instr.index 56 (.agg #[.int .i64 1, .int .i64 1, .int .i64 1, .int .i64 2, .int .i64 1, .int .i64 2, .int .i64 2, .int .i64 2, .int .i64 2, .int .i64 2, .int .i64 3, .int .i64 3, .int .i64 3, .int .i64 3, .int .i64 3, .int .i64 2, .int .i64 2]) (.int .i64 7)).run Tryd.prog w = .ok (.int .i64 2) w := by kernel_rfl
theorem erb_ix8 (w : World) : (Instr.index 56 (.agg #[.int .i64 1, .int .i64 1, .int .i64 1, .int .i64 2, .int .i64 1, .int .i64 2, .int .i64 2, .int .i64 2, .int .i64 2, .int .i64 2, .int .i64 3, .int .i64 3, .int .i64 3, .int .i64 3, .int .i64 3, .int .i64 2, .int .i64 2]) (.int .i64 8)).run Tryd.prog w = .ok (.int .i64 2) w := by kernel_rfl
theorem erb_ix9 (w : World) : (Instr.index 56 (.agg #[.int .i64 1, .int .i64 1, .int .i64 1, .int .i64 2, .int .i64 1, .int .i64 2, .int .i64 2, .int .i64 2, .int .i64 2, .int .i64 2, .int .i64 3, .int .i64 3, .int .i64 3, .int .i64 3, .int .i64 3, .int .i64 2, .int .i64 2]) (.int .i64 9)).run Tryd.prog w = .ok (.int .i64 2) w := by kernel_rfl
theorem erb_ix10 (w : World) : (Instr.index 56 (.agg #[.int .i64 1, .int .i64 1, .int .i64 1, .int .i64 2, .int .i64 1, .int .i64 2, .int .i64 2, .int .i64 2, .int .i64 2, .int .i64 2, .int .i64 3, .int .i64 3, .int .i64 3, .int .i64 3, .int .i64 3, .int .i64 2, .int .i64 2]) (.int .i64 10)).run Tryd.prog w = .ok (.int .i64 3) w := by kernel_rfl
theorem erb_ix11 (w : World) : (Instr.index 56 (.agg #[.int .i64 1, .int .i64 1, .int .i64 1, .int .i64 2, .int .i64 1, .int .i64 2, .int .i64 2, .int .i64 2, .int .i64 2, .int .i64 2, .int .i64 3, .int .i64 3, .int .i64 3, .int .i64 3, .int .i64 3, .int .i64 2, .int .i64 2]) (.int .i64 11)).run Tryd.prog w = .ok (.int .i64 3) w := by kernel_rfl
theorem erb_ix12 (w : World) : (Instr.index 56 (.agg #[.int .i64 1, .int .i64 1, .int .i64 1, .int .i64 2, .int .i64 1, .int .i64 2, .int .i64 2, .int .i64 2, .int .i64 2, .int .i64 2, .int .i64 3, .int .i64 3, .int .i64 3, .int .i64 3, .int .i64 3, .int .i64 2, .int .i64 2]) (.int .i64 12)).run Tryd.prog w = .ok (.int .i64 3) w := by kernel_rfl
theorem erb_ix13 (w : World) : (Instr.index 56 (.agg #[.int .i64 1, .int .i64 1, .int .i64 1, .int .i64 2, .int .i64 1, .int .i64 2, .int .i64 2, .int .i64 2, .int .i64 2, .int .i64 2, .int .i64 3, .int .i64 3, .int .i64 3, .int .i64 3, .int .i64 3, .int .i64 2, .int .i64 2]) (.int .i64 13)).run Tryd.prog w = .ok (.int .i64 3) w := by kernel_rfl
theorem erb_ix14 (w : World) : (Instr.index 56 (.agg #[.int .i64 1, .int .i64 1, .int .i64 1, .int .i64 2, .int .i64 1, .int .i64 2, .int .i64 2, .int .i64 2, .int .i64 2, .int .i64 2, .int .i64 3, .int .i64 3, .int .i64 3, .int .i64 3, .int .i64 3, .int .i64 2, .int .i64 2]) (.int .i64 14)).run Tryd.prog w = .ok (.int .i64 3) w := by kernel_rfl
theorem erb_ix15 (w : World) : (Instr.index 56 (.agg #[.int .i64 1, .int .i64 1, .int .i64 1, .int .i64 2, .int .i64 1, .int .i64 2, .int .i64 2, .int .i64 2, .int .i64 2, .int .i64 2, .int .i64 3, .int .i64 3, .int .i64 3, .int .i64 3, .int .i64 3, .int .i64 2, .int .i64 2]) (.int .i64 15)).run Tryd.prog w = .ok (.int .i64 2) w := by kernel_rfl
theorem erb_ix16 (w : World) : (Instr.index 56 (.agg #[.int .i64 1, .int .i64 1, .int .i64 1, .int .i64 2, .int .i64 1, .int .i64 2, .int .i64 2, .int .i64 2, .int .i64 2, .int .i64 2, .int .i64 3, .int .i64 3, .int .i64 3, .int .i64 3, .int .i64 3, .int .i64 2, .int .i64 2]) (.int .i64 16)).run Tryd.prog w = .ok (.int .i64 2) w := by kernel_rfl
set_option maxRecDepth 100000 in
set_option maxHeartbeats 1000000 in
theorem arity_s_low (op : Int) (h0 : op < 1) (w : World) : Calls Tryd.prog 41 #[.int .i64 op] w fun e w' => e = .returned (.int .i64 0) ∧ w' = w := by
  have : decide ((1 : Int) ≤ op) = false := by simp; omega
  have : decide (op ≤ (10 : Int)) = true := by simp; omega
  have : decide ((21 : Int) ≤ op) = false := by simp; omega
  have : decide (op ≤ (37 : Int)) = true := by simp; omega
  go_enter Tryd.func41, Tryd.ntmps41
  go_wp2
  go_ret
  exact ⟨rfl, rfl⟩
set_option maxRecDepth 100000 in
set_option maxHeartbeats 1000000 in
theorem arity_s_mid (op : Int) (h0 : 10 < op) (h1 : op < 21) (w : World) : Calls Tryd.prog 41 #[.int .i64 op] w fun e w' => e = .returned (.int .i64 0) ∧ w' = w := by
  have : decide ((1 : Int) ≤ op) = true := by simp; omega
  have : decide (op ≤ (10 : Int)) = false := by simp; omega
  have : decide ((21 : Int) ≤ op) = false := by simp; omega
  have : decide (op ≤ (37 : Int)) = true := by simp; omega
  go_enter Tryd.func41, Tryd.ntmps41
  go_wp2
  go_ret
  exact ⟨rfl, rfl⟩
set_option maxRecDepth 100000 in
set_option maxHeartbeats 1000000 in
theorem arity_s_high (op : Int) (h0 : 37 < op) (w : World) : Calls Tryd.prog 41 #[.int .i64 op] w fun e w' => e = .returned (.int .i64 0) ∧ w' = w := by
  have : decide ((1 : Int) ≤ op) = true := by simp; omega
  have : decide (op ≤ (10 : Int)) = false := by simp; omega
  have : decide ((21 : Int) ≤ op) = true := by simp; omega
  have : decide (op ≤ (37 : Int)) = false := by simp; omega
  go_enter Tryd.func41, Tryd.ntmps41
  go_wp2
  go_ret
  exact ⟨rfl, rfl⟩
set_option maxRecDepth 100000 in
set_option maxHeartbeats 1000000 in
theorem arity_s_1  (w : World) : Calls Tryd.prog 41 #[.int .i64 1] w fun e w' => e = .returned (.int .i64 1) ∧ w' = w := by
  go_enter Tryd.func41, Tryd.ntmps41
  go_wp2
  go_ret
  exact ⟨rfl, rfl⟩
set_option maxRecDepth 100000 in
set_option maxHeartbeats 1000000 in
theorem arity_s_2  (w : World) : Calls Tryd.prog 41 #[.int .i64 2] w fun e w' => e = .returned (.int .i64 1) ∧ w' = w := by
  go_enter Tryd.func41, Tryd.ntmps41
  go_wp2
  go_ret
  exact ⟨rfl, rfl⟩
set_option maxRecDepth 100000 in
set_option maxHeartbeats 1000000 in
theorem arity_s_3  (w : World) : Calls Tryd.prog 41 #[.int .i64 3] w fun e w' => e = .returned (.int .i64 2) ∧ w' = w := by
  go_enter Tryd.func41, Tryd.ntmps41
  go_wp2
  go_ret
  exact ⟨rfl, rfl⟩
set_option maxRecDepth 100000 in
set_option maxHeartbeats 1000000 in
theorem arity_s_4  (w : World) : Calls Tryd.prog 41 #[.int .i64 4] w fun e w' => e = .returned (.int .i64 2) ∧ w' = w := by
  go_enter Tryd.func41, Tryd.ntmps41
  go_wp2
  go_ret
  exact ⟨rfl, rfl⟩
set_option maxRecDepth 100000 in
set_option maxHeartbeats 1000000 in
theorem arity_s_5  (w : World) : Calls Tryd.prog 41 #[.int .i64 5] w fun e w' => e = .returned (.int .i64 2) ∧ w' = w := by
  go_enter Tryd.func41, Tryd.ntmps41
  go_wp2
  go_ret
  exact ⟨rfl, rfl⟩
set_option maxRecDepth 100000 in
set_option maxHeartbeats 1000000 in
theorem arity_s_6  (w : World) : Calls Tryd.prog 41 #[.int .i64 6] w fun e w' => e = .returned (.int .i64 2) ∧ w' = w := by
  go_enter Tryd.func41, Tryd.ntmps41
  go_wp2
  go_ret
  exact ⟨rfl, rfl⟩
set_option maxRecDepth 100000 in
set_option maxHeartbeats 1000000 in
theorem arity_s_7  (w : World) : Calls Tryd.prog 41 #[.int .i64 7] w fun e w' => e = .returned (.int .i64 2) ∧ w' = w := by
  go_enter Tryd.func41, Tryd.ntmps41
  go_wp2
  go_ret
  exact ⟨rfl, rfl⟩
set_option maxRecDepth 100000 in
set_option maxHeartbeats 1000000 in
theorem arity_s_8  (w : World) : Calls Tryd.prog 41 #[.int .i64 8] w fun e w' => e = .returned (.int .i64 2) ∧ w' = w := by
  go_enter Tryd.func41, Tryd.ntmps41
  go_wp2
  go_ret
  exact ⟨rfl, rfl⟩
set_option maxRecDepth 100000 in
set_option maxHeartbeats 1000000 in
theorem arity_s_9  (w : World) : Calls Tryd.prog 41 #[.int .i64 9] w fun e w' => e = .returned (.int .i64 2) ∧ w' = w := by
  go_enter Tryd.func41, Tryd.ntmps41
  go_wp2
  go_ret
  exact ⟨rfl, rfl⟩
set_option maxRecDepth 100000 in
set_option maxHeartbeats 1000000 in
theorem arity_s_10  (w : World) : Calls Tryd.prog 41 #[.int .i64 10] w fun e w' => e = .returned (.int .i64 2) ∧ w' = w := by
  go_enter Tryd.func41, Tryd.ntmps41
  go_wp2
  go_ret
  exact ⟨rfl, rfl⟩
set_option maxRecDepth 100000 in
set_option maxHeartbeats 1000000 in
theorem arity_s_21  (w : World) : Calls Tryd.prog 41 #[.int .i64 21] w fun e w' => e = .returned (.int .i64 1) ∧ w' = w := by
  go_enter Tryd.func41, Tryd.ntmps41
  go_wp2
  go_ret
  exact ⟨rfl, rfl⟩
set_option maxRecDepth 100000 in
set_option maxHeartbeats 1000000 in
theorem arity_s_22  (w : World) : Calls Tryd.prog 41 #[.int .i64 22] w fun e w' => e = .returned (.int .i64 1) ∧ w' = w := by
  go_enter Tryd.func41, Tryd.ntmps41
  go_wp2
  go_ret
  exact ⟨rfl, rfl⟩
set_option maxRecDepth 100000 in
set_option maxHeartbeats 1000000 in
theorem arity_s_23  (w : World) : Calls Tryd.prog 41 #[.int .i64 23] w fun e w' => e = .returned (.int .i64 1) ∧ w' = w := by
  go_enter Tryd.func41, Tryd.ntmps41
  go_wp2
  go_ret
  exact ⟨rfl, rfl⟩
set_option maxRecDepth 100000 in
set_option maxHeartbeats 1000000 in
theorem arity_s_24  (w : World) : Calls Tryd.prog 41 #[.int .i64 24] w fun e w' => e = .returned (.int .i64 2) ∧ w' = w := by
  go_enter Tryd.func41, Tryd.ntmps41
  go_wp2
  go_ret
  exact ⟨rfl, rfl⟩
set_option maxRecDepth 100000 in
set_option maxHeartbeats 1000000 in
theorem arity_s_25  (w : World) : Calls Tryd.prog 41 #[.int .i64 25] w fun e w' => e = .returned (.int .i64 1) ∧ w' = w := by
  go_enter Tryd.func41, Tryd.ntmps41
  go_wp2
  go_ret
  exact ⟨rfl, rfl⟩
set_option maxRecDepth 100000 in
set_option maxHeartbeats 1000000 in
theorem arity_s_26  (w : World) : Calls Tryd.prog 41 #[.int .i64 26] w fun e w' => e = .returned (.int .i64 2) ∧ w' = w := by
  go_enter Tryd.func41, Tryd.ntmps41
  go_wp2
  go_ret
  exact ⟨rfl, rfl⟩
set_option maxRecDepth 100000 in
set_option maxHeartbeats 1000000 in
theorem arity_s_27  (w : World) : Calls Tryd.prog 41 #[.int .i64 27] w fun e w' => e = .returned (.int .i64 2) ∧ w' = w := by
  go_enter Tryd.func41, Tryd.ntmps41
  go_wp2
  go_ret
  exact ⟨rfl, rfl⟩
set_option maxRecDepth 100000 in
set_option maxHeartbeats 1000000 in
theorem arity_s_28  (w : World) : Calls Tryd.prog 41 #[.int .i64 28] w fun e w' => e = .returned (.int .i64 2) ∧ w' = w := by
  go_enter Tryd.func41, Tryd.ntmps41
  go_wp2
  go_ret
  exact ⟨rfl, rfl⟩
set_option maxRecDepth 100000 in
set_option maxHeartbeats 1000000 in
theorem arity_s_29  (w : World) : Calls Tryd.prog 41 #[.int .i64 29] w fun e w' => e = .returned (.int .i64 2) ∧ w' = w := by
  go_enter Tryd.func41, Tryd.ntmps41
  go_wp2
  go_ret
  exact ⟨rfl, rfl⟩
set_option maxRecDepth 100000 in
set_option maxHeartbeats 1000000 in
theorem arity_s_30  (w : World) : Calls Tryd.prog 41 #[.int .i64 30] w fun e w' => e = .returned (.int .i64 2) ∧ w' = w := by
  go_enter Tryd.func41, Tryd.ntmps41
  go_wp2
  go_ret
  exact ⟨rfl, rfl⟩
set_option maxRecDepth 100000 in
set_option maxHeartbeats 1000000 in
theorem arity_s_31  (w : World) : Calls Tryd.prog 41 #[.int .i64 31] w fun e w' => e = .returned (.int .i64 3) ∧ w' = w := by
  go_enter Tryd.func41, Tryd.ntmps41
  go_wp2
  go_ret
  exact ⟨rfl, rfl⟩
set_option maxRecDepth 100000 in
set_option maxHeartbeats 1000000 in
theorem arity_s_32  (w : World) : Calls Tryd.prog 41 #[.int .i64 32] w fun e w' => e = .returned (.int .i64 3) ∧ w' = w := by
  go_enter Tryd.func41, Tryd.ntmps41
  go_wp2
  go_ret
  exact ⟨rfl, rfl⟩
set_option maxRecDepth 100000 in
set_option maxHeartbeats 1000000 in
theorem arity_s_33  (w : World) : Calls Tryd.prog 41 #[.int .i64 33] w fun e w' => e = .returned (.int .i64 3) ∧ w' = w := by
  go_enter Tryd.func41, Tryd.ntmps41
  go_wp2
  go_ret
  exact ⟨rfl, rfl⟩
set_option maxRecDepth 100000 in
set_option maxHeartbeats 1000000 in
theorem arity_s_34  (w : World) : Calls Tryd.prog 41 #[.int .i64 34] w fun e w' => e = .returned (.int .i64 3) ∧ w' = w := by
  go_enter Tryd.func41, Tryd.ntmps41
  go_wp2
  go_ret
  exact ⟨rfl, rfl⟩
set_option maxRecDepth 100000 in
set_option maxHeartbeats 1000000 in
theorem arity_s_35  (w : World) : Calls Tryd.prog 41 #[.int .i64 35] w fun e w' => e = .returned (.int .i64 3) ∧ w' = w := by
  go_enter Tryd.func41, Tryd.ntmps41
  go_wp2
  go_ret
  exact ⟨rfl, rfl⟩
set_option maxRecDepth 100000 in
set_option maxHeartbeats 1000000 in
theorem arity_s_36  (w : World) : Calls Tryd.prog 41 #[.int .i64 36] w fun e w' => e = .returned (.int .i64 2) ∧ w' = w := by
  go_enter Tryd.func41, Tryd.ntmps41
  go_wp2
  go_ret
  exact ⟨rfl, rfl⟩
set_option maxRecDepth 100000 in
set_option maxHeartbeats 1000000 in
theorem arity_s_37  (w : World) : Calls Tryd.prog 41 #[.int .i64 37] w fun e w' => e = .returned (.int .i64 2) ∧ w' = w := by
  go_enter Tryd.func41, Tryd.ntmps41
  go_wp2
  go_ret
  exact ⟨rfl, rfl⟩
theorem arity_s_any (op : Int) (w : World) : Calls Tryd.prog 41 #[.int .i64 op] w fun e w' => e = .returned (.int .i64 (arity op : Nat)) ∧ w' = w := by
  by_cases h1 : op < 1
  · rw [show arity op = 0 by unfold arity; rw [if_neg (by omega), if_neg (by omega), if_neg (by omega)]]; exact arity_s_low op h1 w
  by_cases h2 : 37 < op
  · rw [show arity op = 0 by unfold arity; rw [if_neg (by omega), if_neg (by omega), if_neg (by omega)]]; exact arity_s_high op h2 w
  by_cases h3 : 10 < op ∧ op < 21
  · rw [show arity op = 0 by unfold arity; rw [if_neg (by omega), if_neg (by omega), if_neg (by omega)]]; exact arity_s_mid op h3.1 h3.2 w
  have hk : op = 1 ∨ op = 2 ∨ op = 3 ∨ op = 4 ∨ op = 5 ∨ op = 6 ∨ op = 7 ∨ op = 8 ∨ op = 9 ∨ op = 10 ∨ op = 21 ∨ op = 22 ∨ op = 23 ∨ op = 24 ∨ op = 25 ∨ op = 26 ∨ op = 27 ∨ op = 28 ∨ op = 29 ∨ op = 30 ∨ op = 31 ∨ op = 32 ∨ op = 33 ∨ op = 34 ∨ op = 35 ∨ op = 36 ∨ op = 37 := by omega
  rcases hk with rfl | rfl | rfl | rfl | rfl | rfl | rfl | rfl | rfl | rfl | rfl | rfl | rfl | rfl | rfl | rfl | rfl | rfl | rfl | rfl | rfl | rfl | rfl | rfl | rfl | rfl | rfl
  · exact arity_s_1 w
  · exact arity_s_2 w
  · exact arity_s_3 w
  · exact arity_s_4 w
  · exact arity_s_5 w
  · exact arity_s_6 w
  · exact arity_s_7 w
  · exact arity_s_8 w
  · exact arity_s_9 w
  · exact arity_s_10 w
  · exact arity_s_21 w
  · exact arity_s_22 w
  · exact arity_s_23 w
  · exact arity_s_24 w
  · exact arity_s_25 w
  · exact arity_s_26 w
  · exact arity_s_27 w
  · exact arity_s_28 w
  · exact arity_s_29 w
  · exact arity_s_30 w
  · exact arity_s_31 w
  · exact arity_s_32 w
  · exact arity_s_33 w
  · exact arity_s_34 w
  · exact arity_s_35 w
  · exact arity_s_36 w
  · exact arity_s_37 w
set_option maxRecDepth 100000 in
set_option maxHeartbeats 1000000 in
theorem arity_i_low (op : Int) (h0 : op < 1) (w : World) : Calls Tryd.prog 19 #[.int .i64 op] w fun e w' => e = .returned (.int .i64 0) ∧ w' = w := by
  have : decide ((1 : Int) ≤ op) = false := by simp; omega
  have : decide (op ≤ (10 : Int)) = true := by simp; omega
  have : decide ((21 : Int) ≤ op) = false := by simp; omega
  have : decide (op ≤ (37 : Int)) = true := by simp; omega
  go_enter Tryd.func19, Tryd.ntmps19
  go_wp2
  go_ret
  exact ⟨rfl, rfl⟩
set_option maxRecDepth 100000 in
set_option maxHeartbeats 1000000 in
theorem arity_i_mid (op : Int) (h0 : 10 < op) (h1 : op < 21) (w : World) : Calls Tryd.prog 19 #[.int .i64 op] w fun e w' => e = .returned (.int .i64 0) ∧ w' = w := by
  have : decide ((1 : Int) ≤ op) = true := by simp; omega
  have : decide (op ≤ (10 : Int)) = false := by simp; omega
  have : decide ((21 : Int) ≤ op) = false := by simp; omega
  have : decide (op ≤ (37 : Int)) = true := by simp; omega
  go_enter Tryd.func19, Tryd.ntmps19
  go_wp2
  go_ret
  exact ⟨rfl, rfl⟩
set_option maxRecDepth 100000 in
set_option maxHeartbeats 1000000 in
theorem arity_i_high (op : Int) (h0 : 37 < op) (w : World) : Calls Tryd.prog 19 #[.int .i64 op] w fun e w' => e = .returned (.int .i64 0) ∧ w' = w := by
  have : decide ((1 : Int) ≤ op) = true := by simp; omega
  have : decide (op ≤ (10 : Int)) = false := by simp; omega
  have : decide ((21 : Int) ≤ op) = true := by simp; omega
  have : decide (op ≤ (37 : Int)) = false := by simp; omega
  go_enter Tryd.func19, Tryd.ntmps19
  go_wp2
  go_ret
  exact ⟨rfl, rfl⟩
set_option maxRecDepth 100000 in
set_option maxHeartbeats 1000000 in
theorem arity_i_1  (w : World) : Calls Tryd.prog 19 #[.int .i64 1] w fun e w' => e = .returned (.int .i64 1) ∧ w' = w := by
  have ix := era_ix0
  go_enter Tryd.func19, Tryd.ntmps19
  go_wp2
  go_ret
  exact ⟨rfl, rfl⟩
set_option maxRecDepth 100000 in
set_option maxHeartbeats 1000000 in
theorem arity_i_2  (w : World) : Calls Tryd.prog 19 #[.int .i64 2] w fun e w' => e = .returned (.int .i64 1) ∧ w' = w := by
  have ix := era_ix1
  go_enter Tryd.func19, Tryd.ntmps19
  go_wp2
  go_ret
  exact ⟨rfl, rfl⟩
set_option maxRecDepth 100000 in
set_option maxHeartbeats 1000000 in
theorem arity_i_3  (w : World) : Calls Tryd.prog 19 #[.int .i64 3] w fun e w' => e = .returned (.int .i64 2) ∧ w' = w := by
  have ix := era_ix2
  go_enter Tryd.func19, Tryd.ntmps19
  go_wp2
  go_ret
  exact ⟨rfl, rfl⟩
set_option maxRecDepth 100000 in
set_option maxHeartbeats 1000000 in
theorem arity_i_4  (w : World) : Calls Tryd.prog 19 #[.int .i64 4] w fun e w' => e = .returned (.int .i64 2) ∧ w' = w := by
  have ix := era_ix3
  go_enter Tryd.func19, Tryd.ntmps19
  go_wp2
  go_ret
  exact ⟨rfl, rfl⟩
set_option maxRecDepth 100000 in
set_option maxHeartbeats 1000000 in
theorem arity_i_5  (w : World) : Calls Tryd.prog 19 #[.int .i64 5] w fun e w' => e = .returned (.int .i64 2) ∧ w' = w := by
  have ix := era_ix4
  go_enter Tryd.func19, Tryd.ntmps19
  go_wp2
  go_ret
  exact ⟨rfl, rfl⟩
set_option maxRecDepth 100000 in
set_option maxHeartbeats 1000000 in
theorem arity_i_6  (w : World) : Calls Tryd.prog 19 #[.int .i64 6] w fun e w' => e = .returned (.int .i64 2) ∧ w' = w := by
  have ix := era_ix5
  go_enter Tryd.func19, Tryd.ntmps19
  go_wp2
  go_ret
  exact ⟨rfl, rfl⟩
set_option maxRecDepth 100000 in
set_option maxHeartbeats 1000000 in
theorem arity_i_7  (w : World) : Calls Tryd.prog 19 #[.int .i64 7] w fun e w' => e = .returned (.int .i64 2) ∧ w' = w := by
  have ix := era_ix6
  go_enter Tryd.func19, Tryd.ntmps19
  go_wp2
  go_ret
  exact ⟨rfl, rfl⟩
set_option maxRecDepth 100000 in
set_option maxHeartbeats 1000000 in
theorem arity_i_8  (w : World) : Calls Tryd.prog 19 #[.int .i64 8] w fun e w' => e = .returned (.int .i64 2) ∧ w' = w := by
  have ix := era_ix7
  go_enter Tryd.func19, Tryd.ntmps19
  go_wp2
  go_ret
  exact ⟨rfl, rfl⟩
set_option maxRecDepth 100000 in
set_option maxHeartbeats 1000000 in
theorem arity_i_9  (w : World) : Calls Tryd.prog 19 #[.int .i64 9] w fun e w' => e = .returned (.int .i64 2) ∧ w' = w := by
  have ix := era_ix8
  go_enter Tryd.func19, Tryd.ntmps19
  go_wp2
  go_ret
  exact ⟨rfl, rfl⟩
set_option maxRecDepth 100000 in
set_option maxHeartbeats 1000000 in
theorem arity_i_10  (w : World) : Calls Tryd.prog 19 #[.int .i64 10] w fun e w' => e = .returned (.int .i64 2) ∧ w' = w := by
  have ix := era_ix9
  go_enter Tryd.func19, Tryd.ntmps19
  go_wp2
  go_ret
  exact ⟨rfl, rfl⟩
set_option maxRecDepth 100000 in
set_option maxHeartbeats 1000000 in
theorem arity_i_21  (w : World) : Calls Tryd.prog 19 #[.int .i64 21] w fun e w' => e = .returned (.int .i64 1) ∧ w' = w := by
  have ix := erb_ix0
  go_enter Tryd.func19, Tryd.ntmps19
  go_wp2
  go_ret
  exact ⟨rfl, rfl⟩
set_option maxRecDepth 100000 in
set_option maxHeartbeats 1000000 in
theorem arity_i_22  (w : World) : Calls Tryd.prog 19 #[.int .i64 22] w fun e w' => e = .returned (.int .i64 1) ∧ w' = w := by
  have ix := erb_ix1
  go_enter Tryd.func19, Tryd.ntmps19
  go_wp2
  go_ret
  exact ⟨rfl, rfl⟩
set_option maxRecDepth 100000 in
set_option maxHeartbeats 1000000 in
theorem arity_i_23  (w : World) : Calls Tryd.prog 19 #[.int .i64 23] w fun e w' => e = .returned (.int .i64 1) ∧ w' = w := by
  have ix := erb_ix2
  go_enter Tryd.func19, Tryd.ntmps19
  go_wp2
  go_ret
  exact ⟨rfl, rfl⟩
set_option maxRecDepth 100000 in
set_option maxHeartbeats 1000000 in
theorem arity_i_24  (w : World) : Calls Tryd.prog 19 #[.int .i64 24] w fun e w' => e = .returned (.int .i64 2) ∧ w' = w := by
  have ix := erb_ix3
  go_enter Tryd.func19, Tryd.ntmps19
  go_wp2
  go_ret
  exact ⟨rfl, rfl⟩
set_option maxRecDepth 100000 in
set_option maxHeartbeats 1000000 in
theorem arity_i_25  (w : World) : Calls Tryd.prog 19 #[.int .i64 25] w fun e w' => e = .returned (.int .i64 1) ∧ w' = w := by
  have ix := erb_ix4
  go_enter Tryd.func19, Tryd.ntmps19
  go_wp2
  go_ret
  exact ⟨rfl, rfl⟩
set_option maxRecDepth 100000 in
set_option maxHeartbeats 1000000 in
theorem arity_i_26  (w : World) : Calls Tryd.prog 19 #[.int .i64 26] w fun e w' => e = .returned (.int .i64 2) ∧ w' = w := by
  have ix := erb_ix5
  go_enter Tryd.func19, Tryd.ntmps19
  go_wp2
  go_ret
  exact ⟨rfl, rfl⟩
set_option maxRecDepth 100000 in
set_option maxHeartbeats 1000000 in
theorem arity_i_27  (w : World) : Calls Tryd.prog 19 #[.int .i64 27] w fun e w' => e = .returned (.int .i64 2) ∧ w' = w := by
  have ix := erb_ix6
  go_enter Tryd.func19, Tryd.ntmps19
  go_wp2
  go_ret
  exact ⟨rfl, rfl⟩
set_option maxRecDepth 100000 in
set_option maxHeartbeats 1000000 in
theorem arity_i_28  (w : World) : Calls Tryd.prog 19 #[.int .i64 28] w fun e w' => e = .returned (.int .i64 2) ∧ w' = w := by
  have ix := erb_ix7
  go_enter Tryd.func19, Tryd.ntmps19
  go_wp2
  go_ret
  exact ⟨rfl, rfl⟩
set_option maxRecDepth 100000 in
set_option maxHeartbeats 1000000 in
theorem arity_i_29  (w : World) : Calls Tryd.prog 19 #[.int .i64 29] w fun e w' => e = .returned (.int .i64 2) ∧ w' = w := by
  have ix := erb_ix8
  go_enter Tryd.func19, Tryd.ntmps19
  go_wp2
  go_ret
  exact ⟨rfl, rfl⟩
set_option maxRecDepth 100000 in
set_option maxHeartbeats 1000000 in
theorem arity_i_30  (w : World) : Calls Tryd.prog 19 #[.int .i64 30] w fun e w' => e = .returned (.int .i64 2) ∧ w' = w := by
  have ix := erb_ix9
  go_enter Tryd.func19, Tryd.ntmps19
  go_wp2
  go_ret
  exact ⟨rfl, rfl⟩
set_option maxRecDepth 100000 in
set_option maxHeartbeats 1000000 in
theorem arity_i_31  (w : World) : Calls Tryd.prog 19 #[.int .i64 31] w fun e w' => e = .returned (.int .i64 3) ∧ w' = w := by
  have ix := erb_ix10
  go_enter Tryd.func19, Tryd.ntmps19
  go_wp2
  go_ret
  exact ⟨rfl, rfl⟩
set_option maxRecDepth 100000 in
set_option maxHeartbeats 1000000 in
theorem arity_i_32  (w : World) : Calls Tryd.prog 19 #[.int .i64 32] w fun e w' => e = .returned (.int .i64 3) ∧ w' = w := by
  have ix := erb_ix11
  go_enter Tryd.func19, Tryd.ntmps19
  go_wp2
  go_ret
  exact ⟨rfl, rfl⟩
set_option maxRecDepth 100000 in
set_option maxHeartbeats 1000000 in
theorem arity_i_33  (w : World) : Calls Tryd.prog 19 #[.int .i64 33] w fun e w' => e = .returned (.int .i64 3) ∧ w' = w := by
  have ix := erb_ix12
  go_enter Tryd.func19, Tryd.ntmps19
  go_wp2
  go_ret
  exact ⟨rfl, rfl⟩
set_option maxRecDepth 100000 in
set_option maxHeartbeats 1000000 in
theorem arity_i_34  (w : World) : Calls Tryd.prog 19 #[.int .i64 34] w fun e w' => e = .returned (.int .i64 3) ∧ w' = w := by
  have ix := erb_ix13
  go_enter Tryd.func19, Tryd.ntmps19
  go_wp2
  go_ret
  exact ⟨rfl, rfl⟩
set_option maxRecDepth 100000 in
set_option maxHeartbeats 1000000 in
theorem arity_i_35  (w : World) : Calls Tryd.prog 19 #[.int .i64 35] w fun e w' => e = .returned (.int .i64 3) ∧ w' = w := by
  have ix := erb_ix14
  go_enter Tryd.func19, Tryd.ntmps19
  go_wp2
  go_ret
  exact ⟨rfl, rfl⟩
set_option maxRecDepth 100000 in
set_option maxHeartbeats 1000000 in
theorem arity_i_36  (w : World) : Calls Tryd.prog 19 #[.int .i64 36] w fun e w' => e = .returned (.int .i64 2) ∧ w' = w := by
  have ix := erb_ix15
  go_enter Tryd.func19, Tryd.ntmps19
  go_wp2
  go_ret
  exact ⟨rfl, rfl⟩
set_option maxRecDepth 100000 in
set_option maxHeartbeats 1000000 in
theorem arity_i_37  (w : World) : Calls Tryd.prog 19 #[.int .i64 37] w fun e w' => e = .returned (.int .i64 2) ∧ w' = w := by
  have ix := erb_ix16
  go_enter Tryd.func19, Tryd.ntmps19
  go_wp2
  go_ret
  exact ⟨rfl, rfl⟩
theorem arity_i_any (op : Int) (w : World) : Calls Tryd.prog 19 #[.int .i64 op] w fun e w' => e = .returned (.int .i64 (arity op : Nat)) ∧ w' = w := by
  by_cases h1 : op < 1
  · rw [show arity op = 0 by unfold arity; rw [if_neg (by omega), if_neg (by omega), if_neg (by omega)]]; exact arity_i_low op h1 w
  by_cases h2 : 37 < op
  · rw [show arity op = 0 by unfold arity; rw [if_neg (by omega), if_neg (by omega), if_neg (by omega)]]; exact arity_i_high op h2 w
  by_cases h3 : 10 < op ∧ op < 21
  · rw [show arity op = 0 by unfold arity; rw [if_neg (by omega), if_neg (by omega), if_neg (by omega)]]; exact arity_i_mid op h3.1 h3.2 w
  have hk : op = 1 ∨ op = 2 ∨ op = 3 ∨ op = 4 ∨ op = 5 ∨ op = 6 ∨ op = 7 ∨ op = 8 ∨ op = 9 ∨ op = 10 ∨ op = 21 ∨ op = 22 ∨ op = 23 ∨ op = 24 ∨ op = 25 ∨ op = 26 ∨ op = 27 ∨ op = 28 ∨ op = 29 ∨ op = 30 ∨ op = 31 ∨ op = 32 ∨ op = 33 ∨ op = 34 ∨ op = 35 ∨ op = 36 ∨ op = 37 := by omega
  rcases hk with rfl | rfl | rfl | rfl | rfl | rfl | rfl | rfl | rfl | rfl | rfl | rfl | rfl | rfl | rfl | rfl | rfl | rfl | rfl | rfl | rfl | rfl | rfl | rfl | rfl | rfl | rfl
  · exact arity_i_1 w
  · exact arity_i_2 w
  · exact arity_i_3 w
  · exact arity_i_4 w
  · exact arity_i_5 w
  · exact arity_i_6 w
  · exact arity_i_7 w
  · exact arity_i_8 w
  · exact arity_i_9 w
  · exact arity_i_10 w
  · exact arity_i_21 w
  · exact arity_i_22 w
  · exact arity_i_23 w
  · exact arity_i_24 w
  · exact arity_i_25 w
  · exact arity_i_26 w
  · exact arity_i_27 w
  · exact arity_i_28 w
  · exact arity_i_29 w
  · exact arity_i_30 w
  · exact arity_i_31 w
  · exact arity_i_32 w
  · exact arity_i_33 w
  · exact arity_i_34 w
  · exact arity_i_35 w
  · exact arity_i_36 w
  · exact arity_i_37 w
end Go.Proofs.YtmlpobecilbknaaDoor
