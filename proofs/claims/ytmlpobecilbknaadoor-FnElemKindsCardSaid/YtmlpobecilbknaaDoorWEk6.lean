/- Rows of operands that are appended to and stored in. -/
import Derived.Test.YtmlpobecilbknaaDoorRows
import Derived.Test.YtmlpobecilbknaaDoorWElem6
import Derived.Test.YtmlpobecilbknaaDoorWDArg2
import Derived.WalkKit
import Derived.WalkSpells
import Derived.WalkLawsBesides
import Derived.OpenShut
import Derived.OwnWalk
import Derived.IntWalk
import Derived.Lib.Hide
import Derived.Deep.QuietTactic
import Derived.BigQuiet
import Derived.Deep.Upon
import Derived.Deep.AppendLies
namespace Go.Proofs.YtmlpobecilbknaaDoor
open Go.RowKit Bx Rdr ElemP
set_option linter.unusedVariables false

/-- the cells of n operands at a block -/
def Whole3 (w : World) (b n : Nat) : Prop := b < w.heap.size ∧ ∀ i, i < n * 3 → ∃ z : Int, w.cell? ⟨b, i, none⟩ = some (.int .i64 z)
theorem Whole3.of_lie {w : World} {b : Nat} {xs : List Arg} (h : Lie w b 0 xs) : Whole3 w b xs.length := by
  refine ⟨h.1, fun i hi => ?_⟩
  obtain ⟨k, r, hr, rfl⟩ : ∃ k r, r < 3 ∧ i = k * 3 + r := ⟨i / 3, i % 3, by omega, by omega⟩
  have hk : k < xs.length := by omega
  obtain ⟨a, b, c⟩ := h.2 k xs[k] (List.getElem?_eq_getElem hk)
  rw [Nat.zero_add] at a b c
  have h3 : r = 0 ∨ r = 1 ∨ r = 2 := by omega
  rcases h3 with rfl | rfl | rfl
  · exact ⟨_, a⟩
  · exact ⟨_, b⟩
  · exact ⟨_, c⟩
theorem Whole3.lie {w : World} {b n : Nat} (h : Whole3 w b n) : ∃ xs : List Arg, n = xs.length ∧ Lie w b 0 xs := by
  have h2 : ∀ i, ∃ z : Int, i < n * 3 → w.cell? ⟨b, i, none⟩ = some (.int .i64 z) := by
    intro i
    by_cases hi : i < n * 3
    · obtain ⟨z, hz⟩ := h.2 i hi; exact ⟨z, fun _ => hz⟩
    · exact ⟨0, fun h => absurd h hi⟩
  obtain ⟨f, hf⟩ := Classical.axiomOfChoice h2
  refine ⟨(List.range n).map (fun k => (f (k * 3), f (k * 3 + 1), f (k * 3 + 2))), by simp, h.1, fun i x hx => ?_⟩
  have hi : i < n := by have := (List.getElem?_eq_some_iff.1 hx).1; simpa using this
  obtain rfl : (f (i * 3), f (i * 3 + 1), f (i * 3 + 2)) = x := by simpa [hi] using hx
  simp only [Nat.zero_add]
  exact ⟨hf _ (by omega), hf _ (by omega), hf _ (by omega)⟩
theorem Whole3.same {w w' : World} {b n : Nat} (h : Whole3 w b n) (hs : w.heap.size ≤ w'.heap.size) (hb : w'.heap[b]? = w.heap[b]?) : Whole3 w' b n :=
  ⟨Nat.lt_of_lt_of_le h.1 hs, fun i hi => by obtain ⟨z, hz⟩ := h.2 i hi; exact ⟨z, (World.cell?_of_block hb).trans hz⟩⟩
theorem Whole3.alloc {w : World} {b n : Nat} (h : Whole3 w b n) (o : Obj) : Whole3 (w.alloc o) b n := h.same (by simp) (Below.heap_alloc w o b h.1)
theorem Whole3.far {w : World} {b n : Nat} (h : Whole3 w b n) {p : Addr} (hp : b ≠ p.block) (u : Value) : Whole3 (w.setCell p u) b n := h.same (by simp [World.setCell]) (Below.heap_setCell w p u b hp)
theorem Whole3.only {w w' : World} {g b n : Nat} (h : Whole3 w b n) (ho : Only g w w') (hne : b ≠ g) : Whole3 w' b n := h.same ho.size (ho.block b h.1 (by simp; exact hne))
theorem Whole3.grown {w w' : World} {row : Option Nat} {b n : Nat} (h : Whole3 w b n) (ho : w.grownBy w' row) (hne : some b ≠ row) : Whole3 w' b n := h.same ho.size (ho.block b h.1 hne)
theorem Whole3.box {w : World} {b n : Nat} {cs : Array Value} {t : TypeId} (h : Box w b cs t) (hc : ∀ i, i < n * 3 → ∃ z : Int, cs[i]? = some (.int .i64 z)) : Whole3 w b n :=
  ⟨h.lt, fun i hi => by obtain ⟨z, hz⟩ := hc i hi; exact ⟨z, (h.cell i).trans hz⟩⟩
/-- a row of the call's own that holds n operands -/
def Row3 (base : Nat) (w : World) (b n c : Nat) : Prop := ∃ zs : List Int, w.ownsRow base 40 3 (.slice (some ⟨b, 0, none⟩) n c) n (zs.map (Value.int .i64))
section
variable {w w' : World} {base b n c g : Nat}
theorem Row3.lt (h : Row3 base w b n c) : base ≤ b ∧ b < w.heap.size := by obtain ⟨zs, h⟩ := h; exact World.ownsRow.lt h b rfl
theorem Row3.whole (h : Row3 base w b n c) : Whole3 w b n := by
  refine ⟨h.lt.2, fun i hi => ?_⟩
  obtain ⟨zs, h⟩ := h
  have hl : zs.length = n * 3 := by simpa using h.1
  rw [World.ownsRow.cellAt h i hi]
  exact ⟨zs[i]'(by omega), by simp [hl, hi]⟩
theorem Row3.len (h : Row3 base w b n c) : n ≤ c ∧ c ≤ maxLen := by
  obtain ⟨zs, h⟩ := h
  rcases h.2 with ⟨h', _⟩ | ⟨g', cap', cur, h', hb, hg, hnc, hcm, hcs, htake⟩
  · simp at h'
  · simp only [Value.slice.injEq, Option.some.injEq, Addr.mk.injEq, and_true, true_and] at h'
    obtain ⟨rfl, rfl⟩ := h'
    exact ⟨hnc, hcm⟩
theorem Row3.free (h : Row3 base w b n c) (i : Nat) : w.frozen? ⟨b, i, none⟩ = false := by obtain ⟨zs, h⟩ := h; exact World.ownsRow.frozenAt h i
theorem Row3.set (h : Row3 base w b n c) (i : Nat) (z : Int) : Row3 base (w.setCell ⟨b, i, none⟩ (.int .i64 z)) b n c := by
  obtain ⟨zs, h⟩ := h
  exact ⟨zs.set i z, by rw [List.map_set]; exact (World.ownsRow.stored h i _).1⟩
theorem Row3.grown {row : Option Nat} (h : Row3 base w b n c) (hg : w.grownBy w' row) (hne : some b ≠ row) : Row3 base w' b n c := by
  obtain ⟨zs, h⟩ := h
  exact ⟨zs, World.ownsRow.kept h hg (.inr hne)⟩
theorem Row3.only (h : Row3 base w b n c) (ho : Only g w w') (hne : b ≠ g) : Row3 base w' b n c := h.grown ho (by simp; exact hne)
theorem Row3.alloc (h : Row3 base w b n c) (o : Obj) : Row3 base (w.alloc o) b n c := by obtain ⟨zs, h⟩ := h; exact ⟨zs, World.ownsRow.alloc h o⟩
theorem Row3.drew (h : Row3 base w b n c) : Row3 base w.drew b n c := h
theorem Row3.drewN (h : Row3 base w b n c) (k : Nat) : Row3 base (w.drewN k) b n c := h
theorem Row3.far (h : Row3 base w b n c) {p : Addr} (hp : b ≠ p.block) (u : Value) : Row3 base (w.setCell p u) b n c :=
  h.grown (row := some p.block) ⟨rfl, rfl, rfl, by simp [World.setCell], fun k _ hk => Below.heap_setCell w p u k (fun e => hk (by rw [e]))⟩ (by simp; exact hp)
theorem Row3.empty (w : World) (base : Nat) (hb : base ≤ w.heap.size) : Row3 base (w.alloc (.cells #[] 40)) w.heap.size 0 0 :=
  ⟨[], World.ownsRow_made w #[] 0 hb (Nat.zero_le _) (by simp)⟩
theorem append_args (ty : TypeId) (h : Row3 base w b n c) (x : Option Addr) (m cx : Nat) (hx : m = 0 ∨ ∃ bx, x = some ⟨bx, 0, none⟩ ∧ Whole3 w bx m) (hnm : n + m ≤ 100) (hbase : base ≤ w.heap.size) :
    ∃ b' c' w', (Builtin.append_ #[29, 29] ty #[.slice (some ⟨b, 0, none⟩) n c, .slice x m cx]).run Tryd.prog w = .ok (.slice (some ⟨b', 0, none⟩) (n + m) c') w' ∧ Row3 base w' b' (n + m) c' ∧ w.grownBy w' (some b) ∧ (b' = b ∨ b' = w.heap.size) := by
  obtain ⟨i, hi, hz⟩ := Option.map_eq_some_iff.1 infoArg
  simp only [Prod.mk.injEq] at hz
  obtain ⟨hz, hs, hb⟩ := hz
  by_cases hm : m = 0
  · subst hm
    have hlen := h.len.1
    refine ⟨b, c, w, ?_, h, World.grownBy.refl w _, .inl rfl⟩
    have hsrc : Src Tryd.prog i.size 29 (.slice x 0 cx) 0 [] w := by
      cases x with
      | none => exact ⟨.inl ⟨_, Tryd.underlying29⟩, fun _ => rfl, rfl, rfl, by simp, by simp⟩
      | some a => exact Src.ofSlice w Tryd.underlying29 a 0 cx [] (by simp) (by simp) (by simp)
    exact run_append_nothing w 29 29 ty 40 i Tryd.underlying29 hi (some ⟨b, 0, none⟩) n c hlen _ hsrc
  · rcases hx with hx | ⟨bx, rfl, hw⟩
    · exact absurd hx hm
    obtain ⟨zs, h⟩ := h
    have h2 : ∀ i, ∃ z : Int, i < m * 3 → w.cell? ⟨bx, i, none⟩ = some (.int .i64 z) := by
      intro i
      by_cases hi : i < m * 3
      · obtain ⟨z, hz⟩ := hw.2 i hi; exact ⟨z, fun _ => hz⟩
      · exact ⟨0, fun h => absurd h hi⟩
    obtain ⟨f, hf⟩ := Classical.axiomOfChoice h2
    have hnews : ∀ (j : Nat) (u : Value), (((List.range (m * 3)).map f).map (Value.int .i64))[j]? = some u → w.cell? ((⟨bx, 0, none⟩ : Addr).add j) = some u := by
      intro j u hu
      have hj : j < m * 3 := by have := (List.getElem?_eq_some_iff.1 hu).1; simpa using this
      have e : (⟨bx, 0, none⟩ : Addr).add j = ⟨bx, j, none⟩ := by unfold Addr.add; split <;> simp_all
      rw [e, hf j hj]
      simpa [hj] using hu
    obtain ⟨b', c', w', hr, hown, hgr, hat, hlt⟩ := run_append_lies (P := Tryd.prog) w 29 ty base 40 i _ 3 24 Tryd.underlying29 hi hz hs hb (by rfl) (by decide) (.slice (some ⟨b, 0, none⟩) n c) n _ h ⟨bx, 0, none⟩ m cx (((List.range (m * 3)).map f).map (Value.int .i64)) (by simp) hnews (by simp [Value.oneCell']) (by omega) (by unfold maxLen; omega) (by omega) hbase _ rfl
    refine ⟨b', c', w', hr, ⟨zs ++ (List.range (m * 3)).map f, by rw [List.map_append]; exact hown⟩, hgr, ?_⟩
    rcases hat with hat | hat
    · exact .inl (by simpa [Value.ownBlock] using hat.symm)
    · exact .inr hat
end
/-- an append whose run is known -/
theorem wpList_append_run {P : Program} {w : World} {ops : Array Oper} {rest : List Oper} {o : Oper} {a : Act} {Q : Exit → Act → World → Prop} (hgd : o.guard = none) (s x : Operand) (t : TypeId)
    (ho : o.op = .call { callee := .builtin .append, args := #[s, x], argTypes := #[t, t] }) (v vx v' : Value) (w' : World) (hs : a.eval s = v) (hx : a.eval x = vx)
    (hr : (Builtin.append_ #[t, t] o.type #[v, vx]).run P w = .ok v' w') (h : wpList P ops Q rest (a.put o.dst v') w') : wpList P ops Q (o :: rest) a w := by
  refine wpList_plain hgd fun K hK => ?_
  unfold Oper.wp execOp
  simp only [ho, resolve, invoke, builtin, Sem.run_bind, Sem.run_pure, Result.andThen_ok, List.map_toArray, List.map_cons, List.map_nil, hs, hx, hr]
  exact hK _ _ h
end Go.Proofs.YtmlpobecilbknaaDoor
