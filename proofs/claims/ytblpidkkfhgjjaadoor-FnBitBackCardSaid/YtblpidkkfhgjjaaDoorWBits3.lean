/- The program's packed stacks and forks: push, pop, top, turn. -/
import Derived.Test.YtblpidkkfhgjjaaDoorRows
import Derived.Test.YtblpidkkfhgjjaaDoorWBits2
import Derived.WalkKit
import Derived.WalkSpells
import Derived.WalkLawsBesides
import Derived.OpenShut
import Derived.Deep.QuietTactic
import Derived.BigQuiet
import Derived.Deep.RegionHeld3
import Derived.Deep.RegionLaw
import Derived.Deep.AppendLies
import Derived.Deep.Onto
import Derived.OwnWalk
import Derived.IntWalk
import Derived.Laws.OwnMore
import Derived.StillTailTactics
import Derived.StillTactics
import Derived.Laws.BitsAllLaws
import Derived.Lib.Hide
namespace Go.Proofs.YtblpidkkfhgjjaaDoor
open Go.RowKit Bx
set_option linter.unusedVariables false

set_option maxRecDepth 100000 in
set_option maxHeartbeats 400000 in
theorem BitPush_i_any (b n : Int) (x : Bool) (h0 : 0 ≤ b) (h1 : b < 65536) (w : World) : Calls Tryd.prog 17 #[.agg #[.int .u16 b, .int .i64 n], .bool x] w fun e w' => ∃ B N : Nat, (B, N) = BitP.good 16 b n ∧ B < 2 ^ N ∧ N ≤ 16 ∧ e = .returned (.agg #[.int .u16 (((B * 2 + x.toNat) % 65536 : Nat) : Int), .int .i64 ((min (N + 1) 16 : Nat) : Int)]) ∧ Below w.heap.size w w' := by
  go_enter Tryd.func17, Tryd.ntmps17
  go_wp2_with fail
  refine (BitGood_any b n h0 h1 _).mono ?_
  rintro e w1 ⟨B, N, hg, hB, hN, rfl, hb1⟩
  have b1 := ((Box.new w #[.int .u16 b, .int .i64 n] 24).alloc (.cells #[.int .u16 0, .int .i64 0] 24)).kept hb1
  have r1 := (Box.new (w.alloc (.cells #[.int .u16 b, .int .i64 n] 24)) #[.int .u16 0, .int .i64 0] 24).kept hb1
  have c0 : w1.cell? ⟨w.heap.size, 0, none⟩ = some (.int .u16 b) := by have := b1.cell 0; simpa using this
  have c1 : w1.cell? ⟨w.heap.size, 1, none⟩ = some (.int .i64 n) := by have := b1.cell 1; simpa using this
  have k0 : w1.frozen? ⟨w.heap.size, 0, none⟩ = false := by have := b1.free 0; simpa using this
  have k1 : w1.frozen? ⟨w.heap.size, 1, none⟩ = false := by have := b1.free 1; simpa using this
  have e0 : w1.cell? ⟨w.heap.size + 1, 0, none⟩ = some (.int .u16 0) := by have := r1.cell 0; simpa using this
  have e1 : w1.cell? ⟨w.heap.size + 1, 1, none⟩ = some (.int .i64 0) := by have := r1.cell 1; simpa using this
  have f0 : w1.frozen? ⟨w.heap.size + 1, 0, none⟩ = false := by have := r1.free 0; simpa using this
  have f1 : w1.frozen? ⟨w.heap.size + 1, 1, none⟩ = false := by have := r1.free 1; simpa using this
  have hs : w.heap.size + 1 < w1.heap.size := by have := hb1.size; simp at this; omega
  have hBel : Below w.heap.size w w1 := bel_step (((Below.refl _ _).alloc (Nat.le_refl _) _).alloc (by simp) _) hb1 (by simp; omega)
  have b2 : Box ((w1.setCell ⟨w.heap.size, 0, none⟩ (.int .u16 B)).setCell ⟨w.heap.size, 1, none⟩ (.int .i64 N)) w.heap.size #[.int .u16 B, .int .i64 N] 24 := by simpa using (b1.set 0 (.int .u16 B)).set 1 (.int .i64 N)
  have r2 : Box ((w1.setCell ⟨w.heap.size, 0, none⟩ (.int .u16 B)).setCell ⟨w.heap.size, 1, none⟩ (.int .i64 N)) (w.heap.size + 1) #[.int .u16 0, .int .i64 0] 24 := by have := (r1.far (p := ⟨w.heap.size, 0, none⟩) (by simp) (.int .u16 B)).far (p := ⟨w.heap.size, 1, none⟩) (by simp) (.int .i64 N); simpa using this
  have hBel2 : Below w.heap.size w ((w1.setCell ⟨w.heap.size, 0, none⟩ (.int .u16 B)).setCell ⟨w.heap.size, 1, none⟩ (.int .i64 N)) := (hBel.setCell (by simp) _).setCell (by simp) _
  have HBX := Lib.hid (And.intro b2 (And.intro r2 (And.intro hBel2 hBel)))
  have HG := Lib.hid (And.intro hg hB)
  have HN := Lib.hid hN
  clear hb1 b1 r1 hBel b2 r2 hBel2 hg hB hN
  have hx1 := fun w => bit_any x w
  have hx0 : x.toNat ≤ 1 := by cases x <;> simp
  obtain ⟨X, hX⟩ : ∃ X : Int, X = (x.toNat : Int) := ⟨_, rfl⟩
  have HX := Lib.hid hX
  have hN2 := HN.out
  have dw : IntKind.i64.wrap ((N : Int) + 1) = (N : Int) + 1 := IntWalk.i64_in _ (by omega)
  have hwx : IntKind.u8.wrap X = X := by rw [hX, IntKind.wrap_u8']; omega
  rw [← hX] at hx1
  obtain ⟨M, hM⟩ : ∃ M : Int, M = ((min (N + 1) 16 : Nat) : Int) := ⟨_, rfl⟩
  have hmin : (if (16 : Int) < (N : Int) + 1 then (16 : Int) else (N : Int) + 1) = M := by rw [hM]; split <;> omega
  have HM := Lib.hid hM
  clear hX hN2 hx0 hM
  go_wp2_with fail
  clear c0 c1 k0 k1 e0 e1 f0 f1 hs
  have b2 := HBX.out.1
  have r2 := HBX.out.2.1
  have hBel := HBX.out.2.2.1
  clear HBX
  generalize hw2 : ((w1.setCell ⟨w.heap.size, 0, none⟩ (.int .u16 B)).setCell ⟨w.heap.size, 1, none⟩ (.int .i64 N)) = w2 at b2 r2 hBel ⊢
  clear hw2
  have c0 : w2.cell? ⟨w.heap.size, 0, none⟩ = some (.int .u16 B) := by have := b2.cell 0; simpa using this
  have c1 : w2.cell? ⟨w.heap.size, 1, none⟩ = some (.int .i64 N) := by have := b2.cell 1; simpa using this
  have k0 : w2.frozen? ⟨w.heap.size, 0, none⟩ = false := by have := b2.free 0; simpa using this
  have k1 : w2.frozen? ⟨w.heap.size, 1, none⟩ = false := by have := b2.free 1; simpa using this
  have e0 : w2.cell? ⟨w.heap.size + 1, 0, none⟩ = some (.int .u16 0) := by have := r2.cell 0; simpa using this
  have e1 : w2.cell? ⟨w.heap.size + 1, 1, none⟩ = some (.int .i64 0) := by have := r2.cell 1; simpa using this
  have f0 : w2.frozen? ⟨w.heap.size + 1, 0, none⟩ = false := by have := r2.free 0; simpa using this
  have f1 : w2.frozen? ⟨w.heap.size + 1, 1, none⟩ = false := by have := r2.free 1; simpa using this
  have hs : w.heap.size + 1 < w2.heap.size := r2.lt
  clear b2 r2
  go_region_held3 (fun w' => w'.cell? ⟨w.heap.size, 0, none⟩ = some (.int .u16 B) ∧ w'.cell? ⟨w.heap.size, 1, none⟩ = some (.int .i64 N)) (go_keep) (first | (go_at_call 34; refine (hx1 _).mono ?_; rintro e w' ⟨rfl, rfl⟩))
  all_goals
    go_wp2
    have ev := BitP.or_u16 B x
    rw [← HX.out] at ev
    refine bodyPost_ret (v := .agg #[.int .u16 (bits .or .u16 (IntKind.u16.wrap ((B : Int) * 2)) X), .int .i64 M]) (by simp [results, Tryd.results17, go_sem, e0, e1]) rfl ⟨B, N, HG.out.1, HG.out.2, HN.out, by rw [ev, HM.out], ?_⟩
    repeat (first | exact hBel | refine Below.drew ?_ | refine Bx.bel_drewN ?_ _ | refine Below.setCell ?_ (by first | (simp; done) | (simp; omega) | omega) _)
end Go.Proofs.YtblpidkkfhgjjaaDoor
