/- The exact laws of the packed stacks. -/
import Derived.Test.YtmgmjhbbjllleaaRows
import Derived.Test.YtmgmjhbbjllleaaWBits4
import Derived.WalkKit
import Derived.WalkSpells
import Derived.WalkLawsBesides
import Derived.OpenShut
import Derived.Deep.QuietTactic
import Derived.BigQuiet
import Derived.Deep.RegionHeld3
import Derived.Deep.RegionLaw
import Derived.OwnWalk
import Derived.IntWalk
import Derived.Lib.Hide
namespace Go.Proofs.Ytmgmjhbbjllleaa
open Go.RowKit Bx
set_option linter.unusedVariables false

set_option maxRecDepth 100000 in
set_option maxHeartbeats 400000 in
theorem toBitStack_any (b n : Int) (w : World) : Calls Try.prog 16 #[.agg #[.int .u16 b, .int .i64 n]] w fun e w' => e = .returned (.agg #[.int .u16 b, .int .i64 n]) ∧ Below w.heap.size w w' := by
  go_enter Try.func16, Try.ntmps16
  go_wp2
  exact bodyPost_ret (v := .agg #[.int .u16 b, .int .i64 n]) (by simp [results, Try.results16, go_sem]) rfl ⟨rfl, by repeat (first | exact Below.refl _ _ | refine Below.alloc ?_ (by first | (simp; done) | (simp; omega) | omega) _ | refine Below.drew ?_ | refine Bx.bel_drewN ?_ _ | refine Below.setCell ?_ (by first | (simp; done) | (simp; omega) | omega) _)⟩
set_option maxRecDepth 100000 in
set_option maxHeartbeats 400000 in
theorem eqBitStack_same (b n : Int) (w : World) : Calls Try.prog 32 #[.agg #[.int .u16 b, .int .i64 n], .agg #[.int .u16 b, .int .i64 n]] w fun e w' => e = .returned (.bool true) ∧ Below w.heap.size w w' := by
  go_enter Try.func32, Try.ntmps32
  go_wp2
  go_ret
  exact ⟨rfl, by repeat (first | exact Below.refl _ _ | refine Below.alloc ?_ (by first | (simp; done) | (simp; omega) | omega) _ | refine Below.drew ?_ | refine Bx.bel_drewN ?_ _ | refine Below.setCell ?_ (by first | (simp; done) | (simp; omega) | omega) _)⟩
set_option maxRecDepth 100000 in
set_option maxHeartbeats 400000 in
theorem FnExactBitOk_any (b n : Int) (h0 : 0 ≤ b) (h1 : b < 65536) (w : World) : Calls Try.prog 3 #[.agg #[.int .u16 b, .int .i64 n]] w fun e w' => e = .returned (.bool true) ∧ Below w.heap.size w w' := by
  go_enter Try.func3, Try.ntmps3
  go_wp2_with fail
  refine (toBitStack_any b n _).mono ?_
  rintro e w1 ⟨rfl, hb1⟩
  have b1 := (Box.new w #[.int .u16 b, .int .i64 n] 24).kept hb1
  have hB1 : Below w.heap.size w w1 := bel_step ((Below.refl _ _).alloc (Nat.le_refl _) _) hb1 (by simp)
  clear hb1
  go_wp2_with fail
  refine (sBitOk_any b n h0 h1 _).mono ?_
  rintro e w2 ⟨rfl, hb2⟩
  have b2 := b1.kept hb2
  have hB2 := bel_step hB1 hb2 hB1.size
  have c0 : w2.cell? ⟨w.heap.size, 0, none⟩ = some (.int .u16 b) := by have := b2.cell 0; simpa using this
  have c1 : w2.cell? ⟨w.heap.size, 1, none⟩ = some (.int .i64 n) := by have := b2.cell 1; simpa using this
  clear hb2 hB1 b1
  go_wp2_with fail
  refine (toBitStack_any b n _).mono ?_
  rintro e w3 ⟨rfl, hb3⟩
  have hB3 := bel_step hB2 hb3 hB2.size
  clear hb3 hB2 c0 c1 b2
  go_wp2_with fail
  refine (BitOk_i_any b n h0 h1 _).mono ?_
  rintro e w4 ⟨rfl, hb4⟩
  have hB4 := bel_step hB3 hb4 hB3.size
  clear hb4 hB3
  go_wp2
  go_ret
  exact ⟨rfl, hB4⟩
theorem FnExactBitOk_walk (a00 : Int) (w00 : (Lit.int .u16 a00).wf = true) (a01 : Int) (w01 : (Lit.int .i64 a01).wf = true) (w : World) : Calls Try.prog 3 #[.agg #[.int .u16 a00, .int .i64 a01]] w fun e w' => e = .returned (.bool true) ∧ Below w.heap.size w w' := FnExactBitOk_any a00 a01 (bounds_u16 w00).1 (by have := (bounds_u16 w00).2; omega) w
set_option maxRecDepth 100000 in
set_option maxHeartbeats 400000 in
theorem FnExactBitTop_any (b n : Int) (h0 : 0 ≤ b) (h1 : b < 65536) (w : World) : Calls Try.prog 5 #[.agg #[.int .u16 b, .int .i64 n]] w fun e w' => e = .returned (.bool true) ∧ Below w.heap.size w w' := by
  go_enter Try.func5, Try.ntmps5
  go_wp2_with fail
  refine (toBitStack_any b n _).mono ?_
  rintro e w1 ⟨rfl, hb1⟩
  have b1 := (Box.new w #[.int .u16 b, .int .i64 n] 24).kept hb1
  have hB1 : Below w.heap.size w w1 := bel_step ((Below.refl _ _).alloc (Nat.le_refl _) _) hb1 (by simp)
  clear hb1
  go_wp2_with fail
  refine (BitTop_s_any b n h0 h1 _).mono ?_
  rintro e w2 ⟨B, N, hg, hB, hN, he, hb2⟩
  obtain ⟨q, hv⟩ : ∃ q : Bool, e = .returned (.bool q) := ⟨_, by rw [he]⟩
  subst hv
  have HV := Lib.hid he
  have HG := Lib.hid hg
  clear hg hB hN he
  have b2 := b1.kept hb2
  have hB2 := bel_step hB1 hb2 hB1.size
  have c0 : w2.cell? ⟨w.heap.size, 0, none⟩ = some (.int .u16 b) := by have := b2.cell 0; simpa using this
  have c1 : w2.cell? ⟨w.heap.size, 1, none⟩ = some (.int .i64 n) := by have := b2.cell 1; simpa using this
  have l2 := b2.lt
  clear hb2 hB1 b1
  go_wp2_with fail
  refine (toBitStack_any b n _).mono ?_
  rintro e w3 ⟨rfl, hb3⟩
  have hB3 := bel_step hB2 hb3 hB2.size
  clear hb3 hB2 c0 c1 b2
  go_wp2_with fail
  refine (BitTop_i_any b n h0 h1 _).mono ?_
  rintro e w4 ⟨B', N', hg', hB', hN', he', hb4⟩
  obtain ⟨rfl, rfl⟩ : B' = B ∧ N' = N := by have h := hg'.trans HG.out.symm; exact ⟨congrArg Prod.fst h, congrArg Prod.snd h⟩
  obtain rfl : e = .returned (.bool q) := he'.trans HV.out.symm
  have hB4 := bel_step hB3 hb4 hB3.size
  clear hb4 hB3 he' hg' hB' hN'
  go_wp2
  go_ret
  exact ⟨rfl, hB4⟩
theorem FnExactBitTop_walk (a00 : Int) (w00 : (Lit.int .u16 a00).wf = true) (a01 : Int) (w01 : (Lit.int .i64 a01).wf = true) (w : World) : Calls Try.prog 5 #[.agg #[.int .u16 a00, .int .i64 a01]] w fun e w' => e = .returned (.bool true) ∧ Below w.heap.size w w' := FnExactBitTop_any a00 a01 (bounds_u16 w00).1 (by have := (bounds_u16 w00).2; omega) w
set_option maxRecDepth 100000 in
set_option maxHeartbeats 400000 in
theorem FnExactBitPush_any (b n : Int) (x : Bool) (h0 : 0 ≤ b) (h1 : b < 65536) (w : World) : Calls Try.prog 8 #[.agg #[.int .u16 b, .int .i64 n], .bool x] w fun e w' => e = .returned (.bool true) ∧ Below w.heap.size w w' := by
  go_enter Try.func8, Try.ntmps8
  go_wp2_with fail
  refine (toBitStack_any b n _).mono ?_
  rintro e w1 ⟨rfl, hb1⟩
  have b1 := (Box.new w #[.int .u16 b, .int .i64 n] 24).kept hb1
  have hB1 : Below w.heap.size w w1 := bel_step ((Below.refl _ _).alloc (Nat.le_refl _) _) hb1 (by simp)
  clear hb1
  go_wp2_with fail
  refine (BitPush_s_any b n x h0 h1 _).mono ?_
  rintro e w2 ⟨B, N, hg, hB, hN, he, hb2⟩
  obtain ⟨P, Q, hv⟩ : ∃ P Q : Int, e = .returned (.agg #[.int .u16 P, .int .i64 Q]) := ⟨_, _, by rw [he]⟩
  subst hv
  have HV := Lib.hid he
  have HG := Lib.hid hg
  clear hg hB hN he
  have b2 := b1.kept hb2
  have hB2 := bel_step hB1 hb2 hB1.size
  have c0 : w2.cell? ⟨w.heap.size, 0, none⟩ = some (.int .u16 b) := by have := b2.cell 0; simpa using this
  have c1 : w2.cell? ⟨w.heap.size, 1, none⟩ = some (.int .i64 n) := by have := b2.cell 1; simpa using this
  have l2 := b2.lt
  clear hb2 hB1 b1
  go_wp2_with fail
  refine (toBitStack_any b n _).mono ?_
  rintro e w3 ⟨rfl, hb3⟩
  have hB3 := bel_step (hB2.alloc hB2.size _) hb3 (by have := hB2.size; simp; omega)
  have s3 := (Box.new w2 #[.int .u16 P, .int .i64 Q] 26).kept hb3
  clear hb3 hB2 c0 c1 b2
  go_wp2_with fail
  refine (BitPush_i_any b n x h0 h1 _).mono ?_
  rintro e w4 ⟨B', N', hg', hB', hN', he', hb4⟩
  obtain ⟨rfl, rfl⟩ : B' = B ∧ N' = N := by have h := hg'.trans HG.out.symm; exact ⟨congrArg Prod.fst h, congrArg Prod.snd h⟩
  obtain rfl : e = .returned (.agg #[.int .u16 P, .int .i64 Q]) := he'.trans HV.out.symm
  have hB4 := bel_step hB3 hb4 hB3.size
  have s4 := s3.kept hb4
  have d0 : w4.cell? ⟨w2.heap.size, 0, none⟩ = some (.int .u16 P) := by have := s4.cell 0; simpa using this
  have d1 : w4.cell? ⟨w2.heap.size, 1, none⟩ = some (.int .i64 Q) := by have := s4.cell 1; simpa using this
  have l4 := s4.lt
  clear hb4 hB3 he' hg' hB' hN' s3 s4
  go_wp2_with fail
  refine (eqBitStack_same P Q _).mono ?_
  rintro e w5 ⟨rfl, hb5⟩
  have hB5 := bel_step (hB4.alloc hB4.size _) hb5 (by have := hB4.size; simp; omega)
  clear hb5 hB4 d0 d1
  go_wp2
  go_ret
  exact ⟨rfl, hB5⟩
theorem FnExactBitPush_walk (a00 : Int) (w00 : (Lit.int .u16 a00).wf = true) (a01 : Int) (w01 : (Lit.int .i64 a01).wf = true) (x : Bool) (w : World) : Calls Try.prog 8 #[.agg #[.int .u16 a00, .int .i64 a01], .bool x] w fun e w' => e = .returned (.bool true) ∧ Below w.heap.size w w' := FnExactBitPush_any a00 a01 x (bounds_u16 w00).1 (by have := (bounds_u16 w00).2; omega) w
set_option maxRecDepth 100000 in
set_option maxHeartbeats 400000 in
theorem FnExactBitPop_any (b n : Int) (h0 : 0 ≤ b) (h1 : b < 65536) (w : World) : Calls Try.prog 10 #[.agg #[.int .u16 b, .int .i64 n]] w fun e w' => e = .returned (.bool true) ∧ Below w.heap.size w w' := by
  go_enter Try.func10, Try.ntmps10
  go_wp2_with fail
  refine (toBitStack_any b n _).mono ?_
  rintro e w1 ⟨rfl, hb1⟩
  have b1 := (Box.new w #[.int .u16 b, .int .i64 n] 24).kept hb1
  have hB1 : Below w.heap.size w w1 := bel_step ((Below.refl _ _).alloc (Nat.le_refl _) _) hb1 (by simp)
  clear hb1
  go_wp2_with fail
  refine (BitPop_s_any b n h0 h1 _).mono ?_
  rintro e w2 ⟨B, N, hg, hB, hN, he, hb2⟩
  obtain ⟨P, Q, q, hv⟩ : ∃ P Q : Int, ∃ q : Bool, e = .returned (.tuple #[.agg #[.int .u16 P, .int .i64 Q], .bool q]) := ⟨_, _, _, by rw [he]⟩
  subst hv
  have HV := Lib.hid he
  have HG := Lib.hid hg
  clear hg hB hN he
  have b2 := b1.kept hb2
  have hB2 := bel_step hB1 hb2 hB1.size
  have c0 : w2.cell? ⟨w.heap.size, 0, none⟩ = some (.int .u16 b) := by have := b2.cell 0; simpa using this
  have c1 : w2.cell? ⟨w.heap.size, 1, none⟩ = some (.int .i64 n) := by have := b2.cell 1; simpa using this
  have l2 := b2.lt
  clear hb2 hB1 b1
  go_wp2_with fail
  refine (toBitStack_any b n _).mono ?_
  rintro e w3 ⟨rfl, hb3⟩
  have hB3 := bel_step (hB2.alloc hB2.size _) hb3 (by have := hB2.size; simp; omega)
  have s3 := (Box.new w2 #[.int .u16 P, .int .i64 Q] 26).kept hb3
  clear hb3 hB2 c0 c1 b2
  go_wp2_with fail
  refine (BitPop_i_any b n h0 h1 _).mono ?_
  rintro e w4 ⟨B', N', hg', hB', hN', he', hb4⟩
  obtain ⟨rfl, rfl⟩ : B' = B ∧ N' = N := by have h := hg'.trans HG.out.symm; exact ⟨congrArg Prod.fst h, congrArg Prod.snd h⟩
  obtain rfl : e = .returned (.tuple #[.agg #[.int .u16 P, .int .i64 Q], .bool q]) := he'.trans HV.out.symm
  have hB4 := bel_step hB3 hb4 hB3.size
  have s4 := s3.kept hb4
  have d0 : w4.cell? ⟨w2.heap.size, 0, none⟩ = some (.int .u16 P) := by have := s4.cell 0; simpa using this
  have d1 : w4.cell? ⟨w2.heap.size, 1, none⟩ = some (.int .i64 Q) := by have := s4.cell 1; simpa using this
  have l4 := s4.lt
  clear hb4 hB3 he' hg' hB' hN' s3 s4
  go_wp2_with fail
  refine (eqBitStack_same P Q _).mono ?_
  rintro e w5 ⟨rfl, hb5⟩
  have hB5 := bel_step (hB4.alloc hB4.size _) hb5 (by have := hB4.size; simp; omega)
  clear hb5 hB4 d0 d1
  go_wp2
  go_ret
  exact ⟨rfl, hB5⟩
theorem FnExactBitPop_walk (a00 : Int) (w00 : (Lit.int .u16 a00).wf = true) (a01 : Int) (w01 : (Lit.int .i64 a01).wf = true) (w : World) : Calls Try.prog 10 #[.agg #[.int .u16 a00, .int .i64 a01]] w fun e w' => e = .returned (.bool true) ∧ Below w.heap.size w w' := FnExactBitPop_any a00 a01 (bounds_u16 w00).1 (by have := (bounds_u16 w00).2; omega) w
set_option maxRecDepth 100000 in
set_option maxHeartbeats 400000 in
theorem FnExactBitTurn_any (b n : Int) (x : Bool) (h0 : 0 ≤ b) (h1 : b < 65536) (w : World) : Calls Try.prog 12 #[.agg #[.int .u16 b, .int .i64 n], .bool x] w fun e w' => e = .returned (.bool true) ∧ Below w.heap.size w w' := by
  go_enter Try.func12, Try.ntmps12
  go_wp2_with fail
  refine (toBitStack_any b n _).mono ?_
  rintro e w1 ⟨rfl, hb1⟩
  have b1 := (Box.new w #[.int .u16 b, .int .i64 n] 24).kept hb1
  have hB1 : Below w.heap.size w w1 := bel_step ((Below.refl _ _).alloc (Nat.le_refl _) _) hb1 (by simp)
  clear hb1
  go_wp2_with fail
  refine (BitTurn_s_any b n x h0 h1 _).mono ?_
  rintro e w2 ⟨B, N, hg, hB, hN, he, hb2⟩
  obtain ⟨P, Q, hv⟩ : ∃ P Q : Int, e = .returned (.agg #[.int .u16 P, .int .i64 Q]) := by rw [he]; split <;> exact ⟨_, _, rfl⟩
  subst hv
  have HV := Lib.hid he
  have HG := Lib.hid hg
  clear hg hB hN he
  have b2 := b1.kept hb2
  have hB2 := bel_step hB1 hb2 hB1.size
  have c0 : w2.cell? ⟨w.heap.size, 0, none⟩ = some (.int .u16 b) := by have := b2.cell 0; simpa using this
  have c1 : w2.cell? ⟨w.heap.size, 1, none⟩ = some (.int .i64 n) := by have := b2.cell 1; simpa using this
  have l2 := b2.lt
  clear hb2 hB1 b1
  go_wp2_with fail
  refine (toBitStack_any b n _).mono ?_
  rintro e w3 ⟨rfl, hb3⟩
  have hB3 := bel_step (hB2.alloc hB2.size _) hb3 (by have := hB2.size; simp; omega)
  have s3 := (Box.new w2 #[.int .u16 P, .int .i64 Q] 26).kept hb3
  clear hb3 hB2 c0 c1 b2
  go_wp2_with fail
  refine (BitTurn_i_any b n x h0 h1 _).mono ?_
  rintro e w4 ⟨B', N', hg', hB', hN', he', hb4⟩
  obtain ⟨rfl, rfl⟩ : B' = B ∧ N' = N := by have h := hg'.trans HG.out.symm; exact ⟨congrArg Prod.fst h, congrArg Prod.snd h⟩
  obtain rfl : e = .returned (.agg #[.int .u16 P, .int .i64 Q]) := he'.trans HV.out.symm
  have hB4 := bel_step hB3 hb4 hB3.size
  have s4 := s3.kept hb4
  have d0 : w4.cell? ⟨w2.heap.size, 0, none⟩ = some (.int .u16 P) := by have := s4.cell 0; simpa using this
  have d1 : w4.cell? ⟨w2.heap.size, 1, none⟩ = some (.int .i64 Q) := by have := s4.cell 1; simpa using this
  have l4 := s4.lt
  clear hb4 hB3 he' hg' hB' hN' s3 s4
  go_wp2_with fail
  refine (eqBitStack_same P Q _).mono ?_
  rintro e w5 ⟨rfl, hb5⟩
  have hB5 := bel_step (hB4.alloc hB4.size _) hb5 (by have := hB4.size; simp; omega)
  clear hb5 hB4 d0 d1
  go_wp2
  go_ret
  exact ⟨rfl, hB5⟩
theorem FnExactBitTurn_walk (a00 : Int) (w00 : (Lit.int .u16 a00).wf = true) (a01 : Int) (w01 : (Lit.int .i64 a01).wf = true) (x : Bool) (w : World) : Calls Try.prog 12 #[.agg #[.int .u16 a00, .int .i64 a01], .bool x] w fun e w' => e = .returned (.bool true) ∧ Below w.heap.size w w' := FnExactBitTurn_any a00 a01 x (bounds_u16 w00).1 (by have := (bounds_u16 w00).2; omega) w
end Go.Proofs.Ytmgmjhbbjllleaa
