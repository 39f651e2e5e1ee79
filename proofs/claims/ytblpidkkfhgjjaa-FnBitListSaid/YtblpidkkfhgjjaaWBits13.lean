/- The draws of the laws on stacks and forks. -/
import Derived.Test.YtblpidkkfhgjjaaRows
import Derived.Test.YtblpidkkfhgjjaaWBits12
import Derived.WalkKit
import Derived.WalkSpells
import Derived.WalkLawsBesides
import Derived.OpenShut
import Derived.OwnWalk
import Derived.IntWalk
import Derived.Lib.Hide
namespace Go.Proofs.Ytblpidkkfhgjjaa
open Go.RowKit Bx Rdr
set_option linter.unusedVariables false

set_option maxRecDepth 100000 in
set_option maxHeartbeats 400000 in
theorem l1DrawFork_any (w : World) (g k : Nat) (h : Rd 57 w g k) (hk : k ≤ 50000) : Calls Try.prog 31 #[.pointer (some ⟨g, 0, none⟩)] w fun e w' =>
    ∃ b n : Int, e = .returned (.agg #[.int .u8 b, .int .i64 n]) ∧ 0 ≤ b ∧ b < 256 ∧ Rd 57 w' g (k + 40) ∧ Only g w w' := by
  have hlt := h.lt
  have r0 : Rd 57 (w.alloc (.cells #[.int .u8 0, .int .i64 0] 36)) g k := h.alloc _
  have o0 : Only g w (w.alloc (.cells #[.int .u8 0, .int .i64 0] 36)) := (Only.refl g w).alloc _
  have HB := Lib.hid (And.intro (Box.new w #[.int .u8 0, .int .i64 0] 36) o0)
  clear o0
  go_enter Try.func31, Try.ntmps31
  go_wp2_with fail
  refine (l1Draw_any _ g k r0 (by omega)).mono ?_
  rintro e w1 ⟨b, n, rfl, hb0, hb1, r1, o1⟩
  have b1 := box_only HB.out.1 o1 (by omega)
  have t1 := HB.out.2.trans o1
  clear r0 o1 h
  obtain ⟨M, hM⟩ : ∃ M : Int, M = if n ≤ 8 then n else 8 := ⟨_, rfl⟩
  have hsm := fun w => l1Small_any b n M hb0 hb1 hM w
  obtain ⟨P, hP⟩ : ∃ P : Int, P = b % 256 := ⟨_, rfl⟩
  rw [← hP] at hsm
  have hP0 : 0 ≤ P := by omega
  have hP1 : P < 256 := by omega
  clear hM hP hb0 hb1
  go_wp2_with fail
  refine (hsm _).mono ?_
  rintro e w4 ⟨rfl, hb4⟩
  have r4 := r1.below hb4 r1.lt
  have b4 := b1.kept hb4
  have t4 := t1.trans (Only.of_below hb4)
  clear hsm hb4 r1 b1 t1
  have r5 : Rd 57 (w4.alloc (.cells #[.int .u8 P, .int .i64 M] 36)) g (k + 30) := r4.alloc _
  have b5 := b4.alloc (.cells #[.int .u8 P, .int .i64 M] 36)
  have s5 := Box.new w4 #[.int .u8 P, .int .i64 M] 36
  have t5 : Only g w (w4.alloc (.cells #[.int .u8 P, .int .i64 M] 36)) := t4.alloc _
  have l4 := b4.lt
  have l4g := r4.lt
  clear r4 b4 t4
  go_wp2_with fail
  refine (pick_any _ g (k + 30) 20 r5 (by omega)).mono ?_
  rintro e w6 ⟨z, rfl, hz0', hz1', _, r6, o6⟩
  have b6 := box_only b5 o6 (by omega)
  have s6 := box_only s5 o6 (by omega)
  have t6 := t5.trans o6
  clear r5 b5 s5 t5 o6 hz0' hz1'
  by_cases z0 : z = 0
  · subst z0
    go_wp2_with fail
    refine (num_any (w6.alloc (.cells (([-1, 0, 9, 8, 1, -9223372036854775807, 9223372036854775807] : List Int).map (Value.int .i64)).toArray 3)) g (k + 30 + 1) w6.heap.size 7 7 (fun _ => True) (r6.alloc _) (by omega) (by omega) (by omega) (by simp) (by have := r6.lt; omega) (cells_lit w6 [-1, 0, 9, 8, 1, -9223372036854775807, 9223372036854775807] 3 _ (by simp))).mono ?_
    rintro e w7 ⟨v, rfl, _, r7, o7⟩
    have b7 := box_only (b6.alloc _) o7 (by omega)
    have s7 := box_only (s6.alloc _) o7 (by omega)
    have t7 := (t6.alloc _).trans o7
    clear r6 b6 s6 t6 o7
    have e0 : w7.cell? ⟨w.heap.size, 0, none⟩ = some (.int .u8 0) := by have := b7.cell 0; simpa using this
    have e1 : w7.cell? ⟨w.heap.size, 1, none⟩ = some (.int .i64 0) := by have := b7.cell 1; simpa using this
    have ef0 : w7.frozen? ⟨w.heap.size, 0, none⟩ = false := b7.free 0
    have ef1 : w7.frozen? ⟨w.heap.size, 1, none⟩ = false := b7.free 1
    have d0 : w7.cell? ⟨w4.heap.size, 0, none⟩ = some (.int .u8 P) := by have := s7.cell 0; simpa using this
    have d1 : w7.cell? ⟨w4.heap.size, 1, none⟩ = some (.int .i64 M) := by have := s7.cell 1; simpa using this
    have df0 : w7.frozen? ⟨w4.heap.size, 0, none⟩ = false := s7.free 0
    have df1 : w7.frozen? ⟨w4.heap.size, 1, none⟩ = false := s7.free 1
    have l7 := s7.lt
    have hle := t7.size_le
    clear b7 s7
    go_wp2
    refine bodyPost_ret (v := .agg #[.int .u8 P, .int .i64 v]) (by simp [results, Try.results31, go_sem, e0, e1]) rfl ⟨P, v, rfl, hP0, hP1, ?_, ?_⟩
    · refine Rd.mono (k := k + 30 + 1 + 2) ?_ (by omega)
      repeat (first | exact r7.mono (by omega) | refine Rd.setCell ?_ (by simp; omega) _)
    · repeat (first | exact t7 | refine Only.setCell ?_ (by right; simp; try omega) _)
  · have z0' : (z == 0) = false := by simpa using z0
    by_cases z1 : z = 1
    · subst z1
      go_wp2_with fail
      refine (pick_any _ g (k + 30 + 1) 256 r6 (by omega)).mono ?_
      rintro e w7 ⟨u, rfl, hu0, hu1, _, r7, o7⟩
      have hu1 := hu1 (by omega)
      have b7 := box_only b6 o7 (by omega)
      have s7 := box_only s6 o7 (by omega)
      have t7 := t6.trans o7
      clear r6 b6 s6 t6 o7
      have hw8 : IntKind.u8.wrap u = u := by rw [IntKind.wrap_u8']; omega
      have e0 : w7.cell? ⟨w.heap.size, 0, none⟩ = some (.int .u8 0) := by have := b7.cell 0; simpa using this
      have e1 : w7.cell? ⟨w.heap.size, 1, none⟩ = some (.int .i64 0) := by have := b7.cell 1; simpa using this
      have ef0 : w7.frozen? ⟨w.heap.size, 0, none⟩ = false := b7.free 0
      have ef1 : w7.frozen? ⟨w.heap.size, 1, none⟩ = false := b7.free 1
      have d0 : w7.cell? ⟨w4.heap.size, 0, none⟩ = some (.int .u8 P) := by have := s7.cell 0; simpa using this
      have d1 : w7.cell? ⟨w4.heap.size, 1, none⟩ = some (.int .i64 M) := by have := s7.cell 1; simpa using this
      have df0 : w7.frozen? ⟨w4.heap.size, 0, none⟩ = false := s7.free 0
      have df1 : w7.frozen? ⟨w4.heap.size, 1, none⟩ = false := s7.free 1
      have l7 := s7.lt
      have hle := t7.size_le
      clear b7 s7
      go_wp2
      refine bodyPost_ret (v := .agg #[.int .u8 u, .int .i64 M]) (by simp [results, Try.results31, go_sem, e0, e1]) rfl ⟨u, M, rfl, hu0, hu1, ?_, ?_⟩
      · refine Rd.mono (k := k + 30 + 1 + 2) ?_ (by omega)
        repeat (first | exact r7.mono (by omega) | refine Rd.setCell ?_ (by simp; omega) _)
      · repeat (first | exact t7 | refine Only.setCell ?_ (by right; simp; try omega) _)
    · have z1' : (z == 1) = false := by simpa using z1
      have b7 := b6
      have s7 := s6
      have t7 := t6
      have r7 := r6
      obtain ⟨w7, hw7⟩ : ∃ w7, w7 = w6 := ⟨_, rfl⟩
      rw [← hw7] at b7 s7 t7 r7 ⊢
      clear r6 b6 s6 t6 hw7
      have e0 : w7.cell? ⟨w.heap.size, 0, none⟩ = some (.int .u8 0) := by have := b7.cell 0; simpa using this
      have e1 : w7.cell? ⟨w.heap.size, 1, none⟩ = some (.int .i64 0) := by have := b7.cell 1; simpa using this
      have ef0 : w7.frozen? ⟨w.heap.size, 0, none⟩ = false := b7.free 0
      have ef1 : w7.frozen? ⟨w.heap.size, 1, none⟩ = false := b7.free 1
      have d0 : w7.cell? ⟨w4.heap.size, 0, none⟩ = some (.int .u8 P) := by have := s7.cell 0; simpa using this
      have d1 : w7.cell? ⟨w4.heap.size, 1, none⟩ = some (.int .i64 M) := by have := s7.cell 1; simpa using this
      have df0 : w7.frozen? ⟨w4.heap.size, 0, none⟩ = false := s7.free 0
      have df1 : w7.frozen? ⟨w4.heap.size, 1, none⟩ = false := s7.free 1
      have l7 := s7.lt
      have hle := t7.size_le
      clear b7 s7
      go_wp2
      refine bodyPost_ret (v := .agg #[.int .u8 P, .int .i64 M]) (by simp [results, Try.results31, go_sem, e0, e1]) rfl ⟨P, M, rfl, hP0, hP1, ?_, ?_⟩
      · refine Rd.mono (k := k + 30 + 1 + 2) ?_ (by omega)
        repeat (first | exact r7.mono (by omega) | refine Rd.setCell ?_ (by simp; omega) _)
      · repeat (first | exact t7 | refine Only.setCell ?_ (by right; simp; try omega) _)
set_option maxRecDepth 100000 in
set_option maxHeartbeats 400000 in
theorem DrawBitPush_any (aa : Option Addr) (n c : Nat) (w : World) (h : IsCode w aa n c) : Calls Try.prog 6 #[.slice aa n c] w fun e w' =>
    ∃ (b m : Int) (x : Bool), e = .returned (.tuple #[.agg #[.int .u16 b, .int .i64 m], .bool x]) ∧ 0 ≤ b ∧ b < 65536 ∧ Below w.heap.size w w' := by
  have hb0 : Below w.heap.size w (w.alloc (.cells #[.int .u16 0, .int .i64 0] 25)) := (Below.refl _ _).alloc (Nat.le_refl _) _
  have h1 := h.below hb0
  have HB := Lib.hid (And.intro (Box.new w #[.int .u16 0, .int .i64 0] 25) hb0)
  clear hb0 h
  go_enter Try.func6, Try.ntmps6
  go_wp2_with fail
  refine (open_any aa n c _ h1).mono ?_
  rintro e w1 ⟨rfl, r1, hb1, hs1⟩
  have b1 := HB.out.1.kept hb1
  have t1 := bel_step HB.out.2 hb1 (by simp)
  simp at r1 hs1
  have hs1' : w1.heap.size = w.heap.size + 2 := by simp [hs1]
  clear hb1 h1 hs1
  go_wp2_with fail
  refine (pick_any w1 (w.heap.size + 1) 0 2 r1 (by omega)).mono ?_
  rintro e w2 ⟨y, rfl, _, _, _, r2, o2⟩
  have b2 := box_only b1 o2 (by omega)
  have t2 := Only.below t1 o2 t1.size (by omega)
  clear r1 b1 t1 o2
  go_wp2_with fail
  refine (l1Draw_any w2 (w.heap.size + 1) _ r2 (by omega)).mono ?_
  rintro e w7 ⟨b, m, rfl, hb0, hb1, r3, o3⟩
  have b7 := box_only b2 o3 (by omega)
  have t7 := Only.below t2 o3 t2.size (by omega)
  clear r2 b2 t2 o3 r3
  have e0 : w7.cell? ⟨w.heap.size, 0, none⟩ = some (.int .u16 0) := by have := b7.cell 0; simpa using this
  have e1 : w7.cell? ⟨w.heap.size, 1, none⟩ = some (.int .i64 0) := by have := b7.cell 1; simpa using this
  have ef0 : w7.frozen? ⟨w.heap.size, 0, none⟩ = false := b7.free 0
  have ef1 : w7.frozen? ⟨w.heap.size, 1, none⟩ = false := b7.free 1
  have l7 := b7.lt
  clear b7
  go_wp2
  refine bodyPost_ret (v := .tuple #[.agg #[.int .u16 b, .int .i64 m], .bool (y == 1)]) (by simp [results, Try.results6, go_sem, e0, e1]) rfl ⟨b, m, _, rfl, hb0, hb1, ?_⟩
  repeat (first | exact t7 | refine Below.setCell ?_ (by first | (simp; done) | (simp; omega) | omega) _)
set_option maxRecDepth 100000 in
set_option maxHeartbeats 400000 in
theorem DrawBitTurn_any (aa : Option Addr) (n c : Nat) (w : World) (h : IsCode w aa n c) : Calls Try.prog 14 #[.slice aa n c] w fun e w' =>
    ∃ (b m : Int) (x : Bool), e = .returned (.tuple #[.agg #[.int .u16 b, .int .i64 m], .bool x]) ∧ 0 ≤ b ∧ b < 65536 ∧ Below w.heap.size w w' := by
  have hb0 : Below w.heap.size w (w.alloc (.cells #[.int .u16 0, .int .i64 0] 25)) := (Below.refl _ _).alloc (Nat.le_refl _) _
  have h1 := h.below hb0
  have HB := Lib.hid (And.intro (Box.new w #[.int .u16 0, .int .i64 0] 25) hb0)
  clear hb0 h
  go_enter Try.func14, Try.ntmps14
  go_wp2_with fail
  refine (open_any aa n c _ h1).mono ?_
  rintro e w1 ⟨rfl, r1, hb1, hs1⟩
  have b1 := HB.out.1.kept hb1
  have t1 := bel_step HB.out.2 hb1 (by simp)
  simp at r1 hs1
  have hs1' : w1.heap.size = w.heap.size + 2 := by simp [hs1]
  clear hb1 h1 hs1
  go_wp2_with fail
  refine (pick_any w1 (w.heap.size + 1) 0 2 r1 (by omega)).mono ?_
  rintro e w2 ⟨y, rfl, _, _, _, r2, o2⟩
  have b2 := box_only b1 o2 (by omega)
  have t2 := Only.below t1 o2 t1.size (by omega)
  clear r1 b1 t1 o2
  go_wp2_with fail
  refine (l1Draw_any w2 (w.heap.size + 1) _ r2 (by omega)).mono ?_
  rintro e w7 ⟨b, m, rfl, hb0, hb1, r3, o3⟩
  have b7 := box_only b2 o3 (by omega)
  have t7 := Only.below t2 o3 t2.size (by omega)
  clear r2 b2 t2 o3 r3
  have e0 : w7.cell? ⟨w.heap.size, 0, none⟩ = some (.int .u16 0) := by have := b7.cell 0; simpa using this
  have e1 : w7.cell? ⟨w.heap.size, 1, none⟩ = some (.int .i64 0) := by have := b7.cell 1; simpa using this
  have ef0 : w7.frozen? ⟨w.heap.size, 0, none⟩ = false := b7.free 0
  have ef1 : w7.frozen? ⟨w.heap.size, 1, none⟩ = false := b7.free 1
  have l7 := b7.lt
  clear b7
  go_wp2
  refine bodyPost_ret (v := .tuple #[.agg #[.int .u16 b, .int .i64 m], .bool (y == 1)]) (by simp [results, Try.results14, go_sem, e0, e1]) rfl ⟨b, m, _, rfl, hb0, hb1, ?_⟩
  repeat (first | exact t7 | refine Below.setCell ?_ (by first | (simp; done) | (simp; omega) | omega) _)
set_option maxRecDepth 100000 in
set_option maxHeartbeats 400000 in
theorem DrawForkPush_any (aa : Option Addr) (n c : Nat) (w : World) (h : IsCode w aa n c) : Calls Try.prog 17 #[.slice aa n c] w fun e w' =>
    ∃ (b m : Int) (x : Bool), e = .returned (.tuple #[.agg #[.int .u8 b, .int .i64 m], .bool x]) ∧ 0 ≤ b ∧ b < 256 ∧ Below w.heap.size w w' := by
  have hb0 : Below w.heap.size w (w.alloc (.cells #[.int .u8 0, .int .i64 0] 36)) := (Below.refl _ _).alloc (Nat.le_refl _) _
  have h1 := h.below hb0
  have HB := Lib.hid (And.intro (Box.new w #[.int .u8 0, .int .i64 0] 36) hb0)
  clear hb0 h
  go_enter Try.func17, Try.ntmps17
  go_wp2_with fail
  refine (open_any aa n c _ h1).mono ?_
  rintro e w1 ⟨rfl, r1, hb1, hs1⟩
  have b1 := HB.out.1.kept hb1
  have t1 := bel_step HB.out.2 hb1 (by simp)
  simp at r1 hs1
  have hs1' : w1.heap.size = w.heap.size + 2 := by simp [hs1]
  clear hb1 h1 hs1
  go_wp2_with fail
  refine (pick_any w1 (w.heap.size + 1) 0 2 r1 (by omega)).mono ?_
  rintro e w2 ⟨y, rfl, _, _, _, r2, o2⟩
  have b2 := box_only b1 o2 (by omega)
  have t2 := Only.below t1 o2 t1.size (by omega)
  clear r1 b1 t1 o2
  go_wp2_with fail
  refine (l1DrawFork_any w2 (w.heap.size + 1) _ r2 (by omega)).mono ?_
  rintro e w7 ⟨b, m, rfl, hb0, hb1, r3, o3⟩
  have b7 := box_only b2 o3 (by omega)
  have t7 := Only.below t2 o3 t2.size (by omega)
  clear r2 b2 t2 o3 r3
  have e0 : w7.cell? ⟨w.heap.size, 0, none⟩ = some (.int .u8 0) := by have := b7.cell 0; simpa using this
  have e1 : w7.cell? ⟨w.heap.size, 1, none⟩ = some (.int .i64 0) := by have := b7.cell 1; simpa using this
  have ef0 : w7.frozen? ⟨w.heap.size, 0, none⟩ = false := b7.free 0
  have ef1 : w7.frozen? ⟨w.heap.size, 1, none⟩ = false := b7.free 1
  have l7 := b7.lt
  clear b7
  go_wp2
  refine bodyPost_ret (v := .tuple #[.agg #[.int .u8 b, .int .i64 m], .bool (y == 1)]) (by simp [results, Try.results17, go_sem, e0, e1]) rfl ⟨b, m, _, rfl, hb0, hb1, ?_⟩
  repeat (first | exact t7 | refine Below.setCell ?_ (by first | (simp; done) | (simp; omega) | omega) _)
end Go.Proofs.Ytblpidkkfhgjjaa
