/- The draws of stacks and forks. -/
import Derived.Test.YtblpidkkfhgjjaaDoorRows
import Derived.Test.YtblpidkkfhgjjaaDoorWBits6
import Derived.Test.YtblpidkkfhgjjaaDoorWBits10
import Derived.Test.YtblpidkkfhgjjaaDoorWDraw2
import Derived.WalkKit
import Derived.WalkSpells
import Derived.WalkLawsBesides
import Derived.OpenShut
import Derived.OwnWalk
import Derived.IntWalk
import Derived.Lib.Hide
import Derived.Deep.AppendLies
namespace Go.Proofs.YtblpidkkfhgjjaaDoor
open Go.RowKit Bx Rdr
set_option linter.unusedVariables false

theorem IsCode.below {w w' : World} {a : Option Addr} {n c : Nat} (h : IsCode w a n c) (hb : Below w.heap.size w w') : IsCode w' a n c := by
  rcases h with h | ⟨b, off, rfl, hc, hbl, hcell⟩
  · exact .inl h
  · refine .inr ⟨b, off, rfl, hc, Nat.lt_of_lt_of_le hbl hb.size, fun i hi => ?_⟩
    obtain ⟨u, hu, h1⟩ := hcell i hi
    exact ⟨u, hu, (hb.cell (p := ⟨b, off + i, none⟩) hbl).trans h1⟩
theorem box_only {w w' : World} {g b : Nat} {cs : Array Value} {t : TypeId} (h : Box w b cs t) (ho : Only g w w') (hne : b ≠ g) : Box w' b cs t := (ho.block b h.lt (by simp; exact hne)).trans h
theorem own_only {w w' : World} {g x c base : Nat} {xs : List Value} {t : TypeId} (h : Own t base w x c xs) (ho : Only g w w') (hne : x ≠ g) : Own t base w' x c xs := h.same (ho.block x h.lt.2 (by simp; exact hne))
theorem only_grown {a w w' : World} {g : Nat} {row : Option Nat} (h : Only g a w) (hg : w.grownBy w' row) (hrow : ∀ k, row = some k → a.heap.size ≤ k) : Only g a w' :=
  ⟨hg.os.trans h.os, hg.tape.trans h.tape, hg.output.trans h.output, Nat.le_trans h.size hg.size, fun k hk hne => (hg.block k (by have := h.size; omega) (fun e => by have := hrow k e.symm; omega)).trans (h.block k hk hne)⟩
set_option maxRecDepth 100000 in
set_option maxHeartbeats 400000 in
theorem l1Draw_any (w : World) (g k : Nat) (h : Rd 63 w g k) (hk : k ≤ 100000) : Calls Tryd.prog 18 #[.pointer (some ⟨g, 0, none⟩)] w fun e w' =>
    ∃ b n : Int, e = .returned (.agg #[.int .u16 b, .int .i64 n]) ∧ 0 ≤ b ∧ b < 65536 ∧ Rd 63 w' g (k + 30) ∧ Only g w w' := by
  obtain ⟨i0, hi0, hz0, hz1, hz2⟩ := info_parts infoB
  have hlt := h.lt
  have r0 : Rd 63 ((w.alloc (.cells #[.int .u16 0, .int .i64 0] 24)).alloc (.cells #[] 4)) g k := (h.alloc _).alloc _
  have o0 : Only g w ((w.alloc (.cells #[.int .u16 0, .int .i64 0] 24)).alloc (.cells #[] 4)) := ((Only.refl g w).alloc _).alloc _
  have b0 := (Box.new w #[.int .u16 0, .int .i64 0] 24).alloc (.cells #[] 4)
  have n0 := Own.made (t := 4) (w.alloc (.cells #[.int .u16 0, .int .i64 0] 24)) #[] (w.heap.size + 1) (by simp) (by decide)
  have HB := Lib.hid (And.intro b0 n0)
  have HO := Lib.hid o0
  clear b0 n0 o0
  go_enter Tryd.func18, Tryd.ntmps18
  go_wp2_with fail
  refine (pick_any _ g k 17 r0 (by omega)).mono ?_
  rintro e w1 ⟨x, rfl, hx0, hx, _, r1, o1⟩
  have hx2 := hx (by omega)
  have b1 := box_only HB.out.1 o1 (by omega)
  have n1 := own_only HB.out.2 o1 (by simp; omega)
  have t1 := HO.out.trans o1
  clear hx r0 o1 h
  go_wp2_with fail
  refine (pick_any _ g (k + 1) 4 r1 (by omega)).mono ?_
  rintro e w2 ⟨y, rfl, hy0, hy, _, r2, o2⟩
  have b2 := box_only b1 o2 (by omega)
  have n2 := own_only n1 o2 (by simp; omega)
  have t2 := t1.trans o2
  clear hy r1 o2 b1 n1 t1
  have lg := r2.lt
  have HY := Lib.hid (And.intro b2 (And.intro n2 t2))
  clear b2 n2 t2
  by_cases hz : y = 0
  · subst hz
    go_wp2_with fail
    refine (num_any (w2.alloc (.cells (([0, 1, 15, 16] : List Int).map (Value.int .i64)).toArray 3)) g (k + 2) w2.heap.size 4 4 (fun x => 0 ≤ x ∧ x ≤ 17) (r2.alloc _) (by omega) (by omega) (by omega) (by simp) (by omega) (cells_lit w2 [0, 1, 15, 16] 3 _ (by decide))).mono ?_
    rintro e w3 ⟨N, rfl, hN, r3, o3⟩
    have b3 := box_only (HY.out.1.alloc _) o3 (by omega)
    have n3 := own_only (HY.out.2.1.alloc _) o3 (by simp; omega)
    have t3 := (HY.out.2.2.alloc _).trans o3
    obtain ⟨m, rfl⟩ := Int.eq_ofNat_of_zero_le hN.1
    have hm : m ≤ 17 := by omega
    clear hN r2 o3 hx0 hx2 hy0
    go_wp2_with fail
    go_loopw [3, 5] (fun v i wr => ∃ (j gg c : Nat) (l : List Bool), j ≤ m ∧ l.length = j ∧ v = .slice (some ⟨gg, 0, none⟩) j c ∧ i = .int .i64 j ∧ Own 4 (w.heap.size + 1) wr gg c (l.map Value.bool) ∧ Box wr w.heap.size #[.int .u16 0, .int .i64 0] 24 ∧ Rd 63 wr g (k + 3 + j) ∧ Only g w wr) (fun _ i _ => m - (intOf i).toNat)
    case atStart => exact ⟨0, w.heap.size + 1, 0, [], by omega, rfl, by simp, rfl, by simpa using n3, b3, r3, t3⟩
    case round =>
      obtain ⟨j, gg, c, l, hj, hl, rfl, rfl, hown, hbox, hrd, hon⟩ := hrel
      clear b3 n3 r3 t3
      have hgl := hown.lt
      by_cases hlt2 : j < m
      · go_wp2_with fail
        refine (pick_any wr g (k + 3 + j) 2 hrd (by omega)).mono ?_
        rintro e w4 ⟨y2, rfl, _, _, _, r4, o4⟩
        have b4 := box_only hbox o4 (by omega)
        have n4 := own_only hown o4 (by omega)
        have t4 := hon.trans o4
        have hrow := n4.row (n := j) (by simpa using hl)
        have l4 := n4.lt
        have l5 := b4.lt
        have HN := Lib.hid (And.intro hl n4)
        clear hown hbox hrd hon o4 n4 hl
        go_wp2_with (first | (at_builtin; refine wpList_append_lies _ rfl _ _ 35 rfl _ 4 i0 (.bool false) 1 1 Tryd.underlying35 hi0 hz0 hz1 hz2 rfl (by decide) (.slice (some ⟨gg, 0, none⟩) j c) j _ rfl (hrow.alloc _) ⟨w4.heap.size, 0, none⟩ 1 1 [_] (by rfl) (by rfl) (World.news_of_block (cs := #[_]) (t := 4) (fr := (0, 0)) (heap_alloc_new w4 _)) (by simp [Value.oneCell']) (by omega) (by unfold maxLen; omega) (by omega) (by simp; omega) (w4.heap.size + 1) (by simp) ?_; intro ggg cap w5 hown5 hgrow hat hlt5))
        have b5 : Box w5 w.heap.size #[.int .u16 0, .int .i64 0] 24 := Own.box_grown (b4.alloc _) hgrow (show some w.heap.size ≠ some gg by simp; omega)
        have r5 : Rd 63 w5 g (k + 3 + j + 1) := (r4.alloc _).grown hgrow (by intro i hi; simp [Value.ownBlock] at hi; omega)
        have t5 : Only g w w5 := only_grown (t4.alloc _) hgrow (by intro i hi; simp [Value.ownBlock] at hi; omega)
        have n5 : Own 4 (w.heap.size + 1) w5 ggg cap ((l ++ [y2 == 1]).map Value.bool) := Own.of (n := j + 1) (by rw [List.map_append]; exact hown5) (by simp; exact HN.out.1)
        clear b4 r4 t4 hgrow hown5 hrow
        go_wp2
        go_roundw
        case rel => exact ⟨j + 1, ggg, cap, l ++ [y2 == 1], by omega, by simp; exact HN.out.1, rfl, by go_num, n5, b5, r5.mono (by omega), t5⟩
        case measure => simp [intOf]; omega
      · obtain rfl : j = m := by omega
        have hs := l1Stack_n l j gg c _ wr hl.symm (by omega) hown
        have hn16 : BitP.num (BitP.last 16 l) < 65536 := Nat.lt_of_lt_of_le (BitP.num_lt _) (pow16 (show (BitP.last 16 l).length ≤ 16 by rw [BitP.last_length]; omega) (by decide))
        obtain ⟨P, hP⟩ : ∃ P : Int, P = (BitP.num (BitP.last 16 l) : Int) := ⟨_, rfl⟩
        obtain ⟨Q, hQ⟩ : ∃ Q : Int, Q = ((min 16 l.length : Nat) : Int) := ⟨_, rfl⟩
        rw [← hP, ← hQ] at hs
        have hP0 : 0 ≤ P := by omega
        have hP1 : P < 65536 := by omega
        clear hP hQ hn16 hl hown
        go_wp2_with fail
        refine hs.mono ?_
        rintro e w4 ⟨rfl, hb4⟩
        have r4 := hrd.below hb4 hrd.lt
        have b4 := hbox.kept hb4
        have t4 := hon.trans (Only.of_below hb4)
        clear hs hb4 hrd hbox hon
        have r5 : Rd 63 (w4.alloc (.cells #[.int .u16 P, .int .i64 Q] 24)) g (k + 3 + j) := r4.alloc _
        have b5 := b4.alloc (.cells #[.int .u16 P, .int .i64 Q] 24)
        have s5 := Box.new w4 #[.int .u16 P, .int .i64 Q] 24
        have t5 : Only g w (w4.alloc (.cells #[.int .u16 P, .int .i64 Q] 24)) := t4.alloc _
        have l4 := b4.lt
        have l4g := r4.lt
        clear r4 b4 t4
        go_wp2_with fail
        refine (pick_any _ g (k + 3 + j) 20 r5 (by omega)).mono ?_
        rintro e w6 ⟨z, rfl, hz0', hz1', _, r6, o6⟩
        have b6 := box_only b5 o6 (by omega)
        have s6 := box_only s5 o6 (by omega)
        have t6 := t5.trans o6
        clear r5 b5 s5 t5 o6 hz0' hz1'
        by_cases z0 : z = 0
        · subst z0
          go_wp2_with fail
          refine (num_any (w6.alloc (.cells (([-1, 0, 17, 16, 1, -9223372036854775807, 9223372036854775807] : List Int).map (Value.int .i64)).toArray 3)) g (k + 3 + j + 1) w6.heap.size 7 7 (fun _ => True) (r6.alloc _) (by omega) (by omega) (by omega) (by simp) (by have := r6.lt; omega) (cells_lit w6 [-1, 0, 17, 16, 1, -9223372036854775807, 9223372036854775807] 3 _ (by simp))).mono ?_
          rintro e w7 ⟨v, rfl, _, r7, o7⟩
          have b7 := box_only (b6.alloc _) o7 (by omega)
          have s7 := box_only (s6.alloc _) o7 (by omega)
          have t7 := (t6.alloc _).trans o7
          clear r6 b6 s6 t6 o7
          have e0 : w7.cell? ⟨w.heap.size, 0, none⟩ = some (.int .u16 0) := by have := b7.cell 0; simpa using this
          have e1 : w7.cell? ⟨w.heap.size, 1, none⟩ = some (.int .i64 0) := by have := b7.cell 1; simpa using this
          have f0 : w7.frozen? ⟨w.heap.size, 0, none⟩ = false := b7.free 0
          have f1 : w7.frozen? ⟨w.heap.size, 1, none⟩ = false := b7.free 1
          have d0 : w7.cell? ⟨w4.heap.size, 0, none⟩ = some (.int .u16 P) := by have := s7.cell 0; simpa using this
          have d1 : w7.cell? ⟨w4.heap.size, 1, none⟩ = some (.int .i64 Q) := by have := s7.cell 1; simpa using this
          have k0 : w7.frozen? ⟨w4.heap.size, 0, none⟩ = false := s7.free 0
          have k1 : w7.frozen? ⟨w4.heap.size, 1, none⟩ = false := s7.free 1
          have l7 := s7.lt
          have hle := t7.size_le
          clear b7 s7
          go_wp2
          refine bodyPost_ret (v := .agg #[.int .u16 P, .int .i64 v]) (by simp [results, Tryd.results18, go_sem, e0, e1]) rfl ⟨P, v, rfl, hP0, hP1, ?_, ?_⟩
          · refine Rd.mono (k := k + 3 + j + 1 + 2) ?_ (by omega)
            repeat (first | exact r7.mono (by omega) | refine Rd.setCell ?_ (by simp; omega) _)
          · repeat (first | exact t7 | refine Only.setCell ?_ (by right; simp; try omega) _)
        · have z0' : (z == 0) = false := by simpa using z0
          by_cases z1 : z = 1
          · subst z1
            go_wp2_with fail
            refine (pick_any _ g (k + 3 + j + 1) 256 r6 (by omega)).mono ?_
            rintro e w6a ⟨u, rfl, hu0, hu1, _, r6a, o6a⟩
            have hu1 := hu1 (by omega)
            have b6a := box_only b6 o6a (by omega)
            have s6a := box_only s6 o6a (by omega)
            have t6a := t6.trans o6a
            clear r6 b6 s6 t6 o6a
            go_wp2_with fail
            refine (pick_any _ g (k + 3 + j + 1 + 1) 256 r6a (by omega)).mono ?_
            rintro e w7 ⟨v, rfl, hv0, hv1, _, r7, o7⟩
            have hv1 := hv1 (by omega)
            have b7 := box_only b6a o7 (by omega)
            have s7 := box_only s6a o7 (by omega)
            have t7 := t6a.trans o7
            clear r6a b6a s6a t6a o7
            have hw16 : IntKind.u16.wrap (u * 256 + v) = u * 256 + v := by rw [IntKind.wrap_u16]; omega
            have e0 : w7.cell? ⟨w.heap.size, 0, none⟩ = some (.int .u16 0) := by have := b7.cell 0; simpa using this
            have e1 : w7.cell? ⟨w.heap.size, 1, none⟩ = some (.int .i64 0) := by have := b7.cell 1; simpa using this
            have f0 : w7.frozen? ⟨w.heap.size, 0, none⟩ = false := b7.free 0
            have f1 : w7.frozen? ⟨w.heap.size, 1, none⟩ = false := b7.free 1
            have d0 : w7.cell? ⟨w4.heap.size, 0, none⟩ = some (.int .u16 P) := by have := s7.cell 0; simpa using this
            have d1 : w7.cell? ⟨w4.heap.size, 1, none⟩ = some (.int .i64 Q) := by have := s7.cell 1; simpa using this
            have k0 : w7.frozen? ⟨w4.heap.size, 0, none⟩ = false := s7.free 0
            have k1 : w7.frozen? ⟨w4.heap.size, 1, none⟩ = false := s7.free 1
            have l7 := s7.lt
            have hle := t7.size_le
            clear b7 s7
            go_wp2
            refine bodyPost_ret (v := .agg #[.int .u16 (u * 256 + v), .int .i64 Q]) (by simp [results, Tryd.results18, go_sem, e0, e1]) rfl ⟨_, Q, rfl, by omega, by omega, ?_, ?_⟩
            · refine Rd.mono (k := k + 3 + j + 1 + 2) ?_ (by omega)
              repeat (first | exact r7.mono (by omega) | refine Rd.setCell ?_ (by simp; omega) _)
            · repeat (first | exact t7 | refine Only.setCell ?_ (by right; simp; try omega) _)
          · have z1' : (z == 1) = false := by simpa using z1
            have b7 := b6
            have s7 := s6
            have t7 := t6
            have r7 := r6
            obtain ⟨w7, hw7⟩ : ∃ w7, w7 = w6 := ⟨_, rfl⟩
            rw [← hw7] at b7 s7 t7 r7 ⊢
            clear r6 b6 s6 t6 hw7
            have e0 : w7.cell? ⟨w.heap.size, 0, none⟩ = some (.int .u16 0) := by have := b7.cell 0; simpa using this
            have e1 : w7.cell? ⟨w.heap.size, 1, none⟩ = some (.int .i64 0) := by have := b7.cell 1; simpa using this
            have f0 : w7.frozen? ⟨w.heap.size, 0, none⟩ = false := b7.free 0
            have f1 : w7.frozen? ⟨w.heap.size, 1, none⟩ = false := b7.free 1
            have d0 : w7.cell? ⟨w4.heap.size, 0, none⟩ = some (.int .u16 P) := by have := s7.cell 0; simpa using this
            have d1 : w7.cell? ⟨w4.heap.size, 1, none⟩ = some (.int .i64 Q) := by have := s7.cell 1; simpa using this
            have k0 : w7.frozen? ⟨w4.heap.size, 0, none⟩ = false := s7.free 0
            have k1 : w7.frozen? ⟨w4.heap.size, 1, none⟩ = false := s7.free 1
            have l7 := s7.lt
            have hle := t7.size_le
            clear b7 s7
            go_wp2
            refine bodyPost_ret (v := .agg #[.int .u16 P, .int .i64 Q]) (by simp [results, Tryd.results18, go_sem, e0, e1]) rfl ⟨P, Q, rfl, hP0, hP1, ?_, ?_⟩
            · refine Rd.mono (k := k + 3 + j + 1 + 2) ?_ (by omega)
              repeat (first | exact r7.mono (by omega) | refine Rd.setCell ?_ (by simp; omega) _)
            · repeat (first | exact t7 | refine Only.setCell ?_ (by right; simp; try omega) _)
  · have hz' : (y == 0) = false := by simpa using hz
    have b3 := HY.out.1
    have n3 := HY.out.2.1
    have t3 := HY.out.2.2
    have r3 := r2.mono (k' := k + 2 + 1) (by omega)
    obtain ⟨m, rfl⟩ := Int.eq_ofNat_of_zero_le hx0
    have hm : m ≤ 17 := by omega
    clear r2 hy0 hx2 hx0 hz
    go_wp2_with fail
    go_loopw [3, 5] (fun v i wr => ∃ (j gg c : Nat) (l : List Bool), j ≤ m ∧ l.length = j ∧ v = .slice (some ⟨gg, 0, none⟩) j c ∧ i = .int .i64 j ∧ Own 4 (w.heap.size + 1) wr gg c (l.map Value.bool) ∧ Box wr w.heap.size #[.int .u16 0, .int .i64 0] 24 ∧ Rd 63 wr g (k + 3 + j) ∧ Only g w wr) (fun _ i _ => m - (intOf i).toNat)
    case atStart => exact ⟨0, w.heap.size + 1, 0, [], by omega, rfl, by simp, rfl, by simpa using n3, b3, r3, t3⟩
    case round =>
      obtain ⟨j, gg, c, l, hj, hl, rfl, rfl, hown, hbox, hrd, hon⟩ := hrel
      clear b3 n3 r3 t3
      have hgl := hown.lt
      by_cases hlt2 : j < m
      · go_wp2_with fail
        refine (pick_any wr g (k + 3 + j) 2 hrd (by omega)).mono ?_
        rintro e w4 ⟨y2, rfl, _, _, _, r4, o4⟩
        have b4 := box_only hbox o4 (by omega)
        have n4 := own_only hown o4 (by omega)
        have t4 := hon.trans o4
        have hrow := n4.row (n := j) (by simpa using hl)
        have l4 := n4.lt
        have l5 := b4.lt
        have HN := Lib.hid (And.intro hl n4)
        clear hown hbox hrd hon o4 n4 hl
        go_wp2_with (first | (at_builtin; refine wpList_append_lies _ rfl _ _ 35 rfl _ 4 i0 (.bool false) 1 1 Tryd.underlying35 hi0 hz0 hz1 hz2 rfl (by decide) (.slice (some ⟨gg, 0, none⟩) j c) j _ rfl (hrow.alloc _) ⟨w4.heap.size, 0, none⟩ 1 1 [_] (by rfl) (by rfl) (World.news_of_block (cs := #[_]) (t := 4) (fr := (0, 0)) (heap_alloc_new w4 _)) (by simp [Value.oneCell']) (by omega) (by unfold maxLen; omega) (by omega) (by simp; omega) (w4.heap.size + 1) (by simp) ?_; intro ggg cap w5 hown5 hgrow hat hlt5))
        have b5 : Box w5 w.heap.size #[.int .u16 0, .int .i64 0] 24 := Own.box_grown (b4.alloc _) hgrow (show some w.heap.size ≠ some gg by simp; omega)
        have r5 : Rd 63 w5 g (k + 3 + j + 1) := (r4.alloc _).grown hgrow (by intro i hi; simp [Value.ownBlock] at hi; omega)
        have t5 : Only g w w5 := only_grown (t4.alloc _) hgrow (by intro i hi; simp [Value.ownBlock] at hi; omega)
        have n5 : Own 4 (w.heap.size + 1) w5 ggg cap ((l ++ [y2 == 1]).map Value.bool) := Own.of (n := j + 1) (by rw [List.map_append]; exact hown5) (by simp; exact HN.out.1)
        clear b4 r4 t4 hgrow hown5 hrow
        go_wp2
        go_roundw
        case rel => exact ⟨j + 1, ggg, cap, l ++ [y2 == 1], by omega, by simp; exact HN.out.1, rfl, by go_num, n5, b5, r5.mono (by omega), t5⟩
        case measure => simp [intOf]; omega
      · obtain rfl : j = m := by omega
        have hs := l1Stack_n l j gg c _ wr hl.symm (by omega) hown
        have hn16 : BitP.num (BitP.last 16 l) < 65536 := Nat.lt_of_lt_of_le (BitP.num_lt _) (pow16 (show (BitP.last 16 l).length ≤ 16 by rw [BitP.last_length]; omega) (by decide))
        obtain ⟨P, hP⟩ : ∃ P : Int, P = (BitP.num (BitP.last 16 l) : Int) := ⟨_, rfl⟩
        obtain ⟨Q, hQ⟩ : ∃ Q : Int, Q = ((min 16 l.length : Nat) : Int) := ⟨_, rfl⟩
        rw [← hP, ← hQ] at hs
        have hP0 : 0 ≤ P := by omega
        have hP1 : P < 65536 := by omega
        clear hP hQ hn16 hl hown
        go_wp2_with fail
        refine hs.mono ?_
        rintro e w4 ⟨rfl, hb4⟩
        have r4 := hrd.below hb4 hrd.lt
        have b4 := hbox.kept hb4
        have t4 := hon.trans (Only.of_below hb4)
        clear hs hb4 hrd hbox hon
        have r5 : Rd 63 (w4.alloc (.cells #[.int .u16 P, .int .i64 Q] 24)) g (k + 3 + j) := r4.alloc _
        have b5 := b4.alloc (.cells #[.int .u16 P, .int .i64 Q] 24)
        have s5 := Box.new w4 #[.int .u16 P, .int .i64 Q] 24
        have t5 : Only g w (w4.alloc (.cells #[.int .u16 P, .int .i64 Q] 24)) := t4.alloc _
        have l4 := b4.lt
        have l4g := r4.lt
        clear r4 b4 t4
        go_wp2_with fail
        refine (pick_any _ g (k + 3 + j) 20 r5 (by omega)).mono ?_
        rintro e w6 ⟨z, rfl, hz0', hz1', _, r6, o6⟩
        have b6 := box_only b5 o6 (by omega)
        have s6 := box_only s5 o6 (by omega)
        have t6 := t5.trans o6
        clear r5 b5 s5 t5 o6 hz0' hz1'
        by_cases z0 : z = 0
        · subst z0
          go_wp2_with fail
          refine (num_any (w6.alloc (.cells (([-1, 0, 17, 16, 1, -9223372036854775807, 9223372036854775807] : List Int).map (Value.int .i64)).toArray 3)) g (k + 3 + j + 1) w6.heap.size 7 7 (fun _ => True) (r6.alloc _) (by omega) (by omega) (by omega) (by simp) (by have := r6.lt; omega) (cells_lit w6 [-1, 0, 17, 16, 1, -9223372036854775807, 9223372036854775807] 3 _ (by simp))).mono ?_
          rintro e w7 ⟨v, rfl, _, r7, o7⟩
          have b7 := box_only (b6.alloc _) o7 (by omega)
          have s7 := box_only (s6.alloc _) o7 (by omega)
          have t7 := (t6.alloc _).trans o7
          clear r6 b6 s6 t6 o7
          have e0 : w7.cell? ⟨w.heap.size, 0, none⟩ = some (.int .u16 0) := by have := b7.cell 0; simpa using this
          have e1 : w7.cell? ⟨w.heap.size, 1, none⟩ = some (.int .i64 0) := by have := b7.cell 1; simpa using this
          have f0 : w7.frozen? ⟨w.heap.size, 0, none⟩ = false := b7.free 0
          have f1 : w7.frozen? ⟨w.heap.size, 1, none⟩ = false := b7.free 1
          have d0 : w7.cell? ⟨w4.heap.size, 0, none⟩ = some (.int .u16 P) := by have := s7.cell 0; simpa using this
          have d1 : w7.cell? ⟨w4.heap.size, 1, none⟩ = some (.int .i64 Q) := by have := s7.cell 1; simpa using this
          have k0 : w7.frozen? ⟨w4.heap.size, 0, none⟩ = false := s7.free 0
          have k1 : w7.frozen? ⟨w4.heap.size, 1, none⟩ = false := s7.free 1
          have l7 := s7.lt
          have hle := t7.size_le
          clear b7 s7
          go_wp2
          refine bodyPost_ret (v := .agg #[.int .u16 P, .int .i64 v]) (by simp [results, Tryd.results18, go_sem, e0, e1]) rfl ⟨P, v, rfl, hP0, hP1, ?_, ?_⟩
          · refine Rd.mono (k := k + 3 + j + 1 + 2) ?_ (by omega)
            repeat (first | exact r7.mono (by omega) | refine Rd.setCell ?_ (by simp; omega) _)
          · repeat (first | exact t7 | refine Only.setCell ?_ (by right; simp; try omega) _)
        · have z0' : (z == 0) = false := by simpa using z0
          by_cases z1 : z = 1
          · subst z1
            go_wp2_with fail
            refine (pick_any _ g (k + 3 + j + 1) 256 r6 (by omega)).mono ?_
            rintro e w6a ⟨u, rfl, hu0, hu1, _, r6a, o6a⟩
            have hu1 := hu1 (by omega)
            have b6a := box_only b6 o6a (by omega)
            have s6a := box_only s6 o6a (by omega)
            have t6a := t6.trans o6a
            clear r6 b6 s6 t6 o6a
            go_wp2_with fail
            refine (pick_any _ g (k + 3 + j + 1 + 1) 256 r6a (by omega)).mono ?_
            rintro e w7 ⟨v, rfl, hv0, hv1, _, r7, o7⟩
            have hv1 := hv1 (by omega)
            have b7 := box_only b6a o7 (by omega)
            have s7 := box_only s6a o7 (by omega)
            have t7 := t6a.trans o7
            clear r6a b6a s6a t6a o7
            have hw16 : IntKind.u16.wrap (u * 256 + v) = u * 256 + v := by rw [IntKind.wrap_u16]; omega
            have e0 : w7.cell? ⟨w.heap.size, 0, none⟩ = some (.int .u16 0) := by have := b7.cell 0; simpa using this
            have e1 : w7.cell? ⟨w.heap.size, 1, none⟩ = some (.int .i64 0) := by have := b7.cell 1; simpa using this
            have f0 : w7.frozen? ⟨w.heap.size, 0, none⟩ = false := b7.free 0
            have f1 : w7.frozen? ⟨w.heap.size, 1, none⟩ = false := b7.free 1
            have d0 : w7.cell? ⟨w4.heap.size, 0, none⟩ = some (.int .u16 P) := by have := s7.cell 0; simpa using this
            have d1 : w7.cell? ⟨w4.heap.size, 1, none⟩ = some (.int .i64 Q) := by have := s7.cell 1; simpa using this
            have k0 : w7.frozen? ⟨w4.heap.size, 0, none⟩ = false := s7.free 0
            have k1 : w7.frozen? ⟨w4.heap.size, 1, none⟩ = false := s7.free 1
            have l7 := s7.lt
            have hle := t7.size_le
            clear b7 s7
            go_wp2
            refine bodyPost_ret (v := .agg #[.int .u16 (u * 256 + v), .int .i64 Q]) (by simp [results, Tryd.results18, go_sem, e0, e1]) rfl ⟨_, Q, rfl, by omega, by omega, ?_, ?_⟩
            · refine Rd.mono (k := k + 3 + j + 1 + 2) ?_ (by omega)
              repeat (first | exact r7.mono (by omega) | refine Rd.setCell ?_ (by simp; omega) _)
            · repeat (first | exact t7 | refine Only.setCell ?_ (by right; simp; try omega) _)
          · have z1' : (z == 1) = false := by simpa using z1
            have b7 := b6
            have s7 := s6
            have t7 := t6
            have r7 := r6
            obtain ⟨w7, hw7⟩ : ∃ w7, w7 = w6 := ⟨_, rfl⟩
            rw [← hw7] at b7 s7 t7 r7 ⊢
            clear r6 b6 s6 t6 hw7
            have e0 : w7.cell? ⟨w.heap.size, 0, none⟩ = some (.int .u16 0) := by have := b7.cell 0; simpa using this
            have e1 : w7.cell? ⟨w.heap.size, 1, none⟩ = some (.int .i64 0) := by have := b7.cell 1; simpa using this
            have f0 : w7.frozen? ⟨w.heap.size, 0, none⟩ = false := b7.free 0
            have f1 : w7.frozen? ⟨w.heap.size, 1, none⟩ = false := b7.free 1
            have d0 : w7.cell? ⟨w4.heap.size, 0, none⟩ = some (.int .u16 P) := by have := s7.cell 0; simpa using this
            have d1 : w7.cell? ⟨w4.heap.size, 1, none⟩ = some (.int .i64 Q) := by have := s7.cell 1; simpa using this
            have k0 : w7.frozen? ⟨w4.heap.size, 0, none⟩ = false := s7.free 0
            have k1 : w7.frozen? ⟨w4.heap.size, 1, none⟩ = false := s7.free 1
            have l7 := s7.lt
            have hle := t7.size_le
            clear b7 s7
            go_wp2
            refine bodyPost_ret (v := .agg #[.int .u16 P, .int .i64 Q]) (by simp [results, Tryd.results18, go_sem, e0, e1]) rfl ⟨P, Q, rfl, hP0, hP1, ?_, ?_⟩
            · refine Rd.mono (k := k + 3 + j + 1 + 2) ?_ (by omega)
              repeat (first | exact r7.mono (by omega) | refine Rd.setCell ?_ (by simp; omega) _)
            · repeat (first | exact t7 | refine Only.setCell ?_ (by right; simp; try omega) _)
end Go.Proofs.YtblpidkkfhgjjaaDoor
