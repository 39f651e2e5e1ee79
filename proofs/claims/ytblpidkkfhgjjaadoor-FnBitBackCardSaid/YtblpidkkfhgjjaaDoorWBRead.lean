/- The walks of BitRead, the program's and the reference's. -/
import Derived.Test.YtblpidkkfhgjjaaDoorRows
import Derived.Test.YtblpidkkfhgjjaaDoorWBits4
import Derived.Test.YtblpidkkfhgjjaaDoorBitR
import Derived.Test.YtblpidkkfhgjjaaDoorShelf
import Derived.WalkKit
import Derived.WalkSpells
import Derived.WalkLawsBesides
import Derived.OpenShut
import Derived.OwnWalk
import Derived.IntWalk
import Derived.Lib.Hide
import Derived.Deep.AppendLies
import Derived.Deep.RegionHeld3
namespace Go.Proofs.YtblpidkkfhgjjaaDoor
open Go.RowKit Bx Go.Shelf
set_option linter.unusedVariables false

/-- what BitRead gives -/
def Reads (t : ByteArray) (w : World) (e : Ending) (w' : World) : Prop :=
  ∃ (b n : Int) (ok : Bool), e = .returned (.tuple #[.agg #[.int .u16 b, .int .i64 n], .bool ok]) ∧ ((BitR.okT t ∧ ok = true ∧ b = (BitP.num (BitR.bl t (t.size - 1)) : Int) ∧ n = ((t.size - 1 : Nat) : Int)) ∨ (¬ BitR.okT t ∧ ok = false ∧ b = 0 ∧ n = 0)) ∧ Below w.heap.size w w'
theorem reads_no {t : ByteArray} {w w' : World} (h : ¬ BitR.okT t) (hb : Below w.heap.size w w') : Reads t w (.returned (.tuple #[.agg #[.int .u16 0, .int .i64 0], .bool false])) w' := ⟨0, 0, false, rfl, .inr ⟨h, rfl, rfl, rfl⟩, hb⟩
theorem ne_facts {t : ByteArray} (h : 1 ≤ t.size) : ¬ t.toList = [] ∧ t.toList.isEmpty = false := by
  have h2 : ¬ t.toList = [] := by
    rw [ByteArray.toList_eq]
    intro h3
    have := BitR.size_list t
    rw [h3] at this
    simp at this; omega
  exact ⟨h2, by cases h3 : t.toList with | nil => exact absurd h3 h2 | cons a r => rfl⟩
theorem empty_of {t : ByteArray} (h : t.size = 0) : t = ⟨#[]⟩ := by
  cases t with
  | mk d =>
    congr 1
    exact Array.eq_empty_of_size_eq_zero h
set_option maxRecDepth 100000 in
set_option maxHeartbeats 2000000 in
theorem sRead_no0 (w : World) : Calls Tryd.prog 5 #[.string ⟨#[]⟩] w (Reads ⟨#[]⟩ w) := by
  have hno : Hid (¬ BitR.okT ⟨#[]⟩) := Lib.hid (fun hk => by have := hk.1; exact absurd this (by decide))
  have e : (ByteArray.mk #[]).toList = [] := by rw [ByteArray.toList_eq]
  go_enter Tryd.func5, Tryd.ntmps5
  go_wp2
  refine bodyPost_ret (v := .tuple #[.agg #[.int .u16 0, .int .i64 0], .bool false]) (by simp [results, Tryd.results5, go_sem]) rfl (reads_no hno.out ?_)
  repeat (first | exact Below.refl _ _ | refine Below.setCell ?_ (by first | (simp; done) | (simp; omega) | omega) _ | refine Below.alloc ?_ (by first | (simp; done) | (simp; omega) | omega) _)
set_option maxRecDepth 100000 in
set_option maxHeartbeats 2000000 in
theorem sRead_no1 (t : ByteArray) (h : 1 ≤ t.size) (h0 : ¬ BitR.byte t 0 = 124) (w : World) : Calls Tryd.prog 5 #[.string t] w (Reads t w) := by
  have hno : Hid (¬ BitR.okT t) := Lib.hid (fun hk => h0 hk.2.2.1)
  have h1 : 0 < t.size := by omega
  obtain ⟨n1, n2⟩ := ne_facts h
  have e0 : ¬ (t[0].toNat : Int) = 124 := by
    rw [BitR.byte_get t 0 h1]
    intro h2
    exact h0 (UInt8.toNat_inj.1 (by have : (124 : UInt8).toNat = 124 := rfl; omega))
  clear h0
  go_enter Tryd.func5, Tryd.ntmps5
  go_wp2
  refine bodyPost_ret (v := .tuple #[.agg #[.int .u16 0, .int .i64 0], .bool false]) (by simp [results, Tryd.results5, go_sem]) rfl (reads_no hno.out ?_)
  repeat (first | exact Below.refl _ _ | refine Below.setCell ?_ (by first | (simp; done) | (simp; omega) | omega) _ | refine Below.alloc ?_ (by first | (simp; done) | (simp; omega) | omega) _)
set_option maxRecDepth 100000 in
set_option maxHeartbeats 2000000 in
theorem sRead_no2 (t : ByteArray) (h : 17 < t.size) (hm : t.size ≤ 1048576) (h0 : BitR.byte t 0 = 124) (w : World) : Calls Tryd.prog 5 #[.string t] w (Reads t w) := by
  have hno : Hid (¬ BitR.okT t) := Lib.hid (fun hk => by have := hk.2.1; omega)
  have h1 : 0 < t.size := by omega
  obtain ⟨n1, n2⟩ := ne_facts h1
  have e0 : (t[0].toNat : Int) = 124 := by rw [BitR.byte_get t 0 h1, h0]; rfl
  have e1 : (17 : Int) < (t.size : Int) := by omega
  clear h0
  go_enter Tryd.func5, Tryd.ntmps5
  go_wp2
  refine bodyPost_ret (v := .tuple #[.agg #[.int .u16 0, .int .i64 0], .bool false]) (by simp [results, Tryd.results5, go_sem]) rfl (reads_no hno.out ?_)
  repeat (first | exact Below.refl _ _ | refine Below.setCell ?_ (by first | (simp; done) | (simp; omega) | omega) _ | refine Below.alloc ?_ (by first | (simp; done) | (simp; omega) | omega) _)
set_option maxRecDepth 100000 in
set_option maxHeartbeats 2000000 in
theorem sRead_go (t : ByteArray) (h : 1 ≤ t.size) (hm : t.size ≤ 17) (h0 : BitR.byte t 0 = 124) (w : World) : Calls Tryd.prog 5 #[.string t] w (Reads t w) := by
  obtain ⟨i0, hi0, hz0, hz1, hz2⟩ := info_parts infoB
  have h1 : 0 < t.size := by omega
  obtain ⟨n1, n2⟩ := ne_facts h1
  have e0 : (t[0].toNat : Int) = 124 := by rw [BitR.byte_get t 0 h1, h0]; rfl
  have e1 : (t.size : Int) ≤ 17 := by omega
  have b0 := (Box.new w #[.int .u16 0, .int .i64 0] 24).alloc (.cells #[] 4)
  have r0 := Own.made (t := 4) (w.alloc (.cells #[.int .u16 0, .int .i64 0] 24)) #[] (w.heap.size + 1) (by simp) (by decide)
  have hB0 : Below w.heap.size w ((w.alloc (.cells #[.int .u16 0, .int .i64 0] 24)).alloc (.cells #[] 4)) := ((Below.refl _ _).alloc (Nat.le_refl _) _).alloc (by simp) _
  have HS := Lib.hid (And.intro b0 (And.intro r0 hB0))
  have H0 := Lib.hid h0
  clear b0 r0 hB0 h0
  go_enter Tryd.func5, Tryd.ntmps5
  go_wp2_with fail
  go_loopw [4, 5] (fun v i wr => ∃ (j m gg c : Nat), j = m + 1 ∧ j ≤ t.size ∧ v = .slice (some ⟨gg, 0, none⟩) m c ∧ i = .int .i64 j ∧ Own 4 (w.heap.size + 1) wr gg c ((BitR.bl t m).map Value.bool) ∧ (∀ q, 1 ≤ q → q < j → BitR.byte t q = 48 ∨ BitR.byte t q = 49) ∧ Box wr w.heap.size #[.int .u16 0, .int .i64 0] 24 ∧ Below w.heap.size w wr) (fun _ i _ => t.size - (intOf i).toNat)
  case atStart => exact ⟨1, 0, w.heap.size + 1, 0, rfl, h, by simp, rfl, by simpa [BitR.bl] using HS.out.2.1, fun q h1 h2 => by omega, HS.out.1, HS.out.2.2⟩
  case round =>
    obtain ⟨j, m, gg, c, hjm, hj, rfl, rfl, hown, hgood, hbox, hbel⟩ := hrel
    clear HS
    have HG := Lib.hid hgood
    clear hgood
    have hm16 : m ≤ 16 := by omega
    have HJ := Lib.hid hjm
    by_cases hlt : j < t.size
    · have d1 : (j : Int) < (t.size : Int) := by omega
      have hbz := BitR.byte_get t j hlt
      have hj16 : j ≤ 16 := by omega
      by_cases hc : BitR.byte t j = 48 ∨ BitR.byte t j = 49
      · have HG2 : Hid (∀ q, 1 ≤ q → q < j + 1 → BitR.byte t q = 48 ∨ BitR.byte t q = 49) := Lib.hid (fun q h1 h2 => by
          by_cases hq : q = j
          · rw [hq]; exact hc
          · exact HG.out q h1 (by omega))
        have HB2 : Hid (BitR.bl t (m + 1) = BitR.bl t m ++ [BitR.byte t j == 49]) := Lib.hid (by rw [BitR.bl_succ, ← hjm])
        have hrow := hown.row (n := m) (by simp [BitR.bl_length])
        have lg := hown.lt
        have lb := hbox.lt
        clear hown HG hjm
        rcases hc with hc | hc
        · have e2 : (t[j].toNat : Int) = 48 := by rw [hbz, hc]; rfl
          have HB3 : Hid (BitR.bl t (m + 1) = BitR.bl t m ++ [false]) := by rw [hc] at HB2; exact HB2
          clear hc hbz HB2
          go_wp2_with (first | (at_builtin; refine wpList_append_lies _ rfl _ _ 35 rfl _ 4 i0 (.bool false) 1 1 Tryd.underlying35 hi0 hz0 hz1 hz2 rfl (by decide) (.slice (some ⟨gg, 0, none⟩) m c) m _ rfl (hrow.alloc _) ⟨wr.heap.size, 0, none⟩ 1 1 [_] (by rfl) (by rfl) (World.news_of_block (cs := #[_]) (t := 4) (fr := (0, 0)) (heap_alloc_new wr _)) (by simp [Value.oneCell']) (by omega) (by unfold maxLen; omega) (by omega) (by simp; omega) (wr.heap.size + 1) (by simp) ?_; intro ggg cap w5 hown5 hgrow hat hlt5))
          have b5 : Box w5 w.heap.size #[.int .u16 0, .int .i64 0] 24 := Own.box_grown (hbox.alloc _) hgrow (show some w.heap.size ≠ some gg by simp; omega)
          have B5 : Below w.heap.size w w5 := below_grown (hbel.alloc hbel.size _) hgrow (by intro i hi; simp [Value.ownBlock] at hi; omega) (Nat.le_refl _)
          have n5 : Own 4 (w.heap.size + 1) w5 ggg cap ((BitR.bl t (m + 1)).map Value.bool) := Own.of (n := m + 1) (by rw [HB3.out, List.map_append]; exact hown5) (by simp [BitR.bl_length])
          have H5 := Lib.hid (And.intro n5 (And.intro b5 B5))
          clear hgrow hown5 hrow hbox hbel n5 b5 B5 hat hlt5
          go_wp2
          go_roundw
          case rel => exact ⟨j + 1, m + 1, ggg, cap, by have := HJ.out; omega, by omega, rfl, by go_num, H5.out.1, HG2.out, H5.out.2.1, H5.out.2.2⟩
          case measure => simp [intOf]; omega
        · have e2 : (t[j].toNat : Int) = 49 := by rw [hbz, hc]; rfl
          have HB3 : Hid (BitR.bl t (m + 1) = BitR.bl t m ++ [true]) := by rw [hc] at HB2; exact HB2
          clear hc hbz HB2
          go_wp2_with (first | (at_builtin; refine wpList_append_lies _ rfl _ _ 35 rfl _ 4 i0 (.bool false) 1 1 Tryd.underlying35 hi0 hz0 hz1 hz2 rfl (by decide) (.slice (some ⟨gg, 0, none⟩) m c) m _ rfl (hrow.alloc _) ⟨wr.heap.size, 0, none⟩ 1 1 [_] (by rfl) (by rfl) (World.news_of_block (cs := #[_]) (t := 4) (fr := (0, 0)) (heap_alloc_new wr _)) (by simp [Value.oneCell']) (by omega) (by unfold maxLen; omega) (by omega) (by simp; omega) (wr.heap.size + 1) (by simp) ?_; intro ggg cap w5 hown5 hgrow hat hlt5))
          have b5 : Box w5 w.heap.size #[.int .u16 0, .int .i64 0] 24 := Own.box_grown (hbox.alloc _) hgrow (show some w.heap.size ≠ some gg by simp; omega)
          have B5 : Below w.heap.size w w5 := below_grown (hbel.alloc hbel.size _) hgrow (by intro i hi; simp [Value.ownBlock] at hi; omega) (Nat.le_refl _)
          have n5 : Own 4 (w.heap.size + 1) w5 ggg cap ((BitR.bl t (m + 1)).map Value.bool) := Own.of (n := m + 1) (by rw [HB3.out, List.map_append]; exact hown5) (by simp [BitR.bl_length])
          have H5 := Lib.hid (And.intro n5 (And.intro b5 B5))
          clear hgrow hown5 hrow hbox hbel n5 b5 B5 hat hlt5
          go_wp2
          go_roundw
          case rel => exact ⟨j + 1, m + 1, ggg, cap, by have := HJ.out; omega, by omega, rfl, by go_num, H5.out.1, HG2.out, H5.out.2.1, H5.out.2.2⟩
          case measure => simp [intOf]; omega
      · have e2 : ¬ (t[j].toNat : Int) = 48 := by
          rw [hbz]; intro h2; exact hc (.inl (UInt8.toNat_inj.1 (by have : (48 : UInt8).toNat = 48 := rfl; omega)))
        have e3 : ¬ (t[j].toNat : Int) = 49 := by
          rw [hbz]; intro h2; exact hc (.inr (UInt8.toNat_inj.1 (by have : (49 : UInt8).toNat = 49 := rfl; omega)))
        have hno : Hid (¬ BitR.okT t) := Lib.hid (fun hk => hc (hk.2.2.2 j (by omega) hlt))
        have q2 : ((t[j].toNat : Int) != 48) = true := by simpa using e2
        have q3 : ((t[j].toNat : Int) != 49) = true := by simpa using e3
        clear e2 e3
        have c0 : wr.cell? ⟨w.heap.size, 0, none⟩ = some (.int .u16 0) := hbox.cell 0
        have c1 : wr.cell? ⟨w.heap.size, 1, none⟩ = some (.int .i64 0) := hbox.cell 1
        have f0 : wr.frozen? ⟨w.heap.size, 0, none⟩ = false := hbox.free 0
        have f1 : wr.frozen? ⟨w.heap.size, 1, none⟩ = false := hbox.free 1
        clear hc hbz hown hbox HG hjm HJ
        go_wp2
        refine bodyPost_ret (v := .tuple #[.agg #[.int .u16 0, .int .i64 0], .bool false]) (by simp [results, Tryd.results5, go_sem, c0, c1]) rfl (reads_no hno.out ?_)
        repeat (first | exact hbel | refine Below.setCell ?_ (by first | (simp; done) | (simp; omega) | omega) _)
    · have hok : Hid (BitR.okT t) := Lib.hid ⟨h, hm, H0.out, fun q h1 h2 => HG.out q h1 (by omega)⟩
      have hmt : m = t.size - 1 := by omega
      have hll : m = (BitR.bl t m).length := (BitR.bl_length t m).symm
      have hst := l1Stack_n (BitR.bl t m) m gg c _ wr hll (by rw [BitR.bl_length]; omega) hown
      rw [show BitP.last 16 (BitR.bl t m) = BitR.bl t m by unfold BitP.last; rw [BitR.bl_length, show m - 16 = 0 by omega]; rfl, show min 16 (BitR.bl t m).length = m by rw [BitR.bl_length]; omega] at hst
      obtain ⟨P, hP⟩ : ∃ P : Int, P = (BitP.num (BitR.bl t m) : Int) := ⟨_, rfl⟩
      rw [← hP] at hst
      have HP := Lib.hid hP
      have HM := Lib.hid hmt
      have d1 : ¬ (j : Int) < (t.size : Int) := by omega
      clear hP hmt hll hjm HG hlt
      go_wp2_with fail
      refine hst.mono ?_
      rintro e w2 ⟨rfl, hb2⟩
      have b2 := hbox.kept hb2
      have hB2 := bel_step hbel hb2 hbel.size
      have c0 : w2.cell? ⟨w.heap.size, 0, none⟩ = some (.int .u16 0) := b2.cell 0
      have c1 : w2.cell? ⟨w.heap.size, 1, none⟩ = some (.int .i64 0) := b2.cell 1
      have f0 : w2.frozen? ⟨w.heap.size, 0, none⟩ = false := b2.free 0
      have f1 : w2.frozen? ⟨w.heap.size, 1, none⟩ = false := b2.free 1
      clear hst hb2 hbox hbel b2 hown
      go_wp2
      refine bodyPost_ret (v := .tuple #[.agg #[.int .u16 P, .int .i64 (m : Int)], .bool true]) (by simp [results, Tryd.results5, go_sem, c0, c1]) rfl ⟨P, m, true, rfl, .inl ⟨hok.out, rfl, by rw [HP.out, HM.out], by rw [HM.out]⟩, ?_⟩
      repeat (first | exact hB2 | refine Below.setCell ?_ (by first | (simp; done) | (simp; omega) | omega) _)
theorem sRead_any (t : ByteArray) (hm : t.size ≤ 1048576) (w : World) : Calls Tryd.prog 5 #[.string t] w (Reads t w) := by
  by_cases h : t.size = 0
  · obtain rfl := empty_of h
    exact sRead_no0 w
  by_cases h0 : BitR.byte t 0 = 124
  · by_cases h17 : t.size ≤ 17
    · exact sRead_go t (by omega) h17 h0 w
    · exact sRead_no2 t (by omega) hm h0 w
  · exact sRead_no1 t (by omega) h0 w
/-! impl -/
theorem cp_yes (t : ByteArray) (h1 : 1 ≤ t.size) (h0 : BitR.byte t 0 = 124) (w : World) : Calls Tryd.prog 15 #[.string t, .string ⟨#[124]⟩] w fun e w' => e = .returned (.tuple #[.string (BitR.tail t), .bool true]) ∧ w = w' := by
  refine (Tryd.strings_CutPrefix t ⟨#[124]⟩ w).mono fun e w' ⟨he, hw⟩ => ⟨?_, hw.symm⟩
  have hp : Lib.hasPrefix t.data.toList [124] = true := BitR.prefix_bar.2 ⟨h1, h0⟩
  rw [he]
  show Ending.returned (.tuple #[.string ⟨(Lib.trimPrefix t.data.toList [124]).toArray⟩, .bool (Lib.hasPrefix t.data.toList [124])]) = _
  rw [hp]
  unfold Lib.trimPrefix
  rw [if_pos hp]
  show Ending.returned (.tuple #[.string ⟨(t.data.toList.drop 1).toArray⟩, .bool true]) = _
  rw [List.drop_one]
  rfl
theorem cp_no (t : ByteArray) (h : ¬ (1 ≤ t.size ∧ BitR.byte t 0 = 124)) (w : World) : Calls Tryd.prog 15 #[.string t, .string ⟨#[124]⟩] w fun e w' => ∃ r : ByteArray, e = .returned (.tuple #[.string r, .bool false]) ∧ w = w' := by
  refine (Tryd.strings_CutPrefix t ⟨#[124]⟩ w).mono fun e w' ⟨he, hw⟩ => ?_
  have hp : Lib.hasPrefix t.data.toList [124] = false := by
    cases hh : Lib.hasPrefix t.data.toList [124] with
    | false => rfl
    | true => exact absurd (BitR.prefix_bar.1 hh) h
  refine ⟨⟨(Lib.trimPrefix t.data.toList [124]).toArray⟩, ?_, hw.symm⟩
  rw [he]
  show Ending.returned (.tuple #[.string ⟨(Lib.trimPrefix t.data.toList [124]).toArray⟩, .bool (Lib.hasPrefix t.data.toList [124])]) = _
  rw [hp]
theorem trim_any (d : ByteArray) (hs : d.size ≤ 1048576) (w : World) : Calls Tryd.prog 16 #[.string d, .string ⟨#[48, 49]⟩] w fun e w' => e = .returned (.string ⟨(Lib.trimS d.data.toList [48, 49]).toArray⟩) ∧ Below w.heap.size w w' :=
  Any.strings_Trim_laid Tryd.lays160 (by kernel_rfl) d ⟨#[48, 49]⟩ w (by omega) (by decide) (ascii_of_all (by decide))
theorem tr_yes (d : ByteArray) (hs : d.size ≤ 1048576) (h : ∀ x ∈ d.data.toList, x = 48 ∨ x = 49) (w : World) : Calls Tryd.prog 16 #[.string d, .string ⟨#[48, 49]⟩] w fun e w' => e = .returned (.string ⟨#[]⟩) ∧ Below w.heap.size w w' := by
  refine (trim_any d hs w).mono fun e w' ⟨he, hb⟩ => ⟨?_, hb⟩
  rw [he, BitR.trim_nil.2 h]
theorem tr_no (d : ByteArray) (hs : d.size ≤ 1048576) (h : ¬ ∀ x ∈ d.data.toList, x = 48 ∨ x = 49) (w : World) : Calls Tryd.prog 16 #[.string d, .string ⟨#[48, 49]⟩] w fun e w' => ∃ r : ByteArray, e = .returned (.string r) ∧ 1 ≤ r.size ∧ Below w.heap.size w w' := by
  refine (trim_any d hs w).mono fun e w' ⟨he, hb⟩ => ⟨_, he, ?_, hb⟩
  have h2 : Lib.trimS d.data.toList [48, 49] ≠ [] := fun h3 => h (BitR.trim_nil.1 h3)
  have h3 := BitR.size_list ⟨(Lib.trimS d.data.toList [48, 49]).toArray⟩
  have h4 := List.length_pos_iff.2 h2
  simp only at h3
  omega
theorem ok_split {t : ByteArray} : BitR.okT t ↔ (1 ≤ t.size ∧ BitR.byte t 0 = 124) ∧ (BitR.tail t).size ≤ 16 ∧ ∀ x ∈ (BitR.tail t).data.toList, x = 48 ∨ x = 49 := by
  rw [BitR.all_tail, BitR.tail_size]
  unfold BitR.okT
  constructor
  · intro h; exact ⟨⟨h.1, h.2.2.1⟩, by omega, h.2.2.2⟩
  · intro h; exact ⟨h.1.1, by omega, h.1.2, h.2.2⟩
set_option maxRecDepth 100000 in
set_option maxHeartbeats 2000000 in
theorem iRead_no0 (t : ByteArray) (h : ¬ (1 ≤ t.size ∧ BitR.byte t 0 = 124)) (w : World) : Calls Tryd.prog 6 #[.string t] w (Reads t w) := by
  have hno : Hid (¬ BitR.okT t) := Lib.hid (fun hk => h (ok_split.1 hk).1)
  have hcp := fun w => cp_no t h w
  clear h
  go_enter Tryd.func6, Tryd.ntmps6
  go_wp2_with fail
  refine (hcp _).mono ?_
  rintro e w1 ⟨r, rfl, rfl⟩
  clear hcp
  go_wp2
  refine bodyPost_ret (v := .tuple #[.agg #[.int .u16 0, .int .i64 0], .bool false]) (by simp [results, Tryd.results6, go_sem]) rfl (reads_no hno.out ?_)
  repeat (first | exact Below.refl _ _ | refine Below.setCell ?_ (by first | (simp; done) | (simp; omega) | omega) _ | refine Below.alloc ?_ (by first | (simp; done) | (simp; omega) | omega) _)
set_option maxRecDepth 100000 in
set_option maxHeartbeats 2000000 in
theorem iRead_no1 (t : ByteArray) (h1 : 1 ≤ t.size) (hm : t.size ≤ 1048576) (h0 : BitR.byte t 0 = 124) (h : 16 < (BitR.tail t).size) (w : World) : Calls Tryd.prog 6 #[.string t] w (Reads t w) := by
  have hno : Hid (¬ BitR.okT t) := Lib.hid (fun hk => by have := (ok_split.1 hk).2.1; omega)
  have hcp := fun w => cp_yes t h1 h0 w
  generalize BitR.tail t = d at hcp h
  have e1 : (16 : Int) < (d.size : Int) := by omega
  clear h0
  go_enter Tryd.func6, Tryd.ntmps6
  go_wp2_with fail
  refine (hcp _).mono ?_
  rintro e w1 ⟨rfl, rfl⟩
  clear hcp
  go_wp2
  refine bodyPost_ret (v := .tuple #[.agg #[.int .u16 0, .int .i64 0], .bool false]) (by simp [results, Tryd.results6, go_sem]) rfl (reads_no hno.out ?_)
  repeat (first | exact Below.refl _ _ | refine Below.setCell ?_ (by first | (simp; done) | (simp; omega) | omega) _ | refine Below.alloc ?_ (by first | (simp; done) | (simp; omega) | omega) _)
set_option maxRecDepth 100000 in
set_option maxHeartbeats 2000000 in
theorem iRead_no2 (t : ByteArray) (h1 : 1 ≤ t.size) (h0 : BitR.byte t 0 = 124) (h : (BitR.tail t).size ≤ 16) (hb : ¬ ∀ x ∈ (BitR.tail t).data.toList, x = 48 ∨ x = 49) (w : World) : Calls Tryd.prog 6 #[.string t] w (Reads t w) := by
  have hno : Hid (¬ BitR.okT t) := Lib.hid (fun hk => hb (ok_split.1 hk).2.2)
  have hcp := fun w => cp_yes t h1 h0 w
  have htr := fun w => tr_no (BitR.tail t) (by omega) hb w
  generalize BitR.tail t = d at hcp htr h
  have e1 : (d.size : Int) ≤ 16 := by omega
  have hR := Box.new w #[.int .u16 0, .int .i64 0] 24
  have hB0 : Below w.heap.size w (w.alloc (.cells #[.int .u16 0, .int .i64 0] 24)) := (Below.refl _ _).alloc (Nat.le_refl _) _
  have HR := Lib.hid (And.intro hR hB0)
  clear h0 hb hR hB0
  go_enter Tryd.func6, Tryd.ntmps6
  go_wp2_with fail
  refine (hcp _).mono ?_
  rintro e w1 ⟨rfl, rfl⟩
  clear hcp
  go_wp2_with fail
  refine (htr _).mono ?_
  rintro e w2 ⟨r, rfl, hr, hb2⟩
  obtain ⟨r1, r2⟩ := ne_facts hr
  have b2 := HR.out.1.kept hb2
  have B2 := bel_step HR.out.2 hb2 (by simp)
  have c0 : w2.cell? ⟨w.heap.size, 0, none⟩ = some (.int .u16 0) := b2.cell 0
  have c1 : w2.cell? ⟨w.heap.size, 1, none⟩ = some (.int .i64 0) := b2.cell 1
  have f0 : w2.frozen? ⟨w.heap.size, 0, none⟩ = false := b2.free 0
  have f1 : w2.frozen? ⟨w.heap.size, 1, none⟩ = false := b2.free 1
  clear hb2 b2 htr HR hr
  go_wp2
  refine bodyPost_ret (v := .tuple #[.agg #[.int .u16 0, .int .i64 0], .bool false]) (by simp [results, Tryd.results6, go_sem, c0, c1]) rfl (reads_no hno.out ?_)
  repeat (first | exact B2 | refine Below.setCell ?_ (by first | (simp; done) | (simp; omega) | omega) _)
theorem push16 (B N D E : Nat) (x : Bool) (hB : B < 2 ^ N) (hN : N < 16) (hD : B * 2 + x.toNat = D) (hE : N + 1 = E) (w : World) : Calls Tryd.prog 17 #[.agg #[.int .u16 B, .int .i64 N], .bool x] w fun e w' => e = .returned (.agg #[.int .u16 D, .int .i64 E]) ∧ Below w.heap.size w w' := by
  have h8 : B < 32768 := Nat.lt_of_lt_of_le hB (pow16 (show N ≤ 15 by omega) (by decide))
  have hx : x.toNat ≤ 1 := by cases x <;> simp
  have hg : BitP.good 16 (B : Int) (N : Int) = (B, N) := by
    have : BitP.ok 16 (B : Int) (N : Int) = true := BitP.ok_of (by omega) hB
    simp [BitP.good, this]
  refine (BitPush_i_any B N x (by omega) (by omega) w).mono ?_
  rintro e w' ⟨B', N', hg', _, _, he, hb⟩
  obtain ⟨rfl, rfl⟩ : B' = B ∧ N' = N := by have h := hg'.trans hg; exact ⟨congrArg Prod.fst h, congrArg Prod.snd h⟩
  exact ⟨by rw [he, Nat.mod_eq_of_lt (by omega), Nat.min_eq_left (by omega), hD, hE], hb⟩
set_option maxRecDepth 100000 in
set_option maxHeartbeats 2000000 in
theorem iRead_go (t : ByteArray) (h1 : 1 ≤ t.size) (h0 : BitR.byte t 0 = 124) (h : (BitR.tail t).size ≤ 16) (hb : ∀ x ∈ (BitR.tail t).data.toList, x = 48 ∨ x = 49) (w : World) : Calls Tryd.prog 6 #[.string t] w (Reads t w) := by
  have hok : Hid (BitR.okT t) := Lib.hid (ok_split.2 ⟨⟨h1, h0⟩, h, hb⟩)
  have hcp := fun w => cp_yes t h1 h0 w
  have htr := fun w => tr_yes (BitR.tail t) (by omega) hb w
  have HT : Hid (∀ j, BitR.byte (BitR.tail t) j = BitR.byte t (j + 1)) := Lib.hid (fun j => BitR.tail_byte t j)
  have HZ : Hid ((BitR.tail t).size = t.size - 1) := Lib.hid (BitR.tail_size t)
  generalize BitR.tail t = d at hcp htr h HT HZ
  have e1 : (d.size : Int) ≤ 16 := by omega
  have e2 : (ByteArray.mk #[]).toList = [] := by rw [ByteArray.toList_eq]
  have hR := Box.new w #[.int .u16 0, .int .i64 0] 24
  have hB0 : Below w.heap.size w (w.alloc (.cells #[.int .u16 0, .int .i64 0] 24)) := (Below.refl _ _).alloc (Nat.le_refl _) _
  have HR := Lib.hid (And.intro hR hB0)
  clear h0 hb hR hB0
  go_enter Tryd.func6, Tryd.ntmps6
  go_wp2_with fail
  refine (hcp _).mono ?_
  rintro e w1 ⟨rfl, rfl⟩
  clear hcp
  go_wp2_with fail
  refine (htr _).mono ?_
  rintro e w2 ⟨rfl, hb2⟩
  have b2 := (HR.out.1.kept hb2).alloc (.cells #[.int .u16 0, .int .i64 0] 24)
  have s2 := Box.new w2 #[.int .u16 0, .int .i64 0] 24
  have B2' := bel_step HR.out.2 hb2 (by simp)
  have B2 := B2'.alloc B2'.size (.cells #[.int .u16 0, .int .i64 0] 24)
  have l2 : w.heap.size < w2.heap.size := (HR.out.1.kept hb2).lt
  have H2 := Lib.hid (And.intro b2 (And.intro s2 B2))
  clear hb2 b2 s2 B2 B2' htr HR
  go_wp2_with fail
  go_loopw [29] (fun i wr => ∃ (j V : Nat), j ≤ d.size ∧ i = .int .i64 j ∧ V = BitP.num (BitR.bl t j) ∧ Box wr w2.heap.size #[.int .u16 V, .int .i64 j] 24 ∧ Box wr w.heap.size #[.int .u16 0, .int .i64 0] 24 ∧ Below w.heap.size w wr) (fun i _ => d.size - (intOf i).toNat)
  case atStart => exact ⟨0, 0, by omega, rfl, rfl, H2.out.2.1, H2.out.1, H2.out.2.2⟩
  case round =>
    obtain ⟨j, V, hj, rfl, hV, hs, hbx, hbel⟩ := hrel
    clear H2
    have HV := Lib.hid hV
    have hVlt : V < 2 ^ j := by have := BitP.num_lt (BitR.bl t j); rw [BitR.bl_length, ← hV] at this; exact this
    clear hV
    by_cases hlt : j < d.size
    · obtain ⟨x, hx⟩ : ∃ x, ((d[j].toNat : Int) == 49) = x := ⟨_, rfl⟩
      have hxx : (BitR.byte t (j + 1) == 49) = x := by
        rw [← hx, BitR.byte_get d j hlt, HT.out, Bool.eq_iff_iff, beq_iff_eq, beq_iff_eq]
        exact ⟨fun h => by rw [h]; rfl, fun h => UInt8.toNat_inj.1 (by have : (49 : UInt8).toNat = 49 := rfl; omega)⟩
      obtain ⟨D, hD⟩ : ∃ D, V * 2 + x.toNat = D := ⟨_, rfl⟩
      obtain ⟨E, hE⟩ : ∃ E, j + 1 = E := ⟨_, rfl⟩
      have hpush := fun w => push16 V j D E x hVlt (by omega) hD hE w
      have HD : Hid (D = BitP.num (BitR.bl t E)) := Lib.hid (by rw [← hD, ← hE, BitR.bl_succ, BitP.num_snoc, hxx, HV.out])
      have HE : Hid ((E : Int) = (j : Int) + 1) := Lib.hid (by omega)
      have HE2 := Lib.hid hE
      have hEd : E ≤ d.size := by omega
      have hE16 : E ≤ 16 := by omega
      have d1 : (j : Int) < (d.size : Int) := by omega
      have d0 : (0 : Int) ≤ (j : Int) := by omega
      have hfacts : ∀ w3, Below wr.heap.size wr.drew w3 → Box w3 w2.heap.size #[.int .u16 V, .int .i64 j] 24 ∧ Box w3 w.heap.size #[.int .u16 0, .int .i64 0] 24 ∧ Below w.heap.size w w3 := fun w3 hb =>
        ⟨(hs.drew).kept hb, (hbx.drew).kept hb, bel_step hbel.drew hb hbel.size⟩
      have c0 : wr.cell? ⟨w2.heap.size, 0, none⟩ = some (.int .u16 V) := hs.cell 0
      have c1 : wr.cell? ⟨w2.heap.size, 1, none⟩ = some (.int .i64 j) := hs.cell 1
      have HF := Lib.hid hfacts
      clear hVlt hxx hD hE hs hbx hbel hfacts HT HV HZ
      go_wp2_with fail
      go_region_law (first | (go_simp; go_at_call 17; refine (hpush _).mono ?_; rintro e w3 ⟨rfl, hb3⟩; obtain ⟨s3, b3, B3⟩ := HF.out w3 hb3; have k0 : w3.cell? ⟨w2.heap.size, 0, none⟩ = some (.int .u16 V) := s3.cell 0; have k1 : w3.cell? ⟨w2.heap.size, 1, none⟩ = some (.int .i64 j) := s3.cell 1; have f0 : w3.frozen? ⟨w2.heap.size, 0, none⟩ = false := s3.free 0; have f1 : w3.frozen? ⟨w2.heap.size, 1, none⟩ = false := s3.free 1; have H3 := Lib.hid (And.intro s3 (And.intro b3 B3)); clear hb3 s3 b3 B3))
      all_goals
        go_wp2
        go_roundw
        case rel => exact ⟨E, D, hEd, by rw [HE.out], HD.out, (H3.out.1.set 0 (.int .u16 D)).set 1 (.int .i64 E), (H3.out.2.1.far (by simp; omega) _).far (by simp; omega) _, (H3.out.2.2.setCell (by simp; omega) _).setCell (by simp; omega) _⟩
        case measure => simp [intOf]; omega
    · obtain rfl : j = d.size := by omega
      have c0 : wr.cell? ⟨w2.heap.size, 0, none⟩ = some (.int .u16 V) := hs.cell 0
      have c1 : wr.cell? ⟨w2.heap.size, 1, none⟩ = some (.int .i64 (d.size : Nat)) := hs.cell 1
      have r0 : wr.cell? ⟨w.heap.size, 0, none⟩ = some (.int .u16 0) := hbx.cell 0
      have r1 : wr.cell? ⟨w.heap.size, 1, none⟩ = some (.int .i64 0) := hbx.cell 1
      have f0 : wr.frozen? ⟨w.heap.size, 0, none⟩ = false := hbx.free 0
      have f1 : wr.frozen? ⟨w.heap.size, 1, none⟩ = false := hbx.free 1
      clear hs hbx hVlt hlt
      go_wp2
      refine bodyPost_ret (v := .tuple #[.agg #[.int .u16 V, .int .i64 (d.size : Nat)], .bool true]) (by simp [results, Tryd.results6, go_sem, r0, r1]) rfl ⟨V, (d.size : Nat), true, rfl, .inl ⟨hok.out, rfl, by rw [HV.out, HZ.out], by rw [HZ.out]⟩, ?_⟩
      repeat (first | exact hbel | refine Below.setCell ?_ (by first | (simp; done) | (simp; omega) | omega) _)
theorem iRead_any (t : ByteArray) (hm : t.size ≤ 1048576) (w : World) : Calls Tryd.prog 6 #[.string t] w (Reads t w) := by
  by_cases h : 1 ≤ t.size ∧ BitR.byte t 0 = 124
  · by_cases h2 : (BitR.tail t).size ≤ 16
    · by_cases h3 : ∀ x ∈ (BitR.tail t).data.toList, x = 48 ∨ x = 49
      · exact iRead_go t h.1 h.2 h2 h3 w
      · exact iRead_no2 t h.1 h.2 h2 h3 w
    · exact iRead_no1 t h.1 hm h.2 (by omega) w
  · exact iRead_no0 t h w
end Go.Proofs.YtblpidkkfhgjjaaDoor
