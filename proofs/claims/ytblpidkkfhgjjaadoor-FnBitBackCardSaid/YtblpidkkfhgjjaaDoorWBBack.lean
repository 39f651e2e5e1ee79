/- The walk of FnBitBack. -/
import Derived.Test.YtblpidkkfhgjjaaDoorRows
import Derived.Test.YtblpidkkfhgjjaaDoorWBRead2
import Derived.Test.YtblpidkkfhgjjaaDoorWBits9
import Derived.Test.YtblpidkkfhgjjaaDoorWBits12
import Derived.Test.YtblpidkkfhgjjaaDoorBitB
import Derived.WalkKit
import Derived.WalkSpells
import Derived.WalkLawsBesides
import Derived.OpenShut
import Derived.OwnWalk
import Derived.IntWalk
import Derived.Lib.Hide
namespace Go.Proofs.YtblpidkkfhgjjaaDoor
open Go.RowKit Bx Rdr
set_option linter.unusedVariables false

set_option maxRecDepth 100000 in
set_option maxHeartbeats 4000000 in
theorem of_any (w : World) (g k b n c m : Nat) (h : Rd 63 w g k) (hk : k ≤ 1000000) (h1 : 1 ≤ n) (hn : n ≤ 1000) (hb : b < w.heap.size) (hne : b ≠ g)
    (hc : ∀ i, i < n → ∃ s : ByteArray, s.size ≤ m ∧ w.cell? ⟨b, i, none⟩ = some (.string s)) :
    Calls Tryd.prog 23 #[.pointer (some ⟨g, 0, none⟩), .slice (some ⟨b, 0, none⟩) n c] w fun e w' => ∃ s : ByteArray, e = .returned (.string s) ∧ s.size ≤ m ∧ Rd 63 w' g (k + 1) ∧ Only g w w' := by
  go_enter Tryd.func23, Tryd.ntmps23
  go_wp2_with fail
  refine (pick_any w g k n h hk).mono ?_
  rintro e w1 ⟨x, rfl, h0, hx, _, hrd, ho⟩
  have hx2 := hx (by omega)
  obtain ⟨y, rfl⟩ := Int.eq_ofNat_of_zero_le h0
  obtain ⟨v, hv, hcell⟩ := hc y (by omega)
  have hcell1 : w1.cell? ⟨b, y, none⟩ = some (.string v) := (ho.cell (p := ⟨b, y, none⟩) hb hne).trans hcell
  clear hx hc hcell h
  go_wp2
  go_ret
  exact ⟨v, rfl, hv, hrd, ho⟩
theorem strs_lit (w : World) (xs : List ByteArray) (t : TypeId) (m : Nat) (hm : ∀ x ∈ xs, x.size ≤ m) :
    ∀ i, i < xs.length → ∃ s : ByteArray, s.size ≤ m ∧ (w.alloc (.cells (xs.map Value.string).toArray t)).cell? ⟨w.heap.size, i, none⟩ = some (.string s) := by
  intro i hi
  refine ⟨xs[i], hm _ (List.getElem_mem hi), ?_⟩
  rw [World.cell?_alloc_mark]
  simp [hi]
theorem text_size (b n : Int) : (if BitP.ok 16 b n then BitP.txt (BitP.bits (BitP.good 16 b n).1 (BitP.good 16 b n).2) else ⟨#[]⟩ : ByteArray).size ≤ 17 := by
  by_cases hok : BitP.ok 16 b n = true
  · rw [if_pos hok, BitP.txt_size, BitP.bits_length]
    unfold BitP.good
    rw [if_pos hok]
    have := (BitP.ok_iff.1 hok).2.1
    simp only; omega
  · rw [if_neg hok]; decide
set_option maxRecDepth 100000 in
set_option maxHeartbeats 4000000 in
theorem DrawBitText_any (aa : Option Addr) (n c : Nat) (w : World) (h : IsCode w aa n c) : Calls Tryd.prog 8 #[.slice aa n c] w fun e w' =>
    ∃ b m : Int, e = .returned (.agg #[.int .u16 b, .int .i64 m]) ∧ 0 ≤ b ∧ b < 65536 ∧ Below w.heap.size w w' := by
  have hb0 : Below w.heap.size w (w.alloc (.cells #[.int .u16 0, .int .i64 0] 24)) := (Below.refl _ _).alloc (Nat.le_refl _) _
  have h1 := h.below hb0
  have HB := Lib.hid (And.intro (Box.new w #[.int .u16 0, .int .i64 0] 24) hb0)
  clear hb0 h
  go_enter Tryd.func8, Tryd.ntmps8
  go_wp2_with fail
  refine (open_any aa n c _ h1).mono ?_
  rintro e w1 ⟨rfl, r1, hb1, hs1⟩
  have b1 := HB.out.1.kept hb1
  have t1 := bel_step HB.out.2 hb1 (by simp)
  simp at r1 hs1
  have hs1' : w1.heap.size = w.heap.size + 2 := by simp [hs1]
  clear hb1 h1 hs1
  go_wp2_with fail
  refine (l1Draw_any w1 (w.heap.size + 1) _ r1 (by omega)).mono ?_
  rintro e w7 ⟨b, m, rfl, hb0, hb1, r3, o3⟩
  have b7 := box_only b1 o3 (by omega)
  have t7 := Only.below t1 o3 t1.size (by omega)
  clear r1 b1 t1 o3 r3
  have e0 : w7.cell? ⟨w.heap.size, 0, none⟩ = some (.int .u16 0) := by have := b7.cell 0; simpa using this
  have e1 : w7.cell? ⟨w.heap.size, 1, none⟩ = some (.int .i64 0) := by have := b7.cell 1; simpa using this
  have f0 : w7.frozen? ⟨w.heap.size, 0, none⟩ = false := b7.free 0
  have f1 : w7.frozen? ⟨w.heap.size, 1, none⟩ = false := b7.free 1
  have l7 := b7.lt
  clear b7
  go_wp2
  refine bodyPost_ret (v := .agg #[.int .u16 b, .int .i64 m]) (by simp [results, Tryd.results8, go_sem, e0, e1]) rfl ⟨b, m, rfl, hb0, hb1, ?_⟩
  repeat (first | exact t7 | refine Below.setCell ?_ (by first | (simp; done) | (simp; omega) | omega) _)
/-- a drawn text -/
def DrawnText (w : World) (e : Ending) (w' : World) : Prop := ∃ s : ByteArray, e = .returned (.string s) ∧ s.size ≤ 100 ∧ Below w.heap.size w w'
set_option maxRecDepth 100000 in
set_option maxHeartbeats 4000000 in
theorem DrawBitRead_any (aa : Option Addr) (n c : Nat) (w : World) (h : IsCode w aa n c) : Calls Tryd.prog 12 #[.slice aa n c] w (DrawnText w) := by
  go_enter Tryd.func12, Tryd.ntmps12
  go_wp2_with fail
  refine (open_any aa n c w h).mono ?_
  rintro e w1 ⟨rfl, r1, hb1, hs1⟩
  clear h hs1
  go_wp2_with fail
  refine (l1Draw_any w1 w.heap.size 0 r1 (by omega)).mono ?_
  rintro e w2 ⟨b, m, rfl, hb0, hbb, r2, o2⟩
  have t2 := Only.below hb1 o2 hb1.size (by omega)
  clear r1 hb1 o2
  go_wp2_with fail
  refine (BitText_s_any b m hb0 hbb _).mono ?_
  rintro e w3 ⟨he, hb3⟩
  obtain ⟨s, hse⟩ : ∃ s : ByteArray, s = (if BitP.ok 16 b m then BitP.txt (BitP.bits (BitP.good 16 b m).1 (BitP.good 16 b m).2) else ⟨#[]⟩) := ⟨_, rfl⟩
  have hs17 : s.size ≤ 17 := by rw [hse]; exact text_size b m
  rw [← hse] at he
  subst he
  have r3 := r2.below hb3 r2.lt
  have t3 := bel_step t2 hb3 t2.size
  clear hse hb3 r2 t2
  go_wp2_with fail
  refine (pick_any w3 w.heap.size _ 8 r3 (by omega)).mono ?_
  rintro e w4 ⟨z, rfl, hz0, _, _, r4, o4⟩
  have t4 := Only.below t3 o4 t3.size (by omega)
  have l4 := r4.lt
  clear r3 t3 o4
  by_cases z0 : z = 0
  · subst z0
    go_wp2_with fail
    refine (of_any (w4.alloc (.cells (([⟨#[]⟩, ⟨#[124]⟩, ⟨#[124, 124]⟩, ⟨#[124, 50]⟩, ⟨#[48, 49]⟩, ⟨#[124, 48, 48, 48, 48, 48, 48, 48, 48, 48, 48, 48, 48, 48, 48, 48, 48]⟩, ⟨#[124, 48, 48, 48, 48, 48, 48, 48, 48, 48, 48, 48, 48, 48, 48, 48, 48, 48]⟩, ⟨#[124, 49, 49, 49, 49, 49, 49, 49, 49, 49, 49, 49, 49, 49, 49, 49, 49]⟩, ⟨#[124, 32, 49]⟩, ⟨#[124, 49, 10]⟩] : List ByteArray).map Value.string).toArray 9)) w.heap.size _ w4.heap.size 10 10 20 (r4.alloc _) (by omega) (by omega) (by omega) (by simp) (by omega) (strs_lit w4 [⟨#[]⟩, ⟨#[124]⟩, ⟨#[124, 124]⟩, ⟨#[124, 50]⟩, ⟨#[48, 49]⟩, ⟨#[124, 48, 48, 48, 48, 48, 48, 48, 48, 48, 48, 48, 48, 48, 48, 48, 48]⟩, ⟨#[124, 48, 48, 48, 48, 48, 48, 48, 48, 48, 48, 48, 48, 48, 48, 48, 48, 48]⟩, ⟨#[124, 49, 49, 49, 49, 49, 49, 49, 49, 49, 49, 49, 49, 49, 49, 49, 49]⟩, ⟨#[124, 32, 49]⟩, ⟨#[124, 49, 10]⟩] 9 20 (by decide))).mono ?_
    rintro e w5 ⟨r, rfl, hr, r5, o5⟩
    have t5 := Only.below (t4.alloc t4.size _) o5 (t4.alloc t4.size _).size (by omega)
    clear r4 t4 o5 r5
    go_wp2
    go_ret
    exact ⟨r, rfl, by omega, t5⟩
  by_cases z1 : z = 1
  · subst z1
    go_wp2_with fail
    refine (of_any (w4.alloc (.cells (([⟨#[48]⟩, ⟨#[49]⟩, ⟨#[124]⟩, ⟨#[32]⟩] : List ByteArray).map Value.string).toArray 9)) w.heap.size _ w4.heap.size 4 4 20 (r4.alloc _) (by omega) (by omega) (by omega) (by simp) (by omega) (strs_lit w4 [⟨#[48]⟩, ⟨#[49]⟩, ⟨#[124]⟩, ⟨#[32]⟩] 9 20 (by decide))).mono ?_
    rintro e w5 ⟨r, rfl, hr, r5, o5⟩
    have t5 := Only.below (t4.alloc t4.size _) o5 (t4.alloc t4.size _).size (by omega)
    have hsr : (s ++ r).size ≤ 100 := by rw [ByteArray.size_append]; omega
    have HSR := Lib.hid hsr
    clear r4 t4 o5 r5 hsr
    go_wp2
    go_ret
    exact ⟨s ++ r, rfl, HSR.out, t5⟩
  · have z0' : (z == 0) = false := by simpa using z0
    have z1' : (z == 1) = false := by simpa using z1
    clear r4 z0 z1
    go_wp2
    go_ret
    exact ⟨s, rfl, by omega, t4⟩
set_option maxRecDepth 100000 in
set_option maxHeartbeats 4000000 in
theorem FnBitBack_some (AA AB : Option Addr) (n c n' c' : Nat) (w : World) (h : IsCode w AA n c) (h' : IsCode w AB n' c') (hn : n ≤ 1048576) (hn' : n' ≤ 1048576) : Calls Tryd.prog 4 #[.slice AA n c, .slice AB n' c'] w fun e w' => e = .returned (.bool true) ∧ Below w.heap.size w w' := by
  have hd : decide ((1048576 : Int) < (n : Int)) = false := by simp; omega
  have hd' : decide ((1048576 : Int) < (n' : Int)) = false := by simp; omega
  have H' := Lib.hid h'
  clear h'
  go_enter Tryd.func4, Tryd.ntmps4
  go_wp2_with fail
  refine (DrawBitText_any AA n c w h).mono ?_
  rintro e w1 ⟨b, m, rfl, hb0, hbb, hb1⟩
  have s1 := Box.new w1 #[.int .u16 b, .int .i64 m] 24
  have B1 : Below w.heap.size w (w1.alloc (.cells #[.int .u16 b, .int .i64 m] 24)) := hb1.alloc hb1.size _
  have l1 := hb1.size
  have hti := fun w => BitText_i_any b m hb0 hbb w
  have hts := fun w => BitText_s_any b m hb0 hbb w
  have hso := fun w => sBitOk_any b m hb0 hbb w
  clear hb1 h
  cases hok : BitP.ok 16 b m with
  | true =>
    rw [hok, if_pos rfl] at hti hts
    rw [hok] at hso
    have hrd : ∀ w, Calls Tryd.prog 6 #[.string (BitP.txt (BitP.bits (BitP.good 16 b m).1 (BitP.good 16 b m).2))] w fun e w' => e = .returned (.tuple #[.agg #[.int .u16 b, .int .i64 m], .bool true]) ∧ Below w.heap.size w w' := fun w => by
      obtain ⟨B, N, rfl, rfl, hN, hB⟩ := BitP.ok_nat hok hb0
      rw [show BitP.good 16 (B : Int) (N : Int) = (B, N) by simp [BitP.good, hok]]
      show Calls Tryd.prog 6 #[.string (BitP.txt (BitP.bits B N))] w _
      obtain ⟨k1, k2, k3⟩ := BitR.back_num hB (by omega)
      refine (iRead_any _ (by have := k1.2.1; omega) w).mono ?_
      rintro e w' ⟨p, q, fine, rfl, hc, hb⟩
      rcases hc with ⟨_, rfl, rfl, rfl⟩ | ⟨hno, _⟩
      · rw [k2, k3]; exact ⟨rfl, hb⟩
      · exact absurd k1 hno
    generalize BitP.txt (BitP.bits (BitP.good 16 b m).1 (BitP.good 16 b m).2) = T0 at hti hts hrd
    clear hok
    go_wp2_with fail
    refine (hti _).mono ?_
    rintro e w2 ⟨rfl, hb2⟩
    have s2 := s1.kept hb2
    have B2 := bel_step B1 hb2 B1.size
    clear hb2 s1 B1 hti
    go_wp2_with fail
    refine (hrd _).mono ?_
    rintro e w3 ⟨rfl, hb3⟩
    have s3 := (s2.kept hb3).alloc (.cells #[.int .u16 b, .int .i64 m] 24)
    have u3 := Box.new w3 #[.int .u16 b, .int .i64 m] 24
    have B3 := (bel_step B2 hb3 B2.size).alloc (bel_step B2 hb3 B2.size).size (.cells #[.int .u16 b, .int .i64 m] 24)
    have l3 : w1.heap.size < w3.heap.size := (s2.kept hb3).lt
    have c0 : w3.cell? ⟨w1.heap.size, 0, none⟩ = some (.int .u16 b) := (s2.kept hb3).cell 0
    have c1 : w3.cell? ⟨w1.heap.size, 1, none⟩ = some (.int .i64 m) := (s2.kept hb3).cell 1
    clear hb3 s2 B2 hrd
    go_wp2_with fail
    refine (hts _).mono ?_
    rintro e w4 ⟨rfl, hb4⟩
    have s4 := s3.kept hb4
    have u4 := u3.kept hb4
    have B4 := bel_step B3 hb4 B3.size
    clear c0 c1
    have c0 : w4.cell? ⟨w1.heap.size, 0, none⟩ = some (.int .u16 b) := s4.cell 0
    have c1 : w4.cell? ⟨w1.heap.size, 1, none⟩ = some (.int .i64 m) := s4.cell 1
    clear hb4 s3 u3 B3 hts
    go_wp2_with fail
    refine (hso _).mono ?_
    rintro e w5 ⟨rfl, hb5⟩
    have s5 := s4.kept hb5
    have u5 := u4.kept hb5
    have B5 := bel_step B4 hb5 B4.size
    clear c0 c1
    have c0 : w5.cell? ⟨w1.heap.size, 0, none⟩ = some (.int .u16 b) := s5.cell 0
    have c1 : w5.cell? ⟨w1.heap.size, 1, none⟩ = some (.int .i64 m) := s5.cell 1
    have d0 : w5.cell? ⟨w3.heap.size, 0, none⟩ = some (.int .u16 b) := u5.cell 0
    have d1 : w5.cell? ⟨w3.heap.size, 1, none⟩ = some (.int .i64 m) := u5.cell 1
    have h5 := H'.out.below (B5.mono (Nat.le_refl _))
    have H5 := Lib.hid h5
    clear hb5 s4 u4 B4 hso s5 u5 h5
    go_wp2_with fail
    refine (DrawBitRead_any AB n' c' _ H5.out).mono ?_
    rintro e w6 ⟨t, rfl, htz, hb6⟩
    have B6 := bel_step B5 hb6 B5.size
    clear hb6 B5 H5 c0 c1 d0 d1
    go_wp2_with fail
    refine (iRead_any t (by omega) _).mono ?_
    rintro e w7 ⟨p, q, fine, rfl, hc, hb7⟩
    have s7 := Box.new w7 #[.int .u16 p, .int .i64 q] 24
    have B7 := (bel_step B6 hb7 B6.size).alloc (bel_step B6 hb7 B6.size).size (.cells #[.int .u16 p, .int .i64 q] 24)
    have HC := Lib.hid hc
    clear hb7 B6 hc
    go_wp2_with fail
    refine (sRead_any t (by omega) _).mono ?_
    rintro e w8 ⟨p', q', fine', rfl, hc', hb8⟩
    obtain ⟨rfl, rfl, rfl⟩ := reads_same hc' HC.out
    have s8 := (s7.kept hb8).alloc (.cells #[.int .u16 p, .int .i64 q] 24)
    have u8 := Box.new w8 #[.int .u16 p, .int .i64 q] 24
    have B8 := (bel_step B7 hb8 B7.size).alloc (bel_step B7 hb8 B7.size).size (.cells #[.int .u16 p, .int .i64 q] 24)
    have l8 : w7.heap.size < w8.heap.size := (s7.kept hb8).lt
    have c0 : w8.cell? ⟨w7.heap.size, 0, none⟩ = some (.int .u16 p) := (s7.kept hb8).cell 0
    have c1 : w8.cell? ⟨w7.heap.size, 1, none⟩ = some (.int .i64 q) := (s7.kept hb8).cell 1
    have s8' := s7.kept hb8
    clear hb8 s7 B7 hc'
    have hc := HC.out
    clear HC
    rcases hc with ⟨hok, rfl, hp, hq⟩ | ⟨hno, rfl, rfl, rfl⟩
    · obtain ⟨r1, r2, r3⟩ := BitR.read_ok hok
      generalize BitP.num (BitR.bl t (t.size - 1)) = B at hp r1 r3
      generalize t.size - 1 = N at hq r1 r2 r3
      subst hp hq
      have h16 : B < 65536 := Nat.lt_of_lt_of_le r1 (pow16 r2 (by decide))
      have hokb : BitP.ok 16 (B : Int) (N : Int) = true := BitP.ok_of (by omega) r1
      have hbo := fun w => BitOk_i_any (B : Int) (N : Int) (by omega) (by omega) w
      have hbt := fun w => BitText_i_any (B : Int) (N : Int) (by omega) (by omega) w
      rw [hokb] at hbo
      rw [hokb, if_pos rfl, show BitP.good 16 (B : Int) (N : Int) = (B, N) by simp [BitP.good, hokb], r3] at hbt
      clear hok r1 r2 r3 h16 hokb s8 u8
      go_wp2_with fail
      refine (hbo _).mono ?_
      rintro e w9 ⟨rfl, hb9⟩
      have s9 := (s8'.alloc (.cells #[.int .u16 (B : Int), .int .i64 (N : Int)] 24)).kept hb9
      have B9 := bel_step B8 hb9 B8.size
      clear c0 c1
      have c0 : w9.cell? ⟨w7.heap.size, 0, none⟩ = some (.int .u16 (B : Int)) := s9.cell 0
      have c1 : w9.cell? ⟨w7.heap.size, 1, none⟩ = some (.int .i64 (N : Int)) := s9.cell 1
      clear hb9 s8' s9 B8 hbo
      go_wp2_with fail
      refine (hbt _).mono ?_
      rintro e w10 ⟨rfl, hb10⟩
      have B10 := bel_step B9 hb10 B9.size
      clear hb10 B9 hbt c0 c1
      go_wp2
      go_ret
      exact ⟨rfl, B10⟩
    · clear hno s8 u8 s8'
      go_wp2
      go_ret
      exact ⟨rfl, B8⟩
  | false =>
    rw [hok] at hti hts hso
    simp only [Bool.false_eq_true, if_false] at hti hts
    have hrd : ∀ w, Calls Tryd.prog 6 #[.string ⟨#[]⟩] w fun e w' => e = .returned (.tuple #[.agg #[.int .u16 0, .int .i64 0], .bool false]) ∧ Below w.heap.size w w' := fun w => by
      refine (iRead_any _ (by decide) w).mono ?_
      rintro e w' ⟨p, q, fine, rfl, hc, hb⟩
      rcases hc with ⟨hk, _⟩ | ⟨_, rfl, rfl, rfl⟩
      · exact absurd hk.1 (by decide)
      · exact ⟨rfl, hb⟩
    clear hok
    go_wp2_with fail
    refine (hti _).mono ?_
    rintro e w2 ⟨rfl, hb2⟩
    have s2 := s1.kept hb2
    have B2 := bel_step B1 hb2 B1.size
    clear hb2 s1 B1 hti
    go_wp2_with fail
    refine (hrd _).mono ?_
    rintro e w3 ⟨rfl, hb3⟩
    have s3 := (s2.kept hb3).alloc (.cells #[.int .u16 0, .int .i64 0] 24)
    have u3 := Box.new w3 #[.int .u16 0, .int .i64 0] 24
    have B3 := (bel_step B2 hb3 B2.size).alloc (bel_step B2 hb3 B2.size).size (.cells #[.int .u16 0, .int .i64 0] 24)
    have l3 : w1.heap.size < w3.heap.size := (s2.kept hb3).lt
    have c0 : w3.cell? ⟨w1.heap.size, 0, none⟩ = some (.int .u16 b) := (s2.kept hb3).cell 0
    have c1 : w3.cell? ⟨w1.heap.size, 1, none⟩ = some (.int .i64 m) := (s2.kept hb3).cell 1
    clear hb3 s2 B2 hrd
    go_wp2_with fail
    refine (hts _).mono ?_
    rintro e w4 ⟨rfl, hb4⟩
    have s4 := s3.kept hb4
    have u4 := u3.kept hb4
    have B4 := bel_step B3 hb4 B3.size
    clear c0 c1
    have c0 : w4.cell? ⟨w1.heap.size, 0, none⟩ = some (.int .u16 b) := s4.cell 0
    have c1 : w4.cell? ⟨w1.heap.size, 1, none⟩ = some (.int .i64 m) := s4.cell 1
    clear hb4 s3 u3 B3 hts
    go_wp2_with fail
    refine (hso _).mono ?_
    rintro e w5 ⟨rfl, hb5⟩
    have s5 := s4.kept hb5
    have u5 := u4.kept hb5
    have B5 := bel_step B4 hb5 B4.size
    clear c0 c1
    have c0 : w5.cell? ⟨w1.heap.size, 0, none⟩ = some (.int .u16 b) := s5.cell 0
    have c1 : w5.cell? ⟨w1.heap.size, 1, none⟩ = some (.int .i64 m) := s5.cell 1
    have d0 : w5.cell? ⟨w3.heap.size, 0, none⟩ = some (.int .u16 0) := u5.cell 0
    have d1 : w5.cell? ⟨w3.heap.size, 1, none⟩ = some (.int .i64 0) := u5.cell 1
    have h5 := H'.out.below (B5.mono (Nat.le_refl _))
    have H5 := Lib.hid h5
    clear hb5 s4 u4 B4 hso s5 u5 h5
    go_wp2_with fail
    refine (DrawBitRead_any AB n' c' _ H5.out).mono ?_
    rintro e w6 ⟨t, rfl, htz, hb6⟩
    have B6 := bel_step B5 hb6 B5.size
    clear hb6 B5 H5 c0 c1 d0 d1
    go_wp2_with fail
    refine (iRead_any t (by omega) _).mono ?_
    rintro e w7 ⟨p, q, fine, rfl, hc, hb7⟩
    have s7 := Box.new w7 #[.int .u16 p, .int .i64 q] 24
    have B7 := (bel_step B6 hb7 B6.size).alloc (bel_step B6 hb7 B6.size).size (.cells #[.int .u16 p, .int .i64 q] 24)
    have HC := Lib.hid hc
    clear hb7 B6 hc
    go_wp2_with fail
    refine (sRead_any t (by omega) _).mono ?_
    rintro e w8 ⟨p', q', fine', rfl, hc', hb8⟩
    obtain ⟨rfl, rfl, rfl⟩ := reads_same hc' HC.out
    have s8 := (s7.kept hb8).alloc (.cells #[.int .u16 p, .int .i64 q] 24)
    have u8 := Box.new w8 #[.int .u16 p, .int .i64 q] 24
    have B8 := (bel_step B7 hb8 B7.size).alloc (bel_step B7 hb8 B7.size).size (.cells #[.int .u16 p, .int .i64 q] 24)
    have l8 : w7.heap.size < w8.heap.size := (s7.kept hb8).lt
    have c0 : w8.cell? ⟨w7.heap.size, 0, none⟩ = some (.int .u16 p) := (s7.kept hb8).cell 0
    have c1 : w8.cell? ⟨w7.heap.size, 1, none⟩ = some (.int .i64 q) := (s7.kept hb8).cell 1
    have s8' := s7.kept hb8
    clear hb8 s7 B7 hc'
    have hc := HC.out
    clear HC
    rcases hc with ⟨hok, rfl, hp, hq⟩ | ⟨hno, rfl, rfl, rfl⟩
    · obtain ⟨r1, r2, r3⟩ := BitR.read_ok hok
      generalize BitP.num (BitR.bl t (t.size - 1)) = B at hp r1 r3
      generalize t.size - 1 = N at hq r1 r2 r3
      subst hp hq
      have h16 : B < 65536 := Nat.lt_of_lt_of_le r1 (pow16 r2 (by decide))
      have hokb : BitP.ok 16 (B : Int) (N : Int) = true := BitP.ok_of (by omega) r1
      have hbo := fun w => BitOk_i_any (B : Int) (N : Int) (by omega) (by omega) w
      have hbt := fun w => BitText_i_any (B : Int) (N : Int) (by omega) (by omega) w
      rw [hokb] at hbo
      rw [hokb, if_pos rfl, show BitP.good 16 (B : Int) (N : Int) = (B, N) by simp [BitP.good, hokb], r3] at hbt
      clear hok r1 r2 r3 h16 hokb s8 u8
      go_wp2_with fail
      refine (hbo _).mono ?_
      rintro e w9 ⟨rfl, hb9⟩
      have s9 := (s8'.alloc (.cells #[.int .u16 (B : Int), .int .i64 (N : Int)] 24)).kept hb9
      have B9 := bel_step B8 hb9 B8.size
      clear c0 c1
      have c0 : w9.cell? ⟨w7.heap.size, 0, none⟩ = some (.int .u16 (B : Int)) := s9.cell 0
      have c1 : w9.cell? ⟨w7.heap.size, 1, none⟩ = some (.int .i64 (N : Int)) := s9.cell 1
      clear hb9 s8' s9 B8 hbo
      go_wp2_with fail
      refine (hbt _).mono ?_
      rintro e w10 ⟨rfl, hb10⟩
      have B10 := bel_step B9 hb10 B9.size
      clear hb10 B9 hbt c0 c1
      go_wp2
      go_ret
      exact ⟨rfl, B10⟩
    · clear hno s8 u8 s8'
      go_wp2
      go_ret
      exact ⟨rfl, B8⟩
theorem FnBitBack_great1 (AA AB : Option Addr) (n c n' c' : Nat) (hn : 1048576 < n) (w : World) : Calls Tryd.prog 4 #[.slice AA n c, .slice AB n' c'] w fun e w' => e = .returned (.bool true) ∧ Below w.heap.size w w' := by
  have hd : decide ((1048576 : Int) < (n : Int)) = true := by simp; omega
  go_enter Tryd.func4, Tryd.ntmps4
  go_wp2
  go_ret
  exact ⟨rfl, Below.refl _ _⟩
theorem FnBitBack_great2 (AA AB : Option Addr) (n c n' c' : Nat) (hn0 : n ≤ 1048576) (hn : 1048576 < n') (w : World) : Calls Tryd.prog 4 #[.slice AA n c, .slice AB n' c'] w fun e w' => e = .returned (.bool true) ∧ Below w.heap.size w w' := by
  have hd : decide ((1048576 : Int) < (n : Int)) = false := by simp; omega
  have hd' : decide ((1048576 : Int) < (n' : Int)) = true := by simp; omega
  go_enter Tryd.func4, Tryd.ntmps4
  go_wp2
  go_ret
  exact ⟨rfl, Below.refl _ _⟩
theorem FnBitBack_walk (a0 : Option Addr) (len0 cap0 : Nat) (z0 : List Int) (a1 : Option Addr) (len1 cap1 : Nat) (z1 : List Int) (w : World) (w0 : IsRow .u8 w a0 len0 cap0 z0) (w1 : IsRow .u8 w a1 len1 cap1 z1) (hL : laidMetH Tryd.prog Rows.fnBitBackRow.laid w) : Calls Tryd.prog 4 #[.slice a0 len0 cap0, .slice a1 len1 cap1] w fun e w' => e = .returned (.bool true) ∧ Below w.heap.size w w' := by
  by_cases hn : len0 ≤ 1048576
  · by_cases hn' : len1 ≤ 1048576
    · exact FnBitBack_some a0 a1 len0 cap0 len1 cap1 w (isCode_of w0) (isCode_of w1) hn hn'
    · exact FnBitBack_great2 a0 a1 len0 cap0 len1 cap1 hn (by omega) w
  · exact FnBitBack_great1 a0 a1 len0 cap0 len1 cap1 (by omega) w
end Go.Proofs.YtblpidkkfhgjjaaDoor
