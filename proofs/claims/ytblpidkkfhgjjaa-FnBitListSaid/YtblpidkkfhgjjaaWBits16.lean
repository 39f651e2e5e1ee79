/- The walk of FnBitList. -/
import Derived.Test.YtblpidkkfhgjjaaRows
import Derived.Test.YtblpidkkfhgjjaaWBits13
import Derived.WalkKit
import Derived.WalkSpells
import Derived.WalkLawsBesides
import Derived.OpenShut
import Derived.OwnWalk
import Derived.IntWalk
import Derived.Lib.Hide
import Derived.Deep.RegionHeld3
import Derived.Deep.AppendLies
namespace Go.Proofs.Ytblpidkkfhgjjaa
open Go.RowKit Bx Rdr
set_option linter.unusedVariables false

/-- pushed: the bits -/
theorem pushed_bits {B N : Nat} (x : Bool) (hB : B < 2 ^ N) (hN : N ≤ 16) : BitP.bits ((B * 2 + x.toNat) % 65536) (min (N + 1) 16) = BitP.last 16 (BitP.bits B N ++ [x]) := by
  obtain ⟨h1, h2⟩ := BitP.push_val x hB hN
  have h3 := BitP.bits_num (BitP.last 16 (BitP.bits B N ++ [x]))
  rwa [h1, BitP.last_length, h2] at h3
theorem pushed_lt {B N : Nat} (x : Bool) (hB : B < 2 ^ N) (hN : N ≤ 16) : (B * 2 + x.toNat) % 65536 < 2 ^ (min (N + 1) 16) ∧ ((B * 2 + x.toNat) % 65536 % 2 == 1) = x := by
  have hx : x.toNat ≤ 1 := by cases x <;> simp
  constructor
  · by_cases h : N = 16
    · subst h; rw [show min (16 + 1) 16 = 16 from rfl]; exact Nat.mod_lt _ (by decide)
    · have h2 : 2 ^ (N + 1) = 2 ^ N * 2 := Nat.pow_succ _ _
      rw [Nat.min_eq_left (by omega), h2]
      exact Nat.lt_of_le_of_lt (Nat.mod_le _ _) (by omega)
  · have : (B * 2 + x.toNat) % 65536 % 2 = x.toNat := by omega
    rw [this]; cases x <;> rfl
set_option maxRecDepth 100000 in
set_option maxHeartbeats 400000 in
theorem wbSame_at1 (l : List Bool) (n g c h d : Nat) (hn6 : n ≤ 1000000) (w : World) (hg : g < w.heap.size) (hh : h < w.heap.size)
    (hc : ∀ i y, i < n → l[i]? = some y → w.cell? ⟨g, i, none⟩ = some (.bool y)) (hd : ∀ i y, i < n → l[i]? = some y → w.cell? ⟨h, 1 + i, none⟩ = some (.bool y)) (hn : n = l.length) :
    Calls Try.prog 8 #[.slice (some ⟨g, 0, none⟩) n c, .slice (some ⟨h, 1, none⟩) n d] w fun e w' => e = .returned (.bool true) ∧ Below w.heap.size w w' := by
  have HN := Lib.hid hn
  clear hn
  go_enter Try.func8, Try.ntmps8
  go_wp2_with fail
  go_loopw [5] (fun i wr => ∃ k : Nat, k ≤ n ∧ i = .int .i64 k ∧ Below w.heap.size w wr) (fun i _ => n - (intOf i).toNat)
  case atStart => exact ⟨0, by omega, rfl, Below.refl _ _⟩
  case round =>
    obtain ⟨k, hk, rfl, hbel⟩ := hrel
    by_cases hlt : k < n
    · have hkl : k < l.length := by rw [← HN.out]; exact hlt
      obtain ⟨y, hy⟩ : ∃ y, y = l[k] := ⟨_, rfl⟩
      have hy2 : l[k]? = some y := by rw [hy]; exact List.getElem?_eq_getElem hkl
      have cg : wr.cell? ⟨g, k, none⟩ = some (.bool y) := (hbel.cell (p := ⟨g, k, none⟩) hg).trans (hc k y hlt hy2)
      have ch : wr.cell? ⟨h, 1 + k, none⟩ = some (.bool y) := (hbel.cell (p := ⟨h, 1 + k, none⟩) hh).trans (hd k y hlt hy2)
      have d0 : (0 : Int) ≤ (k : Int) := by omega
      have d1 : (k : Int) < (n : Int) := by omega
      clear hy hy2 hc hd
      go_wp2_with fail
      go_quiet (fail)
      go_wp2
      go_roundw
      case rel => exact ⟨k + 1, by omega, by go_num, bel_drewN hbel _⟩
      case measure => simp [intOf]; omega
    · clear hc hd
      go_wp2
      go_ret
      exact ⟨rfl, hbel⟩
set_option maxRecDepth 100000 in
set_option maxHeartbeats 400000 in
theorem FnBitList_some (AA : Option Addr) (n c : Nat) (w : World) (h : IsCode w AA n c) (hn : n ≤ 1048576) : Calls Try.prog 3 #[.slice AA n c] w fun e w' => e = .returned (.bool true) ∧ Below w.heap.size w w' := by
  have hd : decide ((1048576 : Int) < (n : Int)) = false := by simp; omega
  obtain ⟨i0, hi0, hz0, hz1, hz2⟩ := info_parts infoB
  go_enter Try.func3, Try.ntmps3
  go_wp2_with fail
  refine (DrawBitPush_any AA n c w h).mono ?_
  rintro e w1 ⟨b, m, x, rfl, hb0, hb1, hB1⟩
  clear h
  obtain ⟨hB, hN⟩ := good_bounds (n := m) hb0
  have hb0' := hb0
  have hslist := fun w => sBitList_any b m hb0 hb1 w
  obtain ⟨B, hBe⟩ : ∃ B, B = (BitP.good 16 b m).1 := ⟨_, rfl⟩
  obtain ⟨N, hNe⟩ : ∃ N, N = (BitP.good 16 b m).2 := ⟨_, rfl⟩
  rw [← hBe, ← hNe] at hB hslist
  rw [← hNe] at hN
  have hg : (B, N) = BitP.good 16 b m := by rw [hBe, hNe]
  clear hBe hNe
  have hll : (BitP.bits B N).length = N := BitP.bits_length _ _
  rw [hll] at hslist
  have huniq : ∀ B' N', (B', N') = BitP.good 16 b m → B' = B ∧ N' = N := fun B' N' hg' => by
    have h := hg'.trans hg.symm; exact ⟨congrArg Prod.fst h, congrArg Prod.snd h⟩
  obtain ⟨P, hP⟩ : ∃ P : Nat, P = (B * 2 + x.toNat) % 65536 := ⟨_, rfl⟩
  obtain ⟨M, hM⟩ : ∃ M : Nat, M = min (N + 1) 16 := ⟨_, rfl⟩
  obtain ⟨hp1, hp2⟩ := pushed_lt x hB hN
  have hpb := pushed_bits x hB hN
  rw [← hP, ← hM] at hp1 hpb
  rw [← hP] at hp2
  have hM16 : M ≤ 16 := by omega
  have hP16 : P < 65536 := Nat.lt_of_lt_of_le hp1 (pow16 hM16 (by decide))
  have hgp : BitP.good 16 (P : Int) (M : Int) = (P, M) := by
    have : BitP.ok 16 (P : Int) (M : Int) = true := BitP.ok_of (by omega) hp1
    simp [BitP.good, this]
  have hilist : ∀ w, Calls Try.prog 7 #[.agg #[.int .u16 b, .int .i64 m]] w fun e w' => ∃ g c, e = .returned (.slice (some ⟨g, 0, none⟩) N c) ∧ Own 4 w.heap.size w' g c ((BitP.bits B N).map Value.bool) ∧ Below w.heap.size w w' := fun w => by
    refine (BitList_i_any b m hb0 hb1 w).mono ?_
    rintro e w' ⟨B', N', hg', _, _, g, c, he, ho, hb⟩
    obtain ⟨rfl, rfl⟩ := huniq B' N' hg'
    exact ⟨g, c, he, ho, hb⟩
  have hpush : ∀ w, Calls Try.prog 10 #[.agg #[.int .u16 b, .int .i64 m], .bool x] w fun e w' => e = .returned (.agg #[.int .u16 P, .int .i64 M]) ∧ Below w.heap.size w w' := fun w => by
    refine (BitPush_i_any b m x hb0 hb1 w).mono ?_
    rintro e w' ⟨B', N', hg', _, _, he, hb⟩
    obtain ⟨rfl, rfl⟩ := huniq B' N' hg'
    exact ⟨by rw [he, hP, hM], hb⟩
  have hpop : ∀ w, Calls Try.prog 11 #[.agg #[.int .u16 P, .int .i64 M]] w fun e w' => e = .returned (.tuple #[.agg #[.int .u16 ((P / 2 : Nat) : Int), .int .i64 ((M - 1 : Nat) : Int)], .bool x]) ∧ Below w.heap.size w w' := fun w => by
    refine (BitPop_i_any (P : Int) (M : Int) (by omega) (by omega) w).mono ?_
    rintro e w' ⟨B', N', hg', _, _, he, hb⟩
    obtain ⟨rfl, rfl⟩ : B' = P ∧ N' = M := by have h := hg'.trans hgp; exact ⟨congrArg Prod.fst h, congrArg Prod.snd h⟩
    exact ⟨by rw [he, hp2], hb⟩
  have hok : ∀ w, Calls Try.prog 12 #[.agg #[.int .u16 P, .int .i64 M]] w fun e w' => e = .returned (.bool true) ∧ Below w.heap.size w w' := fun w => by
    have := BitOk_i_any (P : Int) (M : Int) (by omega) (by omega) w
    rwa [show BitP.ok 16 (P : Int) (M : Int) = true from BitP.ok_of (by omega) hp1] at this
  have hplist : ∀ w, Calls Try.prog 7 #[.agg #[.int .u16 P, .int .i64 M]] w fun e w' => ∃ g c, e = .returned (.slice (some ⟨g, 0, none⟩) M c) ∧ Own 4 w.heap.size w' g c ((BitP.bits P M).map Value.bool) ∧ Below w.heap.size w w' := fun w => by
    refine (BitList_i_any (P : Int) (M : Int) (by omega) (by omega) w).mono ?_
    rintro e w' ⟨B', N', hg', _, _, g, c, he, ho, hb⟩
    obtain ⟨rfl, rfl⟩ : B' = P ∧ N' = M := by have h := hg'.trans hgp; exact ⟨congrArg Prod.fst h, congrArg Prod.snd h⟩
    exact ⟨g, c, he, ho, hb⟩
  have hsok : ∀ w, Calls Try.prog 13 #[.agg #[.int .u16 b, .int .i64 m]] w fun e w' => e = .returned (.bool (BitP.ok 16 b m)) ∧ Below w.heap.size w w' := fun w => sBitOk_any b m hb0 hb1 w
  have s1 := Box.new w1 #[.int .u16 b, .int .i64 m] 25
  have hB1' : Below w.heap.size w (w1.alloc (.cells #[.int .u16 b, .int .i64 m] 25)) := hB1.alloc hB1.size _
  have l1 := hB1.size
  have HV := Lib.hid (And.intro hB (And.intro hN (And.intro hP (And.intro hM (And.intro hpb (And.intro hp1 hg))))))
  have HL := Lib.hid hll
  clear hB1 hB hN hP hM hpb hp1 hp2 hg hgp huniq hb0 hb1 hP16 hM16 hll
  go_wp2_with fail
  refine (hilist _).mono ?_
  rintro e w2 ⟨g, cc, rfl, o2, hb2⟩
  have s2 := s1.kept hb2
  have hB2 := bel_step hB1' hb2 hB1'.size
  have l2 := s2.lt
  have lg := o2.lt
  have c0 : w2.cell? ⟨w1.heap.size, 0, none⟩ = some (.int .u16 b) := s2.cell 0
  have c1 : w2.cell? ⟨w1.heap.size, 1, none⟩ = some (.int .i64 m) := s2.cell 1
  clear hb2 s1 hB1' hilist
  go_wp2_with fail
  refine (hslist _).mono ?_
  rintro e w3 ⟨g', cc', rfl, o3', hb3⟩
  have s3 := s2.kept hb3
  have o3 := o2.kept hb3
  have hB3 := bel_step hB2 hb3 hB2.size
  clear hb3 hslist s2 o2 hB2 c0 c1
  go_wp2_with fail
  refine (wbSame_same (BitP.bits B N) N g cc g' cc' _ _ HL.out.symm (by rw [HL.out]; have := HV.out.2.1; omega) w3 o3 o3').mono ?_
  rintro e w4 ⟨rfl, hb4⟩
  have s4 := s3.kept hb4
  have o4 := o3.kept hb4
  have hB4 := bel_step hB3 hb4 hB3.size
  have c0 : w4.cell? ⟨w1.heap.size, 0, none⟩ = some (.int .u16 b) := s4.cell 0
  have c1 : w4.cell? ⟨w1.heap.size, 1, none⟩ = some (.int .i64 m) := s4.cell 1
  clear hb4 s3 o3 o3' hB3
  go_wp2_with fail
  refine (hpush _).mono ?_
  rintro e w5 ⟨rfl, hb5⟩
  have s5 := (s4.kept hb5).alloc (.cells #[.int .u16 P, .int .i64 M] 25)
  have o5 := (o4.kept hb5).alloc (.cells #[.int .u16 P, .int .i64 M] 25)
  have p5 := Box.new w5 #[.int .u16 P, .int .i64 M] 25
  have hB5 := bel_step hB4 hb5 hB4.size
  have hB5' : Below w.heap.size w (w5.alloc (.cells #[.int .u16 P, .int .i64 M] 25)) := hB5.alloc hB5.size _
  have l5 : w1.heap.size < w5.heap.size := Nat.lt_of_lt_of_le s4.lt hb5.size
  have lg5 : g < w5.heap.size := Nat.lt_of_lt_of_le o4.lt.2 hb5.size
  clear hb5 s4 o4 hB4 hB5 c0 c1 hpush
  have hrow := o5.row (n := N) (by simpa using HL.out)
  have hN16 : N ≤ 16 := HV.out.2.1
  have hlg : (w1.alloc (Obj.cells #[.int .u16 b, .int .i64 m] 25)).heap.size ≤ g := lg.1
  have hB1a : w.heap.size ≤ w1.heap.size := l1
  by_cases h16 : N = 16
  · subst h16
    have hME : M = 16 := by have := HV.out.2.2.2.1; omega
    have hplist2 : ∀ w, Calls Try.prog 7 #[.agg #[.int .u16 P, .int .i64 M]] w fun e w' => ∃ g c, e = .returned (.slice (some ⟨g, 0, none⟩) (16) c) ∧ Own 4 w.heap.size w' g c ((BitP.bits P (16)).map Value.bool) ∧ Below w.heap.size w w' := fun w => by
      refine (hplist w).mono ?_
      rintro e w' ⟨g, c, he, ho, hb⟩
      exact ⟨g, c, by rw [he, hME], by rw [← hME]; exact ho, hb⟩
    have HME := Lib.hid hME
    clear hplist hME
    clear hN16
    go_wp2_with (first | (at_builtin; generalize hv5 : w5.alloc (.cells #[.int .u16 P, .int .i64 M] 25) = v5 at s5 o5 p5 hB5' hrow ⊢; have hsz : v5.heap.size = w5.heap.size + 1 := (by rw [← hv5]; simp); clear hv5; have hnew := heap_alloc_new v5 (.cells #[.bool x] 4); rw [hsz] at hnew; refine wpList_append_lies _ rfl _ _ 28 rfl _ 4 i0 (.bool false) 1 1 Try.underlying28 hi0 hz0 hz1 hz2 rfl (by decide) (.slice (some ⟨g, 0, none⟩) 16 cc) 16 _ rfl (hrow.alloc _) ⟨w5.heap.size + 1, 0, none⟩ 1 1 [_] (by rfl) (by rfl) (World.news_of_block (cs := #[_]) (t := 4) (fr := (0, 0)) hnew) (by simp [Value.oneCell']) (by omega) (by unfold maxLen; omega) (by omega) (by simp; omega) (v5.heap.size + 1) (by simp) ?_; intro ggg cap w6 hown6 hgrow hat hlt6; have n6 : Own 4 0 w6 ggg cap ((BitP.bits B 16 ++ [x]).map Value.bool) := (Own.of (base := (w1.alloc (Obj.cells #[.int .u16 b, .int .i64 m] 25)).heap.size) (n := 17) (xs := (BitP.bits B 16 ++ [x]).map Value.bool) (by rw [List.map_append]; exact hown6) (by simp [BitP.bits_length])).mono (Nat.zero_le _); have s6 : Box w6 w1.heap.size #[.int .u16 b, .int .i64 m] 25 := Own.box_grown (s5.alloc _) hgrow (show some w1.heap.size ≠ some g by simp at hlg ⊢; omega); have p6 : Box w6 w5.heap.size #[.int .u16 P, .int .i64 M] 25 := Own.box_grown (p5.alloc _) hgrow (show some w5.heap.size ≠ some g by simp; omega); have hB6 : Below w.heap.size w w6 := below_grown (hB5'.alloc hB5'.size _) hgrow (by intro q hq; simp [Value.ownBlock] at hq; simp at hlg; omega) (Nat.le_refl _); have lcap : 17 ≤ cap := (by have := n6.len.1; simpa [BitP.bits_length] using this); have lgg := n6.lt.2; have HS6 := Lib.hid (And.intro n6 (And.intro s6 (And.intro p6 hB6))); have c0 : w6.cell? ⟨w5.heap.size, 0, none⟩ = some (.int .u16 P) := p6.cell 0; have c1 : w6.cell? ⟨w5.heap.size, 1, none⟩ = some (.int .i64 M) := p6.cell 1; have hcc : ¬ cap = 1 := (by omega); clear hsz hnew hown6 hgrow hat hlt6 s5 o5 p5 hB5' hrow n6 s6 p6 hB6 hi0 hz0 hz1 hz2))
    refine (hpop _).mono ?_
    rintro e w7 ⟨rfl, hb7⟩
    obtain ⟨n6, s6, p6, hB6⟩ := HS6.out
    clear HS6
    obtain ⟨D, hD⟩ : ∃ D : Int, D = ((P / 2 : Nat) : Int) := ⟨_, rfl⟩
    obtain ⟨E, hE⟩ : ∃ E : Int, E = ((M - 1 : Nat) : Int) := ⟨_, rfl⟩
    rw [← hD, ← hE]
    have s7 := (s6.kept hb7).alloc (.cells #[.int .u16 D, .int .i64 E] 25)
    have p7 := (p6.kept hb7).alloc (.cells #[.int .u16 D, .int .i64 E] 25)
    have n7 := (n6.kept hb7).alloc (.cells #[.int .u16 D, .int .i64 E] 25)
    have k7 := Box.new w7 #[.int .u16 D, .int .i64 E] 25
    have hB7 := (bel_step hB6 hb7 hB6.size).alloc (bel_step hB6 hb7 hB6.size).size (.cells #[.int .u16 D, .int .i64 E] 25)
    have l7 : w5.heap.size < w7.heap.size := Nat.lt_of_lt_of_le p6.lt hb7.size
    have HD := Lib.hid (And.intro hD hE)
    clear c0 c1
    have c0 : w7.cell? ⟨w5.heap.size, 0, none⟩ = some (.int .u16 P) := (p6.kept hb7).cell 0
    have c1 : w7.cell? ⟨w5.heap.size, 1, none⟩ = some (.int .i64 M) := (p6.kept hb7).cell 1
    clear hD hE hb7 n6 s6 p6 hB6 hpop
    go_wp2_with fail
    refine (hok _).mono ?_
    rintro e w9 ⟨rfl, hb9⟩
    have s9 := s7.kept hb9
    have p9 := p7.kept hb9
    have n9 := n7.kept hb9
    have k9 := k7.kept hb9
    have hB9 := bel_step hB7 hb9 hB7.size
    clear c0 c1
    have c0 : w9.cell? ⟨w5.heap.size, 0, none⟩ = some (.int .u16 P) := p9.cell 0
    have c1 : w9.cell? ⟨w5.heap.size, 1, none⟩ = some (.int .i64 M) := p9.cell 1
    clear hb9 s7 p7 n7 k7 hB7 hok
    go_wp2_with fail
    refine (hplist2 _).mono ?_
    rintro e wa ⟨g2, c2, rfl, oa, hba⟩
    have sa := s9.kept hba
    have na := n9.kept hba
    have ka := k9.kept hba
    have hBa := bel_step hB9 hba hB9.size
    clear hba s9 p9 n9 k9 hB9 c0 c1 hplist2
    have hpb : BitP.bits P 16 = (BitP.bits B 16 ++ [x]).drop 1 := by
      have h := HV.out.2.2.2.2.1
      rw [HME.out] at h
      rw [h]; unfold BitP.last; rw [List.length_append, BitP.bits_length]; rfl
    have hsame := wbSame_at1 (BitP.bits P 16) 16 g2 c2 ggg (cap - 1) (by omega) wa oa.lt.2 na.lt.2 (fun i y hi hy => by
      have h1 := oa.bits i (by rw [BitP.bits_length]; omega)
      rw [h1]; rw [List.getElem?_eq_getElem (by rw [BitP.bits_length]; omega)] at hy; rw [Option.some.inj hy]) (fun i y hi hy => by
      have h1 := na.bits (1 + i) (by rw [List.length_append, BitP.bits_length]; simp; omega)
      rw [h1]
      rw [hpb, List.getElem?_drop, List.getElem?_eq_getElem (by rw [List.length_append, BitP.bits_length]; simp; omega)] at hy
      rw [Option.some.inj hy]) (by rw [BitP.bits_length])
    have HPB := Lib.hid hpb
    clear hpb
    go_wp2_with fail
    refine hsame.mono ?_
    rintro e wb ⟨rfl, hbb⟩
    have sb := sa.kept hbb
    have kb := ka.kept hbb
    have hBb := bel_step hBa hbb hBa.size
    clear hbb sa na ka oa hBa hsame HPB
    clear hsok sb kb
    go_wp2
    go_ret
    exact ⟨rfl, hBb⟩
  · have hN15 : N ≤ 15 := by omega
    have hME : M = N + 1 := by have := HV.out.2.2.2.1; omega
    have hplist2 : ∀ w, Calls Try.prog 7 #[.agg #[.int .u16 P, .int .i64 M]] w fun e w' => ∃ g c, e = .returned (.slice (some ⟨g, 0, none⟩) (N + 1) c) ∧ Own 4 w.heap.size w' g c ((BitP.bits P (N + 1)).map Value.bool) ∧ Below w.heap.size w w' := fun w => by
      refine (hplist w).mono ?_
      rintro e w' ⟨g, c, he, ho, hb⟩
      exact ⟨g, c, by rw [he, hME], by rw [← hME]; exact ho, hb⟩
    have HME := Lib.hid hME
    clear hplist hME
    have dl1 : decide ((16 : Int) < (N : Int) + 1) = false := by simp; omega
    have dl3 : ((N : Int) == 16) = false := by simp; omega
    clear hN16 h16
    go_wp2_with (first | (at_builtin; generalize hv5 : w5.alloc (.cells #[.int .u16 P, .int .i64 M] 25) = v5 at s5 o5 p5 hB5' hrow ⊢; have hsz : v5.heap.size = w5.heap.size + 1 := (by rw [← hv5]; simp); clear hv5; have hnew := heap_alloc_new v5 (.cells #[.bool x] 4); rw [hsz] at hnew; refine wpList_append_lies _ rfl _ _ 28 rfl _ 4 i0 (.bool false) 1 1 Try.underlying28 hi0 hz0 hz1 hz2 rfl (by decide) (.slice (some ⟨g, 0, none⟩) N cc) N _ rfl (hrow.alloc _) ⟨w5.heap.size + 1, 0, none⟩ 1 1 [_] (by rfl) (by rfl) (World.news_of_block (cs := #[_]) (t := 4) (fr := (0, 0)) hnew) (by simp [Value.oneCell']) (by omega) (by unfold maxLen; omega) (by omega) (by simp; omega) (v5.heap.size + 1) (by simp) ?_; intro ggg cap w6 hown6 hgrow hat hlt6; have n6 : Own 4 0 w6 ggg cap ((BitP.bits B N ++ [x]).map Value.bool) := (Own.of (base := (w1.alloc (Obj.cells #[.int .u16 b, .int .i64 m] 25)).heap.size) (n := N + 1) (xs := (BitP.bits B N ++ [x]).map Value.bool) (by rw [List.map_append]; exact hown6) (by simp [BitP.bits_length])).mono (Nat.zero_le _); have s6 : Box w6 w1.heap.size #[.int .u16 b, .int .i64 m] 25 := Own.box_grown (s5.alloc _) hgrow (show some w1.heap.size ≠ some g by simp at hlg ⊢; omega); have p6 : Box w6 w5.heap.size #[.int .u16 P, .int .i64 M] 25 := Own.box_grown (p5.alloc _) hgrow (show some w5.heap.size ≠ some g by simp; omega); have hB6 : Below w.heap.size w w6 := below_grown (hB5'.alloc hB5'.size _) hgrow (by intro q hq; simp [Value.ownBlock] at hq; simp at hlg; omega) (Nat.le_refl _); have lcap : N + 1 ≤ cap := (by have := n6.len.1; simpa [BitP.bits_length] using this); have lgg := n6.lt.2; have HS6 := Lib.hid (And.intro n6 (And.intro s6 (And.intro p6 hB6))); have c0 : w6.cell? ⟨w5.heap.size, 0, none⟩ = some (.int .u16 P) := p6.cell 0; have c1 : w6.cell? ⟨w5.heap.size, 1, none⟩ = some (.int .i64 M) := p6.cell 1; clear hsz hnew hown6 hgrow hat hlt6 s5 o5 p5 hB5' hrow n6 s6 p6 hB6 hi0 hz0 hz1 hz2))
    refine (hpop _).mono ?_
    rintro e w7 ⟨rfl, hb7⟩
    obtain ⟨n6, s6, p6, hB6⟩ := HS6.out
    clear HS6
    obtain ⟨D, hD⟩ : ∃ D : Int, D = ((P / 2 : Nat) : Int) := ⟨_, rfl⟩
    obtain ⟨E, hE⟩ : ∃ E : Int, E = ((M - 1 : Nat) : Int) := ⟨_, rfl⟩
    rw [← hD, ← hE]
    have s7 := (s6.kept hb7).alloc (.cells #[.int .u16 D, .int .i64 E] 25)
    have p7 := (p6.kept hb7).alloc (.cells #[.int .u16 D, .int .i64 E] 25)
    have n7 := (n6.kept hb7).alloc (.cells #[.int .u16 D, .int .i64 E] 25)
    have k7 := Box.new w7 #[.int .u16 D, .int .i64 E] 25
    have hB7 := (bel_step hB6 hb7 hB6.size).alloc (bel_step hB6 hb7 hB6.size).size (.cells #[.int .u16 D, .int .i64 E] 25)
    have l7 : w5.heap.size < w7.heap.size := Nat.lt_of_lt_of_le p6.lt hb7.size
    have HD := Lib.hid (And.intro hD hE)
    clear c0 c1
    have c0 : w7.cell? ⟨w5.heap.size, 0, none⟩ = some (.int .u16 P) := (p6.kept hb7).cell 0
    have c1 : w7.cell? ⟨w5.heap.size, 1, none⟩ = some (.int .i64 M) := (p6.kept hb7).cell 1
    clear hD hE hb7 n6 s6 p6 hB6 hpop
    go_wp2_with fail
    refine (hok _).mono ?_
    rintro e w9 ⟨rfl, hb9⟩
    have s9 := s7.kept hb9
    have p9 := p7.kept hb9
    have n9 := n7.kept hb9
    have k9 := k7.kept hb9
    have hB9 := bel_step hB7 hb9 hB7.size
    clear c0 c1
    have c0 : w9.cell? ⟨w5.heap.size, 0, none⟩ = some (.int .u16 P) := p9.cell 0
    have c1 : w9.cell? ⟨w5.heap.size, 1, none⟩ = some (.int .i64 M) := p9.cell 1
    clear hb9 s7 p7 n7 k7 hB7 hok
    go_wp2_with fail
    refine (hplist2 _).mono ?_
    rintro e wa ⟨g2, c2, rfl, oa, hba⟩
    have sa := s9.kept hba
    have na := n9.kept hba
    have ka := k9.kept hba
    have hBa := bel_step hB9 hba hB9.size
    clear hba s9 p9 n9 k9 hB9 c0 c1 hplist2
    have hpb : BitP.bits P (N + 1) = BitP.bits B N ++ [x] := by
      have h := HV.out.2.2.2.2.1
      rw [HME.out] at h
      rw [h]; unfold BitP.last; rw [List.length_append, BitP.bits_length, List.length_singleton, show N + 1 - 16 = 0 by omega]; rfl
    rw [← hpb] at na
    have HPB := Lib.hid hpb
    clear hpb
    go_wp2_with fail
    refine (wbSame_same (BitP.bits P (N + 1)) (N + 1) g2 c2 ggg cap _ _ (by rw [BitP.bits_length]) (by rw [BitP.bits_length]; omega) wa oa na).mono ?_
    rintro e wb ⟨rfl, hbb⟩
    have sb := sa.kept hbb
    have kb := ka.kept hbb
    have hBb := bel_step hBa hbb hBa.size
    clear hbb sa na ka oa hBa HPB
    have c0 : wb.cell? ⟨w1.heap.size, 0, none⟩ = some (.int .u16 b) := sb.cell 0
    have c1 : wb.cell? ⟨w1.heap.size, 1, none⟩ = some (.int .i64 m) := sb.cell 1
    go_wp2_with fail
    refine (hsok _).mono ?_
    rintro e wc ⟨rfl, hbc⟩
    have sc := sb.kept hbc
    have kc := kb.kept hbc
    have hBc := bel_step hBb hbc hBb.size
    clear hbc sb kb hBb c0 c1 hsok
    cases hok : BitP.ok 16 b m with
    | false =>
      clear sc kc HD HV HL hok
      go_wp2
      go_ret
      exact ⟨rfl, hBc⟩
    | true =>
      obtain ⟨hB, hN, hP, hM, _, _, hg⟩ := HV.out
      obtain ⟨B', N', rfl, rfl, _, _⟩ := BitP.ok_nat hok hb0'
      have hz : B = B' ∧ N = N' := by
        have : (B, N) = (B', N') := hg.trans (by simp [BitP.good, hok])
        exact ⟨congrArg Prod.fst this, congrArg Prod.snd this⟩
      obtain ⟨rfl, rfl⟩ := hz
      obtain ⟨hD, hE⟩ := HD.out
      have hME := HME.out
      have h2 : 2 ^ N ≤ 32768 := pow16 (show N ≤ 15 by omega) (by decide)
      have hx : x.toNat ≤ 1 := by cases x <;> simp
      obtain rfl : D = (B : Int) := by omega
      obtain rfl : E = (N : Int) := by omega
      have c0 : wc.cell? ⟨w1.heap.size, 0, none⟩ = some (.int .u16 B) := sc.cell 0
      have c1 : wc.cell? ⟨w1.heap.size, 1, none⟩ = some (.int .i64 N) := sc.cell 1
      have d0 : wc.cell? ⟨w7.heap.size, 0, none⟩ = some (.int .u16 B) := kc.cell 0
      have d1 : wc.cell? ⟨w7.heap.size, 1, none⟩ = some (.int .i64 N) := kc.cell 1
      clear sc kc HD HV HL hok hB hN hP hM hg hD hE h2 hx HME hME
      go_wp2
      go_ret
      exact ⟨rfl, hBc⟩
theorem FnBitList_great (AA : Option Addr) (n c : Nat) (hn : 1048576 < n) (w : World) : Calls Try.prog 3 #[.slice AA n c] w fun e w' => e = .returned (.bool true) ∧ Below w.heap.size w w' := by
  have hd : decide ((1048576 : Int) < (n : Int)) = true := by simp; omega
  go_enter Try.func3, Try.ntmps3
  go_wp2
  go_ret
  exact ⟨rfl, Below.refl _ _⟩
theorem FnBitList_walk (a0 : Option Addr) (len0 cap0 : Nat) (z0 : List Int) (w : World) (w0 : IsRow .u8 w a0 len0 cap0 z0) : Calls Try.prog 3 #[.slice a0 len0 cap0] w fun e w' => e = .returned (.bool true) ∧ Below w.heap.size w w' := by
  by_cases hn : len0 ≤ 1048576
  · exact FnBitList_some a0 len0 cap0 w (isCode_of w0) hn
  · exact FnBitList_great a0 len0 cap0 (by omega) w
end Go.Proofs.Ytblpidkkfhgjjaa
