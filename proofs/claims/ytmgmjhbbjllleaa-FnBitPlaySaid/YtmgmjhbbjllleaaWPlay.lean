/- The walk of FnBitPlay. -/
import Derived.Test.YtmgmjhbbjllleaaRows
import Derived.Test.YtmgmjhbbjllleaaWBits10
import Derived.Test.YtmgmjhbbjllleaaWBits6
import Derived.WalkKit
import Derived.WalkSpells
import Derived.WalkLawsBesides
import Derived.OpenShut
import Derived.OwnWalk
import Derived.IntWalk
import Derived.Lib.Hide
import Derived.Deep.RegionHeld3
import Derived.Deep.AppendLies
import Derived.Deep.QuietTactic
import Derived.BigQuiet
import Derived.ChangeAt
namespace Go.Proofs.Ytmgmjhbbjllleaa
open Go.RowKit Bx Rdr
set_option linter.unusedVariables false

/-- WHAT A CODE IS: a slice of bytes that came in. -/
def IsCode (w : World) (a : Option Addr) (len cap : Nat) : Prop :=
  len = 0 ∨ ∃ b off, a = some ⟨b, off, none⟩ ∧ len ≤ cap ∧ b < w.heap.size ∧ ∀ i, i < len → ∃ u : Nat, u < 256 ∧ w.cell? ⟨b, off + i, none⟩ = some (.int .u8 u)
/-- WHAT IS KNOWN OF A SLICE OF INTEGERS THAT CAME IN: it is nil; or it leads to a row of 'cap' cells. -/
def IsRow (k : IntKind) (w : World) (a : Option Addr) (len cap : Nat) (zs : List Int) : Prop :=
  (a = none ∧ len = 0 ∧ cap = 0 ∧ zs = []) ∨
  ∃ x, a = some x ∧ len ≤ cap ∧ cap ≤ maxLen ∧ zs.length = cap ∧ (∀ i, i < zs.length → w.cell? (x.add i) = some (.int k (zs.getD i 0))) ∧ ∀ n ∈ zs, (Lit.int k n).wf = true
theorem isCode_of {w : World} {a : Option Addr} {len cap : Nat} {zs : List Int} (h : IsRow .u8 w a len cap zs) : IsCode w a len cap := by
  rcases h with ⟨rfl, rfl, rfl, _⟩ | ⟨x, rfl, hl, _, hz, hc, hw⟩
  · exact .inl rfl
  · rcases Nat.eq_zero_or_pos len with h0 | h0
    · exact .inl h0
    · right
      obtain ⟨b, off, spot⟩ := x
      have h1 := hc 0 (by omega)
      have hs : spot = none := by simpa [Addr.add] using World.cell?_spot h1
      subst hs
      have hb : b < w.heap.size := by
        rcases Nat.lt_or_ge b w.heap.size with h | h
        · exact h
        · simp [World.cell?, Addr.add, Array.getElem?_eq_none h] at h1
      refine ⟨b, off, rfl, hl, hb, fun i hi => ?_⟩
      have h2 := hc i (by omega)
      have hm : zs.getD i 0 ∈ zs := by rw [List.getD_eq_getElem?_getD, List.getElem?_eq_getElem (by omega)]; exact List.getElem_mem _
      have h3 := bounds_u8 (hw _ hm)
      refine ⟨(zs.getD i 0).toNat, by omega, ?_⟩
      rw [show ((zs.getD i 0).toNat : Int) = zs.getD i 0 by omega, ← h2]
      rcases Nat.eq_zero_or_pos i with rfl | hi0
      · simp [Addr.add]
      · rw [Addr.add, if_neg (by omega)]
theorem pair_eq {B N B' N' : Nat} {p : Nat × Nat} (h : (B, N) = p) (k : p = (B', N')) : B = B' ∧ N = N' := by
  have := h.trans k; exact ⟨congrArg Prod.fst this, congrArg Prod.snd this⟩
theorem good16 {B N : Nat} (hB : B < 2 ^ N) (hN : N ≤ 8) : BitP.good 16 (B : Int) (N : Int) = (B, N) := by
  have : BitP.ok 16 (B : Int) (N : Int) = true := BitP.ok_of (by omega) hB
  simp [BitP.good, this]
theorem good8 {B N : Nat} (hB : B < 2 ^ N) (hN : N ≤ 8) : BitP.good 8 (B : Int) (N : Int) = (B, N) := by
  have : BitP.ok 8 (B : Int) (N : Int) = true := BitP.ok_of (by omega) hB
  simp [BitP.good, this]
theorem lt256 {B N : Nat} (hB : B < 2 ^ N) (hN : N ≤ 8) : B < 256 := Nat.lt_of_lt_of_le hB (pow16 hN (by decide))
theorem play_push (B N D E : Nat) (x : Bool) (hB : B < 2 ^ N) (hN : N < 8) (hD : B * 2 + x.toNat = D) (hE : N + 1 = E) (w : World) : Calls Try.prog 25 #[.agg #[.int .u16 B, .int .i64 N], .bool x] w fun e w' => e = .returned (.agg #[.int .u16 D, .int .i64 E]) ∧ Below w.heap.size w w' := by
  have h8 := lt256 hB (by omega)
  have hx : x.toNat ≤ 1 := by cases x <;> simp
  refine (BitPush_i_any B N x (by omega) (by omega) w).mono ?_
  rintro e w' ⟨B', N', hg', _, _, he, hb⟩
  obtain ⟨rfl, rfl⟩ := pair_eq hg' (good16 hB (by omega))
  exact ⟨by rw [he, Nat.mod_eq_of_lt (by omega), Nat.min_eq_left (by omega), hD, hE], hb⟩
theorem play_fpush (B N D E : Nat) (x : Bool) (hB : B < 2 ^ N) (hN : N < 8) (hD : B * 2 + x.toNat = D) (hE : N + 1 = E) (w : World) : Calls Try.prog 26 #[.agg #[.int .u8 B, .int .i64 N], .bool x] w fun e w' => e = .returned (.agg #[.int .u8 D, .int .i64 E]) ∧ Below w.heap.size w w' := by
  have h8 := lt256 hB (by omega)
  have h7 : B < 128 := Nat.lt_of_lt_of_le hB (pow16 (show N ≤ 7 by omega) (by decide))
  have hx : x.toNat ≤ 1 := by cases x <;> simp
  refine (ForkPush_i_any B N x (by omega) (by omega) w).mono ?_
  rintro e w' ⟨B', N', hg', _, _, he, hb⟩
  obtain ⟨rfl, rfl⟩ := pair_eq hg' (good8 hB (by omega))
  exact ⟨by rw [he, Nat.mod_eq_of_lt (by omega), Nat.min_eq_left (by omega), hD, hE], hb⟩
theorem play_top (B N : Nat) (x : Bool) (hB : B < 2 ^ N) (hN : N ≤ 8) (hx : (B % 2 == 1) = x) (w : World) : Calls Try.prog 22 #[.agg #[.int .u16 B, .int .i64 N]] w fun e w' => e = .returned (.bool x) ∧ Below w.heap.size w w' := by
  have h8 := lt256 hB hN
  refine (BitTop_i_any B N (by omega) (by omega) w).mono ?_
  rintro e w' ⟨B', N', hg', _, _, he, hb⟩
  obtain ⟨rfl, rfl⟩ := pair_eq hg' (good16 hB hN)
  exact ⟨by rw [he, hx], hb⟩
theorem play_ftop (B N : Nat) (x : Bool) (hB : B < 2 ^ N) (hN : N ≤ 8) (hx : (B % 2 == 1) = x) (w : World) : Calls Try.prog 24 #[.agg #[.int .u8 B, .int .i64 N]] w fun e w' => e = .returned (.bool x) ∧ Below w.heap.size w w' := by
  have h8 := lt256 hB hN
  refine (ForkTop_i_any B N (by omega) (by omega) w).mono ?_
  rintro e w' ⟨B', N', hg', _, _, he, hb⟩
  obtain ⟨rfl, rfl⟩ := pair_eq hg' (good8 hB hN)
  exact ⟨by rw [he, hx], hb⟩
theorem play_pop (B N D E : Nat) (x : Bool) (hB : B < 2 ^ N) (hN : N ≤ 8) (hx : (B % 2 == 1) = x) (hD : B / 2 = D) (hE : N - 1 = E) (w : World) : Calls Try.prog 27 #[.agg #[.int .u16 B, .int .i64 N]] w fun e w' => e = .returned (.tuple #[.agg #[.int .u16 D, .int .i64 E], .bool x]) ∧ Below w.heap.size w w' := by
  have h8 := lt256 hB hN
  refine (BitPop_i_any B N (by omega) (by omega) w).mono ?_
  rintro e w' ⟨B', N', hg', _, _, he, hb⟩
  obtain ⟨rfl, rfl⟩ := pair_eq hg' (good16 hB hN)
  exact ⟨by rw [he, hx, hD, hE], hb⟩
theorem play_fpop (B N D E : Nat) (x : Bool) (hB : B < 2 ^ N) (hN : N ≤ 8) (hx : (B % 2 == 1) = x) (hD : B / 2 = D) (hE : N - 1 = E) (w : World) : Calls Try.prog 28 #[.agg #[.int .u8 B, .int .i64 N]] w fun e w' => e = .returned (.tuple #[.agg #[.int .u8 D, .int .i64 E], .bool x]) ∧ Below w.heap.size w w' := by
  have h8 := lt256 hB hN
  refine (ForkPop_i_any B N (by omega) (by omega) w).mono ?_
  rintro e w' ⟨B', N', hg', _, _, he, hb⟩
  obtain ⟨rfl, rfl⟩ := pair_eq hg' (good8 hB hN)
  exact ⟨by rw [he, hx, hD, hE], hb⟩
theorem play_ok (B N : Nat) (hB : B < 2 ^ N) (hN : N ≤ 8) (w : World) : Calls Try.prog 17 #[.agg #[.int .u16 B, .int .i64 N]] w fun e w' => e = .returned (.bool true) ∧ Below w.heap.size w w' := by
  have h8 := lt256 hB hN
  have := BitOk_i_any (B : Int) (N : Int) (by omega) (by omega) w
  rwa [show BitP.ok 16 (B : Int) (N : Int) = true from BitP.ok_of (by omega) hB] at this
theorem play_fok (B N : Nat) (hB : B < 2 ^ N) (hN : N ≤ 8) (w : World) : Calls Try.prog 20 #[.agg #[.int .u8 B, .int .i64 N]] w fun e w' => e = .returned (.bool true) ∧ Below w.heap.size w w' := by
  have h8 := lt256 hB hN
  have := ForkOk_i_any (B : Int) (N : Int) (by omega) (by omega) w
  rwa [show BitP.ok 8 (B : Int) (N : Int) = true from BitP.ok_of (by omega) hB] at this
theorem play_list (l : List Bool) (B N : Nat) (hl : l.length = N) (hn : BitP.num l = B) (hN : N ≤ 8) (w : World) : Calls Try.prog 30 #[.agg #[.int .u16 B, .int .i64 N]] w fun e w' => ∃ g c, e = .returned (.slice (some ⟨g, 0, none⟩) N c) ∧ Own 4 w.heap.size w' g c (l.map Value.bool) ∧ Below w.heap.size w w' := by
  subst hl hn
  have hB := BitP.num_lt l
  have h8 := lt256 hB hN
  refine (BitList_i_any (BitP.num l : Int) (l.length : Int) (by omega) (by omega) w).mono ?_
  rintro e w' ⟨B', N', hg', _, _, g, c, he, ho, hb⟩
  obtain ⟨rfl, rfl⟩ := pair_eq hg' (good16 hB hN)
  rw [BitP.bits_num] at ho
  exact ⟨g, c, he, ho, hb⟩
theorem num_step (l : List Bool) (x : Bool) : BitP.num (l ++ [x]) = BitP.num l * 2 + x.toNat ∧ (BitP.num (l ++ [x]) % 2 == 1) = x ∧ BitP.num (l ++ [x]) / 2 = BitP.num l := by
  have hx : x.toNat ≤ 1 := by cases x <;> simp
  have h := BitP.num_snoc l x
  refine ⟨h, ?_, by omega⟩
  have h2 : BitP.num (l ++ [x]) % 2 = x.toNat := by omega
  rw [h2]; cases x <;> rfl
set_option maxRecDepth 100000 in
set_option maxHeartbeats 2000000 in
theorem FnBitPlay_some (AA : Option Addr) (n c : Nat) (w : World) (h : IsCode w AA n c) (hn : n ≤ 1048576) : Calls Try.prog 7 #[.slice AA n c] w fun e w' => e = .returned (.bool true) ∧ Below w.heap.size w w' := by
  have hd : decide ((1048576 : Int) < (n : Int)) = false := by simp; omega
  obtain ⟨i0, hi0, hz0, hz1, hz2⟩ := info_parts infoB
  have b0 := ((Box.new w #[.int .u16 0, .int .i64 0] 26).alloc (.cells #[.int .u8 0, .int .i64 0] 32)).alloc (.cells #[] 4)
  have f0 := (Box.new (w.alloc (.cells #[.int .u16 0, .int .i64 0] 26)) #[.int .u8 0, .int .i64 0] 32).alloc (.cells #[] 4)
  have n0 := Own.made (t := 4) ((w.alloc (.cells #[.int .u16 0, .int .i64 0] 26)).alloc (.cells #[.int .u8 0, .int .i64 0] 32)) #[] (w.heap.size + 2) (by simp) (by decide)
  have hB0 : Below w.heap.size w (((w.alloc (.cells #[.int .u16 0, .int .i64 0] 26)).alloc (.cells #[.int .u8 0, .int .i64 0] 32)).alloc (.cells #[] 4)) := (((Below.refl _ _).alloc (Nat.le_refl _) _).alloc (by simp) _).alloc (by simp; omega) _
  have HS := Lib.hid (And.intro b0 (And.intro f0 (And.intro n0 hB0)))
  have H := Lib.hid h
  clear b0 f0 n0 hB0 h
  go_enter Try.func7, Try.ntmps7
  go_wp2_with fail
  go_loopw [5, 6] (fun v i wr => ∃ (k gg c : Nat) (l : List Bool), k ≤ n ∧ k ≤ 3000 ∧ l.length ≤ 8 ∧ v = .slice (some ⟨gg, 0, none⟩) l.length c ∧ i = .int .i64 k ∧ Own 4 (w.heap.size + 2) wr gg c (l.map Value.bool) ∧ Box wr w.heap.size #[.int .u16 (BitP.num l : Int), .int .i64 (l.length : Int)] 26 ∧ Box wr (w.heap.size + 1) #[.int .u8 (BitP.num l : Int), .int .i64 (l.length : Int)] 32 ∧ Below w.heap.size w wr) (fun _ i _ => n - (intOf i).toNat)
  case atStart => exact ⟨0, w.heap.size + 2, 0, [], by omega, by omega, by simp, by simp, rfl, by simpa using HS.out.2.2.1, by simpa [BitP.num] using HS.out.1, by simpa [BitP.num] using HS.out.2.1, HS.out.2.2.2⟩
  case round =>
    obtain ⟨k, gg, c', l, hk, hk3, hl8, rfl, rfl, hown, hbs, hbf, hbel⟩ := hrel
    clear HS
    have HI := Lib.hid (And.intro hown (And.intro hbs (And.intro hbf hbel)))
    clear hown hbs hbf hbel
    by_cases hlt : k < n ∧ k < 3000
    · obtain ⟨hkn, hk30⟩ := hlt
      rcases H.out with h0 | ⟨b, off, hAA, hnc, hbw, hcell⟩
      · exact absurd h0 (by omega)
      subst hAA
      obtain ⟨u, hu, hcu⟩ := hcell k hkn
      have cu : wr.cell? ⟨b, off + k, none⟩ = some (.int .u8 u) := (HI.out.2.2.2.cell (p := ⟨b, off + k, none⟩) hbw).trans hcu
      clear hcu hcell H
      have d0 : (0 : Int) ≤ (k : Int) := by omega
      have d1 : (k : Int) < (n : Int) := by omega
      have d2 : (k : Int) < 3000 := by omega
      have hnl := BitP.num_lt l
      have hn256 := lt256 hnl hl8
      obtain ⟨V, hV⟩ : ∃ V, V = BitP.num l := ⟨_, rfl⟩
      obtain ⟨L, hL⟩ : ∃ L, L = l.length := ⟨_, rfl⟩
      have HI' : Hid (Own 4 (w.heap.size + 2) wr gg c' (l.map Value.bool) ∧ Box wr w.heap.size #[.int .u16 (V : Int), .int .i64 (L : Int)] 26 ∧ Box wr (w.heap.size + 1) #[.int .u8 (V : Int), .int .i64 (L : Int)] 32 ∧ Below w.heap.size w wr) := by rw [hV, hL]; exact HI
      clear HI
      rw [← hL] at hl8 hnl ⊢
      rw [← hV] at hnl hn256
      have HVL := Lib.hid (And.intro hV (And.intro hL hnl))
      clear hV hL hnl
      have cs0 : wr.cell? ⟨w.heap.size, 0, none⟩ = some (.int .u16 V) := HI'.out.2.1.cell 0
      have cs1 : wr.cell? ⟨w.heap.size, 1, none⟩ = some (.int .i64 L) := HI'.out.2.1.cell 1
      by_cases hp : u < 140 ∧ L < 8
      · obtain ⟨hp1, hp2⟩ := hp
        have p1 : (u : Int) < 140 := by omega
        have p2 : (L : Int) < 8 := by omega
        obtain ⟨x, hx⟩ : ∃ x, ((u : Int) % 2 == 1) = x := ⟨_, rfl⟩
        obtain ⟨D, hD⟩ : ∃ D, V * 2 + x.toNat = D := ⟨_, rfl⟩
        obtain ⟨E, hE⟩ : ∃ E, L + 1 = E := ⟨_, rfl⟩
        have HD := Lib.hid (And.intro hD hE)
        clear hD hE
        go_wp2_with fail
        refine (play_push V L D E x HVL.out.2.2 hp2 HD.out.1 HD.out.2 _).mono ?_
        rintro e w1 ⟨rfl, hb1⟩
        have HX := Lib.hid hx
        obtain ⟨n0, b0, f0, B0⟩ := HI'.out
        have n1 := n0.kept hb1
        have b1 := b0.kept hb1
        have f1 := f0.kept hb1
        have B1 := bel_step B0 hb1 B0.size
        have ls := b1.lt
        have ng := n1.lt
        clear hb1 n0 b0 f0 B0 HI' cs0 cs1 cu hx
        have cf0 : w1.cell? ⟨w.heap.size + 1, 0, none⟩ = some (.int .u8 V) := f1.cell 0
        have cf1 : w1.cell? ⟨w.heap.size + 1, 1, none⟩ = some (.int .i64 L) := f1.cell 1
        have fs0 : w1.frozen? ⟨w.heap.size, 0, none⟩ = false := b1.free 0
        have fs1 : w1.frozen? ⟨w.heap.size, 1, none⟩ = false := b1.free 1
        have cs0 : w1.cell? ⟨w.heap.size, 0, none⟩ = some (.int .u16 V) := b1.cell 0
        have cs1 : w1.cell? ⟨w.heap.size, 1, none⟩ = some (.int .i64 L) := b1.cell 1
        have n2 := (n1.far (p := ⟨w.heap.size, 0, none⟩) (by simp; omega) (.int .u16 D)).far (p := ⟨w.heap.size, 1, none⟩) (by simp; omega) (.int .i64 E)
        have f2 := (f1.far (p := ⟨w.heap.size, 0, none⟩) (by simp) (.int .u16 D)).far (p := ⟨w.heap.size, 1, none⟩) (by simp) (.int .i64 E)
        have b2 : Box ((w1.setCell ⟨w.heap.size, 0, none⟩ (.int .u16 D)).setCell ⟨w.heap.size, 1, none⟩ (.int .i64 E)) w.heap.size #[.int .u16 D, .int .i64 E] 26 := (b1.set 0 (.int .u16 D)).set 1 (.int .i64 E)
        have B2 := (B1.setCell (p := ⟨w.heap.size, 0, none⟩) (by simp) (.int .u16 D)).setCell (p := ⟨w.heap.size, 1, none⟩) (by simp) (.int .i64 E)
        have HB2 := Lib.hid (And.intro n2 (And.intro b2 (And.intro f2 B2)))
        clear n1 b1 f1 B1 n2 b2 f2 B2
        go_wp2_with fail
        refine (play_fpush V L D E x HVL.out.2.2 hp2 HD.out.1 HD.out.2 _).mono ?_
        rintro e w3 ⟨rfl, hb3⟩
        obtain ⟨n2, b2, f2, B2⟩ := HB2.out
        have n3 := n2.kept hb3
        have b3 := b2.kept hb3
        have f3 := f2.kept hb3
        have B3 := bel_step B2 hb3 B2.size
        have lf := f3.lt
        have ng3 := n3.lt
        clear hb3 n2 b2 f2 B2 HB2 cs0 cs1 cf0 cf1 fs0 fs1
        have fs0 : w3.frozen? ⟨w.heap.size + 1, 0, none⟩ = false := f3.free 0
        have fs1 : w3.frozen? ⟨w.heap.size + 1, 1, none⟩ = false := f3.free 1
        have cf0 : w3.cell? ⟨w.heap.size + 1, 0, none⟩ = some (.int .u8 V) := f3.cell 0
        have cf1 : w3.cell? ⟨w.heap.size + 1, 1, none⟩ = some (.int .i64 L) := f3.cell 1
        have n4 := (n3.far (p := ⟨w.heap.size + 1, 0, none⟩) (by simp; omega) (.int .u8 D)).far (p := ⟨w.heap.size + 1, 1, none⟩) (by simp; omega) (.int .i64 E)
        have b4 := (b3.far (p := ⟨w.heap.size + 1, 0, none⟩) (by simp) (.int .u8 D)).far (p := ⟨w.heap.size + 1, 1, none⟩) (by simp) (.int .i64 E)
        have f4 : Box ((w3.setCell ⟨w.heap.size + 1, 0, none⟩ (.int .u8 D)).setCell ⟨w.heap.size + 1, 1, none⟩ (.int .i64 E)) (w.heap.size + 1) #[.int .u8 D, .int .i64 E] 32 := (f3.set 0 (.int .u8 D)).set 1 (.int .i64 E)
        have B4 := (B3.setCell (p := ⟨w.heap.size + 1, 0, none⟩) (by simp) (.int .u8 D)).setCell (p := ⟨w.heap.size + 1, 1, none⟩) (by simp) (.int .i64 E)
        have HL := Lib.hid HVL.out.2.1.symm
        clear n3 b3 f3 B3
        go_wp2_with (first | (at_builtin; generalize hw4 : (w3.setCell ⟨w.heap.size + 1, 0, none⟩ (.int .u8 D)).setCell ⟨w.heap.size + 1, 1, none⟩ (.int .i64 E) = w4 at n4 b4 f4 B4 ⊢; have hsz : w4.heap.size = w3.heap.size := (by rw [← hw4]; simp); clear hw4; have hnew := heap_alloc_new w4 (.cells #[.bool x] 4); rw [hsz] at hnew; have hrow := n4.row (n := L) (by simpa using HL.out); refine wpList_append_lies _ rfl _ _ 36 rfl _ 4 i0 (.bool false) 1 1 Try.underlying36 hi0 hz0 hz1 hz2 rfl (by decide) (.slice (some ⟨gg, 0, none⟩) L c') L _ rfl (hrow.alloc _) ⟨w3.heap.size, 0, none⟩ 1 1 [_] (by rfl) (by rfl) (World.news_of_block (cs := #[_]) (t := 4) (fr := (0, 0)) hnew) (by simp [Value.oneCell']) (by omega) (by unfold maxLen; omega) (by omega) (by simp; omega) (w4.heap.size + 1) (by simp) ?_; intro gg2 cap w6 hown6 hgrow hat hlt6; have n6 : Own 4 (w.heap.size + 2) w6 gg2 cap ((l ++ [x]).map Value.bool) := Own.of (n := L + 1) (by rw [List.map_append]; exact hown6) (by simp; exact HL.out); have b6 : Box w6 w.heap.size #[.int .u16 D, .int .i64 E] 26 := Own.box_grown (b4.alloc _) hgrow (show some w.heap.size ≠ some gg by simp; omega); have f6 : Box w6 (w.heap.size + 1) #[.int .u8 D, .int .i64 E] 32 := Own.box_grown (f4.alloc _) hgrow (show some (w.heap.size + 1) ≠ some gg by simp; omega); have B6 : Below w.heap.size w w6 := below_grown (B4.alloc B4.size _) hgrow (by intro q hq; simp [Value.ownBlock] at hq; omega) (Nat.le_refl _); have hE := HD.out.2; have hE' : (L : Int) + 1 = (E : Int) := (by omega); clear hsz hnew hrow hown6 hgrow hat hlt6 n4 b4 f4 B4; have cs0 : w6.cell? ⟨w.heap.size, 0, none⟩ = some (.int .u16 D) := b6.cell 0; have cs1 : w6.cell? ⟨w.heap.size, 1, none⟩ = some (.int .i64 E) := b6.cell 1; have cf0 : w6.cell? ⟨w.heap.size + 1, 0, none⟩ = some (.int .u8 D) := f6.cell 0; have cf1 : w6.cell? ⟨w.heap.size + 1, 1, none⟩ = some (.int .i64 E) := f6.cell 1))
        have HE : Hid (D < 2 ^ E ∧ E ≤ 8 ∧ D = BitP.num (l ++ [x]) ∧ E = (l ++ [x]).length) := Lib.hid (by
          obtain ⟨hV, hL, hlt⟩ := HVL.out
          obtain ⟨hD, hE2⟩ := HD.out
          have h1 := (num_step l x).1
          have h2 : (l ++ [x]).length = l.length + 1 := by simp
          have h3 : D = BitP.num (l ++ [x]) := by rw [h1, ← hD, hV]
          have h4 : E = (l ++ [x]).length := by rw [h2, ← hE2, hL]
          exact ⟨by rw [h3, h4]; exact BitP.num_lt _, by omega, h3, h4⟩)
        refine (play_top D E x HE.out.1 HE.out.2.1 (by rw [HE.out.2.2.1]; exact (num_step l x).2.1) _).mono ?_
        rintro e w7 ⟨rfl, hb7⟩
        have n7 := n6.kept hb7
        have b7 := b6.kept hb7
        have f7 := f6.kept hb7
        have B7 := bel_step B6 hb7 B6.size
        clear hb7 n6 b6 f6 B6 cs0 cs1 cf0 cf1
        have cf0 : w7.cell? ⟨w.heap.size + 1, 0, none⟩ = some (.int .u8 D) := f7.cell 0
        have cf1 : w7.cell? ⟨w.heap.size + 1, 1, none⟩ = some (.int .i64 E) := f7.cell 1
        go_wp2_with fail
        refine (play_ftop D E x HE.out.1 HE.out.2.1 (by rw [HE.out.2.2.1]; exact (num_step l x).2.1) _).mono ?_
        rintro e w8 ⟨rfl, hb8⟩
        have n8 := n7.kept hb8
        have b8 := b7.kept hb8
        have f8 := f7.kept hb8
        have B8 := bel_step B7 hb8 B7.size
        clear hb8 n7 b7 f7 B7 cf0 cf1
        have cs0 : w8.cell? ⟨w.heap.size, 0, none⟩ = some (.int .u16 D) := b8.cell 0
        have cs1 : w8.cell? ⟨w.heap.size, 1, none⟩ = some (.int .i64 E) := b8.cell 1
        have cf0 : w8.cell? ⟨w.heap.size + 1, 0, none⟩ = some (.int .u8 D) := f8.cell 0
        have cf1 : w8.cell? ⟨w.heap.size + 1, 1, none⟩ = some (.int .i64 E) := f8.cell 1
        go_wp2_with fail
        refine (play_ok D E HE.out.1 HE.out.2.1 _).mono ?_
        rintro e wA ⟨rfl, hbA⟩
        have nA := n8.kept hbA
        have bA := b8.kept hbA
        have fA := f8.kept hbA
        have BA := bel_step B8 hbA B8.size
        clear hbA n8 b8 f8 B8 cs0 cs1 cf0 cf1
        have cf0 : wA.cell? ⟨w.heap.size + 1, 0, none⟩ = some (.int .u8 D) := fA.cell 0
        have cf1 : wA.cell? ⟨w.heap.size + 1, 1, none⟩ = some (.int .i64 E) := fA.cell 1
        go_wp2_with fail
        refine (play_fok D E HE.out.1 HE.out.2.1 _).mono ?_
        rintro e wB ⟨rfl, hbB⟩
        have nB := nA.kept hbB
        have bB := bA.kept hbB
        have fB := fA.kept hbB
        have BB := bel_step BA hbB BA.size
        have HB := Lib.hid (And.intro nB (And.intro bB (And.intro fB BB)))
        clear hbB nA bA fA BA cf0 cf1 nB bB fB BB
        go_wp2
        go_roundw
        case rel => exact ⟨k + 1, gg2, cap, l ++ [x], by omega, by omega, by rw [← HE.out.2.2.2]; exact HE.out.2.1, by rw [← HE.out.2.2.2], by go_num, HB.out.1, by rw [← HE.out.2.2.1, ← HE.out.2.2.2]; exact HB.out.2.1, by rw [← HE.out.2.2.1, ← HE.out.2.2.2]; exact HB.out.2.2.1, HB.out.2.2.2⟩
        case measure => simp [intOf]; omega
      · by_cases hu140 : u < 140
        · have hL8 : L = 8 := by omega
          have p1 : (u : Int) < 140 := by omega
          have p2 : decide ((L : Int) < 8) = false := by simp; omega
          have hLp : 1 ≤ L := by omega
          clear hp hL8
          obtain ⟨l', y, rfl⟩ : ∃ l' y, l = l' ++ [y] := by
            have hne : l ≠ [] := by rintro rfl; have := HVL.out.2.1; simp at this; omega
            exact ⟨l.dropLast, l.getLast hne, (List.dropLast_concat_getLast hne).symm⟩
          obtain ⟨D, hD⟩ : ∃ D, D = BitP.num l' := ⟨_, rfl⟩
          obtain ⟨E, hE⟩ : ∃ E, E = l'.length := ⟨_, rfl⟩
          have hLE : L = E + 1 := by have := HVL.out.2.1; rw [hE, this]; simp
          have hE7 : E ≤ 7 := by omega
          have HE : Hid (D < 2 ^ E ∧ E ≤ 8 ∧ D = BitP.num l' ∧ E = l'.length) := Lib.hid ⟨by rw [hD, hE]; exact BitP.num_lt _, by omega, hD, hE⟩
          have hpv : (V % 2 == 1) = y ∧ V / 2 = D ∧ L - 1 = E := by
            have h1 := HVL.out.1
            have h2 := num_step l' y
            rw [← h1] at h2
            exact ⟨h2.2.1, by rw [h2.2.2, hD], by omega⟩
          have HP := Lib.hid hpv
          have q0 : (0 : Int) < (L : Int) := by omega
          have q1 : (L : Int) - 1 = (E : Int) := by omega
          have q2 : (E : Int) < (L : Int) := by omega
          have q3 : (0 : Int) ≤ (E : Int) := by omega
          have q4 : E < L := by omega
          have HLE := Lib.hid hLE
          clear hpv hLE hD hE
          go_wp2_with fail
          refine (play_pop V L D E y HVL.out.2.2 hl8 HP.out.1 HP.out.2.1 HP.out.2.2 _).mono ?_
          rintro e w1 ⟨rfl, hb1⟩
          obtain ⟨n0, b0, f0, B0⟩ := HI'.out
          have n1 := n0.kept hb1
          have b1 := b0.kept hb1
          have f1 := f0.kept hb1
          have B1 := bel_step B0 hb1 B0.size
          have ls := f1.lt
          have ng := n1.lt
          clear hb1 n0 b0 f0 B0 HI' cs0 cs1 cu
          have n2 := n1.alloc (.cells #[.int .u16 D, .int .i64 E] 26)
          have b2 := b1.alloc (.cells #[.int .u16 D, .int .i64 E] 26)
          have f2 := f1.alloc (.cells #[.int .u16 D, .int .i64 E] 26)
          have x2 := Box.new w1 #[.int .u16 D, .int .i64 E] 26
          have B2 := B1.alloc B1.size (.cells #[.int .u16 D, .int .i64 E] 26)
          have cf0 : w1.cell? ⟨w.heap.size + 1, 0, none⟩ = some (.int .u8 V) := f1.cell 0
          have cf1 : w1.cell? ⟨w.heap.size + 1, 1, none⟩ = some (.int .i64 L) := f1.cell 1
          have HB2 := Lib.hid (And.intro n2 (And.intro b2 (And.intro f2 (And.intro x2 B2))))
          clear n1 b1 f1 B1 n2 b2 f2 x2 B2
          go_wp2_with fail
          refine (play_fpop V L D E y HVL.out.2.2 hl8 HP.out.1 HP.out.2.1 HP.out.2.2 _).mono ?_
          rintro e w3 ⟨rfl, hb3⟩
          obtain ⟨n2, b2, f2, x2, B2⟩ := HB2.out
          have n3 := n2.kept hb3
          have b3 := b2.kept hb3
          have f3 := f2.kept hb3
          have x3 := x2.kept hb3
          have B3 := bel_step B2 hb3 B2.size
          have lx := x3.lt
          have ng3 := n3.lt
          have lc := n3.len
          clear hb3 n2 b2 f2 x2 B2 HB2 cf0 cf1
          have fs0 : w3.frozen? ⟨w.heap.size, 0, none⟩ = false := (b3.drewN 0).free 0
          have fs1 : w3.frozen? ⟨w.heap.size, 1, none⟩ = false := (b3.drewN 0).free 1
          have ff0 : w3.frozen? ⟨w.heap.size + 1, 0, none⟩ = false := (f3.drewN 0).free 0
          have ff1 : w3.frozen? ⟨w.heap.size + 1, 1, none⟩ = false := (f3.drewN 0).free 1
          have cs0 : w3.cell? ⟨w.heap.size, 0, none⟩ = some (.int .u16 V) := b3.cell 0
          have cs1 : w3.cell? ⟨w.heap.size, 1, none⟩ = some (.int .i64 L) := b3.cell 1
          have cf0 : w3.cell? ⟨w.heap.size + 1, 0, none⟩ = some (.int .u8 V) := f3.cell 0
          have cf1 : w3.cell? ⟨w.heap.size + 1, 1, none⟩ = some (.int .i64 L) := f3.cell 1
          have cx0 : w3.cell? ⟨w1.heap.size, 0, none⟩ = some (.int .u16 D) := x3.cell 0
          have cx1 : w3.cell? ⟨w1.heap.size, 1, none⟩ = some (.int .i64 E) := x3.cell 1
          have cl : w3.cell? ⟨gg, E, none⟩ = some (.bool y) := by
            have h1 := n3.bits E (by rw [List.length_append, ← HE.out.2.2.2]; simp)
            rw [h1]; simp [HE.out.2.2.2]
          have lcap : E ≤ c' := by have h1 := lc.1; rw [List.length_map, List.length_append, ← HE.out.2.2.2] at h1; simp at h1; omega
          have lcap2 : (E : Int) ≤ (c' : Int) := by omega
          have n3' := Own.init (y := .bool y) (by simpa using n3)
          clear n3
          have n3 := n3'
          clear n3'
          have n8 := (((((n3.far (p := ⟨w.heap.size, 0, none⟩) (by simp; try omega) (.int .u16 D)).far (p := ⟨w.heap.size, 1, none⟩) (by simp; try omega) (.int .i64 E)).far (p := ⟨w.heap.size + 1, 0, none⟩) (by simp; try omega) (.int .u8 D)).far (p := ⟨w.heap.size + 1, 1, none⟩) (by simp; try omega) (.int .i64 E)).alloc (.cells #[.int .u8 D, .int .i64 E] 32))
          have b8 : Box ((((((w3).setCell ⟨w.heap.size, 0, none⟩ (.int .u16 D)).setCell ⟨w.heap.size, 1, none⟩ (.int .i64 E)).setCell ⟨w.heap.size + 1, 0, none⟩ (.int .u8 D)).setCell ⟨w.heap.size + 1, 1, none⟩ (.int .i64 E)).alloc (.cells #[.int .u8 D, .int .i64 E] 32)) w.heap.size #[.int .u16 D, .int .i64 E] 26 := ((((b3.set 0 (.int .u16 D)).set 1 (.int .i64 E)).far (by simp) _).far (by simp) _).alloc _
          have f8 : Box ((((((w3).setCell ⟨w.heap.size, 0, none⟩ (.int .u16 D)).setCell ⟨w.heap.size, 1, none⟩ (.int .i64 E)).setCell ⟨w.heap.size + 1, 0, none⟩ (.int .u8 D)).setCell ⟨w.heap.size + 1, 1, none⟩ (.int .i64 E)).alloc (.cells #[.int .u8 D, .int .i64 E] 32)) (w.heap.size + 1) #[.int .u8 D, .int .i64 E] 32 := ((((f3.far (by simp) _).far (by simp) _).set 0 (.int .u8 D)).set 1 (.int .i64 E)).alloc _
          have B8 := ((((B3.setCell (p := ⟨w.heap.size, 0, none⟩) (by simp) (.int .u16 D)).setCell (p := ⟨w.heap.size, 1, none⟩) (by simp) (.int .i64 E)).setCell (p := ⟨w.heap.size + 1, 0, none⟩) (by simp) (.int .u8 D)).setCell (p := ⟨w.heap.size + 1, 1, none⟩) (by simp) (.int .i64 E)).alloc (by simpa using B3.size) (.cells #[.int .u8 D, .int .i64 E] 32)
          have HB8 := Lib.hid (And.intro n8 (And.intro b8 (And.intro f8 B8)))
          have lw3 : w.heap.size + 1 < w3.heap.size := f3.lt
          have lw0 : w.heap.size < w3.heap.size := b3.lt
          have lw01 : w.heap.size < w1.heap.size := by omega
          have lw1 : w.heap.size + 1 < w1.heap.size := ls
          clear n3 b3 f3 x3 B3 n8 b8 f8 B8
          go_wp2_with fail
          generalize hw8 : (((((w3).setCell ⟨w.heap.size, 0, none⟩ (.int .u16 D)).setCell ⟨w.heap.size, 1, none⟩ (.int .i64 E)).setCell ⟨w.heap.size + 1, 0, none⟩ (.int .u8 D)).setCell ⟨w.heap.size + 1, 1, none⟩ (.int .i64 E)).alloc (.cells #[.int .u8 D, .int .i64 E] 32) = w8 at HB8 ⊢
          clear hw8
          obtain ⟨n8, b8, f8, B8⟩ := HB8.out
          clear HB8 fs0 fs1 ff0 ff1 cs0 cs1 cf0 cf1 cx0 cx1 cl
          refine (play_ok D E HE.out.1 HE.out.2.1 _).mono ?_
          rintro e wA ⟨rfl, hbA⟩
          have nA := n8.kept hbA
          have bA := b8.kept hbA
          have fA := f8.kept hbA
          have BA := bel_step B8 hbA B8.size
          clear hbA n8 b8 f8 B8
          have cf0 : wA.cell? ⟨w.heap.size + 1, 0, none⟩ = some (.int .u8 D) := fA.cell 0
          have cf1 : wA.cell? ⟨w.heap.size + 1, 1, none⟩ = some (.int .i64 E) := fA.cell 1
          go_wp2_with fail
          refine (play_fok D E HE.out.1 HE.out.2.1 _).mono ?_
          rintro e wB ⟨rfl, hbB⟩
          have nB := nA.kept hbB
          have bB := bA.kept hbB
          have fB := fA.kept hbB
          have BB := bel_step BA hbB BA.size
          have HB := Lib.hid (And.intro nB (And.intro bB (And.intro fB BB)))
          clear hbB nA bA fA BA cf0 cf1 nB bB fB BB
          go_wp2
          go_roundw
          case rel => exact ⟨k + 1, gg, c', l', by omega, by omega, by rw [← HE.out.2.2.2]; exact HE.out.2.1, by rw [← HE.out.2.2.2], by go_num, HB.out.1, by rw [← HE.out.2.2.1, ← HE.out.2.2.2]; exact HB.out.2.1, by rw [← HE.out.2.2.1, ← HE.out.2.2.2]; exact HB.out.2.2.1, HB.out.2.2.2⟩
          case measure => simp [intOf]; omega
        · have p1 : decide ((u : Int) < 140) = false := by simp; omega
          clear hp
          by_cases hz : L = 0
          · have hz0 : ¬ 1 ≤ L := by omega
            have HZ := Lib.hid hz
            clear hz
            obtain rfl : l = [] := List.eq_nil_of_length_eq_zero (by have := HVL.out.2.1; have := HZ.out; omega)
            obtain ⟨y, hy⟩ : ∃ y, y = false := ⟨_, rfl⟩
            have HE : Hid (V < 2 ^ L ∧ L ≤ 8 ∧ V = BitP.num [] ∧ L = ([] : List Bool).length) := Lib.hid ⟨HVL.out.2.2, hl8, HVL.out.1, HVL.out.2.1⟩
            have hpv : (V % 2 == 1) = y ∧ V / 2 = V ∧ L - 1 = L := by
              have h1 : V = 0 := HVL.out.1
              have h2 : L = 0 := HVL.out.2.1
              subst h1 h2 hy; exact ⟨rfl, rfl, rfl⟩
            have HP := Lib.hid hpv
            clear hpv
            subst hy
            have q0 : decide ((0 : Int) < (L : Int)) = false := by have := HZ.out; simp; omega
            go_wp2_with fail
            refine (play_pop V L V L false HVL.out.2.2 hl8 HP.out.1 HP.out.2.1 HP.out.2.2 _).mono ?_
            rintro e w1 ⟨rfl, hb1⟩
            obtain ⟨n0, b0, f0, B0⟩ := HI'.out
            have n1 := n0.kept hb1
            have b1 := b0.kept hb1
            have f1 := f0.kept hb1
            have B1 := bel_step B0 hb1 B0.size
            have ls := f1.lt
            have ng := n1.lt
            clear hb1 n0 b0 f0 B0 HI' cs0 cs1 cu
            have n2 := n1.alloc (.cells #[.int .u16 V, .int .i64 L] 26)
            have b2 := b1.alloc (.cells #[.int .u16 V, .int .i64 L] 26)
            have f2 := f1.alloc (.cells #[.int .u16 V, .int .i64 L] 26)
            have x2 := Box.new w1 #[.int .u16 V, .int .i64 L] 26
            have B2 := B1.alloc B1.size (.cells #[.int .u16 V, .int .i64 L] 26)
            have cf0 : w1.cell? ⟨w.heap.size + 1, 0, none⟩ = some (.int .u8 V) := f1.cell 0
            have cf1 : w1.cell? ⟨w.heap.size + 1, 1, none⟩ = some (.int .i64 L) := f1.cell 1
            have HB2 := Lib.hid (And.intro n2 (And.intro b2 (And.intro f2 (And.intro x2 B2))))
            clear n1 b1 f1 B1 n2 b2 f2 x2 B2
            go_wp2_with fail
            refine (play_fpop V L V L false HVL.out.2.2 hl8 HP.out.1 HP.out.2.1 HP.out.2.2 _).mono ?_
            rintro e w3 ⟨rfl, hb3⟩
            obtain ⟨n2, b2, f2, x2, B2⟩ := HB2.out
            have n3 := n2.kept hb3
            have b3 := b2.kept hb3
            have f3 := f2.kept hb3
            have x3 := x2.kept hb3
            have B3 := bel_step B2 hb3 B2.size
            have lx := x3.lt
            have ng3 := n3.lt
            have lc := n3.len
            clear hb3 n2 b2 f2 x2 B2 HB2 cf0 cf1
            have fs0 : w3.frozen? ⟨w.heap.size, 0, none⟩ = false := (b3.drewN 0).free 0
            have fs1 : w3.frozen? ⟨w.heap.size, 1, none⟩ = false := (b3.drewN 0).free 1
            have ff0 : w3.frozen? ⟨w.heap.size + 1, 0, none⟩ = false := (f3.drewN 0).free 0
            have ff1 : w3.frozen? ⟨w.heap.size + 1, 1, none⟩ = false := (f3.drewN 0).free 1
            have cs0 : w3.cell? ⟨w.heap.size, 0, none⟩ = some (.int .u16 V) := b3.cell 0
            have cs1 : w3.cell? ⟨w.heap.size, 1, none⟩ = some (.int .i64 L) := b3.cell 1
            have cf0 : w3.cell? ⟨w.heap.size + 1, 0, none⟩ = some (.int .u8 V) := f3.cell 0
            have cf1 : w3.cell? ⟨w.heap.size + 1, 1, none⟩ = some (.int .i64 L) := f3.cell 1
            have cx0 : w3.cell? ⟨w1.heap.size, 0, none⟩ = some (.int .u16 V) := x3.cell 0
            have cx1 : w3.cell? ⟨w1.heap.size, 1, none⟩ = some (.int .i64 L) := x3.cell 1
            have n8 := (((((n3.far (p := ⟨w.heap.size, 0, none⟩) (by simp; try omega) (.int .u16 V)).far (p := ⟨w.heap.size, 1, none⟩) (by simp; try omega) (.int .i64 L)).far (p := ⟨w.heap.size + 1, 0, none⟩) (by simp; try omega) (.int .u8 V)).far (p := ⟨w.heap.size + 1, 1, none⟩) (by simp; try omega) (.int .i64 L)).alloc (.cells #[.int .u8 V, .int .i64 L] 32))
            have b8 : Box ((((((w3).setCell ⟨w.heap.size, 0, none⟩ (.int .u16 V)).setCell ⟨w.heap.size, 1, none⟩ (.int .i64 L)).setCell ⟨w.heap.size + 1, 0, none⟩ (.int .u8 V)).setCell ⟨w.heap.size + 1, 1, none⟩ (.int .i64 L)).alloc (.cells #[.int .u8 V, .int .i64 L] 32)) w.heap.size #[.int .u16 V, .int .i64 L] 26 := ((((b3.set 0 (.int .u16 V)).set 1 (.int .i64 L)).far (by simp) _).far (by simp) _).alloc _
            have f8 : Box ((((((w3).setCell ⟨w.heap.size, 0, none⟩ (.int .u16 V)).setCell ⟨w.heap.size, 1, none⟩ (.int .i64 L)).setCell ⟨w.heap.size + 1, 0, none⟩ (.int .u8 V)).setCell ⟨w.heap.size + 1, 1, none⟩ (.int .i64 L)).alloc (.cells #[.int .u8 V, .int .i64 L] 32)) (w.heap.size + 1) #[.int .u8 V, .int .i64 L] 32 := ((((f3.far (by simp) _).far (by simp) _).set 0 (.int .u8 V)).set 1 (.int .i64 L)).alloc _
            have B8 := ((((B3.setCell (p := ⟨w.heap.size, 0, none⟩) (by simp) (.int .u16 V)).setCell (p := ⟨w.heap.size, 1, none⟩) (by simp) (.int .i64 L)).setCell (p := ⟨w.heap.size + 1, 0, none⟩) (by simp) (.int .u8 V)).setCell (p := ⟨w.heap.size + 1, 1, none⟩) (by simp) (.int .i64 L)).alloc (by simpa using B3.size) (.cells #[.int .u8 V, .int .i64 L] 32)
            have HB8 := Lib.hid (And.intro n8 (And.intro b8 (And.intro f8 B8)))
            have lw3 : w.heap.size + 1 < w3.heap.size := f3.lt
            have lw0 : w.heap.size < w3.heap.size := b3.lt
            have lw01 : w.heap.size < w1.heap.size := by omega
            have lw1 : w.heap.size + 1 < w1.heap.size := ls
            clear n3 b3 f3 x3 B3 n8 b8 f8 B8
            go_wp2_with fail
            generalize hw8 : (((((w3).setCell ⟨w.heap.size, 0, none⟩ (.int .u16 V)).setCell ⟨w.heap.size, 1, none⟩ (.int .i64 L)).setCell ⟨w.heap.size + 1, 0, none⟩ (.int .u8 V)).setCell ⟨w.heap.size + 1, 1, none⟩ (.int .i64 L)).alloc (.cells #[.int .u8 V, .int .i64 L] 32) = w8 at HB8 ⊢
            clear hw8
            obtain ⟨n8, b8, f8, B8⟩ := HB8.out
            clear HB8 fs0 fs1 ff0 ff1 cs0 cs1 cf0 cf1 cx0 cx1
            refine (play_ok V L HE.out.1 HE.out.2.1 _).mono ?_
            rintro e wA ⟨rfl, hbA⟩
            have nA := n8.kept hbA
            have bA := b8.kept hbA
            have fA := f8.kept hbA
            have BA := bel_step B8 hbA B8.size
            clear hbA n8 b8 f8 B8
            have cf0 : wA.cell? ⟨w.heap.size + 1, 0, none⟩ = some (.int .u8 V) := fA.cell 0
            have cf1 : wA.cell? ⟨w.heap.size + 1, 1, none⟩ = some (.int .i64 L) := fA.cell 1
            go_wp2_with fail
            refine (play_fok V L HE.out.1 HE.out.2.1 _).mono ?_
            rintro e wB ⟨rfl, hbB⟩
            have nB := nA.kept hbB
            have bB := bA.kept hbB
            have fB := fA.kept hbB
            have BB := bel_step BA hbB BA.size
            have HB := Lib.hid (And.intro nB (And.intro bB (And.intro fB BB)))
            clear hbB nA bA fA BA cf0 cf1 nB bB fB BB
            go_wp2
            go_roundw
            case rel => exact ⟨k + 1, gg, c', [], by omega, by omega, by rw [← HE.out.2.2.2]; exact HE.out.2.1, by rw [← HE.out.2.2.2], by go_num, HB.out.1, by rw [← HE.out.2.2.1, ← HE.out.2.2.2]; exact HB.out.2.1, by rw [← HE.out.2.2.1, ← HE.out.2.2.2]; exact HB.out.2.2.1, HB.out.2.2.2⟩
            case measure => simp [intOf]; omega
          · have hLp : 1 ≤ L := by omega
            clear hz
            obtain ⟨l', y, rfl⟩ : ∃ l' y, l = l' ++ [y] := by
              have hne : l ≠ [] := by rintro rfl; have := HVL.out.2.1; simp at this; omega
              exact ⟨l.dropLast, l.getLast hne, (List.dropLast_concat_getLast hne).symm⟩
            obtain ⟨D, hD⟩ : ∃ D, D = BitP.num l' := ⟨_, rfl⟩
            obtain ⟨E, hE⟩ : ∃ E, E = l'.length := ⟨_, rfl⟩
            have hLE : L = E + 1 := by have := HVL.out.2.1; rw [hE, this]; simp
            have hE7 : E ≤ 7 := by omega
            have HE : Hid (D < 2 ^ E ∧ E ≤ 8 ∧ D = BitP.num l' ∧ E = l'.length) := Lib.hid ⟨by rw [hD, hE]; exact BitP.num_lt _, by omega, hD, hE⟩
            have hpv : (V % 2 == 1) = y ∧ V / 2 = D ∧ L - 1 = E := by
              have h1 := HVL.out.1
              have h2 := num_step l' y
              rw [← h1] at h2
              exact ⟨h2.2.1, by rw [h2.2.2, hD], by omega⟩
            have HP := Lib.hid hpv
            have q0 : (0 : Int) < (L : Int) := by omega
            have q1 : (L : Int) - 1 = (E : Int) := by omega
            have q2 : (E : Int) < (L : Int) := by omega
            have q3 : (0 : Int) ≤ (E : Int) := by omega
            have q4 : E < L := by omega
            have HLE := Lib.hid hLE
            clear hpv hLE hD hE
            go_wp2_with fail
            refine (play_pop V L D E y HVL.out.2.2 hl8 HP.out.1 HP.out.2.1 HP.out.2.2 _).mono ?_
            rintro e w1 ⟨rfl, hb1⟩
            obtain ⟨n0, b0, f0, B0⟩ := HI'.out
            have n1 := n0.kept hb1
            have b1 := b0.kept hb1
            have f1 := f0.kept hb1
            have B1 := bel_step B0 hb1 B0.size
            have ls := f1.lt
            have ng := n1.lt
            clear hb1 n0 b0 f0 B0 HI' cs0 cs1 cu
            have n2 := n1.alloc (.cells #[.int .u16 D, .int .i64 E] 26)
            have b2 := b1.alloc (.cells #[.int .u16 D, .int .i64 E] 26)
            have f2 := f1.alloc (.cells #[.int .u16 D, .int .i64 E] 26)
            have x2 := Box.new w1 #[.int .u16 D, .int .i64 E] 26
            have B2 := B1.alloc B1.size (.cells #[.int .u16 D, .int .i64 E] 26)
            have cf0 : w1.cell? ⟨w.heap.size + 1, 0, none⟩ = some (.int .u8 V) := f1.cell 0
            have cf1 : w1.cell? ⟨w.heap.size + 1, 1, none⟩ = some (.int .i64 L) := f1.cell 1
            have HB2 := Lib.hid (And.intro n2 (And.intro b2 (And.intro f2 (And.intro x2 B2))))
            clear n1 b1 f1 B1 n2 b2 f2 x2 B2
            go_wp2_with fail
            refine (play_fpop V L D E y HVL.out.2.2 hl8 HP.out.1 HP.out.2.1 HP.out.2.2 _).mono ?_
            rintro e w3 ⟨rfl, hb3⟩
            obtain ⟨n2, b2, f2, x2, B2⟩ := HB2.out
            have n3 := n2.kept hb3
            have b3 := b2.kept hb3
            have f3 := f2.kept hb3
            have x3 := x2.kept hb3
            have B3 := bel_step B2 hb3 B2.size
            have lx := x3.lt
            have ng3 := n3.lt
            have lc := n3.len
            clear hb3 n2 b2 f2 x2 B2 HB2 cf0 cf1
            have fs0 : w3.frozen? ⟨w.heap.size, 0, none⟩ = false := (b3.drewN 0).free 0
            have fs1 : w3.frozen? ⟨w.heap.size, 1, none⟩ = false := (b3.drewN 0).free 1
            have ff0 : w3.frozen? ⟨w.heap.size + 1, 0, none⟩ = false := (f3.drewN 0).free 0
            have ff1 : w3.frozen? ⟨w.heap.size + 1, 1, none⟩ = false := (f3.drewN 0).free 1
            have cs0 : w3.cell? ⟨w.heap.size, 0, none⟩ = some (.int .u16 V) := b3.cell 0
            have cs1 : w3.cell? ⟨w.heap.size, 1, none⟩ = some (.int .i64 L) := b3.cell 1
            have cf0 : w3.cell? ⟨w.heap.size + 1, 0, none⟩ = some (.int .u8 V) := f3.cell 0
            have cf1 : w3.cell? ⟨w.heap.size + 1, 1, none⟩ = some (.int .i64 L) := f3.cell 1
            have cx0 : w3.cell? ⟨w1.heap.size, 0, none⟩ = some (.int .u16 D) := x3.cell 0
            have cx1 : w3.cell? ⟨w1.heap.size, 1, none⟩ = some (.int .i64 E) := x3.cell 1
            have cl : w3.cell? ⟨gg, E, none⟩ = some (.bool y) := by
              have h1 := n3.bits E (by rw [List.length_append, ← HE.out.2.2.2]; simp)
              rw [h1]; simp [HE.out.2.2.2]
            have lcap : E ≤ c' := by have h1 := lc.1; rw [List.length_map, List.length_append, ← HE.out.2.2.2] at h1; simp at h1; omega
            have lcap2 : (E : Int) ≤ (c' : Int) := by omega
            have n3' := Own.init (y := .bool y) (by simpa using n3)
            clear n3
            have n3 := n3'
            clear n3'
            have n8 := (((((n3.far (p := ⟨w.heap.size, 0, none⟩) (by simp; try omega) (.int .u16 D)).far (p := ⟨w.heap.size, 1, none⟩) (by simp; try omega) (.int .i64 E)).far (p := ⟨w.heap.size + 1, 0, none⟩) (by simp; try omega) (.int .u8 D)).far (p := ⟨w.heap.size + 1, 1, none⟩) (by simp; try omega) (.int .i64 E)).alloc (.cells #[.int .u8 D, .int .i64 E] 32))
            have b8 : Box ((((((w3).setCell ⟨w.heap.size, 0, none⟩ (.int .u16 D)).setCell ⟨w.heap.size, 1, none⟩ (.int .i64 E)).setCell ⟨w.heap.size + 1, 0, none⟩ (.int .u8 D)).setCell ⟨w.heap.size + 1, 1, none⟩ (.int .i64 E)).alloc (.cells #[.int .u8 D, .int .i64 E] 32)) w.heap.size #[.int .u16 D, .int .i64 E] 26 := ((((b3.set 0 (.int .u16 D)).set 1 (.int .i64 E)).far (by simp) _).far (by simp) _).alloc _
            have f8 : Box ((((((w3).setCell ⟨w.heap.size, 0, none⟩ (.int .u16 D)).setCell ⟨w.heap.size, 1, none⟩ (.int .i64 E)).setCell ⟨w.heap.size + 1, 0, none⟩ (.int .u8 D)).setCell ⟨w.heap.size + 1, 1, none⟩ (.int .i64 E)).alloc (.cells #[.int .u8 D, .int .i64 E] 32)) (w.heap.size + 1) #[.int .u8 D, .int .i64 E] 32 := ((((f3.far (by simp) _).far (by simp) _).set 0 (.int .u8 D)).set 1 (.int .i64 E)).alloc _
            have B8 := ((((B3.setCell (p := ⟨w.heap.size, 0, none⟩) (by simp) (.int .u16 D)).setCell (p := ⟨w.heap.size, 1, none⟩) (by simp) (.int .i64 E)).setCell (p := ⟨w.heap.size + 1, 0, none⟩) (by simp) (.int .u8 D)).setCell (p := ⟨w.heap.size + 1, 1, none⟩) (by simp) (.int .i64 E)).alloc (by simpa using B3.size) (.cells #[.int .u8 D, .int .i64 E] 32)
            have HB8 := Lib.hid (And.intro n8 (And.intro b8 (And.intro f8 B8)))
            have lw3 : w.heap.size + 1 < w3.heap.size := f3.lt
            have lw0 : w.heap.size < w3.heap.size := b3.lt
            have lw01 : w.heap.size < w1.heap.size := by omega
            have lw1 : w.heap.size + 1 < w1.heap.size := ls
            clear n3 b3 f3 x3 B3 n8 b8 f8 B8
            go_wp2_with fail
            generalize hw8 : (((((w3).setCell ⟨w.heap.size, 0, none⟩ (.int .u16 D)).setCell ⟨w.heap.size, 1, none⟩ (.int .i64 E)).setCell ⟨w.heap.size + 1, 0, none⟩ (.int .u8 D)).setCell ⟨w.heap.size + 1, 1, none⟩ (.int .i64 E)).alloc (.cells #[.int .u8 D, .int .i64 E] 32) = w8 at HB8 ⊢
            clear hw8
            obtain ⟨n8, b8, f8, B8⟩ := HB8.out
            clear HB8 fs0 fs1 ff0 ff1 cs0 cs1 cf0 cf1 cx0 cx1 cl
            refine (play_ok D E HE.out.1 HE.out.2.1 _).mono ?_
            rintro e wA ⟨rfl, hbA⟩
            have nA := n8.kept hbA
            have bA := b8.kept hbA
            have fA := f8.kept hbA
            have BA := bel_step B8 hbA B8.size
            clear hbA n8 b8 f8 B8
            have cf0 : wA.cell? ⟨w.heap.size + 1, 0, none⟩ = some (.int .u8 D) := fA.cell 0
            have cf1 : wA.cell? ⟨w.heap.size + 1, 1, none⟩ = some (.int .i64 E) := fA.cell 1
            go_wp2_with fail
            refine (play_fok D E HE.out.1 HE.out.2.1 _).mono ?_
            rintro e wB ⟨rfl, hbB⟩
            have nB := nA.kept hbB
            have bB := bA.kept hbB
            have fB := fA.kept hbB
            have BB := bel_step BA hbB BA.size
            have HB := Lib.hid (And.intro nB (And.intro bB (And.intro fB BB)))
            clear hbB nA bA fA BA cf0 cf1 nB bB fB BB
            go_wp2
            go_roundw
            case rel => exact ⟨k + 1, gg, c', l', by omega, by omega, by rw [← HE.out.2.2.2]; exact HE.out.2.1, by rw [← HE.out.2.2.2], by go_num, HB.out.1, by rw [← HE.out.2.2.1, ← HE.out.2.2.2]; exact HB.out.2.1, by rw [← HE.out.2.2.1, ← HE.out.2.2.2]; exact HB.out.2.2.1, HB.out.2.2.2⟩
            case measure => simp [intOf]; omega
    · obtain ⟨n0, b0, f0, B0⟩ := HI.out
      obtain ⟨V, hV⟩ : ∃ V, V = BitP.num l := ⟨_, rfl⟩
      obtain ⟨L, hL⟩ : ∃ L, L = l.length := ⟨_, rfl⟩
      have cs0 : wr.cell? ⟨w.heap.size, 0, none⟩ = some (.int .u16 V) := by rw [hV]; exact b0.cell 0
      have cs1 : wr.cell? ⟨w.heap.size, 1, none⟩ = some (.int .i64 L) := by rw [hL]; exact b0.cell 1
      rw [← hL] at hl8 ⊢
      have HVL := Lib.hid (And.intro hV hL)
      have HVL : Hid (V = BitP.num l ∧ L = l.length) := HVL
      clear hV hL HI H
      by_cases hkn : k < n
      · have hk3000 : k = 3000 := by omega
        clear hlt
        have d1 : (k : Int) < (n : Int) := by omega
        have d2 : decide ((k : Int) < 3000) = false := by simp; omega
        clear hk3000
        go_wp2_with fail
        refine (play_list l V L HVL.out.2.symm HVL.out.1.symm hl8 _).mono ?_
        rintro e w1 ⟨g1, c1, rfl, o1, hb1⟩
        have n1 := n0.kept hb1
        have B1 := bel_step B0 hb1 B0.size
        clear hb1 cs0 cs1 n0 b0 f0 B0
        go_wp2_with fail
        refine (wbSame_same l L g1 c1 gg c' _ _ HVL.out.2 (by have := HVL.out.2; omega) w1 o1 n1).mono ?_
        rintro e w2 ⟨rfl, hb2⟩
        have B2 := bel_step B1 hb2 B1.size
        clear hb2 B1 o1 n1
        go_wp2
        go_ret
        exact ⟨rfl, B2⟩
      · clear hlt
        have d1 : decide ((k : Int) < (n : Int)) = false := by simp; omega
        go_wp2_with fail
        refine (play_list l V L HVL.out.2.symm HVL.out.1.symm hl8 _).mono ?_
        rintro e w1 ⟨g1, c1, rfl, o1, hb1⟩
        have n1 := n0.kept hb1
        have B1 := bel_step B0 hb1 B0.size
        clear hb1 cs0 cs1 n0 b0 f0 B0
        go_wp2_with fail
        refine (wbSame_same l L g1 c1 gg c' _ _ HVL.out.2 (by have := HVL.out.2; omega) w1 o1 n1).mono ?_
        rintro e w2 ⟨rfl, hb2⟩
        have B2 := bel_step B1 hb2 B1.size
        clear hb2 B1 o1 n1
        go_wp2
        go_ret
        exact ⟨rfl, B2⟩
theorem FnBitPlay_great (AA : Option Addr) (n c : Nat) (hn : 1048576 < n) (w : World) : Calls Try.prog 7 #[.slice AA n c] w fun e w' => e = .returned (.bool true) ∧ Below w.heap.size w w' := by
  have hd : decide ((1048576 : Int) < (n : Int)) = true := by simp; omega
  go_enter Try.func7, Try.ntmps7
  go_wp2
  go_ret
  exact ⟨rfl, Below.refl _ _⟩
theorem FnBitPlay_walk (a0 : Option Addr) (len0 cap0 : Nat) (z0 : List Int) (w : World) (w0 : IsRow .u8 w a0 len0 cap0 z0) : Calls Try.prog 7 #[.slice a0 len0 cap0] w fun e w' => e = .returned (.bool true) ∧ Below w.heap.size w w' := by
  by_cases hn : len0 ≤ 1048576
  · exact FnBitPlay_some a0 len0 cap0 w (isCode_of w0) hn
  · exact FnBitPlay_great a0 len0 cap0 (by omega) w
end Go.Proofs.Ytmgmjhbbjllleaa
