/- A stack's text. -/
import Derived.Test.YtblpidkkfhgjjaaDoorRows
import Derived.Test.YtblpidkkfhgjjaaDoorWBits8
import Derived.Test.YtblpidkkfhgjjaaDoorBitT
import Derived.WalkKit
import Derived.WalkSpells
import Derived.WalkLawsBesides
import Derived.OpenShut
import Derived.Deep.QuietTactic
import Derived.BigQuiet
import Derived.OwnWalk
import Derived.IntWalk
import Derived.Lib.Hide
namespace Go.Proofs.YtblpidkkfhgjjaaDoor
open Go.RowKit Bx
set_option linter.unusedVariables false

set_option maxRecDepth 100000 in
set_option maxHeartbeats 400000 in
theorem BitText_i_any (b n : Int) (h0 : 0 ≤ b) (h1 : b < 65536) (w : World) : Calls Tryd.prog 9 #[.agg #[.int .u16 b, .int .i64 n]] w fun e w' => e = .returned (.string (if BitP.ok 16 b n then BitP.txt (BitP.bits (BitP.good 16 b n).1 (BitP.good 16 b n).2) else ⟨#[]⟩)) ∧ Below w.heap.size w w' := by
  have hok := fun w => BitOk_i_any b n h0 h1 w
  obtain ⟨hB, hN⟩ := good_bounds (n := n) h0
  obtain ⟨B, hBe⟩ : ∃ B, B = (BitP.good 16 b n).1 := ⟨_, rfl⟩
  obtain ⟨N, hNe⟩ : ∃ N, N = (BitP.good 16 b n).2 := ⟨_, rfl⟩
  rw [← hBe, ← hNe] at hB
  rw [← hNe] at hN
  rw [← hBe, ← hNe]
  cases hk : BitP.ok 16 b n with
  | false =>
    rw [hk] at hok
    go_enter Tryd.func9, Tryd.ntmps9
    go_wp2_with fail
    refine (hok _).mono ?_
    rintro e w1 ⟨rfl, hb1⟩
    go_wp2
    go_ret
    exact ⟨rfl, bel_step ((Below.refl _ _).alloc (Nat.le_refl _) _) hb1 (by simp)⟩
  | true =>
    rw [hk] at hok
    go_enter Tryd.func9, Tryd.ntmps9
    go_wp2_with fail
    refine (hok _).mono ?_
    rintro e w1 ⟨rfl, hb1⟩
    have b1 := (Box.new w #[.int .u16 b, .int .i64 n] 24).kept hb1
    have c0 : w1.cell? ⟨w.heap.size, 0, none⟩ = some (.int .u16 b) := by have := b1.cell 0; simpa using this
    have c1 : w1.cell? ⟨w.heap.size, 1, none⟩ = some (.int .i64 n) := by have := b1.cell 1; simpa using this
    have hB1 := bel_step ((Below.refl _ _).alloc (Nat.le_refl _) (.cells #[.int .u16 b, .int .i64 n] 24)) hb1 (by simp)
    clear hb1 hok
    go_wp2_with fail
    refine (BitList_i_any b n h0 h1 _).mono ?_
    rintro e w2 ⟨B', N', hg', hB', hN', g, c, rfl, hown, hb2⟩
    obtain ⟨rfl, rfl⟩ : B' = B ∧ N' = N := by rw [hBe, hNe, ← hg']; exact ⟨rfl, rfl⟩
    have hB2 := bel_step hB1 hb2 hB1.size
    obtain ⟨l, hl⟩ : ∃ l, l = BitP.bits B' N' := ⟨_, rfl⟩
    have hln : l.length = N' := by rw [hl, BitP.bits_length]
    rw [← hl] at hown
    have HLL := Lib.hid hl
    have hcell : ∀ i y, i < N' → l[i]? = some y → w2.cell? ⟨g, i, none⟩ = some (.bool y) := fun i y hi hy => by
      have := hown.bits i (by omega)
      rw [this]; rw [List.getElem?_eq_getElem (by omega)] at hy; rw [Option.some.inj hy]
    have HL := Lib.hid hln
    have HO := Lib.hid hown
    clear hb2 hB1 b1 c0 c1 hl hln hown hBe hNe hB hg' hB' hN'
    go_wp2_with fail
    go_loop [3, 12] (fun s i => ∃ k : Nat, k ≤ N' ∧ s = .string (BitP.txt (l.take k)) ∧ i = .int .i64 k) (fun _ i => N' - (intOf i).toNat)
    case atStart => exact ⟨0, by omega, rfl, rfl⟩
    case round =>
      obtain ⟨k, hk2, rfl, rfl⟩ := hrel
      by_cases hlt : k < N'
      · have hkl : k < l.length := by rw [HL.out]; exact hlt
        obtain ⟨y, hy⟩ : ∃ y, y = l[k] := ⟨_, rfl⟩
        have hy2 : l[k]? = some y := by rw [hy]; exact List.getElem?_eq_getElem hkl
        have hcy := hcell k y hlt hy2
        have ht := BitP.txt_take hkl
        rw [← hy] at ht
        have hsz := BitP.txt_size (l.take k)
        have hsz2 : (l.take k).length ≤ 16 := by rw [List.length_take]; omega
        obtain ⟨s, hs⟩ : ∃ s, s = BitP.txt (l.take k) := ⟨_, rfl⟩
        rw [← hs] at ht hsz ⊢
        have hs17 : s.size ≤ 17 := by omega
        have HT := Lib.hid ht
        clear ht hy hy2 hs hsz hsz2 hcell
        cases y
        · go_wp2
          go_round
          case rel => exact ⟨k + 1, by omega, by rw [HT.out]; rfl, by go_num⟩
          case measure => simp [intOf]; omega
        · go_wp2
          go_round
          case rel => exact ⟨k + 1, by omega, by rw [HT.out]; rfl, by go_num⟩
          case measure => simp [intOf]; omega
      · have hkn : k = N' := by omega
        have ht : l.take N' = l := List.take_of_length_le (by rw [HL.out]; exact Nat.le_refl _)
        have HT := Lib.hid ht
        clear ht hcell
        go_wp2
        go_ret
        exact ⟨by rw [HT.out, HLL.out]; rfl, hB2⟩
set_option maxRecDepth 100000 in
set_option maxHeartbeats 400000 in
theorem BitText_s_any (b n : Int) (h0 : 0 ≤ b) (h1 : b < 65536) (w : World) : Calls Tryd.prog 10 #[.agg #[.int .u16 b, .int .i64 n]] w fun e w' => e = .returned (.string (if BitP.ok 16 b n then BitP.txt (BitP.bits (BitP.good 16 b n).1 (BitP.good 16 b n).2) else ⟨#[]⟩)) ∧ Below w.heap.size w w' := by
  have hok := fun w => sBitOk_any b n h0 h1 w
  obtain ⟨hB, hN⟩ := good_bounds (n := n) h0
  obtain ⟨B, hBe⟩ : ∃ B, B = (BitP.good 16 b n).1 := ⟨_, rfl⟩
  obtain ⟨N, hNe⟩ : ∃ N, N = (BitP.good 16 b n).2 := ⟨_, rfl⟩
  rw [← hBe, ← hNe] at hB
  rw [← hNe] at hN
  rw [← hBe, ← hNe]
  cases hk : BitP.ok 16 b n with
  | false =>
    rw [hk] at hok
    go_enter Tryd.func10, Tryd.ntmps10
    go_wp2_with fail
    refine (hok _).mono ?_
    rintro e w1 ⟨rfl, hb1⟩
    go_wp2
    go_ret
    exact ⟨rfl, bel_step ((Below.refl _ _).alloc (Nat.le_refl _) _) hb1 (by simp)⟩
  | true =>
    rw [hk] at hok
    go_enter Tryd.func10, Tryd.ntmps10
    go_wp2_with fail
    refine (hok _).mono ?_
    rintro e w1 ⟨rfl, hb1⟩
    have b1 := (Box.new w #[.int .u16 b, .int .i64 n] 24).kept hb1
    have c0 : w1.cell? ⟨w.heap.size, 0, none⟩ = some (.int .u16 b) := by have := b1.cell 0; simpa using this
    have c1 : w1.cell? ⟨w.heap.size, 1, none⟩ = some (.int .i64 n) := by have := b1.cell 1; simpa using this
    have hB1 := bel_step ((Below.refl _ _).alloc (Nat.le_refl _) (.cells #[.int .u16 b, .int .i64 n] 24)) hb1 (by simp)
    clear hb1 hok
    go_wp2_with fail
    refine (sBitList_any b n h0 h1 _).mono ?_
    rintro e w2 ⟨g, c, rfl, hown, hb2⟩
    rw [← hBe, ← hNe] at hown
    rw [← hBe, ← hNe, BitP.bits_length]
    obtain ⟨B', rfl⟩ : ∃ B', B' = B := ⟨_, rfl⟩
    obtain ⟨N', rfl⟩ : ∃ N', N' = N := ⟨_, rfl⟩
    have hB2 := bel_step hB1 hb2 hB1.size
    obtain ⟨l, hl⟩ : ∃ l, l = BitP.bits B' N' := ⟨_, rfl⟩
    have hln : l.length = N' := by rw [hl, BitP.bits_length]
    rw [← hl] at hown
    have HLL := Lib.hid hl
    have hcell : ∀ i y, i < N' → l[i]? = some y → w2.cell? ⟨g, i, none⟩ = some (.bool y) := fun i y hi hy => by
      have := hown.bits i (by omega)
      rw [this]; rw [List.getElem?_eq_getElem (by omega)] at hy; rw [Option.some.inj hy]
    have HL := Lib.hid hln
    have HO := Lib.hid hown
    clear hb2 hB1 b1 c0 c1 hl hln hown hBe hNe hB 
    go_wp2_with fail
    go_loop [3, 5] (fun s i => ∃ k : Nat, k ≤ N' ∧ s = .string (BitP.txt (l.take k)) ∧ i = .int .i64 k) (fun _ i => N' - (intOf i).toNat)
    case atStart => exact ⟨0, by omega, rfl, rfl⟩
    case round =>
      obtain ⟨k, hk2, rfl, rfl⟩ := hrel
      by_cases hlt : k < N'
      · have hkl : k < l.length := by rw [HL.out]; exact hlt
        obtain ⟨y, hy⟩ : ∃ y, y = l[k] := ⟨_, rfl⟩
        have hy2 : l[k]? = some y := by rw [hy]; exact List.getElem?_eq_getElem hkl
        have hcy := hcell k y hlt hy2
        have ht := BitP.txt_take hkl
        rw [← hy] at ht
        have hsz := BitP.txt_size (l.take k)
        have hsz2 : (l.take k).length ≤ 16 := by rw [List.length_take]; omega
        obtain ⟨s, hs⟩ : ∃ s, s = BitP.txt (l.take k) := ⟨_, rfl⟩
        rw [← hs] at ht hsz ⊢
        have hs17 : s.size ≤ 17 := by omega
        have HT := Lib.hid ht
        clear ht hy hy2 hs hsz hsz2 hcell
        cases y
        · go_wp2
          go_round
          case rel => exact ⟨k + 1, by omega, by rw [HT.out]; rfl, by go_num⟩
          case measure => simp [intOf]; omega
        · go_wp2
          go_round
          case rel => exact ⟨k + 1, by omega, by rw [HT.out]; rfl, by go_num⟩
          case measure => simp [intOf]; omega
      · have hkn : k = N' := by omega
        have ht : l.take N' = l := List.take_of_length_le (by rw [HL.out]; exact Nat.le_refl _)
        have HT := Lib.hid ht
        clear ht hcell
        go_wp2
        go_ret
        exact ⟨by rw [HT.out, HLL.out]; rfl, hB2⟩
end Go.Proofs.YtblpidkkfhgjjaaDoor
