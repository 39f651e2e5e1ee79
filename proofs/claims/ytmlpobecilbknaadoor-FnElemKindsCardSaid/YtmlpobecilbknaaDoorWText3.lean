/- The walks of DevText. -/
import Derived.Test.YtmlpobecilbknaaDoorRows
import Derived.Test.YtmlpobecilbknaaDoorWText2
import Derived.Test.YtmlpobecilbknaaDoorWDev2
import Derived.Test.YtmlpobecilbknaaDoorDevT
import Derived.Test.YtmlpobecilbknaaDoorLaidS
import Derived.WalkKit
import Derived.WalkSpells
import Derived.WalkLawsBesides
import Derived.OpenShut
import Derived.IntWalk
import Derived.Lib.Hide
import Derived.Deep.QuietTactic
import Derived.BigQuiet
import Derived.Deep.RegionHeld3
import Derived.Deep.RegionWith
namespace Go.Proofs.YtmlpobecilbknaaDoor
open Go.RowKit ItoP
set_option linter.unusedVariables false

def wds : List ByteArray := [⟨#[110, 97, 110]⟩, ⟨#[105, 110, 102]⟩, ⟨#[45, 105, 110, 102]⟩, ⟨#[45, 48, 46, 48]⟩]
theorem tab_kept {w w' : World} (h : Lib.TabIs Tryd.prog w "internal/strconv.uint64pow10" .u64 Lib.pow10Tab) (hb : Below w.heap.size w w') : Lib.TabIs Tryd.prog w' "internal/strconv.uint64pow10" .u64 Lib.pow10Tab := Ls.var?_kept (g := 3) (by kernel_rfl) h hb
theorem wds_kept {w w' : World} (h : Ls.StrsIs Tryd.prog w "loop.example/stilmach/impl.devWords" wds) (hb : Below w.heap.size w w') : Ls.StrsIs Tryd.prog w' "loop.example/stilmach/impl.devWords" wds := Ls.var?_kept (g := 1) (by kernel_rfl) h hb
set_option maxRecDepth 100000 in
set_option maxHeartbeats 4000000 in
theorem l2Words_same (w : World) : Calls Tryd.prog 53 #[] w fun e w' => e = .returned (.slice (some ⟨w.heap.size, 0, none⟩) 4 4) ∧ w' = w.alloc (.cells #[.string ⟨#[110, 97, 110]⟩, .string ⟨#[105, 110, 102]⟩, .string ⟨#[45, 105, 110, 102]⟩, .string ⟨#[45, 48, 46, 48]⟩] 9) := by
  go_enter Tryd.func53, Tryd.ntmps53
  go_wp2
  go_ret
  exact ⟨rfl, rfl⟩
set_option maxRecDepth 100000 in
set_option maxHeartbeats 4000000 in
theorem devLetter_s_1 (w : World) : Calls Tryd.prog 54 #[.int .i64 1] w fun e w' => e = .returned (.string ⟨#[88]⟩) ∧ Below w.heap.size w w' := by
  go_enter Tryd.func54, Tryd.ntmps54
  go_wp2_with ((go_at_call 71; refine (devSize_s_1 _).mono ?_; rintro e w' ⟨rfl, rfl⟩))
  go_ret
  exact ⟨rfl, Below.refl _ _⟩
set_option maxRecDepth 100000 in
set_option maxHeartbeats 4000000 in
theorem devLetter_i_1 (w : World) : Calls Tryd.prog 58 #[.int .i64 1] w fun e w' => e = .returned (.string ⟨#[88]⟩) ∧ Below w.heap.size w w' := by
  go_enter Tryd.func58, Tryd.ntmps58
  go_wp2_with (first | (go_at_call 48; go_in) | (go_at_call 49; refine (within_same _ _ _ _).mono ?_; rintro e w' ⟨rfl, rfl⟩))
  go_ret
  exact ⟨rfl, Below.refl _ _⟩
set_option maxRecDepth 100000 in
set_option maxHeartbeats 4000000 in
theorem devLetter_s_2 (w : World) : Calls Tryd.prog 54 #[.int .i64 2] w fun e w' => e = .returned (.string ⟨#[89]⟩) ∧ Below w.heap.size w w' := by
  go_enter Tryd.func54, Tryd.ntmps54
  go_wp2_with ((go_at_call 71; refine (devSize_s_2 _).mono ?_; rintro e w' ⟨rfl, rfl⟩))
  go_ret
  exact ⟨rfl, Below.refl _ _⟩
set_option maxRecDepth 100000 in
set_option maxHeartbeats 4000000 in
theorem devLetter_i_2 (w : World) : Calls Tryd.prog 58 #[.int .i64 2] w fun e w' => e = .returned (.string ⟨#[89]⟩) ∧ Below w.heap.size w w' := by
  go_enter Tryd.func58, Tryd.ntmps58
  go_wp2_with (first | (go_at_call 48; go_in) | (go_at_call 49; refine (within_same _ _ _ _).mono ?_; rintro e w' ⟨rfl, rfl⟩))
  go_ret
  exact ⟨rfl, Below.refl _ _⟩
set_option maxRecDepth 100000 in
set_option maxHeartbeats 4000000 in
theorem devLetter_s_3 (w : World) : Calls Tryd.prog 54 #[.int .i64 3] w fun e w' => e = .returned (.string ⟨#[77]⟩) ∧ Below w.heap.size w w' := by
  go_enter Tryd.func54, Tryd.ntmps54
  go_wp2_with ((go_at_call 71; refine (devSize_s_3 _).mono ?_; rintro e w' ⟨rfl, rfl⟩))
  go_ret
  exact ⟨rfl, Below.refl _ _⟩
set_option maxRecDepth 100000 in
set_option maxHeartbeats 4000000 in
theorem devLetter_i_3 (w : World) : Calls Tryd.prog 58 #[.int .i64 3] w fun e w' => e = .returned (.string ⟨#[77]⟩) ∧ Below w.heap.size w w' := by
  go_enter Tryd.func58, Tryd.ntmps58
  go_wp2_with (first | (go_at_call 48; go_in) | (go_at_call 49; refine (within_same _ _ _ _).mono ?_; rintro e w' ⟨rfl, rfl⟩))
  go_ret
  exact ⟨rfl, Below.refl _ _⟩
set_option maxRecDepth 100000 in
set_option maxHeartbeats 4000000 in
theorem devLetter_s_4 (w : World) : Calls Tryd.prog 54 #[.int .i64 4] w fun e w' => e = .returned (.string ⟨#[83]⟩) ∧ Below w.heap.size w w' := by
  go_enter Tryd.func54, Tryd.ntmps54
  go_wp2_with ((go_at_call 71; refine (devSize_s_4 _).mono ?_; rintro e w' ⟨rfl, rfl⟩))
  go_ret
  exact ⟨rfl, Below.refl _ _⟩
set_option maxRecDepth 100000 in
set_option maxHeartbeats 4000000 in
theorem devLetter_i_4 (w : World) : Calls Tryd.prog 58 #[.int .i64 4] w fun e w' => e = .returned (.string ⟨#[83]⟩) ∧ Below w.heap.size w w' := by
  go_enter Tryd.func58, Tryd.ntmps58
  go_wp2_with (first | (go_at_call 48; go_in) | (go_at_call 49; refine (within_same _ _ _ _).mono ?_; rintro e w' ⟨rfl, rfl⟩))
  go_ret
  exact ⟨rfl, Below.refl _ _⟩
set_option maxRecDepth 100000 in
set_option maxHeartbeats 4000000 in
theorem devLetter_s_5 (w : World) : Calls Tryd.prog 54 #[.int .i64 5] w fun e w' => e = .returned (.string ⟨#[69]⟩) ∧ Below w.heap.size w w' := by
  go_enter Tryd.func54, Tryd.ntmps54
  go_wp2_with ((go_at_call 71; refine (devSize_s_5 _).mono ?_; rintro e w' ⟨rfl, rfl⟩))
  go_ret
  exact ⟨rfl, Below.refl _ _⟩
set_option maxRecDepth 100000 in
set_option maxHeartbeats 4000000 in
theorem devLetter_i_5 (w : World) : Calls Tryd.prog 58 #[.int .i64 5] w fun e w' => e = .returned (.string ⟨#[69]⟩) ∧ Below w.heap.size w w' := by
  go_enter Tryd.func58, Tryd.ntmps58
  go_wp2_with (first | (go_at_call 48; go_in) | (go_at_call 49; refine (within_same _ _ _ _).mono ?_; rintro e w' ⟨rfl, rfl⟩))
  go_ret
  exact ⟨rfl, Below.refl _ _⟩
set_option maxRecDepth 100000 in
set_option maxHeartbeats 4000000 in
theorem devLetter_s_6 (w : World) : Calls Tryd.prog 54 #[.int .i64 6] w fun e w' => e = .returned (.string ⟨#[71]⟩) ∧ Below w.heap.size w w' := by
  go_enter Tryd.func54, Tryd.ntmps54
  go_wp2_with ((go_at_call 71; refine (devSize_s_6 _).mono ?_; rintro e w' ⟨rfl, rfl⟩))
  go_ret
  exact ⟨rfl, Below.refl _ _⟩
set_option maxRecDepth 100000 in
set_option maxHeartbeats 4000000 in
theorem devLetter_i_6 (w : World) : Calls Tryd.prog 58 #[.int .i64 6] w fun e w' => e = .returned (.string ⟨#[71]⟩) ∧ Below w.heap.size w w' := by
  go_enter Tryd.func58, Tryd.ntmps58
  go_wp2_with (first | (go_at_call 48; go_in) | (go_at_call 49; refine (within_same _ _ _ _).mono ?_; rintro e w' ⟨rfl, rfl⟩))
  go_ret
  exact ⟨rfl, Below.refl _ _⟩
set_option maxRecDepth 100000 in
set_option maxHeartbeats 4000000 in
theorem devLetter_s_7 (w : World) : Calls Tryd.prog 54 #[.int .i64 7] w fun e w' => e = .returned (.string ⟨#[84]⟩) ∧ Below w.heap.size w w' := by
  go_enter Tryd.func54, Tryd.ntmps54
  go_wp2_with ((go_at_call 71; refine (devSize_s_7 _).mono ?_; rintro e w' ⟨rfl, rfl⟩))
  go_ret
  exact ⟨rfl, Below.refl _ _⟩
set_option maxRecDepth 100000 in
set_option maxHeartbeats 4000000 in
theorem devLetter_i_7 (w : World) : Calls Tryd.prog 58 #[.int .i64 7] w fun e w' => e = .returned (.string ⟨#[84]⟩) ∧ Below w.heap.size w w' := by
  go_enter Tryd.func58, Tryd.ntmps58
  go_wp2_with (first | (go_at_call 48; go_in) | (go_at_call 49; refine (within_same _ _ _ _).mono ?_; rintro e w' ⟨rfl, rfl⟩))
  go_ret
  exact ⟨rfl, Below.refl _ _⟩
set_option maxRecDepth 100000 in
set_option maxHeartbeats 4000000 in
theorem devLetter_s_8 (w : World) : Calls Tryd.prog 54 #[.int .i64 8] w fun e w' => e = .returned (.string ⟨#[67]⟩) ∧ Below w.heap.size w w' := by
  go_enter Tryd.func54, Tryd.ntmps54
  go_wp2_with ((go_at_call 71; refine (devSize_s_8 _).mono ?_; rintro e w' ⟨rfl, rfl⟩))
  go_ret
  exact ⟨rfl, Below.refl _ _⟩
set_option maxRecDepth 100000 in
set_option maxHeartbeats 4000000 in
theorem devLetter_i_8 (w : World) : Calls Tryd.prog 58 #[.int .i64 8] w fun e w' => e = .returned (.string ⟨#[67]⟩) ∧ Below w.heap.size w w' := by
  go_enter Tryd.func58, Tryd.ntmps58
  go_wp2_with (first | (go_at_call 48; go_in) | (go_at_call 49; refine (within_same _ _ _ _).mono ?_; rintro e w' ⟨rfl, rfl⟩))
  go_ret
  exact ⟨rfl, Below.refl _ _⟩
set_option maxRecDepth 100000 in
set_option maxHeartbeats 4000000 in
theorem devLetter_s_9 (w : World) : Calls Tryd.prog 54 #[.int .i64 9] w fun e w' => e = .returned (.string ⟨#[68]⟩) ∧ Below w.heap.size w w' := by
  go_enter Tryd.func54, Tryd.ntmps54
  go_wp2_with ((go_at_call 71; refine (devSize_s_9 _).mono ?_; rintro e w' ⟨rfl, rfl⟩))
  go_ret
  exact ⟨rfl, Below.refl _ _⟩
set_option maxRecDepth 100000 in
set_option maxHeartbeats 4000000 in
theorem devLetter_i_9 (w : World) : Calls Tryd.prog 58 #[.int .i64 9] w fun e w' => e = .returned (.string ⟨#[68]⟩) ∧ Below w.heap.size w w' := by
  go_enter Tryd.func58, Tryd.ntmps58
  go_wp2_with (first | (go_at_call 48; go_in) | (go_at_call 49; refine (within_same _ _ _ _).mono ?_; rintro e w' ⟨rfl, rfl⟩))
  go_ret
  exact ⟨rfl, Below.refl _ _⟩
set_option maxRecDepth 100000 in
set_option maxHeartbeats 4000000 in
theorem devLetter_s_10 (w : World) : Calls Tryd.prog 54 #[.int .i64 10] w fun e w' => e = .returned (.string ⟨#[82]⟩) ∧ Below w.heap.size w w' := by
  go_enter Tryd.func54, Tryd.ntmps54
  go_wp2_with ((go_at_call 71; refine (devSize_s_10 _).mono ?_; rintro e w' ⟨rfl, rfl⟩))
  go_ret
  exact ⟨rfl, Below.refl _ _⟩
set_option maxRecDepth 100000 in
set_option maxHeartbeats 4000000 in
theorem devLetter_i_10 (w : World) : Calls Tryd.prog 58 #[.int .i64 10] w fun e w' => e = .returned (.string ⟨#[82]⟩) ∧ Below w.heap.size w w' := by
  go_enter Tryd.func58, Tryd.ntmps58
  go_wp2_with (first | (go_at_call 48; go_in) | (go_at_call 49; refine (within_same _ _ _ _).mono ?_; rintro e w' ⟨rfl, rfl⟩))
  go_ret
  exact ⟨rfl, Below.refl _ _⟩
set_option maxRecDepth 100000 in
set_option maxHeartbeats 4000000 in
theorem devText_s_no (k n p : Int) (hok : DevP.ok k n p = false) (w : World) (htab : Lib.TabIs Tryd.prog w "internal/strconv.uint64pow10" .u64 Lib.pow10Tab) (hwd : Ls.StrsIs Tryd.prog w "loop.example/stilmach/impl.devWords" wds) : Calls Tryd.prog 22 #[.agg #[.int .i64 k, .int .i64 n, .int .i64 p]] w fun e w' => e = .returned (.string ⟨#[]⟩) ∧ Below w.heap.size w w' := by
  have hc := fun w => devOk_s_any k n p w
  rw [hok] at hc
  go_enter Tryd.func22, Tryd.ntmps22
  go_wp2_with fail
  refine (hc _).mono ?_
  rintro e w1 ⟨rfl, hb1⟩
  have b1 := (Bx.Box.new w #[.int .i64 k, .int .i64 n, .int .i64 p] 40).kept hb1
  have hB1 : Below w.heap.size w w1 := Bx.bel_step ((Below.refl _ _).alloc (Nat.le_refl _) _) hb1 (by simp)
  have c0 : w1.cell? ⟨w.heap.size, 0, none⟩ = some (.int .i64 k) := b1.cell 0
  have c1 : w1.cell? ⟨w.heap.size, 1, none⟩ = some (.int .i64 n) := b1.cell 1
  have c2 : w1.cell? ⟨w.heap.size, 2, none⟩ = some (.int .i64 p) := b1.cell 2
  have hlt := b1.lt
  clear hb1 hc
  clear htab hwd
  go_wp2
  go_ret
  exact ⟨rfl, hB1⟩
set_option maxRecDepth 100000 in
set_option maxHeartbeats 4000000 in
theorem devText_s_11 (n p : Int) (hok : DevP.ok 11 n p = true) (h1 : -32768 ≤ n) (h2 : n ≤ 32767) (w : World) (htab : Lib.TabIs Tryd.prog w "internal/strconv.uint64pow10" .u64 Lib.pow10Tab) (hwd : Ls.StrsIs Tryd.prog w "loop.example/stilmach/impl.devWords" wds) : Calls Tryd.prog 22 #[.agg #[.int .i64 11, .int .i64 n, .int .i64 p]] w fun e w' => e = .returned (.string (itoaB n)) ∧ Below w.heap.size w w' := by
  have hc := fun w => devOk_s_any 11 n p w
  rw [hok] at hc
  have hn : ∀ w', Below w.heap.size w w' → Calls Tryd.prog 51 #[.int .i64 n] w' fun e w'' => e = .returned (.string (itoaB n)) ∧ Below w'.heap.size w' w'' := fun w' hb => l10Dec_any n (by omega) (by omega) w'
  have hsu := itoaB_size (n := n) (by omega) (by omega)
  clear htab hwd
  generalize itoaB n = su at hn hsu ⊢
  clear hok h1 h2
  go_enter Tryd.func22, Tryd.ntmps22
  go_wp2_with fail
  refine (hc _).mono ?_
  rintro e w1 ⟨rfl, hb1⟩
  have b1 := (Bx.Box.new w #[.int .i64 11, .int .i64 n, .int .i64 p] 40).kept hb1
  have hB1 : Below w.heap.size w w1 := Bx.bel_step ((Below.refl _ _).alloc (Nat.le_refl _) _) hb1 (by simp)
  have c0 : w1.cell? ⟨w.heap.size, 0, none⟩ = some (.int .i64 11) := b1.cell 0
  have c1 : w1.cell? ⟨w.heap.size, 1, none⟩ = some (.int .i64 n) := b1.cell 1
  have c2 : w1.cell? ⟨w.heap.size, 2, none⟩ = some (.int .i64 p) := b1.cell 2
  have hlt := b1.lt
  clear hb1 hc
  go_wp2_with fail
  refine (hn _ hB1).mono ?_
  rintro e w2 ⟨rfl, hb2⟩
  have hB2 := Bx.bel_step hB1 hb2 hB1.size
  clear hb2 hB1 hn b1 c0 c1 c2
  go_wp2
  go_ret
  exact ⟨rfl, hB2⟩
set_option maxRecDepth 100000 in
set_option maxHeartbeats 4000000 in
theorem devText_s_12 (n : Int) (p : Nat) (hok : DevP.ok 12 n p = true) (h1 : -999999999 ≤ n) (h2 : n ≤ 999999999) (h3 : p ≤ 6) (w : World) (htab : Lib.TabIs Tryd.prog w "internal/strconv.uint64pow10" .u64 Lib.pow10Tab) (hwd : Ls.StrsIs Tryd.prog w "loop.example/stilmach/impl.devWords" wds) : Calls Tryd.prog 22 #[.agg #[.int .i64 12, .int .i64 n, .int .i64 (p : Int)]] w fun e w' => e = .returned (.string (decD n p)) ∧ Below w.heap.size w w' := by
  have hc := fun w => devOk_s_any 12 n p w
  rw [hok] at hc
  have hn : ∀ w', Below w.heap.size w w' → Calls Tryd.prog 52 #[.int .i64 n, .int .i64 (p : Int)] w' fun e w'' => e = .returned (.string (decD n p)) ∧ Below w'.heap.size w' w'' := fun w' hb => l2Dec_any n p (by omega) (by omega) (by omega) w'
  clear htab hwd
  generalize decD n p = su at hn ⊢
  clear hok h1 h2
  go_enter Tryd.func22, Tryd.ntmps22
  go_wp2_with fail
  refine (hc _).mono ?_
  rintro e w1 ⟨rfl, hb1⟩
  have b1 := (Bx.Box.new w #[.int .i64 12, .int .i64 n, .int .i64 (p : Int)] 40).kept hb1
  have hB1 : Below w.heap.size w w1 := Bx.bel_step ((Below.refl _ _).alloc (Nat.le_refl _) _) hb1 (by simp)
  have c0 : w1.cell? ⟨w.heap.size, 0, none⟩ = some (.int .i64 12) := b1.cell 0
  have c1 : w1.cell? ⟨w.heap.size, 1, none⟩ = some (.int .i64 n) := b1.cell 1
  have c2 : w1.cell? ⟨w.heap.size, 2, none⟩ = some (.int .i64 (p : Int)) := b1.cell 2
  have hlt := b1.lt
  clear hb1 hc
  go_wp2_with fail
  refine (hn _ hB1).mono ?_
  rintro e w2 ⟨rfl, hb2⟩
  have hB2 := Bx.bel_step hB1 hb2 hB1.size
  clear hb2 hB1 hn b1 c0 c1 c2
  go_wp2
  go_ret
  exact ⟨rfl, hB2⟩
set_option maxRecDepth 100000 in
set_option maxHeartbeats 4000000 in
theorem devText_s_13_0 (p : Int) (hok : DevP.ok 13 0 p = true) (w : World) (htab : Lib.TabIs Tryd.prog w "internal/strconv.uint64pow10" .u64 Lib.pow10Tab) (hwd : Ls.StrsIs Tryd.prog w "loop.example/stilmach/impl.devWords" wds) : Calls Tryd.prog 22 #[.agg #[.int .i64 13, .int .i64 0, .int .i64 p]] w fun e w' => e = .returned (.string ⟨#[110, 97, 110]⟩) ∧ Below w.heap.size w w' := by
  have hc := fun w => devOk_s_any 13 0 p w
  rw [hok] at hc
  have hg : 1 < w.heap.size := hwd.lt (by kernel_rfl)
  clear hok
  go_enter Tryd.func22, Tryd.ntmps22
  go_wp2_with fail
  refine (hc _).mono ?_
  rintro e w1 ⟨rfl, hb1⟩
  have b1 := (Bx.Box.new w #[.int .i64 13, .int .i64 0, .int .i64 p] 40).kept hb1
  have hB1 : Below w.heap.size w w1 := Bx.bel_step ((Below.refl _ _).alloc (Nat.le_refl _) _) hb1 (by simp)
  have c0 : w1.cell? ⟨w.heap.size, 0, none⟩ = some (.int .i64 13) := b1.cell 0
  have c1 : w1.cell? ⟨w.heap.size, 1, none⟩ = some (.int .i64 0) := b1.cell 1
  have c2 : w1.cell? ⟨w.heap.size, 2, none⟩ = some (.int .i64 p) := b1.cell 2
  have hlt := b1.lt
  clear hb1 hc
  clear htab hwd
  go_wp2
  go_region_with (first | (go_at_call 53; refine (l2Words_same _).mono ?_; rintro e w' ⟨rfl, rfl⟩))
  all_goals
    go_wp2
    go_ret
    exact ⟨rfl, by repeat (first | exact hB1 | refine Below.alloc ?_ (by have := hB1.size; first | (simp; done) | (simp; omega) | omega) _ | refine Below.drew ?_)⟩
set_option maxRecDepth 100000 in
set_option maxHeartbeats 4000000 in
theorem devText_s_13_1 (p : Int) (hok : DevP.ok 13 1 p = true) (w : World) (htab : Lib.TabIs Tryd.prog w "internal/strconv.uint64pow10" .u64 Lib.pow10Tab) (hwd : Ls.StrsIs Tryd.prog w "loop.example/stilmach/impl.devWords" wds) : Calls Tryd.prog 22 #[.agg #[.int .i64 13, .int .i64 1, .int .i64 p]] w fun e w' => e = .returned (.string ⟨#[105, 110, 102]⟩) ∧ Below w.heap.size w w' := by
  have hc := fun w => devOk_s_any 13 1 p w
  rw [hok] at hc
  have hg : 1 < w.heap.size := hwd.lt (by kernel_rfl)
  clear hok
  go_enter Tryd.func22, Tryd.ntmps22
  go_wp2_with fail
  refine (hc _).mono ?_
  rintro e w1 ⟨rfl, hb1⟩
  have b1 := (Bx.Box.new w #[.int .i64 13, .int .i64 1, .int .i64 p] 40).kept hb1
  have hB1 : Below w.heap.size w w1 := Bx.bel_step ((Below.refl _ _).alloc (Nat.le_refl _) _) hb1 (by simp)
  have c0 : w1.cell? ⟨w.heap.size, 0, none⟩ = some (.int .i64 13) := b1.cell 0
  have c1 : w1.cell? ⟨w.heap.size, 1, none⟩ = some (.int .i64 1) := b1.cell 1
  have c2 : w1.cell? ⟨w.heap.size, 2, none⟩ = some (.int .i64 p) := b1.cell 2
  have hlt := b1.lt
  clear hb1 hc
  clear htab hwd
  go_wp2
  go_region_with (first | (go_at_call 53; refine (l2Words_same _).mono ?_; rintro e w' ⟨rfl, rfl⟩))
  all_goals
    go_wp2
    go_ret
    exact ⟨rfl, by repeat (first | exact hB1 | refine Below.alloc ?_ (by have := hB1.size; first | (simp; done) | (simp; omega) | omega) _ | refine Below.drew ?_)⟩
set_option maxRecDepth 100000 in
set_option maxHeartbeats 4000000 in
theorem devText_s_13_2 (p : Int) (hok : DevP.ok 13 2 p = true) (w : World) (htab : Lib.TabIs Tryd.prog w "internal/strconv.uint64pow10" .u64 Lib.pow10Tab) (hwd : Ls.StrsIs Tryd.prog w "loop.example/stilmach/impl.devWords" wds) : Calls Tryd.prog 22 #[.agg #[.int .i64 13, .int .i64 2, .int .i64 p]] w fun e w' => e = .returned (.string ⟨#[45, 105, 110, 102]⟩) ∧ Below w.heap.size w w' := by
  have hc := fun w => devOk_s_any 13 2 p w
  rw [hok] at hc
  have hg : 1 < w.heap.size := hwd.lt (by kernel_rfl)
  clear hok
  go_enter Tryd.func22, Tryd.ntmps22
  go_wp2_with fail
  refine (hc _).mono ?_
  rintro e w1 ⟨rfl, hb1⟩
  have b1 := (Bx.Box.new w #[.int .i64 13, .int .i64 2, .int .i64 p] 40).kept hb1
  have hB1 : Below w.heap.size w w1 := Bx.bel_step ((Below.refl _ _).alloc (Nat.le_refl _) _) hb1 (by simp)
  have c0 : w1.cell? ⟨w.heap.size, 0, none⟩ = some (.int .i64 13) := b1.cell 0
  have c1 : w1.cell? ⟨w.heap.size, 1, none⟩ = some (.int .i64 2) := b1.cell 1
  have c2 : w1.cell? ⟨w.heap.size, 2, none⟩ = some (.int .i64 p) := b1.cell 2
  have hlt := b1.lt
  clear hb1 hc
  clear htab hwd
  go_wp2
  go_region_with (first | (go_at_call 53; refine (l2Words_same _).mono ?_; rintro e w' ⟨rfl, rfl⟩))
  all_goals
    go_wp2
    go_ret
    exact ⟨rfl, by repeat (first | exact hB1 | refine Below.alloc ?_ (by have := hB1.size; first | (simp; done) | (simp; omega) | omega) _ | refine Below.drew ?_)⟩
set_option maxRecDepth 100000 in
set_option maxHeartbeats 4000000 in
theorem devText_s_13_3 (p : Int) (hok : DevP.ok 13 3 p = true) (w : World) (htab : Lib.TabIs Tryd.prog w "internal/strconv.uint64pow10" .u64 Lib.pow10Tab) (hwd : Ls.StrsIs Tryd.prog w "loop.example/stilmach/impl.devWords" wds) : Calls Tryd.prog 22 #[.agg #[.int .i64 13, .int .i64 3, .int .i64 p]] w fun e w' => e = .returned (.string ⟨#[45, 48, 46, 48]⟩) ∧ Below w.heap.size w w' := by
  have hc := fun w => devOk_s_any 13 3 p w
  rw [hok] at hc
  have hg : 1 < w.heap.size := hwd.lt (by kernel_rfl)
  clear hok
  go_enter Tryd.func22, Tryd.ntmps22
  go_wp2_with fail
  refine (hc _).mono ?_
  rintro e w1 ⟨rfl, hb1⟩
  have b1 := (Bx.Box.new w #[.int .i64 13, .int .i64 3, .int .i64 p] 40).kept hb1
  have hB1 : Below w.heap.size w w1 := Bx.bel_step ((Below.refl _ _).alloc (Nat.le_refl _) _) hb1 (by simp)
  have c0 : w1.cell? ⟨w.heap.size, 0, none⟩ = some (.int .i64 13) := b1.cell 0
  have c1 : w1.cell? ⟨w.heap.size, 1, none⟩ = some (.int .i64 3) := b1.cell 1
  have c2 : w1.cell? ⟨w.heap.size, 2, none⟩ = some (.int .i64 p) := b1.cell 2
  have hlt := b1.lt
  clear hb1 hc
  clear htab hwd
  go_wp2
  go_region_with (first | (go_at_call 53; refine (l2Words_same _).mono ?_; rintro e w' ⟨rfl, rfl⟩))
  all_goals
    go_wp2
    go_ret
    exact ⟨rfl, by repeat (first | exact hB1 | refine Below.alloc ?_ (by have := hB1.size; first | (simp; done) | (simp; omega) | omega) _ | refine Below.drew ?_)⟩
set_option maxRecDepth 100000 in
set_option maxHeartbeats 4000000 in
theorem devText_s_1 (n p : Int) (hok : DevP.ok 1 n p = true) (h1 : 0 ≤ n) (h2 : n ≤ 64) (w : World) (htab : Lib.TabIs Tryd.prog w "internal/strconv.uint64pow10" .u64 Lib.pow10Tab) (hwd : Ls.StrsIs Tryd.prog w "loop.example/stilmach/impl.devWords" wds) : Calls Tryd.prog 22 #[.agg #[.int .i64 1, .int .i64 n, .int .i64 p]] w fun e w' => e = .returned (.string (⟨#[88]⟩ ++ itoaB n)) ∧ Below w.heap.size w w' := by
  have hc := fun w => devOk_s_any 1 n p w
  rw [hok] at hc
  have hn : ∀ w', Below w.heap.size w w' → Calls Tryd.prog 51 #[.int .i64 n] w' fun e w'' => e = .returned (.string (itoaB n)) ∧ Below w'.heap.size w' w'' := fun w' hb => l10Dec_any n (by omega) (by omega) w'
  have hsu := itoaB_size (n := n) (by omega) (by omega)
  clear htab hwd
  generalize itoaB n = su at hn hsu ⊢
  have hsz : ¬ ((⟨#[88]⟩ : ByteArray).size + su.size > 9223372036854775807) := by
    have : (⟨#[88]⟩ : ByteArray).size = 1 := rfl
    omega
  have hle := fun w => devLetter_s_1 w
  clear hok h1 h2 hsu
  generalize (⟨#[88]⟩ : ByteArray) = lt at hle hsz ⊢
  go_enter Tryd.func22, Tryd.ntmps22
  go_wp2_with fail
  refine (hc _).mono ?_
  rintro e w1 ⟨rfl, hb1⟩
  have b1 := (Bx.Box.new w #[.int .i64 1, .int .i64 n, .int .i64 p] 40).kept hb1
  have hB1 : Below w.heap.size w w1 := Bx.bel_step ((Below.refl _ _).alloc (Nat.le_refl _) _) hb1 (by simp)
  have c0 : w1.cell? ⟨w.heap.size, 0, none⟩ = some (.int .i64 1) := b1.cell 0
  have c1 : w1.cell? ⟨w.heap.size, 1, none⟩ = some (.int .i64 n) := b1.cell 1
  have c2 : w1.cell? ⟨w.heap.size, 2, none⟩ = some (.int .i64 p) := b1.cell 2
  have hlt := b1.lt
  clear hb1 hc
  have hS : ∀ w', Below w1.heap.size w1 w' → w'.cell? ⟨w.heap.size, 0, none⟩ = some (.int .i64 1) ∧ w'.cell? ⟨w.heap.size, 1, none⟩ = some (.int .i64 n) ∧ Below w1.heap.size w1 w' := fun w' hb => ⟨(b1.kept hb).cell 0, (b1.kept hb).cell 1, hb⟩
  have hn1 : ∀ w', Below w1.heap.size w1 w' → Calls Tryd.prog 51 #[.int .i64 n] w' fun e w'' => e = .returned (.string su) ∧ Below w'.heap.size w' w'' := fun w' hb => hn w' (Bx.bel_step hB1 hb hB1.size)
  clear hn c2
  go_wp2
  go_region_held3 (fun w' => w'.cell? ⟨w.heap.size, 0, none⟩ = some (.int .i64 1) ∧ w'.cell? ⟨w.heap.size, 1, none⟩ = some (.int .i64 n) ∧ Below w1.heap.size w1 w')
    (first | assumption | exact hS _ (Below.refl _ _).drew | (obtain ⟨_, _, hq⟩ := (by assumption : _ ∧ _ ∧ Below w1.heap.size w1 _); exact hS _ (Bx.bel_step hq hbx hq.size)))
    (first | (go_at_call 54; refine (hle _).mono ?_; rintro e w' ⟨rfl, hbx⟩) | (go_at_call 51; refine (hn1 _ (by first | exact (Below.refl _ _).drew | exact (by assumption : _ ∧ _ ∧ Below w1.heap.size w1 _).2.2)).mono ?_; rintro e w' ⟨rfl, hbx⟩))
  all_goals
    obtain ⟨_, _, hq⟩ := (by assumption : _ ∧ _ ∧ Below w1.heap.size w1 _)
    have hB2 := Bx.bel_step hB1 hq hB1.size
    clear hq hS hn1 hle hB1 b1 c0 c1
    go_wp2
    go_ret
    exact ⟨rfl, hB2⟩
set_option maxRecDepth 100000 in
set_option maxHeartbeats 4000000 in
theorem devText_s_2 (n p : Int) (hok : DevP.ok 2 n p = true) (h1 : 0 ≤ n) (h2 : n ≤ 64) (w : World) (htab : Lib.TabIs Tryd.prog w "internal/strconv.uint64pow10" .u64 Lib.pow10Tab) (hwd : Ls.StrsIs Tryd.prog w "loop.example/stilmach/impl.devWords" wds) : Calls Tryd.prog 22 #[.agg #[.int .i64 2, .int .i64 n, .int .i64 p]] w fun e w' => e = .returned (.string (⟨#[89]⟩ ++ itoaB n)) ∧ Below w.heap.size w w' := by
  have hc := fun w => devOk_s_any 2 n p w
  rw [hok] at hc
  have hn : ∀ w', Below w.heap.size w w' → Calls Tryd.prog 51 #[.int .i64 n] w' fun e w'' => e = .returned (.string (itoaB n)) ∧ Below w'.heap.size w' w'' := fun w' hb => l10Dec_any n (by omega) (by omega) w'
  have hsu := itoaB_size (n := n) (by omega) (by omega)
  clear htab hwd
  generalize itoaB n = su at hn hsu ⊢
  have hsz : ¬ ((⟨#[89]⟩ : ByteArray).size + su.size > 9223372036854775807) := by
    have : (⟨#[89]⟩ : ByteArray).size = 1 := rfl
    omega
  have hle := fun w => devLetter_s_2 w
  clear hok h1 h2 hsu
  generalize (⟨#[89]⟩ : ByteArray) = lt at hle hsz ⊢
  go_enter Tryd.func22, Tryd.ntmps22
  go_wp2_with fail
  refine (hc _).mono ?_
  rintro e w1 ⟨rfl, hb1⟩
  have b1 := (Bx.Box.new w #[.int .i64 2, .int .i64 n, .int .i64 p] 40).kept hb1
  have hB1 : Below w.heap.size w w1 := Bx.bel_step ((Below.refl _ _).alloc (Nat.le_refl _) _) hb1 (by simp)
  have c0 : w1.cell? ⟨w.heap.size, 0, none⟩ = some (.int .i64 2) := b1.cell 0
  have c1 : w1.cell? ⟨w.heap.size, 1, none⟩ = some (.int .i64 n) := b1.cell 1
  have c2 : w1.cell? ⟨w.heap.size, 2, none⟩ = some (.int .i64 p) := b1.cell 2
  have hlt := b1.lt
  clear hb1 hc
  have hS : ∀ w', Below w1.heap.size w1 w' → w'.cell? ⟨w.heap.size, 0, none⟩ = some (.int .i64 2) ∧ w'.cell? ⟨w.heap.size, 1, none⟩ = some (.int .i64 n) ∧ Below w1.heap.size w1 w' := fun w' hb => ⟨(b1.kept hb).cell 0, (b1.kept hb).cell 1, hb⟩
  have hn1 : ∀ w', Below w1.heap.size w1 w' → Calls Tryd.prog 51 #[.int .i64 n] w' fun e w'' => e = .returned (.string su) ∧ Below w'.heap.size w' w'' := fun w' hb => hn w' (Bx.bel_step hB1 hb hB1.size)
  clear hn c2
  go_wp2
  go_region_held3 (fun w' => w'.cell? ⟨w.heap.size, 0, none⟩ = some (.int .i64 2) ∧ w'.cell? ⟨w.heap.size, 1, none⟩ = some (.int .i64 n) ∧ Below w1.heap.size w1 w')
    (first | assumption | exact hS _ (Below.refl _ _).drew | (obtain ⟨_, _, hq⟩ := (by assumption : _ ∧ _ ∧ Below w1.heap.size w1 _); exact hS _ (Bx.bel_step hq hbx hq.size)))
    (first | (go_at_call 54; refine (hle _).mono ?_; rintro e w' ⟨rfl, hbx⟩) | (go_at_call 51; refine (hn1 _ (by first | exact (Below.refl _ _).drew | exact (by assumption : _ ∧ _ ∧ Below w1.heap.size w1 _).2.2)).mono ?_; rintro e w' ⟨rfl, hbx⟩))
  all_goals
    obtain ⟨_, _, hq⟩ := (by assumption : _ ∧ _ ∧ Below w1.heap.size w1 _)
    have hB2 := Bx.bel_step hB1 hq hB1.size
    clear hq hS hn1 hle hB1 b1 c0 c1
    go_wp2
    go_ret
    exact ⟨rfl, hB2⟩
set_option maxRecDepth 100000 in
set_option maxHeartbeats 4000000 in
theorem devText_s_3 (n p : Int) (hok : DevP.ok 3 n p = true) (h1 : 0 ≤ n) (h2 : n ≤ 64) (w : World) (htab : Lib.TabIs Tryd.prog w "internal/strconv.uint64pow10" .u64 Lib.pow10Tab) (hwd : Ls.StrsIs Tryd.prog w "loop.example/stilmach/impl.devWords" wds) : Calls Tryd.prog 22 #[.agg #[.int .i64 3, .int .i64 n, .int .i64 p]] w fun e w' => e = .returned (.string (⟨#[77]⟩ ++ itoaB n)) ∧ Below w.heap.size w w' := by
  have hc := fun w => devOk_s_any 3 n p w
  rw [hok] at hc
  have hn : ∀ w', Below w.heap.size w w' → Calls Tryd.prog 51 #[.int .i64 n] w' fun e w'' => e = .returned (.string (itoaB n)) ∧ Below w'.heap.size w' w'' := fun w' hb => l10Dec_any n (by omega) (by omega) w'
  have hsu := itoaB_size (n := n) (by omega) (by omega)
  clear htab hwd
  generalize itoaB n = su at hn hsu ⊢
  have hsz : ¬ ((⟨#[77]⟩ : ByteArray).size + su.size > 9223372036854775807) := by
    have : (⟨#[77]⟩ : ByteArray).size = 1 := rfl
    omega
  have hle := fun w => devLetter_s_3 w
  clear hok h1 h2 hsu
  generalize (⟨#[77]⟩ : ByteArray) = lt at hle hsz ⊢
  go_enter Tryd.func22, Tryd.ntmps22
  go_wp2_with fail
  refine (hc _).mono ?_
  rintro e w1 ⟨rfl, hb1⟩
  have b1 := (Bx.Box.new w #[.int .i64 3, .int .i64 n, .int .i64 p] 40).kept hb1
  have hB1 : Below w.heap.size w w1 := Bx.bel_step ((Below.refl _ _).alloc (Nat.le_refl _) _) hb1 (by simp)
  have c0 : w1.cell? ⟨w.heap.size, 0, none⟩ = some (.int .i64 3) := b1.cell 0
  have c1 : w1.cell? ⟨w.heap.size, 1, none⟩ = some (.int .i64 n) := b1.cell 1
  have c2 : w1.cell? ⟨w.heap.size, 2, none⟩ = some (.int .i64 p) := b1.cell 2
  have hlt := b1.lt
  clear hb1 hc
  have hS : ∀ w', Below w1.heap.size w1 w' → w'.cell? ⟨w.heap.size, 0, none⟩ = some (.int .i64 3) ∧ w'.cell? ⟨w.heap.size, 1, none⟩ = some (.int .i64 n) ∧ Below w1.heap.size w1 w' := fun w' hb => ⟨(b1.kept hb).cell 0, (b1.kept hb).cell 1, hb⟩
  have hn1 : ∀ w', Below w1.heap.size w1 w' → Calls Tryd.prog 51 #[.int .i64 n] w' fun e w'' => e = .returned (.string su) ∧ Below w'.heap.size w' w'' := fun w' hb => hn w' (Bx.bel_step hB1 hb hB1.size)
  clear hn c2
  go_wp2
  go_region_held3 (fun w' => w'.cell? ⟨w.heap.size, 0, none⟩ = some (.int .i64 3) ∧ w'.cell? ⟨w.heap.size, 1, none⟩ = some (.int .i64 n) ∧ Below w1.heap.size w1 w')
    (first | assumption | exact hS _ (Below.refl _ _).drew | (obtain ⟨_, _, hq⟩ := (by assumption : _ ∧ _ ∧ Below w1.heap.size w1 _); exact hS _ (Bx.bel_step hq hbx hq.size)))
    (first | (go_at_call 54; refine (hle _).mono ?_; rintro e w' ⟨rfl, hbx⟩) | (go_at_call 51; refine (hn1 _ (by first | exact (Below.refl _ _).drew | exact (by assumption : _ ∧ _ ∧ Below w1.heap.size w1 _).2.2)).mono ?_; rintro e w' ⟨rfl, hbx⟩))
  all_goals
    obtain ⟨_, _, hq⟩ := (by assumption : _ ∧ _ ∧ Below w1.heap.size w1 _)
    have hB2 := Bx.bel_step hB1 hq hB1.size
    clear hq hS hn1 hle hB1 b1 c0 c1
    go_wp2
    go_ret
    exact ⟨rfl, hB2⟩
set_option maxRecDepth 100000 in
set_option maxHeartbeats 4000000 in
theorem devText_s_4 (n p : Int) (hok : DevP.ok 4 n p = true) (h1 : 0 ≤ n) (h2 : n ≤ 64) (w : World) (htab : Lib.TabIs Tryd.prog w "internal/strconv.uint64pow10" .u64 Lib.pow10Tab) (hwd : Ls.StrsIs Tryd.prog w "loop.example/stilmach/impl.devWords" wds) : Calls Tryd.prog 22 #[.agg #[.int .i64 4, .int .i64 n, .int .i64 p]] w fun e w' => e = .returned (.string (⟨#[83]⟩ ++ itoaB n)) ∧ Below w.heap.size w w' := by
  have hc := fun w => devOk_s_any 4 n p w
  rw [hok] at hc
  have hn : ∀ w', Below w.heap.size w w' → Calls Tryd.prog 51 #[.int .i64 n] w' fun e w'' => e = .returned (.string (itoaB n)) ∧ Below w'.heap.size w' w'' := fun w' hb => l10Dec_any n (by omega) (by omega) w'
  have hsu := itoaB_size (n := n) (by omega) (by omega)
  clear htab hwd
  generalize itoaB n = su at hn hsu ⊢
  have hsz : ¬ ((⟨#[83]⟩ : ByteArray).size + su.size > 9223372036854775807) := by
    have : (⟨#[83]⟩ : ByteArray).size = 1 := rfl
    omega
  have hle := fun w => devLetter_s_4 w
  clear hok h1 h2 hsu
  generalize (⟨#[83]⟩ : ByteArray) = lt at hle hsz ⊢
  go_enter Tryd.func22, Tryd.ntmps22
  go_wp2_with fail
  refine (hc _).mono ?_
  rintro e w1 ⟨rfl, hb1⟩
  have b1 := (Bx.Box.new w #[.int .i64 4, .int .i64 n, .int .i64 p] 40).kept hb1
  have hB1 : Below w.heap.size w w1 := Bx.bel_step ((Below.refl _ _).alloc (Nat.le_refl _) _) hb1 (by simp)
  have c0 : w1.cell? ⟨w.heap.size, 0, none⟩ = some (.int .i64 4) := b1.cell 0
  have c1 : w1.cell? ⟨w.heap.size, 1, none⟩ = some (.int .i64 n) := b1.cell 1
  have c2 : w1.cell? ⟨w.heap.size, 2, none⟩ = some (.int .i64 p) := b1.cell 2
  have hlt := b1.lt
  clear hb1 hc
  have hS : ∀ w', Below w1.heap.size w1 w' → w'.cell? ⟨w.heap.size, 0, none⟩ = some (.int .i64 4) ∧ w'.cell? ⟨w.heap.size, 1, none⟩ = some (.int .i64 n) ∧ Below w1.heap.size w1 w' := fun w' hb => ⟨(b1.kept hb).cell 0, (b1.kept hb).cell 1, hb⟩
  have hn1 : ∀ w', Below w1.heap.size w1 w' → Calls Tryd.prog 51 #[.int .i64 n] w' fun e w'' => e = .returned (.string su) ∧ Below w'.heap.size w' w'' := fun w' hb => hn w' (Bx.bel_step hB1 hb hB1.size)
  clear hn c2
  go_wp2
  go_region_held3 (fun w' => w'.cell? ⟨w.heap.size, 0, none⟩ = some (.int .i64 4) ∧ w'.cell? ⟨w.heap.size, 1, none⟩ = some (.int .i64 n) ∧ Below w1.heap.size w1 w')
    (first | assumption | exact hS _ (Below.refl _ _).drew | (obtain ⟨_, _, hq⟩ := (by assumption : _ ∧ _ ∧ Below w1.heap.size w1 _); exact hS _ (Bx.bel_step hq hbx hq.size)))
    (first | (go_at_call 54; refine (hle _).mono ?_; rintro e w' ⟨rfl, hbx⟩) | (go_at_call 51; refine (hn1 _ (by first | exact (Below.refl _ _).drew | exact (by assumption : _ ∧ _ ∧ Below w1.heap.size w1 _).2.2)).mono ?_; rintro e w' ⟨rfl, hbx⟩))
  all_goals
    obtain ⟨_, _, hq⟩ := (by assumption : _ ∧ _ ∧ Below w1.heap.size w1 _)
    have hB2 := Bx.bel_step hB1 hq hB1.size
    clear hq hS hn1 hle hB1 b1 c0 c1
    go_wp2
    go_ret
    exact ⟨rfl, hB2⟩
set_option maxRecDepth 100000 in
set_option maxHeartbeats 4000000 in
theorem devText_s_5 (n p : Int) (hok : DevP.ok 5 n p = true) (h1 : 0 ≤ n) (h2 : n ≤ 64) (w : World) (htab : Lib.TabIs Tryd.prog w "internal/strconv.uint64pow10" .u64 Lib.pow10Tab) (hwd : Ls.StrsIs Tryd.prog w "loop.example/stilmach/impl.devWords" wds) : Calls Tryd.prog 22 #[.agg #[.int .i64 5, .int .i64 n, .int .i64 p]] w fun e w' => e = .returned (.string (⟨#[69]⟩ ++ itoaB n)) ∧ Below w.heap.size w w' := by
  have hc := fun w => devOk_s_any 5 n p w
  rw [hok] at hc
  have hn : ∀ w', Below w.heap.size w w' → Calls Tryd.prog 51 #[.int .i64 n] w' fun e w'' => e = .returned (.string (itoaB n)) ∧ Below w'.heap.size w' w'' := fun w' hb => l10Dec_any n (by omega) (by omega) w'
  have hsu := itoaB_size (n := n) (by omega) (by omega)
  clear htab hwd
  generalize itoaB n = su at hn hsu ⊢
  have hsz : ¬ ((⟨#[69]⟩ : ByteArray).size + su.size > 9223372036854775807) := by
    have : (⟨#[69]⟩ : ByteArray).size = 1 := rfl
    omega
  have hle := fun w => devLetter_s_5 w
  clear hok h1 h2 hsu
  generalize (⟨#[69]⟩ : ByteArray) = lt at hle hsz ⊢
  go_enter Tryd.func22, Tryd.ntmps22
  go_wp2_with fail
  refine (hc _).mono ?_
  rintro e w1 ⟨rfl, hb1⟩
  have b1 := (Bx.Box.new w #[.int .i64 5, .int .i64 n, .int .i64 p] 40).kept hb1
  have hB1 : Below w.heap.size w w1 := Bx.bel_step ((Below.refl _ _).alloc (Nat.le_refl _) _) hb1 (by simp)
  have c0 : w1.cell? ⟨w.heap.size, 0, none⟩ = some (.int .i64 5) := b1.cell 0
  have c1 : w1.cell? ⟨w.heap.size, 1, none⟩ = some (.int .i64 n) := b1.cell 1
  have c2 : w1.cell? ⟨w.heap.size, 2, none⟩ = some (.int .i64 p) := b1.cell 2
  have hlt := b1.lt
  clear hb1 hc
  have hS : ∀ w', Below w1.heap.size w1 w' → w'.cell? ⟨w.heap.size, 0, none⟩ = some (.int .i64 5) ∧ w'.cell? ⟨w.heap.size, 1, none⟩ = some (.int .i64 n) ∧ Below w1.heap.size w1 w' := fun w' hb => ⟨(b1.kept hb).cell 0, (b1.kept hb).cell 1, hb⟩
  have hn1 : ∀ w', Below w1.heap.size w1 w' → Calls Tryd.prog 51 #[.int .i64 n] w' fun e w'' => e = .returned (.string su) ∧ Below w'.heap.size w' w'' := fun w' hb => hn w' (Bx.bel_step hB1 hb hB1.size)
  clear hn c2
  go_wp2
  go_region_held3 (fun w' => w'.cell? ⟨w.heap.size, 0, none⟩ = some (.int .i64 5) ∧ w'.cell? ⟨w.heap.size, 1, none⟩ = some (.int .i64 n) ∧ Below w1.heap.size w1 w')
    (first | assumption | exact hS _ (Below.refl _ _).drew | (obtain ⟨_, _, hq⟩ := (by assumption : _ ∧ _ ∧ Below w1.heap.size w1 _); exact hS _ (Bx.bel_step hq hbx hq.size)))
    (first | (go_at_call 54; refine (hle _).mono ?_; rintro e w' ⟨rfl, hbx⟩) | (go_at_call 51; refine (hn1 _ (by first | exact (Below.refl _ _).drew | exact (by assumption : _ ∧ _ ∧ Below w1.heap.size w1 _).2.2)).mono ?_; rintro e w' ⟨rfl, hbx⟩))
  all_goals
    obtain ⟨_, _, hq⟩ := (by assumption : _ ∧ _ ∧ Below w1.heap.size w1 _)
    have hB2 := Bx.bel_step hB1 hq hB1.size
    clear hq hS hn1 hle hB1 b1 c0 c1
    go_wp2
    go_ret
    exact ⟨rfl, hB2⟩
set_option maxRecDepth 100000 in
set_option maxHeartbeats 4000000 in
theorem devText_s_6 (n p : Int) (hok : DevP.ok 6 n p = true) (h1 : 0 ≤ n) (h2 : n ≤ 64) (w : World) (htab : Lib.TabIs Tryd.prog w "internal/strconv.uint64pow10" .u64 Lib.pow10Tab) (hwd : Ls.StrsIs Tryd.prog w "loop.example/stilmach/impl.devWords" wds) : Calls Tryd.prog 22 #[.agg #[.int .i64 6, .int .i64 n, .int .i64 p]] w fun e w' => e = .returned (.string (⟨#[71]⟩ ++ itoaB n)) ∧ Below w.heap.size w w' := by
  have hc := fun w => devOk_s_any 6 n p w
  rw [hok] at hc
  have hn : ∀ w', Below w.heap.size w w' → Calls Tryd.prog 51 #[.int .i64 n] w' fun e w'' => e = .returned (.string (itoaB n)) ∧ Below w'.heap.size w' w'' := fun w' hb => l10Dec_any n (by omega) (by omega) w'
  have hsu := itoaB_size (n := n) (by omega) (by omega)
  clear htab hwd
  generalize itoaB n = su at hn hsu ⊢
  have hsz : ¬ ((⟨#[71]⟩ : ByteArray).size + su.size > 9223372036854775807) := by
    have : (⟨#[71]⟩ : ByteArray).size = 1 := rfl
    omega
  have hle := fun w => devLetter_s_6 w
  clear hok h1 h2 hsu
  generalize (⟨#[71]⟩ : ByteArray) = lt at hle hsz ⊢
  go_enter Tryd.func22, Tryd.ntmps22
  go_wp2_with fail
  refine (hc _).mono ?_
  rintro e w1 ⟨rfl, hb1⟩
  have b1 := (Bx.Box.new w #[.int .i64 6, .int .i64 n, .int .i64 p] 40).kept hb1
  have hB1 : Below w.heap.size w w1 := Bx.bel_step ((Below.refl _ _).alloc (Nat.le_refl _) _) hb1 (by simp)
  have c0 : w1.cell? ⟨w.heap.size, 0, none⟩ = some (.int .i64 6) := b1.cell 0
  have c1 : w1.cell? ⟨w.heap.size, 1, none⟩ = some (.int .i64 n) := b1.cell 1
  have c2 : w1.cell? ⟨w.heap.size, 2, none⟩ = some (.int .i64 p) := b1.cell 2
  have hlt := b1.lt
  clear hb1 hc
  have hS : ∀ w', Below w1.heap.size w1 w' → w'.cell? ⟨w.heap.size, 0, none⟩ = some (.int .i64 6) ∧ w'.cell? ⟨w.heap.size, 1, none⟩ = some (.int .i64 n) ∧ Below w1.heap.size w1 w' := fun w' hb => ⟨(b1.kept hb).cell 0, (b1.kept hb).cell 1, hb⟩
  have hn1 : ∀ w', Below w1.heap.size w1 w' → Calls Tryd.prog 51 #[.int .i64 n] w' fun e w'' => e = .returned (.string su) ∧ Below w'.heap.size w' w'' := fun w' hb => hn w' (Bx.bel_step hB1 hb hB1.size)
  clear hn c2
  go_wp2
  go_region_held3 (fun w' => w'.cell? ⟨w.heap.size, 0, none⟩ = some (.int .i64 6) ∧ w'.cell? ⟨w.heap.size, 1, none⟩ = some (.int .i64 n) ∧ Below w1.heap.size w1 w')
    (first | assumption | exact hS _ (Below.refl _ _).drew | (obtain ⟨_, _, hq⟩ := (by assumption : _ ∧ _ ∧ Below w1.heap.size w1 _); exact hS _ (Bx.bel_step hq hbx hq.size)))
    (first | (go_at_call 54; refine (hle _).mono ?_; rintro e w' ⟨rfl, hbx⟩) | (go_at_call 51; refine (hn1 _ (by first | exact (Below.refl _ _).drew | exact (by assumption : _ ∧ _ ∧ Below w1.heap.size w1 _).2.2)).mono ?_; rintro e w' ⟨rfl, hbx⟩))
  all_goals
    obtain ⟨_, _, hq⟩ := (by assumption : _ ∧ _ ∧ Below w1.heap.size w1 _)
    have hB2 := Bx.bel_step hB1 hq hB1.size
    clear hq hS hn1 hle hB1 b1 c0 c1
    go_wp2
    go_ret
    exact ⟨rfl, hB2⟩
set_option maxRecDepth 100000 in
set_option maxHeartbeats 4000000 in
theorem devText_s_7 (n p : Int) (hok : DevP.ok 7 n p = true) (h1 : 0 ≤ n) (h2 : n ≤ 64) (w : World) (htab : Lib.TabIs Tryd.prog w "internal/strconv.uint64pow10" .u64 Lib.pow10Tab) (hwd : Ls.StrsIs Tryd.prog w "loop.example/stilmach/impl.devWords" wds) : Calls Tryd.prog 22 #[.agg #[.int .i64 7, .int .i64 n, .int .i64 p]] w fun e w' => e = .returned (.string (⟨#[84]⟩ ++ itoaB n)) ∧ Below w.heap.size w w' := by
  have hc := fun w => devOk_s_any 7 n p w
  rw [hok] at hc
  have hn : ∀ w', Below w.heap.size w w' → Calls Tryd.prog 51 #[.int .i64 n] w' fun e w'' => e = .returned (.string (itoaB n)) ∧ Below w'.heap.size w' w'' := fun w' hb => l10Dec_any n (by omega) (by omega) w'
  have hsu := itoaB_size (n := n) (by omega) (by omega)
  clear htab hwd
  generalize itoaB n = su at hn hsu ⊢
  have hsz : ¬ ((⟨#[84]⟩ : ByteArray).size + su.size > 9223372036854775807) := by
    have : (⟨#[84]⟩ : ByteArray).size = 1 := rfl
    omega
  have hle := fun w => devLetter_s_7 w
  clear hok h1 h2 hsu
  generalize (⟨#[84]⟩ : ByteArray) = lt at hle hsz ⊢
  go_enter Tryd.func22, Tryd.ntmps22
  go_wp2_with fail
  refine (hc _).mono ?_
  rintro e w1 ⟨rfl, hb1⟩
  have b1 := (Bx.Box.new w #[.int .i64 7, .int .i64 n, .int .i64 p] 40).kept hb1
  have hB1 : Below w.heap.size w w1 := Bx.bel_step ((Below.refl _ _).alloc (Nat.le_refl _) _) hb1 (by simp)
  have c0 : w1.cell? ⟨w.heap.size, 0, none⟩ = some (.int .i64 7) := b1.cell 0
  have c1 : w1.cell? ⟨w.heap.size, 1, none⟩ = some (.int .i64 n) := b1.cell 1
  have c2 : w1.cell? ⟨w.heap.size, 2, none⟩ = some (.int .i64 p) := b1.cell 2
  have hlt := b1.lt
  clear hb1 hc
  have hS : ∀ w', Below w1.heap.size w1 w' → w'.cell? ⟨w.heap.size, 0, none⟩ = some (.int .i64 7) ∧ w'.cell? ⟨w.heap.size, 1, none⟩ = some (.int .i64 n) ∧ Below w1.heap.size w1 w' := fun w' hb => ⟨(b1.kept hb).cell 0, (b1.kept hb).cell 1, hb⟩
  have hn1 : ∀ w', Below w1.heap.size w1 w' → Calls Tryd.prog 51 #[.int .i64 n] w' fun e w'' => e = .returned (.string su) ∧ Below w'.heap.size w' w'' := fun w' hb => hn w' (Bx.bel_step hB1 hb hB1.size)
  clear hn c2
  go_wp2
  go_region_held3 (fun w' => w'.cell? ⟨w.heap.size, 0, none⟩ = some (.int .i64 7) ∧ w'.cell? ⟨w.heap.size, 1, none⟩ = some (.int .i64 n) ∧ Below w1.heap.size w1 w')
    (first | assumption | exact hS _ (Below.refl _ _).drew | (obtain ⟨_, _, hq⟩ := (by assumption : _ ∧ _ ∧ Below w1.heap.size w1 _); exact hS _ (Bx.bel_step hq hbx hq.size)))
    (first | (go_at_call 54; refine (hle _).mono ?_; rintro e w' ⟨rfl, hbx⟩) | (go_at_call 51; refine (hn1 _ (by first | exact (Below.refl _ _).drew | exact (by assumption : _ ∧ _ ∧ Below w1.heap.size w1 _).2.2)).mono ?_; rintro e w' ⟨rfl, hbx⟩))
  all_goals
    obtain ⟨_, _, hq⟩ := (by assumption : _ ∧ _ ∧ Below w1.heap.size w1 _)
    have hB2 := Bx.bel_step hB1 hq hB1.size
    clear hq hS hn1 hle hB1 b1 c0 c1
    go_wp2
    go_ret
    exact ⟨rfl, hB2⟩
set_option maxRecDepth 100000 in
set_option maxHeartbeats 4000000 in
theorem devText_s_8 (n p : Int) (hok : DevP.ok 8 n p = true) (h1 : 0 ≤ n) (h2 : n ≤ 64) (w : World) (htab : Lib.TabIs Tryd.prog w "internal/strconv.uint64pow10" .u64 Lib.pow10Tab) (hwd : Ls.StrsIs Tryd.prog w "loop.example/stilmach/impl.devWords" wds) : Calls Tryd.prog 22 #[.agg #[.int .i64 8, .int .i64 n, .int .i64 p]] w fun e w' => e = .returned (.string (⟨#[67]⟩ ++ itoaB n)) ∧ Below w.heap.size w w' := by
  have hc := fun w => devOk_s_any 8 n p w
  rw [hok] at hc
  have hn : ∀ w', Below w.heap.size w w' → Calls Tryd.prog 51 #[.int .i64 n] w' fun e w'' => e = .returned (.string (itoaB n)) ∧ Below w'.heap.size w' w'' := fun w' hb => l10Dec_any n (by omega) (by omega) w'
  have hsu := itoaB_size (n := n) (by omega) (by omega)
  clear htab hwd
  generalize itoaB n = su at hn hsu ⊢
  have hsz : ¬ ((⟨#[67]⟩ : ByteArray).size + su.size > 9223372036854775807) := by
    have : (⟨#[67]⟩ : ByteArray).size = 1 := rfl
    omega
  have hle := fun w => devLetter_s_8 w
  clear hok h1 h2 hsu
  generalize (⟨#[67]⟩ : ByteArray) = lt at hle hsz ⊢
  go_enter Tryd.func22, Tryd.ntmps22
  go_wp2_with fail
  refine (hc _).mono ?_
  rintro e w1 ⟨rfl, hb1⟩
  have b1 := (Bx.Box.new w #[.int .i64 8, .int .i64 n, .int .i64 p] 40).kept hb1
  have hB1 : Below w.heap.size w w1 := Bx.bel_step ((Below.refl _ _).alloc (Nat.le_refl _) _) hb1 (by simp)
  have c0 : w1.cell? ⟨w.heap.size, 0, none⟩ = some (.int .i64 8) := b1.cell 0
  have c1 : w1.cell? ⟨w.heap.size, 1, none⟩ = some (.int .i64 n) := b1.cell 1
  have c2 : w1.cell? ⟨w.heap.size, 2, none⟩ = some (.int .i64 p) := b1.cell 2
  have hlt := b1.lt
  clear hb1 hc
  have hS : ∀ w', Below w1.heap.size w1 w' → w'.cell? ⟨w.heap.size, 0, none⟩ = some (.int .i64 8) ∧ w'.cell? ⟨w.heap.size, 1, none⟩ = some (.int .i64 n) ∧ Below w1.heap.size w1 w' := fun w' hb => ⟨(b1.kept hb).cell 0, (b1.kept hb).cell 1, hb⟩
  have hn1 : ∀ w', Below w1.heap.size w1 w' → Calls Tryd.prog 51 #[.int .i64 n] w' fun e w'' => e = .returned (.string su) ∧ Below w'.heap.size w' w'' := fun w' hb => hn w' (Bx.bel_step hB1 hb hB1.size)
  clear hn c2
  go_wp2
  go_region_held3 (fun w' => w'.cell? ⟨w.heap.size, 0, none⟩ = some (.int .i64 8) ∧ w'.cell? ⟨w.heap.size, 1, none⟩ = some (.int .i64 n) ∧ Below w1.heap.size w1 w')
    (first | assumption | exact hS _ (Below.refl _ _).drew | (obtain ⟨_, _, hq⟩ := (by assumption : _ ∧ _ ∧ Below w1.heap.size w1 _); exact hS _ (Bx.bel_step hq hbx hq.size)))
    (first | (go_at_call 54; refine (hle _).mono ?_; rintro e w' ⟨rfl, hbx⟩) | (go_at_call 51; refine (hn1 _ (by first | exact (Below.refl _ _).drew | exact (by assumption : _ ∧ _ ∧ Below w1.heap.size w1 _).2.2)).mono ?_; rintro e w' ⟨rfl, hbx⟩))
  all_goals
    obtain ⟨_, _, hq⟩ := (by assumption : _ ∧ _ ∧ Below w1.heap.size w1 _)
    have hB2 := Bx.bel_step hB1 hq hB1.size
    clear hq hS hn1 hle hB1 b1 c0 c1
    go_wp2
    go_ret
    exact ⟨rfl, hB2⟩
set_option maxRecDepth 100000 in
set_option maxHeartbeats 4000000 in
theorem devText_s_9 (n p : Int) (hok : DevP.ok 9 n p = true) (h1 : 0 ≤ n) (h2 : n ≤ 64) (w : World) (htab : Lib.TabIs Tryd.prog w "internal/strconv.uint64pow10" .u64 Lib.pow10Tab) (hwd : Ls.StrsIs Tryd.prog w "loop.example/stilmach/impl.devWords" wds) : Calls Tryd.prog 22 #[.agg #[.int .i64 9, .int .i64 n, .int .i64 p]] w fun e w' => e = .returned (.string (⟨#[68]⟩ ++ itoaB n)) ∧ Below w.heap.size w w' := by
  have hc := fun w => devOk_s_any 9 n p w
  rw [hok] at hc
  have hn : ∀ w', Below w.heap.size w w' → Calls Tryd.prog 51 #[.int .i64 n] w' fun e w'' => e = .returned (.string (itoaB n)) ∧ Below w'.heap.size w' w'' := fun w' hb => l10Dec_any n (by omega) (by omega) w'
  have hsu := itoaB_size (n := n) (by omega) (by omega)
  clear htab hwd
  generalize itoaB n = su at hn hsu ⊢
  have hsz : ¬ ((⟨#[68]⟩ : ByteArray).size + su.size > 9223372036854775807) := by
    have : (⟨#[68]⟩ : ByteArray).size = 1 := rfl
    omega
  have hle := fun w => devLetter_s_9 w
  clear hok h1 h2 hsu
  generalize (⟨#[68]⟩ : ByteArray) = lt at hle hsz ⊢
  go_enter Tryd.func22, Tryd.ntmps22
  go_wp2_with fail
  refine (hc _).mono ?_
  rintro e w1 ⟨rfl, hb1⟩
  have b1 := (Bx.Box.new w #[.int .i64 9, .int .i64 n, .int .i64 p] 40).kept hb1
  have hB1 : Below w.heap.size w w1 := Bx.bel_step ((Below.refl _ _).alloc (Nat.le_refl _) _) hb1 (by simp)
  have c0 : w1.cell? ⟨w.heap.size, 0, none⟩ = some (.int .i64 9) := b1.cell 0
  have c1 : w1.cell? ⟨w.heap.size, 1, none⟩ = some (.int .i64 n) := b1.cell 1
  have c2 : w1.cell? ⟨w.heap.size, 2, none⟩ = some (.int .i64 p) := b1.cell 2
  have hlt := b1.lt
  clear hb1 hc
  have hS : ∀ w', Below w1.heap.size w1 w' → w'.cell? ⟨w.heap.size, 0, none⟩ = some (.int .i64 9) ∧ w'.cell? ⟨w.heap.size, 1, none⟩ = some (.int .i64 n) ∧ Below w1.heap.size w1 w' := fun w' hb => ⟨(b1.kept hb).cell 0, (b1.kept hb).cell 1, hb⟩
  have hn1 : ∀ w', Below w1.heap.size w1 w' → Calls Tryd.prog 51 #[.int .i64 n] w' fun e w'' => e = .returned (.string su) ∧ Below w'.heap.size w' w'' := fun w' hb => hn w' (Bx.bel_step hB1 hb hB1.size)
  clear hn c2
  go_wp2
  go_region_held3 (fun w' => w'.cell? ⟨w.heap.size, 0, none⟩ = some (.int .i64 9) ∧ w'.cell? ⟨w.heap.size, 1, none⟩ = some (.int .i64 n) ∧ Below w1.heap.size w1 w')
    (first | assumption | exact hS _ (Below.refl _ _).drew | (obtain ⟨_, _, hq⟩ := (by assumption : _ ∧ _ ∧ Below w1.heap.size w1 _); exact hS _ (Bx.bel_step hq hbx hq.size)))
    (first | (go_at_call 54; refine (hle _).mono ?_; rintro e w' ⟨rfl, hbx⟩) | (go_at_call 51; refine (hn1 _ (by first | exact (Below.refl _ _).drew | exact (by assumption : _ ∧ _ ∧ Below w1.heap.size w1 _).2.2)).mono ?_; rintro e w' ⟨rfl, hbx⟩))
  all_goals
    obtain ⟨_, _, hq⟩ := (by assumption : _ ∧ _ ∧ Below w1.heap.size w1 _)
    have hB2 := Bx.bel_step hB1 hq hB1.size
    clear hq hS hn1 hle hB1 b1 c0 c1
    go_wp2
    go_ret
    exact ⟨rfl, hB2⟩
set_option maxRecDepth 100000 in
set_option maxHeartbeats 4000000 in
theorem devText_s_10 (n p : Int) (hok : DevP.ok 10 n p = true) (h1 : 0 ≤ n) (h2 : n ≤ 64) (w : World) (htab : Lib.TabIs Tryd.prog w "internal/strconv.uint64pow10" .u64 Lib.pow10Tab) (hwd : Ls.StrsIs Tryd.prog w "loop.example/stilmach/impl.devWords" wds) : Calls Tryd.prog 22 #[.agg #[.int .i64 10, .int .i64 n, .int .i64 p]] w fun e w' => e = .returned (.string (⟨#[82]⟩ ++ itoaB n)) ∧ Below w.heap.size w w' := by
  have hc := fun w => devOk_s_any 10 n p w
  rw [hok] at hc
  have hn : ∀ w', Below w.heap.size w w' → Calls Tryd.prog 51 #[.int .i64 n] w' fun e w'' => e = .returned (.string (itoaB n)) ∧ Below w'.heap.size w' w'' := fun w' hb => l10Dec_any n (by omega) (by omega) w'
  have hsu := itoaB_size (n := n) (by omega) (by omega)
  clear htab hwd
  generalize itoaB n = su at hn hsu ⊢
  have hsz : ¬ ((⟨#[82]⟩ : ByteArray).size + su.size > 9223372036854775807) := by
    have : (⟨#[82]⟩ : ByteArray).size = 1 := rfl
    omega
  have hle := fun w => devLetter_s_10 w
  clear hok h1 h2 hsu
  generalize (⟨#[82]⟩ : ByteArray) = lt at hle hsz ⊢
  go_enter Tryd.func22, Tryd.ntmps22
  go_wp2_with fail
  refine (hc _).mono ?_
  rintro e w1 ⟨rfl, hb1⟩
  have b1 := (Bx.Box.new w #[.int .i64 10, .int .i64 n, .int .i64 p] 40).kept hb1
  have hB1 : Below w.heap.size w w1 := Bx.bel_step ((Below.refl _ _).alloc (Nat.le_refl _) _) hb1 (by simp)
  have c0 : w1.cell? ⟨w.heap.size, 0, none⟩ = some (.int .i64 10) := b1.cell 0
  have c1 : w1.cell? ⟨w.heap.size, 1, none⟩ = some (.int .i64 n) := b1.cell 1
  have c2 : w1.cell? ⟨w.heap.size, 2, none⟩ = some (.int .i64 p) := b1.cell 2
  have hlt := b1.lt
  clear hb1 hc
  have hS : ∀ w', Below w1.heap.size w1 w' → w'.cell? ⟨w.heap.size, 0, none⟩ = some (.int .i64 10) ∧ w'.cell? ⟨w.heap.size, 1, none⟩ = some (.int .i64 n) ∧ Below w1.heap.size w1 w' := fun w' hb => ⟨(b1.kept hb).cell 0, (b1.kept hb).cell 1, hb⟩
  have hn1 : ∀ w', Below w1.heap.size w1 w' → Calls Tryd.prog 51 #[.int .i64 n] w' fun e w'' => e = .returned (.string su) ∧ Below w'.heap.size w' w'' := fun w' hb => hn w' (Bx.bel_step hB1 hb hB1.size)
  clear hn c2
  go_wp2
  go_region_held3 (fun w' => w'.cell? ⟨w.heap.size, 0, none⟩ = some (.int .i64 10) ∧ w'.cell? ⟨w.heap.size, 1, none⟩ = some (.int .i64 n) ∧ Below w1.heap.size w1 w')
    (first | assumption | exact hS _ (Below.refl _ _).drew | (obtain ⟨_, _, hq⟩ := (by assumption : _ ∧ _ ∧ Below w1.heap.size w1 _); exact hS _ (Bx.bel_step hq hbx hq.size)))
    (first | (go_at_call 54; refine (hle _).mono ?_; rintro e w' ⟨rfl, hbx⟩) | (go_at_call 51; refine (hn1 _ (by first | exact (Below.refl _ _).drew | exact (by assumption : _ ∧ _ ∧ Below w1.heap.size w1 _).2.2)).mono ?_; rintro e w' ⟨rfl, hbx⟩))
  all_goals
    obtain ⟨_, _, hq⟩ := (by assumption : _ ∧ _ ∧ Below w1.heap.size w1 _)
    have hB2 := Bx.bel_step hB1 hq hB1.size
    clear hq hS hn1 hle hB1 b1 c0 c1
    go_wp2
    go_ret
    exact ⟨rfl, hB2⟩
theorem devText_s_any (k n p : Int) (w : World) (htab : Lib.TabIs Tryd.prog w "internal/strconv.uint64pow10" .u64 Lib.pow10Tab) (hwd : Ls.StrsIs Tryd.prog w "loop.example/stilmach/impl.devWords" wds) : Calls Tryd.prog 22 #[.agg #[.int .i64 k, .int .i64 n, .int .i64 p]] w fun e w' => e = .returned (.string (DevT.txt k n p)) ∧ Below w.heap.size w w' := by
  cases hok : DevP.ok k n p with
  | false => rw [DevT.txt_no hok]; exact devText_s_no k n p hok w htab hwd
  | true =>
    have hr := DevP.ok_range hok
    have hk : k = 1 ∨ k = 2 ∨ k = 3 ∨ k = 4 ∨ k = 5 ∨ k = 6 ∨ k = 7 ∨ k = 8 ∨ k = 9 ∨ k = 10 ∨ k = 11 ∨ k = 12 ∨ k = 13 := by omega
    rcases hk with rfl | rfl | rfl | rfl | rfl | rfl | rfl | rfl | rfl | rfl | rfl | rfl | rfl
    · have hd := hok
      rw [DevP.ok_dev (by omega), show DevP.size 1 = 32 from rfl, decide_eq_true_iff] at hd
      rw [DevT.txt_dev (by omega) hok]
      exact devText_s_1 n p hok (by omega) (by omega) w htab hwd
    · have hd := hok
      rw [DevP.ok_dev (by omega), show DevP.size 2 = 32 from rfl, decide_eq_true_iff] at hd
      rw [DevT.txt_dev (by omega) hok]
      exact devText_s_2 n p hok (by omega) (by omega) w htab hwd
    · have hd := hok
      rw [DevP.ok_dev (by omega), show DevP.size 3 = 64 from rfl, decide_eq_true_iff] at hd
      rw [DevT.txt_dev (by omega) hok]
      exact devText_s_3 n p hok (by omega) (by omega) w htab hwd
    · have hd := hok
      rw [DevP.ok_dev (by omega), show DevP.size 4 = 16 from rfl, decide_eq_true_iff] at hd
      rw [DevT.txt_dev (by omega) hok]
      exact devText_s_4 n p hok (by omega) (by omega) w htab hwd
    · have hd := hok
      rw [DevP.ok_dev (by omega), show DevP.size 5 = 32 from rfl, decide_eq_true_iff] at hd
      rw [DevT.txt_dev (by omega) hok]
      exact devText_s_5 n p hok (by omega) (by omega) w htab hwd
    · have hd := hok
      rw [DevP.ok_dev (by omega), show DevP.size 6 = 5 from rfl, decide_eq_true_iff] at hd
      rw [DevT.txt_dev (by omega) hok]
      exact devText_s_6 n p hok (by omega) (by omega) w htab hwd
    · have hd := hok
      rw [DevP.ok_dev (by omega), show DevP.size 7 = 16 from rfl, decide_eq_true_iff] at hd
      rw [DevT.txt_dev (by omega) hok]
      exact devText_s_7 n p hok (by omega) (by omega) w htab hwd
    · have hd := hok
      rw [DevP.ok_dev (by omega), show DevP.size 8 = 16 from rfl, decide_eq_true_iff] at hd
      rw [DevT.txt_dev (by omega) hok]
      exact devText_s_8 n p hok (by omega) (by omega) w htab hwd
    · have hd := hok
      rw [DevP.ok_dev (by omega), show DevP.size 9 = 32 from rfl, decide_eq_true_iff] at hd
      rw [DevT.txt_dev (by omega) hok]
      exact devText_s_9 n p hok (by omega) (by omega) w htab hwd
    · have hd := hok
      rw [DevP.ok_dev (by omega), show DevP.size 10 = 16 from rfl, decide_eq_true_iff] at hd
      rw [DevT.txt_dev (by omega) hok]
      exact devText_s_10 n p hok (by omega) (by omega) w htab hwd
    · have hd := hok
      rw [DevP.ok_int, decide_eq_true_iff] at hd
      rw [DevT.txt_11 hok]
      exact devText_s_11 n p hok (by omega) (by omega) w htab hwd
    · have hd := hok
      rw [DevP.ok_dec, decide_eq_true_iff] at hd
      rw [DevT.txt_12 hok]
      obtain ⟨q, rfl⟩ := Int.eq_ofNat_of_zero_le (show 0 ≤ p by omega)
      exact devText_s_12 n q hok (by omega) (by omega) (by omega) w htab hwd
    · have hd := hok
      rw [DevP.ok_word, decide_eq_true_iff] at hd
      rw [DevT.txt_13 hok]
      have hn : n = 0 ∨ n = 1 ∨ n = 2 ∨ n = 3 := by omega
      rcases hn with rfl | rfl | rfl | rfl
      · exact devText_s_13_0 p hok w htab hwd
      · exact devText_s_13_1 p hok w htab hwd
      · exact devText_s_13_2 p hok w htab hwd
      · exact devText_s_13_3 p hok w htab hwd
set_option maxRecDepth 100000 in
set_option maxHeartbeats 4000000 in
theorem devText_i_no (k n p : Int) (hok : DevP.ok k n p = false) (w : World) (htab : Lib.TabIs Tryd.prog w "internal/strconv.uint64pow10" .u64 Lib.pow10Tab) (hwd : Ls.StrsIs Tryd.prog w "loop.example/stilmach/impl.devWords" wds) : Calls Tryd.prog 25 #[.agg #[.int .i64 k, .int .i64 n, .int .i64 p]] w fun e w' => e = .returned (.string ⟨#[]⟩) ∧ Below w.heap.size w w' := by
  have hc := fun w => devOk_i_any k n p w
  rw [hok] at hc
  go_enter Tryd.func25, Tryd.ntmps25
  go_wp2_with fail
  refine (hc _).mono ?_
  rintro e w1 ⟨rfl, hb1⟩
  have b1 := (Bx.Box.new w #[.int .i64 k, .int .i64 n, .int .i64 p] 40).kept hb1
  have hB1 : Below w.heap.size w w1 := Bx.bel_step ((Below.refl _ _).alloc (Nat.le_refl _) _) hb1 (by simp)
  have c0 : w1.cell? ⟨w.heap.size, 0, none⟩ = some (.int .i64 k) := b1.cell 0
  have c1 : w1.cell? ⟨w.heap.size, 1, none⟩ = some (.int .i64 n) := b1.cell 1
  have c2 : w1.cell? ⟨w.heap.size, 2, none⟩ = some (.int .i64 p) := b1.cell 2
  have hlt := b1.lt
  clear hb1 hc
  clear htab hwd
  go_wp2
  go_ret
  exact ⟨rfl, hB1⟩
set_option maxRecDepth 100000 in
set_option maxHeartbeats 4000000 in
theorem devText_i_11 (n p : Int) (hok : DevP.ok 11 n p = true) (h1 : -32768 ≤ n) (h2 : n ≤ 32767) (w : World) (htab : Lib.TabIs Tryd.prog w "internal/strconv.uint64pow10" .u64 Lib.pow10Tab) (hwd : Ls.StrsIs Tryd.prog w "loop.example/stilmach/impl.devWords" wds) : Calls Tryd.prog 25 #[.agg #[.int .i64 11, .int .i64 n, .int .i64 p]] w fun e w' => e = .returned (.string (itoaB n)) ∧ Below w.heap.size w w' := by
  have hc := fun w => devOk_i_any 11 n p w
  rw [hok] at hc
  have hn : ∀ w', Below w.heap.size w w' → Calls Tryd.prog 56 #[.int .i64 n] w' fun e w'' => e = .returned (.string (itoaB n)) ∧ Below w'.heap.size w' w'' := fun w' hb => itoa_any n (by omega) (by omega) w' (tab_kept htab hb)
  have hsu := itoaB_size (n := n) (by omega) (by omega)
  clear htab hwd
  generalize itoaB n = su at hn hsu ⊢
  clear hok h1 h2
  go_enter Tryd.func25, Tryd.ntmps25
  go_wp2_with fail
  refine (hc _).mono ?_
  rintro e w1 ⟨rfl, hb1⟩
  have b1 := (Bx.Box.new w #[.int .i64 11, .int .i64 n, .int .i64 p] 40).kept hb1
  have hB1 : Below w.heap.size w w1 := Bx.bel_step ((Below.refl _ _).alloc (Nat.le_refl _) _) hb1 (by simp)
  have c0 : w1.cell? ⟨w.heap.size, 0, none⟩ = some (.int .i64 11) := b1.cell 0
  have c1 : w1.cell? ⟨w.heap.size, 1, none⟩ = some (.int .i64 n) := b1.cell 1
  have c2 : w1.cell? ⟨w.heap.size, 2, none⟩ = some (.int .i64 p) := b1.cell 2
  have hlt := b1.lt
  clear hb1 hc
  go_wp2_with fail
  refine (hn _ hB1).mono ?_
  rintro e w2 ⟨rfl, hb2⟩
  have hB2 := Bx.bel_step hB1 hb2 hB1.size
  clear hb2 hB1 hn b1 c0 c1 c2
  go_wp2
  go_ret
  exact ⟨rfl, hB2⟩
set_option maxRecDepth 100000 in
set_option maxHeartbeats 4000000 in
theorem devText_i_12 (n : Int) (p : Nat) (hok : DevP.ok 12 n p = true) (h1 : -999999999 ≤ n) (h2 : n ≤ 999999999) (h3 : p ≤ 6) (w : World) (htab : Lib.TabIs Tryd.prog w "internal/strconv.uint64pow10" .u64 Lib.pow10Tab) (hwd : Ls.StrsIs Tryd.prog w "loop.example/stilmach/impl.devWords" wds) : Calls Tryd.prog 25 #[.agg #[.int .i64 12, .int .i64 n, .int .i64 (p : Int)]] w fun e w' => e = .returned (.string (decD n p)) ∧ Below w.heap.size w w' := by
  have hc := fun w => devOk_i_any 12 n p w
  rw [hok] at hc
  have hn : ∀ w', Below w.heap.size w w' → Calls Tryd.prog 57 #[.int .i64 n, .int .i64 (p : Int)] w' fun e w'' => e = .returned (.string (decD n p)) ∧ Below w'.heap.size w' w'' := fun w' hb => decText_any n p (by omega) (by omega) (by omega) w' (tab_kept htab hb)
  clear htab hwd
  generalize decD n p = su at hn ⊢
  clear hok h1 h2
  go_enter Tryd.func25, Tryd.ntmps25
  go_wp2_with fail
  refine (hc _).mono ?_
  rintro e w1 ⟨rfl, hb1⟩
  have b1 := (Bx.Box.new w #[.int .i64 12, .int .i64 n, .int .i64 (p : Int)] 40).kept hb1
  have hB1 : Below w.heap.size w w1 := Bx.bel_step ((Below.refl _ _).alloc (Nat.le_refl _) _) hb1 (by simp)
  have c0 : w1.cell? ⟨w.heap.size, 0, none⟩ = some (.int .i64 12) := b1.cell 0
  have c1 : w1.cell? ⟨w.heap.size, 1, none⟩ = some (.int .i64 n) := b1.cell 1
  have c2 : w1.cell? ⟨w.heap.size, 2, none⟩ = some (.int .i64 (p : Int)) := b1.cell 2
  have hlt := b1.lt
  clear hb1 hc
  go_wp2_with fail
  refine (hn _ hB1).mono ?_
  rintro e w2 ⟨rfl, hb2⟩
  have hB2 := Bx.bel_step hB1 hb2 hB1.size
  clear hb2 hB1 hn b1 c0 c1 c2
  go_wp2
  go_ret
  exact ⟨rfl, hB2⟩
set_option maxRecDepth 100000 in
set_option maxHeartbeats 4000000 in
theorem devText_i_13_0 (p : Int) (hok : DevP.ok 13 0 p = true) (w : World) (htab : Lib.TabIs Tryd.prog w "internal/strconv.uint64pow10" .u64 Lib.pow10Tab) (hwd : Ls.StrsIs Tryd.prog w "loop.example/stilmach/impl.devWords" wds) : Calls Tryd.prog 25 #[.agg #[.int .i64 13, .int .i64 0, .int .i64 p]] w fun e w' => e = .returned (.string ⟨#[110, 97, 110]⟩) ∧ Below w.heap.size w w' := by
  have hc := fun w => devOk_i_any 13 0 p w
  rw [hok] at hc
  have hg : 1 < w.heap.size := hwd.lt (by kernel_rfl)
  clear hok
  go_enter Tryd.func25, Tryd.ntmps25
  go_wp2_with fail
  refine (hc _).mono ?_
  rintro e w1 ⟨rfl, hb1⟩
  have b1 := (Bx.Box.new w #[.int .i64 13, .int .i64 0, .int .i64 p] 40).kept hb1
  have hB1 : Below w.heap.size w w1 := Bx.bel_step ((Below.refl _ _).alloc (Nat.le_refl _) _) hb1 (by simp)
  have c0 : w1.cell? ⟨w.heap.size, 0, none⟩ = some (.int .i64 13) := b1.cell 0
  have c1 : w1.cell? ⟨w.heap.size, 1, none⟩ = some (.int .i64 0) := b1.cell 1
  have c2 : w1.cell? ⟨w.heap.size, 2, none⟩ = some (.int .i64 p) := b1.cell 2
  have hlt := b1.lt
  clear hb1 hc
  have cw : w1.cell? ⟨1, 0, none⟩ = some (.string ⟨#[110, 97, 110]⟩) := (wds_kept hwd hB1).cell (by kernel_rfl) 0 (by decide)
  have hg1 : 1 < w1.heap.size := by have := hB1.size; omega
  clear htab hwd
  go_wp2
  go_ret
  exact ⟨rfl, hB1⟩
set_option maxRecDepth 100000 in
set_option maxHeartbeats 4000000 in
theorem devText_i_13_1 (p : Int) (hok : DevP.ok 13 1 p = true) (w : World) (htab : Lib.TabIs Tryd.prog w "internal/strconv.uint64pow10" .u64 Lib.pow10Tab) (hwd : Ls.StrsIs Tryd.prog w "loop.example/stilmach/impl.devWords" wds) : Calls Tryd.prog 25 #[.agg #[.int .i64 13, .int .i64 1, .int .i64 p]] w fun e w' => e = .returned (.string ⟨#[105, 110, 102]⟩) ∧ Below w.heap.size w w' := by
  have hc := fun w => devOk_i_any 13 1 p w
  rw [hok] at hc
  have hg : 1 < w.heap.size := hwd.lt (by kernel_rfl)
  clear hok
  go_enter Tryd.func25, Tryd.ntmps25
  go_wp2_with fail
  refine (hc _).mono ?_
  rintro e w1 ⟨rfl, hb1⟩
  have b1 := (Bx.Box.new w #[.int .i64 13, .int .i64 1, .int .i64 p] 40).kept hb1
  have hB1 : Below w.heap.size w w1 := Bx.bel_step ((Below.refl _ _).alloc (Nat.le_refl _) _) hb1 (by simp)
  have c0 : w1.cell? ⟨w.heap.size, 0, none⟩ = some (.int .i64 13) := b1.cell 0
  have c1 : w1.cell? ⟨w.heap.size, 1, none⟩ = some (.int .i64 1) := b1.cell 1
  have c2 : w1.cell? ⟨w.heap.size, 2, none⟩ = some (.int .i64 p) := b1.cell 2
  have hlt := b1.lt
  clear hb1 hc
  have cw : w1.cell? ⟨1, 1, none⟩ = some (.string ⟨#[105, 110, 102]⟩) := (wds_kept hwd hB1).cell (by kernel_rfl) 1 (by decide)
  have hg1 : 1 < w1.heap.size := by have := hB1.size; omega
  clear htab hwd
  go_wp2
  go_ret
  exact ⟨rfl, hB1⟩
set_option maxRecDepth 100000 in
set_option maxHeartbeats 4000000 in
theorem devText_i_13_2 (p : Int) (hok : DevP.ok 13 2 p = true) (w : World) (htab : Lib.TabIs Tryd.prog w "internal/strconv.uint64pow10" .u64 Lib.pow10Tab) (hwd : Ls.StrsIs Tryd.prog w "loop.example/stilmach/impl.devWords" wds) : Calls Tryd.prog 25 #[.agg #[.int .i64 13, .int .i64 2, .int .i64 p]] w fun e w' => e = .returned (.string ⟨#[45, 105, 110, 102]⟩) ∧ Below w.heap.size w w' := by
  have hc := fun w => devOk_i_any 13 2 p w
  rw [hok] at hc
  have hg : 1 < w.heap.size := hwd.lt (by kernel_rfl)
  clear hok
  go_enter Tryd.func25, Tryd.ntmps25
  go_wp2_with fail
  refine (hc _).mono ?_
  rintro e w1 ⟨rfl, hb1⟩
  have b1 := (Bx.Box.new w #[.int .i64 13, .int .i64 2, .int .i64 p] 40).kept hb1
  have hB1 : Below w.heap.size w w1 := Bx.bel_step ((Below.refl _ _).alloc (Nat.le_refl _) _) hb1 (by simp)
  have c0 : w1.cell? ⟨w.heap.size, 0, none⟩ = some (.int .i64 13) := b1.cell 0
  have c1 : w1.cell? ⟨w.heap.size, 1, none⟩ = some (.int .i64 2) := b1.cell 1
  have c2 : w1.cell? ⟨w.heap.size, 2, none⟩ = some (.int .i64 p) := b1.cell 2
  have hlt := b1.lt
  clear hb1 hc
  have cw : w1.cell? ⟨1, 2, none⟩ = some (.string ⟨#[45, 105, 110, 102]⟩) := (wds_kept hwd hB1).cell (by kernel_rfl) 2 (by decide)
  have hg1 : 1 < w1.heap.size := by have := hB1.size; omega
  clear htab hwd
  go_wp2
  go_ret
  exact ⟨rfl, hB1⟩
set_option maxRecDepth 100000 in
set_option maxHeartbeats 4000000 in
theorem devText_i_13_3 (p : Int) (hok : DevP.ok 13 3 p = true) (w : World) (htab : Lib.TabIs Tryd.prog w "internal/strconv.uint64pow10" .u64 Lib.pow10Tab) (hwd : Ls.StrsIs Tryd.prog w "loop.example/stilmach/impl.devWords" wds) : Calls Tryd.prog 25 #[.agg #[.int .i64 13, .int .i64 3, .int .i64 p]] w fun e w' => e = .returned (.string ⟨#[45, 48, 46, 48]⟩) ∧ Below w.heap.size w w' := by
  have hc := fun w => devOk_i_any 13 3 p w
  rw [hok] at hc
  have hg : 1 < w.heap.size := hwd.lt (by kernel_rfl)
  clear hok
  go_enter Tryd.func25, Tryd.ntmps25
  go_wp2_with fail
  refine (hc _).mono ?_
  rintro e w1 ⟨rfl, hb1⟩
  have b1 := (Bx.Box.new w #[.int .i64 13, .int .i64 3, .int .i64 p] 40).kept hb1
  have hB1 : Below w.heap.size w w1 := Bx.bel_step ((Below.refl _ _).alloc (Nat.le_refl _) _) hb1 (by simp)
  have c0 : w1.cell? ⟨w.heap.size, 0, none⟩ = some (.int .i64 13) := b1.cell 0
  have c1 : w1.cell? ⟨w.heap.size, 1, none⟩ = some (.int .i64 3) := b1.cell 1
  have c2 : w1.cell? ⟨w.heap.size, 2, none⟩ = some (.int .i64 p) := b1.cell 2
  have hlt := b1.lt
  clear hb1 hc
  have cw : w1.cell? ⟨1, 3, none⟩ = some (.string ⟨#[45, 48, 46, 48]⟩) := (wds_kept hwd hB1).cell (by kernel_rfl) 3 (by decide)
  have hg1 : 1 < w1.heap.size := by have := hB1.size; omega
  clear htab hwd
  go_wp2
  go_ret
  exact ⟨rfl, hB1⟩
set_option maxRecDepth 100000 in
set_option maxHeartbeats 4000000 in
theorem devText_i_1 (n p : Int) (hok : DevP.ok 1 n p = true) (h1 : 0 ≤ n) (h2 : n ≤ 64) (w : World) (htab : Lib.TabIs Tryd.prog w "internal/strconv.uint64pow10" .u64 Lib.pow10Tab) (hwd : Ls.StrsIs Tryd.prog w "loop.example/stilmach/impl.devWords" wds) : Calls Tryd.prog 25 #[.agg #[.int .i64 1, .int .i64 n, .int .i64 p]] w fun e w' => e = .returned (.string (⟨#[88]⟩ ++ itoaB n)) ∧ Below w.heap.size w w' := by
  have hc := fun w => devOk_i_any 1 n p w
  rw [hok] at hc
  have hn : ∀ w', Below w.heap.size w w' → Calls Tryd.prog 56 #[.int .i64 n] w' fun e w'' => e = .returned (.string (itoaB n)) ∧ Below w'.heap.size w' w'' := fun w' hb => itoa_any n (by omega) (by omega) w' (tab_kept htab hb)
  have hsu := itoaB_size (n := n) (by omega) (by omega)
  clear htab hwd
  generalize itoaB n = su at hn hsu ⊢
  have hsz : ¬ ((⟨#[88]⟩ : ByteArray).size + su.size > 9223372036854775807) := by
    have : (⟨#[88]⟩ : ByteArray).size = 1 := rfl
    omega
  have hle := fun w => devLetter_i_1 w
  clear hok h1 h2 hsu
  generalize (⟨#[88]⟩ : ByteArray) = lt at hle hsz ⊢
  go_enter Tryd.func25, Tryd.ntmps25
  go_wp2_with fail
  refine (hc _).mono ?_
  rintro e w1 ⟨rfl, hb1⟩
  have b1 := (Bx.Box.new w #[.int .i64 1, .int .i64 n, .int .i64 p] 40).kept hb1
  have hB1 : Below w.heap.size w w1 := Bx.bel_step ((Below.refl _ _).alloc (Nat.le_refl _) _) hb1 (by simp)
  have c0 : w1.cell? ⟨w.heap.size, 0, none⟩ = some (.int .i64 1) := b1.cell 0
  have c1 : w1.cell? ⟨w.heap.size, 1, none⟩ = some (.int .i64 n) := b1.cell 1
  have c2 : w1.cell? ⟨w.heap.size, 2, none⟩ = some (.int .i64 p) := b1.cell 2
  have hlt := b1.lt
  clear hb1 hc
  have hS : ∀ w', Below w1.heap.size w1 w' → w'.cell? ⟨w.heap.size, 0, none⟩ = some (.int .i64 1) ∧ w'.cell? ⟨w.heap.size, 1, none⟩ = some (.int .i64 n) ∧ Below w1.heap.size w1 w' := fun w' hb => ⟨(b1.kept hb).cell 0, (b1.kept hb).cell 1, hb⟩
  have hn1 : ∀ w', Below w1.heap.size w1 w' → Calls Tryd.prog 56 #[.int .i64 n] w' fun e w'' => e = .returned (.string su) ∧ Below w'.heap.size w' w'' := fun w' hb => hn w' (Bx.bel_step hB1 hb hB1.size)
  clear hn c2
  go_wp2
  go_region_held3 (fun w' => w'.cell? ⟨w.heap.size, 0, none⟩ = some (.int .i64 1) ∧ w'.cell? ⟨w.heap.size, 1, none⟩ = some (.int .i64 n) ∧ Below w1.heap.size w1 w')
    (first | assumption | exact hS _ (Below.refl _ _).drew | (obtain ⟨_, _, hq⟩ := (by assumption : _ ∧ _ ∧ Below w1.heap.size w1 _); exact hS _ (Bx.bel_step hq hbx hq.size)))
    (first | (go_at_call 58; refine (hle _).mono ?_; rintro e w' ⟨rfl, hbx⟩) | (go_at_call 56; refine (hn1 _ (by first | exact (Below.refl _ _).drew | exact (by assumption : _ ∧ _ ∧ Below w1.heap.size w1 _).2.2)).mono ?_; rintro e w' ⟨rfl, hbx⟩))
  all_goals
    obtain ⟨_, _, hq⟩ := (by assumption : _ ∧ _ ∧ Below w1.heap.size w1 _)
    have hB2 := Bx.bel_step hB1 hq hB1.size
    clear hq hS hn1 hle hB1 b1 c0 c1
    go_wp2
    go_ret
    exact ⟨rfl, hB2⟩
set_option maxRecDepth 100000 in
set_option maxHeartbeats 4000000 in
theorem devText_i_2 (n p : Int) (hok : DevP.ok 2 n p = true) (h1 : 0 ≤ n) (h2 : n ≤ 64) (w : World) (htab : Lib.TabIs Tryd.prog w "internal/strconv.uint64pow10" .u64 Lib.pow10Tab) (hwd : Ls.StrsIs Tryd.prog w "loop.example/stilmach/impl.devWords" wds) : Calls Tryd.prog 25 #[.agg #[.int .i64 2, .int .i64 n, .int .i64 p]] w fun e w' => e = .returned (.string (⟨#[89]⟩ ++ itoaB n)) ∧ Below w.heap.size w w' := by
  have hc := fun w => devOk_i_any 2 n p w
  rw [hok] at hc
  have hn : ∀ w', Below w.heap.size w w' → Calls Tryd.prog 56 #[.int .i64 n] w' fun e w'' => e = .returned (.string (itoaB n)) ∧ Below w'.heap.size w' w'' := fun w' hb => itoa_any n (by omega) (by omega) w' (tab_kept htab hb)
  have hsu := itoaB_size (n := n) (by omega) (by omega)
  clear htab hwd
  generalize itoaB n = su at hn hsu ⊢
  have hsz : ¬ ((⟨#[89]⟩ : ByteArray).size + su.size > 9223372036854775807) := by
    have : (⟨#[89]⟩ : ByteArray).size = 1 := rfl
    omega
  have hle := fun w => devLetter_i_2 w
  clear hok h1 h2 hsu
  generalize (⟨#[89]⟩ : ByteArray) = lt at hle hsz ⊢
  go_enter Tryd.func25, Tryd.ntmps25
  go_wp2_with fail
  refine (hc _).mono ?_
  rintro e w1 ⟨rfl, hb1⟩
  have b1 := (Bx.Box.new w #[.int .i64 2, .int .i64 n, .int .i64 p] 40).kept hb1
  have hB1 : Below w.heap.size w w1 := Bx.bel_step ((Below.refl _ _).alloc (Nat.le_refl _) _) hb1 (by simp)
  have c0 : w1.cell? ⟨w.heap.size, 0, none⟩ = some (.int .i64 2) := b1.cell 0
  have c1 : w1.cell? ⟨w.heap.size, 1, none⟩ = some (.int .i64 n) := b1.cell 1
  have c2 : w1.cell? ⟨w.heap.size, 2, none⟩ = some (.int .i64 p) := b1.cell 2
  have hlt := b1.lt
  clear hb1 hc
  have hS : ∀ w', Below w1.heap.size w1 w' → w'.cell? ⟨w.heap.size, 0, none⟩ = some (.int .i64 2) ∧ w'.cell? ⟨w.heap.size, 1, none⟩ = some (.int .i64 n) ∧ Below w1.heap.size w1 w' := fun w' hb => ⟨(b1.kept hb).cell 0, (b1.kept hb).cell 1, hb⟩
  have hn1 : ∀ w', Below w1.heap.size w1 w' → Calls Tryd.prog 56 #[.int .i64 n] w' fun e w'' => e = .returned (.string su) ∧ Below w'.heap.size w' w'' := fun w' hb => hn w' (Bx.bel_step hB1 hb hB1.size)
  clear hn c2
  go_wp2
  go_region_held3 (fun w' => w'.cell? ⟨w.heap.size, 0, none⟩ = some (.int .i64 2) ∧ w'.cell? ⟨w.heap.size, 1, none⟩ = some (.int .i64 n) ∧ Below w1.heap.size w1 w')
    (first | assumption | exact hS _ (Below.refl _ _).drew | (obtain ⟨_, _, hq⟩ := (by assumption : _ ∧ _ ∧ Below w1.heap.size w1 _); exact hS _ (Bx.bel_step hq hbx hq.size)))
    (first | (go_at_call 58; refine (hle _).mono ?_; rintro e w' ⟨rfl, hbx⟩) | (go_at_call 56; refine (hn1 _ (by first | exact (Below.refl _ _).drew | exact (by assumption : _ ∧ _ ∧ Below w1.heap.size w1 _).2.2)).mono ?_; rintro e w' ⟨rfl, hbx⟩))
  all_goals
    obtain ⟨_, _, hq⟩ := (by assumption : _ ∧ _ ∧ Below w1.heap.size w1 _)
    have hB2 := Bx.bel_step hB1 hq hB1.size
    clear hq hS hn1 hle hB1 b1 c0 c1
    go_wp2
    go_ret
    exact ⟨rfl, hB2⟩
set_option maxRecDepth 100000 in
set_option maxHeartbeats 4000000 in
theorem devText_i_3 (n p : Int) (hok : DevP.ok 3 n p = true) (h1 : 0 ≤ n) (h2 : n ≤ 64) (w : World) (htab : Lib.TabIs Tryd.prog w "internal/strconv.uint64pow10" .u64 Lib.pow10Tab) (hwd : Ls.StrsIs Tryd.prog w "loop.example/stilmach/impl.devWords" wds) : Calls Tryd.prog 25 #[.agg #[.int .i64 3, .int .i64 n, .int .i64 p]] w fun e w' => e = .returned (.string (⟨#[77]⟩ ++ itoaB n)) ∧ Below w.heap.size w w' := by
  have hc := fun w => devOk_i_any 3 n p w
  rw [hok] at hc
  have hn : ∀ w', Below w.heap.size w w' → Calls Tryd.prog 56 #[.int .i64 n] w' fun e w'' => e = .returned (.string (itoaB n)) ∧ Below w'.heap.size w' w'' := fun w' hb => itoa_any n (by omega) (by omega) w' (tab_kept htab hb)
  have hsu := itoaB_size (n := n) (by omega) (by omega)
  clear htab hwd
  generalize itoaB n = su at hn hsu ⊢
  have hsz : ¬ ((⟨#[77]⟩ : ByteArray).size + su.size > 9223372036854775807) := by
    have : (⟨#[77]⟩ : ByteArray).size = 1 := rfl
    omega
  have hle := fun w => devLetter_i_3 w
  clear hok h1 h2 hsu
  generalize (⟨#[77]⟩ : ByteArray) = lt at hle hsz ⊢
  go_enter Tryd.func25, Tryd.ntmps25
  go_wp2_with fail
  refine (hc _).mono ?_
  rintro e w1 ⟨rfl, hb1⟩
  have b1 := (Bx.Box.new w #[.int .i64 3, .int .i64 n, .int .i64 p] 40).kept hb1
  have hB1 : Below w.heap.size w w1 := Bx.bel_step ((Below.refl _ _).alloc (Nat.le_refl _) _) hb1 (by simp)
  have c0 : w1.cell? ⟨w.heap.size, 0, none⟩ = some (.int .i64 3) := b1.cell 0
  have c1 : w1.cell? ⟨w.heap.size, 1, none⟩ = some (.int .i64 n) := b1.cell 1
  have c2 : w1.cell? ⟨w.heap.size, 2, none⟩ = some (.int .i64 p) := b1.cell 2
  have hlt := b1.lt
  clear hb1 hc
  have hS : ∀ w', Below w1.heap.size w1 w' → w'.cell? ⟨w.heap.size, 0, none⟩ = some (.int .i64 3) ∧ w'.cell? ⟨w.heap.size, 1, none⟩ = some (.int .i64 n) ∧ Below w1.heap.size w1 w' := fun w' hb => ⟨(b1.kept hb).cell 0, (b1.kept hb).cell 1, hb⟩
  have hn1 : ∀ w', Below w1.heap.size w1 w' → Calls Tryd.prog 56 #[.int .i64 n] w' fun e w'' => e = .returned (.string su) ∧ Below w'.heap.size w' w'' := fun w' hb => hn w' (Bx.bel_step hB1 hb hB1.size)
  clear hn c2
  go_wp2
  go_region_held3 (fun w' => w'.cell? ⟨w.heap.size, 0, none⟩ = some (.int .i64 3) ∧ w'.cell? ⟨w.heap.size, 1, none⟩ = some (.int .i64 n) ∧ Below w1.heap.size w1 w')
    (first | assumption | exact hS _ (Below.refl _ _).drew | (obtain ⟨_, _, hq⟩ := (by assumption : _ ∧ _ ∧ Below w1.heap.size w1 _); exact hS _ (Bx.bel_step hq hbx hq.size)))
    (first | (go_at_call 58; refine (hle _).mono ?_; rintro e w' ⟨rfl, hbx⟩) | (go_at_call 56; refine (hn1 _ (by first | exact (Below.refl _ _).drew | exact (by assumption : _ ∧ _ ∧ Below w1.heap.size w1 _).2.2)).mono ?_; rintro e w' ⟨rfl, hbx⟩))
  all_goals
    obtain ⟨_, _, hq⟩ := (by assumption : _ ∧ _ ∧ Below w1.heap.size w1 _)
    have hB2 := Bx.bel_step hB1 hq hB1.size
    clear hq hS hn1 hle hB1 b1 c0 c1
    go_wp2
    go_ret
    exact ⟨rfl, hB2⟩
set_option maxRecDepth 100000 in
set_option maxHeartbeats 4000000 in
theorem devText_i_4 (n p : Int) (hok : DevP.ok 4 n p = true) (h1 : 0 ≤ n) (h2 : n ≤ 64) (w : World) (htab : Lib.TabIs Tryd.prog w "internal/strconv.uint64pow10" .u64 Lib.pow10Tab) (hwd : Ls.StrsIs Tryd.prog w "loop.example/stilmach/impl.devWords" wds) : Calls Tryd.prog 25 #[.agg #[.int .i64 4, .int .i64 n, .int .i64 p]] w fun e w' => e = .returned (.string (⟨#[83]⟩ ++ itoaB n)) ∧ Below w.heap.size w w' := by
  have hc := fun w => devOk_i_any 4 n p w
  rw [hok] at hc
  have hn : ∀ w', Below w.heap.size w w' → Calls Tryd.prog 56 #[.int .i64 n] w' fun e w'' => e = .returned (.string (itoaB n)) ∧ Below w'.heap.size w' w'' := fun w' hb => itoa_any n (by omega) (by omega) w' (tab_kept htab hb)
  have hsu := itoaB_size (n := n) (by omega) (by omega)
  clear htab hwd
  generalize itoaB n = su at hn hsu ⊢
  have hsz : ¬ ((⟨#[83]⟩ : ByteArray).size + su.size > 9223372036854775807) := by
    have : (⟨#[83]⟩ : ByteArray).size = 1 := rfl
    omega
  have hle := fun w => devLetter_i_4 w
  clear hok h1 h2 hsu
  generalize (⟨#[83]⟩ : ByteArray) = lt at hle hsz ⊢
  go_enter Tryd.func25, Tryd.ntmps25
  go_wp2_with fail
  refine (hc _).mono ?_
  rintro e w1 ⟨rfl, hb1⟩
  have b1 := (Bx.Box.new w #[.int .i64 4, .int .i64 n, .int .i64 p] 40).kept hb1
  have hB1 : Below w.heap.size w w1 := Bx.bel_step ((Below.refl _ _).alloc (Nat.le_refl _) _) hb1 (by simp)
  have c0 : w1.cell? ⟨w.heap.size, 0, none⟩ = some (.int .i64 4) := b1.cell 0
  have c1 : w1.cell? ⟨w.heap.size, 1, none⟩ = some (.int .i64 n) := b1.cell 1
  have c2 : w1.cell? ⟨w.heap.size, 2, none⟩ = some (.int .i64 p) := b1.cell 2
  have hlt := b1.lt
  clear hb1 hc
  have hS : ∀ w', Below w1.heap.size w1 w' → w'.cell? ⟨w.heap.size, 0, none⟩ = some (.int .i64 4) ∧ w'.cell? ⟨w.heap.size, 1, none⟩ = some (.int .i64 n) ∧ Below w1.heap.size w1 w' := fun w' hb => ⟨(b1.kept hb).cell 0, (b1.kept hb).cell 1, hb⟩
  have hn1 : ∀ w', Below w1.heap.size w1 w' → Calls Tryd.prog 56 #[.int .i64 n] w' fun e w'' => e = .returned (.string su) ∧ Below w'.heap.size w' w'' := fun w' hb => hn w' (Bx.bel_step hB1 hb hB1.size)
  clear hn c2
  go_wp2
  go_region_held3 (fun w' => w'.cell? ⟨w.heap.size, 0, none⟩ = some (.int .i64 4) ∧ w'.cell? ⟨w.heap.size, 1, none⟩ = some (.int .i64 n) ∧ Below w1.heap.size w1 w')
    (first | assumption | exact hS _ (Below.refl _ _).drew | (obtain ⟨_, _, hq⟩ := (by assumption : _ ∧ _ ∧ Below w1.heap.size w1 _); exact hS _ (Bx.bel_step hq hbx hq.size)))
    (first | (go_at_call 58; refine (hle _).mono ?_; rintro e w' ⟨rfl, hbx⟩) | (go_at_call 56; refine (hn1 _ (by first | exact (Below.refl _ _).drew | exact (by assumption : _ ∧ _ ∧ Below w1.heap.size w1 _).2.2)).mono ?_; rintro e w' ⟨rfl, hbx⟩))
  all_goals
    obtain ⟨_, _, hq⟩ := (by assumption : _ ∧ _ ∧ Below w1.heap.size w1 _)
    have hB2 := Bx.bel_step hB1 hq hB1.size
    clear hq hS hn1 hle hB1 b1 c0 c1
    go_wp2
    go_ret
    exact ⟨rfl, hB2⟩
set_option maxRecDepth 100000 in
set_option maxHeartbeats 4000000 in
theorem devText_i_5 (n p : Int) (hok : DevP.ok 5 n p = true) (h1 : 0 ≤ n) (h2 : n ≤ 64) (w : World) (htab : Lib.TabIs Tryd.prog w "internal/strconv.uint64pow10" .u64 Lib.pow10Tab) (hwd : Ls.StrsIs Tryd.prog w "loop.example/stilmach/impl.devWords" wds) : Calls Tryd.prog 25 #[.agg #[.int .i64 5, .int .i64 n, .int .i64 p]] w fun e w' => e = .returned (.string (⟨#[69]⟩ ++ itoaB n)) ∧ Below w.heap.size w w' := by
  have hc := fun w => devOk_i_any 5 n p w
  rw [hok] at hc
  have hn : ∀ w', Below w.heap.size w w' → Calls Tryd.prog 56 #[.int .i64 n] w' fun e w'' => e = .returned (.string (itoaB n)) ∧ Below w'.heap.size w' w'' := fun w' hb => itoa_any n (by omega) (by omega) w' (tab_kept htab hb)
  have hsu := itoaB_size (n := n) (by omega) (by omega)
  clear htab hwd
  generalize itoaB n = su at hn hsu ⊢
  have hsz : ¬ ((⟨#[69]⟩ : ByteArray).size + su.size > 9223372036854775807) := by
    have : (⟨#[69]⟩ : ByteArray).size = 1 := rfl
    omega
  have hle := fun w => devLetter_i_5 w
  clear hok h1 h2 hsu
  generalize (⟨#[69]⟩ : ByteArray) = lt at hle hsz ⊢
  go_enter Tryd.func25, Tryd.ntmps25
  go_wp2_with fail
  refine (hc _).mono ?_
  rintro e w1 ⟨rfl, hb1⟩
  have b1 := (Bx.Box.new w #[.int .i64 5, .int .i64 n, .int .i64 p] 40).kept hb1
  have hB1 : Below w.heap.size w w1 := Bx.bel_step ((Below.refl _ _).alloc (Nat.le_refl _) _) hb1 (by simp)
  have c0 : w1.cell? ⟨w.heap.size, 0, none⟩ = some (.int .i64 5) := b1.cell 0
  have c1 : w1.cell? ⟨w.heap.size, 1, none⟩ = some (.int .i64 n) := b1.cell 1
  have c2 : w1.cell? ⟨w.heap.size, 2, none⟩ = some (.int .i64 p) := b1.cell 2
  have hlt := b1.lt
  clear hb1 hc
  have hS : ∀ w', Below w1.heap.size w1 w' → w'.cell? ⟨w.heap.size, 0, none⟩ = some (.int .i64 5) ∧ w'.cell? ⟨w.heap.size, 1, none⟩ = some (.int .i64 n) ∧ Below w1.heap.size w1 w' := fun w' hb => ⟨(b1.kept hb).cell 0, (b1.kept hb).cell 1, hb⟩
  have hn1 : ∀ w', Below w1.heap.size w1 w' → Calls Tryd.prog 56 #[.int .i64 n] w' fun e w'' => e = .returned (.string su) ∧ Below w'.heap.size w' w'' := fun w' hb => hn w' (Bx.bel_step hB1 hb hB1.size)
  clear hn c2
  go_wp2
  go_region_held3 (fun w' => w'.cell? ⟨w.heap.size, 0, none⟩ = some (.int .i64 5) ∧ w'.cell? ⟨w.heap.size, 1, none⟩ = some (.int .i64 n) ∧ Below w1.heap.size w1 w')
    (first | assumption | exact hS _ (Below.refl _ _).drew | (obtain ⟨_, _, hq⟩ := (by assumption : _ ∧ _ ∧ Below w1.heap.size w1 _); exact hS _ (Bx.bel_step hq hbx hq.size)))
    (first | (go_at_call 58; refine (hle _).mono ?_; rintro e w' ⟨rfl, hbx⟩) | (go_at_call 56; refine (hn1 _ (by first | exact (Below.refl _ _).drew | exact (by assumption : _ ∧ _ ∧ Below w1.heap.size w1 _).2.2)).mono ?_; rintro e w' ⟨rfl, hbx⟩))
  all_goals
    obtain ⟨_, _, hq⟩ := (by assumption : _ ∧ _ ∧ Below w1.heap.size w1 _)
    have hB2 := Bx.bel_step hB1 hq hB1.size
    clear hq hS hn1 hle hB1 b1 c0 c1
    go_wp2
    go_ret
    exact ⟨rfl, hB2⟩
set_option maxRecDepth 100000 in
set_option maxHeartbeats 4000000 in
theorem devText_i_6 (n p : Int) (hok : DevP.ok 6 n p = true) (h1 : 0 ≤ n) (h2 : n ≤ 64) (w : World) (htab : Lib.TabIs Tryd.prog w "internal/strconv.uint64pow10" .u64 Lib.pow10Tab) (hwd : Ls.StrsIs Tryd.prog w "loop.example/stilmach/impl.devWords" wds) : Calls Tryd.prog 25 #[.agg #[.int .i64 6, .int .i64 n, .int .i64 p]] w fun e w' => e = .returned (.string (⟨#[71]⟩ ++ itoaB n)) ∧ Below w.heap.size w w' := by
  have hc := fun w => devOk_i_any 6 n p w
  rw [hok] at hc
  have hn : ∀ w', Below w.heap.size w w' → Calls Tryd.prog 56 #[.int .i64 n] w' fun e w'' => e = .returned (.string (itoaB n)) ∧ Below w'.heap.size w' w'' := fun w' hb => itoa_any n (by omega) (by omega) w' (tab_kept htab hb)
  have hsu := itoaB_size (n := n) (by omega) (by omega)
  clear htab hwd
  generalize itoaB n = su at hn hsu ⊢
  have hsz : ¬ ((⟨#[71]⟩ : ByteArray).size + su.size > 9223372036854775807) := by
    have : (⟨#[71]⟩ : ByteArray).size = 1 := rfl
    omega
  have hle := fun w => devLetter_i_6 w
  clear hok h1 h2 hsu
  generalize (⟨#[71]⟩ : ByteArray) = lt at hle hsz ⊢
  go_enter Tryd.func25, Tryd.ntmps25
  go_wp2_with fail
  refine (hc _).mono ?_
  rintro e w1 ⟨rfl, hb1⟩
  have b1 := (Bx.Box.new w #[.int .i64 6, .int .i64 n, .int .i64 p] 40).kept hb1
  have hB1 : Below w.heap.size w w1 := Bx.bel_step ((Below.refl _ _).alloc (Nat.le_refl _) _) hb1 (by simp)
  have c0 : w1.cell? ⟨w.heap.size, 0, none⟩ = some (.int .i64 6) := b1.cell 0
  have c1 : w1.cell? ⟨w.heap.size, 1, none⟩ = some (.int .i64 n) := b1.cell 1
  have c2 : w1.cell? ⟨w.heap.size, 2, none⟩ = some (.int .i64 p) := b1.cell 2
  have hlt := b1.lt
  clear hb1 hc
  have hS : ∀ w', Below w1.heap.size w1 w' → w'.cell? ⟨w.heap.size, 0, none⟩ = some (.int .i64 6) ∧ w'.cell? ⟨w.heap.size, 1, none⟩ = some (.int .i64 n) ∧ Below w1.heap.size w1 w' := fun w' hb => ⟨(b1.kept hb).cell 0, (b1.kept hb).cell 1, hb⟩
  have hn1 : ∀ w', Below w1.heap.size w1 w' → Calls Tryd.prog 56 #[.int .i64 n] w' fun e w'' => e = .returned (.string su) ∧ Below w'.heap.size w' w'' := fun w' hb => hn w' (Bx.bel_step hB1 hb hB1.size)
  clear hn c2
  go_wp2
  go_region_held3 (fun w' => w'.cell? ⟨w.heap.size, 0, none⟩ = some (.int .i64 6) ∧ w'.cell? ⟨w.heap.size, 1, none⟩ = some (.int .i64 n) ∧ Below w1.heap.size w1 w')
    (first | assumption | exact hS _ (Below.refl _ _).drew | (obtain ⟨_, _, hq⟩ := (by assumption : _ ∧ _ ∧ Below w1.heap.size w1 _); exact hS _ (Bx.bel_step hq hbx hq.size)))
    (first | (go_at_call 58; refine (hle _).mono ?_; rintro e w' ⟨rfl, hbx⟩) | (go_at_call 56; refine (hn1 _ (by first | exact (Below.refl _ _).drew | exact (by assumption : _ ∧ _ ∧ Below w1.heap.size w1 _).2.2)).mono ?_; rintro e w' ⟨rfl, hbx⟩))
  all_goals
    obtain ⟨_, _, hq⟩ := (by assumption : _ ∧ _ ∧ Below w1.heap.size w1 _)
    have hB2 := Bx.bel_step hB1 hq hB1.size
    clear hq hS hn1 hle hB1 b1 c0 c1
    go_wp2
    go_ret
    exact ⟨rfl, hB2⟩
set_option maxRecDepth 100000 in
set_option maxHeartbeats 4000000 in
theorem devText_i_7 (n p : Int) (hok : DevP.ok 7 n p = true) (h1 : 0 ≤ n) (h2 : n ≤ 64) (w : World) (htab : Lib.TabIs Tryd.prog w "internal/strconv.uint64pow10" .u64 Lib.pow10Tab) (hwd : Ls.StrsIs Tryd.prog w "loop.example/stilmach/impl.devWords" wds) : Calls Tryd.prog 25 #[.agg #[.int .i64 7, .int .i64 n, .int .i64 p]] w fun e w' => e = .returned (.string (⟨#[84]⟩ ++ itoaB n)) ∧ Below w.heap.size w w' := by
  have hc := fun w => devOk_i_any 7 n p w
  rw [hok] at hc
  have hn : ∀ w', Below w.heap.size w w' → Calls Tryd.prog 56 #[.int .i64 n] w' fun e w'' => e = .returned (.string (itoaB n)) ∧ Below w'.heap.size w' w'' := fun w' hb => itoa_any n (by omega) (by omega) w' (tab_kept htab hb)
  have hsu := itoaB_size (n := n) (by omega) (by omega)
  clear htab hwd
  generalize itoaB n = su at hn hsu ⊢
  have hsz : ¬ ((⟨#[84]⟩ : ByteArray).size + su.size > 9223372036854775807) := by
    have : (⟨#[84]⟩ : ByteArray).size = 1 := rfl
    omega
  have hle := fun w => devLetter_i_7 w
  clear hok h1 h2 hsu
  generalize (⟨#[84]⟩ : ByteArray) = lt at hle hsz ⊢
  go_enter Tryd.func25, Tryd.ntmps25
  go_wp2_with fail
  refine (hc _).mono ?_
  rintro e w1 ⟨rfl, hb1⟩
  have b1 := (Bx.Box.new w #[.int .i64 7, .int .i64 n, .int .i64 p] 40).kept hb1
  have hB1 : Below w.heap.size w w1 := Bx.bel_step ((Below.refl _ _).alloc (Nat.le_refl _) _) hb1 (by simp)
  have c0 : w1.cell? ⟨w.heap.size, 0, none⟩ = some (.int .i64 7) := b1.cell 0
  have c1 : w1.cell? ⟨w.heap.size, 1, none⟩ = some (.int .i64 n) := b1.cell 1
  have c2 : w1.cell? ⟨w.heap.size, 2, none⟩ = some (.int .i64 p) := b1.cell 2
  have hlt := b1.lt
  clear hb1 hc
  have hS : ∀ w', Below w1.heap.size w1 w' → w'.cell? ⟨w.heap.size, 0, none⟩ = some (.int .i64 7) ∧ w'.cell? ⟨w.heap.size, 1, none⟩ = some (.int .i64 n) ∧ Below w1.heap.size w1 w' := fun w' hb => ⟨(b1.kept hb).cell 0, (b1.kept hb).cell 1, hb⟩
  have hn1 : ∀ w', Below w1.heap.size w1 w' → Calls Tryd.prog 56 #[.int .i64 n] w' fun e w'' => e = .returned (.string su) ∧ Below w'.heap.size w' w'' := fun w' hb => hn w' (Bx.bel_step hB1 hb hB1.size)
  clear hn c2
  go_wp2
  go_region_held3 (fun w' => w'.cell? ⟨w.heap.size, 0, none⟩ = some (.int .i64 7) ∧ w'.cell? ⟨w.heap.size, 1, none⟩ = some (.int .i64 n) ∧ Below w1.heap.size w1 w')
    (first | assumption | exact hS _ (Below.refl _ _).drew | (obtain ⟨_, _, hq⟩ := (by assumption : _ ∧ _ ∧ Below w1.heap.size w1 _); exact hS _ (Bx.bel_step hq hbx hq.size)))
    (first | (go_at_call 58; refine (hle _).mono ?_; rintro e w' ⟨rfl, hbx⟩) | (go_at_call 56; refine (hn1 _ (by first | exact (Below.refl _ _).drew | exact (by assumption : _ ∧ _ ∧ Below w1.heap.size w1 _).2.2)).mono ?_; rintro e w' ⟨rfl, hbx⟩))
  all_goals
    obtain ⟨_, _, hq⟩ := (by assumption : _ ∧ _ ∧ Below w1.heap.size w1 _)
    have hB2 := Bx.bel_step hB1 hq hB1.size
    clear hq hS hn1 hle hB1 b1 c0 c1
    go_wp2
    go_ret
    exact ⟨rfl, hB2⟩
set_option maxRecDepth 100000 in
set_option maxHeartbeats 4000000 in
theorem devText_i_8 (n p : Int) (hok : DevP.ok 8 n p = true) (h1 : 0 ≤ n) (h2 : n ≤ 64) (w : World) (htab : Lib.TabIs Tryd.prog w "internal/strconv.uint64pow10" .u64 Lib.pow10Tab) (hwd : Ls.StrsIs Tryd.prog w "loop.example/stilmach/impl.devWords" wds) : Calls Tryd.prog 25 #[.agg #[.int .i64 8, .int .i64 n, .int .i64 p]] w fun e w' => e = .returned (.string (⟨#[67]⟩ ++ itoaB n)) ∧ Below w.heap.size w w' := by
  have hc := fun w => devOk_i_any 8 n p w
  rw [hok] at hc
  have hn : ∀ w', Below w.heap.size w w' → Calls Tryd.prog 56 #[.int .i64 n] w' fun e w'' => e = .returned (.string (itoaB n)) ∧ Below w'.heap.size w' w'' := fun w' hb => itoa_any n (by omega) (by omega) w' (tab_kept htab hb)
  have hsu := itoaB_size (n := n) (by omega) (by omega)
  clear htab hwd
  generalize itoaB n = su at hn hsu ⊢
  have hsz : ¬ ((⟨#[67]⟩ : ByteArray).size + su.size > 9223372036854775807) := by
    have : (⟨#[67]⟩ : ByteArray).size = 1 := rfl
    omega
  have hle := fun w => devLetter_i_8 w
  clear hok h1 h2 hsu
  generalize (⟨#[67]⟩ : ByteArray) = lt at hle hsz ⊢
  go_enter Tryd.func25, Tryd.ntmps25
  go_wp2_with fail
  refine (hc _).mono ?_
  rintro e w1 ⟨rfl, hb1⟩
  have b1 := (Bx.Box.new w #[.int .i64 8, .int .i64 n, .int .i64 p] 40).kept hb1
  have hB1 : Below w.heap.size w w1 := Bx.bel_step ((Below.refl _ _).alloc (Nat.le_refl _) _) hb1 (by simp)
  have c0 : w1.cell? ⟨w.heap.size, 0, none⟩ = some (.int .i64 8) := b1.cell 0
  have c1 : w1.cell? ⟨w.heap.size, 1, none⟩ = some (.int .i64 n) := b1.cell 1
  have c2 : w1.cell? ⟨w.heap.size, 2, none⟩ = some (.int .i64 p) := b1.cell 2
  have hlt := b1.lt
  clear hb1 hc
  have hS : ∀ w', Below w1.heap.size w1 w' → w'.cell? ⟨w.heap.size, 0, none⟩ = some (.int .i64 8) ∧ w'.cell? ⟨w.heap.size, 1, none⟩ = some (.int .i64 n) ∧ Below w1.heap.size w1 w' := fun w' hb => ⟨(b1.kept hb).cell 0, (b1.kept hb).cell 1, hb⟩
  have hn1 : ∀ w', Below w1.heap.size w1 w' → Calls Tryd.prog 56 #[.int .i64 n] w' fun e w'' => e = .returned (.string su) ∧ Below w'.heap.size w' w'' := fun w' hb => hn w' (Bx.bel_step hB1 hb hB1.size)
  clear hn c2
  go_wp2
  go_region_held3 (fun w' => w'.cell? ⟨w.heap.size, 0, none⟩ = some (.int .i64 8) ∧ w'.cell? ⟨w.heap.size, 1, none⟩ = some (.int .i64 n) ∧ Below w1.heap.size w1 w')
    (first | assumption | exact hS _ (Below.refl _ _).drew | (obtain ⟨_, _, hq⟩ := (by assumption : _ ∧ _ ∧ Below w1.heap.size w1 _); exact hS _ (Bx.bel_step hq hbx hq.size)))
    (first | (go_at_call 58; refine (hle _).mono ?_; rintro e w' ⟨rfl, hbx⟩) | (go_at_call 56; refine (hn1 _ (by first | exact (Below.refl _ _).drew | exact (by assumption : _ ∧ _ ∧ Below w1.heap.size w1 _).2.2)).mono ?_; rintro e w' ⟨rfl, hbx⟩))
  all_goals
    obtain ⟨_, _, hq⟩ := (by assumption : _ ∧ _ ∧ Below w1.heap.size w1 _)
    have hB2 := Bx.bel_step hB1 hq hB1.size
    clear hq hS hn1 hle hB1 b1 c0 c1
    go_wp2
    go_ret
    exact ⟨rfl, hB2⟩
set_option maxRecDepth 100000 in
set_option maxHeartbeats 4000000 in
theorem devText_i_9 (n p : Int) (hok : DevP.ok 9 n p = true) (h1 : 0 ≤ n) (h2 : n ≤ 64) (w : World) (htab : Lib.TabIs Tryd.prog w "internal/strconv.uint64pow10" .u64 Lib.pow10Tab) (hwd : Ls.StrsIs Tryd.prog w "loop.example/stilmach/impl.devWords" wds) : Calls Tryd.prog 25 #[.agg #[.int .i64 9, .int .i64 n, .int .i64 p]] w fun e w' => e = .returned (.string (⟨#[68]⟩ ++ itoaB n)) ∧ Below w.heap.size w w' := by
  have hc := fun w => devOk_i_any 9 n p w
  rw [hok] at hc
  have hn : ∀ w', Below w.heap.size w w' → Calls Tryd.prog 56 #[.int .i64 n] w' fun e w'' => e = .returned (.string (itoaB n)) ∧ Below w'.heap.size w' w'' := fun w' hb => itoa_any n (by omega) (by omega) w' (tab_kept htab hb)
  have hsu := itoaB_size (n := n) (by omega) (by omega)
  clear htab hwd
  generalize itoaB n = su at hn hsu ⊢
  have hsz : ¬ ((⟨#[68]⟩ : ByteArray).size + su.size > 9223372036854775807) := by
    have : (⟨#[68]⟩ : ByteArray).size = 1 := rfl
    omega
  have hle := fun w => devLetter_i_9 w
  clear hok h1 h2 hsu
  generalize (⟨#[68]⟩ : ByteArray) = lt at hle hsz ⊢
  go_enter Tryd.func25, Tryd.ntmps25
  go_wp2_with fail
  refine (hc _).mono ?_
  rintro e w1 ⟨rfl, hb1⟩
  have b1 := (Bx.Box.new w #[.int .i64 9, .int .i64 n, .int .i64 p] 40).kept hb1
  have hB1 : Below w.heap.size w w1 := Bx.bel_step ((Below.refl _ _).alloc (Nat.le_refl _) _) hb1 (by simp)
  have c0 : w1.cell? ⟨w.heap.size, 0, none⟩ = some (.int .i64 9) := b1.cell 0
  have c1 : w1.cell? ⟨w.heap.size, 1, none⟩ = some (.int .i64 n) := b1.cell 1
  have c2 : w1.cell? ⟨w.heap.size, 2, none⟩ = some (.int .i64 p) := b1.cell 2
  have hlt := b1.lt
  clear hb1 hc
  have hS : ∀ w', Below w1.heap.size w1 w' → w'.cell? ⟨w.heap.size, 0, none⟩ = some (.int .i64 9) ∧ w'.cell? ⟨w.heap.size, 1, none⟩ = some (.int .i64 n) ∧ Below w1.heap.size w1 w' := fun w' hb => ⟨(b1.kept hb).cell 0, (b1.kept hb).cell 1, hb⟩
  have hn1 : ∀ w', Below w1.heap.size w1 w' → Calls Tryd.prog 56 #[.int .i64 n] w' fun e w'' => e = .returned (.string su) ∧ Below w'.heap.size w' w'' := fun w' hb => hn w' (Bx.bel_step hB1 hb hB1.size)
  clear hn c2
  go_wp2
  go_region_held3 (fun w' => w'.cell? ⟨w.heap.size, 0, none⟩ = some (.int .i64 9) ∧ w'.cell? ⟨w.heap.size, 1, none⟩ = some (.int .i64 n) ∧ Below w1.heap.size w1 w')
    (first | assumption | exact hS _ (Below.refl _ _).drew | (obtain ⟨_, _, hq⟩ := (by assumption : _ ∧ _ ∧ Below w1.heap.size w1 _); exact hS _ (Bx.bel_step hq hbx hq.size)))
    (first | (go_at_call 58; refine (hle _).mono ?_; rintro e w' ⟨rfl, hbx⟩) | (go_at_call 56; refine (hn1 _ (by first | exact (Below.refl _ _).drew | exact (by assumption : _ ∧ _ ∧ Below w1.heap.size w1 _).2.2)).mono ?_; rintro e w' ⟨rfl, hbx⟩))
  all_goals
    obtain ⟨_, _, hq⟩ := (by assumption : _ ∧ _ ∧ Below w1.heap.size w1 _)
    have hB2 := Bx.bel_step hB1 hq hB1.size
    clear hq hS hn1 hle hB1 b1 c0 c1
    go_wp2
    go_ret
    exact ⟨rfl, hB2⟩
set_option maxRecDepth 100000 in
set_option maxHeartbeats 4000000 in
theorem devText_i_10 (n p : Int) (hok : DevP.ok 10 n p = true) (h1 : 0 ≤ n) (h2 : n ≤ 64) (w : World) (htab : Lib.TabIs Tryd.prog w "internal/strconv.uint64pow10" .u64 Lib.pow10Tab) (hwd : Ls.StrsIs Tryd.prog w "loop.example/stilmach/impl.devWords" wds) : Calls Tryd.prog 25 #[.agg #[.int .i64 10, .int .i64 n, .int .i64 p]] w fun e w' => e = .returned (.string (⟨#[82]⟩ ++ itoaB n)) ∧ Below w.heap.size w w' := by
  have hc := fun w => devOk_i_any 10 n p w
  rw [hok] at hc
  have hn : ∀ w', Below w.heap.size w w' → Calls Tryd.prog 56 #[.int .i64 n] w' fun e w'' => e = .returned (.string (itoaB n)) ∧ Below w'.heap.size w' w'' := fun w' hb => itoa_any n (by omega) (by omega) w' (tab_kept htab hb)
  have hsu := itoaB_size (n := n) (by omega) (by omega)
  clear htab hwd
  generalize itoaB n = su at hn hsu ⊢
  have hsz : ¬ ((⟨#[82]⟩ : ByteArray).size + su.size > 9223372036854775807) := by
    have : (⟨#[82]⟩ : ByteArray).size = 1 := rfl
    omega
  have hle := fun w => devLetter_i_10 w
  clear hok h1 h2 hsu
  generalize (⟨#[82]⟩ : ByteArray) = lt at hle hsz ⊢
  go_enter Tryd.func25, Tryd.ntmps25
  go_wp2_with fail
  refine (hc _).mono ?_
  rintro e w1 ⟨rfl, hb1⟩
  have b1 := (Bx.Box.new w #[.int .i64 10, .int .i64 n, .int .i64 p] 40).kept hb1
  have hB1 : Below w.heap.size w w1 := Bx.bel_step ((Below.refl _ _).alloc (Nat.le_refl _) _) hb1 (by simp)
  have c0 : w1.cell? ⟨w.heap.size, 0, none⟩ = some (.int .i64 10) := b1.cell 0
  have c1 : w1.cell? ⟨w.heap.size, 1, none⟩ = some (.int .i64 n) := b1.cell 1
  have c2 : w1.cell? ⟨w.heap.size, 2, none⟩ = some (.int .i64 p) := b1.cell 2
  have hlt := b1.lt
  clear hb1 hc
  have hS : ∀ w', Below w1.heap.size w1 w' → w'.cell? ⟨w.heap.size, 0, none⟩ = some (.int .i64 10) ∧ w'.cell? ⟨w.heap.size, 1, none⟩ = some (.int .i64 n) ∧ Below w1.heap.size w1 w' := fun w' hb => ⟨(b1.kept hb).cell 0, (b1.kept hb).cell 1, hb⟩
  have hn1 : ∀ w', Below w1.heap.size w1 w' → Calls Tryd.prog 56 #[.int .i64 n] w' fun e w'' => e = .returned (.string su) ∧ Below w'.heap.size w' w'' := fun w' hb => hn w' (Bx.bel_step hB1 hb hB1.size)
  clear hn c2
  go_wp2
  go_region_held3 (fun w' => w'.cell? ⟨w.heap.size, 0, none⟩ = some (.int .i64 10) ∧ w'.cell? ⟨w.heap.size, 1, none⟩ = some (.int .i64 n) ∧ Below w1.heap.size w1 w')
    (first | assumption | exact hS _ (Below.refl _ _).drew | (obtain ⟨_, _, hq⟩ := (by assumption : _ ∧ _ ∧ Below w1.heap.size w1 _); exact hS _ (Bx.bel_step hq hbx hq.size)))
    (first | (go_at_call 58; refine (hle _).mono ?_; rintro e w' ⟨rfl, hbx⟩) | (go_at_call 56; refine (hn1 _ (by first | exact (Below.refl _ _).drew | exact (by assumption : _ ∧ _ ∧ Below w1.heap.size w1 _).2.2)).mono ?_; rintro e w' ⟨rfl, hbx⟩))
  all_goals
    obtain ⟨_, _, hq⟩ := (by assumption : _ ∧ _ ∧ Below w1.heap.size w1 _)
    have hB2 := Bx.bel_step hB1 hq hB1.size
    clear hq hS hn1 hle hB1 b1 c0 c1
    go_wp2
    go_ret
    exact ⟨rfl, hB2⟩
theorem devText_i_any (k n p : Int) (w : World) (htab : Lib.TabIs Tryd.prog w "internal/strconv.uint64pow10" .u64 Lib.pow10Tab) (hwd : Ls.StrsIs Tryd.prog w "loop.example/stilmach/impl.devWords" wds) : Calls Tryd.prog 25 #[.agg #[.int .i64 k, .int .i64 n, .int .i64 p]] w fun e w' => e = .returned (.string (DevT.txt k n p)) ∧ Below w.heap.size w w' := by
  cases hok : DevP.ok k n p with
  | false => rw [DevT.txt_no hok]; exact devText_i_no k n p hok w htab hwd
  | true =>
    have hr := DevP.ok_range hok
    have hk : k = 1 ∨ k = 2 ∨ k = 3 ∨ k = 4 ∨ k = 5 ∨ k = 6 ∨ k = 7 ∨ k = 8 ∨ k = 9 ∨ k = 10 ∨ k = 11 ∨ k = 12 ∨ k = 13 := by omega
    rcases hk with rfl | rfl | rfl | rfl | rfl | rfl | rfl | rfl | rfl | rfl | rfl | rfl | rfl
    · have hd := hok
      rw [DevP.ok_dev (by omega), show DevP.size 1 = 32 from rfl, decide_eq_true_iff] at hd
      rw [DevT.txt_dev (by omega) hok]
      exact devText_i_1 n p hok (by omega) (by omega) w htab hwd
    · have hd := hok
      rw [DevP.ok_dev (by omega), show DevP.size 2 = 32 from rfl, decide_eq_true_iff] at hd
      rw [DevT.txt_dev (by omega) hok]
      exact devText_i_2 n p hok (by omega) (by omega) w htab hwd
    · have hd := hok
      rw [DevP.ok_dev (by omega), show DevP.size 3 = 64 from rfl, decide_eq_true_iff] at hd
      rw [DevT.txt_dev (by omega) hok]
      exact devText_i_3 n p hok (by omega) (by omega) w htab hwd
    · have hd := hok
      rw [DevP.ok_dev (by omega), show DevP.size 4 = 16 from rfl, decide_eq_true_iff] at hd
      rw [DevT.txt_dev (by omega) hok]
      exact devText_i_4 n p hok (by omega) (by omega) w htab hwd
    · have hd := hok
      rw [DevP.ok_dev (by omega), show DevP.size 5 = 32 from rfl, decide_eq_true_iff] at hd
      rw [DevT.txt_dev (by omega) hok]
      exact devText_i_5 n p hok (by omega) (by omega) w htab hwd
    · have hd := hok
      rw [DevP.ok_dev (by omega), show DevP.size 6 = 5 from rfl, decide_eq_true_iff] at hd
      rw [DevT.txt_dev (by omega) hok]
      exact devText_i_6 n p hok (by omega) (by omega) w htab hwd
    · have hd := hok
      rw [DevP.ok_dev (by omega), show DevP.size 7 = 16 from rfl, decide_eq_true_iff] at hd
      rw [DevT.txt_dev (by omega) hok]
      exact devText_i_7 n p hok (by omega) (by omega) w htab hwd
    · have hd := hok
      rw [DevP.ok_dev (by omega), show DevP.size 8 = 16 from rfl, decide_eq_true_iff] at hd
      rw [DevT.txt_dev (by omega) hok]
      exact devText_i_8 n p hok (by omega) (by omega) w htab hwd
    · have hd := hok
      rw [DevP.ok_dev (by omega), show DevP.size 9 = 32 from rfl, decide_eq_true_iff] at hd
      rw [DevT.txt_dev (by omega) hok]
      exact devText_i_9 n p hok (by omega) (by omega) w htab hwd
    · have hd := hok
      rw [DevP.ok_dev (by omega), show DevP.size 10 = 16 from rfl, decide_eq_true_iff] at hd
      rw [DevT.txt_dev (by omega) hok]
      exact devText_i_10 n p hok (by omega) (by omega) w htab hwd
    · have hd := hok
      rw [DevP.ok_int, decide_eq_true_iff] at hd
      rw [DevT.txt_11 hok]
      exact devText_i_11 n p hok (by omega) (by omega) w htab hwd
    · have hd := hok
      rw [DevP.ok_dec, decide_eq_true_iff] at hd
      rw [DevT.txt_12 hok]
      obtain ⟨q, rfl⟩ := Int.eq_ofNat_of_zero_le (show 0 ≤ p by omega)
      exact devText_i_12 n q hok (by omega) (by omega) (by omega) w htab hwd
    · have hd := hok
      rw [DevP.ok_word, decide_eq_true_iff] at hd
      rw [DevT.txt_13 hok]
      have hn : n = 0 ∨ n = 1 ∨ n = 2 ∨ n = 3 := by omega
      rcases hn with rfl | rfl | rfl | rfl
      · exact devText_i_13_0 p hok w htab hwd
      · exact devText_i_13_1 p hok w htab hwd
      · exact devText_i_13_2 p hok w htab hwd
      · exact devText_i_13_3 p hok w htab hwd
end Go.Proofs.YtmlpobecilbknaaDoor
