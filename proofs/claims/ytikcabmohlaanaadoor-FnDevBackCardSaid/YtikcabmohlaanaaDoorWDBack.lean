/- The walk of FnDevBack. -/
import Derived.Test.YtikcabmohlaanaaDoorRows
import Derived.Test.YtikcabmohlaanaaDoorWDBk
import Derived.WalkKit
import Derived.WalkSpells
import Derived.WalkLawsBesides
import Derived.OpenShut
import Derived.OwnWalk
import Derived.IntWalk
import Derived.Lib.Hide
namespace Go.Proofs.YtikcabmohlaanaaDoor
open Go.RowKit Bx Rdr
set_option linter.unusedVariables false

theorem ne_ll {t : ByteArray} (h : t ≠ ⟨#[]⟩) : ¬ t.toList = [] ∧ t.toList.isEmpty = false := by
  have h1 : 0 < t.size := by
    rcases Nat.eq_zero_or_pos t.size with h0 | h0
    · exfalso; apply h
      cases t with | mk d => have : d = #[] := Array.size_eq_zero_iff.1 h0; rw [this]
    · exact h0
  exact ne_fact h1
set_option maxRecDepth 100000 in
set_option maxHeartbeats 4000000 in
theorem FnDevBack_some (AA AB : Option Addr) (n c n' c' : Nat) (w : World) (h : IsCode w AA n c) (h' : IsCode w AB n' c') (hn : n ≤ 1048576) (hn' : n' ≤ 1048576) (henv : REnv w) : Calls Tryd.prog 3 #[.slice AA n c, .slice AB n' c'] w fun e w' => e = .returned (.bool true) ∧ Below w.heap.size w w' := by
  have hd : decide ((1048576 : Int) < (n : Int)) = false := by simp; omega
  have hd' : decide ((1048576 : Int) < (n' : Int)) = false := by simp; omega
  have H' := Lib.hid h'
  have HE := Lib.hid henv
  clear h' henv
  go_enter Tryd.func3, Tryd.ntmps3
  go_wp2_with fail
  refine (DrawDevText_any AA n c w h).mono ?_
  rintro e w1 ⟨a, b, d, rfl, hb1⟩
  have s1 := Box.new w1 #[.int .i64 a, .int .i64 b, .int .i64 d] 24
  have B1 : Below w.heap.size w (w1.alloc (.cells #[.int .i64 a, .int .i64 b, .int .i64 d] 24)) := hb1.alloc hb1.size _
  have l1 := hb1.size
  clear hb1 h
  have hti := fun w' (hb : Below w.heap.size w w') => devText_i_any a b d w' (HE.out.kept hb).tab (HE.out.kept hb).wd
  have hts := fun w' (hb : Below w.heap.size w w') => devText_s_any a b d w' (HE.out.kept hb).tab (HE.out.kept hb).wd
  have hio := fun w' => devOk_i_any a b d w'
  have hrd := fun w' (hb : Below w.heap.size w w') => devRead_i_any (DevT.txt a b d) (Nat.le_trans (DevB.txt_size a b d) (by decide)) w' (HE.out.kept hb)
  cases hok : DevP.ok a b d with
  | true =>
    rw [hok] at hio
    rw [DevB.back hok] at hrd
    obtain ⟨hx1, hx2⟩ := ne_ll (DevB.txt_ne hok)
    have hrd : ∀ w', Below w.heap.size w w' → Calls Tryd.prog 10 #[.string (DevT.txt a b d)] w' fun e w'' => e = .returned (.tuple #[.agg #[.int .i64 a, .int .i64 b, .int .i64 d], .bool true]) ∧ Below w'.heap.size w' w'' := hrd
    generalize DevT.txt a b d = X at hti hts hrd hx1 hx2
    clear hok
    go_wp2_with fail
    refine (hti _ B1).mono ?_
    rintro e w2 ⟨rfl, hb2⟩
    have s2 := s1.kept hb2
    have B2 := bel_step B1 hb2 B1.size
    clear hb2 s1 B1 hti
    have c0 : w2.cell? ⟨w1.heap.size, 0, none⟩ = some (.int .i64 a) := s2.cell 0
    have c1 : w2.cell? ⟨w1.heap.size, 1, none⟩ = some (.int .i64 b) := s2.cell 1
    have c2 : w2.cell? ⟨w1.heap.size, 2, none⟩ = some (.int .i64 d) := s2.cell 2
    go_wp2_with fail
    refine (hts _ B2).mono ?_
    rintro e w3 ⟨rfl, hb3⟩
    have s3 := s2.kept hb3
    have B3 := bel_step B2 hb3 B2.size
    clear hb3 s2 B2 hts c0 c1 c2
    have c0 : w3.cell? ⟨w1.heap.size, 0, none⟩ = some (.int .i64 a) := s3.cell 0
    have c1 : w3.cell? ⟨w1.heap.size, 1, none⟩ = some (.int .i64 b) := s3.cell 1
    have c2 : w3.cell? ⟨w1.heap.size, 2, none⟩ = some (.int .i64 d) := s3.cell 2
    go_wp2_with fail
    refine (hio _).mono ?_
    rintro e w4 ⟨rfl, hb4⟩
    have s4 := s3.kept hb4
    have B4 := bel_step B3 hb4 B3.size
    clear hb4 s3 B3 hio c0 c1 c2
    have c0 : w4.cell? ⟨w1.heap.size, 0, none⟩ = some (.int .i64 a) := s4.cell 0
    have c1 : w4.cell? ⟨w1.heap.size, 1, none⟩ = some (.int .i64 b) := s4.cell 1
    have c2 : w4.cell? ⟨w1.heap.size, 2, none⟩ = some (.int .i64 d) := s4.cell 2
    go_wp2_with fail
    refine (hrd _ B4).mono ?_
    rintro e w5 ⟨rfl, hb5⟩
    have s5 := s4.kept hb5
    have l5 := s5.lt
    have B5 := (bel_step B4 hb5 B4.size).alloc (bel_step B4 hb5 B4.size).size (.cells #[.int .i64 a, .int .i64 b, .int .i64 d] 24)
    clear c0 c1 c2
    have c0 : w5.cell? ⟨w1.heap.size, 0, none⟩ = some (.int .i64 a) := s5.cell 0
    have c1 : w5.cell? ⟨w1.heap.size, 1, none⟩ = some (.int .i64 b) := s5.cell 1
    have c2 : w5.cell? ⟨w1.heap.size, 2, none⟩ = some (.int .i64 d) := s5.cell 2
    have H5 := Lib.hid (And.intro (H'.out.below (B5.mono (Nat.le_refl _))) (HE.out.kept B5))
    clear hb5 s4 B4 hrd s5
    go_wp2_with fail
    refine (DrawDevRead_any AB n' c' _ H5.out.1 H5.out.2).mono ?_
    rintro e w6 ⟨t, rfl, htz, hb6⟩
    have B6 := bel_step B5 hb6 B5.size
    clear hb6 B5 H5 c0 c1 c2
    obtain ⟨R, hR⟩ : ∃ R, DevB.readBy DevB.gi t = R := ⟨_, rfl⟩
    have hri := fun w' (hb : Below w.heap.size w w') => devRead_i_any t (by omega) w' (HE.out.kept hb)
    have hrs := fun w' (hb : Below w.heap.size w w') => devRead_s_any t (by omega) w' (HE.out.kept hb).tab (HE.out.kept hb).wd
    rw [hR] at hri hrs
    cases R with
    | some x =>
      obtain ⟨p, q, s⟩ := x
      have hx := DevB.read_ok hR
      simp only at hx
      have hx1 := hx.1
      have hx2 := hx.2.1
      have hri : ∀ w', Below w.heap.size w w' → Calls Tryd.prog 10 #[.string t] w' fun e w'' => e = .returned (.tuple #[.agg #[.int .i64 p, .int .i64 q, .int .i64 s], .bool true]) ∧ Below w'.heap.size w' w'' := hri
      have hrs : ∀ w', Below w.heap.size w w' → Calls Tryd.prog 12 #[.string t] w' fun e w'' => e = .returned (.tuple #[.agg #[.int .i64 p, .int .i64 q, .int .i64 s], .bool true]) ∧ Below w'.heap.size w' w'' := hrs
      clear hR hx
      go_wp2_with fail
      refine (hri _ B6).mono ?_
      rintro e w7 ⟨rfl, hb7⟩
      have s7 := Box.new w7 #[.int .i64 p, .int .i64 q, .int .i64 s] 24
      have B7 := (bel_step B6 hb7 B6.size).alloc (bel_step B6 hb7 B6.size).size (.cells #[.int .i64 p, .int .i64 q, .int .i64 s] 24)
      clear hb7 B6 hri
      go_wp2_with fail
      refine (hrs _ B7).mono ?_
      rintro e w8 ⟨rfl, hb8⟩
      have s8 := s7.kept hb8
      have B8 := (bel_step B7 hb8 B7.size).alloc (bel_step B7 hb8 B7.size).size (.cells #[.int .i64 p, .int .i64 q, .int .i64 s] 24)
      have l8 := s8.lt
      have c0 : w8.cell? ⟨w7.heap.size, 0, none⟩ = some (.int .i64 p) := s8.cell 0
      have c1 : w8.cell? ⟨w7.heap.size, 1, none⟩ = some (.int .i64 q) := s8.cell 1
      have c2 : w8.cell? ⟨w7.heap.size, 2, none⟩ = some (.int .i64 s) := s8.cell 2
      clear hb8 s7 B7 hrs
      have hbo := fun w => devOk_i_any p q s w
      have hbt := fun w' (hb : Below w.heap.size w w') => devText_i_any p q s w' (HE.out.kept hb).tab (HE.out.kept hb).wd
      rw [hx1] at hbo
      rw [hx2] at hbt
      clear hx1 hx2
      go_wp2_with fail
      refine (hbo _).mono ?_
      rintro e w9 ⟨rfl, hb9⟩
      have s9 := (s8.alloc (.cells #[.int .i64 p, .int .i64 q, .int .i64 s] 24)).kept hb9
      have B9 := bel_step B8 hb9 B8.size
      clear c0 c1 c2
      have c0 : w9.cell? ⟨w7.heap.size, 0, none⟩ = some (.int .i64 p) := s9.cell 0
      have c1 : w9.cell? ⟨w7.heap.size, 1, none⟩ = some (.int .i64 q) := s9.cell 1
      have c2 : w9.cell? ⟨w7.heap.size, 2, none⟩ = some (.int .i64 s) := s9.cell 2
      clear hb9 s8 s9 B8 hbo
      go_wp2_with fail
      refine (hbt _ B9).mono ?_
      rintro e w10 ⟨rfl, hb10⟩
      have B10 := bel_step B9 hb10 B9.size
      clear hb10 B9 hbt c0 c1 c2
      go_wp2
      go_ret
      exact ⟨rfl, B10⟩
    | none =>
      have hri : ∀ w', Below w.heap.size w w' → Calls Tryd.prog 10 #[.string t] w' fun e w'' => e = .returned (.tuple #[.agg #[.int .i64 0, .int .i64 0, .int .i64 0], .bool false]) ∧ Below w'.heap.size w' w'' := hri
      have hrs : ∀ w', Below w.heap.size w w' → Calls Tryd.prog 12 #[.string t] w' fun e w'' => e = .returned (.tuple #[.agg #[.int .i64 0, .int .i64 0, .int .i64 0], .bool false]) ∧ Below w'.heap.size w' w'' := hrs
      clear hR
      go_wp2_with fail
      refine (hri _ B6).mono ?_
      rintro e w7 ⟨rfl, hb7⟩
      have s7 := Box.new w7 #[.int .i64 0, .int .i64 0, .int .i64 0] 24
      have B7 := (bel_step B6 hb7 B6.size).alloc (bel_step B6 hb7 B6.size).size (.cells #[.int .i64 0, .int .i64 0, .int .i64 0] 24)
      clear hb7 B6 hri
      go_wp2_with fail
      refine (hrs _ B7).mono ?_
      rintro e w8 ⟨rfl, hb8⟩
      have s8 := s7.kept hb8
      have B8 := (bel_step B7 hb8 B7.size).alloc (bel_step B7 hb8 B7.size).size (.cells #[.int .i64 0, .int .i64 0, .int .i64 0] 24)
      have l8 := s8.lt
      have c0 : w8.cell? ⟨w7.heap.size, 0, none⟩ = some (.int .i64 0) := s8.cell 0
      have c1 : w8.cell? ⟨w7.heap.size, 1, none⟩ = some (.int .i64 0) := s8.cell 1
      have c2 : w8.cell? ⟨w7.heap.size, 2, none⟩ = some (.int .i64 0) := s8.cell 2
      clear hb8 s7 B7 hrs
      clear s8
      go_wp2
      go_ret
      exact ⟨rfl, B8⟩
  | false =>
    rw [hok] at hio
    rw [DevB.back_no hok, DevT.txt_no hok] at hrd
    rw [DevT.txt_no hok] at hti hts
    have hrd : ∀ w', Below w.heap.size w w' → Calls Tryd.prog 10 #[.string ⟨#[]⟩] w' fun e w'' => e = .returned (.tuple #[.agg #[.int .i64 0, .int .i64 0, .int .i64 0], .bool false]) ∧ Below w'.heap.size w' w'' := hrd
    clear hok
    go_wp2_with fail
    refine (hti _ B1).mono ?_
    rintro e w2 ⟨rfl, hb2⟩
    have s2 := s1.kept hb2
    have B2 := bel_step B1 hb2 B1.size
    clear hb2 s1 B1 hti
    have c0 : w2.cell? ⟨w1.heap.size, 0, none⟩ = some (.int .i64 a) := s2.cell 0
    have c1 : w2.cell? ⟨w1.heap.size, 1, none⟩ = some (.int .i64 b) := s2.cell 1
    have c2 : w2.cell? ⟨w1.heap.size, 2, none⟩ = some (.int .i64 d) := s2.cell 2
    go_wp2_with fail
    refine (hts _ B2).mono ?_
    rintro e w3 ⟨rfl, hb3⟩
    have s3 := s2.kept hb3
    have B3 := bel_step B2 hb3 B2.size
    clear hb3 s2 B2 hts c0 c1 c2
    have c0 : w3.cell? ⟨w1.heap.size, 0, none⟩ = some (.int .i64 a) := s3.cell 0
    have c1 : w3.cell? ⟨w1.heap.size, 1, none⟩ = some (.int .i64 b) := s3.cell 1
    have c2 : w3.cell? ⟨w1.heap.size, 2, none⟩ = some (.int .i64 d) := s3.cell 2
    go_wp2_with fail
    refine (hio _).mono ?_
    rintro e w4 ⟨rfl, hb4⟩
    have s4 := s3.kept hb4
    have B4 := bel_step B3 hb4 B3.size
    clear hb4 s3 B3 hio c0 c1 c2
    have c0 : w4.cell? ⟨w1.heap.size, 0, none⟩ = some (.int .i64 a) := s4.cell 0
    have c1 : w4.cell? ⟨w1.heap.size, 1, none⟩ = some (.int .i64 b) := s4.cell 1
    have c2 : w4.cell? ⟨w1.heap.size, 2, none⟩ = some (.int .i64 d) := s4.cell 2
    go_wp2_with fail
    refine (hrd _ B4).mono ?_
    rintro e w5 ⟨rfl, hb5⟩
    have s5 := s4.kept hb5
    have l5 := s5.lt
    have B5 := (bel_step B4 hb5 B4.size).alloc (bel_step B4 hb5 B4.size).size (.cells #[.int .i64 0, .int .i64 0, .int .i64 0] 24)
    clear c0 c1 c2
    have c0 : w5.cell? ⟨w1.heap.size, 0, none⟩ = some (.int .i64 a) := s5.cell 0
    have c1 : w5.cell? ⟨w1.heap.size, 1, none⟩ = some (.int .i64 b) := s5.cell 1
    have c2 : w5.cell? ⟨w1.heap.size, 2, none⟩ = some (.int .i64 d) := s5.cell 2
    have H5 := Lib.hid (And.intro (H'.out.below (B5.mono (Nat.le_refl _))) (HE.out.kept B5))
    clear hb5 s4 B4 hrd s5
    go_wp2_with fail
    refine (DrawDevRead_any AB n' c' _ H5.out.1 H5.out.2).mono ?_
    rintro e w6 ⟨t, rfl, htz, hb6⟩
    have B6 := bel_step B5 hb6 B5.size
    clear hb6 B5 H5 c0 c1 c2
    obtain ⟨R, hR⟩ : ∃ R, DevB.readBy DevB.gi t = R := ⟨_, rfl⟩
    have hri := fun w' (hb : Below w.heap.size w w') => devRead_i_any t (by omega) w' (HE.out.kept hb)
    have hrs := fun w' (hb : Below w.heap.size w w') => devRead_s_any t (by omega) w' (HE.out.kept hb).tab (HE.out.kept hb).wd
    rw [hR] at hri hrs
    cases R with
    | some x =>
      obtain ⟨p, q, s⟩ := x
      have hx := DevB.read_ok hR
      simp only at hx
      have hx1 := hx.1
      have hx2 := hx.2.1
      have hri : ∀ w', Below w.heap.size w w' → Calls Tryd.prog 10 #[.string t] w' fun e w'' => e = .returned (.tuple #[.agg #[.int .i64 p, .int .i64 q, .int .i64 s], .bool true]) ∧ Below w'.heap.size w' w'' := hri
      have hrs : ∀ w', Below w.heap.size w w' → Calls Tryd.prog 12 #[.string t] w' fun e w'' => e = .returned (.tuple #[.agg #[.int .i64 p, .int .i64 q, .int .i64 s], .bool true]) ∧ Below w'.heap.size w' w'' := hrs
      clear hR hx
      go_wp2_with fail
      refine (hri _ B6).mono ?_
      rintro e w7 ⟨rfl, hb7⟩
      have s7 := Box.new w7 #[.int .i64 p, .int .i64 q, .int .i64 s] 24
      have B7 := (bel_step B6 hb7 B6.size).alloc (bel_step B6 hb7 B6.size).size (.cells #[.int .i64 p, .int .i64 q, .int .i64 s] 24)
      clear hb7 B6 hri
      go_wp2_with fail
      refine (hrs _ B7).mono ?_
      rintro e w8 ⟨rfl, hb8⟩
      have s8 := s7.kept hb8
      have B8 := (bel_step B7 hb8 B7.size).alloc (bel_step B7 hb8 B7.size).size (.cells #[.int .i64 p, .int .i64 q, .int .i64 s] 24)
      have l8 := s8.lt
      have c0 : w8.cell? ⟨w7.heap.size, 0, none⟩ = some (.int .i64 p) := s8.cell 0
      have c1 : w8.cell? ⟨w7.heap.size, 1, none⟩ = some (.int .i64 q) := s8.cell 1
      have c2 : w8.cell? ⟨w7.heap.size, 2, none⟩ = some (.int .i64 s) := s8.cell 2
      clear hb8 s7 B7 hrs
      have hbo := fun w => devOk_i_any p q s w
      have hbt := fun w' (hb : Below w.heap.size w w') => devText_i_any p q s w' (HE.out.kept hb).tab (HE.out.kept hb).wd
      rw [hx1] at hbo
      rw [hx2] at hbt
      clear hx1 hx2
      go_wp2_with fail
      refine (hbo _).mono ?_
      rintro e w9 ⟨rfl, hb9⟩
      have s9 := (s8.alloc (.cells #[.int .i64 p, .int .i64 q, .int .i64 s] 24)).kept hb9
      have B9 := bel_step B8 hb9 B8.size
      clear c0 c1 c2
      have c0 : w9.cell? ⟨w7.heap.size, 0, none⟩ = some (.int .i64 p) := s9.cell 0
      have c1 : w9.cell? ⟨w7.heap.size, 1, none⟩ = some (.int .i64 q) := s9.cell 1
      have c2 : w9.cell? ⟨w7.heap.size, 2, none⟩ = some (.int .i64 s) := s9.cell 2
      clear hb9 s8 s9 B8 hbo
      go_wp2_with fail
      refine (hbt _ B9).mono ?_
      rintro e w10 ⟨rfl, hb10⟩
      have B10 := bel_step B9 hb10 B9.size
      clear hb10 B9 hbt c0 c1 c2
      go_wp2
      go_ret
      exact ⟨rfl, B10⟩
    | none =>
      have hri : ∀ w', Below w.heap.size w w' → Calls Tryd.prog 10 #[.string t] w' fun e w'' => e = .returned (.tuple #[.agg #[.int .i64 0, .int .i64 0, .int .i64 0], .bool false]) ∧ Below w'.heap.size w' w'' := hri
      have hrs : ∀ w', Below w.heap.size w w' → Calls Tryd.prog 12 #[.string t] w' fun e w'' => e = .returned (.tuple #[.agg #[.int .i64 0, .int .i64 0, .int .i64 0], .bool false]) ∧ Below w'.heap.size w' w'' := hrs
      clear hR
      go_wp2_with fail
      refine (hri _ B6).mono ?_
      rintro e w7 ⟨rfl, hb7⟩
      have s7 := Box.new w7 #[.int .i64 0, .int .i64 0, .int .i64 0] 24
      have B7 := (bel_step B6 hb7 B6.size).alloc (bel_step B6 hb7 B6.size).size (.cells #[.int .i64 0, .int .i64 0, .int .i64 0] 24)
      clear hb7 B6 hri
      go_wp2_with fail
      refine (hrs _ B7).mono ?_
      rintro e w8 ⟨rfl, hb8⟩
      have s8 := s7.kept hb8
      have B8 := (bel_step B7 hb8 B7.size).alloc (bel_step B7 hb8 B7.size).size (.cells #[.int .i64 0, .int .i64 0, .int .i64 0] 24)
      have l8 := s8.lt
      have c0 : w8.cell? ⟨w7.heap.size, 0, none⟩ = some (.int .i64 0) := s8.cell 0
      have c1 : w8.cell? ⟨w7.heap.size, 1, none⟩ = some (.int .i64 0) := s8.cell 1
      have c2 : w8.cell? ⟨w7.heap.size, 2, none⟩ = some (.int .i64 0) := s8.cell 2
      clear hb8 s7 B7 hrs
      clear s8
      go_wp2
      go_ret
      exact ⟨rfl, B8⟩
theorem FnDevBack_great1 (AA AB : Option Addr) (n c n' c' : Nat) (hn : 1048576 < n) (w : World) : Calls Tryd.prog 3 #[.slice AA n c, .slice AB n' c'] w fun e w' => e = .returned (.bool true) ∧ Below w.heap.size w w' := by
  have hd : decide ((1048576 : Int) < (n : Int)) = true := by simp; omega
  go_enter Tryd.func3, Tryd.ntmps3
  go_wp2
  go_ret
  exact ⟨rfl, Below.refl _ _⟩
theorem FnDevBack_great2 (AA AB : Option Addr) (n c n' c' : Nat) (hn0 : n ≤ 1048576) (hn : 1048576 < n') (w : World) : Calls Tryd.prog 3 #[.slice AA n c, .slice AB n' c'] w fun e w' => e = .returned (.bool true) ∧ Below w.heap.size w w' := by
  have hd : decide ((1048576 : Int) < (n : Int)) = false := by simp; omega
  have hd' : decide ((1048576 : Int) < (n' : Int)) = true := by simp; omega
  go_enter Tryd.func3, Tryd.ntmps3
  go_wp2
  go_ret
  exact ⟨rfl, Below.refl _ _⟩
end Go.Proofs.YtikcabmohlaanaaDoor
