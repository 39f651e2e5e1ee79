/- The walk of FnRealBack. -/
import Derived.Test.YtobbkebjgjeglaaDoorRows
import Derived.Test.YtobbkebjgjeglaaDoorWRBk
import Derived.WalkKit
import Derived.WalkSpells
import Derived.WalkLawsBesides
import Derived.OpenShut
import Derived.OwnWalk
import Derived.IntWalk
import Derived.Lib.Hide
import Derived.Deep.QuietTactic
import Derived.BigQuiet
import Derived.Laws.FloatArith
namespace Go.Proofs.YtobbkebjgjeglaaDoor
open Go.RowKit Bx Rdr ItoP RealP Fl RealR RealG
set_option linter.unusedVariables false

theorem IsCode.below {w w' : World} {a : Option Addr} {n c : Nat} (h : IsCode w a n c) (hb : Below w.heap.size w w') : IsCode w' a n c := by
  rcases h with h | ⟨b, off, rfl, hc, hbl, hcell⟩
  · exact .inl h
  · refine .inr ⟨b, off, rfl, hc, Nat.lt_of_lt_of_le hbl hb.size, fun i hi => ?_⟩
    obtain ⟨u, hu, h1⟩ := hcell i hi
    exact ⟨u, hu, (hb.cell (p := ⟨b, off + i, none⟩) hbl).trans h1⟩
set_option maxRecDepth 100000 in
set_option maxHeartbeats 1000000 in
theorem FnRealBack_some (AA AB : Option Addr) (n c n' c' : Nat) (w : World) (h : IsCode w AA n c) (h' : IsCode w AB n' c') (hn : n ≤ 1048576) (hn' : n' ≤ 1048576) (henv : REnv w) : Calls Tryd.prog 4 #[.slice AA n c, .slice AB n' c'] w fun e w' => e = .returned (.bool true) ∧ Below w.heap.size w w' := by
  have hd : decide ((1048576 : Int) < (n : Int)) = false := by simp; omega
  have hd' : decide ((1048576 : Int) < (n' : Int)) = false := by simp; omega
  have H' := Lib.hid h'
  have HE := Lib.hid henv
  clear h' henv
  go_enter Tryd.func4, Tryd.ntmps4
  go_wp2_with fail
  refine (DrawRealText_any AA n c w h).mono ?_
  rintro e w1 ⟨x, rfl, hx, B1⟩
  clear h
  have H1 := Lib.hid (IsCode.below H'.out (B1.mono (Nat.le_refl _)))
  go_wp2_with fail
  refine (DrawRealText_any AB n' c' _ H1.out).mono ?_
  rintro e w2 ⟨y, rfl, hy, hb2⟩
  have B2 := bel_step B1 hb2 B1.size
  clear hb2 B1 H1
  have htx := fun w' (hb : Below w.heap.size w w') => realText_i_any x hx w' (HE.out.kept hb).tab
  have hty := fun w' (hb : Below w.heap.size w w') => realText_i_any y hy w' (HE.out.kept hb).tab
  have hrd := fun w' (hb : Below w.heap.size w w') => realRead_i_any (txt x) (Nat.le_trans (txt_le hx) (by decide)) w' (HE.out.kept hb)
  have HX := Lib.hid hx
  have HY := Lib.hid hy
  have HXY : Hid ((txt x).toList = (txt y).toList ↔ ((isNaN x ∧ isNaN y) ∨ x = y)) := Lib.hid (by
    rw [ByteArray.toList_eq, ByteArray.toList_eq]
    constructor
    · intro h; exact txt_inj hx hy (ItoP.ext h)
    · rintro (⟨h1, h2⟩ | rfl)
      · rw [txt_nan h1, txt_nan h2]
      · rfl)
  have HT : Hid (∀ b ok, Reads (txt x) b ok → ok = true ∧ b < 18446744073709551616 ∧ ((isNaN b ∧ isNaN x) ∨ b = x)) := Lib.hid (fun b ok h => by
    have k : Reads (txt x) x true := ⟨hx, .inl ⟨rfl, rfl⟩⟩
    obtain ⟨h1, h2⟩ := h.same k
    exact ⟨h1, h.1, h2⟩)
  clear hx hy
  generalize txt x = X at htx hrd HXY HT
  generalize txt y = Y at hty HXY
  go_wp2_with fail
  refine (htx _ B2).mono ?_
  rintro e w3 ⟨rfl, hb3⟩
  have B3 := bel_step B2 hb3 B2.size
  clear hb3 B2 htx
  go_wp2_with fail
  refine (hrd _ B3).mono ?_
  rintro e w4 ⟨back, ok, rfl, hr4, hb4⟩
  have B4 := bel_step B3 hb4 B3.size
  obtain ⟨rfl, hbk, hsm⟩ := HT.out _ _ hr4
  have hf := wrSame_of hbk hsm
  clear hb4 B3 hrd hr4 hbk hsm HT
  go_wp2_with fail
  refine (hf _).mono ?_
  rintro e w' ⟨rfl, rfl⟩
  clear hf
  go_wp2_with fail
  refine (hty _ B4).mono ?_
  rintro e w5 ⟨rfl, hb5⟩
  have B5 := bel_step B4 hb5 B4.size
  clear hty hb5 B4
  by_cases hq : X.toList = Y.toList
  · have hg := wrSame_of HX.out (HXY.out.1 hq)
    have q1 : (X.toList == Y.toList) = true := beq_iff_eq.2 hq
    clear hq HXY HX HY
    go_wp2_with fail
    refine (hg _).mono ?_
    rintro e w' ⟨rfl, rfl⟩
    clear hg
    have H4 := Lib.hid (And.intro (IsCode.below H'.out (B5.mono (Nat.le_refl _))) (HE.out.kept B5))
    go_wp2_with fail
    refine (DrawRealRead_any AB n' c' _ H4.out.1).mono ?_
    rintro e w6 ⟨t, rfl, htz, hb6⟩
    have B6 := bel_step B5 hb6 B5.size
    clear hb6 B5 H4
    have hri := fun w' (hb : Below w.heap.size w w') => realRead_i_any t (by omega) w' (HE.out.kept hb)
    have hrs := fun w' => realRead_s_any t (by omega) w'
    go_wp2_with fail
    refine (hri _ B6).mono ?_
    rintro e w7 ⟨z, fine, rfl, hr7, hb7⟩
    have B7 := bel_step B6 hb7 B6.size
    clear hb7 B6 hri
    have HR7 := Lib.hid hr7
    clear hr7
    go_wp2_with fail
    refine (hrs _).mono ?_
    rintro e w8 ⟨want, told, rfl, hr8, hb8⟩
    have B8 := bel_step B7 hb8 B7.size
    clear hb8 B7 hrs
    obtain ⟨rfl, hsm⟩ := HR7.out.same hr8
    have hf := wrSame_of HR7.out.1 hsm
    clear hr8 hsm
    cases fine with
    | false =>
      clear HR7
      go_wp2_with fail
      refine (hf _).mono ?_
      rintro e w9 ⟨rfl, rfl⟩
      clear hf
      go_wp2
      go_ret
      exact ⟨rfl, B8⟩
    | true =>
      have htx : txt z = t := by
        rcases HR7.out.2 with ⟨_, h⟩ | ⟨h, _⟩
        · exact h
        · cases h
      have hti := fun w' (hb : Below w.heap.size w w') => realText_i_any z HR7.out.1 w' (HE.out.kept hb).tab
      rw [htx] at hti
      clear HR7 htx
      go_wp2_with fail
      refine (hf _).mono ?_
      rintro e w9 ⟨rfl, rfl⟩
      clear hf
      go_wp2_with fail
      refine (hti _ B8).mono ?_
      rintro e w10 ⟨rfl, hb10⟩
      have B10 := bel_step B8 hb10 B8.size
      clear hti hb10 B8
      go_wp2
      go_ret
      exact ⟨rfl, B10⟩
  · have hg := wrSame_not HX.out HY.out (fun h => hq (HXY.out.2 h))
    have q1 : (X.toList == Y.toList) = false := beq_eq_false_iff_ne.2 hq
    clear hq HXY HX HY
    go_wp2_with fail
    refine (hg _).mono ?_
    rintro e w' ⟨rfl, rfl⟩
    clear hg
    have H4 := Lib.hid (And.intro (IsCode.below H'.out (B5.mono (Nat.le_refl _))) (HE.out.kept B5))
    go_wp2_with fail
    refine (DrawRealRead_any AB n' c' _ H4.out.1).mono ?_
    rintro e w6 ⟨t, rfl, htz, hb6⟩
    have B6 := bel_step B5 hb6 B5.size
    clear hb6 B5 H4
    have hri := fun w' (hb : Below w.heap.size w w') => realRead_i_any t (by omega) w' (HE.out.kept hb)
    have hrs := fun w' => realRead_s_any t (by omega) w'
    go_wp2_with fail
    refine (hri _ B6).mono ?_
    rintro e w7 ⟨z, fine, rfl, hr7, hb7⟩
    have B7 := bel_step B6 hb7 B6.size
    clear hb7 B6 hri
    have HR7 := Lib.hid hr7
    clear hr7
    go_wp2_with fail
    refine (hrs _).mono ?_
    rintro e w8 ⟨want, told, rfl, hr8, hb8⟩
    have B8 := bel_step B7 hb8 B7.size
    clear hb8 B7 hrs
    obtain ⟨rfl, hsm⟩ := HR7.out.same hr8
    have hf := wrSame_of HR7.out.1 hsm
    clear hr8 hsm
    cases fine with
    | false =>
      clear HR7
      go_wp2_with fail
      refine (hf _).mono ?_
      rintro e w9 ⟨rfl, rfl⟩
      clear hf
      go_wp2
      go_ret
      exact ⟨rfl, B8⟩
    | true =>
      have htx : txt z = t := by
        rcases HR7.out.2 with ⟨_, h⟩ | ⟨h, _⟩
        · exact h
        · cases h
      have hti := fun w' (hb : Below w.heap.size w w') => realText_i_any z HR7.out.1 w' (HE.out.kept hb).tab
      rw [htx] at hti
      clear HR7 htx
      go_wp2_with fail
      refine (hf _).mono ?_
      rintro e w9 ⟨rfl, rfl⟩
      clear hf
      go_wp2_with fail
      refine (hti _ B8).mono ?_
      rintro e w10 ⟨rfl, hb10⟩
      have B10 := bel_step B8 hb10 B8.size
      clear hti hb10 B8
      go_wp2
      go_ret
      exact ⟨rfl, B10⟩
theorem FnRealBack_great1 (AA AB : Option Addr) (n c n' c' : Nat) (hn : 1048576 < n) (w : World) : Calls Tryd.prog 4 #[.slice AA n c, .slice AB n' c'] w fun e w' => e = .returned (.bool true) ∧ Below w.heap.size w w' := by
  have hd : decide ((1048576 : Int) < (n : Int)) = true := by simp; omega
  go_enter Tryd.func4, Tryd.ntmps4
  go_wp2
  go_ret
  exact ⟨rfl, Below.refl _ _⟩
theorem FnRealBack_great2 (AA AB : Option Addr) (n c n' c' : Nat) (hn0 : n ≤ 1048576) (hn : 1048576 < n') (w : World) : Calls Tryd.prog 4 #[.slice AA n c, .slice AB n' c'] w fun e w' => e = .returned (.bool true) ∧ Below w.heap.size w w' := by
  have hd : decide ((1048576 : Int) < (n : Int)) = false := by simp; omega
  have hd' : decide ((1048576 : Int) < (n' : Int)) = true := by simp; omega
  go_enter Tryd.func4, Tryd.ntmps4
  go_wp2
  go_ret
  exact ⟨rfl, Below.refl _ _⟩
end Go.Proofs.YtobbkebjgjeglaaDoor
