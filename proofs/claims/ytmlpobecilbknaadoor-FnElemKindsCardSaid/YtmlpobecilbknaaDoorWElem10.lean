/- The program's ElemText. -/
import Derived.Test.YtmlpobecilbknaaDoorRows
import Derived.Test.YtmlpobecilbknaaDoorWElem9
import Derived.Test.YtmlpobecilbknaaDoorShelfI
import Derived.WalkKit
import Derived.WalkSpells
import Derived.WalkLawsBesides
import Derived.OpenShut
import Derived.IntWalk
import Derived.Lib.Hide
import Derived.OwnWalk
import Derived.Deep.QuietTactic
import Derived.BigQuiet
import Derived.Deep.RegionHeld3
import Derived.Deep.RegionLaw
import Derived.Deep.AppendLies
import Derived.Deep.RegionWith
namespace Go.Proofs.YtmlpobecilbknaaDoor
open Go.RowKit Bx ElemP ElemT
set_option linter.unusedVariables false

theorem infoS : (Tryd.prog.info? 9).map (fun i => (i.zero, i.size, i.bytes)) = some (some (.string ByteArray.empty), 1, 16) := by kernel_rfl
def wordsOf (xs : List Arg) : List Value := xs.map fun x => Value.string (txA x)
theorem words_snoc {w : World} {base g c k : Nat} {xs : List Arg} {z : Arg} {t : ByteArray} (hz : xs[k]? = some z) (ht : t = txA z) (h : w.ownsRow base 9 1 (.slice (some ⟨g, 0, none⟩) (k + 1) c) (k + 1) (wordsOf (xs.take k) ++ [.string t])) :
    Own 9 base w g c (wordsOf (xs.take (k + 1))) := by
  have hk : k < xs.length := (List.getElem?_eq_some_iff.1 hz).1
  subst ht
  have e : wordsOf (xs.take (k + 1)) = wordsOf (xs.take k) ++ [.string (txA z)] := by
    unfold wordsOf; rw [List.take_add_one, hz, List.map_append]; rfl
  rw [e]
  exact Own.of h (by simp [wordsOf]; omega)
theorem words_cell {w : World} {base g c : Nat} {xs : List Arg} (h : Own 9 base w g c (wordsOf xs)) (i : Nat) (x : Arg) (hx : xs[i]? = some x) : w.cell? ⟨g, i, none⟩ = some (.string (txA x)) := by
  have hi : i < xs.length := (List.getElem?_eq_some_iff.1 hx).1
  rw [h.cell i (by simpa [wordsOf] using hi)]
  simp [wordsOf, hx]
set_option maxRecDepth 100000 in
set_option maxHeartbeats 4000000 in
theorem elemText_i_any (op : Int) (a : Option Addr) (n c : Nat) (xs : List Arg) (w : World) (h : Arr w a n c xs) (henv : EEnv w) : Calls Tryd.prog 11 #[.agg #[.int .i64 op, .slice a n c]] w fun e w' => e = .returned (.string (etxt op xs)) ∧ Below w.heap.size w w' := by
  obtain ⟨i0, hi0, hz0, hz1, hz2⟩ := info_parts infoS
  have hco := fun w' (hb : Below w.heap.size w w') => coil_i_any op a n c xs w' (h.kept hb)
  have hct := fun w' (hb : Below w.heap.size w w') => contact_i_any op a n c xs w' (h.kept hb)
  have HX := Lib.hid h
  have HE := Lib.hid henv
  obtain ⟨hn, hc, hm, h3, hx⟩ := h
  have HN := Lib.hid hn
  clear hn hx henv hc hm
  have b1 := Box.new w #[.int .i64 op, .slice a n c] 31
  have hB1 : Below w.heap.size w (w.alloc (.cells #[.int .i64 op, .slice a n c] 31)) := by repeat (first | exact Below.refl _ _ | assumption | refine Below.setCell ?_ (by first | (simp; done) | (simp; omega) | omega) _ | refine Below.alloc ?_ (by first | (simp; done) | (simp; omega) | omega) _ | refine Bx.bel_drewN ?_ _ | refine Below.drew ?_)
  have ho := Own.made (t := 9) (w.alloc (.cells #[.int .i64 op, .slice a n c] 31)) #[] (w.heap.size + 1) (by simp) (by decide)
  have HO := Lib.hid (And.intro (b1.alloc (.cells #[] 9)) (And.intro (hB1.alloc hB1.size (.cells #[] 9)) ho))
  clear b1 hB1 ho
  go_enter Tryd.func11, Tryd.ntmps11
  go_wp2_with fail
  go_loopw [3, 10] (fun v i wr => ∃ (k g c' : Nat), k ≤ n ∧ v = .slice (some ⟨g, 0, none⟩) k c' ∧ i = .int .i64 k ∧ Own 9 (w.heap.size + 1) wr g c' (wordsOf (xs.take k)) ∧ Box wr w.heap.size #[.int .i64 op, .slice a n c] 31 ∧ Below w.heap.size w wr) (fun _ i _ => n - (intOf i).toNat)
  case atStart => exact ⟨0, w.heap.size + 1, 0, by omega, by simp, rfl, by simpa [wordsOf] using HO.out.2.2, HO.out.1, HO.out.2.1⟩
  case round =>
    obtain ⟨k, g, c', hk, rfl, rfl, hown, hbox, hbel⟩ := hrel
    by_cases hlt : k < n
    · obtain ⟨z, hz⟩ : ∃ z, xs[k]? = some z := ⟨_, List.getElem?_eq_getElem (by have := HN.out; omega)⟩
      rcases HX.out.2.2.2.2 with h0 | ⟨g0, rfl, hl⟩
      · rw [h0] at hz; simp at hz
      have hl := hl.kept hbel
      obtain ⟨q0, q1, q2⟩ := hl.at k z hz
      have HZ := Lib.hid hz
      have hlen : (wordsOf (xs.take k)).length = k := by simp [wordsOf]; have := HN.out; omega
      have hcz := fun w' (hb : Below w.heap.size w w') => devText_i_any z.1 z.2.1 z.2.2 w' (HE.out.kept hb).tab (HE.out.kept hb).wd
      obtain ⟨z0, z1, z2⟩ := z
      simp only at q0 q1 q2 hcz
      obtain ⟨t, ht⟩ : ∃ t, t = DevT.txt z0 z1 z2 := ⟨_, rfl⟩
      rw [← ht] at hcz
      have HT := Lib.hid ht
      have d1 : (k : Int) < (n : Int) := by omega
      have hB2 : Below w.heap.size w (wr.alloc (.cells #[.int .i64 z0, .int .i64 z1, .int .i64 z2] 40)) := hbel.alloc hbel.size _
      have hbox2 := hbox.alloc (.cells #[.int .i64 z0, .int .i64 z1, .int .i64 z2] 40)
      have hown2 := hown.alloc (.cells #[.int .i64 z0, .int .i64 z1, .int .i64 z2] 40)
      clear hz hl ht hbel hbox hown
      go_wp2_with fail
      refine (hcz _ hB2).mono ?_
      rintro e w2 ⟨rfl, hb2⟩
      have hB3 := bel_step hB2 hb2 hB2.size
      have hbox3 := hbox2.kept hb2
      have hown3 := hown2.kept hb2
      have hown' := hown3.row hlen
      have ltg := hown3.lt.2
      have lt0 := hbox3.lt
      clear hb2 hcz q0 q1 q2 hB2 hbox2 hown2
      go_wp2_with (first | (at_builtin; refine wpList_append_lies _ rfl _ _ 43 rfl _ 9 i0 (.string ByteArray.empty) 1 16 Tryd.underlying43 hi0 hz0 hz1 hz2 rfl (by decide) (.slice (some ⟨g, 0, none⟩) k c') k _ rfl (hown'.alloc _) ⟨w2.heap.size, 0, none⟩ 1 1 [_] (by rfl) (by rfl) (World.news_of_block (cs := #[_]) (t := 9) (fr := (0, 0)) (heap_alloc_new w2 _)) (by simp [Value.oneCell']) (by omega) (by unfold maxLen; omega) (by omega) (by simp; omega) (w2.heap.size + 1) (by simp) ?_; intro gg cap w3 hown4 hgrow hat hlt2))
      have hbox4 : Box w3 w.heap.size #[.int .i64 op, .slice (some ⟨g0, 0, none⟩) n c] 31 := Own.box_grown (hbox3.alloc _) hgrow (by simp [Value.ownBlock]; have := hown3.lt.1; omega)
      have hbel4 : Below w.heap.size w w3 := below_grown (hB3.alloc hB3.size _) hgrow (by intro k hk; simp [Value.ownBlock] at hk; have := hown3.lt.1; omega) (Nat.le_refl _)
      have hown5 := words_snoc HZ.out (show t = txA (z0, z1, z2) from HT.out) hown4
      clear hown' hB3 hbox3 hown3 hown4 hgrow
      go_wp2
      go_roundw
      case rel => exact ⟨k + 1, gg, cap, by omega, rfl, by go_num, hown5, hbox4, hbel4⟩
      case measure => simp [intOf]; omega
    · obtain rfl : k = n := by omega
      have ht : xs.take k = xs := List.take_of_length_le (by have := HN.out; omega)
      rw [ht] at hown
      clear HO hlt ht
      have c0 : wr.cell? ⟨w.heap.size, 0, none⟩ = some (.int .i64 op) := hbox.cell 0
      have c1 : wr.cell? ⟨w.heap.size, 1, none⟩ = some (.slice a k c) := hbox.cell 1
      go_wp2_with fail
      refine (hco wr hbel).mono ?_
      rintro e w1 ⟨rfl, hb1⟩
      have hbox1 := hbox.kept hb1
      have hown1 := hown.kept hb1
      have hB1 := bel_step hbel hb1 hbel.size
      clear hb1 hco c0 c1 hbox hown hbel
      have c0 : w1.cell? ⟨w.heap.size, 0, none⟩ = some (.int .i64 op) := hbox1.cell 0
      have c1 : w1.cell? ⟨w.heap.size, 1, none⟩ = some (.slice a k c) := hbox1.cell 1
      cases hC : coil op xs with
      | true =>
        have hC2 := coil_in hC
        have he : etxt op xs = coilT op xs := by unfold etxt; rw [if_pos hC]
        have HC := Lib.hid (And.intro hC2 he)
        clear hC hC2 he
        have hN5 := cname_size op
        have hx3 : xs.length ≤ 3 := by rw [HC.out.1.2.1]; unfold arity; repeat (first | split | omega)
        have hjs := joined_size hx3
        have hj := fun w' (hb : Below w1.heap.size w1 w') => Tryd.strings_Join g 0 c' (xs.map txA) ⟨#[44]⟩ w' (fun j x hx => by
          rw [Nat.zero_add]
          obtain ⟨y, hy, rfl⟩ : ∃ y, xs[j]? = some y ∧ txA y = x := by rw [List.getElem?_map] at hx; simpa [Option.map_eq_some_iff] using hx
          exact (hb.cell (p := ⟨g, j, none⟩) hown1.lt.2).trans (words_cell hown1 j y hy)) (by have := hown1.lt.2; have := hb.size; omega) (by rw [List.length_map]; omega) (by rw [List.length_map]; have := hown1.len.1; simpa [wordsOf] using this) (Nat.le_trans (joined_len hx3) (by decide))
        rw [show (xs.map txA).length = k by rw [List.length_map]; exact HN.out.symm] at hj
        have hj : ∀ w', Below w1.heap.size w1 w' → Calls Tryd.prog 26 #[.slice (some ⟨g, 0, none⟩) k c', .string ⟨#[44]⟩] w' fun e w'' => e = .returned (.string (joined xs)) ∧ Below w'.heap.size w' w'' := hj
        have hna := name_i_any op w1 (HE.out.kept hB1)
        obtain ⟨N, hN⟩ : ∃ N, cname op = N := ⟨_, rfl⟩
        obtain ⟨J, hJ⟩ : ∃ J, joined xs = J := ⟨_, rfl⟩
        have HT : Hid (etxt op xs = (N ++ ⟨#[58]⟩) ++ J) := Lib.hid (by rw [HC.out.2, ← hN, ← hJ]; rfl)
        rw [hN] at hna hN5
        rw [hJ] at hj hjs
        have hL1 : (⟨#[58]⟩ : ByteArray).size = 1 := rfl
        have hs1 : ¬ N.size + (⟨#[58]⟩ : ByteArray).size > 9223372036854775807 := by omega
        have hs2 : ¬ (N ++ (⟨#[58]⟩ : ByteArray)).size + J.size > 9223372036854775807 := by rw [ByteArray.size_append]; omega
        clear hN hJ hx3 hN5 hjs HC
        go_wp2_with fail
        refine hna.mono ?_
        rintro e w2 ⟨rfl, hb2⟩
        have hB2 := bel_step hB1 hb2 hB1.size
        have hj2 := hj w2 hb2
        clear hna hj hb2 hB1 hown1 hbox1 c0 c1
        generalize hcol : (⟨#[58]⟩ : ByteArray) = col at hs1 hs2 HT hL1 ⊢
        go_wp2_with fail
        refine hj2.mono ?_
        rintro e w3 ⟨rfl, hb3⟩
        have hB3 := bel_step hB2 hb3 hB2.size
        clear hj2 hb3 hB2
        go_wp2
        go_ret
        exact ⟨by rw [HT.out]; rfl, hB3⟩
      | false =>
        have HC := Lib.hid hC
        clear hC
        go_wp2_with fail
        refine (hct w1 hB1).mono ?_
        rintro e w2 ⟨rfl, hb2⟩
        have hbox2 := hbox1.kept hb2
        have hown2 := hown1.kept hb2
        have hB2 := bel_step hB1 hb2 hB1.size
        clear hb2 hct c0 c1 hbox1 hown1 hB1
        have c0 : w2.cell? ⟨w.heap.size, 0, none⟩ = some (.int .i64 op) := hbox2.cell 0
        have c1 : w2.cell? ⟨w.heap.size, 1, none⟩ = some (.slice a k c) := hbox2.cell 1
        cases hK : contact op xs with
        | false =>
          have he : etxt op xs = ⟨#[]⟩ := by unfold etxt; rw [if_neg (by rw [HC.out]; decide), if_neg (by rw [hK]; decide)]
          have HK := Lib.hid he
          clear hK he
          go_wp2
          go_ret
          exact ⟨by rw [HK.out]; rfl, hB2⟩
        | true =>
          have hK2 := contact_in hK
          have he : etxt op xs = contactT op xs := by unfold etxt; rw [if_neg (by rw [HC.out]; decide), if_pos hK]
          have HK := Lib.hid (And.intro hK2 he)
          clear hK hK2 he
          have hop : op = 1 ∨ op = 2 ∨ op = 3 ∨ op = 4 ∨ op = 5 ∨ op = 6 ∨ op = 7 ∨ op = 8 ∨ op = 9 ∨ op = 10 := by have := HK.out.1.1; omega
          rcases hop with rfl | rfl | rfl | rfl | rfl | rfl | rfl | rfl | rfl | rfl
          · obtain rfl : k = 1 := HN.out.trans HK.out.1.2.1
            obtain ⟨k0, n0, p0, rfl⟩ := len1 HN.out.symm
            have q0 : w2.cell? ⟨g, 0, none⟩ = some (.string (txA (k0, n0, p0))) := words_cell hown2 0 _ rfl
            have z0 := txA_size (k0, n0, p0)
            have lg := hown2.lt.2
            have HT : Hid (etxt 1 [(k0, n0, p0)] = txA (k0, n0, p0)) := Lib.hid (by rw [HK.out.2]; rfl)
            generalize txA (k0, n0, p0) = t0 at q0 z0 HT
            clear HK HC hown2 hbox2 HX
            go_wp2
            go_ret
            exact ⟨by rw [HT.out]; rfl, hB2⟩
          · obtain rfl : k = 1 := HN.out.trans HK.out.1.2.1
            obtain ⟨k0, n0, p0, rfl⟩ := len1 HN.out.symm
            have q0 : w2.cell? ⟨g, 0, none⟩ = some (.string (txA (k0, n0, p0))) := words_cell hown2 0 _ rfl
            have z0 := txA_size (k0, n0, p0)
            have lg := hown2.lt.2
            have HT : Hid (etxt 2 [(k0, n0, p0)] = ⟨#[47]⟩ ++ txA (k0, n0, p0)) := Lib.hid (by rw [HK.out.2]; rfl)
            generalize txA (k0, n0, p0) = t0 at q0 z0 HT
            clear HK HC hown2 hbox2 HX
            have s1 : ¬ (⟨#[47]⟩ : ByteArray).size + t0.size > 9223372036854775807 := by have : (⟨#[47]⟩ : ByteArray).size = 1 := rfl; omega
            generalize hcol : (⟨#[47]⟩ : ByteArray) = col at s1 HT ⊢
            go_wp2
            go_ret
            exact ⟨by rw [HT.out]; rfl, hB2⟩
          · obtain rfl : k = 2 := HN.out.trans HK.out.1.2.1
            obtain ⟨k0, n0, p0, k1, n1, p1, rfl⟩ := len2 HN.out.symm
            have q0 : w2.cell? ⟨g, 0, none⟩ = some (.string (txA (k0, n0, p0))) := words_cell hown2 0 _ rfl
            have z0 := txA_size (k0, n0, p0)
            have q1 : w2.cell? ⟨g, 1, none⟩ = some (.string (txA (k1, n1, p1))) := words_cell hown2 1 _ rfl
            have z1 := txA_size (k1, n1, p1)
            have lg := hown2.lt.2
            have HT : Hid (etxt 3 [(k0, n0, p0), (k1, n1, p1)] = ((⟨#[43]⟩ ++ txA (k0, n0, p0)) ++ ⟨#[58]⟩) ++ txA (k1, n1, p1)) := Lib.hid (by rw [HK.out.2]; rfl)
            generalize txA (k0, n0, p0) = t0 at q0 z0 HT
            generalize txA (k1, n1, p1) = t1 at q1 z1 HT
            clear HK HC hown2 hbox2 HX
            have l1 : (⟨#[43]⟩ : ByteArray).size = 1 := rfl
            have l2 : (⟨#[58]⟩ : ByteArray).size = 1 := rfl
            have s1 : ¬ (⟨#[43]⟩ : ByteArray).size + t0.size > 9223372036854775807 := by omega
            have s2 : ¬ ((⟨#[43]⟩ : ByteArray) ++ t0).size + (⟨#[58]⟩ : ByteArray).size > 9223372036854775807 := by rw [ByteArray.size_append]; omega
            have s3 : ¬ (((⟨#[43]⟩ : ByteArray) ++ t0) ++ (⟨#[58]⟩ : ByteArray)).size + t1.size > 9223372036854775807 := by rw [ByteArray.size_append, ByteArray.size_append]; omega
            generalize hcol : (⟨#[43]⟩ : ByteArray) = col at s1 s2 s3 HT l1 ⊢
            generalize hcol2 : (⟨#[58]⟩ : ByteArray) = col2 at s2 s3 HT l2 ⊢
            go_wp2_with fail
            go_quiet (fail)
            go_wp2
            go_ret
            exact ⟨by rw [HT.out]; rfl, bel_drewN hB2 _⟩
          · obtain rfl : k = 2 := HN.out.trans HK.out.1.2.1
            obtain ⟨k0, n0, p0, k1, n1, p1, rfl⟩ := len2 HN.out.symm
            have q0 : w2.cell? ⟨g, 0, none⟩ = some (.string (txA (k0, n0, p0))) := words_cell hown2 0 _ rfl
            have z0 := txA_size (k0, n0, p0)
            have q1 : w2.cell? ⟨g, 1, none⟩ = some (.string (txA (k1, n1, p1))) := words_cell hown2 1 _ rfl
            have z1 := txA_size (k1, n1, p1)
            have lg := hown2.lt.2
            have HT : Hid (etxt 4 [(k0, n0, p0), (k1, n1, p1)] = ((⟨#[45]⟩ ++ txA (k0, n0, p0)) ++ ⟨#[58]⟩) ++ txA (k1, n1, p1)) := Lib.hid (by rw [HK.out.2]; rfl)
            generalize txA (k0, n0, p0) = t0 at q0 z0 HT
            generalize txA (k1, n1, p1) = t1 at q1 z1 HT
            clear HK HC hown2 hbox2 HX
            have l1 : (⟨#[45]⟩ : ByteArray).size = 1 := rfl
            have l2 : (⟨#[58]⟩ : ByteArray).size = 1 := rfl
            have s1 : ¬ (⟨#[45]⟩ : ByteArray).size + t0.size > 9223372036854775807 := by omega
            have s2 : ¬ ((⟨#[45]⟩ : ByteArray) ++ t0).size + (⟨#[58]⟩ : ByteArray).size > 9223372036854775807 := by rw [ByteArray.size_append]; omega
            have s3 : ¬ (((⟨#[45]⟩ : ByteArray) ++ t0) ++ (⟨#[58]⟩ : ByteArray)).size + t1.size > 9223372036854775807 := by rw [ByteArray.size_append, ByteArray.size_append]; omega
            generalize hcol : (⟨#[45]⟩ : ByteArray) = col at s1 s2 s3 HT l1 ⊢
            generalize hcol2 : (⟨#[58]⟩ : ByteArray) = col2 at s2 s3 HT l2 ⊢
            go_wp2_with fail
            go_quiet (fail)
            go_wp2
            go_ret
            exact ⟨by rw [HT.out]; rfl, bel_drewN hB2 _⟩
          · obtain rfl : k = 2 := HN.out.trans HK.out.1.2.1
            obtain ⟨k0, n0, p0, k1, n1, p1, rfl⟩ := len2 HN.out.symm
            have q0 : w2.cell? ⟨g, 0, none⟩ = some (.string (txA (k0, n0, p0))) := words_cell hown2 0 _ rfl
            have z0 := txA_size (k0, n0, p0)
            have q1 : w2.cell? ⟨g, 1, none⟩ = some (.string (txA (k1, n1, p1))) := words_cell hown2 1 _ rfl
            have z1 := txA_size (k1, n1, p1)
            have lg := hown2.lt.2
            have HT : Hid (etxt 5 [(k0, n0, p0), (k1, n1, p1)] = (txA (k0, n0, p0) ++ sign 5) ++ txA (k1, n1, p1)) := Lib.hid (by rw [HK.out.2]; rfl)
            generalize txA (k0, n0, p0) = t0 at q0 z0 HT
            generalize txA (k1, n1, p1) = t1 at q1 z1 HT
            clear HK HC hown2 hbox2 HX
            have hg := fun w => sign_i_any 5 (by omega) w
            have sz := sign_size 5
            rw [show ((5 : Int) - 5 + 1) = 1 from rfl] at hg
            generalize sign 5 = sg at hg sz HT
            have s1 : ¬ t0.size + sg.size > 9223372036854775807 := by omega
            have s2 : ¬ (t0 ++ sg).size + t1.size > 9223372036854775807 := by rw [ByteArray.size_append]; omega
            go_wp2_with fail
            go_quiet ((go_at_call 27; exact Calls.quiet_of_same (hg _)))
            go_wp2
            go_ret
            exact ⟨by rw [HT.out]; rfl, bel_drewN hB2 _⟩
          · obtain rfl : k = 2 := HN.out.trans HK.out.1.2.1
            obtain ⟨k0, n0, p0, k1, n1, p1, rfl⟩ := len2 HN.out.symm
            have q0 : w2.cell? ⟨g, 0, none⟩ = some (.string (txA (k0, n0, p0))) := words_cell hown2 0 _ rfl
            have z0 := txA_size (k0, n0, p0)
            have q1 : w2.cell? ⟨g, 1, none⟩ = some (.string (txA (k1, n1, p1))) := words_cell hown2 1 _ rfl
            have z1 := txA_size (k1, n1, p1)
            have lg := hown2.lt.2
            have HT : Hid (etxt 6 [(k0, n0, p0), (k1, n1, p1)] = (txA (k0, n0, p0) ++ sign 6) ++ txA (k1, n1, p1)) := Lib.hid (by rw [HK.out.2]; rfl)
            generalize txA (k0, n0, p0) = t0 at q0 z0 HT
            generalize txA (k1, n1, p1) = t1 at q1 z1 HT
            clear HK HC hown2 hbox2 HX
            have hg := fun w => sign_i_any 6 (by omega) w
            have sz := sign_size 6
            rw [show ((6 : Int) - 5 + 1) = 2 from rfl] at hg
            generalize sign 6 = sg at hg sz HT
            have s1 : ¬ t0.size + sg.size > 9223372036854775807 := by omega
            have s2 : ¬ (t0 ++ sg).size + t1.size > 9223372036854775807 := by rw [ByteArray.size_append]; omega
            go_wp2_with fail
            go_quiet ((go_at_call 27; exact Calls.quiet_of_same (hg _)))
            go_wp2
            go_ret
            exact ⟨by rw [HT.out]; rfl, bel_drewN hB2 _⟩
          · obtain rfl : k = 2 := HN.out.trans HK.out.1.2.1
            obtain ⟨k0, n0, p0, k1, n1, p1, rfl⟩ := len2 HN.out.symm
            have q0 : w2.cell? ⟨g, 0, none⟩ = some (.string (txA (k0, n0, p0))) := words_cell hown2 0 _ rfl
            have z0 := txA_size (k0, n0, p0)
            have q1 : w2.cell? ⟨g, 1, none⟩ = some (.string (txA (k1, n1, p1))) := words_cell hown2 1 _ rfl
            have z1 := txA_size (k1, n1, p1)
            have lg := hown2.lt.2
            have HT : Hid (etxt 7 [(k0, n0, p0), (k1, n1, p1)] = (txA (k0, n0, p0) ++ sign 7) ++ txA (k1, n1, p1)) := Lib.hid (by rw [HK.out.2]; rfl)
            generalize txA (k0, n0, p0) = t0 at q0 z0 HT
            generalize txA (k1, n1, p1) = t1 at q1 z1 HT
            clear HK HC hown2 hbox2 HX
            have hg := fun w => sign_i_any 7 (by omega) w
            have sz := sign_size 7
            rw [show ((7 : Int) - 5 + 1) = 3 from rfl] at hg
            generalize sign 7 = sg at hg sz HT
            have s1 : ¬ t0.size + sg.size > 9223372036854775807 := by omega
            have s2 : ¬ (t0 ++ sg).size + t1.size > 9223372036854775807 := by rw [ByteArray.size_append]; omega
            go_wp2_with fail
            go_quiet ((go_at_call 27; exact Calls.quiet_of_same (hg _)))
            go_wp2
            go_ret
            exact ⟨by rw [HT.out]; rfl, bel_drewN hB2 _⟩
          · obtain rfl : k = 2 := HN.out.trans HK.out.1.2.1
            obtain ⟨k0, n0, p0, k1, n1, p1, rfl⟩ := len2 HN.out.symm
            have q0 : w2.cell? ⟨g, 0, none⟩ = some (.string (txA (k0, n0, p0))) := words_cell hown2 0 _ rfl
            have z0 := txA_size (k0, n0, p0)
            have q1 : w2.cell? ⟨g, 1, none⟩ = some (.string (txA (k1, n1, p1))) := words_cell hown2 1 _ rfl
            have z1 := txA_size (k1, n1, p1)
            have lg := hown2.lt.2
            have HT : Hid (etxt 8 [(k0, n0, p0), (k1, n1, p1)] = (txA (k0, n0, p0) ++ sign 8) ++ txA (k1, n1, p1)) := Lib.hid (by rw [HK.out.2]; rfl)
            generalize txA (k0, n0, p0) = t0 at q0 z0 HT
            generalize txA (k1, n1, p1) = t1 at q1 z1 HT
            clear HK HC hown2 hbox2 HX
            have hg := fun w => sign_i_any 8 (by omega) w
            have sz := sign_size 8
            rw [show ((8 : Int) - 5 + 1) = 4 from rfl] at hg
            generalize sign 8 = sg at hg sz HT
            have s1 : ¬ t0.size + sg.size > 9223372036854775807 := by omega
            have s2 : ¬ (t0 ++ sg).size + t1.size > 9223372036854775807 := by rw [ByteArray.size_append]; omega
            go_wp2_with fail
            go_quiet ((go_at_call 27; exact Calls.quiet_of_same (hg _)))
            go_wp2
            go_ret
            exact ⟨by rw [HT.out]; rfl, bel_drewN hB2 _⟩
          · obtain rfl : k = 2 := HN.out.trans HK.out.1.2.1
            obtain ⟨k0, n0, p0, k1, n1, p1, rfl⟩ := len2 HN.out.symm
            have q0 : w2.cell? ⟨g, 0, none⟩ = some (.string (txA (k0, n0, p0))) := words_cell hown2 0 _ rfl
            have z0 := txA_size (k0, n0, p0)
            have q1 : w2.cell? ⟨g, 1, none⟩ = some (.string (txA (k1, n1, p1))) := words_cell hown2 1 _ rfl
            have z1 := txA_size (k1, n1, p1)
            have lg := hown2.lt.2
            have HT : Hid (etxt 9 [(k0, n0, p0), (k1, n1, p1)] = (txA (k0, n0, p0) ++ sign 9) ++ txA (k1, n1, p1)) := Lib.hid (by rw [HK.out.2]; rfl)
            generalize txA (k0, n0, p0) = t0 at q0 z0 HT
            generalize txA (k1, n1, p1) = t1 at q1 z1 HT
            clear HK HC hown2 hbox2 HX
            have hg := fun w => sign_i_any 9 (by omega) w
            have sz := sign_size 9
            rw [show ((9 : Int) - 5 + 1) = 5 from rfl] at hg
            generalize sign 9 = sg at hg sz HT
            have s1 : ¬ t0.size + sg.size > 9223372036854775807 := by omega
            have s2 : ¬ (t0 ++ sg).size + t1.size > 9223372036854775807 := by rw [ByteArray.size_append]; omega
            go_wp2_with fail
            go_quiet ((go_at_call 27; exact Calls.quiet_of_same (hg _)))
            go_wp2
            go_ret
            exact ⟨by rw [HT.out]; rfl, bel_drewN hB2 _⟩
          · obtain rfl : k = 2 := HN.out.trans HK.out.1.2.1
            obtain ⟨k0, n0, p0, k1, n1, p1, rfl⟩ := len2 HN.out.symm
            have q0 : w2.cell? ⟨g, 0, none⟩ = some (.string (txA (k0, n0, p0))) := words_cell hown2 0 _ rfl
            have z0 := txA_size (k0, n0, p0)
            have q1 : w2.cell? ⟨g, 1, none⟩ = some (.string (txA (k1, n1, p1))) := words_cell hown2 1 _ rfl
            have z1 := txA_size (k1, n1, p1)
            have lg := hown2.lt.2
            have HT : Hid (etxt 10 [(k0, n0, p0), (k1, n1, p1)] = (txA (k0, n0, p0) ++ sign 10) ++ txA (k1, n1, p1)) := Lib.hid (by rw [HK.out.2]; rfl)
            generalize txA (k0, n0, p0) = t0 at q0 z0 HT
            generalize txA (k1, n1, p1) = t1 at q1 z1 HT
            clear HK HC hown2 hbox2 HX
            have hg := fun w => sign_i_any 10 (by omega) w
            have sz := sign_size 10
            rw [show ((10 : Int) - 5 + 1) = 6 from rfl] at hg
            generalize sign 10 = sg at hg sz HT
            have s1 : ¬ t0.size + sg.size > 9223372036854775807 := by omega
            have s2 : ¬ (t0 ++ sg).size + t1.size > 9223372036854775807 := by rw [ByteArray.size_append]; omega
            go_wp2_with fail
            go_quiet ((go_at_call 27; exact Calls.quiet_of_same (hg _)))
            go_wp2
            go_ret
            exact ⟨by rw [HT.out]; rfl, bel_drewN hB2 _⟩
end Go.Proofs.YtmlpobecilbknaaDoor
