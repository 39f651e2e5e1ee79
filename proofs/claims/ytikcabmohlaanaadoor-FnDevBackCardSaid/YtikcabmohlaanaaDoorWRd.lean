/- The walk of the program's DevRead. -/
import Derived.Test.YtikcabmohlaanaaDoorRows
import Derived.Test.YtikcabmohlaanaaDoorWText3
import Derived.Test.YtikcabmohlaanaaDoorShelfR
import Derived.Test.YtikcabmohlaanaaDoorDevB
import Derived.WalkKit
import Derived.WalkSpells
import Derived.WalkLawsBesides
import Derived.OpenShut
import Derived.IntWalk
import Derived.Lib.Hide
import Derived.Lib.SmallJoins
import Derived.Lib.AtoiErrMem
import Derived.Deep.QuietTactic
import Derived.BigQuiet
namespace Go.Proofs.YtikcabmohlaanaaDoor
open Go.RowKit Bx ItoP
set_option linter.unusedVariables false

/-- what DevRead leans on in the world -/
structure REnv (w : World) : Prop where
  max : ∃ m, w.cell? ⟨1, 0, none⟩ = some (.int .i64 m)
  tab : Lib.TabIs Tryd.prog w "internal/strconv.uint64pow10" .u64 Lib.pow10Tab
  wd : Ls.StrsIs Tryd.prog w "loop.example/stilmach/impl.devWords" wds
  syn : ∃ tp p, w.var? Tryd.prog "strconv.ErrSyntax" = some #[.iface tp p]
  rng : ∃ tp p, w.var? Tryd.prog "strconv.ErrRange" = some #[.iface tp p]
theorem REnv.kept {w w' : World} (h : REnv w) (hb : Below w.heap.size w w') : REnv w' := by
  obtain ⟨⟨m, hm⟩, ht, hw, ⟨a, b, hs⟩, ⟨c, d, hr⟩⟩ := h
  refine ⟨⟨m, ?_⟩, tab_kept ht hb, wds_kept hw hb, ⟨a, b, Ls.var?_kept (g := 2) (by kernel_rfl) hs hb⟩, ⟨c, d, Ls.var?_kept (g := 3) (by kernel_rfl) hr hb⟩⟩
  rw [← hm]
  exact hb.cell (World.block_lt_of_cell? _ _ hm)
/-- the value of a reading -/
def ans (o : Option (Int × Int × Int)) : Value := match o with
  | some a => .tuple #[.agg #[.int .i64 a.1, .int .i64 a.2.1, .int .i64 a.2.2], .bool true]
  | none => .tuple #[.agg #[.int .i64 0, .int .i64 0, .int .i64 0], .bool false]
theorem cut_dot (t : ByteArray) (ht : t.size ≤ 3000000) (w : World) (h : REnv w) : Calls Tryd.prog 28 #[.string t, .string ⟨#[46]⟩] w fun e w' => e = .returned (.tuple #[.string ⟨(Lib.cut t.data.toList [46]).1.toArray⟩, .string ⟨(Lib.cut t.data.toList [46]).2.1.toArray⟩, .bool (Lib.cut t.data.toList [46]).2.2]) ∧ Below w.heap.size w w' := by
  obtain ⟨m, hm⟩ := h.max
  refine (Any.strings_Cut { Tryd.laysM145 with } t ⟨#[46]⟩ m w (by omega) hm).mono ?_
  rintro e w' ⟨he, n, rfl⟩
  exact ⟨he, bel_drewN (Below.refl _ _) n⟩
theorem atoi_av (s : ByteArray) (hs : s.size ≤ 3000000) (w : World) (h : REnv w) : Calls Tryd.prog 32 #[.string s] w fun e w' => ∃ ev, e = .returned (.tuple #[.int .i64 (DevB.av s.data.toList), ev]) ∧ Below w.heap.size w w' := by
  obtain ⟨a, b, h1⟩ := h.syn
  obtain ⟨c, d, h2⟩ := h.rng
  unfold DevB.av
  rcases hh : Lib.atoiAll s.data.toList with v | _ | _
  · refine (Tryd.strconv_Atoi_ok s (by omega) v hh w).mono ?_
    rintro e w' ⟨he, hw⟩
    refine ⟨_, he, ?_⟩
    rcases hw with rfl | ⟨t, rfl⟩
    · exact Below.refl _ _
    · exact Lib.bytesWorld_below _ _ _
  · refine (Any.strconv_Atoi_syntax_var Tryd.laysC172 s (by omega) hh a b w h1).mono ?_
    rintro e w' ⟨N, he, _, _, hb⟩
    exact ⟨_, he, hb⟩
  · refine (Tryd.strconv_Atoi_range_var s (by omega) hh c d w h2).mono ?_
    rintro e w' ⟨N, he, _, _, hb⟩
    exact ⟨_, he, hb⟩
theorem ix_head (t : ByteArray) (h : 0 < t.size) (w : World) : Calls Tryd.prog 31 #[.string ⟨#[88, 89, 77, 83, 69, 71, 84, 67, 68, 82]⟩, .int .u8 (t[0].toNat : Int)] w fun e w' => e = .returned (.int .i64 (Lib.indexByte DevB.letters (t.data.toList.headD 0))) ∧ w' = w := by
  have e : ((t[0].toNat : Int)).toNat.toUInt8 = t.data.toList.headD 0 := by
    rw [Int.toNat_natCast]
    have : t[0].toNat.toUInt8 = t[0] := by simp
    rw [this]
    have h2 : 0 < t.data.toList.length := h
    cases ht : t.data.toList with
    | nil => rw [ht] at h2; cases h2
    | cons a r =>
      show t.data[0] = a
      rw [← Array.getElem_toList]
      simp [ht]
  have := Tryd.strings_IndexByte ⟨#[88, 89, 77, 83, 69, 71, 84, 67, 68, 82]⟩ (t[0].toNat : Int) w
  rw [e] at this
  exact this
theorem con_w (t : ByteArray) (w : World) (h : REnv w) : Calls Tryd.prog 29 #[.slice (some ⟨0, 0, none⟩) 4 4, .string t] w fun e w' => e = .returned (.bool (Lib.containsS DevB.wds t)) ∧ w' = w :=
  Tryd.slices_Contains_string 0 0 4 4 wds t w (by decide) (by decide) (fun j hj => by rw [Nat.zero_add]; exact h.wd.cell (by kernel_rfl) j hj)
theorem idx_w (t : ByteArray) (w : World) (h : REnv w) : Calls Tryd.prog 30 #[.slice (some ⟨0, 0, none⟩) 4 4, .string t] w fun e w' => e = .returned (.int .i64 (Lib.idxOfS DevB.wds t)) ∧ w' = w :=
  Tryd.slices_Index_string 0 0 4 4 wds t w (by decide) (by decide) (fun j hj => by rw [Nat.zero_add]; exact h.wd.cell (by kernel_rfl) j hj)
theorem ne_fact {t : ByteArray} (h : 0 < t.size) : ¬ t.toList = [] ∧ t.toList.isEmpty = false := by
  have h2 : ¬ t.toList = [] := by
    rw [ByteArray.toList_eq]
    intro h3
    have : t.data.toList.length = t.size := rfl
    rw [h3] at this
    simp at this; omega
  exact ⟨h2, by cases h3 : t.toList with | nil => exact absurd h3 h2 | cons a r => rfl⟩
theorem set3 {w : World} {g : Nat} {cs : Array Value} {t : TypeId} (b : Box w g cs t) (h : cs.size = 3) (x y z : Value) :
    (((w.setCell ⟨g, 0, none⟩ x).setCell ⟨g, 1, none⟩ y).setCell ⟨g, 2, none⟩ z).cell? ⟨g, 0, none⟩ = some x ∧ (((w.setCell ⟨g, 0, none⟩ x).setCell ⟨g, 1, none⟩ y).setCell ⟨g, 2, none⟩ z).cell? ⟨g, 1, none⟩ = some y ∧ (((w.setCell ⟨g, 0, none⟩ x).setCell ⟨g, 1, none⟩ y).setCell ⟨g, 2, none⟩ z).cell? ⟨g, 2, none⟩ = some z := by
  have b3 := ((b.set 0 x).set 1 y).set 2 z
  refine ⟨(b3.cell 0).trans ?_, (b3.cell 1).trans ?_, (b3.cell 2).trans ?_⟩ <;> simp [h]
set_option maxRecDepth 100000 in
set_option maxHeartbeats 4000000 in
theorem rd_word (t : ByteArray) (ht : t.size ≤ 1048576) (h1 : 0 < t.size) (hw : Lib.containsS DevB.wds t = true) (hr : DevB.readBy DevB.gi t = some (13, Lib.idxOfS DevB.wds t, 0)) (w : World) (henv : REnv w) : Calls Tryd.prog 10 #[.string t] w fun e w' => e = .returned (ans (DevB.readBy DevB.gi t)) ∧ Below w.heap.size w w' := by
  rw [hr]
  have hcut : ∀ w', Below w.heap.size w w' → Calls Tryd.prog 28 #[.string t, .string ⟨#[46]⟩] w' fun e w'' => e = .returned (.tuple #[.string ⟨(Lib.cut t.data.toList [46]).1.toArray⟩, .string ⟨(Lib.cut t.data.toList [46]).2.1.toArray⟩, .bool (Lib.cut t.data.toList [46]).2.2]) ∧ Below w'.heap.size w' w'' := fun w' hb => cut_dot t (by omega) w' (henv.kept hb)
  have hcon : ∀ w', Below w.heap.size w w' → Calls Tryd.prog 29 #[.slice (some ⟨0, 0, none⟩) 4 4, .string t] w' fun e w'' => e = .returned (.bool (Lib.containsS DevB.wds t)) ∧ w'' = w' := fun w' hb => con_w t w' (henv.kept hb)
  have hgw : 0 < w.heap.size := henv.wd.lt (by kernel_rfl)
  have hidx : ∀ w', Below w.heap.size w w' → Calls Tryd.prog 30 #[.slice (some ⟨0, 0, none⟩) 4 4, .string t] w' fun e w'' => e = .returned (.int .i64 (Lib.idxOfS DevB.wds t)) ∧ w'' = w' := fun w' hb => idx_w t w' (henv.kept hb)
  rw [hw] at hcon
  clear hr henv hw
  obtain ⟨n1, n2⟩ := ne_fact h1
  generalize Lib.idxOfS DevB.wds t = ix at hidx ⊢
  generalize Lib.cut t.data.toList [46] = cc at hcut
  go_enter Tryd.func10, Tryd.ntmps10
  go_wp2_with fail
  refine (hcut _ (by repeat (first | exact Below.refl _ _ | assumption | refine Below.setCell ?_ (by first | (simp; done) | (simp; omega) | omega) _ | refine Below.alloc ?_ (by first | (simp; done) | (simp; omega) | omega) _ | refine bel_drewN ?_ _ | refine Below.drew ?_))).mono ?_
  rintro e w1 ⟨rfl, hb1⟩
  have b0 := ((Box.new w #[.int .i64 0, .int .i64 0, .int .i64 0] 24).alloc (.cells #[.int .i64 0, .int .i64 0, .int .i64 0] 24)).kept hb1
  have a0 := (Box.new (w.alloc (.cells #[.int .i64 0, .int .i64 0, .int .i64 0] 24)) #[.int .i64 0, .int .i64 0, .int .i64 0] 24).kept hb1
  have hB1 : Below w.heap.size w w1 := bel_step (((Below.refl _ _).alloc (Nat.le_refl _) _).alloc (by simp) _) hb1 (by simp; omega)
  clear hb1 hcut
  have c0 : w1.cell? ⟨w.heap.size, 0, none⟩ = some (.int .i64 0) := b0.cell 0
  have c1 : w1.cell? ⟨w.heap.size, 1, none⟩ = some (.int .i64 0) := b0.cell 1
  have c2 : w1.cell? ⟨w.heap.size, 2, none⟩ = some (.int .i64 0) := b0.cell 2
  have f0 : w1.frozen? ⟨w.heap.size, 0, none⟩ = false := b0.free 0
  have f1 : w1.frozen? ⟨w.heap.size, 1, none⟩ = false := b0.free 1
  have f2 : w1.frozen? ⟨w.heap.size, 2, none⟩ = false := b0.free 2
  go_wp2_with fail
  refine (hcon _ (by assumption)).mono ?_
  rintro e w' ⟨rfl, rfl⟩
  go_wp2_with fail
  refine (hidx _ (by assumption)).mono ?_
  rintro e w' ⟨rfl, rfl⟩
  go_wp2
  obtain ⟨d0, d1, d2⟩ := set3 b0 rfl (.int .i64 13) (.int .i64 ix) (.int .i64 0)
  refine bodyPost_ret (v := .tuple #[.agg #[.int .i64 13, .int .i64 ix, .int .i64 0], .bool true]) (by simp [results, Tryd.results10, go_sem, d0, d1, d2]) rfl ⟨rfl, ?_⟩
  repeat (first | exact Below.refl _ _ | assumption | refine Below.setCell ?_ (by first | (simp; done) | (simp; omega) | omega) _ | refine Below.alloc ?_ (by first | (simp; done) | (simp; omega) | omega) _ | refine bel_drewN ?_ _ | refine Below.drew ?_)
set_option maxRecDepth 100000 in
set_option maxHeartbeats 4000000 in
theorem rd_empty (w : World) (henv : REnv w) : Calls Tryd.prog 10 #[.string ⟨#[]⟩] w fun e w' => e = .returned (ans none) ∧ Below w.heap.size w w' := by
  have hcut : ∀ w', Below w.heap.size w w' → Calls Tryd.prog 28 #[.string ⟨#[]⟩, .string ⟨#[46]⟩] w' fun e w'' => e = .returned (.tuple #[.string ⟨(Lib.cut [] [46]).1.toArray⟩, .string ⟨(Lib.cut [] [46]).2.1.toArray⟩, .bool (Lib.cut [] [46]).2.2]) ∧ Below w'.heap.size w' w'' := fun w' hb => cut_dot ⟨#[]⟩ (by decide) w' (henv.kept hb)
  clear henv
  have n1 : (⟨#[]⟩ : ByteArray).toList = [] := by rw [ByteArray.toList_eq]
  generalize Lib.cut [] [46] = cc at hcut
  go_enter Tryd.func10, Tryd.ntmps10
  go_wp2_with fail
  refine (hcut _ (by repeat (first | exact Below.refl _ _ | assumption | refine Below.setCell ?_ (by first | (simp; done) | (simp; omega) | omega) _ | refine Below.alloc ?_ (by first | (simp; done) | (simp; omega) | omega) _ | refine bel_drewN ?_ _ | refine Below.drew ?_))).mono ?_
  rintro e w1 ⟨rfl, hb1⟩
  have b0 := ((Box.new w #[.int .i64 0, .int .i64 0, .int .i64 0] 24).alloc (.cells #[.int .i64 0, .int .i64 0, .int .i64 0] 24)).kept hb1
  have a0 := (Box.new (w.alloc (.cells #[.int .i64 0, .int .i64 0, .int .i64 0] 24)) #[.int .i64 0, .int .i64 0, .int .i64 0] 24).kept hb1
  have hB1 : Below w.heap.size w w1 := bel_step (((Below.refl _ _).alloc (Nat.le_refl _) _).alloc (by simp) _) hb1 (by simp; omega)
  clear hb1 hcut
  have a1 : Box w1 (w.heap.size + 1) #[.int .i64 0, .int .i64 0, .int .i64 0] 24 := by simpa using a0
  clear a0
  have b0c0 : w1.cell? ⟨w.heap.size, 0, none⟩ = some (.int .i64 0) := b0.cell 0
  have b0f0 : w1.frozen? ⟨w.heap.size, 0, none⟩ = false := b0.free 0
  have b0c1 : w1.cell? ⟨w.heap.size, 1, none⟩ = some (.int .i64 0) := b0.cell 1
  have b0f1 : w1.frozen? ⟨w.heap.size, 1, none⟩ = false := b0.free 1
  have b0c2 : w1.cell? ⟨w.heap.size, 2, none⟩ = some (.int .i64 0) := b0.cell 2
  have b0f2 : w1.frozen? ⟨w.heap.size, 2, none⟩ = false := b0.free 2
  have a1c0 : w1.cell? ⟨(w.heap.size + 1), 0, none⟩ = some (.int .i64 0) := a1.cell 0
  have a1f0 : w1.frozen? ⟨(w.heap.size + 1), 0, none⟩ = false := a1.free 0
  have a1c1 : w1.cell? ⟨(w.heap.size + 1), 1, none⟩ = some (.int .i64 0) := a1.cell 1
  have a1f1 : w1.frozen? ⟨(w.heap.size + 1), 1, none⟩ = false := a1.free 1
  have a1c2 : w1.cell? ⟨(w.heap.size + 1), 2, none⟩ = some (.int .i64 0) := a1.cell 2
  have a1f2 : w1.frozen? ⟨(w.heap.size + 1), 2, none⟩ = false := a1.free 2
  go_wp2
  obtain ⟨d0, d1, d2⟩ := set3 b0 rfl (.int .i64 0) (.int .i64 0) (.int .i64 0)
  refine bodyPost_ret (v := .tuple #[.agg #[.int .i64 0, .int .i64 0, .int .i64 0], .bool false]) (by simp [results, Tryd.results10, go_sem, d0, d1, d2]) rfl ⟨rfl, ?_⟩
  repeat (first | exact Below.refl _ _ | assumption | refine Below.setCell ?_ (by first | (simp; done) | (simp; omega) | omega) _ | refine Below.alloc ?_ (by first | (simp; done) | (simp; omega) | omega) _ | refine bel_drewN ?_ _ | refine Below.drew ?_)
theorem cut_as {t ah be : ByteArray} {d : Bool} (h : Lib.cut t.data.toList [46] = (ah.data.toList, be.data.toList, d)) (ht : t.size ≤ 3000000) (w : World) (he : REnv w) : Calls Tryd.prog 28 #[.string t, .string ⟨#[46]⟩] w fun e w' => e = .returned (.tuple #[.string ah, .string be, .bool d]) ∧ Below w.heap.size w w' := by
  have := cut_dot t ht w he
  rw [h] at this
  exact this
set_option maxRecDepth 100000 in
set_option maxHeartbeats 4000000 in
theorem rd_letter_yes (t : ByteArray) (ht : t.size ≤ 1048576) (h1 : 0 < t.size) (hw : Lib.containsS DevB.wds t = false) (j : Int) (hj : Lib.indexByte DevB.letters (t.data.toList.headD 0) = j) (h0 : 0 ≤ j) (h9 : j ≤ 9) (ah be : ByteArray) (d : Bool) (hcc : Lib.cut t.data.toList [46] = (ah.data.toList, be.data.toList, d)) (hah : ah.size + be.size ≤ 1048576)
    (n : Int) (hn : DevB.av (t.extract 1 t.size).data.toList = n) (tx : ByteArray) (htx0 : DevT.txt (1 + j) n 0 = tx) (hq : tx = t) (w : World) (henv : REnv w) : Calls Tryd.prog 10 #[.string t] w fun e w' => e = .returned (.tuple #[.agg #[.int .i64 (1 + j), .int .i64 n, .int .i64 0], .bool true]) ∧ Below w.heap.size w w' := by
  have hcut : ∀ w', Below w.heap.size w w' → Calls Tryd.prog 28 #[.string t, .string ⟨#[46]⟩] w' fun e w'' => e = .returned (.tuple #[.string ah, .string be, .bool d]) ∧ Below w'.heap.size w' w'' := fun w' hb => cut_as hcc (by omega) w' (henv.kept hb)
  have hcon : ∀ w', Below w.heap.size w w' → Calls Tryd.prog 29 #[.slice (some ⟨0, 0, none⟩) 4 4, .string t] w' fun e w'' => e = .returned (.bool false) ∧ w'' = w' := fun w' hb => hw ▸ con_w t w' (henv.kept hb)
  have hix : ∀ w', Calls Tryd.prog 31 #[.string ⟨#[88, 89, 77, 83, 69, 71, 84, 67, 68, 82]⟩, .int .u8 (t[0].toNat : Int)] w' fun e w'' => e = .returned (.int .i64 j) ∧ w'' = w' := fun w' => hj ▸ ix_head t h1 w'
  have hat : ∀ w', Below w.heap.size w w' → Calls Tryd.prog 32 #[.string (t.extract 1 t.size)] w' fun e w'' => ∃ ev, e = .returned (.tuple #[.int .i64 n, ev]) ∧ Below w'.heap.size w' w'' := fun w' hb => hn ▸ atoi_av (t.extract 1 t.size) (by simp [ByteArray.size_extract]; omega) w' (henv.kept hb)
  have htx : ∀ w', Below w.heap.size w w' → Calls Tryd.prog 7 #[.agg #[.int .i64 (1 + j), .int .i64 n, .int .i64 0]] w' fun e w'' => e = .returned (.string tx) ∧ Below w'.heap.size w' w'' := fun w' hb => htx0 ▸ devText_i_any (1 + j) n 0 w' (henv.kept hb).tab (henv.kept hb).wd
  have hgw : 0 < w.heap.size := henv.wd.lt (by kernel_rfl)
  clear htx0 hn hcc hj hw henv
  obtain ⟨n1, n2⟩ := ne_fact h1
  go_enter Tryd.func10, Tryd.ntmps10
  go_wp2_with fail
  refine (hcut _ (by repeat (first | exact Below.refl _ _ | assumption | refine Below.setCell ?_ (by first | (simp; done) | (simp; omega) | omega) _ | refine Below.alloc ?_ (by first | (simp; done) | (simp; omega) | omega) _ | refine bel_drewN ?_ _ | refine Below.drew ?_))).mono ?_
  rintro e w1 ⟨rfl, hb1⟩
  have b0 := ((Box.new w #[.int .i64 0, .int .i64 0, .int .i64 0] 24).alloc (.cells #[.int .i64 0, .int .i64 0, .int .i64 0] 24)).kept hb1
  have a0 := (Box.new (w.alloc (.cells #[.int .i64 0, .int .i64 0, .int .i64 0] 24)) #[.int .i64 0, .int .i64 0, .int .i64 0] 24).kept hb1
  have hB1 : Below w.heap.size w w1 := bel_step (((Below.refl _ _).alloc (Nat.le_refl _) _).alloc (by simp) _) hb1 (by simp; omega)
  clear hb1 hcut
  have a1 : Box w1 (w.heap.size + 1) #[.int .i64 0, .int .i64 0, .int .i64 0] 24 := by simpa using a0
  clear a0
  go_wp2_with fail
  refine (hcon _ (by assumption)).mono ?_
  rintro e w' ⟨rfl, rfl⟩
  go_wp2_with fail
  refine (hix _).mono ?_
  rintro e w' ⟨rfl, rfl⟩
  go_wp2_with fail
  refine (hat _ (by assumption)).mono ?_
  rintro e w2 ⟨ev, rfl, hb2⟩
  have b2 := b0.kept hb2
  have a2 := a1.kept hb2
  have hB2 := bel_step hB1 hb2 hB1.size
  clear hb2 hcon hat hB1 b0 a1
  have a2c0 : w2.cell? ⟨(w.heap.size + 1), 0, none⟩ = some (.int .i64 0) := a2.cell 0
  have a2f0 : w2.frozen? ⟨(w.heap.size + 1), 0, none⟩ = false := a2.free 0
  have a2c1 : w2.cell? ⟨(w.heap.size + 1), 1, none⟩ = some (.int .i64 0) := a2.cell 1
  have a2f1 : w2.frozen? ⟨(w.heap.size + 1), 1, none⟩ = false := a2.free 1
  have a2c2 : w2.cell? ⟨(w.heap.size + 1), 2, none⟩ = some (.int .i64 0) := a2.cell 2
  have a2f2 : w2.frozen? ⟨(w.heap.size + 1), 2, none⟩ = false := a2.free 2
  have b2c0 : w2.cell? ⟨w.heap.size, 0, none⟩ = some (.int .i64 0) := b2.cell 0
  have b2f0 : w2.frozen? ⟨w.heap.size, 0, none⟩ = false := b2.free 0
  have b2c1 : w2.cell? ⟨w.heap.size, 1, none⟩ = some (.int .i64 0) := b2.cell 1
  have b2f1 : w2.frozen? ⟨w.heap.size, 1, none⟩ = false := b2.free 1
  have b2c2 : w2.cell? ⟨w.heap.size, 2, none⟩ = some (.int .i64 0) := b2.cell 2
  have b2f2 : w2.frozen? ⟨w.heap.size, 2, none⟩ = false := b2.free 2
  obtain ⟨d0, d1, d2⟩ := set3 a2 rfl (.int .i64 (1 + j)) (.int .i64 n) (.int .i64 0)
  have a3 := ((a2.set 0 (.int .i64 (1 + j))).set 1 (.int .i64 n)).set 2 (.int .i64 0)
  have b3 := ((b2.far (p := ⟨(w.heap.size + 1), 0, none⟩) (by simp) (.int .i64 (1 + j))).far (p := ⟨(w.heap.size + 1), 1, none⟩) (by simp) (.int .i64 n)).far (p := ⟨(w.heap.size + 1), 2, none⟩) (by simp) (.int .i64 0)
  go_wp2_with fail
  refine (hix _).mono ?_
  rintro e w' ⟨rfl, rfl⟩
  go_wp2_with fail
  refine (htx _ (by repeat (first | exact Below.refl _ _ | assumption | refine Below.setCell ?_ (by first | (simp; done) | (simp; omega) | omega) _ | refine Below.alloc ?_ (by first | (simp; done) | (simp; omega) | omega) _ | refine bel_drewN ?_ _ | refine Below.drew ?_))).mono ?_
  rintro e w3 ⟨rfl, hb3⟩
  have a4 := a3.kept hb3
  have b4 := b3.kept hb3
  have hB3 : Below w.heap.size w w3 := bel_step (by repeat (first | exact Below.refl _ _ | assumption | refine Below.setCell ?_ (by first | (simp; done) | (simp; omega) | omega) _ | refine Below.alloc ?_ (by first | (simp; done) | (simp; omega) | omega) _ | refine bel_drewN ?_ _ | refine Below.drew ?_)) hb3 (by have := hB2.size; simp; omega)
  clear hb3 htx hix hB2 d0 d1 d2 a3 b3 a2 b2 a2c0 a2c1 a2c2 a2f0 a2f1 a2f2 b2c0 b2c1 b2c2 b2f0 b2f1 b2f2
  have a4c0 : w3.cell? ⟨(w.heap.size + 1), 0, none⟩ = some (.int .i64 (1 + j)) := a4.cell 0
  have a4f0 : w3.frozen? ⟨(w.heap.size + 1), 0, none⟩ = false := a4.free 0
  have a4c1 : w3.cell? ⟨(w.heap.size + 1), 1, none⟩ = some (.int .i64 n) := a4.cell 1
  have a4f1 : w3.frozen? ⟨(w.heap.size + 1), 1, none⟩ = false := a4.free 1
  have a4c2 : w3.cell? ⟨(w.heap.size + 1), 2, none⟩ = some (.int .i64 0) := a4.cell 2
  have a4f2 : w3.frozen? ⟨(w.heap.size + 1), 2, none⟩ = false := a4.free 2
  have b4c0 : w3.cell? ⟨w.heap.size, 0, none⟩ = some (.int .i64 0) := b4.cell 0
  have b4f0 : w3.frozen? ⟨w.heap.size, 0, none⟩ = false := b4.free 0
  have b4c1 : w3.cell? ⟨w.heap.size, 1, none⟩ = some (.int .i64 0) := b4.cell 1
  have b4f1 : w3.frozen? ⟨w.heap.size, 1, none⟩ = false := b4.free 1
  have b4c2 : w3.cell? ⟨w.heap.size, 2, none⟩ = some (.int .i64 0) := b4.cell 2
  have b4f2 : w3.frozen? ⟨w.heap.size, 2, none⟩ = false := b4.free 2
  go_wp2
  obtain ⟨d0, d1, d2⟩ := set3 b4 rfl (.int .i64 (1 + j)) (.int .i64 n) (.int .i64 0)
  refine bodyPost_ret (v := .tuple #[.agg #[.int .i64 (1 + j), .int .i64 n, .int .i64 0], .bool true]) (by simp [results, Tryd.results10, go_sem, d0, d1, d2]) rfl ⟨rfl, ?_⟩
  repeat (first | exact Below.refl _ _ | assumption | refine Below.setCell ?_ (by first | (simp; done) | (simp; omega) | omega) _ | refine Below.alloc ?_ (by first | (simp; done) | (simp; omega) | omega) _ | refine bel_drewN ?_ _ | refine Below.drew ?_)
set_option maxRecDepth 100000 in
set_option maxHeartbeats 4000000 in
theorem rd_letter_no (t : ByteArray) (ht : t.size ≤ 1048576) (h1 : 0 < t.size) (hw : Lib.containsS DevB.wds t = false) (j : Int) (hj : Lib.indexByte DevB.letters (t.data.toList.headD 0) = j) (h0 : 0 ≤ j) (h9 : j ≤ 9) (ah be : ByteArray) (d : Bool) (hcc : Lib.cut t.data.toList [46] = (ah.data.toList, be.data.toList, d)) (hah : ah.size + be.size ≤ 1048576)
    (n : Int) (hn : DevB.av (t.extract 1 t.size).data.toList = n) (tx : ByteArray) (htx0 : DevT.txt (1 + j) n 0 = tx) (hq : ¬ tx = t) (w : World) (henv : REnv w) : Calls Tryd.prog 10 #[.string t] w fun e w' => e = .returned (.tuple #[.agg #[.int .i64 0, .int .i64 0, .int .i64 0], .bool false]) ∧ Below w.heap.size w w' := by
  have hcut : ∀ w', Below w.heap.size w w' → Calls Tryd.prog 28 #[.string t, .string ⟨#[46]⟩] w' fun e w'' => e = .returned (.tuple #[.string ah, .string be, .bool d]) ∧ Below w'.heap.size w' w'' := fun w' hb => cut_as hcc (by omega) w' (henv.kept hb)
  have hcon : ∀ w', Below w.heap.size w w' → Calls Tryd.prog 29 #[.slice (some ⟨0, 0, none⟩) 4 4, .string t] w' fun e w'' => e = .returned (.bool false) ∧ w'' = w' := fun w' hb => hw ▸ con_w t w' (henv.kept hb)
  have hix : ∀ w', Calls Tryd.prog 31 #[.string ⟨#[88, 89, 77, 83, 69, 71, 84, 67, 68, 82]⟩, .int .u8 (t[0].toNat : Int)] w' fun e w'' => e = .returned (.int .i64 j) ∧ w'' = w' := fun w' => hj ▸ ix_head t h1 w'
  have hat : ∀ w', Below w.heap.size w w' → Calls Tryd.prog 32 #[.string (t.extract 1 t.size)] w' fun e w'' => ∃ ev, e = .returned (.tuple #[.int .i64 n, ev]) ∧ Below w'.heap.size w' w'' := fun w' hb => hn ▸ atoi_av (t.extract 1 t.size) (by simp [ByteArray.size_extract]; omega) w' (henv.kept hb)
  have htx : ∀ w', Below w.heap.size w w' → Calls Tryd.prog 7 #[.agg #[.int .i64 (1 + j), .int .i64 n, .int .i64 0]] w' fun e w'' => e = .returned (.string tx) ∧ Below w'.heap.size w' w'' := fun w' hb => htx0 ▸ devText_i_any (1 + j) n 0 w' (henv.kept hb).tab (henv.kept hb).wd
  have hgw : 0 < w.heap.size := henv.wd.lt (by kernel_rfl)
  clear htx0 hn hcc hj hw henv
  have hql : (tx.toList == t.toList) = false := beq_eq_false_iff_ne.2 (fun e => hq (ItoP.ext (by rw [← ByteArray.toList_eq, ← ByteArray.toList_eq]; exact e)))
  obtain ⟨n1, n2⟩ := ne_fact h1
  go_enter Tryd.func10, Tryd.ntmps10
  go_wp2_with fail
  refine (hcut _ (by repeat (first | exact Below.refl _ _ | assumption | refine Below.setCell ?_ (by first | (simp; done) | (simp; omega) | omega) _ | refine Below.alloc ?_ (by first | (simp; done) | (simp; omega) | omega) _ | refine bel_drewN ?_ _ | refine Below.drew ?_))).mono ?_
  rintro e w1 ⟨rfl, hb1⟩
  have b0 := ((Box.new w #[.int .i64 0, .int .i64 0, .int .i64 0] 24).alloc (.cells #[.int .i64 0, .int .i64 0, .int .i64 0] 24)).kept hb1
  have a0 := (Box.new (w.alloc (.cells #[.int .i64 0, .int .i64 0, .int .i64 0] 24)) #[.int .i64 0, .int .i64 0, .int .i64 0] 24).kept hb1
  have hB1 : Below w.heap.size w w1 := bel_step (((Below.refl _ _).alloc (Nat.le_refl _) _).alloc (by simp) _) hb1 (by simp; omega)
  clear hb1 hcut
  have a1 : Box w1 (w.heap.size + 1) #[.int .i64 0, .int .i64 0, .int .i64 0] 24 := by simpa using a0
  clear a0
  go_wp2_with fail
  refine (hcon _ (by assumption)).mono ?_
  rintro e w' ⟨rfl, rfl⟩
  go_wp2_with fail
  refine (hix _).mono ?_
  rintro e w' ⟨rfl, rfl⟩
  go_wp2_with fail
  refine (hat _ (by assumption)).mono ?_
  rintro e w2 ⟨ev, rfl, hb2⟩
  have b2 := b0.kept hb2
  have a2 := a1.kept hb2
  have hB2 := bel_step hB1 hb2 hB1.size
  clear hb2 hcon hat hB1 b0 a1
  have a2c0 : w2.cell? ⟨(w.heap.size + 1), 0, none⟩ = some (.int .i64 0) := a2.cell 0
  have a2f0 : w2.frozen? ⟨(w.heap.size + 1), 0, none⟩ = false := a2.free 0
  have a2c1 : w2.cell? ⟨(w.heap.size + 1), 1, none⟩ = some (.int .i64 0) := a2.cell 1
  have a2f1 : w2.frozen? ⟨(w.heap.size + 1), 1, none⟩ = false := a2.free 1
  have a2c2 : w2.cell? ⟨(w.heap.size + 1), 2, none⟩ = some (.int .i64 0) := a2.cell 2
  have a2f2 : w2.frozen? ⟨(w.heap.size + 1), 2, none⟩ = false := a2.free 2
  have b2c0 : w2.cell? ⟨w.heap.size, 0, none⟩ = some (.int .i64 0) := b2.cell 0
  have b2f0 : w2.frozen? ⟨w.heap.size, 0, none⟩ = false := b2.free 0
  have b2c1 : w2.cell? ⟨w.heap.size, 1, none⟩ = some (.int .i64 0) := b2.cell 1
  have b2f1 : w2.frozen? ⟨w.heap.size, 1, none⟩ = false := b2.free 1
  have b2c2 : w2.cell? ⟨w.heap.size, 2, none⟩ = some (.int .i64 0) := b2.cell 2
  have b2f2 : w2.frozen? ⟨w.heap.size, 2, none⟩ = false := b2.free 2
  obtain ⟨d0, d1, d2⟩ := set3 a2 rfl (.int .i64 (1 + j)) (.int .i64 n) (.int .i64 0)
  have a3 := ((a2.set 0 (.int .i64 (1 + j))).set 1 (.int .i64 n)).set 2 (.int .i64 0)
  have b3 := ((b2.far (p := ⟨(w.heap.size + 1), 0, none⟩) (by simp) (.int .i64 (1 + j))).far (p := ⟨(w.heap.size + 1), 1, none⟩) (by simp) (.int .i64 n)).far (p := ⟨(w.heap.size + 1), 2, none⟩) (by simp) (.int .i64 0)
  go_wp2_with fail
  refine (hix _).mono ?_
  rintro e w' ⟨rfl, rfl⟩
  go_wp2_with fail
  refine (htx _ (by repeat (first | exact Below.refl _ _ | assumption | refine Below.setCell ?_ (by first | (simp; done) | (simp; omega) | omega) _ | refine Below.alloc ?_ (by first | (simp; done) | (simp; omega) | omega) _ | refine bel_drewN ?_ _ | refine Below.drew ?_))).mono ?_
  rintro e w3 ⟨rfl, hb3⟩
  have a4 := a3.kept hb3
  have b4 := b3.kept hb3
  have hB3 : Below w.heap.size w w3 := bel_step (by repeat (first | exact Below.refl _ _ | assumption | refine Below.setCell ?_ (by first | (simp; done) | (simp; omega) | omega) _ | refine Below.alloc ?_ (by first | (simp; done) | (simp; omega) | omega) _ | refine bel_drewN ?_ _ | refine Below.drew ?_)) hb3 (by have := hB2.size; simp; omega)
  clear hb3 htx hix hB2 d0 d1 d2 a3 b3 a2 b2 a2c0 a2c1 a2c2 a2f0 a2f1 a2f2 b2c0 b2c1 b2c2 b2f0 b2f1 b2f2
  have a4c0 : w3.cell? ⟨(w.heap.size + 1), 0, none⟩ = some (.int .i64 (1 + j)) := a4.cell 0
  have a4f0 : w3.frozen? ⟨(w.heap.size + 1), 0, none⟩ = false := a4.free 0
  have a4c1 : w3.cell? ⟨(w.heap.size + 1), 1, none⟩ = some (.int .i64 n) := a4.cell 1
  have a4f1 : w3.frozen? ⟨(w.heap.size + 1), 1, none⟩ = false := a4.free 1
  have a4c2 : w3.cell? ⟨(w.heap.size + 1), 2, none⟩ = some (.int .i64 0) := a4.cell 2
  have a4f2 : w3.frozen? ⟨(w.heap.size + 1), 2, none⟩ = false := a4.free 2
  have b4c0 : w3.cell? ⟨w.heap.size, 0, none⟩ = some (.int .i64 0) := b4.cell 0
  have b4f0 : w3.frozen? ⟨w.heap.size, 0, none⟩ = false := b4.free 0
  have b4c1 : w3.cell? ⟨w.heap.size, 1, none⟩ = some (.int .i64 0) := b4.cell 1
  have b4f1 : w3.frozen? ⟨w.heap.size, 1, none⟩ = false := b4.free 1
  have b4c2 : w3.cell? ⟨w.heap.size, 2, none⟩ = some (.int .i64 0) := b4.cell 2
  have b4f2 : w3.frozen? ⟨w.heap.size, 2, none⟩ = false := b4.free 2
  go_wp2
  obtain ⟨d0, d1, d2⟩ := set3 b4 rfl (.int .i64 0) (.int .i64 0) (.int .i64 0)
  refine bodyPost_ret (v := .tuple #[.agg #[.int .i64 0, .int .i64 0, .int .i64 0], .bool false]) (by simp [results, Tryd.results10, go_sem, d0, d1, d2]) rfl ⟨rfl, ?_⟩
  repeat (first | exact Below.refl _ _ | assumption | refine Below.setCell ?_ (by first | (simp; done) | (simp; omega) | omega) _ | refine Below.alloc ?_ (by first | (simp; done) | (simp; omega) | omega) _ | refine bel_drewN ?_ _ | refine Below.drew ?_)
set_option maxRecDepth 100000 in
set_option maxHeartbeats 4000000 in
theorem rd_dec_yes (t : ByteArray) (ht : t.size ≤ 1048576) (h1 : 0 < t.size) (hw : Lib.containsS DevB.wds t = false) (j : Int) (hj : Lib.indexByte DevB.letters (t.data.toList.headD 0) = j) (h0 : j < 0) (h9 : -1 ≤ j) (ah be : ByteArray) (hcc : Lib.cut t.data.toList [46] = (ah.data.toList, be.data.toList, true)) (hah : ah.size + be.size ≤ 1048576)
    (n : Int) (hn : DevB.av (ah ++ be).data.toList = n) (tx : ByteArray) (htx0 : DevT.txt (12) n be.size = tx) (hq : tx = t) (w : World) (henv : REnv w) : Calls Tryd.prog 10 #[.string t] w fun e w' => e = .returned (.tuple #[.agg #[.int .i64 (12), .int .i64 n, .int .i64 be.size], .bool true]) ∧ Below w.heap.size w w' := by
  have hcut : ∀ w', Below w.heap.size w w' → Calls Tryd.prog 28 #[.string t, .string ⟨#[46]⟩] w' fun e w'' => e = .returned (.tuple #[.string ah, .string be, .bool true]) ∧ Below w'.heap.size w' w'' := fun w' hb => cut_as hcc (by omega) w' (henv.kept hb)
  have hcon : ∀ w', Below w.heap.size w w' → Calls Tryd.prog 29 #[.slice (some ⟨0, 0, none⟩) 4 4, .string t] w' fun e w'' => e = .returned (.bool false) ∧ w'' = w' := fun w' hb => hw ▸ con_w t w' (henv.kept hb)
  have hix : ∀ w', Calls Tryd.prog 31 #[.string ⟨#[88, 89, 77, 83, 69, 71, 84, 67, 68, 82]⟩, .int .u8 (t[0].toNat : Int)] w' fun e w'' => e = .returned (.int .i64 j) ∧ w'' = w' := fun w' => hj ▸ ix_head t h1 w'
  have hat : ∀ w', Below w.heap.size w w' → Calls Tryd.prog 32 #[.string (ah ++ be)] w' fun e w'' => ∃ ev, e = .returned (.tuple #[.int .i64 n, ev]) ∧ Below w'.heap.size w' w'' := fun w' hb => hn ▸ atoi_av (ah ++ be) (by simp [ByteArray.size_append]; omega) w' (henv.kept hb)
  have htx : ∀ w', Below w.heap.size w w' → Calls Tryd.prog 7 #[.agg #[.int .i64 (12), .int .i64 n, .int .i64 be.size]] w' fun e w'' => e = .returned (.string tx) ∧ Below w'.heap.size w' w'' := fun w' hb => htx0 ▸ devText_i_any (12) n be.size w' (henv.kept hb).tab (henv.kept hb).wd
  have hgw : 0 < w.heap.size := henv.wd.lt (by kernel_rfl)
  clear htx0 hn hcc hj hw henv
  have hsz : ¬ (ah.size + be.size > 9223372036854775807) := by omega
  obtain ⟨n1, n2⟩ := ne_fact h1
  go_enter Tryd.func10, Tryd.ntmps10
  go_wp2_with fail
  refine (hcut _ (by repeat (first | exact Below.refl _ _ | assumption | refine Below.setCell ?_ (by first | (simp; done) | (simp; omega) | omega) _ | refine Below.alloc ?_ (by first | (simp; done) | (simp; omega) | omega) _ | refine bel_drewN ?_ _ | refine Below.drew ?_))).mono ?_
  rintro e w1 ⟨rfl, hb1⟩
  have b0 := ((Box.new w #[.int .i64 0, .int .i64 0, .int .i64 0] 24).alloc (.cells #[.int .i64 0, .int .i64 0, .int .i64 0] 24)).kept hb1
  have a0 := (Box.new (w.alloc (.cells #[.int .i64 0, .int .i64 0, .int .i64 0] 24)) #[.int .i64 0, .int .i64 0, .int .i64 0] 24).kept hb1
  have hB1 : Below w.heap.size w w1 := bel_step (((Below.refl _ _).alloc (Nat.le_refl _) _).alloc (by simp) _) hb1 (by simp; omega)
  clear hb1 hcut
  have a1 : Box w1 (w.heap.size + 1) #[.int .i64 0, .int .i64 0, .int .i64 0] 24 := by simpa using a0
  clear a0
  go_wp2_with fail
  refine (hcon _ (by assumption)).mono ?_
  rintro e w' ⟨rfl, rfl⟩
  go_wp2_with fail
  refine (hix _).mono ?_
  rintro e w' ⟨rfl, rfl⟩
  go_wp2_with fail
  refine (hat _ (by assumption)).mono ?_
  rintro e w2 ⟨ev, rfl, hb2⟩
  have b2 := b0.kept hb2
  have a2 := a1.kept hb2
  have hB2 := bel_step hB1 hb2 hB1.size
  clear hb2 hcon hat hB1 b0 a1
  have a2c0 : w2.cell? ⟨(w.heap.size + 1), 0, none⟩ = some (.int .i64 0) := a2.cell 0
  have a2f0 : w2.frozen? ⟨(w.heap.size + 1), 0, none⟩ = false := a2.free 0
  have a2c1 : w2.cell? ⟨(w.heap.size + 1), 1, none⟩ = some (.int .i64 0) := a2.cell 1
  have a2f1 : w2.frozen? ⟨(w.heap.size + 1), 1, none⟩ = false := a2.free 1
  have a2c2 : w2.cell? ⟨(w.heap.size + 1), 2, none⟩ = some (.int .i64 0) := a2.cell 2
  have a2f2 : w2.frozen? ⟨(w.heap.size + 1), 2, none⟩ = false := a2.free 2
  have b2c0 : w2.cell? ⟨w.heap.size, 0, none⟩ = some (.int .i64 0) := b2.cell 0
  have b2f0 : w2.frozen? ⟨w.heap.size, 0, none⟩ = false := b2.free 0
  have b2c1 : w2.cell? ⟨w.heap.size, 1, none⟩ = some (.int .i64 0) := b2.cell 1
  have b2f1 : w2.frozen? ⟨w.heap.size, 1, none⟩ = false := b2.free 1
  have b2c2 : w2.cell? ⟨w.heap.size, 2, none⟩ = some (.int .i64 0) := b2.cell 2
  have b2f2 : w2.frozen? ⟨w.heap.size, 2, none⟩ = false := b2.free 2
  obtain ⟨d0, d1, d2⟩ := set3 a2 rfl (.int .i64 (12)) (.int .i64 n) (.int .i64 be.size)
  have a3 := ((a2.set 0 (.int .i64 (12))).set 1 (.int .i64 n)).set 2 (.int .i64 be.size)
  have b3 := ((b2.far (p := ⟨(w.heap.size + 1), 0, none⟩) (by simp) (.int .i64 (12))).far (p := ⟨(w.heap.size + 1), 1, none⟩) (by simp) (.int .i64 n)).far (p := ⟨(w.heap.size + 1), 2, none⟩) (by simp) (.int .i64 be.size)
  go_wp2_with fail
  refine (htx _ (by repeat (first | exact Below.refl _ _ | assumption | refine Below.setCell ?_ (by first | (simp; done) | (simp; omega) | omega) _ | refine Below.alloc ?_ (by first | (simp; done) | (simp; omega) | omega) _ | refine bel_drewN ?_ _ | refine Below.drew ?_))).mono ?_
  rintro e w3 ⟨rfl, hb3⟩
  have a4 := a3.kept hb3
  have b4 := b3.kept hb3
  have hB3 : Below w.heap.size w w3 := bel_step (by repeat (first | exact Below.refl _ _ | assumption | refine Below.setCell ?_ (by first | (simp; done) | (simp; omega) | omega) _ | refine Below.alloc ?_ (by first | (simp; done) | (simp; omega) | omega) _ | refine bel_drewN ?_ _ | refine Below.drew ?_)) hb3 (by have := hB2.size; simp; omega)
  clear hb3 htx hix hB2 d0 d1 d2 a3 b3 a2 b2 a2c0 a2c1 a2c2 a2f0 a2f1 a2f2 b2c0 b2c1 b2c2 b2f0 b2f1 b2f2
  have a4c0 : w3.cell? ⟨(w.heap.size + 1), 0, none⟩ = some (.int .i64 (12)) := a4.cell 0
  have a4f0 : w3.frozen? ⟨(w.heap.size + 1), 0, none⟩ = false := a4.free 0
  have a4c1 : w3.cell? ⟨(w.heap.size + 1), 1, none⟩ = some (.int .i64 n) := a4.cell 1
  have a4f1 : w3.frozen? ⟨(w.heap.size + 1), 1, none⟩ = false := a4.free 1
  have a4c2 : w3.cell? ⟨(w.heap.size + 1), 2, none⟩ = some (.int .i64 be.size) := a4.cell 2
  have a4f2 : w3.frozen? ⟨(w.heap.size + 1), 2, none⟩ = false := a4.free 2
  have b4c0 : w3.cell? ⟨w.heap.size, 0, none⟩ = some (.int .i64 0) := b4.cell 0
  have b4f0 : w3.frozen? ⟨w.heap.size, 0, none⟩ = false := b4.free 0
  have b4c1 : w3.cell? ⟨w.heap.size, 1, none⟩ = some (.int .i64 0) := b4.cell 1
  have b4f1 : w3.frozen? ⟨w.heap.size, 1, none⟩ = false := b4.free 1
  have b4c2 : w3.cell? ⟨w.heap.size, 2, none⟩ = some (.int .i64 0) := b4.cell 2
  have b4f2 : w3.frozen? ⟨w.heap.size, 2, none⟩ = false := b4.free 2
  go_wp2
  obtain ⟨d0, d1, d2⟩ := set3 b4 rfl (.int .i64 (12)) (.int .i64 n) (.int .i64 be.size)
  refine bodyPost_ret (v := .tuple #[.agg #[.int .i64 (12), .int .i64 n, .int .i64 be.size], .bool true]) (by simp [results, Tryd.results10, go_sem, d0, d1, d2]) rfl ⟨rfl, ?_⟩
  repeat (first | exact Below.refl _ _ | assumption | refine Below.setCell ?_ (by first | (simp; done) | (simp; omega) | omega) _ | refine Below.alloc ?_ (by first | (simp; done) | (simp; omega) | omega) _ | refine bel_drewN ?_ _ | refine Below.drew ?_)
set_option maxRecDepth 100000 in
set_option maxHeartbeats 4000000 in
theorem rd_dec_no (t : ByteArray) (ht : t.size ≤ 1048576) (h1 : 0 < t.size) (hw : Lib.containsS DevB.wds t = false) (j : Int) (hj : Lib.indexByte DevB.letters (t.data.toList.headD 0) = j) (h0 : j < 0) (h9 : -1 ≤ j) (ah be : ByteArray) (hcc : Lib.cut t.data.toList [46] = (ah.data.toList, be.data.toList, true)) (hah : ah.size + be.size ≤ 1048576)
    (n : Int) (hn : DevB.av (ah ++ be).data.toList = n) (tx : ByteArray) (htx0 : DevT.txt (12) n be.size = tx) (hq : ¬ tx = t) (w : World) (henv : REnv w) : Calls Tryd.prog 10 #[.string t] w fun e w' => e = .returned (.tuple #[.agg #[.int .i64 0, .int .i64 0, .int .i64 0], .bool false]) ∧ Below w.heap.size w w' := by
  have hcut : ∀ w', Below w.heap.size w w' → Calls Tryd.prog 28 #[.string t, .string ⟨#[46]⟩] w' fun e w'' => e = .returned (.tuple #[.string ah, .string be, .bool true]) ∧ Below w'.heap.size w' w'' := fun w' hb => cut_as hcc (by omega) w' (henv.kept hb)
  have hcon : ∀ w', Below w.heap.size w w' → Calls Tryd.prog 29 #[.slice (some ⟨0, 0, none⟩) 4 4, .string t] w' fun e w'' => e = .returned (.bool false) ∧ w'' = w' := fun w' hb => hw ▸ con_w t w' (henv.kept hb)
  have hix : ∀ w', Calls Tryd.prog 31 #[.string ⟨#[88, 89, 77, 83, 69, 71, 84, 67, 68, 82]⟩, .int .u8 (t[0].toNat : Int)] w' fun e w'' => e = .returned (.int .i64 j) ∧ w'' = w' := fun w' => hj ▸ ix_head t h1 w'
  have hat : ∀ w', Below w.heap.size w w' → Calls Tryd.prog 32 #[.string (ah ++ be)] w' fun e w'' => ∃ ev, e = .returned (.tuple #[.int .i64 n, ev]) ∧ Below w'.heap.size w' w'' := fun w' hb => hn ▸ atoi_av (ah ++ be) (by simp [ByteArray.size_append]; omega) w' (henv.kept hb)
  have htx : ∀ w', Below w.heap.size w w' → Calls Tryd.prog 7 #[.agg #[.int .i64 (12), .int .i64 n, .int .i64 be.size]] w' fun e w'' => e = .returned (.string tx) ∧ Below w'.heap.size w' w'' := fun w' hb => htx0 ▸ devText_i_any (12) n be.size w' (henv.kept hb).tab (henv.kept hb).wd
  have hgw : 0 < w.heap.size := henv.wd.lt (by kernel_rfl)
  clear htx0 hn hcc hj hw henv
  have hsz : ¬ (ah.size + be.size > 9223372036854775807) := by omega
  have hql : (tx.toList == t.toList) = false := beq_eq_false_iff_ne.2 (fun e => hq (ItoP.ext (by rw [← ByteArray.toList_eq, ← ByteArray.toList_eq]; exact e)))
  obtain ⟨n1, n2⟩ := ne_fact h1
  go_enter Tryd.func10, Tryd.ntmps10
  go_wp2_with fail
  refine (hcut _ (by repeat (first | exact Below.refl _ _ | assumption | refine Below.setCell ?_ (by first | (simp; done) | (simp; omega) | omega) _ | refine Below.alloc ?_ (by first | (simp; done) | (simp; omega) | omega) _ | refine bel_drewN ?_ _ | refine Below.drew ?_))).mono ?_
  rintro e w1 ⟨rfl, hb1⟩
  have b0 := ((Box.new w #[.int .i64 0, .int .i64 0, .int .i64 0] 24).alloc (.cells #[.int .i64 0, .int .i64 0, .int .i64 0] 24)).kept hb1
  have a0 := (Box.new (w.alloc (.cells #[.int .i64 0, .int .i64 0, .int .i64 0] 24)) #[.int .i64 0, .int .i64 0, .int .i64 0] 24).kept hb1
  have hB1 : Below w.heap.size w w1 := bel_step (((Below.refl _ _).alloc (Nat.le_refl _) _).alloc (by simp) _) hb1 (by simp; omega)
  clear hb1 hcut
  have a1 : Box w1 (w.heap.size + 1) #[.int .i64 0, .int .i64 0, .int .i64 0] 24 := by simpa using a0
  clear a0
  go_wp2_with fail
  refine (hcon _ (by assumption)).mono ?_
  rintro e w' ⟨rfl, rfl⟩
  go_wp2_with fail
  refine (hix _).mono ?_
  rintro e w' ⟨rfl, rfl⟩
  go_wp2_with fail
  refine (hat _ (by assumption)).mono ?_
  rintro e w2 ⟨ev, rfl, hb2⟩
  have b2 := b0.kept hb2
  have a2 := a1.kept hb2
  have hB2 := bel_step hB1 hb2 hB1.size
  clear hb2 hcon hat hB1 b0 a1
  have a2c0 : w2.cell? ⟨(w.heap.size + 1), 0, none⟩ = some (.int .i64 0) := a2.cell 0
  have a2f0 : w2.frozen? ⟨(w.heap.size + 1), 0, none⟩ = false := a2.free 0
  have a2c1 : w2.cell? ⟨(w.heap.size + 1), 1, none⟩ = some (.int .i64 0) := a2.cell 1
  have a2f1 : w2.frozen? ⟨(w.heap.size + 1), 1, none⟩ = false := a2.free 1
  have a2c2 : w2.cell? ⟨(w.heap.size + 1), 2, none⟩ = some (.int .i64 0) := a2.cell 2
  have a2f2 : w2.frozen? ⟨(w.heap.size + 1), 2, none⟩ = false := a2.free 2
  have b2c0 : w2.cell? ⟨w.heap.size, 0, none⟩ = some (.int .i64 0) := b2.cell 0
  have b2f0 : w2.frozen? ⟨w.heap.size, 0, none⟩ = false := b2.free 0
  have b2c1 : w2.cell? ⟨w.heap.size, 1, none⟩ = some (.int .i64 0) := b2.cell 1
  have b2f1 : w2.frozen? ⟨w.heap.size, 1, none⟩ = false := b2.free 1
  have b2c2 : w2.cell? ⟨w.heap.size, 2, none⟩ = some (.int .i64 0) := b2.cell 2
  have b2f2 : w2.frozen? ⟨w.heap.size, 2, none⟩ = false := b2.free 2
  obtain ⟨d0, d1, d2⟩ := set3 a2 rfl (.int .i64 (12)) (.int .i64 n) (.int .i64 be.size)
  have a3 := ((a2.set 0 (.int .i64 (12))).set 1 (.int .i64 n)).set 2 (.int .i64 be.size)
  have b3 := ((b2.far (p := ⟨(w.heap.size + 1), 0, none⟩) (by simp) (.int .i64 (12))).far (p := ⟨(w.heap.size + 1), 1, none⟩) (by simp) (.int .i64 n)).far (p := ⟨(w.heap.size + 1), 2, none⟩) (by simp) (.int .i64 be.size)
  go_wp2_with fail
  refine (htx _ (by repeat (first | exact Below.refl _ _ | assumption | refine Below.setCell ?_ (by first | (simp; done) | (simp; omega) | omega) _ | refine Below.alloc ?_ (by first | (simp; done) | (simp; omega) | omega) _ | refine bel_drewN ?_ _ | refine Below.drew ?_))).mono ?_
  rintro e w3 ⟨rfl, hb3⟩
  have a4 := a3.kept hb3
  have b4 := b3.kept hb3
  have hB3 : Below w.heap.size w w3 := bel_step (by repeat (first | exact Below.refl _ _ | assumption | refine Below.setCell ?_ (by first | (simp; done) | (simp; omega) | omega) _ | refine Below.alloc ?_ (by first | (simp; done) | (simp; omega) | omega) _ | refine bel_drewN ?_ _ | refine Below.drew ?_)) hb3 (by have := hB2.size; simp; omega)
  clear hb3 htx hix hB2 d0 d1 d2 a3 b3 a2 b2 a2c0 a2c1 a2c2 a2f0 a2f1 a2f2 b2c0 b2c1 b2c2 b2f0 b2f1 b2f2
  have a4c0 : w3.cell? ⟨(w.heap.size + 1), 0, none⟩ = some (.int .i64 (12)) := a4.cell 0
  have a4f0 : w3.frozen? ⟨(w.heap.size + 1), 0, none⟩ = false := a4.free 0
  have a4c1 : w3.cell? ⟨(w.heap.size + 1), 1, none⟩ = some (.int .i64 n) := a4.cell 1
  have a4f1 : w3.frozen? ⟨(w.heap.size + 1), 1, none⟩ = false := a4.free 1
  have a4c2 : w3.cell? ⟨(w.heap.size + 1), 2, none⟩ = some (.int .i64 be.size) := a4.cell 2
  have a4f2 : w3.frozen? ⟨(w.heap.size + 1), 2, none⟩ = false := a4.free 2
  have b4c0 : w3.cell? ⟨w.heap.size, 0, none⟩ = some (.int .i64 0) := b4.cell 0
  have b4f0 : w3.frozen? ⟨w.heap.size, 0, none⟩ = false := b4.free 0
  have b4c1 : w3.cell? ⟨w.heap.size, 1, none⟩ = some (.int .i64 0) := b4.cell 1
  have b4f1 : w3.frozen? ⟨w.heap.size, 1, none⟩ = false := b4.free 1
  have b4c2 : w3.cell? ⟨w.heap.size, 2, none⟩ = some (.int .i64 0) := b4.cell 2
  have b4f2 : w3.frozen? ⟨w.heap.size, 2, none⟩ = false := b4.free 2
  go_wp2
  obtain ⟨d0, d1, d2⟩ := set3 b4 rfl (.int .i64 0) (.int .i64 0) (.int .i64 0)
  refine bodyPost_ret (v := .tuple #[.agg #[.int .i64 0, .int .i64 0, .int .i64 0], .bool false]) (by simp [results, Tryd.results10, go_sem, d0, d1, d2]) rfl ⟨rfl, ?_⟩
  repeat (first | exact Below.refl _ _ | assumption | refine Below.setCell ?_ (by first | (simp; done) | (simp; omega) | omega) _ | refine Below.alloc ?_ (by first | (simp; done) | (simp; omega) | omega) _ | refine bel_drewN ?_ _ | refine Below.drew ?_)
set_option maxRecDepth 100000 in
set_option maxHeartbeats 4000000 in
theorem rd_int_yes (t : ByteArray) (ht : t.size ≤ 1048576) (h1 : 0 < t.size) (hw : Lib.containsS DevB.wds t = false) (j : Int) (hj : Lib.indexByte DevB.letters (t.data.toList.headD 0) = j) (h0 : j < 0) (h9 : -1 ≤ j) (ah be : ByteArray) (hcc : Lib.cut t.data.toList [46] = (ah.data.toList, be.data.toList, false)) (hah : ah.size + be.size ≤ 1048576)
    (n : Int) (hn : DevB.av (t).data.toList = n) (tx : ByteArray) (htx0 : DevT.txt (11) n 0 = tx) (hq : tx = t) (w : World) (henv : REnv w) : Calls Tryd.prog 10 #[.string t] w fun e w' => e = .returned (.tuple #[.agg #[.int .i64 (11), .int .i64 n, .int .i64 0], .bool true]) ∧ Below w.heap.size w w' := by
  have hcut : ∀ w', Below w.heap.size w w' → Calls Tryd.prog 28 #[.string t, .string ⟨#[46]⟩] w' fun e w'' => e = .returned (.tuple #[.string ah, .string be, .bool false]) ∧ Below w'.heap.size w' w'' := fun w' hb => cut_as hcc (by omega) w' (henv.kept hb)
  have hcon : ∀ w', Below w.heap.size w w' → Calls Tryd.prog 29 #[.slice (some ⟨0, 0, none⟩) 4 4, .string t] w' fun e w'' => e = .returned (.bool false) ∧ w'' = w' := fun w' hb => hw ▸ con_w t w' (henv.kept hb)
  have hix : ∀ w', Calls Tryd.prog 31 #[.string ⟨#[88, 89, 77, 83, 69, 71, 84, 67, 68, 82]⟩, .int .u8 (t[0].toNat : Int)] w' fun e w'' => e = .returned (.int .i64 j) ∧ w'' = w' := fun w' => hj ▸ ix_head t h1 w'
  have hat : ∀ w', Below w.heap.size w w' → Calls Tryd.prog 32 #[.string (t)] w' fun e w'' => ∃ ev, e = .returned (.tuple #[.int .i64 n, ev]) ∧ Below w'.heap.size w' w'' := fun w' hb => hn ▸ atoi_av (t) (by omega) w' (henv.kept hb)
  have htx : ∀ w', Below w.heap.size w w' → Calls Tryd.prog 7 #[.agg #[.int .i64 (11), .int .i64 n, .int .i64 0]] w' fun e w'' => e = .returned (.string tx) ∧ Below w'.heap.size w' w'' := fun w' hb => htx0 ▸ devText_i_any (11) n 0 w' (henv.kept hb).tab (henv.kept hb).wd
  have hgw : 0 < w.heap.size := henv.wd.lt (by kernel_rfl)
  clear htx0 hn hcc hj hw henv
  obtain ⟨n1, n2⟩ := ne_fact h1
  go_enter Tryd.func10, Tryd.ntmps10
  go_wp2_with fail
  refine (hcut _ (by repeat (first | exact Below.refl _ _ | assumption | refine Below.setCell ?_ (by first | (simp; done) | (simp; omega) | omega) _ | refine Below.alloc ?_ (by first | (simp; done) | (simp; omega) | omega) _ | refine bel_drewN ?_ _ | refine Below.drew ?_))).mono ?_
  rintro e w1 ⟨rfl, hb1⟩
  have b0 := ((Box.new w #[.int .i64 0, .int .i64 0, .int .i64 0] 24).alloc (.cells #[.int .i64 0, .int .i64 0, .int .i64 0] 24)).kept hb1
  have a0 := (Box.new (w.alloc (.cells #[.int .i64 0, .int .i64 0, .int .i64 0] 24)) #[.int .i64 0, .int .i64 0, .int .i64 0] 24).kept hb1
  have hB1 : Below w.heap.size w w1 := bel_step (((Below.refl _ _).alloc (Nat.le_refl _) _).alloc (by simp) _) hb1 (by simp; omega)
  clear hb1 hcut
  have a1 : Box w1 (w.heap.size + 1) #[.int .i64 0, .int .i64 0, .int .i64 0] 24 := by simpa using a0
  clear a0
  go_wp2_with fail
  refine (hcon _ (by assumption)).mono ?_
  rintro e w' ⟨rfl, rfl⟩
  go_wp2_with fail
  refine (hix _).mono ?_
  rintro e w' ⟨rfl, rfl⟩
  go_wp2_with fail
  refine (hat _ (by assumption)).mono ?_
  rintro e w2 ⟨ev, rfl, hb2⟩
  have b2 := b0.kept hb2
  have a2 := a1.kept hb2
  have hB2 := bel_step hB1 hb2 hB1.size
  clear hb2 hcon hat hB1 b0 a1
  have a2c0 : w2.cell? ⟨(w.heap.size + 1), 0, none⟩ = some (.int .i64 0) := a2.cell 0
  have a2f0 : w2.frozen? ⟨(w.heap.size + 1), 0, none⟩ = false := a2.free 0
  have a2c1 : w2.cell? ⟨(w.heap.size + 1), 1, none⟩ = some (.int .i64 0) := a2.cell 1
  have a2f1 : w2.frozen? ⟨(w.heap.size + 1), 1, none⟩ = false := a2.free 1
  have a2c2 : w2.cell? ⟨(w.heap.size + 1), 2, none⟩ = some (.int .i64 0) := a2.cell 2
  have a2f2 : w2.frozen? ⟨(w.heap.size + 1), 2, none⟩ = false := a2.free 2
  have b2c0 : w2.cell? ⟨w.heap.size, 0, none⟩ = some (.int .i64 0) := b2.cell 0
  have b2f0 : w2.frozen? ⟨w.heap.size, 0, none⟩ = false := b2.free 0
  have b2c1 : w2.cell? ⟨w.heap.size, 1, none⟩ = some (.int .i64 0) := b2.cell 1
  have b2f1 : w2.frozen? ⟨w.heap.size, 1, none⟩ = false := b2.free 1
  have b2c2 : w2.cell? ⟨w.heap.size, 2, none⟩ = some (.int .i64 0) := b2.cell 2
  have b2f2 : w2.frozen? ⟨w.heap.size, 2, none⟩ = false := b2.free 2
  obtain ⟨d0, d1, d2⟩ := set3 a2 rfl (.int .i64 (11)) (.int .i64 n) (.int .i64 0)
  have a3 := ((a2.set 0 (.int .i64 (11))).set 1 (.int .i64 n)).set 2 (.int .i64 0)
  have b3 := ((b2.far (p := ⟨(w.heap.size + 1), 0, none⟩) (by simp) (.int .i64 (11))).far (p := ⟨(w.heap.size + 1), 1, none⟩) (by simp) (.int .i64 n)).far (p := ⟨(w.heap.size + 1), 2, none⟩) (by simp) (.int .i64 0)
  go_wp2_with fail
  refine (htx _ (by repeat (first | exact Below.refl _ _ | assumption | refine Below.setCell ?_ (by first | (simp; done) | (simp; omega) | omega) _ | refine Below.alloc ?_ (by first | (simp; done) | (simp; omega) | omega) _ | refine bel_drewN ?_ _ | refine Below.drew ?_))).mono ?_
  rintro e w3 ⟨rfl, hb3⟩
  have a4 := a3.kept hb3
  have b4 := b3.kept hb3
  have hB3 : Below w.heap.size w w3 := bel_step (by repeat (first | exact Below.refl _ _ | assumption | refine Below.setCell ?_ (by first | (simp; done) | (simp; omega) | omega) _ | refine Below.alloc ?_ (by first | (simp; done) | (simp; omega) | omega) _ | refine bel_drewN ?_ _ | refine Below.drew ?_)) hb3 (by have := hB2.size; simp; omega)
  clear hb3 htx hix hB2 d0 d1 d2 a3 b3 a2 b2 a2c0 a2c1 a2c2 a2f0 a2f1 a2f2 b2c0 b2c1 b2c2 b2f0 b2f1 b2f2
  have a4c0 : w3.cell? ⟨(w.heap.size + 1), 0, none⟩ = some (.int .i64 (11)) := a4.cell 0
  have a4f0 : w3.frozen? ⟨(w.heap.size + 1), 0, none⟩ = false := a4.free 0
  have a4c1 : w3.cell? ⟨(w.heap.size + 1), 1, none⟩ = some (.int .i64 n) := a4.cell 1
  have a4f1 : w3.frozen? ⟨(w.heap.size + 1), 1, none⟩ = false := a4.free 1
  have a4c2 : w3.cell? ⟨(w.heap.size + 1), 2, none⟩ = some (.int .i64 0) := a4.cell 2
  have a4f2 : w3.frozen? ⟨(w.heap.size + 1), 2, none⟩ = false := a4.free 2
  have b4c0 : w3.cell? ⟨w.heap.size, 0, none⟩ = some (.int .i64 0) := b4.cell 0
  have b4f0 : w3.frozen? ⟨w.heap.size, 0, none⟩ = false := b4.free 0
  have b4c1 : w3.cell? ⟨w.heap.size, 1, none⟩ = some (.int .i64 0) := b4.cell 1
  have b4f1 : w3.frozen? ⟨w.heap.size, 1, none⟩ = false := b4.free 1
  have b4c2 : w3.cell? ⟨w.heap.size, 2, none⟩ = some (.int .i64 0) := b4.cell 2
  have b4f2 : w3.frozen? ⟨w.heap.size, 2, none⟩ = false := b4.free 2
  go_wp2
  obtain ⟨d0, d1, d2⟩ := set3 b4 rfl (.int .i64 (11)) (.int .i64 n) (.int .i64 0)
  refine bodyPost_ret (v := .tuple #[.agg #[.int .i64 (11), .int .i64 n, .int .i64 0], .bool true]) (by simp [results, Tryd.results10, go_sem, d0, d1, d2]) rfl ⟨rfl, ?_⟩
  repeat (first | exact Below.refl _ _ | assumption | refine Below.setCell ?_ (by first | (simp; done) | (simp; omega) | omega) _ | refine Below.alloc ?_ (by first | (simp; done) | (simp; omega) | omega) _ | refine bel_drewN ?_ _ | refine Below.drew ?_)
set_option maxRecDepth 100000 in
set_option maxHeartbeats 4000000 in
theorem rd_int_no (t : ByteArray) (ht : t.size ≤ 1048576) (h1 : 0 < t.size) (hw : Lib.containsS DevB.wds t = false) (j : Int) (hj : Lib.indexByte DevB.letters (t.data.toList.headD 0) = j) (h0 : j < 0) (h9 : -1 ≤ j) (ah be : ByteArray) (hcc : Lib.cut t.data.toList [46] = (ah.data.toList, be.data.toList, false)) (hah : ah.size + be.size ≤ 1048576)
    (n : Int) (hn : DevB.av (t).data.toList = n) (tx : ByteArray) (htx0 : DevT.txt (11) n 0 = tx) (hq : ¬ tx = t) (w : World) (henv : REnv w) : Calls Tryd.prog 10 #[.string t] w fun e w' => e = .returned (.tuple #[.agg #[.int .i64 0, .int .i64 0, .int .i64 0], .bool false]) ∧ Below w.heap.size w w' := by
  have hcut : ∀ w', Below w.heap.size w w' → Calls Tryd.prog 28 #[.string t, .string ⟨#[46]⟩] w' fun e w'' => e = .returned (.tuple #[.string ah, .string be, .bool false]) ∧ Below w'.heap.size w' w'' := fun w' hb => cut_as hcc (by omega) w' (henv.kept hb)
  have hcon : ∀ w', Below w.heap.size w w' → Calls Tryd.prog 29 #[.slice (some ⟨0, 0, none⟩) 4 4, .string t] w' fun e w'' => e = .returned (.bool false) ∧ w'' = w' := fun w' hb => hw ▸ con_w t w' (henv.kept hb)
  have hix : ∀ w', Calls Tryd.prog 31 #[.string ⟨#[88, 89, 77, 83, 69, 71, 84, 67, 68, 82]⟩, .int .u8 (t[0].toNat : Int)] w' fun e w'' => e = .returned (.int .i64 j) ∧ w'' = w' := fun w' => hj ▸ ix_head t h1 w'
  have hat : ∀ w', Below w.heap.size w w' → Calls Tryd.prog 32 #[.string (t)] w' fun e w'' => ∃ ev, e = .returned (.tuple #[.int .i64 n, ev]) ∧ Below w'.heap.size w' w'' := fun w' hb => hn ▸ atoi_av (t) (by omega) w' (henv.kept hb)
  have htx : ∀ w', Below w.heap.size w w' → Calls Tryd.prog 7 #[.agg #[.int .i64 (11), .int .i64 n, .int .i64 0]] w' fun e w'' => e = .returned (.string tx) ∧ Below w'.heap.size w' w'' := fun w' hb => htx0 ▸ devText_i_any (11) n 0 w' (henv.kept hb).tab (henv.kept hb).wd
  have hgw : 0 < w.heap.size := henv.wd.lt (by kernel_rfl)
  clear htx0 hn hcc hj hw henv
  have hql : (tx.toList == t.toList) = false := beq_eq_false_iff_ne.2 (fun e => hq (ItoP.ext (by rw [← ByteArray.toList_eq, ← ByteArray.toList_eq]; exact e)))
  obtain ⟨n1, n2⟩ := ne_fact h1
  go_enter Tryd.func10, Tryd.ntmps10
  go_wp2_with fail
  refine (hcut _ (by repeat (first | exact Below.refl _ _ | assumption | refine Below.setCell ?_ (by first | (simp; done) | (simp; omega) | omega) _ | refine Below.alloc ?_ (by first | (simp; done) | (simp; omega) | omega) _ | refine bel_drewN ?_ _ | refine Below.drew ?_))).mono ?_
  rintro e w1 ⟨rfl, hb1⟩
  have b0 := ((Box.new w #[.int .i64 0, .int .i64 0, .int .i64 0] 24).alloc (.cells #[.int .i64 0, .int .i64 0, .int .i64 0] 24)).kept hb1
  have a0 := (Box.new (w.alloc (.cells #[.int .i64 0, .int .i64 0, .int .i64 0] 24)) #[.int .i64 0, .int .i64 0, .int .i64 0] 24).kept hb1
  have hB1 : Below w.heap.size w w1 := bel_step (((Below.refl _ _).alloc (Nat.le_refl _) _).alloc (by simp) _) hb1 (by simp; omega)
  clear hb1 hcut
  have a1 : Box w1 (w.heap.size + 1) #[.int .i64 0, .int .i64 0, .int .i64 0] 24 := by simpa using a0
  clear a0
  go_wp2_with fail
  refine (hcon _ (by assumption)).mono ?_
  rintro e w' ⟨rfl, rfl⟩
  go_wp2_with fail
  refine (hix _).mono ?_
  rintro e w' ⟨rfl, rfl⟩
  go_wp2_with fail
  refine (hat _ (by assumption)).mono ?_
  rintro e w2 ⟨ev, rfl, hb2⟩
  have b2 := b0.kept hb2
  have a2 := a1.kept hb2
  have hB2 := bel_step hB1 hb2 hB1.size
  clear hb2 hcon hat hB1 b0 a1
  have a2c0 : w2.cell? ⟨(w.heap.size + 1), 0, none⟩ = some (.int .i64 0) := a2.cell 0
  have a2f0 : w2.frozen? ⟨(w.heap.size + 1), 0, none⟩ = false := a2.free 0
  have a2c1 : w2.cell? ⟨(w.heap.size + 1), 1, none⟩ = some (.int .i64 0) := a2.cell 1
  have a2f1 : w2.frozen? ⟨(w.heap.size + 1), 1, none⟩ = false := a2.free 1
  have a2c2 : w2.cell? ⟨(w.heap.size + 1), 2, none⟩ = some (.int .i64 0) := a2.cell 2
  have a2f2 : w2.frozen? ⟨(w.heap.size + 1), 2, none⟩ = false := a2.free 2
  have b2c0 : w2.cell? ⟨w.heap.size, 0, none⟩ = some (.int .i64 0) := b2.cell 0
  have b2f0 : w2.frozen? ⟨w.heap.size, 0, none⟩ = false := b2.free 0
  have b2c1 : w2.cell? ⟨w.heap.size, 1, none⟩ = some (.int .i64 0) := b2.cell 1
  have b2f1 : w2.frozen? ⟨w.heap.size, 1, none⟩ = false := b2.free 1
  have b2c2 : w2.cell? ⟨w.heap.size, 2, none⟩ = some (.int .i64 0) := b2.cell 2
  have b2f2 : w2.frozen? ⟨w.heap.size, 2, none⟩ = false := b2.free 2
  obtain ⟨d0, d1, d2⟩ := set3 a2 rfl (.int .i64 (11)) (.int .i64 n) (.int .i64 0)
  have a3 := ((a2.set 0 (.int .i64 (11))).set 1 (.int .i64 n)).set 2 (.int .i64 0)
  have b3 := ((b2.far (p := ⟨(w.heap.size + 1), 0, none⟩) (by simp) (.int .i64 (11))).far (p := ⟨(w.heap.size + 1), 1, none⟩) (by simp) (.int .i64 n)).far (p := ⟨(w.heap.size + 1), 2, none⟩) (by simp) (.int .i64 0)
  go_wp2_with fail
  refine (htx _ (by repeat (first | exact Below.refl _ _ | assumption | refine Below.setCell ?_ (by first | (simp; done) | (simp; omega) | omega) _ | refine Below.alloc ?_ (by first | (simp; done) | (simp; omega) | omega) _ | refine bel_drewN ?_ _ | refine Below.drew ?_))).mono ?_
  rintro e w3 ⟨rfl, hb3⟩
  have a4 := a3.kept hb3
  have b4 := b3.kept hb3
  have hB3 : Below w.heap.size w w3 := bel_step (by repeat (first | exact Below.refl _ _ | assumption | refine Below.setCell ?_ (by first | (simp; done) | (simp; omega) | omega) _ | refine Below.alloc ?_ (by first | (simp; done) | (simp; omega) | omega) _ | refine bel_drewN ?_ _ | refine Below.drew ?_)) hb3 (by have := hB2.size; simp; omega)
  clear hb3 htx hix hB2 d0 d1 d2 a3 b3 a2 b2 a2c0 a2c1 a2c2 a2f0 a2f1 a2f2 b2c0 b2c1 b2c2 b2f0 b2f1 b2f2
  have a4c0 : w3.cell? ⟨(w.heap.size + 1), 0, none⟩ = some (.int .i64 (11)) := a4.cell 0
  have a4f0 : w3.frozen? ⟨(w.heap.size + 1), 0, none⟩ = false := a4.free 0
  have a4c1 : w3.cell? ⟨(w.heap.size + 1), 1, none⟩ = some (.int .i64 n) := a4.cell 1
  have a4f1 : w3.frozen? ⟨(w.heap.size + 1), 1, none⟩ = false := a4.free 1
  have a4c2 : w3.cell? ⟨(w.heap.size + 1), 2, none⟩ = some (.int .i64 0) := a4.cell 2
  have a4f2 : w3.frozen? ⟨(w.heap.size + 1), 2, none⟩ = false := a4.free 2
  have b4c0 : w3.cell? ⟨w.heap.size, 0, none⟩ = some (.int .i64 0) := b4.cell 0
  have b4f0 : w3.frozen? ⟨w.heap.size, 0, none⟩ = false := b4.free 0
  have b4c1 : w3.cell? ⟨w.heap.size, 1, none⟩ = some (.int .i64 0) := b4.cell 1
  have b4f1 : w3.frozen? ⟨w.heap.size, 1, none⟩ = false := b4.free 1
  have b4c2 : w3.cell? ⟨w.heap.size, 2, none⟩ = some (.int .i64 0) := b4.cell 2
  have b4f2 : w3.frozen? ⟨w.heap.size, 2, none⟩ = false := b4.free 2
  go_wp2
  obtain ⟨d0, d1, d2⟩ := set3 b4 rfl (.int .i64 0) (.int .i64 0) (.int .i64 0)
  refine bodyPost_ret (v := .tuple #[.agg #[.int .i64 0, .int .i64 0, .int .i64 0], .bool false]) (by simp [results, Tryd.results10, go_sem, d0, d1, d2]) rfl ⟨rfl, ?_⟩
  repeat (first | exact Below.refl _ _ | assumption | refine Below.setCell ?_ (by first | (simp; done) | (simp; omega) | omega) _ | refine Below.alloc ?_ (by first | (simp; done) | (simp; omega) | omega) _ | refine bel_drewN ?_ _ | refine Below.drew ?_)
theorem word_txt {t : ByteArray} (h : Lib.containsS DevB.wds t = true) : DevT.txt 13 (Lib.idxOfS DevB.wds t) 0 = t := by
  rw [Lib.containsS_iff] at h
  simp only [DevB.wds, List.mem_cons, List.not_mem_nil, or_false] at h
  rcases h with rfl | rfl | rfl | rfl <;> decide
theorem ib_lt : ∀ (l : List UInt8) (c : UInt8), Lib.indexByte l c < l.length
  | [], _ => by simp [Lib.indexByte]
  | b :: l, c => by
    have := ib_lt l c
    unfold Lib.indexByte
    simp only [List.length_cons]
    split
    · omega
    · split <;> omega
theorem cut_len (l s : List UInt8) : (Lib.cut l s).1.length + (Lib.cut l s).2.1.length ≤ l.length := by
  unfold Lib.cut
  split
  · simp only [List.length_take, List.length_drop]
    omega
  · simp
theorem devRead_i_any (t : ByteArray) (ht : t.size ≤ 1048576) (w : World) (henv : REnv w) : Calls Tryd.prog 10 #[.string t] w fun e w' => e = .returned (ans (DevB.readBy DevB.gi t)) ∧ Below w.heap.size w w' := by
  by_cases h1 : 0 < t.size
  · have h0 : t ≠ ⟨#[]⟩ := by rintro rfl; exact absurd h1 (by decide)
    cases hw : Lib.containsS DevB.wds t with
    | true =>
      have hg : DevB.gw DevB.gi t = (13, Lib.idxOfS DevB.wds t, 0) := by unfold DevB.gw; rw [if_pos hw]
      exact rd_word t ht h1 hw (by unfold DevB.readBy; rw [if_neg h0, hg, if_pos (word_txt hw)]) w henv
    | false =>
      have hg : DevB.gw DevB.gi t = DevB.gi t.data.toList := by unfold DevB.gw; rw [if_neg (by rw [hw]; decide)]
      have hcl := cut_len t.data.toList [46]
      have htl : t.size = t.data.toList.length := rfl
      obtain ⟨ah, hah⟩ : ∃ ah : ByteArray, ah = ⟨(Lib.cut t.data.toList [46]).1.toArray⟩ := ⟨_, rfl⟩
      obtain ⟨be, hbe⟩ : ∃ be : ByteArray, be = ⟨(Lib.cut t.data.toList [46]).2.1.toArray⟩ := ⟨_, rfl⟩
      have e1 : ah.data.toList = (Lib.cut t.data.toList [46]).1 := by rw [hah]
      have e2 : be.data.toList = (Lib.cut t.data.toList [46]).2.1 := by rw [hbe]
      have s1 : ah.size = (Lib.cut t.data.toList [46]).1.length := by rw [← e1]; rfl
      have s2 : be.size = (Lib.cut t.data.toList [46]).2.1.length := by rw [← e2]; rfl
      obtain ⟨j, hj⟩ : ∃ j, Lib.indexByte DevB.letters (t.data.toList.headD 0) = j := ⟨_, rfl⟩
      have hj1 := Lib.indexByte_ge DevB.letters (t.data.toList.headD 0)
      have hj2 := ib_lt DevB.letters (t.data.toList.headD 0)
      rw [hj] at hj1 hj2
      have hj3 : j < 10 := hj2
      by_cases h2 : 0 ≤ j
      · have he : (t.extract 1 t.size).data.toList = t.data.toList.drop 1 := by
          simp only [ByteArray.data_extract, Array.toList_extract, List.extract]
          rw [List.take_of_length_le (by rw [List.length_drop, ← htl]; omega)]
        have hgi : DevB.gi t.data.toList = (1 + j, DevB.av (t.extract 1 t.size).data.toList, 0) := by unfold DevB.gi; rw [hj, if_pos h2, he]
        have hcc : Lib.cut t.data.toList [46] = (ah.data.toList, be.data.toList, (Lib.cut t.data.toList [46]).2.2) := by rw [e1, e2]
        by_cases hq : DevT.txt (1 + j) (DevB.av (t.extract 1 t.size).data.toList) 0 = t
        · rw [show DevB.readBy DevB.gi t = some (1 + j, DevB.av (t.extract 1 t.size).data.toList, 0) by unfold DevB.readBy; rw [if_neg h0, hg, hgi, if_pos hq]]
          exact rd_letter_yes t ht h1 hw j hj h2 (by omega) ah be _ hcc (by omega) _ rfl _ rfl hq w henv
        · rw [show DevB.readBy DevB.gi t = none by unfold DevB.readBy; rw [if_neg h0, hg, hgi, if_neg hq]]
          exact rd_letter_no t ht h1 hw j hj h2 (by omega) ah be _ hcc (by omega) _ rfl _ rfl hq w henv
      · cases hd : (Lib.cut t.data.toList [46]).2.2 with
        | true =>
          have hcc : Lib.cut t.data.toList [46] = (ah.data.toList, be.data.toList, true) := by rw [e1, e2, ← hd]
          have hgi : DevB.gi t.data.toList = (12, DevB.av (ah ++ be).data.toList, (be.size : Int)) := by unfold DevB.gi; rw [hj, if_neg h2, if_pos hd, app_list, e1, e2, s2]
          by_cases hq : DevT.txt 12 (DevB.av (ah ++ be).data.toList) be.size = t
          · rw [show DevB.readBy DevB.gi t = some (12, DevB.av (ah ++ be).data.toList, (be.size : Int)) by unfold DevB.readBy; rw [if_neg h0, hg, hgi, if_pos hq]]
            exact rd_dec_yes t ht h1 hw j hj (by omega) hj1 ah be hcc (by omega) _ rfl _ rfl hq w henv
          · rw [show DevB.readBy DevB.gi t = none by unfold DevB.readBy; rw [if_neg h0, hg, hgi, if_neg hq]]
            exact rd_dec_no t ht h1 hw j hj (by omega) hj1 ah be hcc (by omega) _ rfl _ rfl hq w henv
        | false =>
          have hcc : Lib.cut t.data.toList [46] = (ah.data.toList, be.data.toList, false) := by rw [e1, e2, ← hd]
          have hgi : DevB.gi t.data.toList = (11, DevB.av t.data.toList, 0) := by unfold DevB.gi; rw [hj, if_neg h2, if_neg (by rw [hd]; decide)]
          by_cases hq : DevT.txt 11 (DevB.av t.data.toList) 0 = t
          · rw [show DevB.readBy DevB.gi t = some (11, DevB.av t.data.toList, 0) by unfold DevB.readBy; rw [if_neg h0, hg, hgi, if_pos hq]]
            exact rd_int_yes t ht h1 hw j hj (by omega) hj1 ah be hcc (by omega) _ rfl _ rfl hq w henv
          · rw [show DevB.readBy DevB.gi t = none by unfold DevB.readBy; rw [if_neg h0, hg, hgi, if_neg hq]]
            exact rd_int_no t ht h1 hw j hj (by omega) hj1 ah be hcc (by omega) _ rfl _ rfl hq w henv
  · have h0 : t = ⟨#[]⟩ := by
      cases t with
      | mk d =>
        congr 1
        exact Array.eq_empty_of_size_eq_zero (by have : (ByteArray.mk d).size = d.size := rfl; omega)
    subst h0
    exact rd_empty w henv
end Go.Proofs.YtikcabmohlaanaaDoor
