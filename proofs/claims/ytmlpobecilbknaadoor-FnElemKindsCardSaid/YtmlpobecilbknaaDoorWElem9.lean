/- Names and signs of elements. -/
import Derived.Test.YtmlpobecilbknaaDoorRows
import Derived.Test.YtmlpobecilbknaaDoorWElem7
import Derived.Test.YtmlpobecilbknaaDoorWText3
import Derived.Test.YtmlpobecilbknaaDoorElemT
import Derived.WalkKit
import Derived.WalkSpells
import Derived.WalkLawsBesides
import Derived.OpenShut
import Derived.IntWalk
import Derived.Lib.Hide
import Derived.Deep.QuietTactic
import Derived.BigQuiet
import Derived.Deep.RegionHeld3
import Derived.Deep.RegionWith
namespace Go.Proofs.YtmlpobecilbknaaDoor
open Go.RowKit Bx ElemP
set_option linter.unusedVariables false

/-- what the texts lean on in the world -/
structure EEnv (w : World) : Prop where
  tab : Lib.TabIs Tryd.prog w "internal/strconv.uint64pow10" .u64 Lib.pow10Tab
  wd : Ls.StrsIs Tryd.prog w "loop.example/stilmach/impl.devWords" wds
  coils : Ls.StrsIs Tryd.prog w "loop.example/stilmach/impl.coilNames" ElemT.coils
theorem EEnv.kept {w w' : World} (h : EEnv w) (hb : Below w.heap.size w w') : EEnv w' := ⟨tab_kept h.tab hb, wds_kept h.wd hb, Ls.var?_kept (g := 0) (by kernel_rfl) h.coils hb⟩
set_option maxRecDepth 100000 in
set_option maxHeartbeats 1000000 in
theorem name_i_low (op : Int) (h : op < 21) (w : World) : Calls Tryd.prog 7 #[.int .i64 op] w fun e w' => e = .returned (.string ⟨#[]⟩) ∧ Below w.heap.size w w' := by
  have : decide ((21 : Int) ≤ op) = false := by simp; omega
  clear h
  go_enter Tryd.func7, Tryd.ntmps7
  go_wp2
  go_ret
  exact ⟨rfl, by repeat (first | exact Below.refl _ _ | assumption | refine Below.setCell ?_ (by first | (simp; done) | (simp; omega) | omega) _ | refine Below.alloc ?_ (by first | (simp; done) | (simp; omega) | omega) _ | refine Bx.bel_drewN ?_ _ | refine Below.drew ?_)⟩
set_option maxRecDepth 100000 in
set_option maxHeartbeats 1000000 in
theorem name_i_high (op : Int) (h : 37 < op) (w : World) : Calls Tryd.prog 7 #[.int .i64 op] w fun e w' => e = .returned (.string ⟨#[]⟩) ∧ Below w.heap.size w w' := by
  have : decide ((21 : Int) ≤ op) = true := by simp; omega
  have : decide (op ≤ (37 : Int)) = false := by simp; omega
  clear h
  go_enter Tryd.func7, Tryd.ntmps7
  go_wp2
  go_ret
  exact ⟨rfl, by repeat (first | exact Below.refl _ _ | assumption | refine Below.setCell ?_ (by first | (simp; done) | (simp; omega) | omega) _ | refine Below.alloc ?_ (by first | (simp; done) | (simp; omega) | omega) _ | refine Bx.bel_drewN ?_ _ | refine Below.drew ?_)⟩
set_option maxRecDepth 100000 in
set_option maxHeartbeats 1000000 in
theorem name_i_21 (w : World) (hg : 0 < w.heap.size) (hc : w.cell? ⟨0, 0, none⟩ = some (.string ⟨#[111, 117, 116]⟩)) : Calls Tryd.prog 7 #[.int .i64 21] w fun e w' => e = .returned (.string ⟨#[111, 117, 116]⟩) ∧ Below w.heap.size w w' := by
  go_enter Tryd.func7, Tryd.ntmps7
  go_wp2
  go_ret
  exact ⟨rfl, by repeat (first | exact Below.refl _ _ | assumption | refine Below.setCell ?_ (by first | (simp; done) | (simp; omega) | omega) _ | refine Below.alloc ?_ (by first | (simp; done) | (simp; omega) | omega) _ | refine Bx.bel_drewN ?_ _ | refine Below.drew ?_)⟩
set_option maxRecDepth 100000 in
set_option maxHeartbeats 1000000 in
theorem name_i_22 (w : World) (hg : 0 < w.heap.size) (hc : w.cell? ⟨0, 1, none⟩ = some (.string ⟨#[115, 101, 116]⟩)) : Calls Tryd.prog 7 #[.int .i64 22] w fun e w' => e = .returned (.string ⟨#[115, 101, 116]⟩) ∧ Below w.heap.size w w' := by
  go_enter Tryd.func7, Tryd.ntmps7
  go_wp2
  go_ret
  exact ⟨rfl, by repeat (first | exact Below.refl _ _ | assumption | refine Below.setCell ?_ (by first | (simp; done) | (simp; omega) | omega) _ | refine Below.alloc ?_ (by first | (simp; done) | (simp; omega) | omega) _ | refine Bx.bel_drewN ?_ _ | refine Below.drew ?_)⟩
set_option maxRecDepth 100000 in
set_option maxHeartbeats 1000000 in
theorem name_i_23 (w : World) (hg : 0 < w.heap.size) (hc : w.cell? ⟨0, 2, none⟩ = some (.string ⟨#[114, 101, 115, 101, 116]⟩)) : Calls Tryd.prog 7 #[.int .i64 23] w fun e w' => e = .returned (.string ⟨#[114, 101, 115, 101, 116]⟩) ∧ Below w.heap.size w w' := by
  go_enter Tryd.func7, Tryd.ntmps7
  go_wp2
  go_ret
  exact ⟨rfl, by repeat (first | exact Below.refl _ _ | assumption | refine Below.setCell ?_ (by first | (simp; done) | (simp; omega) | omega) _ | refine Below.alloc ?_ (by first | (simp; done) | (simp; omega) | omega) _ | refine Bx.bel_drewN ?_ _ | refine Below.drew ?_)⟩
set_option maxRecDepth 100000 in
set_option maxHeartbeats 1000000 in
theorem name_i_24 (w : World) (hg : 0 < w.heap.size) (hc : w.cell? ⟨0, 3, none⟩ = some (.string ⟨#[112, 117, 108, 115, 101]⟩)) : Calls Tryd.prog 7 #[.int .i64 24] w fun e w' => e = .returned (.string ⟨#[112, 117, 108, 115, 101]⟩) ∧ Below w.heap.size w w' := by
  go_enter Tryd.func7, Tryd.ntmps7
  go_wp2
  go_ret
  exact ⟨rfl, by repeat (first | exact Below.refl _ _ | assumption | refine Below.setCell ?_ (by first | (simp; done) | (simp; omega) | omega) _ | refine Below.alloc ?_ (by first | (simp; done) | (simp; omega) | omega) _ | refine Bx.bel_drewN ?_ _ | refine Below.drew ?_)⟩
set_option maxRecDepth 100000 in
set_option maxHeartbeats 1000000 in
theorem name_i_25 (w : World) (hg : 0 < w.heap.size) (hc : w.cell? ⟨0, 4, none⟩ = some (.string ⟨#[115, 116, 101, 112]⟩)) : Calls Tryd.prog 7 #[.int .i64 25] w fun e w' => e = .returned (.string ⟨#[115, 116, 101, 112]⟩) ∧ Below w.heap.size w w' := by
  go_enter Tryd.func7, Tryd.ntmps7
  go_wp2
  go_ret
  exact ⟨rfl, by repeat (first | exact Below.refl _ _ | assumption | refine Below.setCell ?_ (by first | (simp; done) | (simp; omega) | omega) _ | refine Below.alloc ?_ (by first | (simp; done) | (simp; omega) | omega) _ | refine Bx.bel_drewN ?_ _ | refine Below.drew ?_)⟩
set_option maxRecDepth 100000 in
set_option maxHeartbeats 1000000 in
theorem name_i_26 (w : World) (hg : 0 < w.heap.size) (hc : w.cell? ⟨0, 5, none⟩ = some (.string ⟨#[116, 105, 109, 101, 114]⟩)) : Calls Tryd.prog 7 #[.int .i64 26] w fun e w' => e = .returned (.string ⟨#[116, 105, 109, 101, 114]⟩) ∧ Below w.heap.size w w' := by
  go_enter Tryd.func7, Tryd.ntmps7
  go_wp2
  go_ret
  exact ⟨rfl, by repeat (first | exact Below.refl _ _ | assumption | refine Below.setCell ?_ (by first | (simp; done) | (simp; omega) | omega) _ | refine Below.alloc ?_ (by first | (simp; done) | (simp; omega) | omega) _ | refine Bx.bel_drewN ?_ _ | refine Below.drew ?_)⟩
set_option maxRecDepth 100000 in
set_option maxHeartbeats 1000000 in
theorem name_i_27 (w : World) (hg : 0 < w.heap.size) (hc : w.cell? ⟨0, 6, none⟩ = some (.string ⟨#[104, 111, 108, 100]⟩)) : Calls Tryd.prog 7 #[.int .i64 27] w fun e w' => e = .returned (.string ⟨#[104, 111, 108, 100]⟩) ∧ Below w.heap.size w w' := by
  go_enter Tryd.func7, Tryd.ntmps7
  go_wp2
  go_ret
  exact ⟨rfl, by repeat (first | exact Below.refl _ _ | assumption | refine Below.setCell ?_ (by first | (simp; done) | (simp; omega) | omega) _ | refine Below.alloc ?_ (by first | (simp; done) | (simp; omega) | omega) _ | refine Bx.bel_drewN ?_ _ | refine Below.drew ?_)⟩
set_option maxRecDepth 100000 in
set_option maxHeartbeats 1000000 in
theorem name_i_28 (w : World) (hg : 0 < w.heap.size) (hc : w.cell? ⟨0, 7, none⟩ = some (.string ⟨#[108, 97, 116, 101]⟩)) : Calls Tryd.prog 7 #[.int .i64 28] w fun e w' => e = .returned (.string ⟨#[108, 97, 116, 101]⟩) ∧ Below w.heap.size w w' := by
  go_enter Tryd.func7, Tryd.ntmps7
  go_wp2
  go_ret
  exact ⟨rfl, by repeat (first | exact Below.refl _ _ | assumption | refine Below.setCell ?_ (by first | (simp; done) | (simp; omega) | omega) _ | refine Below.alloc ?_ (by first | (simp; done) | (simp; omega) | omega) _ | refine Bx.bel_drewN ?_ _ | refine Below.drew ?_)⟩
set_option maxRecDepth 100000 in
set_option maxHeartbeats 1000000 in
theorem name_i_29 (w : World) (hg : 0 < w.heap.size) (hc : w.cell? ⟨0, 8, none⟩ = some (.string ⟨#[99, 111, 117, 110, 116]⟩)) : Calls Tryd.prog 7 #[.int .i64 29] w fun e w' => e = .returned (.string ⟨#[99, 111, 117, 110, 116]⟩) ∧ Below w.heap.size w w' := by
  go_enter Tryd.func7, Tryd.ntmps7
  go_wp2
  go_ret
  exact ⟨rfl, by repeat (first | exact Below.refl _ _ | assumption | refine Below.setCell ?_ (by first | (simp; done) | (simp; omega) | omega) _ | refine Below.alloc ?_ (by first | (simp; done) | (simp; omega) | omega) _ | refine Bx.bel_drewN ?_ _ | refine Below.drew ?_)⟩
set_option maxRecDepth 100000 in
set_option maxHeartbeats 1000000 in
theorem name_i_30 (w : World) (hg : 0 < w.heap.size) (hc : w.cell? ⟨0, 9, none⟩ = some (.string ⟨#[109, 111, 118, 101]⟩)) : Calls Tryd.prog 7 #[.int .i64 30] w fun e w' => e = .returned (.string ⟨#[109, 111, 118, 101]⟩) ∧ Below w.heap.size w w' := by
  go_enter Tryd.func7, Tryd.ntmps7
  go_wp2
  go_ret
  exact ⟨rfl, by repeat (first | exact Below.refl _ _ | assumption | refine Below.setCell ?_ (by first | (simp; done) | (simp; omega) | omega) _ | refine Below.alloc ?_ (by first | (simp; done) | (simp; omega) | omega) _ | refine Bx.bel_drewN ?_ _ | refine Below.drew ?_)⟩
set_option maxRecDepth 100000 in
set_option maxHeartbeats 1000000 in
theorem name_i_31 (w : World) (hg : 0 < w.heap.size) (hc : w.cell? ⟨0, 10, none⟩ = some (.string ⟨#[97, 100, 100]⟩)) : Calls Tryd.prog 7 #[.int .i64 31] w fun e w' => e = .returned (.string ⟨#[97, 100, 100]⟩) ∧ Below w.heap.size w w' := by
  go_enter Tryd.func7, Tryd.ntmps7
  go_wp2
  go_ret
  exact ⟨rfl, by repeat (first | exact Below.refl _ _ | assumption | refine Below.setCell ?_ (by first | (simp; done) | (simp; omega) | omega) _ | refine Below.alloc ?_ (by first | (simp; done) | (simp; omega) | omega) _ | refine Bx.bel_drewN ?_ _ | refine Below.drew ?_)⟩
set_option maxRecDepth 100000 in
set_option maxHeartbeats 1000000 in
theorem name_i_32 (w : World) (hg : 0 < w.heap.size) (hc : w.cell? ⟨0, 11, none⟩ = some (.string ⟨#[115, 117, 98]⟩)) : Calls Tryd.prog 7 #[.int .i64 32] w fun e w' => e = .returned (.string ⟨#[115, 117, 98]⟩) ∧ Below w.heap.size w w' := by
  go_enter Tryd.func7, Tryd.ntmps7
  go_wp2
  go_ret
  exact ⟨rfl, by repeat (first | exact Below.refl _ _ | assumption | refine Below.setCell ?_ (by first | (simp; done) | (simp; omega) | omega) _ | refine Below.alloc ?_ (by first | (simp; done) | (simp; omega) | omega) _ | refine Bx.bel_drewN ?_ _ | refine Below.drew ?_)⟩
set_option maxRecDepth 100000 in
set_option maxHeartbeats 1000000 in
theorem name_i_33 (w : World) (hg : 0 < w.heap.size) (hc : w.cell? ⟨0, 12, none⟩ = some (.string ⟨#[109, 117, 108]⟩)) : Calls Tryd.prog 7 #[.int .i64 33] w fun e w' => e = .returned (.string ⟨#[109, 117, 108]⟩) ∧ Below w.heap.size w w' := by
  go_enter Tryd.func7, Tryd.ntmps7
  go_wp2
  go_ret
  exact ⟨rfl, by repeat (first | exact Below.refl _ _ | assumption | refine Below.setCell ?_ (by first | (simp; done) | (simp; omega) | omega) _ | refine Below.alloc ?_ (by first | (simp; done) | (simp; omega) | omega) _ | refine Bx.bel_drewN ?_ _ | refine Below.drew ?_)⟩
set_option maxRecDepth 100000 in
set_option maxHeartbeats 1000000 in
theorem name_i_34 (w : World) (hg : 0 < w.heap.size) (hc : w.cell? ⟨0, 13, none⟩ = some (.string ⟨#[100, 105, 118]⟩)) : Calls Tryd.prog 7 #[.int .i64 34] w fun e w' => e = .returned (.string ⟨#[100, 105, 118]⟩) ∧ Below w.heap.size w w' := by
  go_enter Tryd.func7, Tryd.ntmps7
  go_wp2
  go_ret
  exact ⟨rfl, by repeat (first | exact Below.refl _ _ | assumption | refine Below.setCell ?_ (by first | (simp; done) | (simp; omega) | omega) _ | refine Below.alloc ?_ (by first | (simp; done) | (simp; omega) | omega) _ | refine Bx.bel_drewN ?_ _ | refine Below.drew ?_)⟩
set_option maxRecDepth 100000 in
set_option maxHeartbeats 1000000 in
theorem name_i_35 (w : World) (hg : 0 < w.heap.size) (hc : w.cell? ⟨0, 14, none⟩ = some (.string ⟨#[114, 101, 109]⟩)) : Calls Tryd.prog 7 #[.int .i64 35] w fun e w' => e = .returned (.string ⟨#[114, 101, 109]⟩) ∧ Below w.heap.size w w' := by
  go_enter Tryd.func7, Tryd.ntmps7
  go_wp2
  go_ret
  exact ⟨rfl, by repeat (first | exact Below.refl _ _ | assumption | refine Below.setCell ?_ (by first | (simp; done) | (simp; omega) | omega) _ | refine Below.alloc ?_ (by first | (simp; done) | (simp; omega) | omega) _ | refine Bx.bel_drewN ?_ _ | refine Below.drew ?_)⟩
set_option maxRecDepth 100000 in
set_option maxHeartbeats 1000000 in
theorem name_i_36 (w : World) (hg : 0 < w.heap.size) (hc : w.cell? ⟨0, 15, none⟩ = some (.string ⟨#[114, 101, 97, 108]⟩)) : Calls Tryd.prog 7 #[.int .i64 36] w fun e w' => e = .returned (.string ⟨#[114, 101, 97, 108]⟩) ∧ Below w.heap.size w w' := by
  go_enter Tryd.func7, Tryd.ntmps7
  go_wp2
  go_ret
  exact ⟨rfl, by repeat (first | exact Below.refl _ _ | assumption | refine Below.setCell ?_ (by first | (simp; done) | (simp; omega) | omega) _ | refine Below.alloc ?_ (by first | (simp; done) | (simp; omega) | omega) _ | refine Bx.bel_drewN ?_ _ | refine Below.drew ?_)⟩
set_option maxRecDepth 100000 in
set_option maxHeartbeats 1000000 in
theorem name_i_37 (w : World) (hg : 0 < w.heap.size) (hc : w.cell? ⟨0, 16, none⟩ = some (.string ⟨#[119, 104, 111, 108, 101]⟩)) : Calls Tryd.prog 7 #[.int .i64 37] w fun e w' => e = .returned (.string ⟨#[119, 104, 111, 108, 101]⟩) ∧ Below w.heap.size w w' := by
  go_enter Tryd.func7, Tryd.ntmps7
  go_wp2
  go_ret
  exact ⟨rfl, by repeat (first | exact Below.refl _ _ | assumption | refine Below.setCell ?_ (by first | (simp; done) | (simp; omega) | omega) _ | refine Below.alloc ?_ (by first | (simp; done) | (simp; omega) | omega) _ | refine Bx.bel_drewN ?_ _ | refine Below.drew ?_)⟩
theorem name_i_any (op : Int) (w : World) (henv : EEnv w) : Calls Tryd.prog 7 #[.int .i64 op] w fun e w' => e = .returned (.string (ElemT.cname op)) ∧ Below w.heap.size w w' := by
  have hg : 0 < w.heap.size := henv.coils.lt (by kernel_rfl)
  have hc := fun i hi => henv.coils.cell (g := 0) (by kernel_rfl) i hi
  by_cases h1 : op < 21
  · rw [show ElemT.cname op = ⟨#[]⟩ by unfold ElemT.cname; rw [if_neg (by omega)]]; exact name_i_low op h1 w
  by_cases h2 : 37 < op
  · rw [show ElemT.cname op = ⟨#[]⟩ by unfold ElemT.cname; rw [if_neg (by omega)]]; exact name_i_high op h2 w
  have h3 : op = 21 ∨ op = 22 ∨ op = 23 ∨ op = 24 ∨ op = 25 ∨ op = 26 ∨ op = 27 ∨ op = 28 ∨ op = 29 ∨ op = 30 ∨ op = 31 ∨ op = 32 ∨ op = 33 ∨ op = 34 ∨ op = 35 ∨ op = 36 ∨ op = 37 := by omega
  rcases h3 with rfl | rfl | rfl | rfl | rfl | rfl | rfl | rfl | rfl | rfl | rfl | rfl | rfl | rfl | rfl | rfl | rfl
  · exact name_i_21 w hg (hc 0 (by decide))
  · exact name_i_22 w hg (hc 1 (by decide))
  · exact name_i_23 w hg (hc 2 (by decide))
  · exact name_i_24 w hg (hc 3 (by decide))
  · exact name_i_25 w hg (hc 4 (by decide))
  · exact name_i_26 w hg (hc 5 (by decide))
  · exact name_i_27 w hg (hc 6 (by decide))
  · exact name_i_28 w hg (hc 7 (by decide))
  · exact name_i_29 w hg (hc 8 (by decide))
  · exact name_i_30 w hg (hc 9 (by decide))
  · exact name_i_31 w hg (hc 10 (by decide))
  · exact name_i_32 w hg (hc 11 (by decide))
  · exact name_i_33 w hg (hc 12 (by decide))
  · exact name_i_34 w hg (hc 13 (by decide))
  · exact name_i_35 w hg (hc 14 (by decide))
  · exact name_i_36 w hg (hc 15 (by decide))
  · exact name_i_37 w hg (hc 16 (by decide))
set_option maxRecDepth 100000 in
set_option maxHeartbeats 1000000 in
theorem name_s_low (op : Int) (h : op < 21) (w : World) : Calls Tryd.prog 6 #[.int .i64 op] w fun e w' => e = .returned (.string ⟨#[]⟩) ∧ Below w.heap.size w w' := by
  have : decide (op < (21 : Int)) = true := by simp; omega
  clear h
  go_enter Tryd.func6, Tryd.ntmps6
  go_wp2
  go_ret
  exact ⟨rfl, by repeat (first | exact Below.refl _ _ | assumption | refine Below.setCell ?_ (by first | (simp; done) | (simp; omega) | omega) _ | refine Below.alloc ?_ (by first | (simp; done) | (simp; omega) | omega) _ | refine Bx.bel_drewN ?_ _ | refine Below.drew ?_)⟩
set_option maxRecDepth 100000 in
set_option maxHeartbeats 1000000 in
theorem name_s_high (op : Int) (h : 37 < op) (w : World) : Calls Tryd.prog 6 #[.int .i64 op] w fun e w' => e = .returned (.string ⟨#[]⟩) ∧ Below w.heap.size w w' := by
  have : decide (op < (21 : Int)) = false := by simp; omega
  have : decide ((37 : Int) < op) = true := by simp; omega
  clear h
  go_enter Tryd.func6, Tryd.ntmps6
  go_wp2
  go_ret
  exact ⟨rfl, by repeat (first | exact Below.refl _ _ | assumption | refine Below.setCell ?_ (by first | (simp; done) | (simp; omega) | omega) _ | refine Below.alloc ?_ (by first | (simp; done) | (simp; omega) | omega) _ | refine Bx.bel_drewN ?_ _ | refine Below.drew ?_)⟩
set_option maxRecDepth 100000 in
set_option maxHeartbeats 1000000 in
theorem name_s_21 (w : World) : Calls Tryd.prog 6 #[.int .i64 21] w fun e w' => e = .returned (.string ⟨#[111, 117, 116]⟩) ∧ Below w.heap.size w w' := by
  go_enter Tryd.func6, Tryd.ntmps6
  go_wp2
  go_ret
  exact ⟨rfl, by repeat (first | exact Below.refl _ _ | assumption | refine Below.setCell ?_ (by first | (simp; done) | (simp; omega) | omega) _ | refine Below.alloc ?_ (by first | (simp; done) | (simp; omega) | omega) _ | refine Bx.bel_drewN ?_ _ | refine Below.drew ?_)⟩
set_option maxRecDepth 100000 in
set_option maxHeartbeats 1000000 in
theorem name_s_22 (w : World) : Calls Tryd.prog 6 #[.int .i64 22] w fun e w' => e = .returned (.string ⟨#[115, 101, 116]⟩) ∧ Below w.heap.size w w' := by
  go_enter Tryd.func6, Tryd.ntmps6
  go_wp2
  go_ret
  exact ⟨rfl, by repeat (first | exact Below.refl _ _ | assumption | refine Below.setCell ?_ (by first | (simp; done) | (simp; omega) | omega) _ | refine Below.alloc ?_ (by first | (simp; done) | (simp; omega) | omega) _ | refine Bx.bel_drewN ?_ _ | refine Below.drew ?_)⟩
set_option maxRecDepth 100000 in
set_option maxHeartbeats 1000000 in
theorem name_s_23 (w : World) : Calls Tryd.prog 6 #[.int .i64 23] w fun e w' => e = .returned (.string ⟨#[114, 101, 115, 101, 116]⟩) ∧ Below w.heap.size w w' := by
  go_enter Tryd.func6, Tryd.ntmps6
  go_wp2
  go_ret
  exact ⟨rfl, by repeat (first | exact Below.refl _ _ | assumption | refine Below.setCell ?_ (by first | (simp; done) | (simp; omega) | omega) _ | refine Below.alloc ?_ (by first | (simp; done) | (simp; omega) | omega) _ | refine Bx.bel_drewN ?_ _ | refine Below.drew ?_)⟩
set_option maxRecDepth 100000 in
set_option maxHeartbeats 1000000 in
theorem name_s_24 (w : World) : Calls Tryd.prog 6 #[.int .i64 24] w fun e w' => e = .returned (.string ⟨#[112, 117, 108, 115, 101]⟩) ∧ Below w.heap.size w w' := by
  go_enter Tryd.func6, Tryd.ntmps6
  go_wp2
  go_ret
  exact ⟨rfl, by repeat (first | exact Below.refl _ _ | assumption | refine Below.setCell ?_ (by first | (simp; done) | (simp; omega) | omega) _ | refine Below.alloc ?_ (by first | (simp; done) | (simp; omega) | omega) _ | refine Bx.bel_drewN ?_ _ | refine Below.drew ?_)⟩
set_option maxRecDepth 100000 in
set_option maxHeartbeats 1000000 in
theorem name_s_25 (w : World) : Calls Tryd.prog 6 #[.int .i64 25] w fun e w' => e = .returned (.string ⟨#[115, 116, 101, 112]⟩) ∧ Below w.heap.size w w' := by
  go_enter Tryd.func6, Tryd.ntmps6
  go_wp2
  go_ret
  exact ⟨rfl, by repeat (first | exact Below.refl _ _ | assumption | refine Below.setCell ?_ (by first | (simp; done) | (simp; omega) | omega) _ | refine Below.alloc ?_ (by first | (simp; done) | (simp; omega) | omega) _ | refine Bx.bel_drewN ?_ _ | refine Below.drew ?_)⟩
set_option maxRecDepth 100000 in
set_option maxHeartbeats 1000000 in
theorem name_s_26 (w : World) : Calls Tryd.prog 6 #[.int .i64 26] w fun e w' => e = .returned (.string ⟨#[116, 105, 109, 101, 114]⟩) ∧ Below w.heap.size w w' := by
  go_enter Tryd.func6, Tryd.ntmps6
  go_wp2
  go_ret
  exact ⟨rfl, by repeat (first | exact Below.refl _ _ | assumption | refine Below.setCell ?_ (by first | (simp; done) | (simp; omega) | omega) _ | refine Below.alloc ?_ (by first | (simp; done) | (simp; omega) | omega) _ | refine Bx.bel_drewN ?_ _ | refine Below.drew ?_)⟩
set_option maxRecDepth 100000 in
set_option maxHeartbeats 1000000 in
theorem name_s_27 (w : World) : Calls Tryd.prog 6 #[.int .i64 27] w fun e w' => e = .returned (.string ⟨#[104, 111, 108, 100]⟩) ∧ Below w.heap.size w w' := by
  go_enter Tryd.func6, Tryd.ntmps6
  go_wp2
  go_ret
  exact ⟨rfl, by repeat (first | exact Below.refl _ _ | assumption | refine Below.setCell ?_ (by first | (simp; done) | (simp; omega) | omega) _ | refine Below.alloc ?_ (by first | (simp; done) | (simp; omega) | omega) _ | refine Bx.bel_drewN ?_ _ | refine Below.drew ?_)⟩
set_option maxRecDepth 100000 in
set_option maxHeartbeats 1000000 in
theorem name_s_28 (w : World) : Calls Tryd.prog 6 #[.int .i64 28] w fun e w' => e = .returned (.string ⟨#[108, 97, 116, 101]⟩) ∧ Below w.heap.size w w' := by
  go_enter Tryd.func6, Tryd.ntmps6
  go_wp2
  go_ret
  exact ⟨rfl, by repeat (first | exact Below.refl _ _ | assumption | refine Below.setCell ?_ (by first | (simp; done) | (simp; omega) | omega) _ | refine Below.alloc ?_ (by first | (simp; done) | (simp; omega) | omega) _ | refine Bx.bel_drewN ?_ _ | refine Below.drew ?_)⟩
set_option maxRecDepth 100000 in
set_option maxHeartbeats 1000000 in
theorem name_s_29 (w : World) : Calls Tryd.prog 6 #[.int .i64 29] w fun e w' => e = .returned (.string ⟨#[99, 111, 117, 110, 116]⟩) ∧ Below w.heap.size w w' := by
  go_enter Tryd.func6, Tryd.ntmps6
  go_wp2
  go_ret
  exact ⟨rfl, by repeat (first | exact Below.refl _ _ | assumption | refine Below.setCell ?_ (by first | (simp; done) | (simp; omega) | omega) _ | refine Below.alloc ?_ (by first | (simp; done) | (simp; omega) | omega) _ | refine Bx.bel_drewN ?_ _ | refine Below.drew ?_)⟩
set_option maxRecDepth 100000 in
set_option maxHeartbeats 1000000 in
theorem name_s_30 (w : World) : Calls Tryd.prog 6 #[.int .i64 30] w fun e w' => e = .returned (.string ⟨#[109, 111, 118, 101]⟩) ∧ Below w.heap.size w w' := by
  go_enter Tryd.func6, Tryd.ntmps6
  go_wp2
  go_ret
  exact ⟨rfl, by repeat (first | exact Below.refl _ _ | assumption | refine Below.setCell ?_ (by first | (simp; done) | (simp; omega) | omega) _ | refine Below.alloc ?_ (by first | (simp; done) | (simp; omega) | omega) _ | refine Bx.bel_drewN ?_ _ | refine Below.drew ?_)⟩
set_option maxRecDepth 100000 in
set_option maxHeartbeats 1000000 in
theorem name_s_31 (w : World) : Calls Tryd.prog 6 #[.int .i64 31] w fun e w' => e = .returned (.string ⟨#[97, 100, 100]⟩) ∧ Below w.heap.size w w' := by
  go_enter Tryd.func6, Tryd.ntmps6
  go_wp2
  go_ret
  exact ⟨rfl, by repeat (first | exact Below.refl _ _ | assumption | refine Below.setCell ?_ (by first | (simp; done) | (simp; omega) | omega) _ | refine Below.alloc ?_ (by first | (simp; done) | (simp; omega) | omega) _ | refine Bx.bel_drewN ?_ _ | refine Below.drew ?_)⟩
set_option maxRecDepth 100000 in
set_option maxHeartbeats 1000000 in
theorem name_s_32 (w : World) : Calls Tryd.prog 6 #[.int .i64 32] w fun e w' => e = .returned (.string ⟨#[115, 117, 98]⟩) ∧ Below w.heap.size w w' := by
  go_enter Tryd.func6, Tryd.ntmps6
  go_wp2
  go_ret
  exact ⟨rfl, by repeat (first | exact Below.refl _ _ | assumption | refine Below.setCell ?_ (by first | (simp; done) | (simp; omega) | omega) _ | refine Below.alloc ?_ (by first | (simp; done) | (simp; omega) | omega) _ | refine Bx.bel_drewN ?_ _ | refine Below.drew ?_)⟩
set_option maxRecDepth 100000 in
set_option maxHeartbeats 1000000 in
theorem name_s_33 (w : World) : Calls Tryd.prog 6 #[.int .i64 33] w fun e w' => e = .returned (.string ⟨#[109, 117, 108]⟩) ∧ Below w.heap.size w w' := by
  go_enter Tryd.func6, Tryd.ntmps6
  go_wp2
  go_ret
  exact ⟨rfl, by repeat (first | exact Below.refl _ _ | assumption | refine Below.setCell ?_ (by first | (simp; done) | (simp; omega) | omega) _ | refine Below.alloc ?_ (by first | (simp; done) | (simp; omega) | omega) _ | refine Bx.bel_drewN ?_ _ | refine Below.drew ?_)⟩
set_option maxRecDepth 100000 in
set_option maxHeartbeats 1000000 in
theorem name_s_34 (w : World) : Calls Tryd.prog 6 #[.int .i64 34] w fun e w' => e = .returned (.string ⟨#[100, 105, 118]⟩) ∧ Below w.heap.size w w' := by
  go_enter Tryd.func6, Tryd.ntmps6
  go_wp2
  go_ret
  exact ⟨rfl, by repeat (first | exact Below.refl _ _ | assumption | refine Below.setCell ?_ (by first | (simp; done) | (simp; omega) | omega) _ | refine Below.alloc ?_ (by first | (simp; done) | (simp; omega) | omega) _ | refine Bx.bel_drewN ?_ _ | refine Below.drew ?_)⟩
set_option maxRecDepth 100000 in
set_option maxHeartbeats 1000000 in
theorem name_s_35 (w : World) : Calls Tryd.prog 6 #[.int .i64 35] w fun e w' => e = .returned (.string ⟨#[114, 101, 109]⟩) ∧ Below w.heap.size w w' := by
  go_enter Tryd.func6, Tryd.ntmps6
  go_wp2
  go_ret
  exact ⟨rfl, by repeat (first | exact Below.refl _ _ | assumption | refine Below.setCell ?_ (by first | (simp; done) | (simp; omega) | omega) _ | refine Below.alloc ?_ (by first | (simp; done) | (simp; omega) | omega) _ | refine Bx.bel_drewN ?_ _ | refine Below.drew ?_)⟩
set_option maxRecDepth 100000 in
set_option maxHeartbeats 1000000 in
theorem name_s_36 (w : World) : Calls Tryd.prog 6 #[.int .i64 36] w fun e w' => e = .returned (.string ⟨#[114, 101, 97, 108]⟩) ∧ Below w.heap.size w w' := by
  go_enter Tryd.func6, Tryd.ntmps6
  go_wp2
  go_ret
  exact ⟨rfl, by repeat (first | exact Below.refl _ _ | assumption | refine Below.setCell ?_ (by first | (simp; done) | (simp; omega) | omega) _ | refine Below.alloc ?_ (by first | (simp; done) | (simp; omega) | omega) _ | refine Bx.bel_drewN ?_ _ | refine Below.drew ?_)⟩
set_option maxRecDepth 100000 in
set_option maxHeartbeats 1000000 in
theorem name_s_37 (w : World) : Calls Tryd.prog 6 #[.int .i64 37] w fun e w' => e = .returned (.string ⟨#[119, 104, 111, 108, 101]⟩) ∧ Below w.heap.size w w' := by
  go_enter Tryd.func6, Tryd.ntmps6
  go_wp2
  go_ret
  exact ⟨rfl, by repeat (first | exact Below.refl _ _ | assumption | refine Below.setCell ?_ (by first | (simp; done) | (simp; omega) | omega) _ | refine Below.alloc ?_ (by first | (simp; done) | (simp; omega) | omega) _ | refine Bx.bel_drewN ?_ _ | refine Below.drew ?_)⟩
theorem name_s_any (op : Int) (w : World) (henv : EEnv w) : Calls Tryd.prog 6 #[.int .i64 op] w fun e w' => e = .returned (.string (ElemT.cname op)) ∧ Below w.heap.size w w' := by
  have hg : 0 < w.heap.size := henv.coils.lt (by kernel_rfl)
  have hc := fun i hi => henv.coils.cell (g := 0) (by kernel_rfl) i hi
  by_cases h1 : op < 21
  · rw [show ElemT.cname op = ⟨#[]⟩ by unfold ElemT.cname; rw [if_neg (by omega)]]; exact name_s_low op h1 w
  by_cases h2 : 37 < op
  · rw [show ElemT.cname op = ⟨#[]⟩ by unfold ElemT.cname; rw [if_neg (by omega)]]; exact name_s_high op h2 w
  have h3 : op = 21 ∨ op = 22 ∨ op = 23 ∨ op = 24 ∨ op = 25 ∨ op = 26 ∨ op = 27 ∨ op = 28 ∨ op = 29 ∨ op = 30 ∨ op = 31 ∨ op = 32 ∨ op = 33 ∨ op = 34 ∨ op = 35 ∨ op = 36 ∨ op = 37 := by omega
  rcases h3 with rfl | rfl | rfl | rfl | rfl | rfl | rfl | rfl | rfl | rfl | rfl | rfl | rfl | rfl | rfl | rfl | rfl
  · exact name_s_21 w
  · exact name_s_22 w
  · exact name_s_23 w
  · exact name_s_24 w
  · exact name_s_25 w
  · exact name_s_26 w
  · exact name_s_27 w
  · exact name_s_28 w
  · exact name_s_29 w
  · exact name_s_30 w
  · exact name_s_31 w
  · exact name_s_32 w
  · exact name_s_33 w
  · exact name_s_34 w
  · exact name_s_35 w
  · exact name_s_36 w
  · exact name_s_37 w
set_option maxRecDepth 100000 in
set_option maxHeartbeats 1000000 in
theorem sign_s_5 (w : World) : Calls Tryd.prog 23 #[.int .i64 5] w fun e w' => e = .returned (.string ⟨#[60]⟩) ∧ Below w.heap.size w w' := by
  go_enter Tryd.func23, Tryd.ntmps23
  go_wp2
  go_ret
  exact ⟨rfl, by repeat (first | exact Below.refl _ _ | assumption | refine Below.setCell ?_ (by first | (simp; done) | (simp; omega) | omega) _ | refine Below.alloc ?_ (by first | (simp; done) | (simp; omega) | omega) _ | refine Bx.bel_drewN ?_ _ | refine Below.drew ?_)⟩
theorem cmp_ix0 (w : World) : (Instr.index 71 (.agg #[.string ⟨#[60]⟩, .string ⟨#[60, 61]⟩, .string ⟨#[61]⟩, .string ⟨#[60, 62]⟩, .string ⟨#[62, 61]⟩, .string ⟨#[62]⟩]) (.int .i64 0)).run Tryd.prog w = .ok (.string ⟨#[60]⟩) w := by kernel_rfl
set_option maxRecDepth 100000 in
set_option maxHeartbeats 1000000 in
theorem sign_i_1 (w : World) : Calls Tryd.prog 27 #[.int .i64 1] w fun e w' => e = .returned (.string ⟨#[60]⟩) ∧ w' = w := by
  have ix := cmp_ix0
  go_enter Tryd.func27, Tryd.ntmps27
  go_wp2
  go_ret
  exact ⟨rfl, rfl⟩
set_option maxRecDepth 100000 in
set_option maxHeartbeats 1000000 in
theorem sign_s_6 (w : World) : Calls Tryd.prog 23 #[.int .i64 6] w fun e w' => e = .returned (.string ⟨#[60, 61]⟩) ∧ Below w.heap.size w w' := by
  go_enter Tryd.func23, Tryd.ntmps23
  go_wp2
  go_ret
  exact ⟨rfl, by repeat (first | exact Below.refl _ _ | assumption | refine Below.setCell ?_ (by first | (simp; done) | (simp; omega) | omega) _ | refine Below.alloc ?_ (by first | (simp; done) | (simp; omega) | omega) _ | refine Bx.bel_drewN ?_ _ | refine Below.drew ?_)⟩
theorem cmp_ix1 (w : World) : (Instr.index 71 (.agg #[.string ⟨#[60]⟩, .string ⟨#[60, 61]⟩, .string ⟨#[61]⟩, .string ⟨#[60, 62]⟩, .string ⟨#[62, 61]⟩, .string ⟨#[62]⟩]) (.int .i64 1)).run Tryd.prog w = .ok (.string ⟨#[60, 61]⟩) w := by kernel_rfl
set_option maxRecDepth 100000 in
set_option maxHeartbeats 1000000 in
theorem sign_i_2 (w : World) : Calls Tryd.prog 27 #[.int .i64 2] w fun e w' => e = .returned (.string ⟨#[60, 61]⟩) ∧ w' = w := by
  have ix := cmp_ix1
  go_enter Tryd.func27, Tryd.ntmps27
  go_wp2
  go_ret
  exact ⟨rfl, rfl⟩
set_option maxRecDepth 100000 in
set_option maxHeartbeats 1000000 in
theorem sign_s_7 (w : World) : Calls Tryd.prog 23 #[.int .i64 7] w fun e w' => e = .returned (.string ⟨#[61]⟩) ∧ Below w.heap.size w w' := by
  go_enter Tryd.func23, Tryd.ntmps23
  go_wp2
  go_ret
  exact ⟨rfl, by repeat (first | exact Below.refl _ _ | assumption | refine Below.setCell ?_ (by first | (simp; done) | (simp; omega) | omega) _ | refine Below.alloc ?_ (by first | (simp; done) | (simp; omega) | omega) _ | refine Bx.bel_drewN ?_ _ | refine Below.drew ?_)⟩
theorem cmp_ix2 (w : World) : (Instr.index 71 (.agg #[.string ⟨#[60]⟩, .string ⟨#[60, 61]⟩, .string ⟨#[61]⟩, .string ⟨#[60, 62]⟩, .string ⟨#[62, 61]⟩, .string ⟨#[62]⟩]) (.int .i64 2)).run Tryd.prog w = .ok (.string ⟨#[61]⟩) w := by kernel_rfl
set_option maxRecDepth 100000 in
set_option maxHeartbeats 1000000 in
theorem sign_i_3 (w : World) : Calls Tryd.prog 27 #[.int .i64 3] w fun e w' => e = .returned (.string ⟨#[61]⟩) ∧ w' = w := by
  have ix := cmp_ix2
  go_enter Tryd.func27, Tryd.ntmps27
  go_wp2
  go_ret
  exact ⟨rfl, rfl⟩
set_option maxRecDepth 100000 in
set_option maxHeartbeats 1000000 in
theorem sign_s_8 (w : World) : Calls Tryd.prog 23 #[.int .i64 8] w fun e w' => e = .returned (.string ⟨#[60, 62]⟩) ∧ Below w.heap.size w w' := by
  go_enter Tryd.func23, Tryd.ntmps23
  go_wp2
  go_ret
  exact ⟨rfl, by repeat (first | exact Below.refl _ _ | assumption | refine Below.setCell ?_ (by first | (simp; done) | (simp; omega) | omega) _ | refine Below.alloc ?_ (by first | (simp; done) | (simp; omega) | omega) _ | refine Bx.bel_drewN ?_ _ | refine Below.drew ?_)⟩
theorem cmp_ix3 (w : World) : (Instr.index 71 (.agg #[.string ⟨#[60]⟩, .string ⟨#[60, 61]⟩, .string ⟨#[61]⟩, .string ⟨#[60, 62]⟩, .string ⟨#[62, 61]⟩, .string ⟨#[62]⟩]) (.int .i64 3)).run Tryd.prog w = .ok (.string ⟨#[60, 62]⟩) w := by kernel_rfl
set_option maxRecDepth 100000 in
set_option maxHeartbeats 1000000 in
theorem sign_i_4 (w : World) : Calls Tryd.prog 27 #[.int .i64 4] w fun e w' => e = .returned (.string ⟨#[60, 62]⟩) ∧ w' = w := by
  have ix := cmp_ix3
  go_enter Tryd.func27, Tryd.ntmps27
  go_wp2
  go_ret
  exact ⟨rfl, rfl⟩
set_option maxRecDepth 100000 in
set_option maxHeartbeats 1000000 in
theorem sign_s_9 (w : World) : Calls Tryd.prog 23 #[.int .i64 9] w fun e w' => e = .returned (.string ⟨#[62, 61]⟩) ∧ Below w.heap.size w w' := by
  go_enter Tryd.func23, Tryd.ntmps23
  go_wp2
  go_ret
  exact ⟨rfl, by repeat (first | exact Below.refl _ _ | assumption | refine Below.setCell ?_ (by first | (simp; done) | (simp; omega) | omega) _ | refine Below.alloc ?_ (by first | (simp; done) | (simp; omega) | omega) _ | refine Bx.bel_drewN ?_ _ | refine Below.drew ?_)⟩
theorem cmp_ix4 (w : World) : (Instr.index 71 (.agg #[.string ⟨#[60]⟩, .string ⟨#[60, 61]⟩, .string ⟨#[61]⟩, .string ⟨#[60, 62]⟩, .string ⟨#[62, 61]⟩, .string ⟨#[62]⟩]) (.int .i64 4)).run Tryd.prog w = .ok (.string ⟨#[62, 61]⟩) w := by kernel_rfl
set_option maxRecDepth 100000 in
set_option maxHeartbeats 1000000 in
theorem sign_i_5 (w : World) : Calls Tryd.prog 27 #[.int .i64 5] w fun e w' => e = .returned (.string ⟨#[62, 61]⟩) ∧ w' = w := by
  have ix := cmp_ix4
  go_enter Tryd.func27, Tryd.ntmps27
  go_wp2
  go_ret
  exact ⟨rfl, rfl⟩
set_option maxRecDepth 100000 in
set_option maxHeartbeats 1000000 in
theorem sign_s_10 (w : World) : Calls Tryd.prog 23 #[.int .i64 10] w fun e w' => e = .returned (.string ⟨#[62]⟩) ∧ Below w.heap.size w w' := by
  go_enter Tryd.func23, Tryd.ntmps23
  go_wp2
  go_ret
  exact ⟨rfl, by repeat (first | exact Below.refl _ _ | assumption | refine Below.setCell ?_ (by first | (simp; done) | (simp; omega) | omega) _ | refine Below.alloc ?_ (by first | (simp; done) | (simp; omega) | omega) _ | refine Bx.bel_drewN ?_ _ | refine Below.drew ?_)⟩
theorem cmp_ix5 (w : World) : (Instr.index 71 (.agg #[.string ⟨#[60]⟩, .string ⟨#[60, 61]⟩, .string ⟨#[61]⟩, .string ⟨#[60, 62]⟩, .string ⟨#[62, 61]⟩, .string ⟨#[62]⟩]) (.int .i64 5)).run Tryd.prog w = .ok (.string ⟨#[62]⟩) w := by kernel_rfl
set_option maxRecDepth 100000 in
set_option maxHeartbeats 1000000 in
theorem sign_i_6 (w : World) : Calls Tryd.prog 27 #[.int .i64 6] w fun e w' => e = .returned (.string ⟨#[62]⟩) ∧ w' = w := by
  have ix := cmp_ix5
  go_enter Tryd.func27, Tryd.ntmps27
  go_wp2
  go_ret
  exact ⟨rfl, rfl⟩
theorem sign_s_any (op : Int) (h : 5 ≤ op ∧ op ≤ 10) (w : World) : Calls Tryd.prog 23 #[.int .i64 op] w fun e w' => e = .returned (.string (ElemT.sign op)) ∧ Below w.heap.size w w' := by
  have h3 : op = 5 ∨ op = 6 ∨ op = 7 ∨ op = 8 ∨ op = 9 ∨ op = 10 := by omega
  rcases h3 with rfl | rfl | rfl | rfl | rfl | rfl
  · exact sign_s_5 w
  · exact sign_s_6 w
  · exact sign_s_7 w
  · exact sign_s_8 w
  · exact sign_s_9 w
  · exact sign_s_10 w
theorem sign_i_any (op : Int) (h : 5 ≤ op ∧ op ≤ 10) (w : World) : Calls Tryd.prog 27 #[.int .i64 (op - 5 + 1)] w fun e w' => e = .returned (.string (ElemT.sign op)) ∧ w' = w := by
  have h3 : op = 5 ∨ op = 6 ∨ op = 7 ∨ op = 8 ∨ op = 9 ∨ op = 10 := by omega
  rcases h3 with rfl | rfl | rfl | rfl | rfl | rfl
  · exact sign_i_1 w
  · exact sign_i_2 w
  · exact sign_i_3 w
  · exact sign_i_4 w
  · exact sign_i_5 w
  · exact sign_i_6 w
end Go.Proofs.YtmlpobecilbknaaDoor
