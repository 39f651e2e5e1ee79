/- The walk of spec.l3Read. -/
import Derived.Test.YtobbkebjgjeglaaDoorRows
import Derived.Test.YtobbkebjgjeglaaDoorWNum
import Derived.Test.YtobbkebjgjeglaaDoorRealG
import Derived.Test.YtobbkebjgjeglaaDoorWReal
import Derived.WalkKit
import Derived.WalkSpells
import Derived.WalkLawsBesides
import Derived.OpenShut
import Derived.IntWalk
import Derived.Lib.Hide
import Derived.Deep.QuietTactic
import Derived.BigQuiet
import Derived.Laws.FloatArith
namespace Go.Proofs.YtobbkebjgjeglaaDoor
open Go.RowKit Bx ItoP RealP Fl RealR RealG
set_option linter.unusedVariables false

open Classical in
noncomputable def rdN (l : List UInt8) : Int × Bool := if h : ∃ z, numP l z then (h.choose, true) else (0, false)
theorem rdN_yes {l : List UInt8} {z : Int} (h : numP l z) : rdN l = (z, true) := by
  have hx : ∃ z, numP l z := ⟨z, h⟩
  unfold rdN
  rw [dif_pos hx, num_inj hx.choose_spec h]
theorem rdN_no {l : List UInt8} (h : ∀ z, ¬ numP l z) : rdN l = (0, false) := by
  unfold rdN
  rw [dif_neg (fun ⟨z, hz⟩ => h z hz)]
theorem rdN_of {l : List UInt8} {z : Int} (h : rdN l = (z, true)) : numP l z := by
  unfold rdN at h
  split at h
  · rename_i hx
    have := (Prod.mk.inj h).1
    rw [← this]; exact hx.choose_spec
  · cases (Prod.mk.inj h).2
theorem l10Num_rd (s : ByteArray) (hs : s.size ≤ 2000000) (w : World) : Calls Tryd.prog 33 #[.string s] w fun e w' => e = .returned (.tuple #[.int .i64 (rdN s.data.toList).1, .bool (rdN s.data.toList).2]) ∧ w' = w := by
  refine (l10Num_any s hs w).mono ?_
  rintro e w' ⟨z, ok, he, h, hw⟩
  refine ⟨?_, hw⟩
  rcases h with ⟨rfl, h⟩ | ⟨rfl, rfl, h⟩
  · rw [rdN_yes h]; exact he
  · rw [rdN_no h]; exact he
set_option maxRecDepth 100000 in
set_option maxHeartbeats 1000000 in
theorem l3Read_no (u : ByteArray) (hu : u.size ≤ 2000000) (hx : Lib.indexByte u.data.toList 42 = -1) (w : World) : Calls Tryd.prog 16 #[.string u] w fun e w' => e = .returned (.tuple #[.float .f64 0, .bool false]) ∧ w' = w := by
  have hf := fun w => l10Find_any u (by omega) w
  rw [hx] at hf
  clear hx
  go_enter Tryd.func16, Tryd.ntmps16
  go_wp2_with fail
  refine (hf _).mono ?_
  rintro e w' ⟨rfl, rfl⟩
  clear hf
  go_wp2
  go_ret2
  exact ⟨rfl, rfl⟩
set_option maxRecDepth 100000 in
set_option maxHeartbeats 1000000 in
theorem l3Read_short (u : ByteArray) (hu : u.size ≤ 2000000) (k : Nat) (hx : Lib.indexByte u.data.toList 42 = (k : Int)) (hk : u.size < k + 4) (hk2 : k < u.size) (w : World) : Calls Tryd.prog 16 #[.string u] w fun e w' => e = .returned (.tuple #[.float .f64 0, .bool false]) ∧ w' = w := by
  have hf := fun w => l10Find_any u (by omega) w
  rw [hx] at hf
  clear hx
  have d1 : ¬ (k : Int) < 0 := by omega
  have d2 : (u.size : Int) < (k : Int) + 4 := by omega
  go_enter Tryd.func16, Tryd.ntmps16
  go_wp2_with fail
  refine (hf _).mono ?_
  rintro e w' ⟨rfl, rfl⟩
  clear hf
  go_wp2
  go_ret2
  exact ⟨rfl, rfl⟩
set_option maxRecDepth 100000 in
set_option maxHeartbeats 1000000 in
theorem l3Read_odd (u : ByteArray) (hu : u.size ≤ 2000000) (k : Nat) (hx : Lib.indexByte u.data.toList 42 = (k : Int)) (hk : k + 4 ≤ u.size) (d : ByteArray) (hd : u.extract k (k + 3) = d) (hne : ¬ d.toList = [42, 50, 94]) (w : World) : Calls Tryd.prog 16 #[.string u] w fun e w' => e = .returned (.tuple #[.float .f64 0, .bool false]) ∧ w' = w := by
  have hf := fun w => l10Find_any u (by omega) w
  rw [hx] at hf
  clear hx
  have d1 : ¬ (k : Int) < 0 := by omega
  have d2 : ¬ (u.size : Int) < (k : Int) + 4 := by omega
  have d3 : (d.toList == [42, 50, 94]) = false := beq_eq_false_iff_ne.2 hne
  go_enter Tryd.func16, Tryd.ntmps16
  go_wp2_with fail
  refine (hf _).mono ?_
  rintro e w' ⟨rfl, rfl⟩
  clear hf
  go_wp2
  go_ret2
  exact ⟨rfl, rfl⟩
set_option maxRecDepth 100000 in
set_option maxHeartbeats 1000000 in
theorem l3Read_ok1 (u : ByteArray) (hu : u.size ≤ 2000000) (k : Nat) (hx : Lib.indexByte u.data.toList 42 = (k : Int)) (hk : k + 4 ≤ u.size) (hd : u.extract k (k + 3) = star) (z1 z2 : Int) (ok1 ok2 : Bool) (h1 : rdN (u.extract 0 k).data.toList = (z1, ok1)) (h2 : rdN (u.extract (k + 3) u.size).data.toList = (z2, ok2)) (hb : ok1 = false) (w : World) : Calls Tryd.prog 16 #[.string u] w fun e w' => e = .returned (.tuple #[.float .f64 0, .bool false]) ∧ w' = w := by
  have hf := fun w => l10Find_any u (by omega) w
  rw [hx] at hf
  clear hx
  have hn1 := fun w => l10Num_rd (u.extract 0 k) (by rw [ByteArray.size_extract]; omega) w
  have hn2 := fun w => l10Num_rd (u.extract (k + 3) u.size) (by rw [ByteArray.size_extract]; omega) w
  rw [h1] at hn1
  rw [h2] at hn2
  clear h1 h2
  have d1 : ¬ (k : Int) < 0 := by omega
  have d2 : ¬ (u.size : Int) < (k : Int) + 4 := by omega
  have hs : star.toList = [42, 50, 94] := by rw [ByteArray.toList_eq]; rfl
  subst hb
  generalize star = st at hd hs
  generalize ha : u.extract 0 k = a at hn1
  generalize hc : u.extract (k + 3) u.size = c at hn2
  go_enter Tryd.func16, Tryd.ntmps16
  go_wp2_with fail
  refine (hf _).mono ?_
  rintro e w' ⟨rfl, rfl⟩
  clear hf
  go_wp2_with fail
  refine (hn1 _).mono ?_
  rintro e w' ⟨rfl, rfl⟩
  clear hn1
  go_wp2_with fail
  refine (hn2 _).mono ?_
  rintro e w ⟨rfl, rfl⟩
  clear hn2
  go_wp2
  go_ret2
  exact ⟨rfl, rfl⟩
set_option maxRecDepth 100000 in
set_option maxHeartbeats 1000000 in
theorem l3Read_ok2 (u : ByteArray) (hu : u.size ≤ 2000000) (k : Nat) (hx : Lib.indexByte u.data.toList 42 = (k : Int)) (hk : k + 4 ≤ u.size) (hd : u.extract k (k + 3) = star) (z1 z2 : Int) (ok1 ok2 : Bool) (h1 : rdN (u.extract 0 k).data.toList = (z1, ok1)) (h2 : rdN (u.extract (k + 3) u.size).data.toList = (z2, ok2)) (g1 : ok1 = true) (hb : ok2 = false) (w : World) : Calls Tryd.prog 16 #[.string u] w fun e w' => e = .returned (.tuple #[.float .f64 0, .bool false]) ∧ w' = w := by
  have hf := fun w => l10Find_any u (by omega) w
  rw [hx] at hf
  clear hx
  have hn1 := fun w => l10Num_rd (u.extract 0 k) (by rw [ByteArray.size_extract]; omega) w
  have hn2 := fun w => l10Num_rd (u.extract (k + 3) u.size) (by rw [ByteArray.size_extract]; omega) w
  rw [h1] at hn1
  rw [h2] at hn2
  clear h1 h2
  have d1 : ¬ (k : Int) < 0 := by omega
  have d2 : ¬ (u.size : Int) < (k : Int) + 4 := by omega
  have hs : star.toList = [42, 50, 94] := by rw [ByteArray.toList_eq]; rfl
  subst g1
  subst hb
  generalize star = st at hd hs
  generalize ha : u.extract 0 k = a at hn1
  generalize hc : u.extract (k + 3) u.size = c at hn2
  go_enter Tryd.func16, Tryd.ntmps16
  go_wp2_with fail
  refine (hf _).mono ?_
  rintro e w' ⟨rfl, rfl⟩
  clear hf
  go_wp2_with fail
  refine (hn1 _).mono ?_
  rintro e w' ⟨rfl, rfl⟩
  clear hn1
  go_wp2_with fail
  refine (hn2 _).mono ?_
  rintro e w ⟨rfl, rfl⟩
  clear hn2
  go_wp2
  go_ret2
  exact ⟨rfl, rfl⟩
set_option maxRecDepth 100000 in
set_option maxHeartbeats 1000000 in
theorem l3Read_low (u : ByteArray) (hu : u.size ≤ 2000000) (k : Nat) (hx : Lib.indexByte u.data.toList 42 = (k : Int)) (hk : k + 4 ≤ u.size) (hd : u.extract k (k + 3) = star) (z1 z2 : Int) (ok1 ok2 : Bool) (h1 : rdN (u.extract 0 k).data.toList = (z1, ok1)) (h2 : rdN (u.extract (k + 3) u.size).data.toList = (z2, ok2)) (g1 : ok1 = true) (g2 : ok2 = true) (hb : z1 < 1) (w : World) : Calls Tryd.prog 16 #[.string u] w fun e w' => e = .returned (.tuple #[.float .f64 0, .bool false]) ∧ w' = w := by
  have hf := fun w => l10Find_any u (by omega) w
  rw [hx] at hf
  clear hx
  have hn1 := fun w => l10Num_rd (u.extract 0 k) (by rw [ByteArray.size_extract]; omega) w
  have hn2 := fun w => l10Num_rd (u.extract (k + 3) u.size) (by rw [ByteArray.size_extract]; omega) w
  rw [h1] at hn1
  rw [h2] at hn2
  clear h1 h2
  have d1 : ¬ (k : Int) < 0 := by omega
  have d2 : ¬ (u.size : Int) < (k : Int) + 4 := by omega
  have hs : star.toList = [42, 50, 94] := by rw [ByteArray.toList_eq]; rfl
  subst g1
  subst g2
  generalize star = st at hd hs
  generalize ha : u.extract 0 k = a at hn1
  generalize hc : u.extract (k + 3) u.size = c at hn2
  go_enter Tryd.func16, Tryd.ntmps16
  go_wp2_with fail
  refine (hf _).mono ?_
  rintro e w' ⟨rfl, rfl⟩
  clear hf
  go_wp2_with fail
  refine (hn1 _).mono ?_
  rintro e w' ⟨rfl, rfl⟩
  clear hn1
  go_wp2_with fail
  refine (hn2 _).mono ?_
  rintro e w ⟨rfl, rfl⟩
  clear hn2
  go_wp2
  go_ret2
  exact ⟨rfl, rfl⟩
set_option maxRecDepth 100000 in
set_option maxHeartbeats 1000000 in
theorem l3Read_high (u : ByteArray) (hu : u.size ≤ 2000000) (k : Nat) (hx : Lib.indexByte u.data.toList 42 = (k : Int)) (hk : k + 4 ≤ u.size) (hd : u.extract k (k + 3) = star) (z1 z2 : Int) (ok1 ok2 : Bool) (h1 : rdN (u.extract 0 k).data.toList = (z1, ok1)) (h2 : rdN (u.extract (k + 3) u.size).data.toList = (z2, ok2)) (g1 : ok1 = true) (g2 : ok2 = true) (b1 : ¬ z1 < 1) (hb : 9007199254740991 < z1) (w : World) : Calls Tryd.prog 16 #[.string u] w fun e w' => e = .returned (.tuple #[.float .f64 0, .bool false]) ∧ w' = w := by
  have hf := fun w => l10Find_any u (by omega) w
  rw [hx] at hf
  clear hx
  have hn1 := fun w => l10Num_rd (u.extract 0 k) (by rw [ByteArray.size_extract]; omega) w
  have hn2 := fun w => l10Num_rd (u.extract (k + 3) u.size) (by rw [ByteArray.size_extract]; omega) w
  rw [h1] at hn1
  rw [h2] at hn2
  clear h1 h2
  have d1 : ¬ (k : Int) < 0 := by omega
  have d2 : ¬ (u.size : Int) < (k : Int) + 4 := by omega
  have hs : star.toList = [42, 50, 94] := by rw [ByteArray.toList_eq]; rfl
  subst g1
  subst g2
  generalize star = st at hd hs
  generalize ha : u.extract 0 k = a at hn1
  generalize hc : u.extract (k + 3) u.size = c at hn2
  go_enter Tryd.func16, Tryd.ntmps16
  go_wp2_with fail
  refine (hf _).mono ?_
  rintro e w' ⟨rfl, rfl⟩
  clear hf
  go_wp2_with fail
  refine (hn1 _).mono ?_
  rintro e w' ⟨rfl, rfl⟩
  clear hn1
  go_wp2_with fail
  refine (hn2 _).mono ?_
  rintro e w ⟨rfl, rfl⟩
  clear hn2
  go_wp2
  go_ret2
  exact ⟨rfl, rfl⟩
set_option maxRecDepth 100000 in
set_option maxHeartbeats 1000000 in
theorem l3Read_even (u : ByteArray) (hu : u.size ≤ 2000000) (k : Nat) (hx : Lib.indexByte u.data.toList 42 = (k : Int)) (hk : k + 4 ≤ u.size) (hd : u.extract k (k + 3) = star) (z1 z2 : Int) (ok1 ok2 : Bool) (h1 : rdN (u.extract 0 k).data.toList = (z1, ok1)) (h2 : rdN (u.extract (k + 3) u.size).data.toList = (z2, ok2)) (g1 : ok1 = true) (g2 : ok2 = true) (n : Nat) (hz : z1 = n) (b1 : ¬ z1 < 1) (b2 : ¬ 9007199254740991 < z1) (hb : ((n : Int) % 2 == 0) = true) (w : World) : Calls Tryd.prog 16 #[.string u] w fun e w' => e = .returned (.tuple #[.float .f64 0, .bool false]) ∧ w' = w := by
  have hf := fun w => l10Find_any u (by omega) w
  rw [hx] at hf
  clear hx
  have hn1 := fun w => l10Num_rd (u.extract 0 k) (by rw [ByteArray.size_extract]; omega) w
  have hn2 := fun w => l10Num_rd (u.extract (k + 3) u.size) (by rw [ByteArray.size_extract]; omega) w
  rw [h1] at hn1
  rw [h2] at hn2
  clear h1 h2
  have d1 : ¬ (k : Int) < 0 := by omega
  have d2 : ¬ (u.size : Int) < (k : Int) + 4 := by omega
  have hs : star.toList = [42, 50, 94] := by rw [ByteArray.toList_eq]; rfl
  subst g1
  subst g2
  subst hz
  generalize star = st at hd hs
  generalize ha : u.extract 0 k = a at hn1
  generalize hc : u.extract (k + 3) u.size = c at hn2
  go_enter Tryd.func16, Tryd.ntmps16
  go_wp2_with fail
  refine (hf _).mono ?_
  rintro e w' ⟨rfl, rfl⟩
  clear hf
  go_wp2_with fail
  refine (hn1 _).mono ?_
  rintro e w' ⟨rfl, rfl⟩
  clear hn1
  go_wp2_with fail
  refine (hn2 _).mono ?_
  rintro e w ⟨rfl, rfl⟩
  clear hn2
  go_wp2
  go_ret2
  exact ⟨rfl, rfl⟩
set_option maxRecDepth 100000 in
set_option maxHeartbeats 1000000 in
theorem l3Read_elow (u : ByteArray) (hu : u.size ≤ 2000000) (k : Nat) (hx : Lib.indexByte u.data.toList 42 = (k : Int)) (hk : k + 4 ≤ u.size) (hd : u.extract k (k + 3) = star) (z1 z2 : Int) (ok1 ok2 : Bool) (h1 : rdN (u.extract 0 k).data.toList = (z1, ok1)) (h2 : rdN (u.extract (k + 3) u.size).data.toList = (z2, ok2)) (g1 : ok1 = true) (g2 : ok2 = true) (n : Nat) (hz : z1 = n) (b1 : ¬ z1 < 1) (b2 : ¬ 9007199254740991 < z1) (b3 : ((n : Int) % 2 == 0) = false) (hb : z2 < -1074) (w : World) : Calls Tryd.prog 16 #[.string u] w fun e w' => e = .returned (.tuple #[.float .f64 0, .bool false]) ∧ w' = w := by
  have hf := fun w => l10Find_any u (by omega) w
  rw [hx] at hf
  clear hx
  have hn1 := fun w => l10Num_rd (u.extract 0 k) (by rw [ByteArray.size_extract]; omega) w
  have hn2 := fun w => l10Num_rd (u.extract (k + 3) u.size) (by rw [ByteArray.size_extract]; omega) w
  rw [h1] at hn1
  rw [h2] at hn2
  clear h1 h2
  have d1 : ¬ (k : Int) < 0 := by omega
  have d2 : ¬ (u.size : Int) < (k : Int) + 4 := by omega
  have hs : star.toList = [42, 50, 94] := by rw [ByteArray.toList_eq]; rfl
  subst g1
  subst g2
  subst hz
  generalize star = st at hd hs
  generalize ha : u.extract 0 k = a at hn1
  generalize hc : u.extract (k + 3) u.size = c at hn2
  go_enter Tryd.func16, Tryd.ntmps16
  go_wp2_with fail
  refine (hf _).mono ?_
  rintro e w' ⟨rfl, rfl⟩
  clear hf
  go_wp2_with fail
  refine (hn1 _).mono ?_
  rintro e w' ⟨rfl, rfl⟩
  clear hn1
  go_wp2_with fail
  refine (hn2 _).mono ?_
  rintro e w ⟨rfl, rfl⟩
  clear hn2
  go_wp2
  go_ret2
  exact ⟨rfl, rfl⟩
set_option maxRecDepth 100000 in
set_option maxHeartbeats 1000000 in
theorem l3Read_ehigh (u : ByteArray) (hu : u.size ≤ 2000000) (k : Nat) (hx : Lib.indexByte u.data.toList 42 = (k : Int)) (hk : k + 4 ≤ u.size) (hd : u.extract k (k + 3) = star) (z1 z2 : Int) (ok1 ok2 : Bool) (h1 : rdN (u.extract 0 k).data.toList = (z1, ok1)) (h2 : rdN (u.extract (k + 3) u.size).data.toList = (z2, ok2)) (g1 : ok1 = true) (g2 : ok2 = true) (n : Nat) (hz : z1 = n) (b1 : ¬ z1 < 1) (b2 : ¬ 9007199254740991 < z1) (b3 : ((n : Int) % 2 == 0) = false) (b4 : ¬ z2 < -1074) (hb : 1023 < z2) (w : World) : Calls Tryd.prog 16 #[.string u] w fun e w' => e = .returned (.tuple #[.float .f64 0, .bool false]) ∧ w' = w := by
  have hf := fun w => l10Find_any u (by omega) w
  rw [hx] at hf
  clear hx
  have hn1 := fun w => l10Num_rd (u.extract 0 k) (by rw [ByteArray.size_extract]; omega) w
  have hn2 := fun w => l10Num_rd (u.extract (k + 3) u.size) (by rw [ByteArray.size_extract]; omega) w
  rw [h1] at hn1
  rw [h2] at hn2
  clear h1 h2
  have d1 : ¬ (k : Int) < 0 := by omega
  have d2 : ¬ (u.size : Int) < (k : Int) + 4 := by omega
  have hs : star.toList = [42, 50, 94] := by rw [ByteArray.toList_eq]; rfl
  subst g1
  subst g2
  subst hz
  generalize star = st at hd hs
  generalize ha : u.extract 0 k = a at hn1
  generalize hc : u.extract (k + 3) u.size = c at hn2
  go_enter Tryd.func16, Tryd.ntmps16
  go_wp2_with fail
  refine (hf _).mono ?_
  rintro e w' ⟨rfl, rfl⟩
  clear hf
  go_wp2_with fail
  refine (hn1 _).mono ?_
  rintro e w' ⟨rfl, rfl⟩
  clear hn1
  go_wp2_with fail
  refine (hn2 _).mono ?_
  rintro e w ⟨rfl, rfl⟩
  clear hn2
  go_wp2
  go_ret2
  exact ⟨rfl, rfl⟩
def Up (n : Nat) (E : Nat) (w : World) (e : Ending) (w' : World) : Prop := ∃ X ok, e = .returned (.tuple #[.float .f64 X, .bool ok]) ∧ ((ok = true ∧ Is X false (n * p2 (1074 + E))) ∨ (ok = false ∧ X < 18446744073709551616 ∧ p2 2098 ≤ n * p2 (1074 + E))) ∧ w' = w
def Down (n : Nat) (E : Nat) (w : World) (e : Ending) (w' : World) : Prop := ∃ X, e = .returned (.tuple #[.float .f64 X, .bool true]) ∧ Is X false (n * p2 (1074 - E)) ∧ w' = w
theorem inf_inf : (FloatKind.f64.format.order 9218868437227405312 9218868437227405312 == some .lt) = false := by decide
set_option maxRecDepth 100000 in
set_option maxHeartbeats 1000000 in
theorem l3Read_up (u : ByteArray) (hu : u.size ≤ 2000000) (k : Nat) (hx : Lib.indexByte u.data.toList 42 = (k : Int)) (hk : k + 4 ≤ u.size) (hd : u.extract k (k + 3) = star) (z1 z2 : Int) (ok1 ok2 : Bool) (h1 : rdN (u.extract 0 k).data.toList = (z1, ok1)) (h2 : rdN (u.extract (k + 3) u.size).data.toList = (z2, ok2)) (g1 : ok1 = true) (g2 : ok2 = true) (n : Nat) (hz : z1 = n) (b1 : ¬ z1 < 1) (b2 : ¬ 9007199254740991 < z1) (b3 : ((n : Int) % 2 == 0) = false) (E : Nat) (hE : z2 = E) (hE2 : E ≤ 1023) (w : World) : Calls Tryd.prog 16 #[.string u] w (Up n E w) := by
  have hf := fun w => l10Find_any u (by omega) w
  rw [hx] at hf
  clear hx
  have hn1 := fun w => l10Num_rd (u.extract 0 k) (by rw [ByteArray.size_extract]; omega) w
  have hn2 := fun w => l10Num_rd (u.extract (k + 3) u.size) (by rw [ByteArray.size_extract]; omega) w
  rw [h1] at hn1
  rw [h2] at hn2
  clear h1 h2
  have d1 : ¬ (k : Int) < 0 := by omega
  have d2 : ¬ (u.size : Int) < (k : Int) + 4 := by omega
  have hs : star.toList = [42, 50, 94] := by rw [ByteArray.toList_eq]; rfl
  subst g1
  subst g2
  subst hz
  have hS := Lib.hid (start_is (show n < 9007199254740992 by omega))
  have HN : Hid (n < 9007199254740992) := Lib.hid (by omega)
  subst hE
  have b4 : ¬ (E : Int) < -1074 := by omega
  have b5 : ¬ 1023 < (E : Int) := by omega
  generalize star = st at hd hs
  generalize ha : u.extract 0 k = a at hn1
  generalize hc : u.extract (k + 3) u.size = c at hn2
  go_enter Tryd.func16, Tryd.ntmps16
  go_wp2_with fail
  refine (hf _).mono ?_
  rintro e w' ⟨rfl, rfl⟩
  clear hf
  go_wp2_with fail
  refine (hn1 _).mono ?_
  rintro e w' ⟨rfl, rfl⟩
  clear hn1
  go_wp2_with fail
  refine (hn2 _).mono ?_
  rintro e w ⟨rfl, rfl⟩
  clear hn2
  go_wp2_with fail
  clear hd hs ha hc b1 b2 b3 b4 b5 d1 d2
  go_loopw [9, 10] (fun x i wr => ∃ (X j : Nat), j ≤ E ∧ Dbl X (n * p2 (1074 + j)) ∧ x = .float .f64 X ∧ i = .int .i64 j ∧ wr = w) (fun _ i _ => E - (intOf i).toNat)
  case atStart => exact ⟨_, 0, by omega, .inl hS.out, rfl, rfl, by first | rfl | trivial⟩
  case round =>
    clear hS
    obtain ⟨X, j, hj, hX, rfl, rfl, rfl⟩ := hrel
    by_cases hlt : j < E
    · have e1 : (j : Int) < (E : Int) := by omega
      obtain ⟨r, hr, hir⟩ := dbl_step HN.out hX
      have hd : floatBits .mul .f64 X 4611686018427387904 = some r := hr
      have e4 := fun (w : World) (t : TypeId) => run_float_arith (P := Tryd.prog) w .mul t .f64 _ _ _ hd
      have HR := Lib.hid hir
      clear hX hr hd hir
      go_wp2
      go_roundw
      case rel => exact ⟨r, j + 1, by omega, HR.out, rfl, by go_num, by first | rfl | trivial⟩
      case measure => simp [intOf]; omega
    · obtain rfl : j = E := by omega
      have e1 : ¬ (j : Int) < (j : Int) := by omega
      have HX := Lib.hid hX
      clear hX hlt
      go_wp2_with fail
      go_loopw [9, 11] (fun x i wr' => x = .float .f64 X ∧ i = .int .i64 0 ∧ wr' = wr) (fun _ _ _ => 0)
      case atStart => exact ⟨rfl, rfl, by first | rfl | trivial⟩
      case round =>
        obtain ⟨rfl, rfl, rfl⟩ := hrel
        have e2 : ¬ (j : Int) < 0 := by omega
        rcases HX.out with hX | ⟨hX, rfl⟩
        · have e5 := lt_inf hX
          have HY := Lib.hid hX
          clear hX
          go_wp2_with fail
          refine (l3Inf_any _).mono ?_
          rintro e w' ⟨rfl, rfl⟩
          go_wp2
          go_ret2
          exact ⟨X, true, rfl, .inl ⟨rfl, HY.out⟩, rfl⟩
        · have e5 := inf_inf
          have HY := Lib.hid hX
          clear hX
          go_wp2_with fail
          refine (l3Inf_any _).mono ?_
          rintro e w' ⟨rfl, rfl⟩
          go_wp2
          go_ret2
          exact ⟨_, false, rfl, .inr ⟨rfl, by omega, HY.out⟩, rfl⟩
set_option maxRecDepth 100000 in
set_option maxHeartbeats 1000000 in
theorem l3Read_down (u : ByteArray) (hu : u.size ≤ 2000000) (k : Nat) (hx : Lib.indexByte u.data.toList 42 = (k : Int)) (hk : k + 4 ≤ u.size) (hd : u.extract k (k + 3) = star) (z1 z2 : Int) (ok1 ok2 : Bool) (h1 : rdN (u.extract 0 k).data.toList = (z1, ok1)) (h2 : rdN (u.extract (k + 3) u.size).data.toList = (z2, ok2)) (g1 : ok1 = true) (g2 : ok2 = true) (n : Nat) (hz : z1 = n) (b1 : ¬ z1 < 1) (b2 : ¬ 9007199254740991 < z1) (b3 : ((n : Int) % 2 == 0) = false) (E : Nat) (hE : z2 = -(E : Int)) (hE1 : 1 ≤ E) (hE2 : E ≤ 1074) (w : World) : Calls Tryd.prog 16 #[.string u] w (Down n E w) := by
  have hf := fun w => l10Find_any u (by omega) w
  rw [hx] at hf
  clear hx
  have hn1 := fun w => l10Num_rd (u.extract 0 k) (by rw [ByteArray.size_extract]; omega) w
  have hn2 := fun w => l10Num_rd (u.extract (k + 3) u.size) (by rw [ByteArray.size_extract]; omega) w
  rw [h1] at hn1
  rw [h2] at hn2
  clear h1 h2
  have d1 : ¬ (k : Int) < 0 := by omega
  have d2 : ¬ (u.size : Int) < (k : Int) + 4 := by omega
  have hs : star.toList = [42, 50, 94] := by rw [ByteArray.toList_eq]; rfl
  subst g1
  subst g2
  subst hz
  have hS := Lib.hid (start_is (show n < 9007199254740992 by omega))
  have HN : Hid (n < 9007199254740992) := Lib.hid (by omega)
  subst hE
  have b4 : ¬ -(E : Int) < -1074 := by omega
  have b5 : ¬ 1023 < -(E : Int) := by omega
  generalize star = st at hd hs
  generalize ha : u.extract 0 k = a at hn1
  generalize hc : u.extract (k + 3) u.size = c at hn2
  go_enter Tryd.func16, Tryd.ntmps16
  go_wp2_with fail
  refine (hf _).mono ?_
  rintro e w' ⟨rfl, rfl⟩
  clear hf
  go_wp2_with fail
  refine (hn1 _).mono ?_
  rintro e w' ⟨rfl, rfl⟩
  clear hn1
  go_wp2_with fail
  refine (hn2 _).mono ?_
  rintro e w ⟨rfl, rfl⟩
  clear hn2
  go_wp2_with fail
  clear hd hs ha hc b1 b2 b3 b4 b5 d1 d2
  go_loopw [9, 10] (fun x i wr => x = .float .f64 (floatOfInt .f64 (n : Int)) ∧ i = .int .i64 0 ∧ wr = w) (fun _ _ _ => 0)
  case atStart => exact ⟨rfl, rfl, by first | rfl | trivial⟩
  case round =>
    obtain ⟨rfl, rfl, rfl⟩ := hrel
    have e2 : ¬ 0 < -(E : Int) := by omega
    go_wp2_with fail
    clear e2
    go_loopw [9, 11] (fun x i wr' => ∃ (X j : Nat), j ≤ E ∧ Is X false (n * p2 (1074 - j)) ∧ x = .float .f64 X ∧ i = .int .i64 (-(j : Int)) ∧ wr' = wr) (fun _ i _ => E - (-(intOf i)).toNat)
    case atStart => exact ⟨_, 0, by omega, hS.out, rfl, rfl, by first | rfl | trivial⟩
    case round =>
      clear hS
      obtain ⟨X, j, hj, hX, rfl, rfl, rfl⟩ := hrel
      by_cases hlt : j < E
      · have e1 : -(E : Int) < -(j : Int) := by omega
        obtain ⟨r, hr, hir⟩ := div_step (k := 1074 - (j + 1)) HN.out (by rw [show 1074 - (j + 1) + 1 = 1074 - j by omega]; exact hX)
        have hd : floatBits .quo .f64 X 4611686018427387904 = some r := hr
        have e4 := fun (w : World) (t : TypeId) => run_float_arith (P := Tryd.prog) w .quo t .f64 _ _ _ hd
        have HR := Lib.hid hir
        clear hX hr hd hir
        go_wp2
        go_roundw
        case rel => exact ⟨r, j + 1, by omega, HR.out, rfl, by go_num, by first | rfl | trivial⟩
        case measure => simp [intOf]; omega
      · obtain rfl : j = E := by omega
        have e1 : ¬ -(j : Int) < -(j : Int) := by omega
        have e5 := lt_inf hX
        have HX := Lib.hid hX
        clear hX hlt
        go_wp2_with fail
        refine (l3Inf_any _).mono ?_
        rintro e w' ⟨rfl, rfl⟩
        go_wp2
        go_ret2
        exact ⟨X, rfl, HX.out, rfl⟩
theorem ib_lt : ∀ (l : List UInt8) (c : UInt8), Lib.indexByte l c < l.length
  | [], _ => by simp [Lib.indexByte]
  | b :: l, c => by
    have := ib_lt l c
    unfold Lib.indexByte
    simp only [List.length_cons]
    split
    · omega
    · split <;> omega
theorem ex_to (u : ByteArray) (k : Nat) : (u.extract 0 k).data.toList = u.data.toList.take k := by
  simp only [ByteArray.data_extract, Array.toList_extract, List.extract]
  rw [List.drop_zero, Nat.sub_zero]
theorem ex_from (u : ByteArray) (k : Nat) : (u.extract k u.size).data.toList = u.data.toList.drop k := by
  simp only [ByteArray.data_extract, Array.toList_extract, List.extract]
  rw [List.take_of_length_le (by rw [List.length_drop]; exact Nat.le_refl _)]
theorem ex_mid (u : ByteArray) (k : Nat) : (u.extract k (k + 3)).data.toList = (u.data.toList.drop k).take 3 := by
  simp only [ByteArray.data_extract, Array.toList_extract, List.extract]
  rw [show k + 3 - k = 3 by omega]
theorem cut_parts {u : ByteArray} {n T : Nat} (h : Cut u n T) (hT : T < 10000) : ∃ k : Nat, Lib.indexByte u.data.toList 42 = (k : Int) ∧ k + 4 ≤ u.size ∧ u.extract k (k + 3) = star ∧ rdN (u.extract 0 k).data.toList = ((n : Int), true) ∧ rdN (u.extract (k + 3) u.size).data.toList = ((T : Int) - 1074, true) := by
  have hl := h.list
  obtain ⟨a, ha⟩ : ∃ a, (itoaB (n : Int)).data.toList = a := ⟨_, rfl⟩
  obtain ⟨c, hc⟩ : ∃ c, (itoaB ((T : Int) - 1074)).data.toList = c := ⟨_, rfl⟩
  have hs : ∀ b ∈ a, b ≠ 42 := by rw [← ha]; exact no_star
  have hne : c ≠ [] := by
    intro e
    rw [e] at hc
    have := num_shape (l := []) (z := (T : Int) - 1074) ⟨hc.symm, by omega, by omega⟩
    rcases this with ⟨_, c, _⟩ | ⟨d, hd, _⟩
    · exact c.ne rfl
    · cases hd
  rw [ha, hc] at hl
  have hz : u.size = u.data.toList.length := rfl
  refine ⟨a.length, by rw [hl]; exact ib_at _ hs, ?_, ?_, ?_, ?_⟩
  · rw [hz, hl]
    cases c with
    | nil => exact absurd rfl hne
    | cons x r => simp
  · refine ItoP.ext ?_
    rw [ex_mid, hl, List.drop_left]; rfl
  · rw [ex_to, hl, List.take_left]
    exact rdN_yes ⟨ha.symm, (nat_bd h.lt).1, (nat_bd h.lt).2⟩
  · rw [ex_from, hl, ← List.drop_drop, List.drop_left]
    exact rdN_yes ⟨hc.symm, by omega, by omega⟩
theorem parts_cut {u : ByteArray} {k : Nat} {n e : Int} (hd : u.extract k (k + 3) = star) (h1 : rdN (u.extract 0 k).data.toList = (n, true)) (h2 : rdN (u.extract (k + 3) u.size).data.toList = (e, true)) : u = (itoaB n ++ star) ++ itoaB e := by
  have a := (rdN_of h1).1
  have c := (rdN_of h2).1
  have m : (u.extract k (k + 3)).data.toList = star.data.toList := by rw [hd]
  rw [ex_to] at a
  rw [ex_from] at c
  rw [ex_mid] at m
  refine ItoP.ext ?_
  rw [app_list, app_list, ← a, ← c, ← m, List.append_assoc, ← List.drop_drop, List.take_append_drop, List.take_append_drop]
def L3Post (u : ByteArray) (w : World) (e : Ending) (w' : World) : Prop := ∃ b ok, e = .returned (.tuple #[.float .f64 b, .bool ok]) ∧ ((ok = true ∧ Pos u b) ∨ (ok = false ∧ b < 18446744073709551616 ∧ ∀ c, ¬ Pos u c)) ∧ w' = w
theorem l3Read_any (u : ByteArray) (hu : u.size ≤ 2000000) (w : World) : Calls Tryd.prog 16 #[.string u] w (L3Post u w) := by
  by_cases hcut : ∃ n T, Cut u n T ∧ T < 2098
  · obtain ⟨n, T, hc, hT⟩ := hcut
    obtain ⟨k, hx, hk, hd, h1, h2⟩ := cut_parts hc (by omega)
    have ho := hc.od
    have hn := hc.lt
    have b3 : ((n : Int) % 2 == 0) = false := beq_eq_false_iff_ne.2 (by omega)
    by_cases hT2 : 1074 ≤ T
    · refine (l3Read_up u hu k hx hk hd _ _ _ _ h1 h2 rfl rfl n rfl (by omega) (by omega) b3 (T - 1074) (by omega) (by omega) w).mono ?_
      rintro e w' ⟨X, ok, he, h, hw⟩
      rw [show 1074 + (T - 1074) = T by omega] at h
      refine ⟨X, ok, he, ?_, hw⟩
      rcases h with ⟨h3, h4⟩ | ⟨h3, h4, h5⟩
      · exact .inl ⟨h3, hc.pos h4⟩
      · refine .inr ⟨h3, h4, fun c hp => ?_⟩
        have := (hc.only (by omega) hp).1.rep.1
        omega
    · refine (l3Read_down u hu k hx hk hd _ _ _ _ h1 h2 rfl rfl n rfl (by omega) (by omega) b3 (1074 - T) (by omega) (by omega) (by omega) w).mono ?_
      rintro e w' ⟨X, he, h, hw⟩
      rw [show 1074 - (1074 - T) = T by omega] at h
      exact ⟨X, true, he, .inl ⟨rfl, hc.pos h⟩, hw⟩
  · have hno : ∀ c, ¬ Pos u c := fun c hp => by
      obtain ⟨n, T, h1, h2, _⟩ := hp.cut
      exact hcut ⟨n, T, h1, h2⟩
    have no : Calls Tryd.prog 16 #[.string u] w (fun e w' => e = .returned (.tuple #[.float .f64 0, .bool false]) ∧ w' = w) → Calls Tryd.prog 16 #[.string u] w (L3Post u w) := fun hc => hc.mono fun e w' ⟨he, hw⟩ => ⟨0, false, he, .inr ⟨rfl, by omega, hno⟩, hw⟩
    refine no ?_
    by_cases hx : Lib.indexByte u.data.toList 42 = -1
    · exact l3Read_no u hu hx w
    have hx1 := Lib.indexByte_ge u.data.toList 42
    have hx2 := ib_lt u.data.toList 42
    obtain ⟨k, hk⟩ := Int.eq_ofNat_of_zero_le (show 0 ≤ Lib.indexByte u.data.toList 42 by omega)
    have hz : u.size = u.data.toList.length := rfl
    rw [hk] at hx2
    by_cases h4 : k + 4 ≤ u.size
    · by_cases hd : u.extract k (k + 3) = star
      · obtain ⟨⟨z1, ok1⟩, h1⟩ : ∃ p, rdN (u.extract 0 k).data.toList = p := ⟨_, rfl⟩
        obtain ⟨⟨z2, ok2⟩, h2⟩ : ∃ p, rdN (u.extract (k + 3) u.size).data.toList = p := ⟨_, rfl⟩
        cases ok1 with
        | false => exact l3Read_ok1 u hu k hk h4 hd z1 z2 _ _ h1 h2 rfl w
        | true =>
        cases ok2 with
        | false => exact l3Read_ok2 u hu k hk h4 hd z1 z2 _ _ h1 h2 rfl rfl w
        | true =>
        by_cases c1 : z1 < 1
        · exact l3Read_low u hu k hk h4 hd z1 z2 _ _ h1 h2 rfl rfl c1 w
        by_cases c2 : 9007199254740991 < z1
        · exact l3Read_high u hu k hk h4 hd z1 z2 _ _ h1 h2 rfl rfl c1 c2 w
        obtain ⟨n, rfl⟩ := Int.eq_ofNat_of_zero_le (show 0 ≤ z1 by omega)
        cases c3 : ((n : Int) % 2 == 0) with
        | true => exact l3Read_even u hu k hk h4 hd _ z2 _ _ h1 h2 rfl rfl n rfl c1 c2 c3 w
        | false =>
        by_cases c4 : z2 < -1074
        · exact l3Read_elow u hu k hk h4 hd _ z2 _ _ h1 h2 rfl rfl n rfl c1 c2 c3 c4 w
        by_cases c5 : 1023 < z2
        · exact l3Read_ehigh u hu k hk h4 hd _ z2 _ _ h1 h2 rfl rfl n rfl c1 c2 c3 c4 c5 w
        have c6 := beq_eq_false_iff_ne.1 c3
        exact absurd ⟨n, (z2 + 1074).toNat, ⟨by omega, by omega, by rw [show (((z2 + 1074).toNat : Nat) : Int) - 1074 = z2 by omega]; exact parts_cut hd h1 h2⟩, by omega⟩ hcut
      · exact l3Read_odd u hu k hk h4 _ rfl (fun e => hd (ItoP.ext (by rw [← ByteArray.toList_eq, e]; rfl))) w
    · exact l3Read_short u hu k hk (by omega) (by omega) w
end Go.Proofs.YtobbkebjgjeglaaDoor
