/- The walk of FnExactBitRead. -/
import Derived.Test.YtblpidkkfhgjjaaDoorRows
import Derived.Test.YtblpidkkfhgjjaaDoorWBRead
import Derived.WalkKit
import Derived.WalkSpells
import Derived.WalkLawsBesides
import Derived.OpenShut
import Derived.OwnWalk
import Derived.IntWalk
import Derived.Lib.Hide
namespace Go.Proofs.YtblpidkkfhgjjaaDoor
open Go.RowKit Bx
set_option linter.unusedVariables false

set_option maxRecDepth 100000 in
set_option maxHeartbeats 2000000 in
theorem eqBitStack_same (b n : Int) (w : World) : Calls Tryd.prog 7 #[.agg #[.int .u16 b, .int .i64 n], .agg #[.int .u16 b, .int .i64 n]] w fun e w' => e = .returned (.bool true) ∧ Below w.heap.size w w' := by
  go_enter Tryd.func7, Tryd.ntmps7
  go_wp2
  go_ret
  exact ⟨rfl, by repeat (first | exact Below.refl _ _ | refine Below.alloc ?_ (by first | (simp; done) | (simp; omega) | omega) _ | refine Below.drew ?_ | refine Bx.bel_drewN ?_ _ | refine Below.setCell ?_ (by first | (simp; done) | (simp; omega) | omega) _)⟩
/-- both readings are one -/
theorem reads_same {t : ByteArray} {b n b' n' : Int} {ok ok' : Bool} (h : (BitR.okT t ∧ ok = true ∧ b = (BitP.num (BitR.bl t (t.size - 1)) : Int) ∧ n = ((t.size - 1 : Nat) : Int)) ∨ (¬ BitR.okT t ∧ ok = false ∧ b = 0 ∧ n = 0))
    (h' : (BitR.okT t ∧ ok' = true ∧ b' = (BitP.num (BitR.bl t (t.size - 1)) : Int) ∧ n' = ((t.size - 1 : Nat) : Int)) ∨ (¬ BitR.okT t ∧ ok' = false ∧ b' = 0 ∧ n' = 0)) : b' = b ∧ n' = n ∧ ok' = ok := by
  rcases h with ⟨h0, rfl, rfl, rfl⟩ | ⟨h0, rfl, rfl, rfl⟩ <;> rcases h' with ⟨k0, rfl, rfl, rfl⟩ | ⟨k0, rfl, rfl, rfl⟩
  · exact ⟨rfl, rfl, rfl⟩
  · exact absurd h0 k0
  · exact absurd k0 h0
  · exact ⟨rfl, rfl, rfl⟩
set_option maxRecDepth 100000 in
set_option maxHeartbeats 2000000 in
theorem FnExactBitRead_some (t : ByteArray) (hm : t.size ≤ 1048576) (w : World) : Calls Tryd.prog 3 #[.string t] w fun e w' => e = .returned (.bool true) ∧ Below w.heap.size w w' := by
  have hd : decide ((1048576 : Int) < (t.size : Int)) = false := by simp; omega
  go_enter Tryd.func3, Tryd.ntmps3
  go_wp2_with fail
  refine (sRead_any t hm _).mono ?_
  rintro e w1 ⟨b, n, ok, rfl, hc, hb1⟩
  have s1 := Box.new w1 #[.int .u16 b, .int .i64 n] 24
  have B1 : Below w.heap.size w (w1.alloc (.cells #[.int .u16 b, .int .i64 n] 24)) := hb1.alloc hb1.size _
  have HC := Lib.hid hc
  clear hb1 hc
  go_wp2_with fail
  refine (iRead_any t hm _).mono ?_
  rintro e w2 ⟨b', n', ok', rfl, hc', hb2⟩
  obtain ⟨rfl, rfl, rfl⟩ := reads_same HC.out hc'
  have s2 := (s1.kept hb2).alloc (.cells #[.int .u16 b', .int .i64 n'] 24)
  have u2 := Box.new w2 #[.int .u16 b', .int .i64 n'] 24
  have B2 := (bel_step B1 hb2 B1.size).alloc (bel_step B1 hb2 B1.size).size (.cells #[.int .u16 b', .int .i64 n'] 24)
  have l2 : w1.heap.size < w2.heap.size := (s1.kept hb2).lt
  have c0 : w2.cell? ⟨w1.heap.size, 0, none⟩ = some (.int .u16 b') := (s1.kept hb2).cell 0
  have c1 : w2.cell? ⟨w1.heap.size, 1, none⟩ = some (.int .i64 n') := (s1.kept hb2).cell 1
  clear hb2 s1 B1 hc' HC s2 u2
  go_wp2_with fail
  refine (eqBitStack_same b' n' _).mono ?_
  rintro e w3 ⟨rfl, hb3⟩
  have B3 := bel_step B2 hb3 B2.size
  clear hb3 B2 c0 c1
  go_wp2
  go_ret
  exact ⟨rfl, B3⟩
theorem FnExactBitRead_great (t : ByteArray) (hm : 1048576 < t.size) (w : World) : Calls Tryd.prog 3 #[.string t] w fun e w' => e = .returned (.bool true) ∧ Below w.heap.size w w' := by
  have hd : decide ((1048576 : Int) < (t.size : Int)) = true := by simp; omega
  go_enter Tryd.func3, Tryd.ntmps3
  go_wp2
  go_ret
  exact ⟨rfl, Below.refl _ _⟩
theorem FnExactBitRead_walk (t : ByteArray) (w0 : t.size ≤ maxLen) (w : World) (hL : laidMetH Tryd.prog Rows.fnExactBitReadRow.laid w) : Calls Tryd.prog 3 #[.string t] w fun e w' => e = .returned (.bool true) ∧ Below w.heap.size w w' := by
  by_cases hm : t.size ≤ 1048576
  · exact FnExactBitRead_some t hm w
  · exact FnExactBitRead_great t (by omega) w
end Go.Proofs.YtblpidkkfhgjjaaDoor
