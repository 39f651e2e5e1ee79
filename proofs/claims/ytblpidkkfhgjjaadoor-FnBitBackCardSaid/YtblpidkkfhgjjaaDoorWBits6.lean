/- The reference's forks. -/
import Derived.Test.YtblpidkkfhgjjaaDoorRows
import Derived.Test.YtblpidkkfhgjjaaDoorWBits4
import Derived.WalkKit
import Derived.WalkSpells
import Derived.WalkLawsBesides
import Derived.OpenShut
import Derived.OwnWalk
import Derived.IntWalk
import Derived.Lib.Hide
import Derived.Laws.BitsAllLaws
namespace Go.Proofs.YtblpidkkfhgjjaaDoor
open Go.RowKit Bx
set_option linter.unusedVariables false

theorem ok8 (b n : Int) : BitP.ok 8 b n = (decide (n ≤ 8) && BitP.ok 16 b n) := by
  rw [Bool.eq_iff_iff, Bool.and_eq_true, decide_eq_true_iff, BitP.ok_iff, BitP.ok_iff]
  constructor
  · rintro ⟨h1, h2, h3⟩; exact ⟨h2, h1, by omega, h3⟩
  · rintro ⟨h1, h2, h3, h4⟩; exact ⟨h2, h1, h4⟩
theorem good_of {B N : Nat} (hB : B < 2 ^ N) (hN : N ≤ 8) : BitP.good 16 (B : Int) (N : Int) = (B, N) := by
  have : BitP.ok 16 (B : Int) (N : Int) = true := BitP.ok_of (by omega) hB
  simp [BitP.good, this]
theorem small8 {B N : Nat} (hB : B < 2 ^ N) (hN : N ≤ 8) : B < 256 := Nat.lt_of_lt_of_le hB (pow16 hN (by decide))
end Go.Proofs.YtblpidkkfhgjjaaDoor
