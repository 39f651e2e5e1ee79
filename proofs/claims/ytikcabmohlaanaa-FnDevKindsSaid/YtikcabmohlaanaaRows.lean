/-
  No cell of these rows narrows 'for every input' (looked for: loops, veiled, ifaces, maps, wideKeys, modest, calm, conditions, laid).
  DERIVED. THE GIVEN ROWS OF THIS SEAT. 3 by the template 'for every input the law returns true; each argument reads behind the call as it read before'; 0 by the template 'total and deterministic' (their statements: YtikcabmohlaanaaTotals.lean).
  GIVEN WITH THE SEED: the statements are not yours to turn. If you find one false, say at which input.
  Laid BY PROGRAM, IN A SANDBOX (cutbox-rows.mjs): the forced cells as the released guide's own fill.sh prints them over the translation 616b5ff0413de74c… (all of the seat's roots in one cut). By AI agents, Wed Nov 11 2026. No macro, syntax, notation, axiom, sorry.
-/
import Derived.Test.YtikcabmohlaanaaChecked
import GoSem.Claim
import GoSem.ClaimJoined
import GoSem.ClaimMapViews
import Derived.JoinedTies
import Derived.KernelRfl
namespace Go.Proofs.Ytikcabmohlaanaa
/- THE CELL 'sum', in the pinned program and in every row, IS THE sha256 OF THE DUMP (.gsa) THAT YtikcabmohlaanaaProg.lean LOADS. Nothing in Lean hashes anything: it is a label: what it is worth is what the hold of that sum in a sandbox is worth. -/
noncomputable def Try.pinned : Pinned := { name := "ytikcabmohlaanaa", sum := "616b5ff0413de74c7a94c979b8c1478baf08f3d34b616961a2529f79917d2ca2", checked := Try.checked }
namespace Rows
def none {H : Type} : Left H := { results := [], args := [] }

/-- 'laws.FnExactRealArg': WHATEVER THE INPUT: true; the input reads as it did. -/
def fnExactRealArgSpec : ChangeSpec := { name := "fnExactRealArg", fn := fun _ => fun
  | [d] => { results := [.lit (.bool true)], args := [d] }
  | _ => none }
def fnExactRealArgRow : OpenClaim := { program := "ytikcabmohlaanaa", sum := "616b5ff0413de74c7a94c979b8c1478baf08f3d34b616961a2529f79917d2ca2", func := "loop.example/stilmach/laws.FnExactRealArg", spec := "fnExactRealArg", inPlace := ["math.Float64frombits", "math.Float64bits"], apart := false }
def FnExactRealArgSaid : Prop := fnExactRealArgRow.holds Try.pinned (OpenSpec.ofChange fnExactRealArgSpec)

/-- ITS FALSE NEIGHBOUR: 'it returns false'. Refute it at one input. -/
def fnExactRealArgWrong : ChangeSpec := { name := "fnExactRealArg", fn := fun _ => fun
  | [d] => { results := [.lit (.bool false)], args := [d] }
  | _ => none }
def FnExactRealArgWrongFalsely : Prop := fnExactRealArgRow.holds Try.pinned (OpenSpec.ofChange fnExactRealArgWrong)

/-- 'laws.FnRealArg': WHATEVER THE INPUT: true; the input reads as it did. -/
def fnRealArgSpec : ChangeSpec := { name := "fnRealArg", fn := fun _ => fun
  | [d1, d2] => { results := [.lit (.bool true)], args := [d1, d2] }
  | _ => none }
def fnRealArgRow : OpenClaim := { program := "ytikcabmohlaanaa", sum := "616b5ff0413de74c7a94c979b8c1478baf08f3d34b616961a2529f79917d2ca2", func := "loop.example/stilmach/laws.FnRealArg", spec := "fnRealArg", inPlace := ["math.Float64frombits", "math.Float64bits"], apart := false }
def FnRealArgSaid : Prop := fnRealArgRow.holds Try.pinned (OpenSpec.ofChange fnRealArgSpec)

/-- ITS FALSE NEIGHBOUR: 'it returns false'. Refute it at one input. -/
def fnRealArgWrong : ChangeSpec := { name := "fnRealArg", fn := fun _ => fun
  | [d1, d2] => { results := [.lit (.bool false)], args := [d1, d2] }
  | _ => none }
def FnRealArgWrongFalsely : Prop := fnRealArgRow.holds Try.pinned (OpenSpec.ofChange fnRealArgWrong)

/-- 'laws.FnDevKinds': WHATEVER THE INPUT: true; the input reads as it did. -/
def fnDevKindsSpec : ChangeSpec := { name := "fnDevKinds", fn := fun _ => fun
  | [d] => { results := [.lit (.bool true)], args := [d] }
  | _ => none }
def fnDevKindsRow : OpenClaim := { program := "ytikcabmohlaanaa", sum := "616b5ff0413de74c7a94c979b8c1478baf08f3d34b616961a2529f79917d2ca2", func := "loop.example/stilmach/laws.FnDevKinds", spec := "fnDevKinds", apart := false }
def FnDevKindsSaid : Prop := fnDevKindsRow.holds Try.pinned (OpenSpec.ofChange fnDevKindsSpec)

/-- ITS FALSE NEIGHBOUR: 'it returns false'. Refute it at one input. -/
def fnDevKindsWrong : ChangeSpec := { name := "fnDevKinds", fn := fun _ => fun
  | [d] => { results := [.lit (.bool false)], args := [d] }
  | _ => none }
def FnDevKindsWrongFalsely : Prop := fnDevKindsRow.holds Try.pinned (OpenSpec.ofChange fnDevKindsWrong)

/- THE SECOND FORM. 'bulk': how many values and letters a reading holds, each counted each time it is reached (what is shared counts as often as it is met; a slice's spare places count too). A statement '..UptoSaid' is the law's where the arguments, and the package variables that the reading takes, are together of bulk at most 1048576: NARROWER than '..Said'. Prove '..Said' where nothing that the law and all that it calls make is longer than what came in: it says more and counts as full. Else prove '..UptoSaid'. A law counts once. -/
mutual
def uptoBulk {H : Type} : DataW H → Nat
  | .lit (.string bytes) => bytes.length + 1
  | .lit _ => 1
  | .nil => 1
  | .ptr d => uptoBulk d + 1
  | .slice elems spare => uptoBulkAll elems + uptoBulkAll spare + 1
  | .agg parts => uptoBulkAll parts + 1
  | .iface _ d => uptoBulk d + 1
  | .map entries => uptoBulkEntries entries + 1
  | .held _ => 1
def uptoBulkAll {H : Type} : List (DataW H) → Nat
  | [] => 0
  | d :: r => uptoBulk d + uptoBulkAll r
def uptoBulkEntries {H : Type} : List (Lit × DataW H) → Nat
  | [] => 0
  | x :: r => uptoBulkEntry x + uptoBulkEntries r
def uptoBulkEntry {H : Type} : Lit × DataW H → Nat
  | (.string bytes, d) => bytes.length + uptoBulk d + 1
  | (_, d) => uptoBulk d + 1
 end
def uptoSmall : (H : Type) → List (DataW H) → Bool := fun _ ds => decide (uptoBulkAll ds ≤ 1048576)
def OpenSpec.upto (s : _root_.Go.ChangeSpec) : _root_.Go.OpenSpec := { _root_.Go.OpenSpec.ofChange s with cond := some uptoSmall }

/-- 'laws.FnExactRealArg', WHERE WHAT IT READS IS OF BULK AT MOST 1048576: true; the input reads as it did. -/
def fnExactRealArgUptoRow : OpenClaim := { program := "ytikcabmohlaanaa", sum := "616b5ff0413de74c7a94c979b8c1478baf08f3d34b616961a2529f79917d2ca2", func := "loop.example/stilmach/laws.FnExactRealArg", spec := "fnExactRealArg", inPlace := ["math.Float64frombits", "math.Float64bits"], apart := false, narrowed := true }
def FnExactRealArgUptoSaid : Prop := fnExactRealArgUptoRow.holds Try.pinned (OpenSpec.upto fnExactRealArgSpec)

/-- 'laws.FnRealArg', WHERE WHAT IT READS IS OF BULK AT MOST 1048576: true; the input reads as it did. -/
def fnRealArgUptoRow : OpenClaim := { program := "ytikcabmohlaanaa", sum := "616b5ff0413de74c7a94c979b8c1478baf08f3d34b616961a2529f79917d2ca2", func := "loop.example/stilmach/laws.FnRealArg", spec := "fnRealArg", inPlace := ["math.Float64frombits", "math.Float64bits"], apart := false, narrowed := true }
def FnRealArgUptoSaid : Prop := fnRealArgUptoRow.holds Try.pinned (OpenSpec.upto fnRealArgSpec)

/-- 'laws.FnDevKinds', WHERE WHAT IT READS IS OF BULK AT MOST 1048576: true; the input reads as it did. -/
def fnDevKindsUptoRow : OpenClaim := { program := "ytikcabmohlaanaa", sum := "616b5ff0413de74c7a94c979b8c1478baf08f3d34b616961a2529f79917d2ca2", func := "loop.example/stilmach/laws.FnDevKinds", spec := "fnDevKinds", apart := false, narrowed := true }
def FnDevKindsUptoSaid : Prop := fnDevKindsUptoRow.holds Try.pinned (OpenSpec.upto fnDevKindsSpec)

end Rows
end Go.Proofs.Ytikcabmohlaanaa
