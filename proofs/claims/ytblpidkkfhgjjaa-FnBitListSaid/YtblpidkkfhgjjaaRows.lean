/-
  No cell of these rows narrows 'for every input' (looked for: loops, veiled, ifaces, maps, wideKeys, modest, calm, conditions, laid).
  DERIVED. THE GIVEN ROWS OF THIS SEAT. 3 by the template 'for every input the law returns true; each argument reads behind the call as it read before'; 0 by the template 'total and deterministic' (their statements: YtblpidkkfhgjjaaTotals.lean).
  GIVEN WITH THE SEED: the statements are not yours to turn. If you find one false, say at which input.
  Laid BY PROGRAM, IN A SANDBOX (cutbox-rows.mjs): the forced cells as the released guide's own fill.sh prints them over the translation 9e51bd8d2a42e3bf… (all of the seat's roots in one cut). By AI agents, Wed Nov 11 2026. No macro, syntax, notation, axiom, sorry.
-/
import Derived.Test.YtblpidkkfhgjjaaChecked
import GoSem.Claim
import GoSem.ClaimJoined
import GoSem.ClaimMapViews
import Derived.JoinedTies
import Derived.KernelRfl
namespace Go.Proofs.Ytblpidkkfhgjjaa
/- THE CELL 'sum', in the pinned program and in every row, IS THE sha256 OF THE DUMP (.gsa) THAT YtblpidkkfhgjjaaProg.lean LOADS. Nothing in Lean hashes anything: it is a label: what it is worth is what the hold of that sum in a sandbox is worth. -/
noncomputable def Try.pinned : Pinned := { name := "ytblpidkkfhgjjaa", sum := "9e51bd8d2a42e3bf119aac874aa969f43643b2c5ef92bf640634ce32eab3f82b", checked := Try.checked }
namespace Rows
def none {H : Type} : Left H := { results := [], args := [] }

/-- 'laws.FnBitList': WHATEVER THE INPUT: true; the input reads as it did. -/
def fnBitListSpec : ChangeSpec := { name := "fnBitList", fn := fun _ => fun
  | [d] => { results := [.lit (.bool true)], args := [d] }
  | _ => none }
def fnBitListRow : OpenClaim := { program := "ytblpidkkfhgjjaa", sum := "9e51bd8d2a42e3bf119aac874aa969f43643b2c5ef92bf640634ce32eab3f82b", func := "loop.example/stilmach/laws.FnBitList", spec := "fnBitList", apart := false }
def FnBitListSaid : Prop := fnBitListRow.holds Try.pinned (OpenSpec.ofChange fnBitListSpec)

/-- ITS FALSE NEIGHBOUR: 'it returns false'. Refute it at one input. -/
def fnBitListWrong : ChangeSpec := { name := "fnBitList", fn := fun _ => fun
  | [d] => { results := [.lit (.bool false)], args := [d] }
  | _ => none }
def FnBitListWrongFalsely : Prop := fnBitListRow.holds Try.pinned (OpenSpec.ofChange fnBitListWrong)

/-- 'laws.FnBitTurn': WHATEVER THE INPUT: true; the input reads as it did. -/
def fnBitTurnSpec : ChangeSpec := { name := "fnBitTurn", fn := fun _ => fun
  | [d] => { results := [.lit (.bool true)], args := [d] }
  | _ => none }
def fnBitTurnRow : OpenClaim := { program := "ytblpidkkfhgjjaa", sum := "9e51bd8d2a42e3bf119aac874aa969f43643b2c5ef92bf640634ce32eab3f82b", func := "loop.example/stilmach/laws.FnBitTurn", spec := "fnBitTurn", apart := false }
def FnBitTurnSaid : Prop := fnBitTurnRow.holds Try.pinned (OpenSpec.ofChange fnBitTurnSpec)

/-- ITS FALSE NEIGHBOUR: 'it returns false'. Refute it at one input. -/
def fnBitTurnWrong : ChangeSpec := { name := "fnBitTurn", fn := fun _ => fun
  | [d] => { results := [.lit (.bool false)], args := [d] }
  | _ => none }
def FnBitTurnWrongFalsely : Prop := fnBitTurnRow.holds Try.pinned (OpenSpec.ofChange fnBitTurnWrong)

/-- 'laws.FnFork': WHATEVER THE INPUT: true; the input reads as it did. -/
def fnForkSpec : ChangeSpec := { name := "fnFork", fn := fun _ => fun
  | [d] => { results := [.lit (.bool true)], args := [d] }
  | _ => none }
def fnForkRow : OpenClaim := { program := "ytblpidkkfhgjjaa", sum := "9e51bd8d2a42e3bf119aac874aa969f43643b2c5ef92bf640634ce32eab3f82b", func := "loop.example/stilmach/laws.FnFork", spec := "fnFork", apart := false }
def FnForkSaid : Prop := fnForkRow.holds Try.pinned (OpenSpec.ofChange fnForkSpec)

/-- ITS FALSE NEIGHBOUR: 'it returns false'. Refute it at one input. -/
def fnForkWrong : ChangeSpec := { name := "fnFork", fn := fun _ => fun
  | [d] => { results := [.lit (.bool false)], args := [d] }
  | _ => none }
def FnForkWrongFalsely : Prop := fnForkRow.holds Try.pinned (OpenSpec.ofChange fnForkWrong)

/- THE SECOND FORM. 'bulk': how many values and letters a reading holds, each counted each time it is reached (what is shared counts as often as it is met; a slice's spare places count too). A statement '..UptoSaid' is the law's where the arguments, and the package variables that the reading takes, are together of bulk at most 1048576: NARROWER than '..Said'. Prove '..Said' where nothing that the law and all that it calls make is longer than what came in: it says more and counts as full. Else prove '..UptoSaid'. A law counts once. -/
mutual
def uptoBulk {H : Type} : DataW H → Nat
  | .lit (.string bytes) => bytes.length + 1
  | .lit _ => 1
  | .nil => 1
  | .ptr d => uptoBulk d + 1
  | .slice elems spare => uptoBulkAll elems + uptoBulkAll spare + 1
  | .agg parts => uptoBulkAll parts + 1
  | .iface _ d => uptoBulk d + 1
  | .map entries => uptoBulkEntries entries + 1
  | .held _ => 1
def uptoBulkAll {H : Type} : List (DataW H) → Nat
  | [] => 0
  | d :: r => uptoBulk d + uptoBulkAll r
def uptoBulkEntries {H : Type} : List (Lit × DataW H) → Nat
  | [] => 0
  | x :: r => uptoBulkEntry x + uptoBulkEntries r
def uptoBulkEntry {H : Type} : Lit × DataW H → Nat
  | (.string bytes, d) => bytes.length + uptoBulk d + 1
  | (_, d) => uptoBulk d + 1
 end
def uptoSmall : (H : Type) → List (DataW H) → Bool := fun _ ds => decide (uptoBulkAll ds ≤ 1048576)
def OpenSpec.upto (s : _root_.Go.ChangeSpec) : _root_.Go.OpenSpec := { _root_.Go.OpenSpec.ofChange s with cond := some uptoSmall }

/-- 'laws.FnBitList', WHERE WHAT IT READS IS OF BULK AT MOST 1048576: true; the input reads as it did. -/
def fnBitListUptoRow : OpenClaim := { program := "ytblpidkkfhgjjaa", sum := "9e51bd8d2a42e3bf119aac874aa969f43643b2c5ef92bf640634ce32eab3f82b", func := "loop.example/stilmach/laws.FnBitList", spec := "fnBitList", apart := false, narrowed := true }
def FnBitListUptoSaid : Prop := fnBitListUptoRow.holds Try.pinned (OpenSpec.upto fnBitListSpec)

/-- 'laws.FnBitTurn', WHERE WHAT IT READS IS OF BULK AT MOST 1048576: true; the input reads as it did. -/
def fnBitTurnUptoRow : OpenClaim := { program := "ytblpidkkfhgjjaa", sum := "9e51bd8d2a42e3bf119aac874aa969f43643b2c5ef92bf640634ce32eab3f82b", func := "loop.example/stilmach/laws.FnBitTurn", spec := "fnBitTurn", apart := false, narrowed := true }
def FnBitTurnUptoSaid : Prop := fnBitTurnUptoRow.holds Try.pinned (OpenSpec.upto fnBitTurnSpec)

/-- 'laws.FnFork', WHERE WHAT IT READS IS OF BULK AT MOST 1048576: true; the input reads as it did. -/
def fnForkUptoRow : OpenClaim := { program := "ytblpidkkfhgjjaa", sum := "9e51bd8d2a42e3bf119aac874aa969f43643b2c5ef92bf640634ce32eab3f82b", func := "loop.example/stilmach/laws.FnFork", spec := "fnFork", apart := false, narrowed := true }
def FnForkUptoSaid : Prop := fnForkUptoRow.holds Try.pinned (OpenSpec.upto fnForkSpec)

end Rows
end Go.Proofs.Ytblpidkkfhgjjaa
