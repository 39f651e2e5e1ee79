/-
  No cell of these rows narrows 'for every input' (looked for: loops, veiled, ifaces, maps, wideKeys, modest, calm, conditions, laid).
  DERIVED. THE GIVEN ROWS OF THIS SEAT. 12 by the template 'for every input the law returns true; each argument reads behind the call as it read before'; 0 by the template 'total and deterministic' (their statements: YtmgmjhbbjllleaaTotals.lean).
  GIVEN WITH THE SEED: the statements are not yours to turn. If you find one false, say at which input.
  Laid BY PROGRAM, IN A SANDBOX (cutbox-rows.mjs): the forced cells as the released guide's own fill.sh prints them over the translation f19f7931c3c744e0… (all of the seat's roots in one cut). By AI agents, Wed Nov 11 2026. No macro, syntax, notation, axiom, sorry.
-/
import Derived.Test.YtmgmjhbbjllleaaChecked
import GoSem.Claim
import GoSem.ClaimJoined
import GoSem.ClaimMapViews
import Derived.JoinedTies
import Derived.KernelRfl
namespace Go.Proofs.Ytmgmjhbbjllleaa
/- THE CELL 'sum', in the pinned program and in every row, IS THE sha256 OF THE DUMP (.gsa) THAT YtmgmjhbbjllleaaProg.lean LOADS. Nothing in Lean hashes anything: it is a label: what it is worth is what the hold of that sum in a sandbox is worth. -/
noncomputable def Try.pinned : Pinned := { name := "ytmgmjhbbjllleaa", sum := "f19f7931c3c744e0fc0bb739f3918f6649ac6b89493c7e50a1d4274cba284961", checked := Try.checked }
namespace Rows
def none {H : Type} : Left H := { results := [], args := [] }

/-- 'laws.FnExactBitOk': WHATEVER THE INPUT: true; the input reads as it did. -/
def fnExactBitOkSpec : ChangeSpec := { name := "fnExactBitOk", fn := fun _ => fun
  | [d] => { results := [.lit (.bool true)], args := [d] }
  | _ => none }
def fnExactBitOkRow : OpenClaim := { program := "ytmgmjhbbjllleaa", sum := "f19f7931c3c744e0fc0bb739f3918f6649ac6b89493c7e50a1d4274cba284961", func := "loop.example/stilmach/laws.FnExactBitOk", spec := "fnExactBitOk", apart := false }
def FnExactBitOkSaid : Prop := fnExactBitOkRow.holds Try.pinned (OpenSpec.ofChange fnExactBitOkSpec)

/-- ITS FALSE NEIGHBOUR: 'it returns false'. Refute it at one input. -/
def fnExactBitOkWrong : ChangeSpec := { name := "fnExactBitOk", fn := fun _ => fun
  | [d] => { results := [.lit (.bool false)], args := [d] }
  | _ => none }
def FnExactBitOkWrongFalsely : Prop := fnExactBitOkRow.holds Try.pinned (OpenSpec.ofChange fnExactBitOkWrong)

/-- 'laws.FnExactForkOk': WHATEVER THE INPUT: true; the input reads as it did. -/
def fnExactForkOkSpec : ChangeSpec := { name := "fnExactForkOk", fn := fun _ => fun
  | [d] => { results := [.lit (.bool true)], args := [d] }
  | _ => none }
def fnExactForkOkRow : OpenClaim := { program := "ytmgmjhbbjllleaa", sum := "f19f7931c3c744e0fc0bb739f3918f6649ac6b89493c7e50a1d4274cba284961", func := "loop.example/stilmach/laws.FnExactForkOk", spec := "fnExactForkOk", apart := false }
def FnExactForkOkSaid : Prop := fnExactForkOkRow.holds Try.pinned (OpenSpec.ofChange fnExactForkOkSpec)

/-- ITS FALSE NEIGHBOUR: 'it returns false'. Refute it at one input. -/
def fnExactForkOkWrong : ChangeSpec := { name := "fnExactForkOk", fn := fun _ => fun
  | [d] => { results := [.lit (.bool false)], args := [d] }
  | _ => none }
def FnExactForkOkWrongFalsely : Prop := fnExactForkOkRow.holds Try.pinned (OpenSpec.ofChange fnExactForkOkWrong)

/-- 'laws.FnExactBitTop': WHATEVER THE INPUT: true; the input reads as it did. -/
def fnExactBitTopSpec : ChangeSpec := { name := "fnExactBitTop", fn := fun _ => fun
  | [d] => { results := [.lit (.bool true)], args := [d] }
  | _ => none }
def fnExactBitTopRow : OpenClaim := { program := "ytmgmjhbbjllleaa", sum := "f19f7931c3c744e0fc0bb739f3918f6649ac6b89493c7e50a1d4274cba284961", func := "loop.example/stilmach/laws.FnExactBitTop", spec := "fnExactBitTop", apart := false }
def FnExactBitTopSaid : Prop := fnExactBitTopRow.holds Try.pinned (OpenSpec.ofChange fnExactBitTopSpec)

/-- ITS FALSE NEIGHBOUR: 'it returns false'. Refute it at one input. -/
def fnExactBitTopWrong : ChangeSpec := { name := "fnExactBitTop", fn := fun _ => fun
  | [d] => { results := [.lit (.bool false)], args := [d] }
  | _ => none }
def FnExactBitTopWrongFalsely : Prop := fnExactBitTopRow.holds Try.pinned (OpenSpec.ofChange fnExactBitTopWrong)

/-- 'laws.FnExactForkTop': WHATEVER THE INPUT: true; the input reads as it did. -/
def fnExactForkTopSpec : ChangeSpec := { name := "fnExactForkTop", fn := fun _ => fun
  | [d] => { results := [.lit (.bool true)], args := [d] }
  | _ => none }
def fnExactForkTopRow : OpenClaim := { program := "ytmgmjhbbjllleaa", sum := "f19f7931c3c744e0fc0bb739f3918f6649ac6b89493c7e50a1d4274cba284961", func := "loop.example/stilmach/laws.FnExactForkTop", spec := "fnExactForkTop", apart := false }
def FnExactForkTopSaid : Prop := fnExactForkTopRow.holds Try.pinned (OpenSpec.ofChange fnExactForkTopSpec)

/-- ITS FALSE NEIGHBOUR: 'it returns false'. Refute it at one input. -/
def fnExactForkTopWrong : ChangeSpec := { name := "fnExactForkTop", fn := fun _ => fun
  | [d] => { results := [.lit (.bool false)], args := [d] }
  | _ => none }
def FnExactForkTopWrongFalsely : Prop := fnExactForkTopRow.holds Try.pinned (OpenSpec.ofChange fnExactForkTopWrong)

/-- 'laws.FnBitPlay': WHATEVER THE INPUT: true; the input reads as it did. -/
def fnBitPlaySpec : ChangeSpec := { name := "fnBitPlay", fn := fun _ => fun
  | [d] => { results := [.lit (.bool true)], args := [d] }
  | _ => none }
def fnBitPlayRow : OpenClaim := { program := "ytmgmjhbbjllleaa", sum := "f19f7931c3c744e0fc0bb739f3918f6649ac6b89493c7e50a1d4274cba284961", func := "loop.example/stilmach/laws.FnBitPlay", spec := "fnBitPlay", apart := false }
def FnBitPlaySaid : Prop := fnBitPlayRow.holds Try.pinned (OpenSpec.ofChange fnBitPlaySpec)

/-- ITS FALSE NEIGHBOUR: 'it returns false'. Refute it at one input. -/
def fnBitPlayWrong : ChangeSpec := { name := "fnBitPlay", fn := fun _ => fun
  | [d] => { results := [.lit (.bool false)], args := [d] }
  | _ => none }
def FnBitPlayWrongFalsely : Prop := fnBitPlayRow.holds Try.pinned (OpenSpec.ofChange fnBitPlayWrong)

/-- 'laws.FnExactBitPush': WHATEVER THE INPUT: true; the input reads as it did. -/
def fnExactBitPushSpec : ChangeSpec := { name := "fnExactBitPush", fn := fun _ => fun
  | [d1, d2] => { results := [.lit (.bool true)], args := [d1, d2] }
  | _ => none }
def fnExactBitPushRow : OpenClaim := { program := "ytmgmjhbbjllleaa", sum := "f19f7931c3c744e0fc0bb739f3918f6649ac6b89493c7e50a1d4274cba284961", func := "loop.example/stilmach/laws.FnExactBitPush", spec := "fnExactBitPush", apart := false }
def FnExactBitPushSaid : Prop := fnExactBitPushRow.holds Try.pinned (OpenSpec.ofChange fnExactBitPushSpec)

/-- ITS FALSE NEIGHBOUR: 'it returns false'. Refute it at one input. -/
def fnExactBitPushWrong : ChangeSpec := { name := "fnExactBitPush", fn := fun _ => fun
  | [d1, d2] => { results := [.lit (.bool false)], args := [d1, d2] }
  | _ => none }
def FnExactBitPushWrongFalsely : Prop := fnExactBitPushRow.holds Try.pinned (OpenSpec.ofChange fnExactBitPushWrong)

/-- 'laws.FnExactBitList': WHATEVER THE INPUT: true; the input reads as it did. -/
def fnExactBitListSpec : ChangeSpec := { name := "fnExactBitList", fn := fun _ => fun
  | [d] => { results := [.lit (.bool true)], args := [d] }
  | _ => none }
def fnExactBitListRow : OpenClaim := { program := "ytmgmjhbbjllleaa", sum := "f19f7931c3c744e0fc0bb739f3918f6649ac6b89493c7e50a1d4274cba284961", func := "loop.example/stilmach/laws.FnExactBitList", spec := "fnExactBitList", apart := false }
def FnExactBitListSaid : Prop := fnExactBitListRow.holds Try.pinned (OpenSpec.ofChange fnExactBitListSpec)

/-- ITS FALSE NEIGHBOUR: 'it returns false'. Refute it at one input. -/
def fnExactBitListWrong : ChangeSpec := { name := "fnExactBitList", fn := fun _ => fun
  | [d] => { results := [.lit (.bool false)], args := [d] }
  | _ => none }
def FnExactBitListWrongFalsely : Prop := fnExactBitListRow.holds Try.pinned (OpenSpec.ofChange fnExactBitListWrong)

/-- 'laws.FnExactBitPop': WHATEVER THE INPUT: true; the input reads as it did. -/
def fnExactBitPopSpec : ChangeSpec := { name := "fnExactBitPop", fn := fun _ => fun
  | [d] => { results := [.lit (.bool true)], args := [d] }
  | _ => none }
def fnExactBitPopRow : OpenClaim := { program := "ytmgmjhbbjllleaa", sum := "f19f7931c3c744e0fc0bb739f3918f6649ac6b89493c7e50a1d4274cba284961", func := "loop.example/stilmach/laws.FnExactBitPop", spec := "fnExactBitPop", apart := false }
def FnExactBitPopSaid : Prop := fnExactBitPopRow.holds Try.pinned (OpenSpec.ofChange fnExactBitPopSpec)

/-- ITS FALSE NEIGHBOUR: 'it returns false'. Refute it at one input. -/
def fnExactBitPopWrong : ChangeSpec := { name := "fnExactBitPop", fn := fun _ => fun
  | [d] => { results := [.lit (.bool false)], args := [d] }
  | _ => none }
def FnExactBitPopWrongFalsely : Prop := fnExactBitPopRow.holds Try.pinned (OpenSpec.ofChange fnExactBitPopWrong)

/-- 'laws.FnExactBitText': WHATEVER THE INPUT: true; the input reads as it did. -/
def fnExactBitTextSpec : ChangeSpec := { name := "fnExactBitText", fn := fun _ => fun
  | [d] => { results := [.lit (.bool true)], args := [d] }
  | _ => none }
def fnExactBitTextRow : OpenClaim := { program := "ytmgmjhbbjllleaa", sum := "f19f7931c3c744e0fc0bb739f3918f6649ac6b89493c7e50a1d4274cba284961", func := "loop.example/stilmach/laws.FnExactBitText", spec := "fnExactBitText", apart := false }
def FnExactBitTextSaid : Prop := fnExactBitTextRow.holds Try.pinned (OpenSpec.ofChange fnExactBitTextSpec)

/-- ITS FALSE NEIGHBOUR: 'it returns false'. Refute it at one input. -/
def fnExactBitTextWrong : ChangeSpec := { name := "fnExactBitText", fn := fun _ => fun
  | [d] => { results := [.lit (.bool false)], args := [d] }
  | _ => none }
def FnExactBitTextWrongFalsely : Prop := fnExactBitTextRow.holds Try.pinned (OpenSpec.ofChange fnExactBitTextWrong)

/-- 'laws.FnExactBitTurn': WHATEVER THE INPUT: true; the input reads as it did. -/
def fnExactBitTurnSpec : ChangeSpec := { name := "fnExactBitTurn", fn := fun _ => fun
  | [d1, d2] => { results := [.lit (.bool true)], args := [d1, d2] }
  | _ => none }
def fnExactBitTurnRow : OpenClaim := { program := "ytmgmjhbbjllleaa", sum := "f19f7931c3c744e0fc0bb739f3918f6649ac6b89493c7e50a1d4274cba284961", func := "loop.example/stilmach/laws.FnExactBitTurn", spec := "fnExactBitTurn", apart := false }
def FnExactBitTurnSaid : Prop := fnExactBitTurnRow.holds Try.pinned (OpenSpec.ofChange fnExactBitTurnSpec)

/-- ITS FALSE NEIGHBOUR: 'it returns false'. Refute it at one input. -/
def fnExactBitTurnWrong : ChangeSpec := { name := "fnExactBitTurn", fn := fun _ => fun
  | [d1, d2] => { results := [.lit (.bool false)], args := [d1, d2] }
  | _ => none }
def FnExactBitTurnWrongFalsely : Prop := fnExactBitTurnRow.holds Try.pinned (OpenSpec.ofChange fnExactBitTurnWrong)

/-- 'laws.FnExactForkPush': WHATEVER THE INPUT: true; the input reads as it did. -/
def fnExactForkPushSpec : ChangeSpec := { name := "fnExactForkPush", fn := fun _ => fun
  | [d1, d2] => { results := [.lit (.bool true)], args := [d1, d2] }
  | _ => none }
def fnExactForkPushRow : OpenClaim := { program := "ytmgmjhbbjllleaa", sum := "f19f7931c3c744e0fc0bb739f3918f6649ac6b89493c7e50a1d4274cba284961", func := "loop.example/stilmach/laws.FnExactForkPush", spec := "fnExactForkPush", apart := false }
def FnExactForkPushSaid : Prop := fnExactForkPushRow.holds Try.pinned (OpenSpec.ofChange fnExactForkPushSpec)

/-- ITS FALSE NEIGHBOUR: 'it returns false'. Refute it at one input. -/
def fnExactForkPushWrong : ChangeSpec := { name := "fnExactForkPush", fn := fun _ => fun
  | [d1, d2] => { results := [.lit (.bool false)], args := [d1, d2] }
  | _ => none }
def FnExactForkPushWrongFalsely : Prop := fnExactForkPushRow.holds Try.pinned (OpenSpec.ofChange fnExactForkPushWrong)

/-- 'laws.FnExactForkPop': WHATEVER THE INPUT: true; the input reads as it did. -/
def fnExactForkPopSpec : ChangeSpec := { name := "fnExactForkPop", fn := fun _ => fun
  | [d] => { results := [.lit (.bool true)], args := [d] }
  | _ => none }
def fnExactForkPopRow : OpenClaim := { program := "ytmgmjhbbjllleaa", sum := "f19f7931c3c744e0fc0bb739f3918f6649ac6b89493c7e50a1d4274cba284961", func := "loop.example/stilmach/laws.FnExactForkPop", spec := "fnExactForkPop", apart := false }
def FnExactForkPopSaid : Prop := fnExactForkPopRow.holds Try.pinned (OpenSpec.ofChange fnExactForkPopSpec)

/-- ITS FALSE NEIGHBOUR: 'it returns false'. Refute it at one input. -/
def fnExactForkPopWrong : ChangeSpec := { name := "fnExactForkPop", fn := fun _ => fun
  | [d] => { results := [.lit (.bool false)], args := [d] }
  | _ => none }
def FnExactForkPopWrongFalsely : Prop := fnExactForkPopRow.holds Try.pinned (OpenSpec.ofChange fnExactForkPopWrong)

/- THE SECOND FORM. 'bulk': how many values and letters a reading holds, each counted each time it is reached (what is shared counts as often as it is met; a slice's spare places count too). A statement '..UptoSaid' is the law's where the arguments, and the package variables that the reading takes, are together of bulk at most 1048576: NARROWER than '..Said'. Prove '..Said' where nothing that the law and all that it calls make is longer than what came in: it says more and counts as full. Else prove '..UptoSaid'. A law counts once. -/
mutual
def uptoBulk {H : Type} : DataW H → Nat
  | .lit (.string bytes) => bytes.length + 1
  | .lit _ => 1
  | .nil => 1
  | .ptr d => uptoBulk d + 1
  | .slice elems spare => uptoBulkAll elems + uptoBulkAll spare + 1
  | .agg parts => uptoBulkAll parts + 1
  | .iface _ d => uptoBulk d + 1
  | .map entries => uptoBulkEntries entries + 1
  | .held _ => 1
def uptoBulkAll {H : Type} : List (DataW H) → Nat
  | [] => 0
  | d :: r => uptoBulk d + uptoBulkAll r
def uptoBulkEntries {H : Type} : List (Lit × DataW H) → Nat
  | [] => 0
  | x :: r => uptoBulkEntry x + uptoBulkEntries r
def uptoBulkEntry {H : Type} : Lit × DataW H → Nat
  | (.string bytes, d) => bytes.length + uptoBulk d + 1
  | (_, d) => uptoBulk d + 1
 end
def uptoSmall : (H : Type) → List (DataW H) → Bool := fun _ ds => decide (uptoBulkAll ds ≤ 1048576)
def OpenSpec.upto (s : _root_.Go.ChangeSpec) : _root_.Go.OpenSpec := { _root_.Go.OpenSpec.ofChange s with cond := some uptoSmall }

/-- 'laws.FnExactBitOk', WHERE WHAT IT READS IS OF BULK AT MOST 1048576: true; the input reads as it did. -/
def fnExactBitOkUptoRow : OpenClaim := { program := "ytmgmjhbbjllleaa", sum := "f19f7931c3c744e0fc0bb739f3918f6649ac6b89493c7e50a1d4274cba284961", func := "loop.example/stilmach/laws.FnExactBitOk", spec := "fnExactBitOk", apart := false, narrowed := true }
def FnExactBitOkUptoSaid : Prop := fnExactBitOkUptoRow.holds Try.pinned (OpenSpec.upto fnExactBitOkSpec)

/-- 'laws.FnExactForkOk', WHERE WHAT IT READS IS OF BULK AT MOST 1048576: true; the input reads as it did. -/
def fnExactForkOkUptoRow : OpenClaim := { program := "ytmgmjhbbjllleaa", sum := "f19f7931c3c744e0fc0bb739f3918f6649ac6b89493c7e50a1d4274cba284961", func := "loop.example/stilmach/laws.FnExactForkOk", spec := "fnExactForkOk", apart := false, narrowed := true }
def FnExactForkOkUptoSaid : Prop := fnExactForkOkUptoRow.holds Try.pinned (OpenSpec.upto fnExactForkOkSpec)

/-- 'laws.FnExactBitTop', WHERE WHAT IT READS IS OF BULK AT MOST 1048576: true; the input reads as it did. -/
def fnExactBitTopUptoRow : OpenClaim := { program := "ytmgmjhbbjllleaa", sum := "f19f7931c3c744e0fc0bb739f3918f6649ac6b89493c7e50a1d4274cba284961", func := "loop.example/stilmach/laws.FnExactBitTop", spec := "fnExactBitTop", apart := false, narrowed := true }
def FnExactBitTopUptoSaid : Prop := fnExactBitTopUptoRow.holds Try.pinned (OpenSpec.upto fnExactBitTopSpec)

/-- 'laws.FnExactForkTop', WHERE WHAT IT READS IS OF BULK AT MOST 1048576: true; the input reads as it did. -/
def fnExactForkTopUptoRow : OpenClaim := { program := "ytmgmjhbbjllleaa", sum := "f19f7931c3c744e0fc0bb739f3918f6649ac6b89493c7e50a1d4274cba284961", func := "loop.example/stilmach/laws.FnExactForkTop", spec := "fnExactForkTop", apart := false, narrowed := true }
def FnExactForkTopUptoSaid : Prop := fnExactForkTopUptoRow.holds Try.pinned (OpenSpec.upto fnExactForkTopSpec)

/-- 'laws.FnBitPlay', WHERE WHAT IT READS IS OF BULK AT MOST 1048576: true; the input reads as it did. -/
def fnBitPlayUptoRow : OpenClaim := { program := "ytmgmjhbbjllleaa", sum := "f19f7931c3c744e0fc0bb739f3918f6649ac6b89493c7e50a1d4274cba284961", func := "loop.example/stilmach/laws.FnBitPlay", spec := "fnBitPlay", apart := false, narrowed := true }
def FnBitPlayUptoSaid : Prop := fnBitPlayUptoRow.holds Try.pinned (OpenSpec.upto fnBitPlaySpec)

/-- 'laws.FnExactBitPush', WHERE WHAT IT READS IS OF BULK AT MOST 1048576: true; the input reads as it did. -/
def fnExactBitPushUptoRow : OpenClaim := { program := "ytmgmjhbbjllleaa", sum := "f19f7931c3c744e0fc0bb739f3918f6649ac6b89493c7e50a1d4274cba284961", func := "loop.example/stilmach/laws.FnExactBitPush", spec := "fnExactBitPush", apart := false, narrowed := true }
def FnExactBitPushUptoSaid : Prop := fnExactBitPushUptoRow.holds Try.pinned (OpenSpec.upto fnExactBitPushSpec)

/-- 'laws.FnExactBitList', WHERE WHAT IT READS IS OF BULK AT MOST 1048576: true; the input reads as it did. -/
def fnExactBitListUptoRow : OpenClaim := { program := "ytmgmjhbbjllleaa", sum := "f19f7931c3c744e0fc0bb739f3918f6649ac6b89493c7e50a1d4274cba284961", func := "loop.example/stilmach/laws.FnExactBitList", spec := "fnExactBitList", apart := false, narrowed := true }
def FnExactBitListUptoSaid : Prop := fnExactBitListUptoRow.holds Try.pinned (OpenSpec.upto fnExactBitListSpec)

/-- 'laws.FnExactBitPop', WHERE WHAT IT READS IS OF BULK AT MOST 1048576: true; the input reads as it did. -/
def fnExactBitPopUptoRow : OpenClaim := { program := "ytmgmjhbbjllleaa", sum := "f19f7931c3c744e0fc0bb739f3918f6649ac6b89493c7e50a1d4274cba284961", func := "loop.example/stilmach/laws.FnExactBitPop", spec := "fnExactBitPop", apart := false, narrowed := true }
def FnExactBitPopUptoSaid : Prop := fnExactBitPopUptoRow.holds Try.pinned (OpenSpec.upto fnExactBitPopSpec)

/-- 'laws.FnExactBitText', WHERE WHAT IT READS IS OF BULK AT MOST 1048576: true; the input reads as it did. -/
def fnExactBitTextUptoRow : OpenClaim := { program := "ytmgmjhbbjllleaa", sum := "f19f7931c3c744e0fc0bb739f3918f6649ac6b89493c7e50a1d4274cba284961", func := "loop.example/stilmach/laws.FnExactBitText", spec := "fnExactBitText", apart := false, narrowed := true }
def FnExactBitTextUptoSaid : Prop := fnExactBitTextUptoRow.holds Try.pinned (OpenSpec.upto fnExactBitTextSpec)

/-- 'laws.FnExactBitTurn', WHERE WHAT IT READS IS OF BULK AT MOST 1048576: true; the input reads as it did. -/
def fnExactBitTurnUptoRow : OpenClaim := { program := "ytmgmjhbbjllleaa", sum := "f19f7931c3c744e0fc0bb739f3918f6649ac6b89493c7e50a1d4274cba284961", func := "loop.example/stilmach/laws.FnExactBitTurn", spec := "fnExactBitTurn", apart := false, narrowed := true }
def FnExactBitTurnUptoSaid : Prop := fnExactBitTurnUptoRow.holds Try.pinned (OpenSpec.upto fnExactBitTurnSpec)

/-- 'laws.FnExactForkPush', WHERE WHAT IT READS IS OF BULK AT MOST 1048576: true; the input reads as it did. -/
def fnExactForkPushUptoRow : OpenClaim := { program := "ytmgmjhbbjllleaa", sum := "f19f7931c3c744e0fc0bb739f3918f6649ac6b89493c7e50a1d4274cba284961", func := "loop.example/stilmach/laws.FnExactForkPush", spec := "fnExactForkPush", apart := false, narrowed := true }
def FnExactForkPushUptoSaid : Prop := fnExactForkPushUptoRow.holds Try.pinned (OpenSpec.upto fnExactForkPushSpec)

/-- 'laws.FnExactForkPop', WHERE WHAT IT READS IS OF BULK AT MOST 1048576: true; the input reads as it did. -/
def fnExactForkPopUptoRow : OpenClaim := { program := "ytmgmjhbbjllleaa", sum := "f19f7931c3c744e0fc0bb739f3918f6649ac6b89493c7e50a1d4274cba284961", func := "loop.example/stilmach/laws.FnExactForkPop", spec := "fnExactForkPop", apart := false, narrowed := true }
def FnExactForkPopUptoSaid : Prop := fnExactForkPopUptoRow.holds Try.pinned (OpenSpec.upto fnExactForkPopSpec)

end Rows
end Go.Proofs.Ytmgmjhbbjllleaa
