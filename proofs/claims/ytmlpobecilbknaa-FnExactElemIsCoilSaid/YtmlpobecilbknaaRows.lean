/-
  No cell of these rows narrows 'for every input' (looked for: loops, veiled, ifaces, maps, wideKeys, modest, calm, conditions, laid).
  DERIVED. THE GIVEN ROWS OF THIS SEAT. 9 by the template 'for every input the law returns true; each argument reads behind the call as it read before'; 0 by the template 'total and deterministic' (their statements: YtmlpobecilbknaaTotals.lean).
  GIVEN WITH THE SEED: the statements are not yours to turn. If you find one false, say at which input.
  Laid BY PROGRAM, IN A SANDBOX (cutbox-rows.mjs): the forced cells as the released guide's own fill.sh prints them over the translation 0bc4282a32ff9b58… (all of the seat's roots in one cut). By AI agents, Wed Nov 11 2026. No macro, syntax, notation, axiom, sorry.
-/
import Derived.Test.YtmlpobecilbknaaChecked
import GoSem.Claim
import GoSem.ClaimJoined
import GoSem.ClaimMapViews
import Derived.JoinedTies
import Derived.KernelRfl
namespace Go.Proofs.Ytmlpobecilbknaa
/- THE CELL 'sum', in the pinned program and in every row, IS THE sha256 OF THE DUMP (.gsa) THAT YtmlpobecilbknaaProg.lean LOADS. Nothing in Lean hashes anything: it is a label: what it is worth is what the hold of that sum in a sandbox is worth. -/
noncomputable def Try.pinned : Pinned := { name := "ytmlpobecilbknaa", sum := "0bc4282a32ff9b5856ecfa6f895e3823671d75dc01e5a6dd1d1c4b9cf0010008", checked := Try.checked }
namespace Rows
def none {H : Type} : Left H := { results := [], args := [] }

/-- 'laws.FnExactDevSize': WHATEVER THE INPUT: true; the input reads as it did. -/
def fnExactDevSizeSpec : ChangeSpec := { name := "fnExactDevSize", fn := fun _ => fun
  | [d] => { results := [.lit (.bool true)], args := [d] }
  | _ => none }
def fnExactDevSizeRow : OpenClaim := { program := "ytmlpobecilbknaa", sum := "0bc4282a32ff9b5856ecfa6f895e3823671d75dc01e5a6dd1d1c4b9cf0010008", func := "loop.example/stilmach/laws.FnExactDevSize", spec := "fnExactDevSize", apart := false }
def FnExactDevSizeSaid : Prop := fnExactDevSizeRow.holds Try.pinned (OpenSpec.ofChange fnExactDevSizeSpec)

/-- ITS FALSE NEIGHBOUR: 'it returns false'. Refute it at one input. -/
def fnExactDevSizeWrong : ChangeSpec := { name := "fnExactDevSize", fn := fun _ => fun
  | [d] => { results := [.lit (.bool false)], args := [d] }
  | _ => none }
def FnExactDevSizeWrongFalsely : Prop := fnExactDevSizeRow.holds Try.pinned (OpenSpec.ofChange fnExactDevSizeWrong)

/-- 'laws.FnExactElemArity': WHATEVER THE INPUT: true; the input reads as it did. -/
def fnExactElemAritySpec : ChangeSpec := { name := "fnExactElemArity", fn := fun _ => fun
  | [d] => { results := [.lit (.bool true)], args := [d] }
  | _ => none }
def fnExactElemArityRow : OpenClaim := { program := "ytmlpobecilbknaa", sum := "0bc4282a32ff9b5856ecfa6f895e3823671d75dc01e5a6dd1d1c4b9cf0010008", func := "loop.example/stilmach/laws.FnExactElemArity", spec := "fnExactElemArity", apart := false }
def FnExactElemAritySaid : Prop := fnExactElemArityRow.holds Try.pinned (OpenSpec.ofChange fnExactElemAritySpec)

/-- ITS FALSE NEIGHBOUR: 'it returns false'. Refute it at one input. -/
def fnExactElemArityWrong : ChangeSpec := { name := "fnExactElemArity", fn := fun _ => fun
  | [d] => { results := [.lit (.bool false)], args := [d] }
  | _ => none }
def FnExactElemArityWrongFalsely : Prop := fnExactElemArityRow.holds Try.pinned (OpenSpec.ofChange fnExactElemArityWrong)

/-- 'laws.FnExactDevLetter': WHATEVER THE INPUT: true; the input reads as it did. -/
def fnExactDevLetterSpec : ChangeSpec := { name := "fnExactDevLetter", fn := fun _ => fun
  | [d] => { results := [.lit (.bool true)], args := [d] }
  | _ => none }
def fnExactDevLetterRow : OpenClaim := { program := "ytmlpobecilbknaa", sum := "0bc4282a32ff9b5856ecfa6f895e3823671d75dc01e5a6dd1d1c4b9cf0010008", func := "loop.example/stilmach/laws.FnExactDevLetter", spec := "fnExactDevLetter", apart := false }
def FnExactDevLetterSaid : Prop := fnExactDevLetterRow.holds Try.pinned (OpenSpec.ofChange fnExactDevLetterSpec)

/-- ITS FALSE NEIGHBOUR: 'it returns false'. Refute it at one input. -/
def fnExactDevLetterWrong : ChangeSpec := { name := "fnExactDevLetter", fn := fun _ => fun
  | [d] => { results := [.lit (.bool false)], args := [d] }
  | _ => none }
def FnExactDevLetterWrongFalsely : Prop := fnExactDevLetterRow.holds Try.pinned (OpenSpec.ofChange fnExactDevLetterWrong)

/-- 'laws.FnExactDevOk': WHATEVER THE INPUT: true; the input reads as it did. -/
def fnExactDevOkSpec : ChangeSpec := { name := "fnExactDevOk", fn := fun _ => fun
  | [d] => { results := [.lit (.bool true)], args := [d] }
  | _ => none }
def fnExactDevOkRow : OpenClaim := { program := "ytmlpobecilbknaa", sum := "0bc4282a32ff9b5856ecfa6f895e3823671d75dc01e5a6dd1d1c4b9cf0010008", func := "loop.example/stilmach/laws.FnExactDevOk", spec := "fnExactDevOk", apart := false }
def FnExactDevOkSaid : Prop := fnExactDevOkRow.holds Try.pinned (OpenSpec.ofChange fnExactDevOkSpec)

/-- ITS FALSE NEIGHBOUR: 'it returns false'. Refute it at one input. -/
def fnExactDevOkWrong : ChangeSpec := { name := "fnExactDevOk", fn := fun _ => fun
  | [d] => { results := [.lit (.bool false)], args := [d] }
  | _ => none }
def FnExactDevOkWrongFalsely : Prop := fnExactDevOkRow.holds Try.pinned (OpenSpec.ofChange fnExactDevOkWrong)

/-- 'laws.FnExactDevIsBit': WHATEVER THE INPUT: true; the input reads as it did. -/
def fnExactDevIsBitSpec : ChangeSpec := { name := "fnExactDevIsBit", fn := fun _ => fun
  | [d] => { results := [.lit (.bool true)], args := [d] }
  | _ => none }
def fnExactDevIsBitRow : OpenClaim := { program := "ytmlpobecilbknaa", sum := "0bc4282a32ff9b5856ecfa6f895e3823671d75dc01e5a6dd1d1c4b9cf0010008", func := "loop.example/stilmach/laws.FnExactDevIsBit", spec := "fnExactDevIsBit", apart := false }
def FnExactDevIsBitSaid : Prop := fnExactDevIsBitRow.holds Try.pinned (OpenSpec.ofChange fnExactDevIsBitSpec)

/-- ITS FALSE NEIGHBOUR: 'it returns false'. Refute it at one input. -/
def fnExactDevIsBitWrong : ChangeSpec := { name := "fnExactDevIsBit", fn := fun _ => fun
  | [d] => { results := [.lit (.bool false)], args := [d] }
  | _ => none }
def FnExactDevIsBitWrongFalsely : Prop := fnExactDevIsBitRow.holds Try.pinned (OpenSpec.ofChange fnExactDevIsBitWrong)

/-- 'laws.FnExactDevIsReal': WHATEVER THE INPUT: true; the input reads as it did. -/
def fnExactDevIsRealSpec : ChangeSpec := { name := "fnExactDevIsReal", fn := fun _ => fun
  | [d] => { results := [.lit (.bool true)], args := [d] }
  | _ => none }
def fnExactDevIsRealRow : OpenClaim := { program := "ytmlpobecilbknaa", sum := "0bc4282a32ff9b5856ecfa6f895e3823671d75dc01e5a6dd1d1c4b9cf0010008", func := "loop.example/stilmach/laws.FnExactDevIsReal", spec := "fnExactDevIsReal", apart := false }
def FnExactDevIsRealSaid : Prop := fnExactDevIsRealRow.holds Try.pinned (OpenSpec.ofChange fnExactDevIsRealSpec)

/-- ITS FALSE NEIGHBOUR: 'it returns false'. Refute it at one input. -/
def fnExactDevIsRealWrong : ChangeSpec := { name := "fnExactDevIsReal", fn := fun _ => fun
  | [d] => { results := [.lit (.bool false)], args := [d] }
  | _ => none }
def FnExactDevIsRealWrongFalsely : Prop := fnExactDevIsRealRow.holds Try.pinned (OpenSpec.ofChange fnExactDevIsRealWrong)

/-- 'laws.FnExactDevIsWhole': WHATEVER THE INPUT: true; the input reads as it did. -/
def fnExactDevIsWholeSpec : ChangeSpec := { name := "fnExactDevIsWhole", fn := fun _ => fun
  | [d] => { results := [.lit (.bool true)], args := [d] }
  | _ => none }
def fnExactDevIsWholeRow : OpenClaim := { program := "ytmlpobecilbknaa", sum := "0bc4282a32ff9b5856ecfa6f895e3823671d75dc01e5a6dd1d1c4b9cf0010008", func := "loop.example/stilmach/laws.FnExactDevIsWhole", spec := "fnExactDevIsWhole", apart := false }
def FnExactDevIsWholeSaid : Prop := fnExactDevIsWholeRow.holds Try.pinned (OpenSpec.ofChange fnExactDevIsWholeSpec)

/-- ITS FALSE NEIGHBOUR: 'it returns false'. Refute it at one input. -/
def fnExactDevIsWholeWrong : ChangeSpec := { name := "fnExactDevIsWhole", fn := fun _ => fun
  | [d] => { results := [.lit (.bool false)], args := [d] }
  | _ => none }
def FnExactDevIsWholeWrongFalsely : Prop := fnExactDevIsWholeRow.holds Try.pinned (OpenSpec.ofChange fnExactDevIsWholeWrong)

/-- 'laws.FnExactElemIsContact': WHATEVER THE INPUT: true; the input reads as it did. -/
def fnExactElemIsContactSpec : ChangeSpec := { name := "fnExactElemIsContact", fn := fun _ => fun
  | [d] => { results := [.lit (.bool true)], args := [d] }
  | _ => none }
def fnExactElemIsContactRow : OpenClaim := { program := "ytmlpobecilbknaa", sum := "0bc4282a32ff9b5856ecfa6f895e3823671d75dc01e5a6dd1d1c4b9cf0010008", func := "loop.example/stilmach/laws.FnExactElemIsContact", spec := "fnExactElemIsContact", unfollowed := true, recurses := true, apart := false }
def FnExactElemIsContactSaid : Prop := fnExactElemIsContactRow.holds Try.pinned (OpenSpec.ofChange fnExactElemIsContactSpec)

/-- ITS FALSE NEIGHBOUR: 'it returns false'. Refute it at one input. -/
def fnExactElemIsContactWrong : ChangeSpec := { name := "fnExactElemIsContact", fn := fun _ => fun
  | [d] => { results := [.lit (.bool false)], args := [d] }
  | _ => none }
def FnExactElemIsContactWrongFalsely : Prop := fnExactElemIsContactRow.holds Try.pinned (OpenSpec.ofChange fnExactElemIsContactWrong)

/-- 'laws.FnExactElemIsCoil': WHATEVER THE INPUT: true; the input reads as it did. -/
def fnExactElemIsCoilSpec : ChangeSpec := { name := "fnExactElemIsCoil", fn := fun _ => fun
  | [d] => { results := [.lit (.bool true)], args := [d] }
  | _ => none }
def fnExactElemIsCoilRow : OpenClaim := { program := "ytmlpobecilbknaa", sum := "0bc4282a32ff9b5856ecfa6f895e3823671d75dc01e5a6dd1d1c4b9cf0010008", func := "loop.example/stilmach/laws.FnExactElemIsCoil", spec := "fnExactElemIsCoil", unfollowed := true, recurses := true, apart := false }
def FnExactElemIsCoilSaid : Prop := fnExactElemIsCoilRow.holds Try.pinned (OpenSpec.ofChange fnExactElemIsCoilSpec)

/-- ITS FALSE NEIGHBOUR: 'it returns false'. Refute it at one input. -/
def fnExactElemIsCoilWrong : ChangeSpec := { name := "fnExactElemIsCoil", fn := fun _ => fun
  | [d] => { results := [.lit (.bool false)], args := [d] }
  | _ => none }
def FnExactElemIsCoilWrongFalsely : Prop := fnExactElemIsCoilRow.holds Try.pinned (OpenSpec.ofChange fnExactElemIsCoilWrong)

/- THE SECOND FORM. 'bulk': how many values and letters a reading holds, each counted each time it is reached (what is shared counts as often as it is met; a slice's spare places count too). A statement '..UptoSaid' is the law's where the arguments, and the package variables that the reading takes, are together of bulk at most 1048576: NARROWER than '..Said'. Prove '..Said' where nothing that the law and all that it calls make is longer than what came in: it says more and counts as full. Else prove '..UptoSaid'. A law counts once. -/
mutual
def uptoBulk {H : Type} : DataW H → Nat
  | .lit (.string bytes) => bytes.length + 1
  | .lit _ => 1
  | .nil => 1
  | .ptr d => uptoBulk d + 1
  | .slice elems spare => uptoBulkAll elems + uptoBulkAll spare + 1
  | .agg parts => uptoBulkAll parts + 1
  | .iface _ d => uptoBulk d + 1
  | .map entries => uptoBulkEntries entries + 1
  | .held _ => 1
def uptoBulkAll {H : Type} : List (DataW H) → Nat
  | [] => 0
  | d :: r => uptoBulk d + uptoBulkAll r
def uptoBulkEntries {H : Type} : List (Lit × DataW H) → Nat
  | [] => 0
  | x :: r => uptoBulkEntry x + uptoBulkEntries r
def uptoBulkEntry {H : Type} : Lit × DataW H → Nat
  | (.string bytes, d) => bytes.length + uptoBulk d + 1
  | (_, d) => uptoBulk d + 1
 end
def uptoSmall : (H : Type) → List (DataW H) → Bool := fun _ ds => decide (uptoBulkAll ds ≤ 1048576)
def OpenSpec.upto (s : _root_.Go.ChangeSpec) : _root_.Go.OpenSpec := { _root_.Go.OpenSpec.ofChange s with cond := some uptoSmall }

/-- 'laws.FnExactDevSize', WHERE WHAT IT READS IS OF BULK AT MOST 1048576: true; the input reads as it did. -/
def fnExactDevSizeUptoRow : OpenClaim := { program := "ytmlpobecilbknaa", sum := "0bc4282a32ff9b5856ecfa6f895e3823671d75dc01e5a6dd1d1c4b9cf0010008", func := "loop.example/stilmach/laws.FnExactDevSize", spec := "fnExactDevSize", apart := false, narrowed := true }
def FnExactDevSizeUptoSaid : Prop := fnExactDevSizeUptoRow.holds Try.pinned (OpenSpec.upto fnExactDevSizeSpec)

/-- 'laws.FnExactElemArity', WHERE WHAT IT READS IS OF BULK AT MOST 1048576: true; the input reads as it did. -/
def fnExactElemArityUptoRow : OpenClaim := { program := "ytmlpobecilbknaa", sum := "0bc4282a32ff9b5856ecfa6f895e3823671d75dc01e5a6dd1d1c4b9cf0010008", func := "loop.example/stilmach/laws.FnExactElemArity", spec := "fnExactElemArity", apart := false, narrowed := true }
def FnExactElemArityUptoSaid : Prop := fnExactElemArityUptoRow.holds Try.pinned (OpenSpec.upto fnExactElemAritySpec)

/-- 'laws.FnExactDevLetter', WHERE WHAT IT READS IS OF BULK AT MOST 1048576: true; the input reads as it did. -/
def fnExactDevLetterUptoRow : OpenClaim := { program := "ytmlpobecilbknaa", sum := "0bc4282a32ff9b5856ecfa6f895e3823671d75dc01e5a6dd1d1c4b9cf0010008", func := "loop.example/stilmach/laws.FnExactDevLetter", spec := "fnExactDevLetter", apart := false, narrowed := true }
def FnExactDevLetterUptoSaid : Prop := fnExactDevLetterUptoRow.holds Try.pinned (OpenSpec.upto fnExactDevLetterSpec)

/-- 'laws.FnExactDevOk', WHERE WHAT IT READS IS OF BULK AT MOST 1048576: true; the input reads as it did. -/
def fnExactDevOkUptoRow : OpenClaim := { program := "ytmlpobecilbknaa", sum := "0bc4282a32ff9b5856ecfa6f895e3823671d75dc01e5a6dd1d1c4b9cf0010008", func := "loop.example/stilmach/laws.FnExactDevOk", spec := "fnExactDevOk", apart := false, narrowed := true }
def FnExactDevOkUptoSaid : Prop := fnExactDevOkUptoRow.holds Try.pinned (OpenSpec.upto fnExactDevOkSpec)

/-- 'laws.FnExactDevIsBit', WHERE WHAT IT READS IS OF BULK AT MOST 1048576: true; the input reads as it did. -/
def fnExactDevIsBitUptoRow : OpenClaim := { program := "ytmlpobecilbknaa", sum := "0bc4282a32ff9b5856ecfa6f895e3823671d75dc01e5a6dd1d1c4b9cf0010008", func := "loop.example/stilmach/laws.FnExactDevIsBit", spec := "fnExactDevIsBit", apart := false, narrowed := true }
def FnExactDevIsBitUptoSaid : Prop := fnExactDevIsBitUptoRow.holds Try.pinned (OpenSpec.upto fnExactDevIsBitSpec)

/-- 'laws.FnExactDevIsReal', WHERE WHAT IT READS IS OF BULK AT MOST 1048576: true; the input reads as it did. -/
def fnExactDevIsRealUptoRow : OpenClaim := { program := "ytmlpobecilbknaa", sum := "0bc4282a32ff9b5856ecfa6f895e3823671d75dc01e5a6dd1d1c4b9cf0010008", func := "loop.example/stilmach/laws.FnExactDevIsReal", spec := "fnExactDevIsReal", apart := false, narrowed := true }
def FnExactDevIsRealUptoSaid : Prop := fnExactDevIsRealUptoRow.holds Try.pinned (OpenSpec.upto fnExactDevIsRealSpec)

/-- 'laws.FnExactDevIsWhole', WHERE WHAT IT READS IS OF BULK AT MOST 1048576: true; the input reads as it did. -/
def fnExactDevIsWholeUptoRow : OpenClaim := { program := "ytmlpobecilbknaa", sum := "0bc4282a32ff9b5856ecfa6f895e3823671d75dc01e5a6dd1d1c4b9cf0010008", func := "loop.example/stilmach/laws.FnExactDevIsWhole", spec := "fnExactDevIsWhole", apart := false, narrowed := true }
def FnExactDevIsWholeUptoSaid : Prop := fnExactDevIsWholeUptoRow.holds Try.pinned (OpenSpec.upto fnExactDevIsWholeSpec)

/-- 'laws.FnExactElemIsContact', WHERE WHAT IT READS IS OF BULK AT MOST 1048576: true; the input reads as it did. -/
def fnExactElemIsContactUptoRow : OpenClaim := { program := "ytmlpobecilbknaa", sum := "0bc4282a32ff9b5856ecfa6f895e3823671d75dc01e5a6dd1d1c4b9cf0010008", func := "loop.example/stilmach/laws.FnExactElemIsContact", spec := "fnExactElemIsContact", unfollowed := true, recurses := true, apart := false, narrowed := true }
def FnExactElemIsContactUptoSaid : Prop := fnExactElemIsContactUptoRow.holds Try.pinned (OpenSpec.upto fnExactElemIsContactSpec)

/-- 'laws.FnExactElemIsCoil', WHERE WHAT IT READS IS OF BULK AT MOST 1048576: true; the input reads as it did. -/
def fnExactElemIsCoilUptoRow : OpenClaim := { program := "ytmlpobecilbknaa", sum := "0bc4282a32ff9b5856ecfa6f895e3823671d75dc01e5a6dd1d1c4b9cf0010008", func := "loop.example/stilmach/laws.FnExactElemIsCoil", spec := "fnExactElemIsCoil", unfollowed := true, recurses := true, apart := false, narrowed := true }
def FnExactElemIsCoilUptoSaid : Prop := fnExactElemIsCoilUptoRow.holds Try.pinned (OpenSpec.upto fnExactElemIsCoilSpec)

end Rows
end Go.Proofs.Ytmlpobecilbknaa
