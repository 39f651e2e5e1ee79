/-
  No cell of these rows narrows 'for every input' (looked for: loops, veiled, ifaces, maps, wideKeys, modest, calm, conditions, laid).
  DERIVED. THE GIVEN ROWS OF THIS SEAT. 12 by the template 'for every input the law returns true; each argument reads behind the call as it read before'; 0 by the template 'total and deterministic' (their statements: YtmbmdemoghdggaaTotals.lean).
  GIVEN WITH THE SEED: the statements are not yours to turn. If you find one false, say at which input.
  Laid BY PROGRAM, IN A SANDBOX (cutbox-rows.mjs): the forced cells as the released guide's own fill.sh prints them over the translation a29cc42d28085e6c… (all of the seat's roots in one cut). By AI agents, Wed Nov 11 2026. No macro, syntax, notation, axiom, sorry.
-/
import Derived.Test.YtmbmdemoghdggaaChecked
import GoSem.Claim
import GoSem.ClaimJoined
import GoSem.ClaimMapViews
import Derived.JoinedTies
import Derived.KernelRfl
namespace Go.Proofs.Ytmbmdemoghdggaa
/- THE CELL 'sum', in the pinned program and in every row, IS THE sha256 OF THE DUMP (.gsa) THAT YtmbmdemoghdggaaProg.lean LOADS. Nothing in Lean hashes anything: it is a label: what it is worth is what the hold of that sum in a sandbox is worth. -/
noncomputable def Try.pinned : Pinned := { name := "ytmbmdemoghdggaa", sum := "a29cc42d28085e6c7fbc66da91659f4d69330fab56049b08846b3076252785df", checked := Try.checked }
namespace Rows
def none {H : Type} : Left H := { results := [], args := [] }

/-- 'laws.FnExactConstants': WHATEVER THE INPUT: true; the input reads as it did. -/
def fnExactConstantsSpec : ChangeSpec := { name := "fnExactConstants", fn := fun _ => fun
  | [] => { results := [.lit (.bool true)], args := [] }
  | _ => none }
def fnExactConstantsRow : OpenClaim := { program := "ytmbmdemoghdggaa", sum := "a29cc42d28085e6c7fbc66da91659f4d69330fab56049b08846b3076252785df", func := "loop.example/stilmach/laws.FnExactConstants", spec := "fnExactConstants", apart := false }
def FnExactConstantsSaid : Prop := fnExactConstantsRow.holds Try.pinned (OpenSpec.ofChange fnExactConstantsSpec)

/-- ITS FALSE NEIGHBOUR: 'it returns false'. Refute it at one input. -/
def fnExactConstantsWrong : ChangeSpec := { name := "fnExactConstants", fn := fun _ => fun
  | [] => { results := [.lit (.bool false)], args := [] }
  | _ => none }
def FnExactConstantsWrongFalsely : Prop := fnExactConstantsRow.holds Try.pinned (OpenSpec.ofChange fnExactConstantsWrong)

/-- 'laws.FnExactCmpFlip': WHATEVER THE INPUT: true; the input reads as it did. -/
def fnExactCmpFlipSpec : ChangeSpec := { name := "fnExactCmpFlip", fn := fun _ => fun
  | [d] => { results := [.lit (.bool true)], args := [d] }
  | _ => none }
def fnExactCmpFlipRow : OpenClaim := { program := "ytmbmdemoghdggaa", sum := "a29cc42d28085e6c7fbc66da91659f4d69330fab56049b08846b3076252785df", func := "loop.example/stilmach/laws.FnExactCmpFlip", spec := "fnExactCmpFlip", apart := false }
def FnExactCmpFlipSaid : Prop := fnExactCmpFlipRow.holds Try.pinned (OpenSpec.ofChange fnExactCmpFlipSpec)

/-- ITS FALSE NEIGHBOUR: 'it returns false'. Refute it at one input. -/
def fnExactCmpFlipWrong : ChangeSpec := { name := "fnExactCmpFlip", fn := fun _ => fun
  | [d] => { results := [.lit (.bool false)], args := [d] }
  | _ => none }
def FnExactCmpFlipWrongFalsely : Prop := fnExactCmpFlipRow.holds Try.pinned (OpenSpec.ofChange fnExactCmpFlipWrong)

/-- 'laws.FnExactCmpText': WHATEVER THE INPUT: true; the input reads as it did. -/
def fnExactCmpTextSpec : ChangeSpec := { name := "fnExactCmpText", fn := fun _ => fun
  | [d] => { results := [.lit (.bool true)], args := [d] }
  | _ => none }
def fnExactCmpTextRow : OpenClaim := { program := "ytmbmdemoghdggaa", sum := "a29cc42d28085e6c7fbc66da91659f4d69330fab56049b08846b3076252785df", func := "loop.example/stilmach/laws.FnExactCmpText", spec := "fnExactCmpText", apart := false }
def FnExactCmpTextSaid : Prop := fnExactCmpTextRow.holds Try.pinned (OpenSpec.ofChange fnExactCmpTextSpec)

/-- ITS FALSE NEIGHBOUR: 'it returns false'. Refute it at one input. -/
def fnExactCmpTextWrong : ChangeSpec := { name := "fnExactCmpText", fn := fun _ => fun
  | [d] => { results := [.lit (.bool false)], args := [d] }
  | _ => none }
def FnExactCmpTextWrongFalsely : Prop := fnExactCmpTextRow.holds Try.pinned (OpenSpec.ofChange fnExactCmpTextWrong)

/-- 'laws.FnExactCmpSwap': WHATEVER THE INPUT: true; the input reads as it did. -/
def fnExactCmpSwapSpec : ChangeSpec := { name := "fnExactCmpSwap", fn := fun _ => fun
  | [d] => { results := [.lit (.bool true)], args := [d] }
  | _ => none }
def fnExactCmpSwapRow : OpenClaim := { program := "ytmbmdemoghdggaa", sum := "a29cc42d28085e6c7fbc66da91659f4d69330fab56049b08846b3076252785df", func := "loop.example/stilmach/laws.FnExactCmpSwap", spec := "fnExactCmpSwap", apart := false }
def FnExactCmpSwapSaid : Prop := fnExactCmpSwapRow.holds Try.pinned (OpenSpec.ofChange fnExactCmpSwapSpec)

/-- ITS FALSE NEIGHBOUR: 'it returns false'. Refute it at one input. -/
def fnExactCmpSwapWrong : ChangeSpec := { name := "fnExactCmpSwap", fn := fun _ => fun
  | [d] => { results := [.lit (.bool false)], args := [d] }
  | _ => none }
def FnExactCmpSwapWrongFalsely : Prop := fnExactCmpSwapRow.holds Try.pinned (OpenSpec.ofChange fnExactCmpSwapWrong)

/-- 'laws.FnExactRealCmp': WHATEVER THE INPUT: true; the input reads as it did. -/
def fnExactRealCmpSpec : ChangeSpec := { name := "fnExactRealCmp", fn := fun _ => fun
  | [d1, d2, d3] => { results := [.lit (.bool true)], args := [d1, d2, d3] }
  | _ => none }
def fnExactRealCmpRow : OpenClaim := { program := "ytmbmdemoghdggaa", sum := "a29cc42d28085e6c7fbc66da91659f4d69330fab56049b08846b3076252785df", func := "loop.example/stilmach/laws.FnExactRealCmp", spec := "fnExactRealCmp", apart := false }
def FnExactRealCmpSaid : Prop := fnExactRealCmpRow.holds Try.pinned (OpenSpec.ofChange fnExactRealCmpSpec)

/-- ITS FALSE NEIGHBOUR: 'it returns false'. Refute it at one input. -/
def fnExactRealCmpWrong : ChangeSpec := { name := "fnExactRealCmp", fn := fun _ => fun
  | [d1, d2, d3] => { results := [.lit (.bool false)], args := [d1, d2, d3] }
  | _ => none }
def FnExactRealCmpWrongFalsely : Prop := fnExactRealCmpRow.holds Try.pinned (OpenSpec.ofChange fnExactRealCmpWrong)

/-- 'laws.FnExactWholeCmp': WHATEVER THE INPUT: true; the input reads as it did. -/
def fnExactWholeCmpSpec : ChangeSpec := { name := "fnExactWholeCmp", fn := fun _ => fun
  | [d1, d2, d3] => { results := [.lit (.bool true)], args := [d1, d2, d3] }
  | _ => none }
def fnExactWholeCmpRow : OpenClaim := { program := "ytmbmdemoghdggaa", sum := "a29cc42d28085e6c7fbc66da91659f4d69330fab56049b08846b3076252785df", func := "loop.example/stilmach/laws.FnExactWholeCmp", spec := "fnExactWholeCmp", apart := false }
def FnExactWholeCmpSaid : Prop := fnExactWholeCmpRow.holds Try.pinned (OpenSpec.ofChange fnExactWholeCmpSpec)

/-- ITS FALSE NEIGHBOUR: 'it returns false'. Refute it at one input. -/
def fnExactWholeCmpWrong : ChangeSpec := { name := "fnExactWholeCmp", fn := fun _ => fun
  | [d1, d2, d3] => { results := [.lit (.bool false)], args := [d1, d2, d3] }
  | _ => none }
def FnExactWholeCmpWrongFalsely : Prop := fnExactWholeCmpRow.holds Try.pinned (OpenSpec.ofChange fnExactWholeCmpWrong)

/-- 'laws.FnExactRealCalc': WHATEVER THE INPUT: true; the input reads as it did. -/
def fnExactRealCalcSpec : ChangeSpec := { name := "fnExactRealCalc", fn := fun _ => fun
  | [d1, d2, d3] => { results := [.lit (.bool true)], args := [d1, d2, d3] }
  | _ => none }
def fnExactRealCalcRow : OpenClaim := { program := "ytmbmdemoghdggaa", sum := "a29cc42d28085e6c7fbc66da91659f4d69330fab56049b08846b3076252785df", func := "loop.example/stilmach/laws.FnExactRealCalc", spec := "fnExactRealCalc", inPlace := ["math.Float64frombits"], apart := false }
def FnExactRealCalcSaid : Prop := fnExactRealCalcRow.holds Try.pinned (OpenSpec.ofChange fnExactRealCalcSpec)

/-- ITS FALSE NEIGHBOUR: 'it returns false'. Refute it at one input. -/
def fnExactRealCalcWrong : ChangeSpec := { name := "fnExactRealCalc", fn := fun _ => fun
  | [d1, d2, d3] => { results := [.lit (.bool false)], args := [d1, d2, d3] }
  | _ => none }
def FnExactRealCalcWrongFalsely : Prop := fnExactRealCalcRow.holds Try.pinned (OpenSpec.ofChange fnExactRealCalcWrong)

/-- 'laws.FnExactRealWhole': WHATEVER THE INPUT: true; the input reads as it did. -/
def fnExactRealWholeSpec : ChangeSpec := { name := "fnExactRealWhole", fn := fun _ => fun
  | [d] => { results := [.lit (.bool true)], args := [d] }
  | _ => none }
def fnExactRealWholeRow : OpenClaim := { program := "ytmbmdemoghdggaa", sum := "a29cc42d28085e6c7fbc66da91659f4d69330fab56049b08846b3076252785df", func := "loop.example/stilmach/laws.FnExactRealWhole", spec := "fnExactRealWhole", inPlace := ["math.archTrunc", "math.Float64bits", "math.Float64frombits"], apart := false }
def FnExactRealWholeSaid : Prop := fnExactRealWholeRow.holds Try.pinned (OpenSpec.ofChange fnExactRealWholeSpec)

/-- ITS FALSE NEIGHBOUR: 'it returns false'. Refute it at one input. -/
def fnExactRealWholeWrong : ChangeSpec := { name := "fnExactRealWhole", fn := fun _ => fun
  | [d] => { results := [.lit (.bool false)], args := [d] }
  | _ => none }
def FnExactRealWholeWrongFalsely : Prop := fnExactRealWholeRow.holds Try.pinned (OpenSpec.ofChange fnExactRealWholeWrong)

/-- 'laws.FnExactWholeCalc': WHATEVER THE INPUT: true; the input reads as it did. -/
def fnExactWholeCalcSpec : ChangeSpec := { name := "fnExactWholeCalc", fn := fun _ => fun
  | [d1, d2, d3] => { results := [.lit (.bool true)], args := [d1, d2, d3] }
  | _ => none }
def fnExactWholeCalcRow : OpenClaim := { program := "ytmbmdemoghdggaa", sum := "a29cc42d28085e6c7fbc66da91659f4d69330fab56049b08846b3076252785df", func := "loop.example/stilmach/laws.FnExactWholeCalc", spec := "fnExactWholeCalc", apart := false }
def FnExactWholeCalcSaid : Prop := fnExactWholeCalcRow.holds Try.pinned (OpenSpec.ofChange fnExactWholeCalcSpec)

/-- ITS FALSE NEIGHBOUR: 'it returns false'. Refute it at one input. -/
def fnExactWholeCalcWrong : ChangeSpec := { name := "fnExactWholeCalc", fn := fun _ => fun
  | [d1, d2, d3] => { results := [.lit (.bool false)], args := [d1, d2, d3] }
  | _ => none }
def FnExactWholeCalcWrongFalsely : Prop := fnExactWholeCalcRow.holds Try.pinned (OpenSpec.ofChange fnExactWholeCalcWrong)

/-- 'laws.FnWrap': WHATEVER THE INPUT: true; the input reads as it did. -/
def fnWrapSpec : ChangeSpec := { name := "fnWrap", fn := fun _ => fun
  | [d] => { results := [.lit (.bool true)], args := [d] }
  | _ => none }
def fnWrapRow : OpenClaim := { program := "ytmbmdemoghdggaa", sum := "a29cc42d28085e6c7fbc66da91659f4d69330fab56049b08846b3076252785df", func := "loop.example/stilmach/laws.FnWrap", spec := "fnWrap", apart := false }
def FnWrapSaid : Prop := fnWrapRow.holds Try.pinned (OpenSpec.ofChange fnWrapSpec)

/-- ITS FALSE NEIGHBOUR: 'it returns false'. Refute it at one input. -/
def fnWrapWrong : ChangeSpec := { name := "fnWrap", fn := fun _ => fun
  | [d] => { results := [.lit (.bool false)], args := [d] }
  | _ => none }
def FnWrapWrongFalsely : Prop := fnWrapRow.holds Try.pinned (OpenSpec.ofChange fnWrapWrong)

/-- 'laws.FnFlip': WHATEVER THE INPUT: true; the input reads as it did. -/
def fnFlipSpec : ChangeSpec := { name := "fnFlip", fn := fun _ => fun
  | [d] => { results := [.lit (.bool true)], args := [d] }
  | _ => none }
def fnFlipRow : OpenClaim := { program := "ytmbmdemoghdggaa", sum := "a29cc42d28085e6c7fbc66da91659f4d69330fab56049b08846b3076252785df", func := "loop.example/stilmach/laws.FnFlip", spec := "fnFlip", apart := false }
def FnFlipSaid : Prop := fnFlipRow.holds Try.pinned (OpenSpec.ofChange fnFlipSpec)

/-- ITS FALSE NEIGHBOUR: 'it returns false'. Refute it at one input. -/
def fnFlipWrong : ChangeSpec := { name := "fnFlip", fn := fun _ => fun
  | [d] => { results := [.lit (.bool false)], args := [d] }
  | _ => none }
def FnFlipWrongFalsely : Prop := fnFlipRow.holds Try.pinned (OpenSpec.ofChange fnFlipWrong)

/-- 'laws.FnSwap': WHATEVER THE INPUT: true; the input reads as it did. -/
def fnSwapSpec : ChangeSpec := { name := "fnSwap", fn := fun _ => fun
  | [d] => { results := [.lit (.bool true)], args := [d] }
  | _ => none }
def fnSwapRow : OpenClaim := { program := "ytmbmdemoghdggaa", sum := "a29cc42d28085e6c7fbc66da91659f4d69330fab56049b08846b3076252785df", func := "loop.example/stilmach/laws.FnSwap", spec := "fnSwap", apart := false }
def FnSwapSaid : Prop := fnSwapRow.holds Try.pinned (OpenSpec.ofChange fnSwapSpec)

/-- ITS FALSE NEIGHBOUR: 'it returns false'. Refute it at one input. -/
def fnSwapWrong : ChangeSpec := { name := "fnSwap", fn := fun _ => fun
  | [d] => { results := [.lit (.bool false)], args := [d] }
  | _ => none }
def FnSwapWrongFalsely : Prop := fnSwapRow.holds Try.pinned (OpenSpec.ofChange fnSwapWrong)

/- THE SECOND FORM. 'bulk': how many values and letters a reading holds, each counted each time it is reached (what is shared counts as often as it is met; a slice's spare places count too). A statement '..UptoSaid' is the law's where the arguments, and the package variables that the reading takes, are together of bulk at most 1048576: NARROWER than '..Said'. Prove '..Said' where nothing that the law and all that it calls make is longer than what came in: it says more and counts as full. Else prove '..UptoSaid'. A law counts once. -/
mutual
def uptoBulk {H : Type} : DataW H → Nat
  | .lit (.string bytes) => bytes.length + 1
  | .lit _ => 1
  | .nil => 1
  | .ptr d => uptoBulk d + 1
  | .slice elems spare => uptoBulkAll elems + uptoBulkAll spare + 1
  | .agg parts => uptoBulkAll parts + 1
  | .iface _ d => uptoBulk d + 1
  | .map entries => uptoBulkEntries entries + 1
  | .held _ => 1
def uptoBulkAll {H : Type} : List (DataW H) → Nat
  | [] => 0
  | d :: r => uptoBulk d + uptoBulkAll r
def uptoBulkEntries {H : Type} : List (Lit × DataW H) → Nat
  | [] => 0
  | x :: r => uptoBulkEntry x + uptoBulkEntries r
def uptoBulkEntry {H : Type} : Lit × DataW H → Nat
  | (.string bytes, d) => bytes.length + uptoBulk d + 1
  | (_, d) => uptoBulk d + 1
 end
def uptoSmall : (H : Type) → List (DataW H) → Bool := fun _ ds => decide (uptoBulkAll ds ≤ 1048576)
def OpenSpec.upto (s : _root_.Go.ChangeSpec) : _root_.Go.OpenSpec := { _root_.Go.OpenSpec.ofChange s with cond := some uptoSmall }

/-- 'laws.FnExactConstants', WHERE WHAT IT READS IS OF BULK AT MOST 1048576: true; the input reads as it did. -/
def fnExactConstantsUptoRow : OpenClaim := { program := "ytmbmdemoghdggaa", sum := "a29cc42d28085e6c7fbc66da91659f4d69330fab56049b08846b3076252785df", func := "loop.example/stilmach/laws.FnExactConstants", spec := "fnExactConstants", apart := false, narrowed := true }
def FnExactConstantsUptoSaid : Prop := fnExactConstantsUptoRow.holds Try.pinned (OpenSpec.upto fnExactConstantsSpec)

/-- 'laws.FnExactCmpFlip', WHERE WHAT IT READS IS OF BULK AT MOST 1048576: true; the input reads as it did. -/
def fnExactCmpFlipUptoRow : OpenClaim := { program := "ytmbmdemoghdggaa", sum := "a29cc42d28085e6c7fbc66da91659f4d69330fab56049b08846b3076252785df", func := "loop.example/stilmach/laws.FnExactCmpFlip", spec := "fnExactCmpFlip", apart := false, narrowed := true }
def FnExactCmpFlipUptoSaid : Prop := fnExactCmpFlipUptoRow.holds Try.pinned (OpenSpec.upto fnExactCmpFlipSpec)

/-- 'laws.FnExactCmpText', WHERE WHAT IT READS IS OF BULK AT MOST 1048576: true; the input reads as it did. -/
def fnExactCmpTextUptoRow : OpenClaim := { program := "ytmbmdemoghdggaa", sum := "a29cc42d28085e6c7fbc66da91659f4d69330fab56049b08846b3076252785df", func := "loop.example/stilmach/laws.FnExactCmpText", spec := "fnExactCmpText", apart := false, narrowed := true }
def FnExactCmpTextUptoSaid : Prop := fnExactCmpTextUptoRow.holds Try.pinned (OpenSpec.upto fnExactCmpTextSpec)

/-- 'laws.FnExactCmpSwap', WHERE WHAT IT READS IS OF BULK AT MOST 1048576: true; the input reads as it did. -/
def fnExactCmpSwapUptoRow : OpenClaim := { program := "ytmbmdemoghdggaa", sum := "a29cc42d28085e6c7fbc66da91659f4d69330fab56049b08846b3076252785df", func := "loop.example/stilmach/laws.FnExactCmpSwap", spec := "fnExactCmpSwap", apart := false, narrowed := true }
def FnExactCmpSwapUptoSaid : Prop := fnExactCmpSwapUptoRow.holds Try.pinned (OpenSpec.upto fnExactCmpSwapSpec)

/-- 'laws.FnExactRealCmp', WHERE WHAT IT READS IS OF BULK AT MOST 1048576: true; the input reads as it did. -/
def fnExactRealCmpUptoRow : OpenClaim := { program := "ytmbmdemoghdggaa", sum := "a29cc42d28085e6c7fbc66da91659f4d69330fab56049b08846b3076252785df", func := "loop.example/stilmach/laws.FnExactRealCmp", spec := "fnExactRealCmp", apart := false, narrowed := true }
def FnExactRealCmpUptoSaid : Prop := fnExactRealCmpUptoRow.holds Try.pinned (OpenSpec.upto fnExactRealCmpSpec)

/-- 'laws.FnExactWholeCmp', WHERE WHAT IT READS IS OF BULK AT MOST 1048576: true; the input reads as it did. -/
def fnExactWholeCmpUptoRow : OpenClaim := { program := "ytmbmdemoghdggaa", sum := "a29cc42d28085e6c7fbc66da91659f4d69330fab56049b08846b3076252785df", func := "loop.example/stilmach/laws.FnExactWholeCmp", spec := "fnExactWholeCmp", apart := false, narrowed := true }
def FnExactWholeCmpUptoSaid : Prop := fnExactWholeCmpUptoRow.holds Try.pinned (OpenSpec.upto fnExactWholeCmpSpec)

/-- 'laws.FnExactRealCalc', WHERE WHAT IT READS IS OF BULK AT MOST 1048576: true; the input reads as it did. -/
def fnExactRealCalcUptoRow : OpenClaim := { program := "ytmbmdemoghdggaa", sum := "a29cc42d28085e6c7fbc66da91659f4d69330fab56049b08846b3076252785df", func := "loop.example/stilmach/laws.FnExactRealCalc", spec := "fnExactRealCalc", inPlace := ["math.Float64frombits"], apart := false, narrowed := true }
def FnExactRealCalcUptoSaid : Prop := fnExactRealCalcUptoRow.holds Try.pinned (OpenSpec.upto fnExactRealCalcSpec)

/-- 'laws.FnExactRealWhole', WHERE WHAT IT READS IS OF BULK AT MOST 1048576: true; the input reads as it did. -/
def fnExactRealWholeUptoRow : OpenClaim := { program := "ytmbmdemoghdggaa", sum := "a29cc42d28085e6c7fbc66da91659f4d69330fab56049b08846b3076252785df", func := "loop.example/stilmach/laws.FnExactRealWhole", spec := "fnExactRealWhole", inPlace := ["math.archTrunc", "math.Float64bits", "math.Float64frombits"], apart := false, narrowed := true }
def FnExactRealWholeUptoSaid : Prop := fnExactRealWholeUptoRow.holds Try.pinned (OpenSpec.upto fnExactRealWholeSpec)

/-- 'laws.FnExactWholeCalc', WHERE WHAT IT READS IS OF BULK AT MOST 1048576: true; the input reads as it did. -/
def fnExactWholeCalcUptoRow : OpenClaim := { program := "ytmbmdemoghdggaa", sum := "a29cc42d28085e6c7fbc66da91659f4d69330fab56049b08846b3076252785df", func := "loop.example/stilmach/laws.FnExactWholeCalc", spec := "fnExactWholeCalc", apart := false, narrowed := true }
def FnExactWholeCalcUptoSaid : Prop := fnExactWholeCalcUptoRow.holds Try.pinned (OpenSpec.upto fnExactWholeCalcSpec)

/-- 'laws.FnWrap', WHERE WHAT IT READS IS OF BULK AT MOST 1048576: true; the input reads as it did. -/
def fnWrapUptoRow : OpenClaim := { program := "ytmbmdemoghdggaa", sum := "a29cc42d28085e6c7fbc66da91659f4d69330fab56049b08846b3076252785df", func := "loop.example/stilmach/laws.FnWrap", spec := "fnWrap", apart := false, narrowed := true }
def FnWrapUptoSaid : Prop := fnWrapUptoRow.holds Try.pinned (OpenSpec.upto fnWrapSpec)

/-- 'laws.FnFlip', WHERE WHAT IT READS IS OF BULK AT MOST 1048576: true; the input reads as it did. -/
def fnFlipUptoRow : OpenClaim := { program := "ytmbmdemoghdggaa", sum := "a29cc42d28085e6c7fbc66da91659f4d69330fab56049b08846b3076252785df", func := "loop.example/stilmach/laws.FnFlip", spec := "fnFlip", apart := false, narrowed := true }
def FnFlipUptoSaid : Prop := fnFlipUptoRow.holds Try.pinned (OpenSpec.upto fnFlipSpec)

/-- 'laws.FnSwap', WHERE WHAT IT READS IS OF BULK AT MOST 1048576: true; the input reads as it did. -/
def fnSwapUptoRow : OpenClaim := { program := "ytmbmdemoghdggaa", sum := "a29cc42d28085e6c7fbc66da91659f4d69330fab56049b08846b3076252785df", func := "loop.example/stilmach/laws.FnSwap", spec := "fnSwap", apart := false, narrowed := true }
def FnSwapUptoSaid : Prop := fnSwapUptoRow.holds Try.pinned (OpenSpec.upto fnSwapSpec)

end Rows
end Go.Proofs.Ytmbmdemoghdggaa
