/-
  DERIVED. GIVEN WITH THE SEED: THE CARDS: each row of YtobbkebjgjeglaaDoorRows.lean that lists a variable, with what it lists TIED to the program's text (the seventh form; the later family's looks); each row that meets fmt, with fmt's text TOLD by the authors' own Lean function (tested against real Go, not proved from fmt's source: count such statements apart). THE CARD IS WHAT COUNTS. Prove the row's statement (the work); the ties are given (YtobbkebjgjeglaaDoorTie.lean); close each card by the builder's one call (the guide's Derived/Test/ToyasCard.lean, 'card_holds'). Laid BY PROGRAM, IN A SANDBOX (cutbox-door.mjs). By AI agents, Wed Nov 11 2026. No macro, syntax, notation, axiom, sorry.
-/
import Derived.Test.YtobbkebjgjeglaaDoorRows
import GoSem.ClaimSeven
namespace Go.Proofs.YtobbkebjgjeglaaDoor
namespace Rows

/-- THE TIED CARD OF 'laws.FnExactRealRead'. -/
def fnExactRealReadCard : Claim7 := { stood := { row := fnExactRealReadRow, standIns := [], harness := (true, "1c093a2c67de826bf03678da89fd5fdde7c9ea4a8aa58bdd359a1f4815561408"), looks := true }, kinds := [], alts := [], laidByText := true, laidKinds := [.data, .data, .data, .sentinel, .sentinel], laidTests := true, laidLooks := .later }
def FnExactRealReadCardSaid : Prop := Claim7.holds Tryd.pinned (.plain (OpenSpec.ofChange fnExactRealReadSpec)) fnExactRealReadCard

/-- THE TIED CARD OF 'laws.FnRealBack'. -/
def fnRealBackCard : Claim7 := { stood := { row := fnRealBackRow, standIns := [], harness := (true, "1c093a2c67de826bf03678da89fd5fdde7c9ea4a8aa58bdd359a1f4815561408"), looks := true }, kinds := [], alts := [], laidByText := true, laidKinds := [.data, .data, .data, .sentinel, .sentinel], laidTests := true, laidLooks := .later }
def FnRealBackCardSaid : Prop := Claim7.holds Tryd.pinned (.plain (OpenSpec.ofChange fnRealBackSpec)) fnRealBackCard

/-- THE TIED CARD OF 'laws.FnExactRealText'. -/
def fnExactRealTextCard : Claim7 := { stood := { row := fnExactRealTextRow, standIns := [], harness := (true, "1c093a2c67de826bf03678da89fd5fdde7c9ea4a8aa58bdd359a1f4815561408"), looks := true }, kinds := [], alts := [], laidByText := true, laidKinds := [.data, .data, .data], laidTests := true, laidLooks := .later }
def FnExactRealTextCardSaid : Prop := Claim7.holds Tryd.pinned (.plain (OpenSpec.ofChange fnExactRealTextSpec)) fnExactRealTextCard

/-- THE SECOND FORM's CARD OF 'laws.FnExactRealRead'. -/
def fnExactRealReadUptoCard : Claim7 := { stood := { row := fnExactRealReadUptoRow, standIns := [], harness := (true, "1c093a2c67de826bf03678da89fd5fdde7c9ea4a8aa58bdd359a1f4815561408"), looks := true }, kinds := [], alts := [], laidByText := true, laidKinds := [.data, .data, .data, .sentinel, .sentinel], laidTests := true, laidLooks := .later }
def FnExactRealReadUptoCardSaid : Prop := Claim7.holds Tryd.pinned (.plain (OpenSpec.upto fnExactRealReadSpec)) fnExactRealReadUptoCard

/-- THE SECOND FORM's CARD OF 'laws.FnRealBack'. -/
def fnRealBackUptoCard : Claim7 := { stood := { row := fnRealBackUptoRow, standIns := [], harness := (true, "1c093a2c67de826bf03678da89fd5fdde7c9ea4a8aa58bdd359a1f4815561408"), looks := true }, kinds := [], alts := [], laidByText := true, laidKinds := [.data, .data, .data, .sentinel, .sentinel], laidTests := true, laidLooks := .later }
def FnRealBackUptoCardSaid : Prop := Claim7.holds Tryd.pinned (.plain (OpenSpec.upto fnRealBackSpec)) fnRealBackUptoCard

/-- THE SECOND FORM's CARD OF 'laws.FnExactRealText'. -/
def fnExactRealTextUptoCard : Claim7 := { stood := { row := fnExactRealTextUptoRow, standIns := [], harness := (true, "1c093a2c67de826bf03678da89fd5fdde7c9ea4a8aa58bdd359a1f4815561408"), looks := true }, kinds := [], alts := [], laidByText := true, laidKinds := [.data, .data, .data], laidTests := true, laidLooks := .later }
def FnExactRealTextUptoCardSaid : Prop := Claim7.holds Tryd.pinned (.plain (OpenSpec.upto fnExactRealTextSpec)) fnExactRealTextUptoCard
end Rows
end Go.Proofs.YtobbkebjgjeglaaDoor
