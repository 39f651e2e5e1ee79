/-
  DERIVED. GIVEN WITH THE SEED: THE CARDS: each row of YtikcabmohlaanaaDoorRows.lean that lists a variable, with what it lists TIED to the program's text (the seventh form; the later family's looks); each row that meets fmt, with fmt's text TOLD by the authors' own Lean function (tested against real Go, not proved from fmt's source: count such statements apart). THE CARD IS WHAT COUNTS. Prove the row's statement (the work); the ties are given (YtikcabmohlaanaaDoorTie.lean); close each card by the builder's one call (the guide's Derived/Test/ToyasCard.lean, 'card_holds'). Laid BY PROGRAM, IN A SANDBOX (cutbox-door.mjs). By AI agents, Wed Nov 11 2026. No macro, syntax, notation, axiom, sorry.
-/
import Derived.Test.YtikcabmohlaanaaDoorRows
import GoSem.ClaimSeven
namespace Go.Proofs.YtikcabmohlaanaaDoor
namespace Rows

/-- THE TIED CARD OF 'laws.FnDevBack'. -/
def fnDevBackCard : Claim7 := { stood := { row := fnDevBackRow, standIns := [], harness := (true, "c0235dc15c313b5747496ea28d37f47f9b790c23d0cc0ec085839cb9c5a93792"), looks := true }, kinds := [], alts := [], laidByText := true, laidKinds := [.data, .data, .data, .sentinel, .sentinel, .widerDeep], laidTests := true, laidLooks := .later }
def FnDevBackCardSaid : Prop := Claim7.holds Tryd.pinned (.plain (OpenSpec.ofChange fnDevBackSpec)) fnDevBackCard

/-- THE TIED CARD OF 'laws.FnExactDevText'. -/
def fnExactDevTextCard : Claim7 := { stood := { row := fnExactDevTextRow, standIns := [], harness := (true, "c0235dc15c313b5747496ea28d37f47f9b790c23d0cc0ec085839cb9c5a93792"), looks := true }, kinds := [], alts := [], laidByText := true, laidKinds := [.data, .data, .data, .widerDeep], laidTests := true, laidLooks := .later }
def FnExactDevTextCardSaid : Prop := Claim7.holds Tryd.pinned (.plain (OpenSpec.ofChange fnExactDevTextSpec)) fnExactDevTextCard

/-- THE TIED CARD OF 'laws.FnExactDevRead'. -/
def fnExactDevReadCard : Claim7 := { stood := { row := fnExactDevReadRow, standIns := [], harness := (true, "c0235dc15c313b5747496ea28d37f47f9b790c23d0cc0ec085839cb9c5a93792"), looks := true }, kinds := [], alts := [], laidByText := true, laidKinds := [.data, .data, .data, .sentinel, .sentinel, .widerDeep], laidTests := true, laidLooks := .later }
def FnExactDevReadCardSaid : Prop := Claim7.holds Tryd.pinned (.plain (OpenSpec.ofChange fnExactDevReadSpec)) fnExactDevReadCard

/-- THE SECOND FORM's CARD OF 'laws.FnDevBack'. -/
def fnDevBackUptoCard : Claim7 := { stood := { row := fnDevBackUptoRow, standIns := [], harness := (true, "c0235dc15c313b5747496ea28d37f47f9b790c23d0cc0ec085839cb9c5a93792"), looks := true }, kinds := [], alts := [], laidByText := true, laidKinds := [.data, .data, .data, .sentinel, .sentinel, .widerDeep], laidTests := true, laidLooks := .later }
def FnDevBackUptoCardSaid : Prop := Claim7.holds Tryd.pinned (.plain (OpenSpec.upto fnDevBackSpec)) fnDevBackUptoCard

/-- THE SECOND FORM's CARD OF 'laws.FnExactDevText'. -/
def fnExactDevTextUptoCard : Claim7 := { stood := { row := fnExactDevTextUptoRow, standIns := [], harness := (true, "c0235dc15c313b5747496ea28d37f47f9b790c23d0cc0ec085839cb9c5a93792"), looks := true }, kinds := [], alts := [], laidByText := true, laidKinds := [.data, .data, .data, .widerDeep], laidTests := true, laidLooks := .later }
def FnExactDevTextUptoCardSaid : Prop := Claim7.holds Tryd.pinned (.plain (OpenSpec.upto fnExactDevTextSpec)) fnExactDevTextUptoCard

/-- THE SECOND FORM's CARD OF 'laws.FnExactDevRead'. -/
def fnExactDevReadUptoCard : Claim7 := { stood := { row := fnExactDevReadUptoRow, standIns := [], harness := (true, "c0235dc15c313b5747496ea28d37f47f9b790c23d0cc0ec085839cb9c5a93792"), looks := true }, kinds := [], alts := [], laidByText := true, laidKinds := [.data, .data, .data, .sentinel, .sentinel, .widerDeep], laidTests := true, laidLooks := .later }
def FnExactDevReadUptoCardSaid : Prop := Claim7.holds Tryd.pinned (.plain (OpenSpec.upto fnExactDevReadSpec)) fnExactDevReadUptoCard
end Rows
end Go.Proofs.YtikcabmohlaanaaDoor
