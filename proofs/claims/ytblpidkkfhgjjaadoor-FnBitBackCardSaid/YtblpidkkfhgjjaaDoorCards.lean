/-
  DERIVED. GIVEN WITH THE SEED: THE CARDS: each row of YtblpidkkfhgjjaaDoorRows.lean that lists a variable, with what it lists TIED to the program's text (the seventh form; the later family's looks); each row that meets fmt, with fmt's text TOLD by the authors' own Lean function (tested against real Go, not proved from fmt's source: count such statements apart). THE CARD IS WHAT COUNTS. Prove the row's statement (the work); the ties are given (YtblpidkkfhgjjaaDoorTie.lean); close each card by the builder's one call (the guide's Derived/Test/ToyasCard.lean, 'card_holds'). Laid BY PROGRAM, IN A SANDBOX (cutbox-door.mjs). By AI agents, Wed Nov 11 2026. No macro, syntax, notation, axiom, sorry.
-/
import Derived.Test.YtblpidkkfhgjjaaDoorRows
import GoSem.ClaimSeven
namespace Go.Proofs.YtblpidkkfhgjjaaDoor
namespace Rows

/-- THE TIED CARD OF 'laws.FnExactBitRead'. -/
def fnExactBitReadCard : Claim7 := { stood := { row := fnExactBitReadRow, standIns := [], harness := (true, "a1f0a6ceb9c87285fe5bf736dad2415ec461ccf50444296b8c29b0dd1f708bf8"), looks := false }, kinds := [], alts := [], laidByText := true, laidKinds := [.data, .pinned], laidTests := true, laidLooks := .later }
def FnExactBitReadCardSaid : Prop := Claim7.holds Tryd.pinned (.plain (OpenSpec.ofChange fnExactBitReadSpec)) fnExactBitReadCard

/-- THE TIED CARD OF 'laws.FnBitBack'. -/
def fnBitBackCard : Claim7 := { stood := { row := fnBitBackRow, standIns := [], harness := (true, "a1f0a6ceb9c87285fe5bf736dad2415ec461ccf50444296b8c29b0dd1f708bf8"), looks := false }, kinds := [], alts := [], laidByText := true, laidKinds := [.data, .pinned], laidTests := true, laidLooks := .later }
def FnBitBackCardSaid : Prop := Claim7.holds Tryd.pinned (.plain (OpenSpec.ofChange fnBitBackSpec)) fnBitBackCard

/-- THE SECOND FORM's CARD OF 'laws.FnExactBitRead'. -/
def fnExactBitReadUptoCard : Claim7 := { stood := { row := fnExactBitReadUptoRow, standIns := [], harness := (true, "a1f0a6ceb9c87285fe5bf736dad2415ec461ccf50444296b8c29b0dd1f708bf8"), looks := false }, kinds := [], alts := [], laidByText := true, laidKinds := [.data, .pinned], laidTests := true, laidLooks := .later }
def FnExactBitReadUptoCardSaid : Prop := Claim7.holds Tryd.pinned (.plain (OpenSpec.upto fnExactBitReadSpec)) fnExactBitReadUptoCard

/-- THE SECOND FORM's CARD OF 'laws.FnBitBack'. -/
def fnBitBackUptoCard : Claim7 := { stood := { row := fnBitBackUptoRow, standIns := [], harness := (true, "a1f0a6ceb9c87285fe5bf736dad2415ec461ccf50444296b8c29b0dd1f708bf8"), looks := false }, kinds := [], alts := [], laidByText := true, laidKinds := [.data, .pinned], laidTests := true, laidLooks := .later }
def FnBitBackUptoCardSaid : Prop := Claim7.holds Tryd.pinned (.plain (OpenSpec.upto fnBitBackSpec)) fnBitBackUptoCard
end Rows
end Go.Proofs.YtblpidkkfhgjjaaDoor
