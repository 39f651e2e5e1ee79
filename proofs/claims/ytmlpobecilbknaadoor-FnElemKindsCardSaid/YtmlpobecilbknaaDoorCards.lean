/-
  DERIVED. GIVEN WITH THE SEED: THE CARDS: each row of YtmlpobecilbknaaDoorRows.lean that lists a variable, with what it lists TIED to the program's text (the seventh form; the later family's looks); each row that meets fmt, with fmt's text TOLD by the authors' own Lean function (tested against real Go, not proved from fmt's source: count such statements apart). THE CARD IS WHAT COUNTS. Prove the row's statement (the work); the ties are given (YtmlpobecilbknaaDoorTie.lean); close each card by the builder's one call (the guide's Derived/Test/ToyasCard.lean, 'card_holds'). Laid BY PROGRAM, IN A SANDBOX (cutbox-door.mjs). By AI agents, Wed Nov 11 2026. No macro, syntax, notation, axiom, sorry.
-/
import Derived.Test.YtmlpobecilbknaaDoorRows
import GoSem.ClaimSeven
namespace Go.Proofs.YtmlpobecilbknaaDoor
namespace Rows

/-- THE TIED CARD OF 'laws.FnExactElemName'. -/
def fnExactElemNameCard : Claim7 := { stood := { row := fnExactElemNameRow, standIns := [], harness := (true, "5d074a735827024e635a3a83098e05e1fd180cb79c9bb9deb017a852e527eb01"), looks := false }, kinds := [], alts := [], laidByText := true, laidKinds := [.widerDeep], laidTests := true, laidLooks := .later }
def FnExactElemNameCardSaid : Prop := Claim7.holds Tryd.pinned (.plain (OpenSpec.ofChange fnExactElemNameSpec)) fnExactElemNameCard

/-- THE TIED CARD OF 'laws.FnExactElemText'. -/
def fnExactElemTextCard : Claim7 := { stood := { row := fnExactElemTextRow, standIns := [], harness := (true, "5d074a735827024e635a3a83098e05e1fd180cb79c9bb9deb017a852e527eb01"), looks := false }, kinds := [], alts := [], laidByText := true, laidKinds := [.data, .data, .data, .widerDeep, .widerDeep], laidTests := true, laidLooks := .later }
def FnExactElemTextCardSaid : Prop := Claim7.holds Tryd.pinned (.plain (OpenSpec.ofChange fnExactElemTextSpec)) fnExactElemTextCard

/-- THE TIED CARD OF 'laws.FnElemKinds'. -/
def fnElemKindsCard : Claim7 := { stood := { row := fnElemKindsRow, standIns := [], harness := (true, "5d074a735827024e635a3a83098e05e1fd180cb79c9bb9deb017a852e527eb01"), looks := false }, kinds := [], alts := [], laidByText := true, laidKinds := [.data, .data, .data, .widerDeep, .widerDeep], laidTests := true, laidLooks := .later }
def FnElemKindsCardSaid : Prop := Claim7.holds Tryd.pinned (.plain (OpenSpec.ofChange fnElemKindsSpec)) fnElemKindsCard

/-- THE SECOND FORM's CARD OF 'laws.FnExactElemName'. -/
def fnExactElemNameUptoCard : Claim7 := { stood := { row := fnExactElemNameUptoRow, standIns := [], harness := (true, "5d074a735827024e635a3a83098e05e1fd180cb79c9bb9deb017a852e527eb01"), looks := false }, kinds := [], alts := [], laidByText := true, laidKinds := [.widerDeep], laidTests := true, laidLooks := .later }
def FnExactElemNameUptoCardSaid : Prop := Claim7.holds Tryd.pinned (.plain (OpenSpec.upto fnExactElemNameSpec)) fnExactElemNameUptoCard

/-- THE SECOND FORM's CARD OF 'laws.FnExactElemText'. -/
def fnExactElemTextUptoCard : Claim7 := { stood := { row := fnExactElemTextUptoRow, standIns := [], harness := (true, "5d074a735827024e635a3a83098e05e1fd180cb79c9bb9deb017a852e527eb01"), looks := false }, kinds := [], alts := [], laidByText := true, laidKinds := [.data, .data, .data, .widerDeep, .widerDeep], laidTests := true, laidLooks := .later }
def FnExactElemTextUptoCardSaid : Prop := Claim7.holds Tryd.pinned (.plain (OpenSpec.upto fnExactElemTextSpec)) fnExactElemTextUptoCard

/-- THE SECOND FORM's CARD OF 'laws.FnElemKinds'. -/
def fnElemKindsUptoCard : Claim7 := { stood := { row := fnElemKindsUptoRow, standIns := [], harness := (true, "5d074a735827024e635a3a83098e05e1fd180cb79c9bb9deb017a852e527eb01"), looks := false }, kinds := [], alts := [], laidByText := true, laidKinds := [.data, .data, .data, .widerDeep, .widerDeep], laidTests := true, laidLooks := .later }
def FnElemKindsUptoCardSaid : Prop := Claim7.holds Tryd.pinned (.plain (OpenSpec.upto fnElemKindsSpec)) fnElemKindsUptoCard
end Rows
end Go.Proofs.YtmlpobecilbknaaDoor
