/-
  DERIVED. GIVEN WITH THE SEED: THE CARDS: each row of YtghlbdemlmbijaaDoorRows.lean that lists a variable, with what it lists TIED to the program's text (the seventh form; the later family's looks); each row that meets fmt, with fmt's text TOLD by the authors' own Lean function (tested against real Go, not proved from fmt's source: count such statements apart). THE CARD IS WHAT COUNTS. Prove the row's statement (the work); the ties are given (YtghlbdemlmbijaaDoorTie.lean); close each card by the builder's one call (the guide's Derived/Test/ToyasCard.lean, 'card_holds'). Laid BY PROGRAM, IN A SANDBOX (cutbox-door.mjs). By AI agents, Wed Nov 11 2026. No macro, syntax, notation, axiom, sorry.
-/
import Derived.Test.YtghlbdemlmbijaaDoorRows
import GoSem.ClaimSeven
namespace Go.Proofs.YtghlbdemlmbijaaDoor
namespace Rows

/-- THE TIED CARD OF 'barscanlaw14.Gs1RoundTrip'. -/
def gs1RoundTripCard : Claim7 := { stood := { row := gs1RoundTripRow, standIns := [], harness := (true, "9609b4a5ca291cbd272f69844cc9aa37bb56934860e1212dfb8b45eed501ecd5"), looks := false }, kinds := [], alts := [], laidByText := true, laidKinds := [.data, .listed, .data, .pinned], laidTests := true, laidLooks := .later }
def Gs1RoundTripCardSaid : Prop := Claim7.holds Tryd.pinned (.plain (OpenSpec.ofChange gs1RoundTripSpec)) gs1RoundTripCard

/-- THE TIED CARD OF 'barscanlaw14.Gs1Canonical'. -/
def gs1CanonicalCard : Claim7 := { stood := { row := gs1CanonicalRow, standIns := [], harness := (true, "9609b4a5ca291cbd272f69844cc9aa37bb56934860e1212dfb8b45eed501ecd5"), looks := false }, kinds := [], alts := [], laidByText := true, laidKinds := [.data, .listed, .data, .pinned], laidTests := true, laidLooks := .later }
def Gs1CanonicalCardSaid : Prop := Claim7.holds Tryd.pinned (.plain (OpenSpec.ofChange gs1CanonicalSpec)) gs1CanonicalCard

/-- THE TIED CARD OF 'barscanlaw14.Gs1Separators'. -/
def gs1SeparatorsCard : Claim7 := { stood := { row := gs1SeparatorsRow, standIns := [], harness := (true, "9609b4a5ca291cbd272f69844cc9aa37bb56934860e1212dfb8b45eed501ecd5"), looks := false }, kinds := [], alts := [], laidByText := true, laidKinds := [.data, .listed, .data, .pinned], laidTests := true, laidLooks := .later }
def Gs1SeparatorsCardSaid : Prop := Claim7.holds Tryd.pinned (.plain (OpenSpec.ofChange gs1SeparatorsSpec)) gs1SeparatorsCard

/-- THE TIED CARD OF 'barscanlaw14.Gs1Detects'. -/
def gs1DetectsCard : Claim7 := { stood := { row := gs1DetectsRow, standIns := [], harness := (true, "9609b4a5ca291cbd272f69844cc9aa37bb56934860e1212dfb8b45eed501ecd5"), looks := false }, kinds := [], alts := [], laidByText := true, laidKinds := [.data, .listed, .data, .pinned], laidTests := true, laidLooks := .later }
def Gs1DetectsCardSaid : Prop := Claim7.holds Tryd.pinned (.plain (OpenSpec.ofChange gs1DetectsSpec)) gs1DetectsCard

/-- THE SECOND FORM's CARD OF 'barscanlaw14.Gs1RoundTrip'. -/
def gs1RoundTripUptoCard : Claim7 := { stood := { row := gs1RoundTripUptoRow, standIns := [], harness := (true, "9609b4a5ca291cbd272f69844cc9aa37bb56934860e1212dfb8b45eed501ecd5"), looks := false }, kinds := [], alts := [], laidByText := true, laidKinds := [.data, .listed, .data, .pinned], laidTests := true, laidLooks := .later }
def Gs1RoundTripUptoCardSaid : Prop := Claim7.holds Tryd.pinned (.plain (OpenSpec.upto gs1RoundTripSpec)) gs1RoundTripUptoCard

/-- THE SECOND FORM's CARD OF 'barscanlaw14.Gs1Canonical'. -/
def gs1CanonicalUptoCard : Claim7 := { stood := { row := gs1CanonicalUptoRow, standIns := [], harness := (true, "9609b4a5ca291cbd272f69844cc9aa37bb56934860e1212dfb8b45eed501ecd5"), looks := false }, kinds := [], alts := [], laidByText := true, laidKinds := [.data, .listed, .data, .pinned], laidTests := true, laidLooks := .later }
def Gs1CanonicalUptoCardSaid : Prop := Claim7.holds Tryd.pinned (.plain (OpenSpec.upto gs1CanonicalSpec)) gs1CanonicalUptoCard

/-- THE SECOND FORM's CARD OF 'barscanlaw14.Gs1Separators'. -/
def gs1SeparatorsUptoCard : Claim7 := { stood := { row := gs1SeparatorsUptoRow, standIns := [], harness := (true, "9609b4a5ca291cbd272f69844cc9aa37bb56934860e1212dfb8b45eed501ecd5"), looks := false }, kinds := [], alts := [], laidByText := true, laidKinds := [.data, .listed, .data, .pinned], laidTests := true, laidLooks := .later }
def Gs1SeparatorsUptoCardSaid : Prop := Claim7.holds Tryd.pinned (.plain (OpenSpec.upto gs1SeparatorsSpec)) gs1SeparatorsUptoCard

/-- THE SECOND FORM's CARD OF 'barscanlaw14.Gs1Detects'. -/
def gs1DetectsUptoCard : Claim7 := { stood := { row := gs1DetectsUptoRow, standIns := [], harness := (true, "9609b4a5ca291cbd272f69844cc9aa37bb56934860e1212dfb8b45eed501ecd5"), looks := false }, kinds := [], alts := [], laidByText := true, laidKinds := [.data, .listed, .data, .pinned], laidTests := true, laidLooks := .later }
def Gs1DetectsUptoCardSaid : Prop := Claim7.holds Tryd.pinned (.plain (OpenSpec.upto gs1DetectsSpec)) gs1DetectsUptoCard
end Rows
end Go.Proofs.YtghlbdemlmbijaaDoor
