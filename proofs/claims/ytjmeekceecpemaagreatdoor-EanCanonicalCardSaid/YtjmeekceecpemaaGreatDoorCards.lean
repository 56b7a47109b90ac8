/-
  DERIVED. GIVEN WITH THE SEED: THE CARDS: each row of YtjmeekceecpemaaGreatDoorRows.lean that lists a variable, with what it lists TIED to the program's text (the seventh form; the later family's looks); each row that meets fmt, with fmt's text TOLD by the authors' own Lean function (tested against real Go, not proved from fmt's source: count such statements apart). THE CARD IS WHAT COUNTS. Prove the row's statement (the work); the ties are given (YtjmeekceecpemaaGreatDoorTie.lean); close each card by the builder's one call (the guide's Derived/Test/ToyasCard.lean, 'card_holds'). Laid BY PROGRAM, IN A SANDBOX (cutbox-door.mjs). By AI agents, Wed Nov 11 2026. No macro, syntax, notation, axiom, sorry.
-/
import Derived.Test.YtjmeekceecpemaaGreatDoorRows
import GoSem.ClaimSeven
namespace Go.Proofs.YtjmeekceecpemaaGreatDoor
namespace Rows

/-- THE TIED CARD OF 'barscanlaw11.EanEncodes'. -/
def eanEncodesCard : Claim7 := { stood := { row := eanEncodesRow, standIns := [], harness := (true, "77c3c797b2cb1c17b01115d6dbaccaa75b37578e13f136589a67e861a0fd3c54"), looks := true }, kinds := [], alts := [], laidByText := true, laidKinds := [.data, .pinned], laidTests := true, laidLooks := .later }
def EanEncodesCardSaid : Prop := Claim7.holds Tryz.pinned (.plain (OpenSpec.ofChange eanEncodesSpec)) eanEncodesCard

/-- THE TIED CARD OF 'barscanlaw11.EanDecodes'. -/
def eanDecodesCard : Claim7 := { stood := { row := eanDecodesRow, standIns := [], harness := (true, "77c3c797b2cb1c17b01115d6dbaccaa75b37578e13f136589a67e861a0fd3c54"), looks := true }, kinds := [], alts := [], laidByText := true, laidKinds := [.data, .pinned], laidTests := true, laidLooks := .later }
def EanDecodesCardSaid : Prop := Claim7.holds Tryz.pinned (.plain (OpenSpec.ofChange eanDecodesSpec)) eanDecodesCard

/-- THE TIED CARD OF 'barscanlaw11.EanTexts'. -/
def eanTextsCard : Claim7 := { stood := { row := eanTextsRow, standIns := [], harness := (true, "77c3c797b2cb1c17b01115d6dbaccaa75b37578e13f136589a67e861a0fd3c54"), looks := true }, kinds := [], alts := [], laidByText := true, laidKinds := [.data, .pinned], laidTests := true, laidLooks := .later }
def EanTextsCardSaid : Prop := Claim7.holds Tryz.pinned (.plain (OpenSpec.ofChange eanTextsSpec)) eanTextsCard

/-- THE TIED CARD OF 'barscanlaw11.EanRoundTrip'. -/
def eanRoundTripCard : Claim7 := { stood := { row := eanRoundTripRow, standIns := [], harness := (true, "77c3c797b2cb1c17b01115d6dbaccaa75b37578e13f136589a67e861a0fd3c54"), looks := true }, kinds := [], alts := [], laidByText := true, laidKinds := [.data, .pinned], laidTests := true, laidLooks := .later }
def EanRoundTripCardSaid : Prop := Claim7.holds Tryz.pinned (.plain (OpenSpec.ofChange eanRoundTripSpec)) eanRoundTripCard

/-- THE TIED CARD OF 'barscanlaw11.EanExpands'. -/
def eanExpandsCard : Claim7 := { stood := { row := eanExpandsRow, standIns := [], harness := (true, "77c3c797b2cb1c17b01115d6dbaccaa75b37578e13f136589a67e861a0fd3c54"), looks := true }, kinds := [], alts := [], laidByText := true, laidKinds := [.data, .pinned], laidTests := true, laidLooks := .later }
def EanExpandsCardSaid : Prop := Claim7.holds Tryz.pinned (.plain (OpenSpec.ofChange eanExpandsSpec)) eanExpandsCard

/-- THE TIED CARD OF 'barscanlaw11.EanDetects'. -/
def eanDetectsCard : Claim7 := { stood := { row := eanDetectsRow, standIns := [], harness := (true, "77c3c797b2cb1c17b01115d6dbaccaa75b37578e13f136589a67e861a0fd3c54"), looks := true }, kinds := [], alts := [], laidByText := true, laidKinds := [.data, .pinned], laidTests := true, laidLooks := .later }
def EanDetectsCardSaid : Prop := Claim7.holds Tryz.pinned (.plain (OpenSpec.ofChange eanDetectsSpec)) eanDetectsCard

/-- THE TIED CARD OF 'barscanlaw11.EanCanonical'. -/
def eanCanonicalCard : Claim7 := { stood := { row := eanCanonicalRow, standIns := [], harness := (true, "77c3c797b2cb1c17b01115d6dbaccaa75b37578e13f136589a67e861a0fd3c54"), looks := true }, kinds := [], alts := [], laidByText := true, laidKinds := [.data, .pinned], laidTests := true, laidLooks := .later }
def EanCanonicalCardSaid : Prop := Claim7.holds Tryz.pinned (.plain (OpenSpec.ofChange eanCanonicalSpec)) eanCanonicalCard

/-- THE TIED CARD OF 'barscanlaw11.EanDigits'. -/
def eanDigitsCard : Claim7 := { stood := { row := eanDigitsRow, standIns := [], harness := (true, "77c3c797b2cb1c17b01115d6dbaccaa75b37578e13f136589a67e861a0fd3c54"), looks := true }, kinds := [], alts := [], laidByText := true, laidKinds := [.data, .pinned], laidTests := true, laidLooks := .later }
def EanDigitsCardSaid : Prop := Claim7.holds Tryz.pinned (.plain (OpenSpec.ofChange eanDigitsSpec)) eanDigitsCard

/-- THE SECOND FORM's CARD OF 'barscanlaw11.EanEncodes'. -/
def eanEncodesUptoCard : Claim7 := { stood := { row := eanEncodesUptoRow, standIns := [], harness := (true, "77c3c797b2cb1c17b01115d6dbaccaa75b37578e13f136589a67e861a0fd3c54"), looks := true }, kinds := [], alts := [], laidByText := true, laidKinds := [.data, .pinned], laidTests := true, laidLooks := .later }
def EanEncodesUptoCardSaid : Prop := Claim7.holds Tryz.pinned (.plain (OpenSpec.upto eanEncodesSpec)) eanEncodesUptoCard

/-- THE SECOND FORM's CARD OF 'barscanlaw11.EanDecodes'. -/
def eanDecodesUptoCard : Claim7 := { stood := { row := eanDecodesUptoRow, standIns := [], harness := (true, "77c3c797b2cb1c17b01115d6dbaccaa75b37578e13f136589a67e861a0fd3c54"), looks := true }, kinds := [], alts := [], laidByText := true, laidKinds := [.data, .pinned], laidTests := true, laidLooks := .later }
def EanDecodesUptoCardSaid : Prop := Claim7.holds Tryz.pinned (.plain (OpenSpec.upto eanDecodesSpec)) eanDecodesUptoCard

/-- THE SECOND FORM's CARD OF 'barscanlaw11.EanTexts'. -/
def eanTextsUptoCard : Claim7 := { stood := { row := eanTextsUptoRow, standIns := [], harness := (true, "77c3c797b2cb1c17b01115d6dbaccaa75b37578e13f136589a67e861a0fd3c54"), looks := true }, kinds := [], alts := [], laidByText := true, laidKinds := [.data, .pinned], laidTests := true, laidLooks := .later }
def EanTextsUptoCardSaid : Prop := Claim7.holds Tryz.pinned (.plain (OpenSpec.upto eanTextsSpec)) eanTextsUptoCard

/-- THE SECOND FORM's CARD OF 'barscanlaw11.EanRoundTrip'. -/
def eanRoundTripUptoCard : Claim7 := { stood := { row := eanRoundTripUptoRow, standIns := [], harness := (true, "77c3c797b2cb1c17b01115d6dbaccaa75b37578e13f136589a67e861a0fd3c54"), looks := true }, kinds := [], alts := [], laidByText := true, laidKinds := [.data, .pinned], laidTests := true, laidLooks := .later }
def EanRoundTripUptoCardSaid : Prop := Claim7.holds Tryz.pinned (.plain (OpenSpec.upto eanRoundTripSpec)) eanRoundTripUptoCard

/-- THE SECOND FORM's CARD OF 'barscanlaw11.EanExpands'. -/
def eanExpandsUptoCard : Claim7 := { stood := { row := eanExpandsUptoRow, standIns := [], harness := (true, "77c3c797b2cb1c17b01115d6dbaccaa75b37578e13f136589a67e861a0fd3c54"), looks := true }, kinds := [], alts := [], laidByText := true, laidKinds := [.data, .pinned], laidTests := true, laidLooks := .later }
def EanExpandsUptoCardSaid : Prop := Claim7.holds Tryz.pinned (.plain (OpenSpec.upto eanExpandsSpec)) eanExpandsUptoCard

/-- THE SECOND FORM's CARD OF 'barscanlaw11.EanDetects'. -/
def eanDetectsUptoCard : Claim7 := { stood := { row := eanDetectsUptoRow, standIns := [], harness := (true, "77c3c797b2cb1c17b01115d6dbaccaa75b37578e13f136589a67e861a0fd3c54"), looks := true }, kinds := [], alts := [], laidByText := true, laidKinds := [.data, .pinned], laidTests := true, laidLooks := .later }
def EanDetectsUptoCardSaid : Prop := Claim7.holds Tryz.pinned (.plain (OpenSpec.upto eanDetectsSpec)) eanDetectsUptoCard

/-- THE SECOND FORM's CARD OF 'barscanlaw11.EanCanonical'. -/
def eanCanonicalUptoCard : Claim7 := { stood := { row := eanCanonicalUptoRow, standIns := [], harness := (true, "77c3c797b2cb1c17b01115d6dbaccaa75b37578e13f136589a67e861a0fd3c54"), looks := true }, kinds := [], alts := [], laidByText := true, laidKinds := [.data, .pinned], laidTests := true, laidLooks := .later }
def EanCanonicalUptoCardSaid : Prop := Claim7.holds Tryz.pinned (.plain (OpenSpec.upto eanCanonicalSpec)) eanCanonicalUptoCard

/-- THE SECOND FORM's CARD OF 'barscanlaw11.EanDigits'. -/
def eanDigitsUptoCard : Claim7 := { stood := { row := eanDigitsUptoRow, standIns := [], harness := (true, "77c3c797b2cb1c17b01115d6dbaccaa75b37578e13f136589a67e861a0fd3c54"), looks := true }, kinds := [], alts := [], laidByText := true, laidKinds := [.data, .pinned], laidTests := true, laidLooks := .later }
def EanDigitsUptoCardSaid : Prop := Claim7.holds Tryz.pinned (.plain (OpenSpec.upto eanDigitsSpec)) eanDigitsUptoCard
end Rows
end Go.Proofs.YtjmeekceecpemaaGreatDoor
