/-
  DERIVED. GIVEN WITH THE SEED: THE CARDS: each row of YtghlbdemlmbijaaGreatDoorRows.lean that lists a variable, with what it lists TIED to the program's text (the seventh form; the later family's looks); each row that meets fmt, with fmt's text TOLD by the authors' own Lean function (tested against real Go, not proved from fmt's source: count such statements apart). THE CARD IS WHAT COUNTS. Prove the row's statement (the work); the ties are given (YtghlbdemlmbijaaGreatDoorTie.lean); close each card by the builder's one call (the guide's Derived/Test/ToyasCard.lean, 'card_holds'). Laid BY PROGRAM, IN A SANDBOX (cutbox-door.mjs). By AI agents, Wed Nov 11 2026. No macro, syntax, notation, axiom, sorry.
-/
import Derived.Test.YtghlbdemlmbijaaGreatDoorRows
import GoSem.ClaimSeven
namespace Go.Proofs.YtghlbdemlmbijaaGreatDoor
namespace Rows

/-- THE TIED CARD OF 'barscanlaw14.Gs1Verifies'. -/
def gs1VerifiesCard : Claim7 := { stood := { row := gs1VerifiesRow, standIns := [], harness := (true, "311b07b0de786840855a8086e6cfd92fdb62fa312520565ea58bf1e6f6f073f8"), looks := false }, kinds := [], alts := [], laidByText := true, laidKinds := [.data, .listed, .data, .pinned], laidTests := true, laidLooks := .later }
def Gs1VerifiesCardSaid : Prop := Claim7.holds Tryz.pinned (.plain (OpenSpec.ofChange gs1VerifiesSpec)) gs1VerifiesCard

/-- THE TIED CARD OF 'barscanlaw14.Gs1Texts'. -/
def gs1TextsCard : Claim7 := { stood := { row := gs1TextsRow, standIns := [], harness := (true, "311b07b0de786840855a8086e6cfd92fdb62fa312520565ea58bf1e6f6f073f8"), looks := false }, kinds := [], alts := [], laidByText := true, laidKinds := [.data, .listed, .data, .pinned], laidTests := true, laidLooks := .later }
def Gs1TextsCardSaid : Prop := Claim7.holds Tryz.pinned (.plain (OpenSpec.ofChange gs1TextsSpec)) gs1TextsCard

/-- THE TIED CARD OF 'barscanlaw14.Gs1Chars'. -/
def gs1CharsCard : Claim7 := { stood := { row := gs1CharsRow, standIns := [], harness := (true, "311b07b0de786840855a8086e6cfd92fdb62fa312520565ea58bf1e6f6f073f8"), looks := false }, kinds := [], alts := [], laidByText := true, laidKinds := [.data, .listed, .data, .pinned], laidTests := true, laidLooks := .later }
def Gs1CharsCardSaid : Prop := Claim7.holds Tryz.pinned (.plain (OpenSpec.ofChange gs1CharsSpec)) gs1CharsCard

/-- THE TIED CARD OF 'barscanlaw14.Gs1Reads'. -/
def gs1ReadsCard : Claim7 := { stood := { row := gs1ReadsRow, standIns := [], harness := (true, "311b07b0de786840855a8086e6cfd92fdb62fa312520565ea58bf1e6f6f073f8"), looks := false }, kinds := [], alts := [], laidByText := true, laidKinds := [.data, .listed, .data, .pinned], laidTests := true, laidLooks := .later }
def Gs1ReadsCardSaid : Prop := Claim7.holds Tryz.pinned (.plain (OpenSpec.ofChange gs1ReadsSpec)) gs1ReadsCard

/-- THE SECOND FORM's CARD OF 'barscanlaw14.Gs1Verifies'. -/
def gs1VerifiesUptoCard : Claim7 := { stood := { row := gs1VerifiesUptoRow, standIns := [], harness := (true, "311b07b0de786840855a8086e6cfd92fdb62fa312520565ea58bf1e6f6f073f8"), looks := false }, kinds := [], alts := [], laidByText := true, laidKinds := [.data, .listed, .data, .pinned], laidTests := true, laidLooks := .later }
def Gs1VerifiesUptoCardSaid : Prop := Claim7.holds Tryz.pinned (.plain (OpenSpec.upto gs1VerifiesSpec)) gs1VerifiesUptoCard

/-- THE SECOND FORM's CARD OF 'barscanlaw14.Gs1Texts'. -/
def gs1TextsUptoCard : Claim7 := { stood := { row := gs1TextsUptoRow, standIns := [], harness := (true, "311b07b0de786840855a8086e6cfd92fdb62fa312520565ea58bf1e6f6f073f8"), looks := false }, kinds := [], alts := [], laidByText := true, laidKinds := [.data, .listed, .data, .pinned], laidTests := true, laidLooks := .later }
def Gs1TextsUptoCardSaid : Prop := Claim7.holds Tryz.pinned (.plain (OpenSpec.upto gs1TextsSpec)) gs1TextsUptoCard

/-- THE SECOND FORM's CARD OF 'barscanlaw14.Gs1Chars'. -/
def gs1CharsUptoCard : Claim7 := { stood := { row := gs1CharsUptoRow, standIns := [], harness := (true, "311b07b0de786840855a8086e6cfd92fdb62fa312520565ea58bf1e6f6f073f8"), looks := false }, kinds := [], alts := [], laidByText := true, laidKinds := [.data, .listed, .data, .pinned], laidTests := true, laidLooks := .later }
def Gs1CharsUptoCardSaid : Prop := Claim7.holds Tryz.pinned (.plain (OpenSpec.upto gs1CharsSpec)) gs1CharsUptoCard

/-- THE SECOND FORM's CARD OF 'barscanlaw14.Gs1Reads'. -/
def gs1ReadsUptoCard : Claim7 := { stood := { row := gs1ReadsUptoRow, standIns := [], harness := (true, "311b07b0de786840855a8086e6cfd92fdb62fa312520565ea58bf1e6f6f073f8"), looks := false }, kinds := [], alts := [], laidByText := true, laidKinds := [.data, .listed, .data, .pinned], laidTests := true, laidLooks := .later }
def Gs1ReadsUptoCardSaid : Prop := Claim7.holds Tryz.pinned (.plain (OpenSpec.upto gs1ReadsSpec)) gs1ReadsUptoCard
end Rows
end Go.Proofs.YtghlbdemlmbijaaGreatDoor
