/-
  DERIVED. GIVEN WITH THE SEED: THE CARDS: each row of YtjcjhmnfknenlaaDoorRows.lean that lists a variable, with what it lists TIED to the program's text (the seventh form; the later family's looks); each row that meets fmt, with fmt's text TOLD by the authors' own Lean function (tested against real Go, not proved from fmt's source: count such statements apart). THE CARD IS WHAT COUNTS. Prove the row's statement (the work); the ties are given (YtjcjhmnfknenlaaDoorTie.lean); close each card by the builder's one call (the guide's Derived/Test/ToyasCard.lean, 'card_holds'). Laid BY PROGRAM, IN A SANDBOX (cutbox-door.mjs). By AI agents, Wed Nov 11 2026. No macro, syntax, notation, axiom, sorry.
-/
import Derived.Test.YtjcjhmnfknenlaaDoorRows
import GoSem.ClaimSeven
namespace Go.Proofs.YtjcjhmnfknenlaaDoor
namespace Rows

/-- THE TIED CARD OF 'logjamlaw21.RightPlays'. -/
def rightPlaysCard : Claim7 := { stood := { row := rightPlaysRow, standIns := [], harness := (true, "bde0644677d4de199d1e334e41a6fa8cdff3ba8c18e28c2f21b4f0b7c23ee7d1"), looks := true }, kinds := [], alts := [], laidByText := true, laidKinds := [.data], laidTests := true, laidLooks := .later }
def RightPlaysCardSaid : Prop := Claim7.holds Tryd.pinned (.plain (OpenSpec.ofChange rightPlaysSpec)) rightPlaysCard

/-- THE TIED CARD OF 'logjamlaw21.RightNever'. -/
def rightNeverCard : Claim7 := { stood := { row := rightNeverRow, standIns := [], harness := (true, "bde0644677d4de199d1e334e41a6fa8cdff3ba8c18e28c2f21b4f0b7c23ee7d1"), looks := true }, kinds := [], alts := [], laidByText := true, laidKinds := [.data], laidTests := true, laidLooks := .later }
def RightNeverCardSaid : Prop := Claim7.holds Tryd.pinned (.plain (OpenSpec.ofChange rightNeverSpec)) rightNeverCard

/-- THE TIED CARD OF 'logjamlaw21.RightApart'. -/
def rightApartCard : Claim7 := { stood := { row := rightApartRow, standIns := [], harness := (true, "bde0644677d4de199d1e334e41a6fa8cdff3ba8c18e28c2f21b4f0b7c23ee7d1"), looks := true }, kinds := [], alts := [], laidByText := true, laidKinds := [.data], laidTests := true, laidLooks := .later }
def RightApartCardSaid : Prop := Claim7.holds Tryd.pinned (.plain (OpenSpec.ofChange rightApartSpec)) rightApartCard

/-- THE TIED CARD OF 'logjamlaw21.RightNil'. -/
def rightNilCard : Claim7 := { stood := { row := rightNilRow, standIns := [], harness := (true, "bde0644677d4de199d1e334e41a6fa8cdff3ba8c18e28c2f21b4f0b7c23ee7d1"), looks := true }, kinds := [], alts := [], laidByText := true, laidKinds := [.data], laidTests := true, laidLooks := .later }
def RightNilCardSaid : Prop := Claim7.holds Tryd.pinned (.plain (OpenSpec.ofChange rightNilSpec)) rightNilCard

/-- THE SECOND FORM's CARD OF 'logjamlaw21.RightPlays'. -/
def rightPlaysUptoCard : Claim7 := { stood := { row := rightPlaysUptoRow, standIns := [], harness := (true, "bde0644677d4de199d1e334e41a6fa8cdff3ba8c18e28c2f21b4f0b7c23ee7d1"), looks := true }, kinds := [], alts := [], laidByText := true, laidKinds := [.data], laidTests := true, laidLooks := .later }
def RightPlaysUptoCardSaid : Prop := Claim7.holds Tryd.pinned (.plain (OpenSpec.upto rightPlaysSpec)) rightPlaysUptoCard

/-- THE SECOND FORM's CARD OF 'logjamlaw21.RightNever'. -/
def rightNeverUptoCard : Claim7 := { stood := { row := rightNeverUptoRow, standIns := [], harness := (true, "bde0644677d4de199d1e334e41a6fa8cdff3ba8c18e28c2f21b4f0b7c23ee7d1"), looks := true }, kinds := [], alts := [], laidByText := true, laidKinds := [.data], laidTests := true, laidLooks := .later }
def RightNeverUptoCardSaid : Prop := Claim7.holds Tryd.pinned (.plain (OpenSpec.upto rightNeverSpec)) rightNeverUptoCard

/-- THE SECOND FORM's CARD OF 'logjamlaw21.RightApart'. -/
def rightApartUptoCard : Claim7 := { stood := { row := rightApartUptoRow, standIns := [], harness := (true, "bde0644677d4de199d1e334e41a6fa8cdff3ba8c18e28c2f21b4f0b7c23ee7d1"), looks := true }, kinds := [], alts := [], laidByText := true, laidKinds := [.data], laidTests := true, laidLooks := .later }
def RightApartUptoCardSaid : Prop := Claim7.holds Tryd.pinned (.plain (OpenSpec.upto rightApartSpec)) rightApartUptoCard

/-- THE SECOND FORM's CARD OF 'logjamlaw21.RightNil'. -/
def rightNilUptoCard : Claim7 := { stood := { row := rightNilUptoRow, standIns := [], harness := (true, "bde0644677d4de199d1e334e41a6fa8cdff3ba8c18e28c2f21b4f0b7c23ee7d1"), looks := true }, kinds := [], alts := [], laidByText := true, laidKinds := [.data], laidTests := true, laidLooks := .later }
def RightNilUptoCardSaid : Prop := Claim7.holds Tryd.pinned (.plain (OpenSpec.upto rightNilSpec)) rightNilUptoCard
end Rows
end Go.Proofs.YtjcjhmnfknenlaaDoor
