/-
  DERIVED. GIVEN WITH THE SEED: THE CARDS: each row of YtbfbegleffkafaaDoorRows.lean that lists a variable, with what it lists TIED to the program's text (the seventh form; the later family's looks); each row that meets fmt, with fmt's text TOLD by the authors' own Lean function (tested against real Go, not proved from fmt's source: count such statements apart). THE CARD IS WHAT COUNTS. Prove the row's statement (the work); the ties are given (YtbfbegleffkafaaDoorTie.lean); close each card by the builder's one call (the guide's Derived/Test/ToyasCard.lean, 'card_holds'). Laid BY PROGRAM, IN A SANDBOX (cutbox-door.mjs). By AI agents, Wed Nov 11 2026. No macro, syntax, notation, axiom, sorry.
-/
import Derived.Test.YtbfbegleffkafaaDoorRows
import GoSem.ClaimSeven
namespace Go.Proofs.YtbfbegleffkafaaDoor
namespace Rows

/-- THE TIED CARD OF 'logjamlaw27.CycleTells'. -/
def cycleTellsCard : Claim7 := { stood := { row := cycleTellsRow, standIns := [], harness := (true, "f4be1b93dfd9b9010b58a1f38855e3ca697fae4e77ad730161c0e76830dc1a01"), looks := false }, kinds := [], alts := [], laidByText := true, laidKinds := [.data], laidTests := true, laidLooks := .later }
def CycleTellsCardSaid : Prop := Claim7.holds Tryd.pinned (.plain (OpenSpec.ofChange cycleTellsSpec)) cycleTellsCard

/-- THE TIED CARD OF 'logjamlaw27.CycleRound'. -/
def cycleRoundCard : Claim7 := { stood := { row := cycleRoundRow, standIns := [], harness := (true, "f4be1b93dfd9b9010b58a1f38855e3ca697fae4e77ad730161c0e76830dc1a01"), looks := false }, kinds := [], alts := [], laidByText := true, laidKinds := [.data], laidTests := true, laidLooks := .later }
def CycleRoundCardSaid : Prop := Claim7.holds Tryd.pinned (.plain (OpenSpec.ofChange cycleRoundSpec)) cycleRoundCard

/-- THE TIED CARD OF 'logjamlaw26.GraphTells'. -/
def graphTellsCard : Claim7 := { stood := { row := graphTellsRow, standIns := [], harness := (true, "f4be1b93dfd9b9010b58a1f38855e3ca697fae4e77ad730161c0e76830dc1a01"), looks := false }, kinds := [], alts := [], laidByText := true, laidKinds := [.data], laidTests := true, laidLooks := .later }
def GraphTellsCardSaid : Prop := Claim7.holds Tryd.pinned (.plain (OpenSpec.ofChange graphTellsSpec)) graphTellsCard

/-- THE TIED CARD OF 'logjamlaw26.GraphGreatest'. -/
def graphGreatestCard : Claim7 := { stood := { row := graphGreatestRow, standIns := [], harness := (true, "f4be1b93dfd9b9010b58a1f38855e3ca697fae4e77ad730161c0e76830dc1a01"), looks := false }, kinds := [], alts := [], laidByText := true, laidKinds := [.data], laidTests := true, laidLooks := .later }
def GraphGreatestCardSaid : Prop := Claim7.holds Tryd.pinned (.plain (OpenSpec.ofChange graphGreatestSpec)) graphGreatestCard

/-- THE TIED CARD OF 'logjamlaw26.GraphLess'. -/
def graphLessCard : Claim7 := { stood := { row := graphLessRow, standIns := [], harness := (true, "f4be1b93dfd9b9010b58a1f38855e3ca697fae4e77ad730161c0e76830dc1a01"), looks := false }, kinds := [], alts := [], laidByText := true, laidKinds := [.data], laidTests := true, laidLooks := .later }
def GraphLessCardSaid : Prop := Claim7.holds Tryd.pinned (.plain (OpenSpec.ofChange graphLessSpec)) graphLessCard

/-- THE TIED CARD OF 'logjamlaw28.TrackApart'. -/
def trackApartCard : Claim7 := { stood := { row := trackApartRow, standIns := [], harness := (true, "f4be1b93dfd9b9010b58a1f38855e3ca697fae4e77ad730161c0e76830dc1a01"), looks := false }, kinds := [], alts := [], laidByText := true, laidKinds := [.data], laidTests := true, laidLooks := .later }
def TrackApartCardSaid : Prop := Claim7.holds Tryd.pinned (.plain (OpenSpec.ofChange trackApartSpec)) trackApartCard

/-- THE TIED CARD OF 'logjamlaw27.CycleAgrees'. -/
def cycleAgreesCard : Claim7 := { stood := { row := cycleAgreesRow, standIns := [], harness := (true, "f4be1b93dfd9b9010b58a1f38855e3ca697fae4e77ad730161c0e76830dc1a01"), looks := false }, kinds := [], alts := [], laidByText := true, laidKinds := [.data], laidTests := true, laidLooks := .later }
def CycleAgreesCardSaid : Prop := Claim7.holds Tryd.pinned (.plain (OpenSpec.ofChange cycleAgreesSpec)) cycleAgreesCard

/-- THE TIED CARD OF 'logjamlaw28.TrackLast'. -/
def trackLastCard : Claim7 := { stood := { row := trackLastRow, standIns := [], harness := (true, "f4be1b93dfd9b9010b58a1f38855e3ca697fae4e77ad730161c0e76830dc1a01"), looks := false }, kinds := [], alts := [], laidByText := true, laidKinds := [.data], laidTests := true, laidLooks := .later }
def TrackLastCardSaid : Prop := Claim7.holds Tryd.pinned (.plain (OpenSpec.ofChange trackLastSpec)) trackLastCard

/-- THE SECOND FORM's CARD OF 'logjamlaw27.CycleTells'. -/
def cycleTellsUptoCard : Claim7 := { stood := { row := cycleTellsUptoRow, standIns := [], harness := (true, "f4be1b93dfd9b9010b58a1f38855e3ca697fae4e77ad730161c0e76830dc1a01"), looks := false }, kinds := [], alts := [], laidByText := true, laidKinds := [.data], laidTests := true, laidLooks := .later }
def CycleTellsUptoCardSaid : Prop := Claim7.holds Tryd.pinned (.plain (OpenSpec.upto cycleTellsSpec)) cycleTellsUptoCard

/-- THE SECOND FORM's CARD OF 'logjamlaw27.CycleRound'. -/
def cycleRoundUptoCard : Claim7 := { stood := { row := cycleRoundUptoRow, standIns := [], harness := (true, "f4be1b93dfd9b9010b58a1f38855e3ca697fae4e77ad730161c0e76830dc1a01"), looks := false }, kinds := [], alts := [], laidByText := true, laidKinds := [.data], laidTests := true, laidLooks := .later }
def CycleRoundUptoCardSaid : Prop := Claim7.holds Tryd.pinned (.plain (OpenSpec.upto cycleRoundSpec)) cycleRoundUptoCard

/-- THE SECOND FORM's CARD OF 'logjamlaw26.GraphTells'. -/
def graphTellsUptoCard : Claim7 := { stood := { row := graphTellsUptoRow, standIns := [], harness := (true, "f4be1b93dfd9b9010b58a1f38855e3ca697fae4e77ad730161c0e76830dc1a01"), looks := false }, kinds := [], alts := [], laidByText := true, laidKinds := [.data], laidTests := true, laidLooks := .later }
def GraphTellsUptoCardSaid : Prop := Claim7.holds Tryd.pinned (.plain (OpenSpec.upto graphTellsSpec)) graphTellsUptoCard

/-- THE SECOND FORM's CARD OF 'logjamlaw26.GraphGreatest'. -/
def graphGreatestUptoCard : Claim7 := { stood := { row := graphGreatestUptoRow, standIns := [], harness := (true, "f4be1b93dfd9b9010b58a1f38855e3ca697fae4e77ad730161c0e76830dc1a01"), looks := false }, kinds := [], alts := [], laidByText := true, laidKinds := [.data], laidTests := true, laidLooks := .later }
def GraphGreatestUptoCardSaid : Prop := Claim7.holds Tryd.pinned (.plain (OpenSpec.upto graphGreatestSpec)) graphGreatestUptoCard

/-- THE SECOND FORM's CARD OF 'logjamlaw26.GraphLess'. -/
def graphLessUptoCard : Claim7 := { stood := { row := graphLessUptoRow, standIns := [], harness := (true, "f4be1b93dfd9b9010b58a1f38855e3ca697fae4e77ad730161c0e76830dc1a01"), looks := false }, kinds := [], alts := [], laidByText := true, laidKinds := [.data], laidTests := true, laidLooks := .later }
def GraphLessUptoCardSaid : Prop := Claim7.holds Tryd.pinned (.plain (OpenSpec.upto graphLessSpec)) graphLessUptoCard

/-- THE SECOND FORM's CARD OF 'logjamlaw28.TrackApart'. -/
def trackApartUptoCard : Claim7 := { stood := { row := trackApartUptoRow, standIns := [], harness := (true, "f4be1b93dfd9b9010b58a1f38855e3ca697fae4e77ad730161c0e76830dc1a01"), looks := false }, kinds := [], alts := [], laidByText := true, laidKinds := [.data], laidTests := true, laidLooks := .later }
def TrackApartUptoCardSaid : Prop := Claim7.holds Tryd.pinned (.plain (OpenSpec.upto trackApartSpec)) trackApartUptoCard

/-- THE SECOND FORM's CARD OF 'logjamlaw27.CycleAgrees'. -/
def cycleAgreesUptoCard : Claim7 := { stood := { row := cycleAgreesUptoRow, standIns := [], harness := (true, "f4be1b93dfd9b9010b58a1f38855e3ca697fae4e77ad730161c0e76830dc1a01"), looks := false }, kinds := [], alts := [], laidByText := true, laidKinds := [.data], laidTests := true, laidLooks := .later }
def CycleAgreesUptoCardSaid : Prop := Claim7.holds Tryd.pinned (.plain (OpenSpec.upto cycleAgreesSpec)) cycleAgreesUptoCard

/-- THE SECOND FORM's CARD OF 'logjamlaw28.TrackLast'. -/
def trackLastUptoCard : Claim7 := { stood := { row := trackLastUptoRow, standIns := [], harness := (true, "f4be1b93dfd9b9010b58a1f38855e3ca697fae4e77ad730161c0e76830dc1a01"), looks := false }, kinds := [], alts := [], laidByText := true, laidKinds := [.data], laidTests := true, laidLooks := .later }
def TrackLastUptoCardSaid : Prop := Claim7.holds Tryd.pinned (.plain (OpenSpec.upto trackLastSpec)) trackLastUptoCard
end Rows
end Go.Proofs.YtbfbegleffkafaaDoor
