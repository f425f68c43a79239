/-
  NARROWER THAN 'FOR EVERY INPUT', by the rows' own cells (each row's printed sentence says how): CycleTells: laid · CycleRound: laid · GraphTells: laid · GraphGreatest: laid · GraphLess: laid · TrackApart: laid · CycleAgrees: laid · TrackLast: laid.
  DERIVED. THE GIVEN ROWS OF THIS SEAT. 8 by the template 'for every input the law returns true; each argument reads behind the call as it read before'; 0 by the template 'total and deterministic' (their statements: YtbfbegleffkafaaDoorTotals.lean).
  GIVEN WITH THE SEED: the statements are not yours to turn. If you find one false, say at which input.
  Laid BY PROGRAM, IN A SANDBOX (cutbox-rows.mjs): the forced cells as the released guide's own fill.sh prints them over the translation 5332896daedad5a8… (all of the seat's roots in one cut). By AI agents, Wed Nov 11 2026. No macro, syntax, notation, axiom, sorry.
-/
import Derived.Test.YtbfbegleffkafaaDoorChecked
import GoSem.Claim
import GoSem.ClaimJoined
import GoSem.ClaimMapViews
import Derived.JoinedTies
import Derived.KernelRfl
namespace Go.Proofs.YtbfbegleffkafaaDoor
/- THE CELL 'sum', in the pinned program and in every row, IS THE sha256 OF THE DUMP (.gsa) THAT YtbfbegleffkafaaDoorProg.lean LOADS. Nothing in Lean hashes anything: it is a label: what it is worth is what the hold of that sum in a sandbox is worth. -/
noncomputable def Tryd.pinned : Pinned := { name := "ytbfbegleffkafaadoor", sum := "5332896daedad5a8a0aa0aa8c2184e49b62fa1ca9adf71c6706619c6cdcf2112", checked := Tryd.checked }
namespace Rows
def none {H : Type} : Left H := { results := [], args := [] }

/- WHAT THE LISTED PACKAGE-LEVEL VARIABLES READ AS WHEN THE CALL BEGINS. Each datum BY PROGRAM (the guide's laid-datum.mjs) off the statement by which the dump's own 'gosem.cut.vars' lays the variable. In a bare row this is a premise. The card (YtbfbegleffkafaaDoorCards.lean) ties it to the program's text. -/
def laid_math_bits_deBruijn64tab {H : Type} : DataW H := .agg [.lit (.int .u8 0), .lit (.int .u8 1), .lit (.int .u8 56), .lit (.int .u8 2), .lit (.int .u8 57), .lit (.int .u8 49), .lit (.int .u8 28), .lit (.int .u8 3), .lit (.int .u8 61), .lit (.int .u8 58), .lit (.int .u8 42), .lit (.int .u8 50), .lit (.int .u8 38), .lit (.int .u8 29), .lit (.int .u8 17), .lit (.int .u8 4), .lit (.int .u8 62), .lit (.int .u8 47), .lit (.int .u8 59), .lit (.int .u8 36), .lit (.int .u8 45), .lit (.int .u8 43), .lit (.int .u8 51), .lit (.int .u8 22), .lit (.int .u8 53), .lit (.int .u8 39), .lit (.int .u8 33), .lit (.int .u8 30), .lit (.int .u8 24), .lit (.int .u8 18), .lit (.int .u8 12), .lit (.int .u8 5), .lit (.int .u8 63), .lit (.int .u8 55), .lit (.int .u8 48), .lit (.int .u8 27), .lit (.int .u8 60), .lit (.int .u8 41), .lit (.int .u8 37), .lit (.int .u8 16), .lit (.int .u8 46), .lit (.int .u8 35), .lit (.int .u8 44), .lit (.int .u8 21), .lit (.int .u8 52), .lit (.int .u8 32), .lit (.int .u8 23), .lit (.int .u8 11), .lit (.int .u8 54), .lit (.int .u8 26), .lit (.int .u8 40), .lit (.int .u8 15), .lit (.int .u8 34), .lit (.int .u8 20), .lit (.int .u8 31), .lit (.int .u8 10), .lit (.int .u8 25), .lit (.int .u8 14), .lit (.int .u8 19), .lit (.int .u8 9), .lit (.int .u8 13), .lit (.int .u8 8), .lit (.int .u8 7), .lit (.int .u8 6)]

/-- 'logjamlaw27.CycleTells': WHATEVER THE INPUT: true; the input reads as it did. -/
def cycleTellsSpec : ChangeSpec := { name := "cycleTells", fn := fun _ => fun
  | [d1, d2] => { results := [.lit (.bool true)], args := [d1, d2] }
  | _ => none }
def cycleTellsRow : OpenClaim := { program := "ytbfbegleffkafaadoor", sum := "5332896daedad5a8a0aa0aa8c2184e49b62fa1ca9adf71c6706619c6cdcf2112", func := "logjam/logjamlaw27.CycleTells", spec := "cycleTells", unfollowed := true, recurses := true, named := ["math/bits.deBruijn64tab"], apart := false, laid := [("math/bits.deBruijn64tab", laid_math_bits_deBruijn64tab)] }
def CycleTellsSaid : Prop := cycleTellsRow.holds Tryd.pinned (OpenSpec.ofChange cycleTellsSpec)

/-- ITS FALSE NEIGHBOUR: 'it returns false'. Refute it at one input. -/
def cycleTellsWrong : ChangeSpec := { name := "cycleTells", fn := fun _ => fun
  | [d1, d2] => { results := [.lit (.bool false)], args := [d1, d2] }
  | _ => none }
def CycleTellsWrongFalsely : Prop := cycleTellsRow.holds Tryd.pinned (OpenSpec.ofChange cycleTellsWrong)

/-- 'logjamlaw27.CycleRound': WHATEVER THE INPUT: true; the input reads as it did. -/
def cycleRoundSpec : ChangeSpec := { name := "cycleRound", fn := fun _ => fun
  | [d] => { results := [.lit (.bool true)], args := [d] }
  | _ => none }
def cycleRoundRow : OpenClaim := { program := "ytbfbegleffkafaadoor", sum := "5332896daedad5a8a0aa0aa8c2184e49b62fa1ca9adf71c6706619c6cdcf2112", func := "logjam/logjamlaw27.CycleRound", spec := "cycleRound", unfollowed := true, recurses := true, named := ["math/bits.deBruijn64tab"], apart := false, laid := [("math/bits.deBruijn64tab", laid_math_bits_deBruijn64tab)] }
def CycleRoundSaid : Prop := cycleRoundRow.holds Tryd.pinned (OpenSpec.ofChange cycleRoundSpec)

/-- ITS FALSE NEIGHBOUR: 'it returns false'. Refute it at one input. -/
def cycleRoundWrong : ChangeSpec := { name := "cycleRound", fn := fun _ => fun
  | [d] => { results := [.lit (.bool false)], args := [d] }
  | _ => none }
def CycleRoundWrongFalsely : Prop := cycleRoundRow.holds Tryd.pinned (OpenSpec.ofChange cycleRoundWrong)

/-- 'logjamlaw26.GraphTells': WHATEVER THE INPUT: true; the input reads as it did. -/
def graphTellsSpec : ChangeSpec := { name := "graphTells", fn := fun _ => fun
  | [d1, d2, d3] => { results := [.lit (.bool true)], args := [d1, d2, d3] }
  | _ => none }
def graphTellsRow : OpenClaim := { program := "ytbfbegleffkafaadoor", sum := "5332896daedad5a8a0aa0aa8c2184e49b62fa1ca9adf71c6706619c6cdcf2112", func := "logjam/logjamlaw26.GraphTells", spec := "graphTells", unfollowed := true, recurses := true, named := ["math/bits.deBruijn64tab"], apart := false, laid := [("math/bits.deBruijn64tab", laid_math_bits_deBruijn64tab)] }
def GraphTellsSaid : Prop := graphTellsRow.holds Tryd.pinned (OpenSpec.ofChange graphTellsSpec)

/-- ITS FALSE NEIGHBOUR: 'it returns false'. Refute it at one input. -/
def graphTellsWrong : ChangeSpec := { name := "graphTells", fn := fun _ => fun
  | [d1, d2, d3] => { results := [.lit (.bool false)], args := [d1, d2, d3] }
  | _ => none }
def GraphTellsWrongFalsely : Prop := graphTellsRow.holds Tryd.pinned (OpenSpec.ofChange graphTellsWrong)

/-- 'logjamlaw26.GraphGreatest': WHATEVER THE INPUT: true; the input reads as it did. -/
def graphGreatestSpec : ChangeSpec := { name := "graphGreatest", fn := fun _ => fun
  | [d1, d2] => { results := [.lit (.bool true)], args := [d1, d2] }
  | _ => none }
def graphGreatestRow : OpenClaim := { program := "ytbfbegleffkafaadoor", sum := "5332896daedad5a8a0aa0aa8c2184e49b62fa1ca9adf71c6706619c6cdcf2112", func := "logjam/logjamlaw26.GraphGreatest", spec := "graphGreatest", unfollowed := true, recurses := true, named := ["math/bits.deBruijn64tab"], apart := false, laid := [("math/bits.deBruijn64tab", laid_math_bits_deBruijn64tab)] }
def GraphGreatestSaid : Prop := graphGreatestRow.holds Tryd.pinned (OpenSpec.ofChange graphGreatestSpec)

/-- ITS FALSE NEIGHBOUR: 'it returns false'. Refute it at one input. -/
def graphGreatestWrong : ChangeSpec := { name := "graphGreatest", fn := fun _ => fun
  | [d1, d2] => { results := [.lit (.bool false)], args := [d1, d2] }
  | _ => none }
def GraphGreatestWrongFalsely : Prop := graphGreatestRow.holds Tryd.pinned (OpenSpec.ofChange graphGreatestWrong)

/-- 'logjamlaw26.GraphLess': WHATEVER THE INPUT: true; the input reads as it did. -/
def graphLessSpec : ChangeSpec := { name := "graphLess", fn := fun _ => fun
  | [d1, d2] => { results := [.lit (.bool true)], args := [d1, d2] }
  | _ => none }
def graphLessRow : OpenClaim := { program := "ytbfbegleffkafaadoor", sum := "5332896daedad5a8a0aa0aa8c2184e49b62fa1ca9adf71c6706619c6cdcf2112", func := "logjam/logjamlaw26.GraphLess", spec := "graphLess", unfollowed := true, recurses := true, named := ["math/bits.deBruijn64tab"], apart := false, laid := [("math/bits.deBruijn64tab", laid_math_bits_deBruijn64tab)] }
def GraphLessSaid : Prop := graphLessRow.holds Tryd.pinned (OpenSpec.ofChange graphLessSpec)

/-- ITS FALSE NEIGHBOUR: 'it returns false'. Refute it at one input. -/
def graphLessWrong : ChangeSpec := { name := "graphLess", fn := fun _ => fun
  | [d1, d2] => { results := [.lit (.bool false)], args := [d1, d2] }
  | _ => none }
def GraphLessWrongFalsely : Prop := graphLessRow.holds Tryd.pinned (OpenSpec.ofChange graphLessWrong)

/-- 'logjamlaw28.TrackApart': WHATEVER THE INPUT: true; the input reads as it did. -/
def trackApartSpec : ChangeSpec := { name := "trackApart", fn := fun _ => fun
  | [d1, d2, d3] => { results := [.lit (.bool true)], args := [d1, d2, d3] }
  | _ => none }
def trackApartRow : OpenClaim := { program := "ytbfbegleffkafaadoor", sum := "5332896daedad5a8a0aa0aa8c2184e49b62fa1ca9adf71c6706619c6cdcf2112", func := "logjam/logjamlaw28.TrackApart", spec := "trackApart", unfollowed := true, recurses := true, named := ["math/bits.deBruijn64tab"], apart := false, laid := [("math/bits.deBruijn64tab", laid_math_bits_deBruijn64tab)] }
def TrackApartSaid : Prop := trackApartRow.holds Tryd.pinned (OpenSpec.ofChange trackApartSpec)

/-- ITS FALSE NEIGHBOUR: 'it returns false'. Refute it at one input. -/
def trackApartWrong : ChangeSpec := { name := "trackApart", fn := fun _ => fun
  | [d1, d2, d3] => { results := [.lit (.bool false)], args := [d1, d2, d3] }
  | _ => none }
def TrackApartWrongFalsely : Prop := trackApartRow.holds Tryd.pinned (OpenSpec.ofChange trackApartWrong)

/-- 'logjamlaw27.CycleAgrees': WHATEVER THE INPUT: true; the input reads as it did. -/
def cycleAgreesSpec : ChangeSpec := { name := "cycleAgrees", fn := fun _ => fun
  | [d] => { results := [.lit (.bool true)], args := [d] }
  | _ => none }
def cycleAgreesRow : OpenClaim := { program := "ytbfbegleffkafaadoor", sum := "5332896daedad5a8a0aa0aa8c2184e49b62fa1ca9adf71c6706619c6cdcf2112", func := "logjam/logjamlaw27.CycleAgrees", spec := "cycleAgrees", unfollowed := true, recurses := true, named := ["math/bits.deBruijn64tab"], apart := false, laid := [("math/bits.deBruijn64tab", laid_math_bits_deBruijn64tab)] }
def CycleAgreesSaid : Prop := cycleAgreesRow.holds Tryd.pinned (OpenSpec.ofChange cycleAgreesSpec)

/-- ITS FALSE NEIGHBOUR: 'it returns false'. Refute it at one input. -/
def cycleAgreesWrong : ChangeSpec := { name := "cycleAgrees", fn := fun _ => fun
  | [d] => { results := [.lit (.bool false)], args := [d] }
  | _ => none }
def CycleAgreesWrongFalsely : Prop := cycleAgreesRow.holds Tryd.pinned (OpenSpec.ofChange cycleAgreesWrong)

/-- 'logjamlaw28.TrackLast': WHATEVER THE INPUT: true; the input reads as it did. -/
def trackLastSpec : ChangeSpec := { name := "trackLast", fn := fun _ => fun
  | [d1, d2] => { results := [.lit (.bool true)], args := [d1, d2] }
  | _ => none }
def trackLastRow : OpenClaim := { program := "ytbfbegleffkafaadoor", sum := "5332896daedad5a8a0aa0aa8c2184e49b62fa1ca9adf71c6706619c6cdcf2112", func := "logjam/logjamlaw28.TrackLast", spec := "trackLast", unfollowed := true, recurses := true, named := ["math/bits.deBruijn64tab"], apart := false, laid := [("math/bits.deBruijn64tab", laid_math_bits_deBruijn64tab)] }
def TrackLastSaid : Prop := trackLastRow.holds Tryd.pinned (OpenSpec.ofChange trackLastSpec)

/-- ITS FALSE NEIGHBOUR: 'it returns false'. Refute it at one input. -/
def trackLastWrong : ChangeSpec := { name := "trackLast", fn := fun _ => fun
  | [d1, d2] => { results := [.lit (.bool false)], args := [d1, d2] }
  | _ => none }
def TrackLastWrongFalsely : Prop := trackLastRow.holds Tryd.pinned (OpenSpec.ofChange trackLastWrong)

/- THE SECOND FORM. 'bulk': how many values and letters a reading holds, each counted each time it is reached (what is shared counts as often as it is met; a slice's spare places count too). A statement '..UptoSaid' is the law's where the arguments, and the package variables that the reading takes, are together of bulk at most 1048576: NARROWER than '..Said'. Prove '..Said' where nothing that the law and all that it calls make is longer than what came in: it says more and counts as full. Else prove '..UptoSaid'. A law counts once. -/
mutual
def uptoBulk {H : Type} : DataW H → Nat
  | .lit (.string bytes) => bytes.length + 1
  | .lit _ => 1
  | .nil => 1
  | .ptr d => uptoBulk d + 1
  | .slice elems spare => uptoBulkAll elems + uptoBulkAll spare + 1
  | .agg parts => uptoBulkAll parts + 1
  | .iface _ d => uptoBulk d + 1
  | .map entries => uptoBulkEntries entries + 1
  | .held _ => 1
def uptoBulkAll {H : Type} : List (DataW H) → Nat
  | [] => 0
  | d :: r => uptoBulk d + uptoBulkAll r
def uptoBulkEntries {H : Type} : List (Lit × DataW H) → Nat
  | [] => 0
  | x :: r => uptoBulkEntry x + uptoBulkEntries r
def uptoBulkEntry {H : Type} : Lit × DataW H → Nat
  | (.string bytes, d) => bytes.length + uptoBulk d + 1
  | (_, d) => uptoBulk d + 1
 end
def uptoSmall : (H : Type) → List (DataW H) → Bool := fun _ ds => decide (uptoBulkAll ds ≤ 1048576)
def OpenSpec.upto (s : _root_.Go.ChangeSpec) : _root_.Go.OpenSpec := { _root_.Go.OpenSpec.ofChange s with cond := some uptoSmall }

/-- 'logjamlaw27.CycleTells', WHERE WHAT IT READS IS OF BULK AT MOST 1048576: true; the input reads as it did. -/
def cycleTellsUptoRow : OpenClaim := { program := "ytbfbegleffkafaadoor", sum := "5332896daedad5a8a0aa0aa8c2184e49b62fa1ca9adf71c6706619c6cdcf2112", func := "logjam/logjamlaw27.CycleTells", spec := "cycleTells", unfollowed := true, recurses := true, named := ["math/bits.deBruijn64tab"], apart := false, laid := [("math/bits.deBruijn64tab", laid_math_bits_deBruijn64tab)], narrowed := true }
def CycleTellsUptoSaid : Prop := cycleTellsUptoRow.holds Tryd.pinned (OpenSpec.upto cycleTellsSpec)

/-- 'logjamlaw27.CycleRound', WHERE WHAT IT READS IS OF BULK AT MOST 1048576: true; the input reads as it did. -/
def cycleRoundUptoRow : OpenClaim := { program := "ytbfbegleffkafaadoor", sum := "5332896daedad5a8a0aa0aa8c2184e49b62fa1ca9adf71c6706619c6cdcf2112", func := "logjam/logjamlaw27.CycleRound", spec := "cycleRound", unfollowed := true, recurses := true, named := ["math/bits.deBruijn64tab"], apart := false, laid := [("math/bits.deBruijn64tab", laid_math_bits_deBruijn64tab)], narrowed := true }
def CycleRoundUptoSaid : Prop := cycleRoundUptoRow.holds Tryd.pinned (OpenSpec.upto cycleRoundSpec)

/-- 'logjamlaw26.GraphTells', WHERE WHAT IT READS IS OF BULK AT MOST 1048576: true; the input reads as it did. -/
def graphTellsUptoRow : OpenClaim := { program := "ytbfbegleffkafaadoor", sum := "5332896daedad5a8a0aa0aa8c2184e49b62fa1ca9adf71c6706619c6cdcf2112", func := "logjam/logjamlaw26.GraphTells", spec := "graphTells", unfollowed := true, recurses := true, named := ["math/bits.deBruijn64tab"], apart := false, laid := [("math/bits.deBruijn64tab", laid_math_bits_deBruijn64tab)], narrowed := true }
def GraphTellsUptoSaid : Prop := graphTellsUptoRow.holds Tryd.pinned (OpenSpec.upto graphTellsSpec)

/-- 'logjamlaw26.GraphGreatest', WHERE WHAT IT READS IS OF BULK AT MOST 1048576: true; the input reads as it did. -/
def graphGreatestUptoRow : OpenClaim := { program := "ytbfbegleffkafaadoor", sum := "5332896daedad5a8a0aa0aa8c2184e49b62fa1ca9adf71c6706619c6cdcf2112", func := "logjam/logjamlaw26.GraphGreatest", spec := "graphGreatest", unfollowed := true, recurses := true, named := ["math/bits.deBruijn64tab"], apart := false, laid := [("math/bits.deBruijn64tab", laid_math_bits_deBruijn64tab)], narrowed := true }
def GraphGreatestUptoSaid : Prop := graphGreatestUptoRow.holds Tryd.pinned (OpenSpec.upto graphGreatestSpec)

/-- 'logjamlaw26.GraphLess', WHERE WHAT IT READS IS OF BULK AT MOST 1048576: true; the input reads as it did. -/
def graphLessUptoRow : OpenClaim := { program := "ytbfbegleffkafaadoor", sum := "5332896daedad5a8a0aa0aa8c2184e49b62fa1ca9adf71c6706619c6cdcf2112", func := "logjam/logjamlaw26.GraphLess", spec := "graphLess", unfollowed := true, recurses := true, named := ["math/bits.deBruijn64tab"], apart := false, laid := [("math/bits.deBruijn64tab", laid_math_bits_deBruijn64tab)], narrowed := true }
def GraphLessUptoSaid : Prop := graphLessUptoRow.holds Tryd.pinned (OpenSpec.upto graphLessSpec)

/-- 'logjamlaw28.TrackApart', WHERE WHAT IT READS IS OF BULK AT MOST 1048576: true; the input reads as it did. -/
def trackApartUptoRow : OpenClaim := { program := "ytbfbegleffkafaadoor", sum := "5332896daedad5a8a0aa0aa8c2184e49b62fa1ca9adf71c6706619c6cdcf2112", func := "logjam/logjamlaw28.TrackApart", spec := "trackApart", unfollowed := true, recurses := true, named := ["math/bits.deBruijn64tab"], apart := false, laid := [("math/bits.deBruijn64tab", laid_math_bits_deBruijn64tab)], narrowed := true }
def TrackApartUptoSaid : Prop := trackApartUptoRow.holds Tryd.pinned (OpenSpec.upto trackApartSpec)

/-- 'logjamlaw27.CycleAgrees', WHERE WHAT IT READS IS OF BULK AT MOST 1048576: true; the input reads as it did. -/
def cycleAgreesUptoRow : OpenClaim := { program := "ytbfbegleffkafaadoor", sum := "5332896daedad5a8a0aa0aa8c2184e49b62fa1ca9adf71c6706619c6cdcf2112", func := "logjam/logjamlaw27.CycleAgrees", spec := "cycleAgrees", unfollowed := true, recurses := true, named := ["math/bits.deBruijn64tab"], apart := false, laid := [("math/bits.deBruijn64tab", laid_math_bits_deBruijn64tab)], narrowed := true }
def CycleAgreesUptoSaid : Prop := cycleAgreesUptoRow.holds Tryd.pinned (OpenSpec.upto cycleAgreesSpec)

/-- 'logjamlaw28.TrackLast', WHERE WHAT IT READS IS OF BULK AT MOST 1048576: true; the input reads as it did. -/
def trackLastUptoRow : OpenClaim := { program := "ytbfbegleffkafaadoor", sum := "5332896daedad5a8a0aa0aa8c2184e49b62fa1ca9adf71c6706619c6cdcf2112", func := "logjam/logjamlaw28.TrackLast", spec := "trackLast", unfollowed := true, recurses := true, named := ["math/bits.deBruijn64tab"], apart := false, laid := [("math/bits.deBruijn64tab", laid_math_bits_deBruijn64tab)], narrowed := true }
def TrackLastUptoSaid : Prop := trackLastUptoRow.holds Tryd.pinned (OpenSpec.upto trackLastSpec)

end Rows
end Go.Proofs.YtbfbegleffkafaaDoor
