/-
  No cell of these rows narrows 'for every input' (looked for: loops, veiled, ifaces, maps, wideKeys, modest, calm, conditions, laid).
  DERIVED. THE GIVEN ROWS OF THIS SEAT. 11 by the template 'for every input the law returns true; each argument reads behind the call as it read before'; 0 by the template 'total and deterministic' (their statements: YtbnkanlfepdlkaaTotals.lean).
  GIVEN WITH THE SEED: the statements are not yours to turn. If you find one false, say at which input.
  Laid BY PROGRAM, IN A SANDBOX (cutbox-rows.mjs): the forced cells as the released guide's own fill.sh prints them over the translation 0cc451b4de59b812… (all of the seat's roots in one cut). By AI agents, Wed Nov 11 2026. No macro, syntax, notation, axiom, sorry.
-/
import Derived.Test.YtbnkanlfepdlkaaChecked
import GoSem.Claim
import GoSem.ClaimJoined
import GoSem.ClaimMapViews
import Derived.JoinedTies
import Derived.KernelRfl
namespace Go.Proofs.Ytbnkanlfepdlkaa
/- THE CELL 'sum', in the pinned program and in every row, IS THE sha256 OF THE DUMP (.gsa) THAT YtbnkanlfepdlkaaProg.lean LOADS. Nothing in Lean hashes anything: it is a label: what it is worth is what the hold of that sum in a sandbox is worth. -/
noncomputable def Try.pinned : Pinned := { name := "ytbnkanlfepdlkaa", sum := "0cc451b4de59b8128b2193ae60ae2816e50144dbdbc2b9c8b1daa0353972869c", checked := Try.checked }
namespace Rows
def none {H : Type} : Left H := { results := [], args := [] }

/-- 'logjamlaw18.SemaPlays': WHATEVER THE INPUT: true; the input reads as it did. -/
def semaPlaysSpec : ChangeSpec := { name := "semaPlays", fn := fun _ => fun
  | [d1, d2, d3] => { results := [.lit (.bool true)], args := [d1, d2, d3] }
  | _ => none }
def semaPlaysRow : OpenClaim := { program := "ytbnkanlfepdlkaa", sum := "0cc451b4de59b8128b2193ae60ae2816e50144dbdbc2b9c8b1daa0353972869c", func := "logjam/logjamlaw18.SemaPlays", spec := "semaPlays", apart := false }
def SemaPlaysSaid : Prop := semaPlaysRow.holds Try.pinned (OpenSpec.ofChange semaPlaysSpec)

/-- ITS FALSE NEIGHBOUR: 'it returns false'. Refute it at one input. -/
def semaPlaysWrong : ChangeSpec := { name := "semaPlays", fn := fun _ => fun
  | [d1, d2, d3] => { results := [.lit (.bool false)], args := [d1, d2, d3] }
  | _ => none }
def SemaPlaysWrongFalsely : Prop := semaPlaysRow.holds Try.pinned (OpenSpec.ofChange semaPlaysWrong)

/-- 'logjamlaw18.SemaSums': WHATEVER THE INPUT: true; the input reads as it did. -/
def semaSumsSpec : ChangeSpec := { name := "semaSums", fn := fun _ => fun
  | [d1, d2, d3] => { results := [.lit (.bool true)], args := [d1, d2, d3] }
  | _ => none }
def semaSumsRow : OpenClaim := { program := "ytbnkanlfepdlkaa", sum := "0cc451b4de59b8128b2193ae60ae2816e50144dbdbc2b9c8b1daa0353972869c", func := "logjam/logjamlaw18.SemaSums", spec := "semaSums", apart := false }
def SemaSumsSaid : Prop := semaSumsRow.holds Try.pinned (OpenSpec.ofChange semaSumsSpec)

/-- ITS FALSE NEIGHBOUR: 'it returns false'. Refute it at one input. -/
def semaSumsWrong : ChangeSpec := { name := "semaSums", fn := fun _ => fun
  | [d1, d2, d3] => { results := [.lit (.bool false)], args := [d1, d2, d3] }
  | _ => none }
def SemaSumsWrongFalsely : Prop := semaSumsRow.holds Try.pinned (OpenSpec.ofChange semaSumsWrong)

/-- 'logjamlaw18.SemaNil': WHATEVER THE INPUT: true; the input reads as it did. -/
def semaNilSpec : ChangeSpec := { name := "semaNil", fn := fun _ => fun
  | [d] => { results := [.lit (.bool true)], args := [d] }
  | _ => none }
def semaNilRow : OpenClaim := { program := "ytbnkanlfepdlkaa", sum := "0cc451b4de59b8128b2193ae60ae2816e50144dbdbc2b9c8b1daa0353972869c", func := "logjam/logjamlaw18.SemaNil", spec := "semaNil", apart := false }
def SemaNilSaid : Prop := semaNilRow.holds Try.pinned (OpenSpec.ofChange semaNilSpec)

/-- ITS FALSE NEIGHBOUR: 'it returns false'. Refute it at one input. -/
def semaNilWrong : ChangeSpec := { name := "semaNil", fn := fun _ => fun
  | [d] => { results := [.lit (.bool false)], args := [d] }
  | _ => none }
def SemaNilWrongFalsely : Prop := semaNilRow.holds Try.pinned (OpenSpec.ofChange semaNilWrong)

/-- 'logjamlaw04.RingOrder': WHATEVER THE INPUT: true; the input reads as it did. -/
def ringOrderSpec : ChangeSpec := { name := "ringOrder", fn := fun _ => fun
  | [d1, d2, d3] => { results := [.lit (.bool true)], args := [d1, d2, d3] }
  | _ => none }
def ringOrderRow : OpenClaim := { program := "ytbnkanlfepdlkaa", sum := "0cc451b4de59b8128b2193ae60ae2816e50144dbdbc2b9c8b1daa0353972869c", func := "logjam/logjamlaw04.RingOrder", spec := "ringOrder", apart := false }
def RingOrderSaid : Prop := ringOrderRow.holds Try.pinned (OpenSpec.ofChange ringOrderSpec)

/-- ITS FALSE NEIGHBOUR: 'it returns false'. Refute it at one input. -/
def ringOrderWrong : ChangeSpec := { name := "ringOrder", fn := fun _ => fun
  | [d1, d2, d3] => { results := [.lit (.bool false)], args := [d1, d2, d3] }
  | _ => none }
def RingOrderWrongFalsely : Prop := ringOrderRow.holds Try.pinned (OpenSpec.ofChange ringOrderWrong)

/-- 'logjamlaw04.RingPlays': WHATEVER THE INPUT: true; the input reads as it did. -/
def ringPlaysSpec : ChangeSpec := { name := "ringPlays", fn := fun _ => fun
  | [d1, d2] => { results := [.lit (.bool true)], args := [d1, d2] }
  | _ => none }
def ringPlaysRow : OpenClaim := { program := "ytbnkanlfepdlkaa", sum := "0cc451b4de59b8128b2193ae60ae2816e50144dbdbc2b9c8b1daa0353972869c", func := "logjam/logjamlaw04.RingPlays", spec := "ringPlays", apart := false }
def RingPlaysSaid : Prop := ringPlaysRow.holds Try.pinned (OpenSpec.ofChange ringPlaysSpec)

/-- ITS FALSE NEIGHBOUR: 'it returns false'. Refute it at one input. -/
def ringPlaysWrong : ChangeSpec := { name := "ringPlays", fn := fun _ => fun
  | [d1, d2] => { results := [.lit (.bool false)], args := [d1, d2] }
  | _ => none }
def RingPlaysWrongFalsely : Prop := ringPlaysRow.holds Try.pinned (OpenSpec.ofChange ringPlaysWrong)

/-- 'logjamlaw04.RingApart': WHATEVER THE INPUT: true; the input reads as it did. -/
def ringApartSpec : ChangeSpec := { name := "ringApart", fn := fun _ => fun
  | [d] => { results := [.lit (.bool true)], args := [d] }
  | _ => none }
def ringApartRow : OpenClaim := { program := "ytbnkanlfepdlkaa", sum := "0cc451b4de59b8128b2193ae60ae2816e50144dbdbc2b9c8b1daa0353972869c", func := "logjam/logjamlaw04.RingApart", spec := "ringApart", apart := false }
def RingApartSaid : Prop := ringApartRow.holds Try.pinned (OpenSpec.ofChange ringApartSpec)

/-- ITS FALSE NEIGHBOUR: 'it returns false'. Refute it at one input. -/
def ringApartWrong : ChangeSpec := { name := "ringApart", fn := fun _ => fun
  | [d] => { results := [.lit (.bool false)], args := [d] }
  | _ => none }
def RingApartWrongFalsely : Prop := ringApartRow.holds Try.pinned (OpenSpec.ofChange ringApartWrong)

/-- 'logjamlaw04.RingNil': WHATEVER THE INPUT: true; the input reads as it did. -/
def ringNilSpec : ChangeSpec := { name := "ringNil", fn := fun _ => fun
  | [d] => { results := [.lit (.bool true)], args := [d] }
  | _ => none }
def ringNilRow : OpenClaim := { program := "ytbnkanlfepdlkaa", sum := "0cc451b4de59b8128b2193ae60ae2816e50144dbdbc2b9c8b1daa0353972869c", func := "logjam/logjamlaw04.RingNil", spec := "ringNil", apart := false }
def RingNilSaid : Prop := ringNilRow.holds Try.pinned (OpenSpec.ofChange ringNilSpec)

/-- ITS FALSE NEIGHBOUR: 'it returns false'. Refute it at one input. -/
def ringNilWrong : ChangeSpec := { name := "ringNil", fn := fun _ => fun
  | [d] => { results := [.lit (.bool false)], args := [d] }
  | _ => none }
def RingNilWrongFalsely : Prop := ringNilRow.holds Try.pinned (OpenSpec.ofChange ringNilWrong)

/-- 'logjamlaw19.BarrierRound': WHATEVER THE INPUT: true; the input reads as it did. -/
def barrierRoundSpec : ChangeSpec := { name := "barrierRound", fn := fun _ => fun
  | [d1, d2] => { results := [.lit (.bool true)], args := [d1, d2] }
  | _ => none }
def barrierRoundRow : OpenClaim := { program := "ytbnkanlfepdlkaa", sum := "0cc451b4de59b8128b2193ae60ae2816e50144dbdbc2b9c8b1daa0353972869c", func := "logjam/logjamlaw19.BarrierRound", spec := "barrierRound", apart := false }
def BarrierRoundSaid : Prop := barrierRoundRow.holds Try.pinned (OpenSpec.ofChange barrierRoundSpec)

/-- ITS FALSE NEIGHBOUR: 'it returns false'. Refute it at one input. -/
def barrierRoundWrong : ChangeSpec := { name := "barrierRound", fn := fun _ => fun
  | [d1, d2] => { results := [.lit (.bool false)], args := [d1, d2] }
  | _ => none }
def BarrierRoundWrongFalsely : Prop := barrierRoundRow.holds Try.pinned (OpenSpec.ofChange barrierRoundWrong)

/-- 'logjamlaw19.BarrierPlays': WHATEVER THE INPUT: true; the input reads as it did. -/
def barrierPlaysSpec : ChangeSpec := { name := "barrierPlays", fn := fun _ => fun
  | [d] => { results := [.lit (.bool true)], args := [d] }
  | _ => none }
def barrierPlaysRow : OpenClaim := { program := "ytbnkanlfepdlkaa", sum := "0cc451b4de59b8128b2193ae60ae2816e50144dbdbc2b9c8b1daa0353972869c", func := "logjam/logjamlaw19.BarrierPlays", spec := "barrierPlays", apart := false }
def BarrierPlaysSaid : Prop := barrierPlaysRow.holds Try.pinned (OpenSpec.ofChange barrierPlaysSpec)

/-- ITS FALSE NEIGHBOUR: 'it returns false'. Refute it at one input. -/
def barrierPlaysWrong : ChangeSpec := { name := "barrierPlays", fn := fun _ => fun
  | [d] => { results := [.lit (.bool false)], args := [d] }
  | _ => none }
def BarrierPlaysWrongFalsely : Prop := barrierPlaysRow.holds Try.pinned (OpenSpec.ofChange barrierPlaysWrong)

/-- 'logjamlaw19.BarrierWaits': WHATEVER THE INPUT: true; the input reads as it did. -/
def barrierWaitsSpec : ChangeSpec := { name := "barrierWaits", fn := fun _ => fun
  | [d] => { results := [.lit (.bool true)], args := [d] }
  | _ => none }
def barrierWaitsRow : OpenClaim := { program := "ytbnkanlfepdlkaa", sum := "0cc451b4de59b8128b2193ae60ae2816e50144dbdbc2b9c8b1daa0353972869c", func := "logjam/logjamlaw19.BarrierWaits", spec := "barrierWaits", apart := false }
def BarrierWaitsSaid : Prop := barrierWaitsRow.holds Try.pinned (OpenSpec.ofChange barrierWaitsSpec)

/-- ITS FALSE NEIGHBOUR: 'it returns false'. Refute it at one input. -/
def barrierWaitsWrong : ChangeSpec := { name := "barrierWaits", fn := fun _ => fun
  | [d] => { results := [.lit (.bool false)], args := [d] }
  | _ => none }
def BarrierWaitsWrongFalsely : Prop := barrierWaitsRow.holds Try.pinned (OpenSpec.ofChange barrierWaitsWrong)

/-- 'logjamlaw19.BarrierNil': WHATEVER THE INPUT: true; the input reads as it did. -/
def barrierNilSpec : ChangeSpec := { name := "barrierNil", fn := fun _ => fun
  | [d] => { results := [.lit (.bool true)], args := [d] }
  | _ => none }
def barrierNilRow : OpenClaim := { program := "ytbnkanlfepdlkaa", sum := "0cc451b4de59b8128b2193ae60ae2816e50144dbdbc2b9c8b1daa0353972869c", func := "logjam/logjamlaw19.BarrierNil", spec := "barrierNil", apart := false }
def BarrierNilSaid : Prop := barrierNilRow.holds Try.pinned (OpenSpec.ofChange barrierNilSpec)

/-- ITS FALSE NEIGHBOUR: 'it returns false'. Refute it at one input. -/
def barrierNilWrong : ChangeSpec := { name := "barrierNil", fn := fun _ => fun
  | [d] => { results := [.lit (.bool false)], args := [d] }
  | _ => none }
def BarrierNilWrongFalsely : Prop := barrierNilRow.holds Try.pinned (OpenSpec.ofChange barrierNilWrong)

/- THE SECOND FORM. 'bulk': how many values and letters a reading holds, each counted each time it is reached (what is shared counts as often as it is met; a slice's spare places count too). A statement '..UptoSaid' is the law's where the arguments, and the package variables that the reading takes, are together of bulk at most 1048576: NARROWER than '..Said'. Prove '..Said' where nothing that the law and all that it calls make is longer than what came in: it says more and counts as full. Else prove '..UptoSaid'. A law counts once. -/
mutual
def uptoBulk {H : Type} : DataW H → Nat
  | .lit (.string bytes) => bytes.length + 1
  | .lit _ => 1
  | .nil => 1
  | .ptr d => uptoBulk d + 1
  | .slice elems spare => uptoBulkAll elems + uptoBulkAll spare + 1
  | .agg parts => uptoBulkAll parts + 1
  | .iface _ d => uptoBulk d + 1
  | .map entries => uptoBulkEntries entries + 1
  | .held _ => 1
def uptoBulkAll {H : Type} : List (DataW H) → Nat
  | [] => 0
  | d :: r => uptoBulk d + uptoBulkAll r
def uptoBulkEntries {H : Type} : List (Lit × DataW H) → Nat
  | [] => 0
  | x :: r => uptoBulkEntry x + uptoBulkEntries r
def uptoBulkEntry {H : Type} : Lit × DataW H → Nat
  | (.string bytes, d) => bytes.length + uptoBulk d + 1
  | (_, d) => uptoBulk d + 1
 end
def uptoSmall : (H : Type) → List (DataW H) → Bool := fun _ ds => decide (uptoBulkAll ds ≤ 1048576)
def OpenSpec.upto (s : _root_.Go.ChangeSpec) : _root_.Go.OpenSpec := { _root_.Go.OpenSpec.ofChange s with cond := some uptoSmall }

/-- 'logjamlaw18.SemaPlays', WHERE WHAT IT READS IS OF BULK AT MOST 1048576: true; the input reads as it did. -/
def semaPlaysUptoRow : OpenClaim := { program := "ytbnkanlfepdlkaa", sum := "0cc451b4de59b8128b2193ae60ae2816e50144dbdbc2b9c8b1daa0353972869c", func := "logjam/logjamlaw18.SemaPlays", spec := "semaPlays", apart := false, narrowed := true }
def SemaPlaysUptoSaid : Prop := semaPlaysUptoRow.holds Try.pinned (OpenSpec.upto semaPlaysSpec)

/-- 'logjamlaw18.SemaSums', WHERE WHAT IT READS IS OF BULK AT MOST 1048576: true; the input reads as it did. -/
def semaSumsUptoRow : OpenClaim := { program := "ytbnkanlfepdlkaa", sum := "0cc451b4de59b8128b2193ae60ae2816e50144dbdbc2b9c8b1daa0353972869c", func := "logjam/logjamlaw18.SemaSums", spec := "semaSums", apart := false, narrowed := true }
def SemaSumsUptoSaid : Prop := semaSumsUptoRow.holds Try.pinned (OpenSpec.upto semaSumsSpec)

/-- 'logjamlaw18.SemaNil', WHERE WHAT IT READS IS OF BULK AT MOST 1048576: true; the input reads as it did. -/
def semaNilUptoRow : OpenClaim := { program := "ytbnkanlfepdlkaa", sum := "0cc451b4de59b8128b2193ae60ae2816e50144dbdbc2b9c8b1daa0353972869c", func := "logjam/logjamlaw18.SemaNil", spec := "semaNil", apart := false, narrowed := true }
def SemaNilUptoSaid : Prop := semaNilUptoRow.holds Try.pinned (OpenSpec.upto semaNilSpec)

/-- 'logjamlaw04.RingOrder', WHERE WHAT IT READS IS OF BULK AT MOST 1048576: true; the input reads as it did. -/
def ringOrderUptoRow : OpenClaim := { program := "ytbnkanlfepdlkaa", sum := "0cc451b4de59b8128b2193ae60ae2816e50144dbdbc2b9c8b1daa0353972869c", func := "logjam/logjamlaw04.RingOrder", spec := "ringOrder", apart := false, narrowed := true }
def RingOrderUptoSaid : Prop := ringOrderUptoRow.holds Try.pinned (OpenSpec.upto ringOrderSpec)

/-- 'logjamlaw04.RingPlays', WHERE WHAT IT READS IS OF BULK AT MOST 1048576: true; the input reads as it did. -/
def ringPlaysUptoRow : OpenClaim := { program := "ytbnkanlfepdlkaa", sum := "0cc451b4de59b8128b2193ae60ae2816e50144dbdbc2b9c8b1daa0353972869c", func := "logjam/logjamlaw04.RingPlays", spec := "ringPlays", apart := false, narrowed := true }
def RingPlaysUptoSaid : Prop := ringPlaysUptoRow.holds Try.pinned (OpenSpec.upto ringPlaysSpec)

/-- 'logjamlaw04.RingApart', WHERE WHAT IT READS IS OF BULK AT MOST 1048576: true; the input reads as it did. -/
def ringApartUptoRow : OpenClaim := { program := "ytbnkanlfepdlkaa", sum := "0cc451b4de59b8128b2193ae60ae2816e50144dbdbc2b9c8b1daa0353972869c", func := "logjam/logjamlaw04.RingApart", spec := "ringApart", apart := false, narrowed := true }
def RingApartUptoSaid : Prop := ringApartUptoRow.holds Try.pinned (OpenSpec.upto ringApartSpec)

/-- 'logjamlaw04.RingNil', WHERE WHAT IT READS IS OF BULK AT MOST 1048576: true; the input reads as it did. -/
def ringNilUptoRow : OpenClaim := { program := "ytbnkanlfepdlkaa", sum := "0cc451b4de59b8128b2193ae60ae2816e50144dbdbc2b9c8b1daa0353972869c", func := "logjam/logjamlaw04.RingNil", spec := "ringNil", apart := false, narrowed := true }
def RingNilUptoSaid : Prop := ringNilUptoRow.holds Try.pinned (OpenSpec.upto ringNilSpec)

/-- 'logjamlaw19.BarrierRound', WHERE WHAT IT READS IS OF BULK AT MOST 1048576: true; the input reads as it did. -/
def barrierRoundUptoRow : OpenClaim := { program := "ytbnkanlfepdlkaa", sum := "0cc451b4de59b8128b2193ae60ae2816e50144dbdbc2b9c8b1daa0353972869c", func := "logjam/logjamlaw19.BarrierRound", spec := "barrierRound", apart := false, narrowed := true }
def BarrierRoundUptoSaid : Prop := barrierRoundUptoRow.holds Try.pinned (OpenSpec.upto barrierRoundSpec)

/-- 'logjamlaw19.BarrierPlays', WHERE WHAT IT READS IS OF BULK AT MOST 1048576: true; the input reads as it did. -/
def barrierPlaysUptoRow : OpenClaim := { program := "ytbnkanlfepdlkaa", sum := "0cc451b4de59b8128b2193ae60ae2816e50144dbdbc2b9c8b1daa0353972869c", func := "logjam/logjamlaw19.BarrierPlays", spec := "barrierPlays", apart := false, narrowed := true }
def BarrierPlaysUptoSaid : Prop := barrierPlaysUptoRow.holds Try.pinned (OpenSpec.upto barrierPlaysSpec)

/-- 'logjamlaw19.BarrierWaits', WHERE WHAT IT READS IS OF BULK AT MOST 1048576: true; the input reads as it did. -/
def barrierWaitsUptoRow : OpenClaim := { program := "ytbnkanlfepdlkaa", sum := "0cc451b4de59b8128b2193ae60ae2816e50144dbdbc2b9c8b1daa0353972869c", func := "logjam/logjamlaw19.BarrierWaits", spec := "barrierWaits", apart := false, narrowed := true }
def BarrierWaitsUptoSaid : Prop := barrierWaitsUptoRow.holds Try.pinned (OpenSpec.upto barrierWaitsSpec)

/-- 'logjamlaw19.BarrierNil', WHERE WHAT IT READS IS OF BULK AT MOST 1048576: true; the input reads as it did. -/
def barrierNilUptoRow : OpenClaim := { program := "ytbnkanlfepdlkaa", sum := "0cc451b4de59b8128b2193ae60ae2816e50144dbdbc2b9c8b1daa0353972869c", func := "logjam/logjamlaw19.BarrierNil", spec := "barrierNil", apart := false, narrowed := true }
def BarrierNilUptoSaid : Prop := barrierNilUptoRow.holds Try.pinned (OpenSpec.upto barrierNilSpec)

end Rows
end Go.Proofs.Ytbnkanlfepdlkaa
