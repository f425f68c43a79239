/-
  No cell of these rows narrows 'for every input' (looked for: loops, veiled, ifaces, maps, wideKeys, modest, calm, conditions, laid).
  DERIVED. THE GIVEN ROWS OF THIS SEAT. 4 by the template 'for every input the law returns true; each argument reads behind the call as it read before'; 0 by the template 'total and deterministic' (their statements: YtjcjhmnfknenlaaTotals.lean).
  GIVEN WITH THE SEED: the statements are not yours to turn. If you find one false, say at which input.
  Laid BY PROGRAM, IN A SANDBOX (cutbox-rows.mjs): the forced cells as the released guide's own fill.sh prints them over the translation c1f01c4c0511038a… (all of the seat's roots in one cut). By AI agents, Wed Nov 11 2026. No macro, syntax, notation, axiom, sorry.
-/
import Derived.Test.YtjcjhmnfknenlaaChecked
import GoSem.Claim
import GoSem.ClaimJoined
import GoSem.ClaimMapViews
import Derived.JoinedTies
import Derived.KernelRfl
namespace Go.Proofs.Ytjcjhmnfknenlaa
/- THE CELL 'sum', in the pinned program and in every row, IS THE sha256 OF THE DUMP (.gsa) THAT YtjcjhmnfknenlaaProg.lean LOADS. Nothing in Lean hashes anything: it is a label: what it is worth is what the hold of that sum in a sandbox is worth. -/
noncomputable def Try.pinned : Pinned := { name := "ytjcjhmnfknenlaa", sum := "c1f01c4c0511038aba13b7bba4f979b17e0a60673922212d05d267dc473638ea", checked := Try.checked }
namespace Rows
def none {H : Type} : Left H := { results := [], args := [] }

/-- 'logjamlaw35.PlaceAll': WHATEVER THE INPUT: true; the input reads as it did. -/
def placeAllSpec : ChangeSpec := { name := "placeAll", fn := fun _ => fun
  | [d1, d2] => { results := [.lit (.bool true)], args := [d1, d2] }
  | _ => none }
def placeAllRow : OpenClaim := { program := "ytjcjhmnfknenlaa", sum := "c1f01c4c0511038aba13b7bba4f979b17e0a60673922212d05d267dc473638ea", func := "logjam/logjamlaw35.PlaceAll", spec := "placeAll", apart := false }
def PlaceAllSaid : Prop := placeAllRow.holds Try.pinned (OpenSpec.ofChange placeAllSpec)

/-- ITS FALSE NEIGHBOUR: 'it returns false'. Refute it at one input. -/
def placeAllWrong : ChangeSpec := { name := "placeAll", fn := fun _ => fun
  | [d1, d2] => { results := [.lit (.bool false)], args := [d1, d2] }
  | _ => none }
def PlaceAllWrongFalsely : Prop := placeAllRow.holds Try.pinned (OpenSpec.ofChange placeAllWrong)

/-- 'logjamlaw35.PlacePlays': WHATEVER THE INPUT: true; the input reads as it did. -/
def placePlaysSpec : ChangeSpec := { name := "placePlays", fn := fun _ => fun
  | [d1, d2] => { results := [.lit (.bool true)], args := [d1, d2] }
  | _ => none }
def placePlaysRow : OpenClaim := { program := "ytjcjhmnfknenlaa", sum := "c1f01c4c0511038aba13b7bba4f979b17e0a60673922212d05d267dc473638ea", func := "logjam/logjamlaw35.PlacePlays", spec := "placePlays", apart := false }
def PlacePlaysSaid : Prop := placePlaysRow.holds Try.pinned (OpenSpec.ofChange placePlaysSpec)

/-- ITS FALSE NEIGHBOUR: 'it returns false'. Refute it at one input. -/
def placePlaysWrong : ChangeSpec := { name := "placePlays", fn := fun _ => fun
  | [d1, d2] => { results := [.lit (.bool false)], args := [d1, d2] }
  | _ => none }
def PlacePlaysWrongFalsely : Prop := placePlaysRow.holds Try.pinned (OpenSpec.ofChange placePlaysWrong)

/-- 'logjamlaw35.PlaceOnce': WHATEVER THE INPUT: true; the input reads as it did. -/
def placeOnceSpec : ChangeSpec := { name := "placeOnce", fn := fun _ => fun
  | [d1, d2] => { results := [.lit (.bool true)], args := [d1, d2] }
  | _ => none }
def placeOnceRow : OpenClaim := { program := "ytjcjhmnfknenlaa", sum := "c1f01c4c0511038aba13b7bba4f979b17e0a60673922212d05d267dc473638ea", func := "logjam/logjamlaw35.PlaceOnce", spec := "placeOnce", apart := false }
def PlaceOnceSaid : Prop := placeOnceRow.holds Try.pinned (OpenSpec.ofChange placeOnceSpec)

/-- ITS FALSE NEIGHBOUR: 'it returns false'. Refute it at one input. -/
def placeOnceWrong : ChangeSpec := { name := "placeOnce", fn := fun _ => fun
  | [d1, d2] => { results := [.lit (.bool false)], args := [d1, d2] }
  | _ => none }
def PlaceOnceWrongFalsely : Prop := placeOnceRow.holds Try.pinned (OpenSpec.ofChange placeOnceWrong)

/-- 'logjamlaw35.PlaceApart': WHATEVER THE INPUT: true; the input reads as it did. -/
def placeApartSpec : ChangeSpec := { name := "placeApart", fn := fun _ => fun
  | [d1, d2, d3] => { results := [.lit (.bool true)], args := [d1, d2, d3] }
  | _ => none }
def placeApartRow : OpenClaim := { program := "ytjcjhmnfknenlaa", sum := "c1f01c4c0511038aba13b7bba4f979b17e0a60673922212d05d267dc473638ea", func := "logjam/logjamlaw35.PlaceApart", spec := "placeApart", apart := false }
def PlaceApartSaid : Prop := placeApartRow.holds Try.pinned (OpenSpec.ofChange placeApartSpec)

/-- ITS FALSE NEIGHBOUR: 'it returns false'. Refute it at one input. -/
def placeApartWrong : ChangeSpec := { name := "placeApart", fn := fun _ => fun
  | [d1, d2, d3] => { results := [.lit (.bool false)], args := [d1, d2, d3] }
  | _ => none }
def PlaceApartWrongFalsely : Prop := placeApartRow.holds Try.pinned (OpenSpec.ofChange placeApartWrong)

/- THE SECOND FORM. 'bulk': how many values and letters a reading holds, each counted each time it is reached (what is shared counts as often as it is met; a slice's spare places count too). A statement '..UptoSaid' is the law's where the arguments, and the package variables that the reading takes, are together of bulk at most 1048576: NARROWER than '..Said'. Prove '..Said' where nothing that the law and all that it calls make is longer than what came in: it says more and counts as full. Else prove '..UptoSaid'. A law counts once. -/
mutual
def uptoBulk {H : Type} : DataW H → Nat
  | .lit (.string bytes) => bytes.length + 1
  | .lit _ => 1
  | .nil => 1
  | .ptr d => uptoBulk d + 1
  | .slice elems spare => uptoBulkAll elems + uptoBulkAll spare + 1
  | .agg parts => uptoBulkAll parts + 1
  | .iface _ d => uptoBulk d + 1
  | .map entries => uptoBulkEntries entries + 1
  | .held _ => 1
def uptoBulkAll {H : Type} : List (DataW H) → Nat
  | [] => 0
  | d :: r => uptoBulk d + uptoBulkAll r
def uptoBulkEntries {H : Type} : List (Lit × DataW H) → Nat
  | [] => 0
  | x :: r => uptoBulkEntry x + uptoBulkEntries r
def uptoBulkEntry {H : Type} : Lit × DataW H → Nat
  | (.string bytes, d) => bytes.length + uptoBulk d + 1
  | (_, d) => uptoBulk d + 1
 end
def uptoSmall : (H : Type) → List (DataW H) → Bool := fun _ ds => decide (uptoBulkAll ds ≤ 1048576)
def OpenSpec.upto (s : _root_.Go.ChangeSpec) : _root_.Go.OpenSpec := { _root_.Go.OpenSpec.ofChange s with cond := some uptoSmall }

/-- 'logjamlaw35.PlaceAll', WHERE WHAT IT READS IS OF BULK AT MOST 1048576: true; the input reads as it did. -/
def placeAllUptoRow : OpenClaim := { program := "ytjcjhmnfknenlaa", sum := "c1f01c4c0511038aba13b7bba4f979b17e0a60673922212d05d267dc473638ea", func := "logjam/logjamlaw35.PlaceAll", spec := "placeAll", apart := false, narrowed := true }
def PlaceAllUptoSaid : Prop := placeAllUptoRow.holds Try.pinned (OpenSpec.upto placeAllSpec)

/-- 'logjamlaw35.PlacePlays', WHERE WHAT IT READS IS OF BULK AT MOST 1048576: true; the input reads as it did. -/
def placePlaysUptoRow : OpenClaim := { program := "ytjcjhmnfknenlaa", sum := "c1f01c4c0511038aba13b7bba4f979b17e0a60673922212d05d267dc473638ea", func := "logjam/logjamlaw35.PlacePlays", spec := "placePlays", apart := false, narrowed := true }
def PlacePlaysUptoSaid : Prop := placePlaysUptoRow.holds Try.pinned (OpenSpec.upto placePlaysSpec)

/-- 'logjamlaw35.PlaceOnce', WHERE WHAT IT READS IS OF BULK AT MOST 1048576: true; the input reads as it did. -/
def placeOnceUptoRow : OpenClaim := { program := "ytjcjhmnfknenlaa", sum := "c1f01c4c0511038aba13b7bba4f979b17e0a60673922212d05d267dc473638ea", func := "logjam/logjamlaw35.PlaceOnce", spec := "placeOnce", apart := false, narrowed := true }
def PlaceOnceUptoSaid : Prop := placeOnceUptoRow.holds Try.pinned (OpenSpec.upto placeOnceSpec)

/-- 'logjamlaw35.PlaceApart', WHERE WHAT IT READS IS OF BULK AT MOST 1048576: true; the input reads as it did. -/
def placeApartUptoRow : OpenClaim := { program := "ytjcjhmnfknenlaa", sum := "c1f01c4c0511038aba13b7bba4f979b17e0a60673922212d05d267dc473638ea", func := "logjam/logjamlaw35.PlaceApart", spec := "placeApart", apart := false, narrowed := true }
def PlaceApartUptoSaid : Prop := placeApartUptoRow.holds Try.pinned (OpenSpec.upto placeApartSpec)

end Rows
end Go.Proofs.Ytjcjhmnfknenlaa
