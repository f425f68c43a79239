/- What the arguments of RingOrder are known to meet, whatever they are. Conditions: none. (Written by this session's program.) -/
import Derived.Test.YtbnkanlfepdlkaaPRingOrderx0
import Derived.Test.YtbnkanlfepdlkaaRw
namespace Go.Proofs.Ytbnkanlfepdlkaa.ringOrderW
open Go.ChangeShapes Go.WideShapes Go.ChangeAt Go.RowKit
open Go.Proofs.Ytbnkanlfepdlkaa.PRingOrder Go.Proofs.YtbnkanlfepdlkaaW.PrintWords
/- what is to be proved by hand:
theorem walk (A0 : Option Addr) (c0 : Nat) (l0 : List Int) (a1 : Int) (a2 : Bool) (w : World) (hr0 : Kd.C (Kd.int .i64) w A0 l0.length l0) (hc0 : l0.length ≤ c0) (w0 : (fun l => (∀ a ∈ l, (fun x => (Lit.int .i64 x).wf = true) a) ∧ l.length * 8 ≤ 140737488351232) l0) (w1 : (fun x => (Lit.int .u8 x).wf = true) a1) :
    Calls Try.prog 6 #[.slice A0 l0.length c0, .int .u8 a1, .bool a2] w fun e w' => e = .returned (.bool true) ∧ Below w.heap.size w w' := by
-/
end Go.Proofs.Ytbnkanlfepdlkaa.ringOrderW
