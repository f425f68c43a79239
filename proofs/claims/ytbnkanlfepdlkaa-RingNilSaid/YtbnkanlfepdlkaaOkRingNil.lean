/- What the arguments of RingNil are known to meet, whatever they are. Conditions: none. (Written by this session's program.) -/
import Derived.Test.YtbnkanlfepdlkaaPRingNilx0
import Derived.Test.YtbnkanlfepdlkaaRw
namespace Go.Proofs.Ytbnkanlfepdlkaa.ringNilW
open Go.ChangeShapes Go.WideShapes Go.ChangeAt Go.RowKit
open Go.Proofs.Ytbnkanlfepdlkaa.PRingNil Go.Proofs.YtbnkanlfepdlkaaW.PrintWords
/- what is to be proved by hand:
theorem walk (a0 : Int) (w : World)  (w0 : (fun x => (Lit.int .i64 x).wf = true) a0) :
    Calls Try.prog 9 #[.int .i64 a0] w fun e w' => e = .returned (.bool true) ∧ Below w.heap.size w w' := by
-/
end Go.Proofs.Ytbnkanlfepdlkaa.ringNilW
