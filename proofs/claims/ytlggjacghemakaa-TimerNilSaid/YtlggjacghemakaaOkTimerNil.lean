/- What the arguments of TimerNil are known to meet, whatever they are. Conditions: none. (Written by this session's program.) -/
import Derived.Test.YtlggjacghemakaaPTimerNilx0
import Derived.Test.YtlggjacghemakaaRw
namespace Go.Proofs.Ytlggjacghemakaa.timerNilW
open Go.ChangeShapes Go.WideShapes Go.ChangeAt Go.RowKit
open Go.Proofs.Ytlggjacghemakaa.PTimerNil Go.Proofs.YtlggjacghemakaaW.PrintWords
/- what is to be proved by hand:
theorem walk (a0 : Int) (a1 : Int) (w : World)  (w0 : (fun x => (Lit.int .i64 x).wf = true) a0) (w1 : (fun x => (Lit.int .i64 x).wf = true) a1) :
    Calls Try.prog 6 #[.int .i64 a0, .int .i64 a1] w fun e w' => e = .returned (.bool true) ∧ Below w.heap.size w w' := by
-/
end Go.Proofs.Ytlggjacghemakaa.timerNilW
