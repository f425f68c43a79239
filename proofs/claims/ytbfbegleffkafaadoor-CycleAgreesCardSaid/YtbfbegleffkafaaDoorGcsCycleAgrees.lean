/- All below n, as a set. Conditions: none. -/
import Derived.Test.YtbfbegleffkafaaDoorGr
import Derived.Test.YtbfbegleffkafaaDoorPCycleAgreesx8
import Derived.Test.YtbfbegleffkafaaDoorPCycleAgreesx9

namespace Go.Proofs.YtbfbegleffkafaaDoor.PCycleAgrees
open Go.RowKit Go.Proofs.YtbfbegleffkafaaDoorW.PrintWords Go.Proofs.YtbfbegleffkafaaDoorW.PrintLast Go.Proofs.YtbfbegleffkafaaDoorW.PrintMore
set_option linter.unusedVariables false
namespace Gc
/-- All below n. -/
def allN (n : Nat) : Nat := Og.setOf (fun _ => true) n
theorem allN_eq (n : Nat) : allN n = 2 ^ n - 1 := by
  apply Nat.eq_of_testBit_eq
  intro j
  unfold allN
  rw [Og.tb_setOf, Nat.testBit_two_pow_sub_one]
  simp
theorem all_f {n : Nat} (hn : n ≤ 64) : bits_All.f (n : Int) = some ((allN n : Nat) : Int) := by
  unfold bits_All.f
  by_cases h0 : n = 0
  · subst h0
    rw [if_pos (by decide)]
    rfl
  · rw [if_neg (by omega), allN_eq]
    by_cases h1 : n = 64
    · subst h1
      rw [if_pos (by decide)]
      rfl
    · rw [if_neg (by omega), if_pos (by omega), Bt.shl_one (by omega)]
      have h2 : 1 ≤ 2 ^ n := Nat.one_le_two_pow
      have h3 := Bt.lt_pow (t := n) (by omega)
      rw [show ((2 ^ n : Nat) : Int) - 1 = ((2 ^ n - 1 : Nat) : Int) from by omega, Bt.wrapU (by omega)]
end Gc
end Go.Proofs.YtbfbegleffkafaaDoor.PCycleAgrees
