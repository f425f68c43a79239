/- TimerNil, walked: for every two whole numbers it answers true. Conditions: none. -/
import Derived.Test.YtlggjacghemakaaOkTimerNil
import Derived.Test.YtlggjacghemakaaTr2
namespace Go.Proofs.Ytlggjacghemakaa.timerNilW
open Go.RowKit Go.Proofs.YtlggjacghemakaaW.PrintWords Go.Proofs.YtlggjacghemakaaW.PrintLast Tm
set_option linter.unusedSimpArgs false
set_option linter.unusedVariables false
theorem nil15 (W : World) : Calls Try.prog 15 #[.pointer none] W fun e w' => e = .returned (.int .i64 0) ∧ w' = W := by
  go_enter Try.func15, Try.ntmps15
  go_wp2
  go_ret
  exact ⟨rfl, rfl⟩
theorem nil10 (W : World) (a b : Int) : Calls Try.prog 10 #[.pointer none, .int .i64 a, .int .i64 b] W fun e w' => e = .returned (.tuple #[]) ∧ w' = W := by
  go_enter Try.func10, Try.ntmps10
  go_wp2
  refine bodyPost_ret (results_none rfl _ _ _) rfl ?_
  exact ⟨rfl, rfl⟩
theorem nil20 (W : World) : Calls Try.prog 20 #[.pointer none] W fun e w' => e = .returned (.tuple #[.int .i64 0, .int .i64 0, .bool false]) ∧ w' = W := by
  go_enter Try.func20, Try.ntmps20
  go_wp2_with (go_at_call 15; refine (nil15 _).mono ?_; rintro e w' ⟨rfl, rfl⟩)
  refine bodyPost_ret (results_tmp3 rfl _ _ _) rfl ?_
  exact ⟨rfl, rfl⟩
theorem nil21 (W : World) (a : Int) : Calls Try.prog 21 #[.pointer none, .int .i64 a] W fun e w' => e = .returned (.tuple #[.int .i64 0, .bool false]) ∧ w' = W := by
  go_enter Try.func21, Try.ntmps21
  go_wp2
  refine bodyPost_ret (results_tmp2 rfl _ _ _) rfl ?_
  exact ⟨rfl, rfl⟩
theorem nil22 (W : World) (a : Int) : Calls Try.prog 22 #[.pointer none, .int .i64 a] W fun e w' => e = .returned (.bool false) ∧ w' = W := by
  go_enter Try.func22, Try.ntmps22
  go_wp2
  go_ret
  exact ⟨rfl, rfl⟩
theorem nil19 (W : World) : Calls Try.prog 19 #[.pointer none] W fun e w' => e = .returned (.pointer none) ∧ w' = W := by
  go_enter Try.func19, Try.ntmps19
  go_wp2
  go_ret
  exact ⟨rfl, rfl⟩
set_option maxHeartbeats 2000000 in
theorem nil12 (W : World) (a : Int) : Calls Try.prog 12 #[.pointer none, .int .i64 a] W fun e w' => e = .returned (.slice none 0 0) ∧ w' = W := by
  go_enter Try.func12, Try.ntmps12
  go_wp2
  go_loopg [5] 0 (fun _ v5 w' => v5 = .slice none 0 0 ∧ w' = W)
  case atStart => exact ⟨rfl, rfl⟩
  case round =>
    obtain ⟨rfl, rfl⟩ := hrel
    go_wp2_with (go_at_call 15; refine (nil15 _).mono ?_; rintro e w' ⟨rfl, rfl⟩)
    go_ret
    exact ⟨rfl, rfl⟩
set_option maxHeartbeats 4000000 in
theorem walk (a0 : Int) (a1 : Int) (w : World)  (w0 : (fun x => (Lit.int .i64 x).wf = true) a0) (w1 : (fun x => (Lit.int .i64 x).wf = true) a1) :
    Calls Try.prog 6 #[.int .i64 a0, .int .i64 a1] w fun e w' => e = .returned (.bool true) ∧ Below w.heap.size w w' := by
  go_enter Try.func6, Try.ntmps6
  go_wp2_with (first
    | (go_at_call 10; refine (nil10 _ _ _).mono ?_; rintro e w' ⟨rfl, rfl⟩)
    | (go_at_call 20; refine (nil20 _).mono ?_; rintro e w' ⟨rfl, rfl⟩)
    | (go_at_call 21; refine (nil21 _ _).mono ?_; rintro e w' ⟨rfl, rfl⟩)
    | (go_at_call 22; refine (nil22 _ _).mono ?_; rintro e w' ⟨rfl, rfl⟩)
    | (go_at_call 12; refine (nil12 _ _).mono ?_; rintro e w' ⟨rfl, rfl⟩)
    | (go_at_call 15; refine (nil15 _).mono ?_; rintro e w' ⟨rfl, rfl⟩)
    | (go_at_call 19; refine (nil19 _).mono ?_; rintro e w' ⟨rfl, rfl⟩)
    | (go_at_call 16; refine (lives_any _).mono ?_; rintro e w9 ⟨rfl, hb⟩; have HB := Aside0.mk hb; clear hb))
  go_ret
  exact ⟨rfl, HB.out⟩
end Go.Proofs.Ytlggjacghemakaa.timerNilW
