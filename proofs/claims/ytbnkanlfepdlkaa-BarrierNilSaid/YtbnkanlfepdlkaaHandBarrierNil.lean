/- BarrierNil: for every whole number, the law's call answers true: what is asked of no barrier. Conditions: none. -/
import Derived.Test.YtbnkanlfepdlkaaPBarrierNilx2
import Derived.Test.YtbnkanlfepdlkaaOkBarrierNil
namespace Go.Proofs.Ytbnkanlfepdlkaa.barrierNilW
open Go.RowKit Go.Proofs.Ytbnkanlfepdlkaa.PBarrierNil Go.Proofs.YtbnkanlfepdlkaaW.PrintWords
theorem lives_true : logjamlaw19_lives.f = some true := by decide +kernel
theorem nil52 (t : Int) (w : World) : Calls Try.prog 52 #[.pointer none, .int .i64 t] w fun e w' => e = .returned (.bool true) ∧ w = w' := by
  go_enter Try.func52, Try.ntmps52
  go_wp2
  go_ret
  simp
theorem nil38 (t : Int) (w : World) : Calls Try.prog 38 #[.pointer none, .int .i64 t] w fun e w' => e = .returned (.int .i64 1) ∧ w = w' := by
  go_enter Try.func38, Try.ntmps38
  go_wp2_with (go_at_call 52; refine (nil52 _ _).mono ?_; rintro e w' ⟨rfl, rfl⟩)
  go_ret
  simp
theorem nil47 (t : Int) (w : World) : Calls Try.prog 47 #[.pointer none, .int .i64 t] w fun e w' => e = .returned (.tuple #[.int .u64 0, .int .i64 1]) ∧ w = w' := by
  go_enter Try.func47, Try.ntmps47
  go_wp2_with (go_at_call 52; refine (nil52 _ _).mono ?_; rintro e w' ⟨rfl, rfl⟩)
  go_ret2
  simp
theorem nil39 (t : Int) (w : World) : Calls Try.prog 39 #[.pointer none, .int .i64 t] w fun e w' => e = .returned (.tuple #[.int .u64 0, .bool false, .int .i64 1]) ∧ w = w' := by
  go_enter Try.func39, Try.ntmps39
  go_wp2_with (go_at_call 52; refine (nil52 _ _).mono ?_; rintro e w' ⟨rfl, rfl⟩)
  go_ret3
  simp
theorem nil48 (t : Int) (w : World) : Calls Try.prog 48 #[.pointer none, .int .i64 t] w fun e w' => e = .returned (.tuple #[.int .u64 0, .bool false]) ∧ w = w' := by
  go_enter Try.func48, Try.ntmps48
  go_wp2_with (go_at_call 52; refine (nil52 _ _).mono ?_; rintro e w' ⟨rfl, rfl⟩)
  go_ret2
  simp
theorem nil49 (t : Int) (w : World) : Calls Try.prog 49 #[.pointer none, .int .i64 t] w fun e w' => e = .returned (.bool false) ∧ w = w' := by
  go_enter Try.func49, Try.ntmps49
  go_wp2_with (go_at_call 52; refine (nil52 _ _).mono ?_; rintro e w' ⟨rfl, rfl⟩)
  go_ret
  simp
theorem nil40 (w : World) : Calls Try.prog 40 #[.pointer none] w fun e w' => e = .returned (.int .u64 0) ∧ w = w' := by
  go_enter Try.func40, Try.ntmps40
  go_wp2
  go_ret
  simp
theorem nil41 (w : World) : Calls Try.prog 41 #[.pointer none] w fun e w' => e = .returned (.int .u64 0) ∧ w = w' := by
  go_enter Try.func41, Try.ntmps41
  go_wp2
  go_ret
  simp
theorem nil45 (w : World) : Calls Try.prog 45 #[.pointer none] w fun e w' => e = .returned (.int .u64 0) ∧ w = w' := by
  go_enter Try.func45, Try.ntmps45
  go_wp2
  go_ret
  simp
set_option maxHeartbeats 1600000 in
theorem walk (a0 : Int) (w : World) (_w0 : (fun x => (Lit.int .i64 x).wf = true) a0) : Calls Try.prog 13 #[.int .i64 a0] w fun e w' => e = .returned (.bool true) ∧ Below w.heap.size w w' := by
  go_enter Try.func13, Try.ntmps13
  go_wp2_with (first
    | (go_at_call 38; refine (nil38 _ _).mono ?_; rintro e w' ⟨rfl, rfl⟩)
    | (go_at_call 47; refine (nil47 _ _).mono ?_; rintro e w' ⟨rfl, rfl⟩)
    | (go_at_call 39; refine (nil39 _ _).mono ?_; rintro e w' ⟨rfl, rfl⟩)
    | (go_at_call 48; refine (nil48 _ _).mono ?_; rintro e w' ⟨rfl, rfl⟩)
    | (go_at_call 49; refine (nil49 _ _).mono ?_; rintro e w' ⟨rfl, rfl⟩)
    | (go_at_call 40; refine (nil40 _).mono ?_; rintro e w' ⟨rfl, rfl⟩)
    | (go_at_call 41; refine (nil41 _).mono ?_; rintro e w' ⟨rfl, rfl⟩)
    | (go_at_call 45; refine (nil45 _).mono ?_; rintro e w' ⟨rfl, rfl⟩)
    | (go_at_call 42; refine (logjamlaw19_lives.calls true _ lives_true).mono ?_; rintro e w' ⟨rfl, hb⟩))
  go_ret
  exact ⟨rfl, hb⟩
end Go.Proofs.Ytbnkanlfepdlkaa.barrierNilW
