/- Timers: Clone. Conditions: none. -/
import Derived.Test.YtlggjacghemakaaTr2
import Derived.Shelf.SlMaps.Clone
namespace Go.Proofs.Ytlggjacghemakaa.Tm
open Go.RowKit Go.Proofs.YtlggjacghemakaaW.PrintWords Go.Proofs.YtlggjacghemakaaW.PrintLast
set_option linter.unusedVariables false
set_option linter.unusedSimpArgs false
set_option maxHeartbeats 2000000 in
theorem clone_nil (W : World) : Calls Try.prog 42 #[.map none] W fun e w' => e = .returned (.map none) ∧ w' = W := by
  have hq := fun w => run_eql_map_nil (P := Try.prog) w 26 3 3 none Try.underlying26
  go_enter Try.func42, Try.ntmps42
  go_wp2
  go_ret
  exact ⟨rfl, rfl⟩
set_option maxHeartbeats 2000000 in
theorem clone_map {W : World} {b : Nat} {es : Array MapEntry} {cl : Nat} (hb : W.heap[b]? = some (.map es cl)) : Calls Try.prog 42 #[.map (some b)] W fun e w' => e = .returned (.map (some W.heap.size)) ∧ w' = W.alloc (.map es cl) := by
  have hq := fun w => run_eql_map_nil (P := Try.prog) w 26 3 3 (some b) Try.underlying26
  have hu26 := Try.underlying26
  have hu20 := Try.underlying20
  go_enter Try.func42, Try.ntmps42
  go_wp2
  rw [run_callFunc_extern Try.func56 (by kernel_rfl) (by kernel_rfl) (by kernel_rfl) (e := Extern.MapsClone.clone) (by kernel_rfl), run_maps_clone_sl W 26 hb]
  simp only [Result.andThen]
  rw [Oper.upon_value]
  go_wp2
  rw [run_typeAssert_map_sl _ 26 20 _ _ _ Try.underlying26]
  simp only [Result.andThen]
  rw [Oper.upon_value]
  go_wp2
  go_ret
  exact ⟨rfl, rfl⟩
end Go.Proofs.Ytlggjacghemakaa.Tm
