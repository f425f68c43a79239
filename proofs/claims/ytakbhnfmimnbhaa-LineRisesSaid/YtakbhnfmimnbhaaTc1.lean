/- Timers: Clone. Conditions: none. -/
import Derived.Test.YtakbhnfmimnbhaaTr1
import Derived.Shelf.SlMaps.Clone
namespace Go.Proofs.Ytakbhnfmimnbhaa.Tm
open Go.RowKit Go.Proofs.YtakbhnfmimnbhaaW.PrintWords Go.Proofs.YtakbhnfmimnbhaaW.PrintLast
set_option linter.unusedVariables false
set_option linter.unusedSimpArgs false
variable {sh : Shp}
set_option maxHeartbeats 2000000 in
theorem clone_nil (W : World) : Calls Try.prog 94 #[.map none] W fun e w' => e = .returned (.map none) ∧ w' = W := by
  have hq := fun w => run_eql_map_nil (P := Try.prog) w 40 3 3 none Try.underlying40
  go_enter Try.func94, Try.ntmps94
  go_wp2
  go_ret
  exact ⟨rfl, rfl⟩
set_option maxHeartbeats 2000000 in
set_option maxRecDepth 100000 in
theorem clone_map {W : World} {b : Nat} {es : Array MapEntry} {cl : Nat} (hb : W.heap[b]? = some (.map es cl)) : Calls Try.prog 94 #[.map (some b)] W fun e w' => e = .returned (.map (some W.heap.size)) ∧ w' = W.alloc (.map es cl) := by
  have hq := fun w => run_eql_map_nil (P := Try.prog) w 40 3 3 (some b) Try.underlying40
  have hu26 := Try.underlying40
  have hu20 := Try.underlying20
  go_enter Try.func94, Try.ntmps94
  go_wp2
  rw [run_callFunc_extern Try.func104 (by kernel_rfl) (by kernel_rfl) (by kernel_rfl) (e := Extern.MapsClone.clone) (by kernel_rfl), run_maps_clone_sl W 40 hb]
  simp only [Result.andThen]
  rw [Oper.upon_value]
  go_wp2
  rw [run_typeAssert_map_sl _ 40 20 _ _ _ Try.underlying40]
  simp only [Result.andThen]
  rw [Oper.upon_value]
  go_wp2
  go_ret
  exact ⟨rfl, rfl⟩
end Go.Proofs.Ytakbhnfmimnbhaa.Tm
