/- RingNil, walked: for every whole number it answers true. Conditions: none. -/
import Derived.Test.YtbnkanlfepdlkaaOkRingNil
import Derived.Test.YtbnkanlfepdlkaaRing9
namespace Go.Proofs.Ytbnkanlfepdlkaa.ringNilW
open Go.RowKit Go.Proofs.Ytbnkanlfepdlkaa.PRingNil Go.Proofs.YtbnkanlfepdlkaaW.PrintWords Go.Proofs.YtbnkanlfepdlkaaW.PrintLast Go.Proofs.YtbnkanlfepdlkaaW.PrintMore Ap Rg
set_option linter.unusedSimpArgs false
set_option linter.unusedVariables false
abbrev Qt (W : World) (v : Value) : Ending → World → Prop := fun e w' => e = .returned v ∧ ∃ k, w' = W.drewN k

theorem nil29 (W : World) : Calls Try.prog 29 #[.pointer none] W (Qt W (.int .i64 0)) := by
  go_enter Try.func29, Try.ntmps29
  go_wp2
  all_goals go_ret
  all_goals exact ⟨rfl, 0, rfl⟩
theorem nil50 (W : World) : Calls Try.prog 50 #[.pointer none] W (Qt W (.bool true)) := by
  go_enter Try.func50, Try.ntmps50
  go_wp2
  repeat (go_quiet (fail); try go_wp2)
  all_goals go_ret
  all_goals exact ⟨rfl, _, rfl⟩
theorem nil37 (W : World) (x : Int) : Calls Try.prog 37 #[.pointer none, .int .i64 x] W (Qt W (.tuple #[.int .i64 0, .bool false])) := by
  go_enter Try.func37, Try.ntmps37
  go_wp2
  all_goals go_ret2
  all_goals exact ⟨rfl, 0, rfl⟩
theorem nil28 (W : World) : Calls Try.prog 28 #[.pointer none] W (Qt W (.tuple #[.int .i64 0, .bool false])) := by
  go_enter Try.func28, Try.ntmps28
  go_wp2_with (first
    | (go_at_call 29; refine (nil29 _).mono ?_; rintro e w' ⟨rfl, k1, rfl⟩)
    | (go_at_call 37; refine (nil37 _ _).mono ?_; rintro e w' ⟨rfl, k2, rfl⟩))
  all_goals go_ret2
  all_goals exact ⟨rfl, _, rfl⟩
theorem nil26 (W : World) : Calls Try.prog 26 #[.pointer none] W (Qt W (.tuple #[.int .i64 0, .bool false])) := by
  go_enter Try.func26, Try.ntmps26
  go_wp2_with (first
    | (go_at_call 37; refine (nil37 _ _).mono ?_; rintro e w' ⟨rfl, k2, rfl⟩))
  all_goals go_ret2
  all_goals exact ⟨rfl, _, rfl⟩
theorem nil25 (W : World) (x : Int) : Calls Try.prog 25 #[.pointer none, .int .i64 x] W (Qt W (.bool false)) := by
  go_enter Try.func25, Try.ntmps25
  go_wp2_with (go_at_call 50; refine (nil50 _).mono ?_; rintro e w' ⟨rfl, k, rfl⟩)
  all_goals go_ret
  all_goals exact ⟨rfl, _, rfl⟩
theorem nil27 (W : World) (x : Int) : Calls Try.prog 27 #[.pointer none, .int .i64 x] W (Qt W (.bool false)) := by
  go_enter Try.func27, Try.ntmps27
  go_wp2_with (go_at_call 50; refine (nil50 _).mono ?_; rintro e w' ⟨rfl, k, rfl⟩)
  all_goals go_ret
  all_goals exact ⟨rfl, _, rfl⟩
theorem nil36 (W : World) : Calls Try.prog 36 #[.pointer none] W (Qt W (.pointer none)) := by
  go_enter Try.func36, Try.ntmps36
  go_wp2
  all_goals go_ret
  all_goals exact ⟨rfl, 0, rfl⟩
theorem zero35 (W : World) (v : Value) (h : ∀ k, Calls Try.prog 29 #[v] (W.drewN k) (Qt (W.drewN k) (.int .i64 0))) : Calls Try.prog 35 #[v] W (Qt W (.slice none 0 0)) := by
  go_enter Try.func35, Try.ntmps35
  go_wp2_with (go_at_call 29; refine (h 0).mono ?_; rintro e w' ⟨rfl, k1, rfl⟩)
  go_loopg [3, 7] 0 (fun d v3 v7 w' => v3 = .slice none 0 0 ∧ v7 = .int .i64 0 ∧ ∃ k, w' = W.drewN k)
  case atStart => exact ⟨rfl, rfl, _, rfl⟩
  case round =>
    obtain ⟨rfl, rfl, k, rfl⟩ := hrel
    go_wp2
    all_goals go_ret
    all_goals exact ⟨rfl, _, rfl⟩
/-- The zero row. -/
def Z (W : World) (g : Nat) : Prop := W.heap[g]? = some (.cells #[.slice none 0 0, .int .i64 0, .int .i64 0] 60 (0, 0))
section
variable {W : World} {g : Nat}
theorem Z.drewN (h : Z W g) (k : Nat) : Z (W.drewN k) g := h
theorem Z.c0 (h : Z W g) : W.cell? ⟨g, 0, none⟩ = some (.slice none 0 0) := (blk_cell h 0).trans rfl
theorem Z.c1 (h : Z W g) : W.cell? ⟨g, 1, none⟩ = some (.int .i64 0) := (blk_cell h 1).trans rfl
theorem Z.c2 (h : Z W g) : W.cell? ⟨g, 2, none⟩ = some (.int .i64 0) := (blk_cell h 2).trans rfl
theorem z29 (h : Z W g) : Calls Try.prog 29 #[.pointer (some ⟨g, 0, none⟩)] W (Qt W (.int .i64 0)) := by
  have c2 := h.c2
  go_enter Try.func29, Try.ntmps29
  go_wp2
  all_goals go_ret
  all_goals exact ⟨rfl, 0, rfl⟩
theorem z50 (h : Z W g) : Calls Try.prog 50 #[.pointer (some ⟨g, 0, none⟩)] W (Qt W (.bool true)) := by
  have c0 := h.c0
  have c2 := h.c2
  go_enter Try.func50, Try.ntmps50
  go_wp2
  repeat (go_quiet (fail); try go_wp2)
  all_goals go_ret
  all_goals exact ⟨rfl, _, rfl⟩
theorem z37 (h : Z W g) : Calls Try.prog 37 #[.pointer (some ⟨g, 0, none⟩), .int .i64 0] W (Qt W (.tuple #[.int .i64 0, .bool false])) := by
  have c2 := h.c2
  go_enter Try.func37, Try.ntmps37
  go_wp2
  all_goals go_ret2
  all_goals exact ⟨rfl, 0, rfl⟩
theorem z26 (h : Z W g) : Calls Try.prog 26 #[.pointer (some ⟨g, 0, none⟩)] W (Qt W (.tuple #[.int .i64 0, .bool false])) := by
  go_enter Try.func26, Try.ntmps26
  go_wp2_with (first
    | (go_at_call 37; refine (z37 h).mono ?_; rintro e w' ⟨rfl, k2, rfl⟩))
  all_goals go_ret2
  all_goals exact ⟨rfl, _, rfl⟩
theorem z25 (h : Z W g) (x : Int) : Calls Try.prog 25 #[.pointer (some ⟨g, 0, none⟩), .int .i64 x] W (Qt W (.bool false)) := by
  go_enter Try.func25, Try.ntmps25
  go_wp2_with (go_at_call 50; refine (z50 h).mono ?_; rintro e w' ⟨rfl, k, rfl⟩)
  all_goals go_ret
  all_goals exact ⟨rfl, _, rfl⟩
theorem z27 (h : Z W g) (x : Int) : Calls Try.prog 27 #[.pointer (some ⟨g, 0, none⟩), .int .i64 x] W (Qt W (.bool false)) := by
  go_enter Try.func27, Try.ntmps27
  go_wp2_with (go_at_call 50; refine (z50 h).mono ?_; rintro e w' ⟨rfl, k, rfl⟩)
  all_goals go_ret
  all_goals exact ⟨rfl, _, rfl⟩
end
set_option maxHeartbeats 4000000 in
set_option maxRecDepth 100000 in
theorem walk (a0 : Int) (w : World)  (w0 : (fun x => (Lit.int .i64 x).wf = true) a0) :
    Calls Try.prog 9 #[.int .i64 a0] w fun e w' => e = .returned (.bool true) ∧ Below w.heap.size w w' := by
  have hZ : Z (w.alloc (.cells #[.slice none 0 0, .int .i64 0, .int .i64 0] 60)) w.heap.size := heap_alloc_new w _
  have hB : Below w.heap.size w (w.alloc (.cells #[.slice none 0 0, .int .i64 0, .int .i64 0] 60)) := below_alloc (Below.refl _ _) _
  generalize hW : w.alloc (.cells #[.slice none 0 0, .int .i64 0, .int .i64 0] 60) = W1 at hZ hB
  have e1 : ∀ k, Calls Try.prog 30 #[] (W1.drewN k) fun e w'' => e = .returned (.bool true) ∧ Below w.heap.size w w'' := fun k => (lives_any (W1.drewN k)).mono fun e w'' ⟨q1, q2⟩ => ⟨q1, Below.trans (pw_below_drewN hB k) (below_mono q2 hB.size)⟩
  go_enter Try.func9, Try.ntmps9
  go_wp2_with (first
    | (go_at_call 28; with_reducible refine (nil28 _).mono ?_; rintro e w' ⟨rfl, k1, rfl⟩)
    | (go_at_call 26; with_reducible refine (nil26 _).mono ?_; rintro e w' ⟨rfl, k2, rfl⟩)
    | (go_at_call 37; with_reducible refine (nil37 _ _).mono ?_; rintro e w' ⟨rfl, k3, rfl⟩)
    | (go_at_call 26; with_reducible refine (z26 (hZ.drewN _)).mono ?_; rintro e w' ⟨rfl, k4, rfl⟩)
    | (go_at_call 25; with_reducible refine (nil25 _ _).mono ?_; rintro e w' ⟨rfl, k5, rfl⟩)
    | (go_at_call 27; with_reducible refine (nil27 _ _).mono ?_; rintro e w' ⟨rfl, k6, rfl⟩)
    | (go_at_call 25; with_reducible refine (z25 (hZ.drewN _) _).mono ?_; rintro e w' ⟨rfl, k7, rfl⟩)
    | (go_at_call 27; with_reducible refine (z27 (hZ.drewN _) _).mono ?_; rintro e w' ⟨rfl, k8, rfl⟩)
    | (go_at_call 29; with_reducible refine (nil29 _).mono ?_; rintro e w' ⟨rfl, k9, rfl⟩)
    | (go_at_call 29; with_reducible refine (z29 (hZ.drewN _)).mono ?_; rintro e w' ⟨rfl, ka, rfl⟩)
    | (go_at_call 35; with_reducible refine (zero35 _ (.pointer none) (fun k => nil29 _)).mono ?_; rintro e w' ⟨rfl, kb, rfl⟩)
    | (go_at_call 35; with_reducible refine (zero35 _ (.pointer (some ⟨w.heap.size, 0, none⟩)) (fun k => z29 ((hZ.drewN _).drewN _))).mono ?_; rintro e w' ⟨rfl, kc, rfl⟩)
    | (go_at_call 36; with_reducible refine (nil36 _).mono ?_; rintro e w' ⟨rfl, kd, rfl⟩)
    | (go_at_call 30; with_reducible refine (e1 _).mono ?_; rintro e w' ⟨rfl, hB7⟩))
  all_goals go_ret
  all_goals exact ⟨rfl, hB7⟩
end Go.Proofs.Ytbnkanlfepdlkaa.ringNilW
