/- Rights: what is not there. Conditions: none. -/
import Derived.Test.YtjcjhmnfknenlaaDoorRt8
namespace Go.Proofs.YtjcjhmnfknenlaaDoor.Rt
open Go.RowKit Go.Proofs.YtjcjhmnfknenlaaDoor.PRightNil Go.Proofs.YtjcjhmnfknenlaaDoorW.PrintWords Go.Proofs.YtjcjhmnfknenlaaDoorW.PrintLast
set_option linter.unusedVariables false
set_option linter.unusedSimpArgs false

set_option maxRecDepth 100000 in
theorem of_nil (W : World) (t : Int) : Calls Tryd.prog 11 #[.pointer none, .int .i64 t] W fun e w' => e = .returned (.int .u64 0) ∧ w' = W := by
  go_enter Tryd.func11, Tryd.ntmps11
  go_wp2
  go_ret
  exact ⟨rfl, rfl⟩
set_option maxRecDepth 100000 in
theorem who_nil (W : World) (t : Int) : Calls Tryd.prog 13 #[.pointer none, .int .i64 t] W fun e w' => e = .returned (.int .u64 0) ∧ w' = W := by
  go_enter Tryd.func13, Tryd.ntmps13
  go_wp2
  go_ret
  exact ⟨rfl, rfl⟩
set_option maxRecDepth 100000 in
theorem has_nil (W : World) (t o : Int) : Calls Tryd.prog 15 #[.pointer none, .int .i64 t, .int .i64 o] W fun e w' => e = .returned (.bool false) ∧ w' = W := by
  go_enter Tryd.func15, Tryd.ntmps15
  go_wp2
  go_ret
  exact ⟨rfl, rfl⟩
set_option maxRecDepth 100000 in
theorem root_nil (W : World) (t : Int) : Calls Tryd.prog 17 #[.pointer none, .int .i64 t] W fun e w' => e = .returned (.tuple #[]) ∧ w' = W := by
  go_enter Tryd.func17, Tryd.ntmps17
  go_wp2
  refine bodyPost_end (results_none rfl _ _ _) rfl ?_
  exact ⟨rfl, rfl⟩
set_option maxRecDepth 100000 in
theorem waive_nil (W : World) (t s : Int) : Calls Tryd.prog 20 #[.pointer none, .int .i64 t, .int .u64 s] W fun e w' => e = .returned (.tuple #[]) ∧ w' = W := by
  go_enter Tryd.func20, Tryd.ntmps20
  go_wp2
  first
    | (refine bodyPost_end (results_none rfl _ _ _) rfl ?_; exact ⟨rfl, rfl⟩)
    | (go_ret; exact ⟨rfl, rfl⟩)
    | (refine bodyPost_ret (results_none rfl _ _ _) rfl ?_; exact ⟨rfl, rfl⟩)
set_option maxRecDepth 100000 in
theorem clear_nil (W : World) (t : Int) : Calls Tryd.prog 21 #[.pointer none, .int .i64 t] W fun e w' => e = .returned (.tuple #[]) ∧ w' = W := by
  go_enter Tryd.func21, Tryd.ntmps21
  go_wp2_with (first
    | (go_at_call 11; refine (of_nil _ _).mono ?_; rintro e w2 ⟨rfl, rfl⟩)
    | (go_at_call 20; refine (waive_nil _ _ _).mono ?_; rintro e w3 ⟨rfl, rfl⟩))
  refine bodyPost_end (results_none rfl _ _ _) rfl ?_
  exact ⟨rfl, rfl⟩
set_option maxRecDepth 100000 in
theorem give_nil (W : World) (f t s : Int) : Calls Tryd.prog 19 #[.pointer none, .int .i64 f, .int .i64 t, .int .u64 s] W fun e w' => e = .returned (.tuple #[]) ∧ w' = W := by
  go_enter Tryd.func19, Tryd.ntmps19
  go_wp2
  refine bodyPost_end (results_none rfl _ _ _) rfl ?_
  exact ⟨rfl, rfl⟩
set_option maxRecDepth 100000 in
theorem child_nil (W : World) (f t s : Int) : Calls Tryd.prog 18 #[.pointer none, .int .i64 f, .int .i64 t, .int .u64 s] W fun e w' => e = .returned (.tuple #[]) ∧ w' = W := by
  go_enter Tryd.func18, Tryd.ntmps18
  go_wp2
  first
    | (refine bodyPost_end (results_none rfl _ _ _) rfl ?_; exact ⟨rfl, rfl⟩)
    | (go_ret; exact ⟨rfl, rfl⟩)
    | (refine bodyPost_ret (results_none rfl _ _ _) rfl ?_; exact ⟨rfl, rfl⟩)
set_option maxHeartbeats 4000000 in
set_option maxRecDepth 100000 in
theorem do_nil (W : World) (k f t s : Int) : Calls Tryd.prog 8 #[.pointer none, .agg #[.int .i64 k, .int .i64 f, .int .i64 t, .int .u64 s]] W fun e w' => e = .returned (.tuple #[]) ∧ Below W.heap.size W w' := by
  have hu31 := Tryd.underlying31
  cases d0 : (k == 0) with
  | true =>
    go_enter Tryd.func8, Tryd.ntmps8
    go_wp2_with (first
      | ((with_reducible refine gate_dst (N := 3) rfl ?_); refine box_event ?hg (N := 3) ?hd (cs := #[.int .i64 k, .int .i64 f, .int .i64 t, .int .u64 s]) (t := 31) ?hr ?_; (case hd => rfl); (case hg => rfl); (case hr => first | (go_simp; done) | (go_simp; rfl)); intro gb hg w2 hbox hb; have HB := Aside0.mk hb; have x0 : w2.cell? ⟨gb, 0, none⟩ = some (.int .i64 k) := (blk_cell hbox 0).trans rfl; have x1 : w2.cell? ⟨gb, 1, none⟩ = some (.int .i64 f) := (blk_cell hbox 1).trans rfl; have x2 : w2.cell? ⟨gb, 2, none⟩ = some (.int .i64 t) := (blk_cell hbox 2).trans rfl; have x3 : w2.cell? ⟨gb, 3, none⟩ = some (.int .u64 s) := (blk_cell hbox 3).trans rfl; clear hbox hb hg)
      | (go_at_call 17; (refine (root_nil _ _).mono ?_); rintro e w3 ⟨rfl, rfl⟩))
    refine bodyPost_end (results_none rfl _ _ _) rfl ?_
    exact ⟨rfl, HB.out⟩
  | false =>
    cases d1 : (k == 1) with
    | true =>
      go_enter Tryd.func8, Tryd.ntmps8
      go_wp2_with (first
        | ((with_reducible refine gate_dst (N := 3) rfl ?_); refine box_event ?hg (N := 3) ?hd (cs := #[.int .i64 k, .int .i64 f, .int .i64 t, .int .u64 s]) (t := 31) ?hr ?_; (case hd => rfl); (case hg => rfl); (case hr => first | (go_simp; done) | (go_simp; rfl)); intro gb hg w2 hbox hb; have HB := Aside0.mk hb; have x0 : w2.cell? ⟨gb, 0, none⟩ = some (.int .i64 k) := (blk_cell hbox 0).trans rfl; have x1 : w2.cell? ⟨gb, 1, none⟩ = some (.int .i64 f) := (blk_cell hbox 1).trans rfl; have x2 : w2.cell? ⟨gb, 2, none⟩ = some (.int .i64 t) := (blk_cell hbox 2).trans rfl; have x3 : w2.cell? ⟨gb, 3, none⟩ = some (.int .u64 s) := (blk_cell hbox 3).trans rfl; clear hbox hb hg)
        | (go_at_call 18; (refine (child_nil _ _ _ _).mono ?_); rintro e w3 ⟨rfl, rfl⟩))
      refine bodyPost_end (results_none rfl _ _ _) rfl ?_
      exact ⟨rfl, HB.out⟩
    | false =>
      cases d2 : (k == 2) with
      | true =>
        go_enter Tryd.func8, Tryd.ntmps8
        go_wp2_with (first
          | ((with_reducible refine gate_dst (N := 3) rfl ?_); refine box_event ?hg (N := 3) ?hd (cs := #[.int .i64 k, .int .i64 f, .int .i64 t, .int .u64 s]) (t := 31) ?hr ?_; (case hd => rfl); (case hg => rfl); (case hr => first | (go_simp; done) | (go_simp; rfl)); intro gb hg w2 hbox hb; have HB := Aside0.mk hb; have x0 : w2.cell? ⟨gb, 0, none⟩ = some (.int .i64 k) := (blk_cell hbox 0).trans rfl; have x1 : w2.cell? ⟨gb, 1, none⟩ = some (.int .i64 f) := (blk_cell hbox 1).trans rfl; have x2 : w2.cell? ⟨gb, 2, none⟩ = some (.int .i64 t) := (blk_cell hbox 2).trans rfl; have x3 : w2.cell? ⟨gb, 3, none⟩ = some (.int .u64 s) := (blk_cell hbox 3).trans rfl; clear hbox hb hg)
          | (go_at_call 19; (refine (give_nil _ _ _ _).mono ?_); rintro e w3 ⟨rfl, rfl⟩))
        refine bodyPost_end (results_none rfl _ _ _) rfl ?_
        exact ⟨rfl, HB.out⟩
      | false =>
        cases d3 : (k == 3) with
        | true =>
          go_enter Tryd.func8, Tryd.ntmps8
          go_wp2_with (first
            | ((with_reducible refine gate_dst (N := 3) rfl ?_); refine box_event ?hg (N := 3) ?hd (cs := #[.int .i64 k, .int .i64 f, .int .i64 t, .int .u64 s]) (t := 31) ?hr ?_; (case hd => rfl); (case hg => rfl); (case hr => first | (go_simp; done) | (go_simp; rfl)); intro gb hg w2 hbox hb; have HB := Aside0.mk hb; have x0 : w2.cell? ⟨gb, 0, none⟩ = some (.int .i64 k) := (blk_cell hbox 0).trans rfl; have x1 : w2.cell? ⟨gb, 1, none⟩ = some (.int .i64 f) := (blk_cell hbox 1).trans rfl; have x2 : w2.cell? ⟨gb, 2, none⟩ = some (.int .i64 t) := (blk_cell hbox 2).trans rfl; have x3 : w2.cell? ⟨gb, 3, none⟩ = some (.int .u64 s) := (blk_cell hbox 3).trans rfl; clear hbox hb hg)
            | (go_at_call 20; (refine (waive_nil _ _ _).mono ?_); rintro e w3 ⟨rfl, rfl⟩))
          refine bodyPost_end (results_none rfl _ _ _) rfl ?_
          exact ⟨rfl, HB.out⟩
        | false =>
          go_enter Tryd.func8, Tryd.ntmps8
          go_wp2_with (first
            | ((with_reducible refine gate_dst (N := 3) rfl ?_); refine box_event ?hg (N := 3) ?hd (cs := #[.int .i64 k, .int .i64 f, .int .i64 t, .int .u64 s]) (t := 31) ?hr ?_; (case hd => rfl); (case hg => rfl); (case hr => first | (go_simp; done) | (go_simp; rfl)); intro gb hg w2 hbox hb; have HB := Aside0.mk hb; have x0 : w2.cell? ⟨gb, 0, none⟩ = some (.int .i64 k) := (blk_cell hbox 0).trans rfl; have x1 : w2.cell? ⟨gb, 1, none⟩ = some (.int .i64 f) := (blk_cell hbox 1).trans rfl; have x2 : w2.cell? ⟨gb, 2, none⟩ = some (.int .i64 t) := (blk_cell hbox 2).trans rfl; have x3 : w2.cell? ⟨gb, 3, none⟩ = some (.int .u64 s) := (blk_cell hbox 3).trans rfl; clear hbox hb hg)
            | (go_at_call 21; (refine (clear_nil _ _).mono ?_); rintro e w3 ⟨rfl, rfl⟩))
          refine bodyPost_end (results_none rfl _ _ _) rfl ?_
          exact ⟨rfl, HB.out⟩
end Go.Proofs.YtjcjhmnfknenlaaDoor.Rt
