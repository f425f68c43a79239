/- Rights: a call of the law's. Conditions: none. -/
import Derived.Test.YtjcjhmnfknenlaaDoorRt6
namespace Go.Proofs.YtjcjhmnfknenlaaDoor.Rt
open Go.RowKit Go.Proofs.YtjcjhmnfknenlaaDoor.PRightNil Go.Proofs.YtjcjhmnfknenlaaDoorW.PrintWords Go.Proofs.YtjcjhmnfknenlaaDoorW.PrintLast
open Ch (Chg)
set_option linter.unusedVariables false
set_option linter.unusedSimpArgs false

def doP (p : Int → Int → Bool) (k f t : Int) (s : Nat) : Int → Int → Bool :=
  if k = 0 then adds p t (Gr.low 4294967295 64) else if k = 1 then adds (clr p t) t (Gr.low (ofS p f &&& s) 64) else if k = 2 then adds p t (Gr.low (ofS p f &&& s) 64) else if k = 3 then dels p t (Gr.low s 64) else clr p t
set_option maxHeartbeats 4000000 in
set_option maxRecDepth 100000 in
theorem do_any {W : World} {g N : Nat} {m : Option Nat} {p : Int → Int → Bool} {k f t : Int} (wf : Wf f) (wt : Wf t) {s : Nat} (hs : s < Bt.top) (hN : N ≤ 1000000) (hg0 : g ≠ 0) (hm0 : m ≠ some 0) (hT : Tb.Tab W) (hA : At W g m N p) :
    Calls Tryd.prog 8 #[.pointer (some ⟨g, 0, none⟩), .agg #[.int .i64 k, .int .i64 f, .int .i64 t, .int .u64 (s : Int)]] W fun e w' => e = .returned (.tuple #[]) ∧ Left W w' g (N + 64) m (doP p k f t s) := by
  have hu31 := Tryd.underlying31
  have HS := Aside0.mk (fun w1 w2 (h1 : Below W.heap.size W w1) (q : Int → Int → Bool) (h2 : Left w1 w2 g (N + 64) m q) => Left.step (Chg.of_below h1) (fun b hb => .inl hb) h2 (Nat.le_refl _))
  have HAT := Aside0.mk (fun w1 (h1 : Below W.heap.size W w1) => hA.below h1)
  have HTT := Aside0.mk (fun w1 (h1 : Below W.heap.size W w1) => Tb.below hT h1)
  have H0 := Aside0.mk (fun w1 h1 => root_any wt hN hg0 (HTT.out w1 h1) (HAT.out w1 h1))
  have H1 := Aside0.mk (fun w1 h1 => child_any wf wt hs hN hg0 hm0 (HTT.out w1 h1) (HAT.out w1 h1))
  have H2 := Aside0.mk (fun w1 h1 => give_any wf wt hs hN hg0 (HTT.out w1 h1) (HAT.out w1 h1))
  have H3 := Aside0.mk (fun w1 h1 => waive_any wt hs (HTT.out w1 h1) (HAT.out w1 h1))
  have H4 := Aside0.mk (fun w1 h1 => clear_any wt (HTT.out w1 h1) (HAT.out w1 h1))
  clear hA hT wf wt hs hN
  have box1 : True := trivial
  by_cases k0 : k = 0
  · have HP := Aside0.mk (show doP p k f t s = adds p t (Gr.low 4294967295 64) from by unfold doP; rw [if_pos k0])
    have d0 : (k == 0) = true := beq_iff_eq.2 k0
    clear k0
    generalize doP p k f t s = q at *
    go_enter Tryd.func8, Tryd.ntmps8
    go_wp2_with (first
      | ((with_reducible refine gate_dst (N := 3) rfl ?_); refine box_event ?hg (N := 3) ?hd (cs := #[.int .i64 k, .int .i64 f, .int .i64 t, .int .u64 (s : Int)]) (t := 31) ?hr ?_; (case hd => rfl); (case hg => rfl); (case hr => first | (go_simp; done) | (go_simp; rfl)); intro gb hg w2 hbox hb; have HB := Aside0.mk hb; have x0 : w2.cell? ⟨gb, 0, none⟩ = some (.int .i64 k) := (blk_cell hbox 0).trans rfl; have x1 : w2.cell? ⟨gb, 1, none⟩ = some (.int .i64 f) := (blk_cell hbox 1).trans rfl; have x2 : w2.cell? ⟨gb, 2, none⟩ = some (.int .i64 t) := (blk_cell hbox 2).trans rfl; have x3 : w2.cell? ⟨gb, 3, none⟩ = some (.int .u64 (s : Int)) := (blk_cell hbox 3).trans rfl; clear hbox hb hg)
      | (go_at_call 17; (refine (H0.out _ HB.out).mono ?_); rintro e w3 ⟨rfl, h1⟩; have HL := Aside0.mk (HS.out _ _ HB.out _ h1); clear h1))
    refine bodyPost_end (results_none rfl _ _ _) rfl ?_
    exact ⟨rfl, by rw [HP.out]; exact HL.out⟩
  · have d0 : (k == 0) = false := beq_eq_false_iff_ne.2 k0
    by_cases k1 : k = 1
    · have HP := Aside0.mk (show doP p k f t s = adds (clr p t) t (Gr.low (ofS p f &&& s) 64) from by unfold doP; rw [if_neg k0, if_pos k1])
      have d1 : (k == 1) = true := beq_iff_eq.2 k1
      clear k0 k1
      generalize doP p k f t s = q at *
      go_enter Tryd.func8, Tryd.ntmps8
      go_wp2_with (first
        | ((with_reducible refine gate_dst (N := 3) rfl ?_); refine box_event ?hg (N := 3) ?hd (cs := #[.int .i64 k, .int .i64 f, .int .i64 t, .int .u64 (s : Int)]) (t := 31) ?hr ?_; (case hd => rfl); (case hg => rfl); (case hr => first | (go_simp; done) | (go_simp; rfl)); intro gb hg w2 hbox hb; have HB := Aside0.mk hb; have x0 : w2.cell? ⟨gb, 0, none⟩ = some (.int .i64 k) := (blk_cell hbox 0).trans rfl; have x1 : w2.cell? ⟨gb, 1, none⟩ = some (.int .i64 f) := (blk_cell hbox 1).trans rfl; have x2 : w2.cell? ⟨gb, 2, none⟩ = some (.int .i64 t) := (blk_cell hbox 2).trans rfl; have x3 : w2.cell? ⟨gb, 3, none⟩ = some (.int .u64 (s : Int)) := (blk_cell hbox 3).trans rfl; clear hbox hb hg)
        | (go_at_call 18; (refine (H1.out _ HB.out).mono ?_); rintro e w3 ⟨rfl, h1⟩; have HL := Aside0.mk (HS.out _ _ HB.out _ h1); clear h1))
      refine bodyPost_end (results_none rfl _ _ _) rfl ?_
      exact ⟨rfl, by rw [HP.out]; exact HL.out⟩
    · have d1 : (k == 1) = false := beq_eq_false_iff_ne.2 k1
      by_cases k2 : k = 2
      · have HP := Aside0.mk (show doP p k f t s = adds p t (Gr.low (ofS p f &&& s) 64) from by unfold doP; rw [if_neg k0, if_neg k1, if_pos k2])
        have d2 : (k == 2) = true := beq_iff_eq.2 k2
        clear k0 k1 k2
        generalize doP p k f t s = q at *
        go_enter Tryd.func8, Tryd.ntmps8
        go_wp2_with (first
          | ((with_reducible refine gate_dst (N := 3) rfl ?_); refine box_event ?hg (N := 3) ?hd (cs := #[.int .i64 k, .int .i64 f, .int .i64 t, .int .u64 (s : Int)]) (t := 31) ?hr ?_; (case hd => rfl); (case hg => rfl); (case hr => first | (go_simp; done) | (go_simp; rfl)); intro gb hg w2 hbox hb; have HB := Aside0.mk hb; have x0 : w2.cell? ⟨gb, 0, none⟩ = some (.int .i64 k) := (blk_cell hbox 0).trans rfl; have x1 : w2.cell? ⟨gb, 1, none⟩ = some (.int .i64 f) := (blk_cell hbox 1).trans rfl; have x2 : w2.cell? ⟨gb, 2, none⟩ = some (.int .i64 t) := (blk_cell hbox 2).trans rfl; have x3 : w2.cell? ⟨gb, 3, none⟩ = some (.int .u64 (s : Int)) := (blk_cell hbox 3).trans rfl; clear hbox hb hg)
          | (go_at_call 19; (refine (H2.out _ HB.out).mono ?_); rintro e w3 ⟨rfl, h1⟩; have HL := Aside0.mk (HS.out _ _ HB.out _ h1); clear h1))
        refine bodyPost_end (results_none rfl _ _ _) rfl ?_
        exact ⟨rfl, by rw [HP.out]; exact HL.out⟩
      · have d2 : (k == 2) = false := beq_eq_false_iff_ne.2 k2
        by_cases k3 : k = 3
        · have HP := Aside0.mk (show doP p k f t s = dels p t (Gr.low s 64) from by unfold doP; rw [if_neg k0, if_neg k1, if_neg k2, if_pos k3])
          have d3 : (k == 3) = true := beq_iff_eq.2 k3
          clear k0 k1 k2 k3
          generalize doP p k f t s = q at *
          go_enter Tryd.func8, Tryd.ntmps8
          go_wp2_with (first
            | ((with_reducible refine gate_dst (N := 3) rfl ?_); refine box_event ?hg (N := 3) ?hd (cs := #[.int .i64 k, .int .i64 f, .int .i64 t, .int .u64 (s : Int)]) (t := 31) ?hr ?_; (case hd => rfl); (case hg => rfl); (case hr => first | (go_simp; done) | (go_simp; rfl)); intro gb hg w2 hbox hb; have HB := Aside0.mk hb; have x0 : w2.cell? ⟨gb, 0, none⟩ = some (.int .i64 k) := (blk_cell hbox 0).trans rfl; have x1 : w2.cell? ⟨gb, 1, none⟩ = some (.int .i64 f) := (blk_cell hbox 1).trans rfl; have x2 : w2.cell? ⟨gb, 2, none⟩ = some (.int .i64 t) := (blk_cell hbox 2).trans rfl; have x3 : w2.cell? ⟨gb, 3, none⟩ = some (.int .u64 (s : Int)) := (blk_cell hbox 3).trans rfl; clear hbox hb hg)
            | (go_at_call 20; (refine (H3.out _ HB.out).mono ?_); rintro e w3 ⟨rfl, h1, h2⟩; have HL := Aside0.mk (HS.out _ _ HB.out _ (Left.of_at (h1.mono (Nat.le_add_right _ 64)) h2)); clear h1 h2))
          refine bodyPost_end (results_none rfl _ _ _) rfl ?_
          exact ⟨rfl, by rw [HP.out]; exact HL.out⟩
        · have d3 : (k == 3) = false := beq_eq_false_iff_ne.2 k3
          have HP := Aside0.mk (show doP p k f t s = clr p t from by unfold doP; rw [if_neg k0, if_neg k1, if_neg k2, if_neg k3])
          clear k0 k1 k2 k3
          generalize doP p k f t s = q at *
          go_enter Tryd.func8, Tryd.ntmps8
          go_wp2_with (first
            | ((with_reducible refine gate_dst (N := 3) rfl ?_); refine box_event ?hg (N := 3) ?hd (cs := #[.int .i64 k, .int .i64 f, .int .i64 t, .int .u64 (s : Int)]) (t := 31) ?hr ?_; (case hd => rfl); (case hg => rfl); (case hr => first | (go_simp; done) | (go_simp; rfl)); intro gb hg w2 hbox hb; have HB := Aside0.mk hb; have x0 : w2.cell? ⟨gb, 0, none⟩ = some (.int .i64 k) := (blk_cell hbox 0).trans rfl; have x1 : w2.cell? ⟨gb, 1, none⟩ = some (.int .i64 f) := (blk_cell hbox 1).trans rfl; have x2 : w2.cell? ⟨gb, 2, none⟩ = some (.int .i64 t) := (blk_cell hbox 2).trans rfl; have x3 : w2.cell? ⟨gb, 3, none⟩ = some (.int .u64 (s : Int)) := (blk_cell hbox 3).trans rfl; clear hbox hb hg)
            | (go_at_call 21; (refine (H4.out _ HB.out).mono ?_); rintro e w3 ⟨rfl, h1, h2⟩; have HL := Aside0.mk (HS.out _ _ HB.out _ (Left.of_at (h1.mono (Nat.le_add_right _ 64)) h2)); clear h1 h2))
          refine bodyPost_end (results_none rfl _ _ _) rfl ?_
          exact ⟨rfl, by rw [HP.out]; exact HL.out⟩
end Go.Proofs.YtjcjhmnfknenlaaDoor.Rt
