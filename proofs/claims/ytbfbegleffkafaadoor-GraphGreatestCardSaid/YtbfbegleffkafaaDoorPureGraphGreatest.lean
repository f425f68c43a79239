/- Law GraphGreatest's one pure statement: those that never come free are closed, and whatever is closed is among them. Conditions: none. -/
import Derived.Test.YtbfbegleffkafaaDoorPGraphGreatestx7
import Derived.Test.YtbfbegleffkafaaDoorGpeGraphGreatest
namespace Go.Proofs.YtbfbegleffkafaaDoor.Pure
open Go.RowKit Go.Proofs.YtbfbegleffkafaaDoor.PGraphGreatest Go.Proofs.YtbfbegleffkafaaDoorW.PrintWords Go.Proofs.YtbfbegleffkafaaDoorW.PrintLast
open Gr (Evt)
open Ge

theorem ends (l0 : List S44) (s : Nat) (hs : s < Bt.top) : Evt (fun k => logjamlaw26_GraphGreatest.f k l0 (s : Int)) true := by
  simp only [logjamlaw26_GraphGreatest.f]
  refine Evt.bind (own_f l0) ?_
  by_cases hn : (own l0).length ≤ 64
  · have hc : ¬ ((own l0).length : Int) > 64 := by omega
    simp only [if_neg hc]
    have hS := short_own l0
    have hO := own_f' l0
    generalize own l0 = l at *
    refine Evt.bind hO ?_
    refine Evt.bind (Doomed_ev hn hS) ?_
    refine Evt.bind hO ?_
    refine Evt.bind (Closed_ev hn hS (dm_top hn)) ?_
    simp only [closed_dm hn, if_true]
    refine Evt.bind hO ?_
    refine Evt.bind (Closed_ev hn hS hs) ?_
    by_cases hk : closedB l s = true
    · have hz := closed_sub hn hs hk
      have e : Go.bits .andNot .u64 (s : Int) ((dm l : Nat) : Int) = 0 := by
        rw [Bt.andNot_nat hs (dm_top hn), hz]
        rfl
      simp only [hk, if_true, e]
      exact lives_e
    · simp only [if_neg hk]
      exact lives_e
  · have hc : ((own l0).length : Int) > 64 := by omega
    simp only [if_pos hc]
    exact lives_e
theorem GraphGreatest : logjamlaw26_GraphGreatest.Pure := by
  intro l0 a1 _ h1
  obtain ⟨s, hs, rfl⟩ : ∃ s : Nat, s < Bt.top ∧ a1 = (s : Int) := by
    have h2 : (Lit.int .u64 a1).wf = true := h1
    have e1 : IntKind.u64.min = 0 := by decide
    have e2 : IntKind.u64.max = 18446744073709551615 := by decide
    simp only [Lit.wf, Bool.and_eq_true, decide_eq_true_eq, e1, e2] at h2
    exact ⟨a1.toNat, by unfold Bt.top; omega, by omega⟩
  obtain ⟨K, hK⟩ := ends l0 s hs
  exact ⟨K, hK K (Nat.le_refl _)⟩

end Go.Proofs.YtbfbegleffkafaaDoor.Pure
