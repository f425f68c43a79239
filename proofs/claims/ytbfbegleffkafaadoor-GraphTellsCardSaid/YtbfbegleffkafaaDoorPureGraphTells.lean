/- Law GraphTells's one pure statement: who can go on, in which order threads come free, and who never does. Conditions: none. -/
import Derived.Test.YtbfbegleffkafaaDoorPGraphTellsx10
import Derived.Test.YtbfbegleffkafaaDoorGptGraphTells
namespace Go.Proofs.YtbfbegleffkafaaDoor.Pure
open Go.RowKit Go.Proofs.YtbfbegleffkafaaDoor.PGraphTells Go.Proofs.YtbfbegleffkafaaDoorW.PrintWords Go.Proofs.YtbfbegleffkafaaDoorW.PrintLast
open Gr (Evt)
open Ge

theorem same_ev (a : List Int) (hn : a.length ≤ 128) : ∀ d i, i + d = a.length → Evt (fun k => logjamlaw26_GraphTells.l0 k a a (i : Int)) true := by
  intro d
  induction d with
  | zero =>
    intro i hi
    refine up1 ?_
    have c : ¬ (i : Int) < (a.length : Int) := by omega
    simp only [logjamlaw26_GraphTells.l0, if_neg c]
    exact lives_e
  | succ d ih =>
    intro i hi
    refine up1 ?_
    have c : (i : Int) < (a.length : Int) := by omega
    have c0 : (0 : Int) ≤ (i : Int) := by omega
    have ew : wrap64 ((i : Int) + 1) = ((i + 1 : Nat) : Int) := wr (by omega)
    simp only [logjamlaw26_GraphTells.l0, if_pos c, if_pos c0, if_true, ew]
    exact ih (i + 1) (by omega)
theorem ends (l0 : List S44) (t : Int) (s : Nat) (hs : s < Bt.top) : Evt (fun k => logjamlaw26_GraphTells.f k l0 t (s : Int)) true := by
  simp only [logjamlaw26_GraphTells.f]
  refine Evt.bind (own_f l0) ?_
  have hS := short_own l0
  have hW := rows_own l0
  have hO := own_f' l0
  generalize own l0 = l at *
  refine Evt.bind hO ?_
  by_cases hn : l.length ≤ 64
  · refine Evt.bind (Order_ev hn hS) ?_
    refine Evt.bind hO ?_
    refine Evt.bind (Doomed_ev hn hS) ?_
    have hc : ¬ (l.length : Int) > 64 := by omega
    simp only [if_neg hc]
    refine Evt.bind hO ?_
    simp only [check_ok hn, Option.bind_some, if_true]
    refine Evt.bind hO ?_
    refine Evt.bind (MetE hn hS hs t) ?_
    refine Evt.bind (metE hn hS hW hs t) ?_
    simp only [bne_self_eq_false, Bool.false_eq_true, if_false]
    refine Evt.bind hO ?_
    refine Evt.bind (Closed_ev hn hS hs) ?_
    refine Evt.bind (closedE hn hS hW hs) ?_
    simp only [bne_self_eq_false, Bool.false_eq_true, if_false]
    refine Evt.bind (doomedE hn hS hW) ?_
    simp only [bne_self_eq_false]
    refine up1 ?_
    simp only [logjamlaw26_GraphTells.j0, Bool.false_eq_true, if_false]
    refine Evt.bind (orderE hn hS hW) ?_
    simp only [if_true]
    exact same_ev _ (by rw [Bl.ints_len]; exact ordR_len hn) (Bl.ints (Og.ordR l).1).length 0 (by omega)
  · refine Evt.bind (Order_long hn) ?_
    refine Evt.bind hO ?_
    refine Evt.bind (Doomed_long hn) ?_
    have hc : (l.length : Int) > 64 := by omega
    simp only [if_pos hc]
    refine Evt.bind hO ?_
    simp only [check_long hn, Option.bind_some, if_true, List.length_nil, Int.ofNat_zero]
    refine Evt.bind hO ?_
    refine Evt.bind (Closed_long hn _) ?_
    simp only [Bool.false_eq_true, if_false]
    exact lives_e
theorem GraphTells : logjamlaw26_GraphTells.Pure := by
  intro l0 a1 a2 _ _ h1
  obtain ⟨s, hs, rfl⟩ : ∃ s : Nat, s < Bt.top ∧ a2 = (s : Int) := by
    have h2 : (Lit.int .u64 a2).wf = true := h1
    have e1 : IntKind.u64.min = 0 := by decide
    have e2 : IntKind.u64.max = 18446744073709551615 := by decide
    simp only [Lit.wf, Bool.and_eq_true, decide_eq_true_eq, e1, e2] at h2
    exact ⟨a2.toNat, by unfold Bt.top; omega, by omega⟩
  obtain ⟨K, hK⟩ := ends l0 a1 s hs
  exact ⟨K, hK K (Nat.le_refl _)⟩

end Go.Proofs.YtbfbegleffkafaaDoor.Pure
