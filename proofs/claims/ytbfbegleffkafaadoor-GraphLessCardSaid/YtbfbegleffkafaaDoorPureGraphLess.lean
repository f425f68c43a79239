/- Law GraphLess's one pure statement: with one node less stuck, those that are doomed are among those that were, and it is not. Conditions: none. -/
import Derived.Test.YtbfbegleffkafaaDoorPGraphLessx7
import Derived.Test.YtbfbegleffkafaaDoorGpeGraphLess
namespace Go.Proofs.YtbfbegleffkafaaDoor.Pure
open Go.RowKit Go.Proofs.YtbfbegleffkafaaDoor.PGraphLess Go.Proofs.YtbfbegleffkafaaDoorW.PrintWords Go.Proofs.YtbfbegleffkafaaDoorW.PrintLast Go.Proofs.YtbfbegleffkafaaDoorW.PrintMore
open Gr (Evt)
open Ge

theorem short_set {l : List S44} (h : Shrt l) {t : Nat} (ht : t < l.length) : Shrt (l.set t ⟨false, (l.getD t z44).f1⟩) := by
  intro x hx
  rcases List.mem_or_eq_of_mem_set hx with hx | hx
  · exact h x hx
  · rw [hx]
    have : l.getD t z44 ∈ l := by rw [List.getD_eq_getElem?_getD, List.getElem?_eq_getElem ht]; exact List.getElem_mem ht
    have h2 := h (l.getD t z44) this
    exact h2
theorem shr_bit {D t : Nat} (hD : D < Bt.top) (ht : t < 64) (h : D.testBit t = false) : Go.bits .and .u64 (shr .u64 (D : Int) (IntKind.u64.wrap (t : Int))) 1 = 0 := by
  have e0 : IntKind.u64.wrap (t : Int) = (t : Int) := Bt.wrapU (by unfold Bt.top; omega)
  have e1 : shr .u64 (D : Int) (t : Int) = ((D / 2 ^ t : Nat) : Int) := by
    unfold shr
    have : min (t : Int).toNat IntKind.u64.bits = t := by simp [IntKind.bits]; omega
    rw [this]
    simp
  rw [e0, e1, show (1 : Int) = ((1 : Nat) : Int) from rfl, Bt.and_nat (Nat.lt_of_le_of_lt (Nat.div_le_self _ _) hD) (by decide)]
  rw [Nat.and_one_is_mod]
  rw [Nat.testBit_eq_decide_div_mod_eq] at h
  have := of_decide_eq_false h
  have h2 : D / 2 ^ t % 2 = 0 := by omega
  rw [h2]
  rfl
theorem skip_ev {l : List S44} {a : Int} : Evt (fun k => logjamlaw26_GraphLess.j0 k l a true) true := by
  refine Evt.step (g := fun k => (logjamlaw26_lives.f k).bind fun t => some t) (fun k => ?_) lives_e
  simp only [logjamlaw26_GraphLess.j0]
  rw [if_pos trivial]
theorem ends (l0 : List S44) (a : Int) : Evt (fun k => logjamlaw26_GraphLess.f k l0 a) true := by
  simp only [logjamlaw26_GraphLess.f]
  refine Evt.bind (own_f l0) ?_
  by_cases hn : (own l0).length ≤ 64
  · have hc : ¬ ((own l0).length : Int) > 64 := by omega
    simp only [if_neg hc]
    by_cases h0 : a < 0
    · simp only [if_pos h0]
      exact skip_ev
    · simp only [if_neg h0]
      by_cases h1 : a ≥ ((own l0).length : Int)
      · rw [decide_eq_true h1]
        exact skip_ev
      · rw [decide_eq_false h1]
        have hS := short_own l0
        have hO := own_f' l0
        generalize own l0 = l at *
        obtain ⟨t, rfl⟩ : ∃ t : Nat, a = (t : Int) := ⟨a.toNat, by omega⟩
        have ht : t < l.length := by omega
        have hL := less hn ht _ rfl
        have hSm := short_set hS ht
        have hml : (l.set t ⟨false, (l.getD t z44).f1⟩).length ≤ 64 := by rw [List.length_set]; exact hn
        have erd : rd_T44 l (t : Int) = l.getD t z44 := by unfold rd_T44; rw [Int.toNat_natCast]
        refine Evt.step (g := fun k => (logjamlaw26_Own.f k l).bind fun t207 => (graph_Doomed.f k t207).bind fun t210 => (logjamlaw26_Own.f k l).bind fun t211 => if 0 ≤ (t : Int) then (if (t : Int) < (t211.length : Int) then ((graph_Doomed.f k (t211.set ((t : Int)).toNat (⟨false, (rd_T44 t211 (t : Int)).f1⟩ : S44))).bind fun t215 => if (Go.bits .andNot .u64 t215 t210) = 0 then (if 0 ≤ (IntKind.u64.wrap (t : Int)) then (if (Go.bits .and .u64 (shr .u64 t215 (IntKind.u64.wrap (t : Int))) 1) = 0 then ((logjamlaw26_lives.f k).bind fun t216 => some t216) else some false) else none) else some false) else none) else none) (fun k => ?_) ?_
        · simp only [logjamlaw26_GraphLess.j0]
          rw [if_neg (by decide)]
        · refine Evt.bind hO ?_
          refine Evt.bind (Doomed_ev hn hS) ?_
          refine Evt.bind hO ?_
          have c0 : (0 : Int) ≤ (t : Int) := by omega
          have c1 : (t : Int) < (l.length : Int) := by omega
          simp only [if_pos c0, if_pos c1, Int.toNat_natCast, erd]
          refine Evt.bind (Doomed_ev hml hSm) ?_
          generalize l.set t ⟨false, (l.getD t z44).f1⟩ = m at *
          have e1 : Go.bits .andNot .u64 ((dm m : Nat) : Int) ((dm l : Nat) : Int) = 0 := by
            rw [Bt.andNot_nat (dm_top hml) (dm_top hn), hL.1]
            rfl
          have e2 := shr_bit (dm_top hml) (by omega) hL.2
          have e3 : 0 ≤ IntKind.u64.wrap (t : Int) := by
            rw [Bt.wrapU (show t < Bt.top from by unfold Bt.top; omega)]
            omega
          simp only [e1, e2, if_pos e3, if_true]
          exact lives_e
  · have hc : ((own l0).length : Int) > 64 := by omega
    simp only [if_pos hc]
    exact skip_ev
theorem GraphLess : logjamlaw26_GraphLess.Pure := by
  intro l0 a1 _ _
  obtain ⟨K, hK⟩ := ends l0 a1
  exact ⟨K, hK K (Nat.le_refl _)⟩

end Go.Proofs.YtbfbegleffkafaaDoor.Pure
