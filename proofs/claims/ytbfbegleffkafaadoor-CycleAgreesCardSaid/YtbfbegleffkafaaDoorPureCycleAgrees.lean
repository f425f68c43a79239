/- Law CycleAgrees's one pure statement: of a pure graph, those from which a ring can be reached are just those that never come free. Conditions: none. -/
import Derived.Test.YtbfbegleffkafaaDoorPCycleAgreesx9
import Derived.Test.YtbfbegleffkafaaDoorCyfCycleAgrees
import Derived.Test.YtbfbegleffkafaaDoorGpeCycleAgrees
namespace Go.Proofs.YtbfbegleffkafaaDoor.Pure
open Go.RowKit Go.Proofs.YtbfbegleffkafaaDoor.PCycleAgrees Go.Proofs.YtbfbegleffkafaaDoorW.PrintWords Go.Proofs.YtbfbegleffkafaaDoorW.PrintLast
open Gr (Evt sc Plus Bad)
open Ce (pureB gr dmd pn pm thr succ)
set_option linter.unusedVariables false
set_option linter.unusedSimpArgs false

theorem comes_pure {n F : Nat} (hn : n ≤ 64) {m : S66} (h : pm n m = true) : Og.comesB F m = F.testBit (thr m).toNat := by
  unfold pm at h
  simp only [Bool.and_eq_true, decide_eq_true_eq] at h
  obtain ⟨h0, h1, h2, h3, h4⟩ := h
  obtain ⟨s, hs⟩ : ∃ s, m.f1 = [s] := by
    cases e : m.f1 with
    | nil => rw [e] at h1; simp at h1
    | cons a t =>
      cases t with
      | nil => exact ⟨a, rfl⟩
      | cons b t => rw [e] at h1; simp at h1; omega
  have er : rd_T68 m.f1 0 = s := by rw [hs]; rfl
  have et : thr m = s.f0 := by unfold thr; rw [er]
  rw [et] at h3 h4 ⊢
  rw [er] at h2
  unfold Og.comesB
  rw [hs, h0]
  simp only [Og.sumI, Int.add_zero]
  have hb : Og.hasB F s.f0 = F.testBit s.f0.toNat := by
    unfold Og.hasB
    rw [decide_eq_true h3, decide_eq_true (show s.f0 < 64 by omega)]
    rfl
  rw [hb]
  have hsh : 1 ≤ Og.shr s.f1 := by unfold Og.shr mn mx; split <;> split <;> omega
  cases F.testBit s.f0.toNat with
  | true => simp only [if_true]; exact decide_eq_true hsh
  | false => simp
theorem met_pure {l : List S44} (hp : pureB l = true) {t : Nat} (ht : t < l.length) (F : Nat) : Og.metB F (l.getD t z44) = (sc (gr l) t).all fun u => F.testBit u := by
  have e : l.getD t z44 = l[t] := by rw [List.getD_eq_getElem?_getD, List.getElem?_eq_getElem ht]; rfl
  rw [e, Ce.sc_in ht]
  have hpn := Ce.pure_pn hp _ (List.getElem_mem ht)
  have hn := Ce.pure_len hp
  generalize l[t] = x at *
  unfold Og.metB succ
  cases h0 : x.f0 with
  | false => simp
  | true =>
    obtain ⟨h1, h2⟩ := Ce.pn_way hpn h0
    obtain ⟨y, hy⟩ : ∃ y, x.f1 = [y] := by
      cases e : x.f1 with
      | nil => rw [e] at h1; simp at h1
      | cons a q =>
        cases q with
        | nil => exact ⟨a, rfl⟩
        | cons b q => rw [e] at h1; simp at h1; omega
    have er : rd_L5 x.f1 0 = y := by rw [hy]; rfl
    rw [er] at h2 ⊢
    rw [hy]
    simp only [Bool.not_true, Bool.false_or, List.any_cons, List.any_nil, Bool.or_false, if_true, List.map_map]
    rw [List.all_eq_true] at h2
    rw [Bool.eq_iff_iff, List.all_eq_true, List.all_eq_true]
    constructor
    · intro q u hu
      obtain ⟨m, hm, rfl⟩ := List.mem_map.1 hu
      have := q m hm
      rw [comes_pure hn (h2 m hm)] at this
      exact this
    · intro q m hm
      rw [comes_pure hn (h2 m hm)]
      exact q _ (List.mem_map.2 ⟨m, hm, rfl⟩)
section
variable {l : List S44}
/-- A set each of which has a next one in it leads to a ring. -/
theorem bad_of_walk (hG : Gr.Lt (gr l)) {p : Nat → Nat → Bool} (hp : ∀ t v, p t v = true ↔ Plus (gr l) t v) {D : Nat → Prop} (hD : ∀ t, D t → t < l.length ∧ ∃ u, u ∈ sc (gr l) t ∧ D u) : ∀ n t, D t → (List.range l.length).countP (p t) ≤ n → Bad (gr l) t := by
  intro n
  induction n with
  | zero =>
    intro t ht hc
    obtain ⟨htl, u, hu, hDu⟩ := hD t ht
    have hul : u < l.length := (hD u hDu).1
    have h0 := Nat.le_zero.1 hc
    rw [List.countP_eq_zero] at h0
    exact absurd ((hp t u).2 (Plus.one hu)) (h0 u (by simpa using hul))
  | succ n ih =>
    intro t ht hc
    obtain ⟨htl, u, hu, hDu⟩ := hD t ht
    have hul : u < l.length := (hD u hDu).1
    by_cases hr : Plus (gr l) u u
    · exact Gr.Bad.back hu (Gr.Bad.of_ring hr)
    · refine Gr.Bad.back hu (ih u hDu ?_)
      have hlt : (List.range l.length).countP (p u) < (List.range l.length).countP (p t) := by
        refine Gr.countP_lt (t := u) (fun v _ hv => ?_) ((hp t u).2 (Plus.one hu)) (Bool.eq_false_iff.mpr fun q => hr ((hp u u).1 q)) (by simpa using hul)
        exact (hp t v).2 (Plus.more hu ((hp u v).1 hv))
      omega
theorem dm_eq (hp : pureB l = true) : Ge.dm l = dmd l := by
  have hn := Ce.pure_len hp
  apply Bt.ext (Ge.dm_top hn) (Ce.dmd_lt hp)
  intro t ht
  rw [Ge.tb_dm hn t ht, Bool.eq_iff_iff, Ce.dmd_iff hp, Bool.and_eq_true, decide_eq_true_eq, Bool.not_eq_true']
  constructor
  · rintro ⟨h1, h2⟩
    refine bad_of_walk (Ce.gr_lt hp) (p := fun t v => @decide (Plus (gr l) t v) (Classical.propDecidable _)) (fun t v => @decide_eq_true_iff _ (Classical.propDecidable _)) (D := fun u => u < l.length ∧ (Ge.fr l).testBit u = false) ?_ _ t ⟨h1, h2⟩ (Nat.le_refl _)
    rintro u ⟨hu, hf⟩
    refine ⟨hu, ?_⟩
    refine Classical.byContradiction fun hc => ?_
    have hm : Og.metB (Ge.fr l) (l.getD u z44) = true := by
      rw [met_pure hp hu, List.all_eq_true]
      intro v hv
      have hvl : v < l.length := by have := Ce.gr_lt hp u v hv; rwa [Ce.gr_len] at this
      cases hb : (Ge.fr l).testBit v with
      | true => rfl
      | false => exact absurd ⟨v, hv, hvl, hb⟩ hc
    rw [(Ge.fr_facts hn).2.1 u hu hm] at hf
    cases hf
  · intro hb
    have htl : t < l.length := by have := hb.lt; rwa [Ce.gr_len] at this
    refine ⟨htl, ?_⟩
    have hU : Ge.Up l (Bt.sub (Gc.allN l.length) (dmd l)) := by
      intro u hu hm
      have hu64 : u < 64 := by omega
      rw [Bt.tb_sub (Ce.dmd_lt hp) u hu64, Ge.tb_all, decide_eq_true hu, Bool.true_and, Bool.not_eq_true', Bool.eq_false_iff]
      intro hbu
      obtain ⟨v, hv, hbv⟩ := ((Ce.dmd_iff hp u).1 hbu).next
      rw [met_pure hp hu, List.all_eq_true] at hm
      have h3 := hm v hv
      have hv64 : v < 64 := Ce.gr_64 hp u v hv
      rw [Bt.tb_sub (Ce.dmd_lt hp) v hv64, (Ce.dmd_iff hp v).2 hbv] at h3
      simp at h3
    have hS := (Ge.fr_facts hn).2.2 _ hU
    cases hf : (Ge.fr l).testBit t with
    | false => rfl
    | true =>
      have := hS t hf
      rw [Bt.tb_sub (Ce.dmd_lt hp) t ht, (Ce.dmd_iff hp t).2 hb] at this
      simp at this
end
set_option maxRecDepth 100000 in
theorem lives_at : logjamlaw27_lives.f 90 = some true := by decide +kernel
theorem lives_f : Evt (fun k => logjamlaw27_lives.f k) true := ⟨90, fun k hk => at_rounds logjamlaw27_lives.mono hk lives_at⟩
theorem lives_e : Evt (fun k => (logjamlaw27_lives.f k).bind fun t => some t) true := Evt.bind lives_f (g := fun _ t => some t) (Evt.const fun _ => rfl)
theorem ends (l0 : List S44) : Evt (fun k => logjamlaw27_CycleAgrees.f k l0) true := by
  simp only [logjamlaw27_CycleAgrees.f]
  refine Evt.bind (Ge.own_f l0) ?_
  have hS := Ge.short_own l0
  have hO := Ge.own_f' l0
  have hM : Ce.Small (Ge.own l0) := Ce.small_own l0
  have h70 : (Ge.own l0).length ≤ 70 := Ge.own_len l0
  generalize Ge.own l0 = l at *
  refine Evt.bind hO ?_
  have hD := Ce.Doomed_f hM (by omega)
  have hP := Ce.rpure_f hM (by omega)
  cases hp : pureB l with
  | true =>
    rw [hp] at hP
    rw [hp, if_pos rfl] at hD
    refine Evt.bind hD ?_
    simp only [if_true]
    refine Evt.bind hO ?_
    have hE := Ge.Doomed_ev (Ce.pure_len hp) hS
    rw [dm_eq hp] at hE
    refine Evt.bind hE ?_
    simp only [if_true]
    refine Evt.bind hP ?_
    simp only [beq_self_eq_true, if_true]
    exact lives_e
  | false =>
    rw [hp] at hP
    rw [hp, if_neg (by decide)] at hD
    refine Evt.bind hD ?_
    simp only [Bool.false_eq_true, if_false]
    refine Evt.bind hP ?_
    simp only [beq_self_eq_true, if_true]
    exact lives_e
theorem CycleAgrees : logjamlaw27_CycleAgrees.Pure := by
  intro l0 _
  obtain ⟨K, hK⟩ := ends l0
  exact ⟨K, hK K (Nat.le_refl _)⟩

end Go.Proofs.YtbfbegleffkafaaDoor.Pure
