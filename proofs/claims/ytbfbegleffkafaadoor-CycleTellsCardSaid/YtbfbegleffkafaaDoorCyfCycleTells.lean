/- The page's doomed ones and its ring, and the program's: the same (plain functions of PCycleTells). Conditions: none. -/
import Derived.Test.YtbfbegleffkafaaDoorCyeCycleTells
import Derived.Test.YtbfbegleffkafaaDoorDfsCycleTells
import Derived.Test.YtbfbegleffkafaaDoorCm
import Derived.Test.YtbfbegleffkafaaDoorPCycleTellsx8

namespace Go.Proofs.YtbfbegleffkafaaDoor.Ce
open Go.RowKit Go.Proofs.YtbfbegleffkafaaDoor.PCycleTells Go.Proofs.YtbfbegleffkafaaDoorW.PrintWords Go.Proofs.YtbfbegleffkafaaDoorW.PrintLast Go.Proofs.YtbfbegleffkafaaDoorW.PrintMore
open Gr (Evt sc Plus Bad)
set_option linter.unusedVariables false

section
variable {l : List S44}
theorem dmd_iff (hp : pureB l = true) (t : Nat) : (dmd l).testBit t = true ↔ Bad (gr l) t := by
  unfold dmd
  exact Dfs.doomed_iff (gr_in hp) (by rw [gr_len]; exact pure_len hp) t
theorem dmd_lt (hp : pureB l = true) : dmd l < Bt.top := (Cy.upto_ok (gr_in hp) _ (by rw [gr_len]; exact pure_len hp)).1.b
theorem bad_iff (t : Nat) : Bad (gr l) t ↔ Plus (gr l) t t ∨ ∃ c, Plus (gr l) t c ∧ Plus (gr l) c c := by
  constructor
  · rintro ⟨c, rfl | h, h2⟩
    · exact .inl h2
    · exact .inr ⟨c, h, h2⟩
  · rintro (h | ⟨c, h, h2⟩)
    · exact ⟨t, .inl rfl, h⟩
    · exact ⟨c, .inr h, h2⟩
theorem rdoomed_l1 (hs : Small l) (hp : pureB l = true) {s : Nat} (hsl : s < Bt.top) (hsb : ∀ t, t < 64 → (s.testBit t = true ↔ Plus (gr l) t t)) : ∀ d i o, i + d = l.length → o < Bt.top → (∀ t, t < 64 → (o.testBit t = true ↔ t < i ∧ Bad (gr l) t)) →
    Evt (fun k => logjamref27_Doomed.l1 k l (s : Int) (o : Int) (i : Int)) ((dmd l : Nat) : Int) := by
  have h64 := pure_len hp
  intro d
  induction d with
  | zero =>
    intro i o hi ho hob
    have e : o = dmd l := by
      apply Bt.ext ho (dmd_lt hp)
      intro t ht
      rw [Bool.eq_iff_iff, dmd_iff hp, hob t ht]
      exact ⟨fun h => h.2, fun h => ⟨by have := h.lt; rw [gr_len] at this; omega, h⟩⟩
    refine Evt.step (g := fun _ => some ((dmd l : Nat) : Int)) (fun k => ?_) (Evt.const fun _ => rfl)
    simp only [logjamref27_Doomed.l1]
    rw [if_neg (by omega), e]
  | succ d ih =>
    intro i o hi ho hob
    have hi64 : i < 64 := by omega
    have ho2 : o ||| 2 ^ i < Bt.top := Bt.lt_or ho (Bt.lt_pow hi64)
    have yes : Bad (gr l) i → Evt (fun k => (logjamref02_With.f k (o : Int) (i : Int)).bind fun t309 => logjamref27_Doomed.l1 k l (s : Int) t309 ((i + 1 : Nat) : Int)) ((dmd l : Nat) : Int) := fun hb =>
      Evt.bind (with_ev ho hi64) (g := fun k t309 => logjamref27_Doomed.l1 k l (s : Int) t309 ((i + 1 : Nat) : Int)) (ih (i + 1) (o ||| 2 ^ i) (by omega) ho2 (fun t ht => by
        rw [Bt.tb_or, Bt.tb_pow, Bool.or_eq_true, hob t ht, decide_eq_true_eq]
        constructor
        · rintro (⟨h1, h2⟩ | rfl)
          · exact ⟨by omega, h2⟩
          · exact ⟨by omega, hb⟩
        · rintro ⟨h1, h2⟩
          by_cases e : i = t
          · exact .inr e
          · exact .inl ⟨by omega, h2⟩))
    have no : ¬ Bad (gr l) i → Evt (fun k => logjamref27_Doomed.l1 k l (s : Int) (o : Int) ((i + 1 : Nat) : Int)) ((dmd l : Nat) : Int) := fun hb =>
      ih (i + 1) o (by omega) ho (fun t ht => by
        rw [hob t ht]
        constructor
        · exact fun h => ⟨by omega, h.2⟩
        · rintro ⟨h1, h2⟩
          refine ⟨?_, h2⟩
          by_cases e : t = i
          · exact absurd (e ▸ h2) hb
          · omega)
    refine Evt.step (g := fun k => (logjamref02_Has.f k (s : Int) (i : Int)).bind fun t308 => if t308 = true then ((logjamref02_With.f k (o : Int) (i : Int)).bind fun t309 => logjamref27_Doomed.l1 k l (s : Int) t309 ((i + 1 : Nat) : Int)) else ((logjamref27_Reach.f k l (i : Int)).bind fun t310 => if (Go.bits .and .u64 t310 (s : Int)) = 0 then logjamref27_Doomed.l1 k l (s : Int) (o : Int) ((i + 1 : Nat) : Int) else ((logjamref02_With.f k (o : Int) (i : Int)).bind fun t311 => logjamref27_Doomed.l1 k l (s : Int) t311 ((i + 1 : Nat) : Int)))) (fun k => by
      simp only [logjamref27_Doomed.l1]
      rw [if_pos (by omega), wr (by omega)]) ?_
    refine Evt.bind (has_ev hsl hi64) (g := fun k t308 => if t308 = true then ((logjamref02_With.f k (o : Int) (i : Int)).bind fun t309 => logjamref27_Doomed.l1 k l (s : Int) t309 ((i + 1 : Nat) : Int)) else ((logjamref27_Reach.f k l (i : Int)).bind fun t310 => if (Go.bits .and .u64 t310 (s : Int)) = 0 then logjamref27_Doomed.l1 k l (s : Int) (o : Int) ((i + 1 : Nat) : Int) else ((logjamref02_With.f k (o : Int) (i : Int)).bind fun t311 => logjamref27_Doomed.l1 k l (s : Int) t311 ((i + 1 : Nat) : Int)))) ?_
    refine Evt.ite (fun h => yes ((bad_iff i).2 (.inl ((hsb i hi64).1 h)))) (fun h => ?_)
    have hni : ¬ Plus (gr l) i i := fun q => by have := (hsb i hi64).2 q; rw [h] at this; cases this
    refine Evt.bind (Reach_f hs hp i) (g := fun k t310 => if (Go.bits .and .u64 t310 (s : Int)) = 0 then logjamref27_Doomed.l1 k l (s : Int) (o : Int) ((i + 1 : Nat) : Int) else ((logjamref02_With.f k (o : Int) (i : Int)).bind fun t311 => logjamref27_Doomed.l1 k l (s : Int) t311 ((i + 1 : Nat) : Int))) ?_
    have hr := Gr.reach_lt (gr_lt hp) (gr_64 hp) i
    rw [Bt.and_nat hr hsl]
    by_cases c : Gr.reach (gr l) i &&& s = 0
    · refine Evt.of (fun k => if_pos (by rw [c]; rfl)) (no fun hb => ?_)
      rcases (bad_iff i).1 hb with q | ⟨x, q1, q2⟩
      · exact hni q
      · have hx : x < 64 := by have := q1.lt2 (gr_lt hp); rw [gr_len] at this; omega
        have h1 : (Gr.reach (gr l) i &&& s).testBit x = true := by
          rw [Bt.tb_and, (Gr.tb_reach (gr_lt hp) (gr_64 hp) i x).2 q1, (hsb x hx).2 q2]
          rfl
        rw [c, Bt.tb_zero] at h1
        cases h1
    · refine Evt.of (fun k => if_neg (by omega)) (yes ?_)
      have hlt := Bt.lt_and (a := Gr.reach (gr l) i) hsl
      have : ¬ ∀ x, x < 64 → (Gr.reach (gr l) i &&& s).testBit x = false := fun q => c ((Bt.zero_iff hlt).2 q)
      have : ∃ x, x < 64 ∧ (Gr.reach (gr l) i &&& s).testBit x = true := by
        refine Classical.byContradiction fun q => this fun x hx => ?_
        cases e : (Gr.reach (gr l) i &&& s).testBit x
        · rfl
        · exact absurd ⟨x, hx, e⟩ q
      obtain ⟨x, hx, hb⟩ := this
      rw [Bt.tb_and, Bool.and_eq_true] at hb
      exact (bad_iff i).2 (.inr ⟨x, (Gr.tb_reach (gr_lt hp) (gr_64 hp) i x).1 hb.1, (hsb x hx).1 hb.2⟩)
theorem rdoomed_l0 (hs : Small l) (hp : pureB l = true) : ∀ d i s, i + d = l.length → s < Bt.top → (∀ t, t < 64 → (s.testBit t = true ↔ t < i ∧ Plus (gr l) t t)) →
    Evt (fun k => logjamref27_Doomed.l0 k l (s : Int) 0 (i : Int)) ((dmd l : Nat) : Int) := by
  have h64 := pure_len hp
  intro d
  induction d with
  | zero =>
    intro i s hi hsl hsb
    refine Evt.step (fun k => ?_) (rdoomed_l1 hs hp hsl (fun t ht => by
      rw [hsb t ht]
      exact ⟨fun h => h.2, fun h => ⟨by have := h.lt; rw [gr_len] at this; omega, h⟩⟩) l.length 0 0 (by omega) (by decide) (fun t ht => by rw [Bt.tb_zero]; simp))
    simp only [logjamref27_Doomed.l0]
    rw [if_neg (by omega)]
    rfl
  | succ d ih =>
    intro i s hi hsl hsb
    have hi64 : i < 64 := by omega
    refine Evt.step (g := fun k => (logjamref27_Reach.f k l (i : Int)).bind fun t305 => (logjamref02_Has.f k t305 (i : Int)).bind fun t306 => if t306 = true then ((logjamref02_With.f k (s : Int) (i : Int)).bind fun t307 => logjamref27_Doomed.l0 k l t307 0 ((i + 1 : Nat) : Int)) else logjamref27_Doomed.l0 k l (s : Int) 0 ((i + 1 : Nat) : Int)) (fun k => by
      simp only [logjamref27_Doomed.l0]
      rw [if_pos (by omega), wr (by omega)]) ?_
    refine Evt.bind (Reach_f hs hp i) (g := fun k t305 => (logjamref02_Has.f k t305 (i : Int)).bind fun t306 => if t306 = true then ((logjamref02_With.f k (s : Int) (i : Int)).bind fun t307 => logjamref27_Doomed.l0 k l t307 0 ((i + 1 : Nat) : Int)) else logjamref27_Doomed.l0 k l (s : Int) 0 ((i + 1 : Nat) : Int)) ?_
    refine Evt.bind (has_ev (Gr.reach_lt (gr_lt hp) (gr_64 hp) i) hi64) (g := fun k t306 => if t306 = true then ((logjamref02_With.f k (s : Int) (i : Int)).bind fun t307 => logjamref27_Doomed.l0 k l t307 0 ((i + 1 : Nat) : Int)) else logjamref27_Doomed.l0 k l (s : Int) 0 ((i + 1 : Nat) : Int)) ?_
    refine Evt.ite (fun h => ?_) (fun h => ?_)
    · have hb := (Gr.tb_reach (gr_lt hp) (gr_64 hp) i i).1 h
      refine Evt.bind (with_ev hsl hi64) (g := fun k t307 => logjamref27_Doomed.l0 k l t307 0 ((i + 1 : Nat) : Int)) (ih (i + 1) (s ||| 2 ^ i) (by omega) (Bt.lt_or hsl (Bt.lt_pow hi64)) (fun t ht => ?_))
      rw [Bt.tb_or, Bt.tb_pow, Bool.or_eq_true, hsb t ht, decide_eq_true_eq]
      constructor
      · rintro (⟨h1, h2⟩ | rfl)
        · exact ⟨by omega, h2⟩
        · exact ⟨by omega, hb⟩
      · rintro ⟨h1, h2⟩
        by_cases e : i = t
        · exact .inr e
        · exact .inl ⟨by omega, h2⟩
    · have hb : ¬ Plus (gr l) i i := fun q => by
        have := (Gr.tb_reach (gr_lt hp) (gr_64 hp) i i).2 q
        rw [h] at this; cases this
      refine ih (i + 1) s (by omega) hsl (fun t ht => ?_)
      rw [hsb t ht]
      constructor
      · exact fun h => ⟨by omega, h.2⟩
      · rintro ⟨h1, h2⟩
        refine ⟨?_, h2⟩
        by_cases e : t = i
        · exact absurd (e ▸ h2) hb
        · omega
theorem rDoomed_f (hs : Small l) (hp : pureB l = true) : Evt (fun k => logjamref27_Doomed.f k l) ((dmd l : Nat) : Int) :=
  rdoomed_l0 hs hp l.length 0 0 (by omega) (by decide) (fun t ht => by rw [Bt.tb_zero]; simp)
end

/-! ### the ring -/
theorem low_least {D : Nat} (hD : D < Bt.top) (h0 : D ≠ 0) : ∃ rest, Gr.low D 64 = Lib.ctz 64 D :: rest := by
  obtain ⟨hlow, hk⟩ := Lib.lowest_bit 64 D h0 (Bt.top_pow ▸ hD)
  have hbit : D.testBit (Lib.ctz 64 D) = true := by
    have h1 : (D &&& (2 ^ 64 - D)).testBit (Lib.ctz 64 D) = true := by rw [hlow, Bt.tb_pow]; simp
    rw [Nat.testBit_and, Bool.and_eq_true] at h1
    exact h1.1
  have hmem : Lib.ctz 64 D ∈ Gr.low D 64 := Gr.mem_low.2 ⟨hk, hbit⟩
  cases hl : Gr.low D 64 with
  | nil => rw [hl] at hmem; cases hmem
  | cons x rest =>
    have hs : (Gr.low D 64).Pairwise (· < ·) := List.Pairwise.filter _ List.pairwise_lt_range
    rw [hl] at hs hmem
    rw [List.pairwise_cons] at hs
    have hx : x ∈ Gr.low D 64 := by rw [hl]; simp
    have hxb := (Gr.mem_low.1 hx).2
    have hxc : x = Lib.ctz 64 D := by
      rcases List.mem_cons.1 hmem with q | q
      · exact q.symm
      · exfalso
        have hlt := hs.1 _ q
        unfold Lib.ctz at hlt
        rw [if_neg h0] at hlt
        obtain ⟨m, hm, _⟩ := Lib.ctzFrom_spec 64 D (by omega) (Bt.top_pow ▸ hD)
        rw [hm, Nat.testBit_two_pow_mul] at hxb
        simp at hxb
        omega
    exact ⟨rest, by rw [hxc]⟩
theorem firstIn_some {D : Nat} : ∀ {l : List Nat}, (∃ u ∈ l, D.testBit u = true) → ∃ i, Cy.firstIn D l = some i := by
  intro l
  induction l with
  | nil => rintro ⟨u, hu, _⟩; cases hu
  | cons a l ih =>
    rintro ⟨u, hu, hb⟩
    simp only [Cy.firstIn]
    by_cases c : D.testBit a = true
    · rw [if_pos c]; exact ⟨0, rfl⟩
    · rw [if_neg c]
      rcases List.mem_cons.1 hu with rfl | hu
      · exact absurd hb c
      · obtain ⟨i, hi⟩ := ih ⟨u, hu, hb⟩
        exact ⟨i + 1, by rw [hi]; rfl⟩
theorem firstIn_below {D : Nat} : ∀ {l : List Nat} {i : Nat}, Cy.firstIn D l = some i → ∀ j, j < i → D.testBit (l.getD j 0) = false := by
  intro l
  induction l with
  | nil => intro i h; cases h
  | cons a l ih =>
    intro i h j hj
    simp only [Cy.firstIn] at h
    split at h
    · injection h with h; omega
    · rename_i c
      obtain ⟨i', h1, rfl⟩ := Option.map_eq_some_iff.1 h
      cases j with
      | zero => simpa using c
      | succ j => simpa using ih h1 j (by omega)
theorem nodup_64 {l : List Nat} (hn : l.Nodup) (h : ∀ u ∈ l, u < 64) : l.length ≤ 64 := by
  have := Cm.len_sub (l := List.range 64) hn (fun u hu => by simpa using h u hu)
  simpa using this
section
variable {l : List S44}
theorem bad_64 (hp : pureB l = true) {t : Nat} (h : Bad (gr l) t) : t < 64 := by have := h.lt; rw [gr_len] at this; have := pure_len hp; omega
theorem getLast_append (way : List Nat) (t : Nat) : (way ++ [t]).getLastD 0 = t := by simp
theorem ringN_some (hp : pureB l = true) : ∀ k (way : List Nat), 64 < way.length + k → way ≠ [] → (∀ u ∈ way, Bad (gr l) u) → way.Nodup → ∃ r, Cy.ringN k (gr l) (dmd l) way = some r := by
  intro k
  induction k with
  | zero =>
    intro way hl _ hb hn
    have := nodup_64 hn (fun u hu => bad_64 hp (hb u hu))
    omega
  | succ k ih =>
    intro way hl hne hb hn
    have hlast : Bad (gr l) (way.getLastD 0) := by
      rw [List.getLastD_eq_getLast?, List.getLast?_eq_some_getLast hne]
      exact hb _ (List.getLast_mem hne)
    obtain ⟨u, hu, hbu⟩ := hlast.next
    obtain ⟨i, hi⟩ := firstIn_some (D := dmd l) ⟨u, hu, (dmd_iff hp u).2 hbu⟩
    simp only [Cy.ringN]
    have hi' : Cy.firstIn (dmd l) ((gr l).getD (way.getLastD 0) []) = some i := hi
    rw [hi']
    dsimp only
    split
    · exact ⟨_, rfl⟩
    · rename_i c
      have hat := Cy.firstIn_at hi'
      have hbt := (dmd_iff hp _).1 hat.2
      refine ih _ (by simp; omega) (by simp) (fun x hx => ?_) ?_
      · rcases List.mem_append.1 hx with q | q
        · exact hb x q
        · rw [List.mem_singleton.1 q]; exact hbt
      · rw [List.nodup_append]
        refine ⟨hn, by simp, fun a ha b hb2 e => ?_⟩
        rw [List.mem_singleton.1 hb2] at e
        rw [e] at ha
        exact c (by simpa using ha)
/-- What a ring is like: each one leads to the next one, the last one to the first. -/
structure Ringly (r : List Nat) : Prop where
  ne : r ≠ []
  len : r.length ≤ 64
  bad : ∀ u ∈ r, Bad (gr l) u
  step : ∀ i, i < r.length → r.getD ((i + 1) % r.length) 0 ∈ sc (gr l) (r.getD i 0)
theorem last_at (way : List Nat) : way.getLastD 0 = way.getD (way.length - 1) 0 := by
  rw [List.getLastD_eq_getLast?, List.getD_eq_getElem?_getD, List.getLast?_eq_getElem?]
theorem ringN_facts (hp : pureB l = true) : ∀ k (way r : List Nat), Cy.ringN k (gr l) (dmd l) way = some r → way ≠ [] → (∀ u ∈ way, Bad (gr l) u) → way.Nodup → (∀ i, i + 1 < way.length → way.getD (i + 1) 0 ∈ sc (gr l) (way.getD i 0)) → Ringly (l := l) r := by
  intro k
  induction k with
  | zero => intro way r h; cases h
  | succ k ih =>
    intro way r h hne hb hn hc
    simp only [Cy.ringN] at h
    cases hf : Cy.firstIn (dmd l) ((gr l).getD (way.getLastD 0) []) with
    | none => rw [hf] at h; cases h
    | some i =>
      rw [hf] at h
      dsimp only at h
      have hat := Cy.firstIn_at hf
      obtain ⟨t, ht⟩ : ∃ t, t = ((gr l).getD (way.getLastD 0) []).getD i 0 := ⟨_, rfl⟩
      rw [← ht] at h hat
      have hbt := (dmd_iff hp _).1 hat.2
      have hts : t ∈ sc (gr l) (way.getLastD 0) := by
        rw [ht, List.getD_eq_getElem?_getD, List.getElem?_eq_getElem hat.1]
        exact List.getElem_mem hat.1
      rw [last_at] at hts
      have hwl := nodup_64 hn (fun u hu => bad_64 hp (hb u hu))
      have hpos : 0 < way.length := List.length_pos_iff.2 hne
      by_cases c : way.contains t = true
      · rw [if_pos c] at h
        injection h with h
        subst h
        have hm : t ∈ way := by simpa using c
        have hj : way.idxOf t < way.length := List.idxOf_lt_length_of_mem hm
        have hjt : way[way.idxOf t] = t := List.getElem_idxOf hj
        obtain ⟨j, hje⟩ : ∃ j, j = way.idxOf t := ⟨_, rfl⟩
        have hg : ∀ q, (way.drop j).getD q 0 = way.getD (j + q) 0 := by
          intro q
          rw [List.getD_eq_getElem?_getD, List.getD_eq_getElem?_getD, List.getElem?_drop]
        rw [← hje] at hj ⊢
        have hj0 : way.getD j 0 = t := by
          rw [List.getD_eq_getElem?_getD, List.getElem?_eq_getElem hj]
          simp only [hje, hjt, Option.getD_some]
        refine ⟨fun e => ?_, by rw [List.length_drop]; omega, fun u hu => hb u (List.mem_of_mem_drop hu), fun q hq => ?_⟩
        · have := congrArg List.length e
          rw [List.length_drop, List.length_nil] at this
          omega
        · rw [List.length_drop] at hq
          rw [hg, hg, List.length_drop]
          by_cases e : q + 1 < way.length - j
          · rw [Nat.mod_eq_of_lt e]
            exact hc (j + q) (by omega)
          · have e2 : q + 1 = way.length - j := by omega
            rw [e2, Nat.mod_self, Nat.add_zero, hj0]
            have e3 : j + q = way.length - 1 := by omega
            rw [e3]
            exact hts
      · rw [if_neg c] at h
        have hm : t ∉ way := by simpa using c
        refine ih (way ++ [t]) r h (by simp) (fun x hx => ?_) ?_ (fun q hq => ?_)
        · rcases List.mem_append.1 hx with q | q
          · exact hb x q
          · rw [List.mem_singleton.1 q]; exact hbt
        · rw [List.nodup_append]
          refine ⟨hn, by simp, fun a ha b hb2 e => ?_⟩
          rw [List.mem_singleton.1 hb2] at e
          rw [e] at ha
          exact hm ha
        · rw [List.length_append, List.length_singleton] at hq
          have h1 : (way ++ [t]).getD q 0 = way.getD q 0 := by
            rw [List.getD_eq_getElem?_getD, List.getD_eq_getElem?_getD, List.getElem?_append_left (by omega)]
          rw [h1]
          by_cases e : q + 1 < way.length
          · have h2 : (way ++ [t]).getD (q + 1) 0 = way.getD (q + 1) 0 := by
              rw [List.getD_eq_getElem?_getD, List.getD_eq_getElem?_getD, List.getElem?_append_left e]
            rw [h2]
            exact hc q e
          · have e2 : q + 1 = way.length := by omega
            have h2 : (way ++ [t]).getD (q + 1) 0 = t := by
              rw [List.getD_eq_getElem?_getD, e2, List.getElem?_append_right (Nat.le_refl _)]
              simp
            rw [h2, show q = way.length - 1 by omega]
            exact hts
/-- What the page's ring comes to behind a way whose last one's next ones are looked through. -/
theorem ring_l1 (hs : Small l) (hp : pureB l = true) {way : List Nat} {t : Nat} {v : List Int} (hw : way.length ≤ 64) (ht : t < 64)
    (hin : t ∈ way → v = R2.ints (way.drop (way.idxOf t)))
    (hout : t ∉ way → Evt (fun k => logjamref27_Ring.l2 k l ((dmd l : Nat) : Int) (R2.ints (way ++ [t])) (R2.ints (sc (gr l) t)) 0) v) :
    ∀ d i, i + d = way.length → (∀ j, j < i → way.getD j 0 ≠ t) → Evt (fun k => logjamref27_Ring.l1 k l ((dmd l : Nat) : Int) (R2.ints way) (t : Int) (i : Int)) v := by
  have hlen := R2.ints_len way
  intro d
  induction d with
  | zero =>
    intro i hi hf
    have hnot : t ∉ way := by
      intro h
      obtain ⟨j, hj, he⟩ := List.getElem_of_mem h
      have := hf j (by omega)
      rw [List.getD_eq_getElem?_getD, List.getElem?_eq_getElem hj] at this
      exact this he
    have h2 := rNext_f hs hp (t : Int)
    rw [nx_eq hp] at h2
    refine Evt.step (fun k => ?_) (Evt.bind h2 (g := fun k t329 => logjamref27_Ring.l2 k l ((dmd l : Nat) : Int) (R2.ints (way ++ [t])) t329 0) (hout hnot))
    simp only [logjamref27_Ring.l1]
    rw [if_neg (by omega), if_pos (by omega)]
    have e : R2.ints way ++ [(t : Int)] = R2.ints (way ++ [t]) := by simp [R2.ints]
    rw [e]
  | succ d ih =>
    intro i hi hf
    have hil : i < way.length := by omega
    by_cases c : way[i] = t
    · have hmem : t ∈ way := by rw [← c]; exact List.getElem_mem hil
      have hidx : way.idxOf t = i := by
        have h1 : way.idxOf t < way.length := List.idxOf_lt_length_of_mem hmem
        have h2 : way[way.idxOf t] = t := List.getElem_idxOf h1
        rcases Nat.lt_trichotomy (way.idxOf t) i with q | q | q
        · have := hf _ q
          rw [List.getD_eq_getElem?_getD, List.getElem?_eq_getElem h1, Option.getD_some] at this
          exact absurd h2 this
        · exact q
        · have := List.not_of_lt_findIdx (p := (· == t)) (xs := way) (i := i) q
          simp [c] at this
      refine Evt.step (g := fun _ => some v) (fun k => ?_) (Evt.const fun _ => rfl)
      simp only [logjamref27_Ring.l1]
      rw [if_pos (by omega), if_pos (by omega), R2.rd_ints hil, if_pos (by omega), if_pos (by omega), hin hmem, hidx, Int.toNat_natCast]
      simp [R2.ints, List.map_drop]
    · have go := ih (i + 1) (by omega) (fun j hj => by
        by_cases e : j = i
        · rw [e, List.getD_eq_getElem?_getD, List.getElem?_eq_getElem hil]; exact c
        · exact hf j (by omega))
      refine Evt.step (fun k => ?_) go
      simp only [logjamref27_Ring.l1]
      rw [if_pos (by omega), if_pos (by omega), R2.rd_ints hil, if_neg (by omega), wr (by omega)]
theorem ring_l2 (hp : pureB l = true) {way ys : List Nat} {i : Nat} {v : List Int} (hy : ys.length < 1000000) (hy64 : ∀ u ∈ ys, u < 64) (hi : i < ys.length) (hbit : (dmd l).testBit (ys.getD i 0) = true) (hb : ∀ j, j < i → (dmd l).testBit (ys.getD j 0) = false)
    (hv : Evt (fun k => logjamref27_Ring.l0 k l ((dmd l : Nat) : Int) (R2.ints way) ((ys.getD i 0 : Nat) : Int)) v) :
    ∀ d j, j + d = i → Evt (fun k => logjamref27_Ring.l2 k l ((dmd l : Nat) : Int) (R2.ints way) (R2.ints ys) (j : Int)) v := by
  have hlen := R2.ints_len ys
  have hD := dmd_lt hp
  intro d
  induction d with
  | zero =>
    intro j hj
    obtain rfl : j = i := by omega
    have hg : ys.getD j 0 = ys[j] := by rw [List.getD_eq_getElem?_getD, List.getElem?_eq_getElem hi]; rfl
    rw [hg] at hbit hv
    have h1 := has_ev hD (hy64 _ (List.getElem_mem hi))
    rw [hbit] at h1
    refine Evt.step (fun k => ?_) (Evt.bind h1 (g := fun k t333 => if t333 = true then (if (j : Int) = ((R2.ints ys).length : Int) then (some ([] : List Int)) else logjamref27_Ring.l0 k l ((dmd l : Nat) : Int) (R2.ints way) ((ys[j] : Nat) : Int)) else logjamref27_Ring.l2 k l ((dmd l : Nat) : Int) (R2.ints way) (R2.ints ys) (wrap64 ((j : Int) + 1))) (Evt.of (fun k => by rw [if_pos rfl, if_neg (by omega)]) hv))
    simp only [logjamref27_Ring.l2]
    rw [if_pos (by omega), if_pos (by omega), R2.rd_ints hi]
  | succ d ih =>
    intro j hj
    have hjl : j < ys.length := by omega
    have hg : ys.getD j 0 = ys[j] := by rw [List.getD_eq_getElem?_getD, List.getElem?_eq_getElem hjl]; rfl
    have h0 := hb j (by omega)
    rw [hg] at h0
    have h1 := has_ev hD (hy64 _ (List.getElem_mem hjl))
    rw [h0] at h1
    have go := ih (j + 1) (by omega)
    refine Evt.step (fun k => ?_) (Evt.bind h1 (g := fun k t333 => if t333 = true then (if (j : Int) = ((R2.ints ys).length : Int) then (some ([] : List Int)) else logjamref27_Ring.l0 k l ((dmd l : Nat) : Int) (R2.ints way) ((ys[j] : Nat) : Int)) else logjamref27_Ring.l2 k l ((dmd l : Nat) : Int) (R2.ints way) (R2.ints ys) (wrap64 ((j : Int) + 1))) (Evt.of (fun k => by rw [if_neg (by decide), wr (by omega)]) go))
    simp only [logjamref27_Ring.l2]
    rw [if_pos (by omega), if_pos (by omega), R2.rd_ints hjl]
theorem ring_ev (hs : Small l) (hp : pureB l = true) : ∀ k (way r : List Nat), Cy.ringN k (gr l) (dmd l) way = some r → way ≠ [] → way.length ≤ 64 → way.Nodup → (∀ u ∈ way, u < 64) →
    Evt (fun k => logjamref27_Ring.l2 k l ((dmd l : Nat) : Int) (R2.ints way) (R2.ints (sc (gr l) (way.getLastD 0))) 0) (R2.ints r) := by
  intro k
  induction k with
  | zero => intro way r h; cases h
  | succ k ih =>
    intro way r h hne hwl hn h64
    simp only [Cy.ringN] at h
    cases hf : Cy.firstIn (dmd l) ((gr l).getD (way.getLastD 0) []) with
    | none => rw [hf] at h; cases h
    | some i =>
      rw [hf] at h
      dsimp only at h
      have hat := Cy.firstIn_at hf
      have ht64 : ((gr l).getD (way.getLastD 0) []).getD i 0 < 64 := by
        rw [List.getD_eq_getElem?_getD, List.getElem?_eq_getElem hat.1]
        exact gr_64 hp _ _ (List.getElem_mem hat.1)
      refine ring_l2 hp (sc_short hs hp _) (gr_64 hp _) hat.1 hat.2 (firstIn_below hf) ?_ i 0 (Nat.zero_add _)
      show Evt (fun k => logjamref27_Ring.l0 k l ((dmd l : Nat) : Int) (R2.ints way) (((((gr l).getD (way.getLastD 0) []).getD i 0 : Nat)) : Int)) (R2.ints r)
      obtain ⟨t, ht⟩ : ∃ t, t = ((gr l).getD (way.getLastD 0) []).getD i 0 := ⟨_, rfl⟩
      rw [← ht] at h ht64
      rw [← ht]
      have h1 := ring_l1 hs hp (way := way) (t := t) (v := R2.ints r) hwl ht64 (fun hm => by
        rw [if_pos (by simpa using hm)] at h
        injection h with h
        rw [h]) (fun hm => by
        rw [if_neg (by simpa using hm)] at h
        have hn2 : (way ++ [t]).Nodup := by
          rw [List.nodup_append]
          refine ⟨hn, by simp, fun a ha b hb2 e => ?_⟩
          rw [List.mem_singleton.1 hb2] at e
          rw [e] at ha
          exact hm ha
        have h642 : ∀ u ∈ way ++ [t], u < 64 := fun u hu => by
          rcases List.mem_append.1 hu with q | q
          · exact h64 u q
          · rw [List.mem_singleton.1 q]; exact ht64
        have := ih (way ++ [t]) r h (by simp) (nodup_64 hn2 h642) hn2 h642
        rw [getLast_append] at this
        exact this) way.length 0 (by omega) (fun j hj => by omega)
      refine Evt.step (fun k => ?_) h1
      simp only [logjamref27_Ring.l0]
      rw [if_pos (by omega)]
      rfl
/-- The ring. -/
theorem ring_both (hs : Small l) (hp : pureB l = true) : ∃ r : List Nat, Evt (fun k => cycle_Ring.f k l) (R2.ints r) ∧ Evt (fun k => logjamref27_Ring.f k l) (R2.ints r) ∧ (dmd l = 0 → r = []) ∧ (dmd l ≠ 0 → Ringly (l := l) r) ∧ r.length ≤ 64 := by
  have hD := dmd_lt hp
  have htop : Bt.top = 18446744073709551616 := rfl
  have h70 : l.length ≤ 1000000 := by have := pure_len hp; omega
  have hd := Doomed_f hs h70
  rw [if_pos hp] at hd
  have hlist := list_ev hD
  by_cases h0 : dmd l = 0
  · refine ⟨[], ?_, ?_, fun _ => rfl, fun h => absurd h0 h, by simp⟩
    · refine Evt.of (fun k => rfl) (Evt.bind hd (g := fun k (d : Int × Bool) => if d.2 = true then if d.1 = 0 then some [] else (Cy.nexts k l).bind fun nx => if Cy.okG nx ∧ 0 ≤ d.1 ∧ d.1 < 18446744073709551616 ∧ Lib.ctz 64 d.1.toNat < nx.length then (Cy.ringN 65 (Cy.nats nx) d.1.toNat [Lib.ctz 64 d.1.toNat]).map Cy.ints else none else some []) (Evt.const fun k => ?_))
      dsimp only
      rw [if_pos rfl, if_pos (by omega)]
      rfl
    · refine Evt.of (fun k => rfl) (Evt.bind (rDoomed_f hs hp) (g := fun k t317 => (logjamref02_Next.f k t317 (-1)).bind fun t321 => logjamref27_Ring.l0 k l t317 [] t321) ?_)
      have hnx : Evt (fun k => logjamref02_Next.f k ((dmd l : Nat) : Int) (-1)) (-1) := by
        refine Evt.of (fun k => rfl) (Evt.bind hlist (g := fun k t312 => logjamref02_Next.l0 k (-1) t312 0) ?_)
        have : Gr.low (dmd l) 64 = [] := by
          rw [h0]
          unfold Gr.low
          rw [List.filter_eq_nil_iff]
          intro a _
          rw [Bt.tb_zero]
          decide
        rw [this]
        exact Evt.step (g := fun _ => some (-1)) (fun k => by simp only [logjamref02_Next.l0]; rw [if_neg (by simp [R2.ints])]) (Evt.const fun _ => rfl)
      refine Evt.bind hnx (g := fun k t321 => logjamref27_Ring.l0 k l ((dmd l : Nat) : Int) [] t321) ?_
      exact Evt.step (g := fun _ => some []) (fun k => by simp only [logjamref27_Ring.l0]; rw [if_neg (by decide)]) (Evt.const fun _ => rfl)
  · obtain ⟨rest, hlow⟩ := low_least hD h0
    have hF : (dmd l).testBit (Lib.ctz 64 (dmd l)) = true := by
      have : Lib.ctz 64 (dmd l) ∈ Gr.low (dmd l) 64 := by rw [hlow]; simp
      exact (Gr.mem_low.1 this).2
    have hFb := (dmd_iff hp _).1 hF
    have hF64 := bad_64 hp hFb
    have hFl : Lib.ctz 64 (dmd l) < l.length := by have := hFb.lt; rwa [gr_len] at this
    obtain ⟨r, hr⟩ := ringN_some hp 65 [Lib.ctz 64 (dmd l)] (by simp) (by simp) (fun u hu => by rw [List.mem_singleton.1 hu]; exact hFb) (by simp)
    have hfa := ringN_facts hp 65 _ r hr (by simp) (fun u hu => by rw [List.mem_singleton.1 hu]; exact hFb) (by simp) (fun i hi => by simp at hi)
    refine ⟨r, ?_, ?_, fun h => absurd h h0, fun _ => hfa, hfa.len⟩
    · refine Evt.of (fun k => rfl) (Evt.bind hd (g := fun k (d : Int × Bool) => if d.2 = true then if d.1 = 0 then some [] else (Cy.nexts k l).bind fun nx => if Cy.okG nx ∧ 0 ≤ d.1 ∧ d.1 < 18446744073709551616 ∧ Lib.ctz 64 d.1.toNat < nx.length then (Cy.ringN 65 (Cy.nats nx) d.1.toNat [Lib.ctz 64 d.1.toNat]).map Cy.ints else none else some []) ?_)
      refine Evt.of (fun k => by rw [if_pos rfl, if_neg (by dsimp only; omega)]) (Evt.bind (nexts_f hs (pure_pn hp)) (g := fun k nx => if Cy.okG nx ∧ 0 ≤ ((dmd l : Nat) : Int) ∧ ((dmd l : Nat) : Int) < 18446744073709551616 ∧ Lib.ctz 64 ((dmd l : Nat) : Int).toNat < nx.length then (Cy.ringN 65 (Cy.nats nx) ((dmd l : Nat) : Int).toNat [Lib.ctz 64 ((dmd l : Nat) : Int).toNat]).map Cy.ints else none) (Evt.const fun k => ?_))
      rw [Int.toNat_natCast, if_pos ⟨okG_succ hp, by omega, by omega, by rw [List.length_map]; exact hFl⟩, nats_succ, hr]
      rfl
    · refine Evt.of (fun k => rfl) (Evt.bind (rDoomed_f hs hp) (g := fun k t317 => (logjamref02_Next.f k t317 (-1)).bind fun t321 => logjamref27_Ring.l0 k l t317 [] t321) ?_)
      have hnx : Evt (fun k => logjamref02_Next.f k ((dmd l : Nat) : Int) (-1)) ((Lib.ctz 64 (dmd l) : Nat) : Int) := by
        refine Evt.of (fun k => rfl) (Evt.bind hlist (g := fun k t312 => logjamref02_Next.l0 k (-1) t312 0) ?_)
        rw [hlow]
        refine Evt.step (g := fun _ => some ((Lib.ctz 64 (dmd l) : Nat) : Int)) (fun k => ?_) (Evt.const fun _ => rfl)
        simp only [logjamref02_Next.l0]
        have h2 := R2.rd_ints (l := Lib.ctz 64 (dmd l) :: rest) (i := 0) (by simp)
        have h3 : rd (R2.ints (Lib.ctz 64 (dmd l) :: rest)) 0 = ((Lib.ctz 64 (dmd l) : Nat) : Int) := h2
        rw [if_pos (by simp [R2.ints]), if_pos (by decide), h3, if_pos (by omega)]
      refine Evt.bind hnx (g := fun k t321 => logjamref27_Ring.l0 k l ((dmd l : Nat) : Int) [] t321) ?_
      have h1 := ring_ev hs hp 65 [Lib.ctz 64 (dmd l)] r hr (by simp) (by simp) (by simp) (fun u hu => by rw [List.mem_singleton.1 hu]; exact hF64)
      have h2 := ring_l1 hs hp (way := []) (t := Lib.ctz 64 (dmd l)) (v := R2.ints r) (by simp) hF64 (fun h => by cases h) (fun _ => h1) 0 0 rfl (fun j hj => by omega)
      refine Evt.step (fun k => ?_) h2
      simp only [logjamref27_Ring.l0]
      rw [if_pos (by omega)]
      rfl
end
theorem Ring_none {l : List S44} (hs : Small l) (h70 : l.length ≤ 1000000) (hp : pureB l = false) : Evt (fun k => cycle_Ring.f k l) [] := by
  have hd := Doomed_f hs h70
  rw [if_neg (by rw [hp]; decide)] at hd
  refine Evt.of (fun k => rfl) (Evt.bind hd (g := fun k (d : Int × Bool) => if d.2 = true then if d.1 = 0 then some [] else (Cy.nexts k l).bind fun nx => if Cy.okG nx ∧ 0 ≤ d.1 ∧ d.1 < 18446744073709551616 ∧ Lib.ctz 64 d.1.toNat < nx.length then (Cy.ringN 65 (Cy.nats nx) d.1.toNat [Lib.ctz 64 d.1.toNat]).map Cy.ints else none else some []) (Evt.const fun k => ?_))
  rfl
end Go.Proofs.YtbfbegleffkafaaDoor.Ce
