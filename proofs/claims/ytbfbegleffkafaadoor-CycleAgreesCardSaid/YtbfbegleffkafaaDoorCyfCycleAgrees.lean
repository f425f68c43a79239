/- The page's doomed ones and its ring, and the program's: the same (plain functions of PCycleAgrees). Conditions: none. -/
import Derived.Test.YtbfbegleffkafaaDoorCyeCycleAgrees
import Derived.Test.YtbfbegleffkafaaDoorDfsCycleAgrees
import Derived.Test.YtbfbegleffkafaaDoorCm
import Derived.Test.YtbfbegleffkafaaDoorPCycleAgreesx5

namespace Go.Proofs.YtbfbegleffkafaaDoor.Ce
open Go.RowKit Go.Proofs.YtbfbegleffkafaaDoor.PCycleAgrees Go.Proofs.YtbfbegleffkafaaDoorW.PrintWords Go.Proofs.YtbfbegleffkafaaDoorW.PrintLast Go.Proofs.YtbfbegleffkafaaDoorW.PrintMore
open Gr (Evt sc Plus Bad)
set_option linter.unusedVariables false

section
variable {l : List S44}
theorem dmd_iff (hp : pureB l = true) (t : Nat) : (dmd l).testBit t = true ↔ Bad (gr l) t := by
  unfold dmd
  exact Dfs.doomed_iff (gr_in hp) (by rw [gr_len]; exact pure_len hp) t
theorem dmd_lt (hp : pureB l = true) : dmd l < Bt.top := (Cy.upto_ok (gr_in hp) _ (by rw [gr_len]; exact pure_len hp)).1.b
theorem bad_iff (t : Nat) : Bad (gr l) t ↔ Plus (gr l) t t ∨ ∃ c, Plus (gr l) t c ∧ Plus (gr l) c c := by
  constructor
  · rintro ⟨c, rfl | h, h2⟩
    · exact .inl h2
    · exact .inr ⟨c, h, h2⟩
  · rintro (h | ⟨c, h, h2⟩)
    · exact ⟨t, .inl rfl, h⟩
    · exact ⟨c, .inr h, h2⟩
end

/-! ### the ring -/
theorem low_least {D : Nat} (hD : D < Bt.top) (h0 : D ≠ 0) : ∃ rest, Gr.low D 64 = Lib.ctz 64 D :: rest := by
  obtain ⟨hlow, hk⟩ := Lib.lowest_bit 64 D h0 (Bt.top_pow ▸ hD)
  have hbit : D.testBit (Lib.ctz 64 D) = true := by
    have h1 : (D &&& (2 ^ 64 - D)).testBit (Lib.ctz 64 D) = true := by rw [hlow, Bt.tb_pow]; simp
    rw [Nat.testBit_and, Bool.and_eq_true] at h1
    exact h1.1
  have hmem : Lib.ctz 64 D ∈ Gr.low D 64 := Gr.mem_low.2 ⟨hk, hbit⟩
  cases hl : Gr.low D 64 with
  | nil => rw [hl] at hmem; cases hmem
  | cons x rest =>
    have hs : (Gr.low D 64).Pairwise (· < ·) := List.Pairwise.filter _ List.pairwise_lt_range
    rw [hl] at hs hmem
    rw [List.pairwise_cons] at hs
    have hx : x ∈ Gr.low D 64 := by rw [hl]; simp
    have hxb := (Gr.mem_low.1 hx).2
    have hxc : x = Lib.ctz 64 D := by
      rcases List.mem_cons.1 hmem with q | q
      · exact q.symm
      · exfalso
        have hlt := hs.1 _ q
        unfold Lib.ctz at hlt
        rw [if_neg h0] at hlt
        obtain ⟨m, hm, _⟩ := Lib.ctzFrom_spec 64 D (by omega) (Bt.top_pow ▸ hD)
        rw [hm, Nat.testBit_two_pow_mul] at hxb
        simp at hxb
        omega
    exact ⟨rest, by rw [hxc]⟩
theorem firstIn_some {D : Nat} : ∀ {l : List Nat}, (∃ u ∈ l, D.testBit u = true) → ∃ i, Cy.firstIn D l = some i := by
  intro l
  induction l with
  | nil => rintro ⟨u, hu, _⟩; cases hu
  | cons a l ih =>
    rintro ⟨u, hu, hb⟩
    simp only [Cy.firstIn]
    by_cases c : D.testBit a = true
    · rw [if_pos c]; exact ⟨0, rfl⟩
    · rw [if_neg c]
      rcases List.mem_cons.1 hu with rfl | hu
      · exact absurd hb c
      · obtain ⟨i, hi⟩ := ih ⟨u, hu, hb⟩
        exact ⟨i + 1, by rw [hi]; rfl⟩
theorem firstIn_below {D : Nat} : ∀ {l : List Nat} {i : Nat}, Cy.firstIn D l = some i → ∀ j, j < i → D.testBit (l.getD j 0) = false := by
  intro l
  induction l with
  | nil => intro i h; cases h
  | cons a l ih =>
    intro i h j hj
    simp only [Cy.firstIn] at h
    split at h
    · injection h with h; omega
    · rename_i c
      obtain ⟨i', h1, rfl⟩ := Option.map_eq_some_iff.1 h
      cases j with
      | zero => simpa using c
      | succ j => simpa using ih h1 j (by omega)
theorem nodup_64 {l : List Nat} (hn : l.Nodup) (h : ∀ u ∈ l, u < 64) : l.length ≤ 64 := by
  have := Cm.len_sub (l := List.range 64) hn (fun u hu => by simpa using h u hu)
  simpa using this
section
variable {l : List S44}
theorem bad_64 (hp : pureB l = true) {t : Nat} (h : Bad (gr l) t) : t < 64 := by have := h.lt; rw [gr_len] at this; have := pure_len hp; omega
theorem getLast_append (way : List Nat) (t : Nat) : (way ++ [t]).getLastD 0 = t := by simp
theorem ringN_some (hp : pureB l = true) : ∀ k (way : List Nat), 64 < way.length + k → way ≠ [] → (∀ u ∈ way, Bad (gr l) u) → way.Nodup → ∃ r, Cy.ringN k (gr l) (dmd l) way = some r := by
  intro k
  induction k with
  | zero =>
    intro way hl _ hb hn
    have := nodup_64 hn (fun u hu => bad_64 hp (hb u hu))
    omega
  | succ k ih =>
    intro way hl hne hb hn
    have hlast : Bad (gr l) (way.getLastD 0) := by
      rw [List.getLastD_eq_getLast?, List.getLast?_eq_some_getLast hne]
      exact hb _ (List.getLast_mem hne)
    obtain ⟨u, hu, hbu⟩ := hlast.next
    obtain ⟨i, hi⟩ := firstIn_some (D := dmd l) ⟨u, hu, (dmd_iff hp u).2 hbu⟩
    simp only [Cy.ringN]
    have hi' : Cy.firstIn (dmd l) ((gr l).getD (way.getLastD 0) []) = some i := hi
    rw [hi']
    dsimp only
    split
    · exact ⟨_, rfl⟩
    · rename_i c
      have hat := Cy.firstIn_at hi'
      have hbt := (dmd_iff hp _).1 hat.2
      refine ih _ (by simp; omega) (by simp) (fun x hx => ?_) ?_
      · rcases List.mem_append.1 hx with q | q
        · exact hb x q
        · rw [List.mem_singleton.1 q]; exact hbt
      · rw [List.nodup_append]
        refine ⟨hn, by simp, fun a ha b hb2 e => ?_⟩
        rw [List.mem_singleton.1 hb2] at e
        rw [e] at ha
        exact c (by simpa using ha)
/-- What a ring is like: each one leads to the next one, the last one to the first. -/
structure Ringly (r : List Nat) : Prop where
  ne : r ≠ []
  len : r.length ≤ 64
  bad : ∀ u ∈ r, Bad (gr l) u
  step : ∀ i, i < r.length → r.getD ((i + 1) % r.length) 0 ∈ sc (gr l) (r.getD i 0)
theorem last_at (way : List Nat) : way.getLastD 0 = way.getD (way.length - 1) 0 := by
  rw [List.getLastD_eq_getLast?, List.getD_eq_getElem?_getD, List.getLast?_eq_getElem?]
theorem ringN_facts (hp : pureB l = true) : ∀ k (way r : List Nat), Cy.ringN k (gr l) (dmd l) way = some r → way ≠ [] → (∀ u ∈ way, Bad (gr l) u) → way.Nodup → (∀ i, i + 1 < way.length → way.getD (i + 1) 0 ∈ sc (gr l) (way.getD i 0)) → Ringly (l := l) r := by
  intro k
  induction k with
  | zero => intro way r h; cases h
  | succ k ih =>
    intro way r h hne hb hn hc
    simp only [Cy.ringN] at h
    cases hf : Cy.firstIn (dmd l) ((gr l).getD (way.getLastD 0) []) with
    | none => rw [hf] at h; cases h
    | some i =>
      rw [hf] at h
      dsimp only at h
      have hat := Cy.firstIn_at hf
      obtain ⟨t, ht⟩ : ∃ t, t = ((gr l).getD (way.getLastD 0) []).getD i 0 := ⟨_, rfl⟩
      rw [← ht] at h hat
      have hbt := (dmd_iff hp _).1 hat.2
      have hts : t ∈ sc (gr l) (way.getLastD 0) := by
        rw [ht, List.getD_eq_getElem?_getD, List.getElem?_eq_getElem hat.1]
        exact List.getElem_mem hat.1
      rw [last_at] at hts
      have hwl := nodup_64 hn (fun u hu => bad_64 hp (hb u hu))
      have hpos : 0 < way.length := List.length_pos_iff.2 hne
      by_cases c : way.contains t = true
      · rw [if_pos c] at h
        injection h with h
        subst h
        have hm : t ∈ way := by simpa using c
        have hj : way.idxOf t < way.length := List.idxOf_lt_length_of_mem hm
        have hjt : way[way.idxOf t] = t := List.getElem_idxOf hj
        obtain ⟨j, hje⟩ : ∃ j, j = way.idxOf t := ⟨_, rfl⟩
        have hg : ∀ q, (way.drop j).getD q 0 = way.getD (j + q) 0 := by
          intro q
          rw [List.getD_eq_getElem?_getD, List.getD_eq_getElem?_getD, List.getElem?_drop]
        rw [← hje] at hj ⊢
        have hj0 : way.getD j 0 = t := by
          rw [List.getD_eq_getElem?_getD, List.getElem?_eq_getElem hj]
          simp only [hje, hjt, Option.getD_some]
        refine ⟨fun e => ?_, by rw [List.length_drop]; omega, fun u hu => hb u (List.mem_of_mem_drop hu), fun q hq => ?_⟩
        · have := congrArg List.length e
          rw [List.length_drop, List.length_nil] at this
          omega
        · rw [List.length_drop] at hq
          rw [hg, hg, List.length_drop]
          by_cases e : q + 1 < way.length - j
          · rw [Nat.mod_eq_of_lt e]
            exact hc (j + q) (by omega)
          · have e2 : q + 1 = way.length - j := by omega
            rw [e2, Nat.mod_self, Nat.add_zero, hj0]
            have e3 : j + q = way.length - 1 := by omega
            rw [e3]
            exact hts
      · rw [if_neg c] at h
        have hm : t ∉ way := by simpa using c
        refine ih (way ++ [t]) r h (by simp) (fun x hx => ?_) ?_ (fun q hq => ?_)
        · rcases List.mem_append.1 hx with q | q
          · exact hb x q
          · rw [List.mem_singleton.1 q]; exact hbt
        · rw [List.nodup_append]
          refine ⟨hn, by simp, fun a ha b hb2 e => ?_⟩
          rw [List.mem_singleton.1 hb2] at e
          rw [e] at ha
          exact hm ha
        · rw [List.length_append, List.length_singleton] at hq
          have h1 : (way ++ [t]).getD q 0 = way.getD q 0 := by
            rw [List.getD_eq_getElem?_getD, List.getD_eq_getElem?_getD, List.getElem?_append_left (by omega)]
          rw [h1]
          by_cases e : q + 1 < way.length
          · have h2 : (way ++ [t]).getD (q + 1) 0 = way.getD (q + 1) 0 := by
              rw [List.getD_eq_getElem?_getD, List.getD_eq_getElem?_getD, List.getElem?_append_left e]
            rw [h2]
            exact hc q e
          · have e2 : q + 1 = way.length := by omega
            have h2 : (way ++ [t]).getD (q + 1) 0 = t := by
              rw [List.getD_eq_getElem?_getD, e2, List.getElem?_append_right (Nat.le_refl _)]
              simp
            rw [h2, show q = way.length - 1 by omega]
            exact hts
/-- The ring. -/
theorem ring_prog (hs : Small l) (hp : pureB l = true) : ∃ r : List Nat, Evt (fun k => cycle_Ring.f k l) (Cy.ints r) ∧ (dmd l = 0 → r = []) ∧ (dmd l ≠ 0 → Ringly (l := l) r ∧ Cy.ringN 65 (gr l) (dmd l) [Lib.ctz 64 (dmd l)] = some r) ∧ r.length ≤ 64 := by
  have hD := dmd_lt hp
  have htop : Bt.top = 18446744073709551616 := rfl
  have h70 : l.length ≤ 1000000 := by have := pure_len hp; omega
  have hd := Doomed_f hs h70
  rw [if_pos hp] at hd
  by_cases h0 : dmd l = 0
  · refine ⟨[], ?_, fun _ => rfl, fun h => absurd h0 h, by simp⟩
    refine Evt.of (fun k => rfl) (Evt.bind hd (g := fun k (d : Int × Bool) => if d.2 = true then if d.1 = 0 then some [] else (Cy.nexts k l).bind fun nx => if Cy.okG nx ∧ 0 ≤ d.1 ∧ d.1 < 18446744073709551616 ∧ Lib.ctz 64 d.1.toNat < nx.length then (Cy.ringN 65 (Cy.nats nx) d.1.toNat [Lib.ctz 64 d.1.toNat]).map Cy.ints else none else some []) (Evt.const fun k => ?_))
    dsimp only
    rw [if_pos rfl, if_pos (by omega)]
    rfl
  · obtain ⟨rest, hlow⟩ := low_least hD h0
    have hF : (dmd l).testBit (Lib.ctz 64 (dmd l)) = true := by
      have : Lib.ctz 64 (dmd l) ∈ Gr.low (dmd l) 64 := by rw [hlow]; simp
      exact (Gr.mem_low.1 this).2
    have hFb := (dmd_iff hp _).1 hF
    have hFl : Lib.ctz 64 (dmd l) < l.length := by have := hFb.lt; rwa [gr_len] at this
    obtain ⟨r, hr⟩ := ringN_some hp 65 [Lib.ctz 64 (dmd l)] (by simp) (by simp) (fun u hu => by rw [List.mem_singleton.1 hu]; exact hFb) (by simp)
    have hfa := ringN_facts hp 65 _ r hr (by simp) (fun u hu => by rw [List.mem_singleton.1 hu]; exact hFb) (by simp) (fun i hi => by simp at hi)
    refine ⟨r, ?_, fun h => absurd h h0, fun _ => ⟨hfa, hr⟩, hfa.len⟩
    refine Evt.of (fun k => rfl) (Evt.bind hd (g := fun k (d : Int × Bool) => if d.2 = true then if d.1 = 0 then some [] else (Cy.nexts k l).bind fun nx => if Cy.okG nx ∧ 0 ≤ d.1 ∧ d.1 < 18446744073709551616 ∧ Lib.ctz 64 d.1.toNat < nx.length then (Cy.ringN 65 (Cy.nats nx) d.1.toNat [Lib.ctz 64 d.1.toNat]).map Cy.ints else none else some []) ?_)
    refine Evt.of (fun k => by rw [if_pos rfl, if_neg (by dsimp only; omega)]) (Evt.bind (nexts_f hs (pure_pn hp)) (g := fun k nx => if Cy.okG nx ∧ 0 ≤ ((dmd l : Nat) : Int) ∧ ((dmd l : Nat) : Int) < 18446744073709551616 ∧ Lib.ctz 64 ((dmd l : Nat) : Int).toNat < nx.length then (Cy.ringN 65 (Cy.nats nx) ((dmd l : Nat) : Int).toNat [Lib.ctz 64 ((dmd l : Nat) : Int).toNat]).map Cy.ints else none) (Evt.const fun k => ?_))
    rw [Int.toNat_natCast, if_pos ⟨okG_succ hp, by omega, by omega, by rw [List.length_map]; exact hFl⟩, nats_succ, hr]
    rfl
end
theorem Ring_none {l : List S44} (hs : Small l) (h70 : l.length ≤ 1000000) (hp : pureB l = false) : Evt (fun k => cycle_Ring.f k l) [] := by
  have hd := Doomed_f hs h70
  rw [if_neg (by rw [hp]; decide)] at hd
  refine Evt.of (fun k => rfl) (Evt.bind hd (g := fun k (d : Int × Bool) => if d.2 = true then if d.1 = 0 then some [] else (Cy.nexts k l).bind fun nx => if Cy.okG nx ∧ 0 ≤ d.1 ∧ d.1 < 18446744073709551616 ∧ Lib.ctz 64 d.1.toNat < nx.length then (Cy.ringN 65 (Cy.nats nx) d.1.toNat [Lib.ctz 64 d.1.toNat]).map Cy.ints else none else some []) (Evt.const fun k => ?_))
  rfl
end Go.Proofs.YtbfbegleffkafaaDoor.Ce
