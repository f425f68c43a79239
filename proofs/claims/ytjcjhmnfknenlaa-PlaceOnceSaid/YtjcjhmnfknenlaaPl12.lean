/- Places: each thread stands once, whatever is called. Conditions: none. -/
import Derived.Test.YtjcjhmnfknenlaaPl11
namespace Go.Proofs.Ytjcjhmnfknenlaa.Pl
open Go.RowKit Go.Proofs.Ytjcjhmnfknenlaa.PPlaceOnce Go.Proofs.YtjcjhmnfknenlaaW.PrintWords Go.Proofs.YtjcjhmnfknenlaaW.PrintLast
open Rg (refDo)
set_option linter.unusedVariables false
set_option linter.unusedSimpArgs false

/-- How many stand in rows. -/
def tot (A : Pa) : Nat := A.gl.length + sumN (fun i => (A.own i).length) A.n
theorem tot_up (A : Pa) {i : Nat} (hi : i < A.n) (l : List Int) : tot { A with own := up A.own i l } + (A.own i).length = tot A + l.length := by
  have e := sumN_up (fun j => (A.own j).length) (fun j => (up A.own i l j).length) hi (fun j hj => by rw [up_ne _ _ hj])
  rw [up_same] at e
  show A.gl.length + sumN (fun j => (up A.own i l j).length) A.n + _ = A.gl.length + sumN (fun j => (A.own j).length) A.n + _
  omega
section
variable {A : Pa}
theorem fetch_fail {i : Nat} (hi : i < A.n) (hr : A.runs i = 0) (d : Int) (h : nextA A i d = (A, -1, 0)) : fetchA A (i : Int) d = (A, -1, 0) := by
  unfold fetchA
  rw [if_pos ⟨by omega, by omega, by rw [Int.toNat_natCast]; exact hr⟩, Int.toNat_natCast, h, if_neg (show ¬ (0 : Int) < 0 by decide)]
theorem fetch_some {i : Nat} (hi : i < A.n) (hr : A.runs i = 0) (d : Int) {A1 : Pa} {t : Nat} {f : Int} (hf : 0 < f) (h : nextA A i d = (A1, (t : Int), f)) :
    fetchA A (i : Int) d = ({ A1 with runs := up A1.runs i ((t : Int) + 1), work := up A1.work i 0, wh := up A1.wh t 1 }, (t : Int), f) := by
  unfold fetchA
  rw [if_pos ⟨by omega, by omega, by rw [Int.toNat_natCast]; exact hr⟩, Int.toNat_natCast, h, if_pos (show 0 < (A1, ((t : Nat) : Int), f).2.2 from hf)]
  rfl
/-- What Fetch comes to. -/
theorem fetch_spec (h : Inv A) {i : Nat} (hi : i < A.n) (hr : A.runs i = 0) (d : Int) :
    (fetchA A (i : Int) d = (A, -1, 0) ∧ (A.own i).length = 0 ∧ A.gl.length = 0) ∨
    ∃ (B : Pa) (t : Nat) (f : Int), fetchA A (i : Int) d = (B, (t : Int), f) ∧ (0 < f ∧ f ≤ 3) ∧ t < 64 ∧ (A.wh t = 2 ∨ A.wh t = 3) ∧ Inv B ∧ B.n = A.n ∧ B.runs = up A.runs i ((t : Int) + 1) ∧ B.wh = up A.wh t 1 ∧ tot B + 1 = tot A ∧ B.work = up A.work i 0 := by
  by_cases h1 : (A.own i).length = 0
  · by_cases h2 : A.gl.length = 0
    · by_cases h3 : kOf A d ≠ i ∧ ¬ (A.own (kOf A d)).length = 0
      · have hk : kOf A d < A.n := Nat.mod_lt _ h.pos
        have hm := getD_mem (l := A.own (kOf A d)) (k := 0) (Nat.pos_of_ne_zero h3.2)
        obtain ⟨h4, h5⟩ := h.in_own hk hm
        obtain ⟨t, ht⟩ : ∃ t : Nat, (A.own (kOf A d)).getD 0 0 = (t : Int) := ⟨_, (Int.toNat_of_nonneg h4.1).symm⟩
        have hN : nextA A i d = ({ A with own := up A.own (kOf A d) ((A.own (kOf A d)).drop 1) }, (t : Int), 3) := by
          unfold nextA
          rw [if_neg (fun z => z h1), if_neg (fun z => z h2), if_pos h3, ht]
        rw [ht] at h4 h5
        rw [Int.toNat_natCast] at h5
        have h4' := h4
        unfold rg at h4'
        refine .inr ⟨_, t, 3, fetch_some hi hr d (by decide) hN, ⟨by decide, by decide⟩, by omega, .inl h5, ?_, rfl, rfl, rfl, ?_, rfl⟩
        · refine h.take hi hr (t := t) (by omega) rfl rfl rfl (.inl ⟨h5, fun x => ?_, fun x => rfl⟩)
          have e := cO_up A hk ((A.own (kOf A d)).drop 1) x
          have e2 := count_first h3.2 x
          rw [ht] at e2
          show cO A x = cO { A with own := up A.own (kOf A d) ((A.own (kOf A d)).drop 1) } x + _
          omega
        · have e := tot_up A hk ((A.own (kOf A d)).drop 1)
          rw [List.length_drop] at e
          show tot { A with own := up A.own (kOf A d) ((A.own (kOf A d)).drop 1) } + 1 = _
          have := h3.2
          omega
      · exact .inl ⟨fetch_fail hi hr d (by unfold nextA; rw [if_neg (fun z => z h1), if_neg (fun z => z h2), if_neg h3]), h1, h2⟩
    · have hm := getD_mem (l := A.gl) (k := 0) (Nat.pos_of_ne_zero h2)
      obtain ⟨h4, h5⟩ := h.in_gl hm
      obtain ⟨t, ht⟩ : ∃ t : Nat, A.gl.getD 0 0 = (t : Int) := ⟨_, (Int.toNat_of_nonneg h4.1).symm⟩
      have hN : nextA A i d = ({ A with gl := A.gl.drop 1 }, (t : Int), 2) := by
        unfold nextA
        rw [if_neg (fun z => z h1), if_pos h2, ht]
      rw [ht] at h4 h5
      rw [Int.toNat_natCast] at h5
      have h4' := h4
      unfold rg at h4'
      refine .inr ⟨_, t, 2, fetch_some hi hr d (by decide) hN, ⟨by decide, by decide⟩, by omega, .inr h5, ?_, rfl, rfl, rfl, ?_, rfl⟩
      · refine h.take hi hr (t := t) (by omega) rfl rfl rfl (.inr ⟨h5, fun x => ?_, fun x => rfl⟩)
        have e2 := count_first h2 x
        rw [ht] at e2
        exact e2
      · show (A.gl.drop 1).length + sumN (fun i => (A.own i).length) A.n + 1 = A.gl.length + sumN (fun i => (A.own i).length) A.n
        rw [List.length_drop]
        omega
  · have hm := getD_mem (l := A.own i) (k := (A.own i).length - 1) (by omega)
    obtain ⟨h4, h5⟩ := h.in_own hi hm
    obtain ⟨t, ht⟩ : ∃ t : Nat, (A.own i).getD ((A.own i).length - 1) 0 = (t : Int) := ⟨_, (Int.toNat_of_nonneg h4.1).symm⟩
    have hN : nextA A i d = ({ A with own := up A.own i ((A.own i).take ((A.own i).length - 1)) }, (t : Int), 1) := by
      unfold nextA
      rw [if_pos h1, ht]
    rw [ht] at h4 h5
    rw [Int.toNat_natCast] at h5
    have h4' := h4
    unfold rg at h4'
    refine .inr ⟨_, t, 1, fetch_some hi hr d (by decide) hN, ⟨by decide, by decide⟩, by omega, .inl h5, ?_, rfl, rfl, rfl, ?_, rfl⟩
    · refine h.take hi hr (t := t) (by omega) rfl rfl rfl (.inl ⟨h5, fun x => ?_, fun x => rfl⟩)
      have e := cO_up A hi ((A.own i).take ((A.own i).length - 1)) x
      have e2 := count_last h1 x
      rw [ht] at e2
      show cO A x = cO { A with own := up A.own i ((A.own i).take ((A.own i).length - 1)) } x + _
      omega
    · have e := tot_up A hi ((A.own i).take ((A.own i).length - 1))
      rw [List.length_take] at e
      show tot { A with own := up A.own i ((A.own i).take ((A.own i).length - 1)) } + 1 = _
      omega
theorem Inv.fetch (h : Inv A) (x d : Int) : Inv (fetchA A x d).1 ∧ (fetchA A x d).1.n = A.n ∧ ∀ j, (fetchA A x d).1.work j = A.work j ∨ (fetchA A x d).1.work j = 0 := by
  by_cases c : 0 ≤ x ∧ x < (A.n : Int) ∧ A.runs x.toNat = 0
  · obtain ⟨i, rfl⟩ : ∃ i : Nat, x = (i : Int) := ⟨x.toNat, by omega⟩
    rw [Int.toNat_natCast] at c
    rcases fetch_spec h (by omega) c.2.2 d with ⟨e, _⟩ | ⟨B, t, f, e, _, _, _, hB, hn, _, _, _, hw⟩
    · rw [e]; exact ⟨h, rfl, fun j => .inl rfl⟩
    · rw [e]
      refine ⟨hB, hn, fun j => ?_⟩
      show B.work j = _ ∨ B.work j = 0
      rw [hw]
      unfold up
      split
      · exact .inr rfl
      · exact .inl rfl
  · have e : fetchA A x d = (A, -1, 0) := if_neg c
    rw [e]
    exact ⟨h, rfl, fun j => .inl rfl⟩
theorem wo_count (l : List Int) (t x : Int) : (wo l t).count x = if x = t then 0 else l.count x := by
  unfold wo
  by_cases e : x = t
  · subst e
    rw [if_pos rfl]
    apply List.count_eq_zero.2
    intro m
    rw [List.mem_filter] at m
    simp at m
  · rw [if_neg e]
    exact List.count_filter (by simp [e])
theorem Inv.drop (h : Inv A) (t : Int) : Inv (dropA A t) := by
  unfold dropA
  split
  · exact h
  · rename_i e0
    have ht : 0 ≤ t ∧ t < 64 := Classical.byContradiction fun z => e0 (by unfold wher; rw [if_neg z])
    obtain ⟨u, rfl⟩ : ∃ u : Nat, t = (u : Int) := ⟨t.toNat, by omega⟩
    have hu : u < 64 := by omega
    have hwu : wher A (u : Int) = A.wh u := by unfold wher; rw [if_pos ht, Int.toNat_natCast]
    rw [hwu] at e0 ⊢
    have z : ∀ v : Int, v ≠ A.wh u → at2 A (u : Int) v = 0 := fun v hv => if_neg (fun z => hv (by have h5 := z.2; rw [Int.toNat_natCast] at h5; exact h5.symm))
    have hu0 : ((u : Int)).toNat = u := Int.toNat_natCast u
    split
    · rename_i e1
      unfold noWh
      rw [hu0]
      refine ⟨fun j hj => ?_, wh_up h.wh u (by decide), fun y hy => ?_, fun y => ?_, fun y => ?_, h.pos⟩
      · show Rg64 (if j < A.n ∧ A.runs j = (u : Int) + 1 then 0 else A.runs j)
        split
        · exact ⟨by decide, by decide⟩
        · exact h.runs j hj
      · rw [at2_up A _ 0 hu rfl]
        show sumN (fun i => if (if i < A.n ∧ A.runs i = (u : Int) + 1 then 0 else A.runs i) = y + 1 then 1 else 0) A.n = _
        split
        · rename_i q
          subst q
          rw [if_neg (by decide), sumN_congr (g := fun _ => 0) (fun i hi => ?_), sumN_zero]
          by_cases c : A.runs i = (u : Int) + 1
          · rw [show (if i < A.n ∧ A.runs i = (u : Int) + 1 then (0 : Int) else A.runs i) = 0 from if_pos ⟨hi, c⟩, if_neg (by omega)]
          · rw [show (if i < A.n ∧ A.runs i = (u : Int) + 1 then (0 : Int) else A.runs i) = A.runs i from if_neg (fun z => c z.2), if_neg c]
        · rename_i q
          rw [← h.r y hy]
          refine sumN_congr (fun i hi => ?_)
          by_cases c : A.runs i = (u : Int) + 1
          · rw [show (if i < A.n ∧ A.runs i = (u : Int) + 1 then (0 : Int) else A.runs i) = 0 from if_pos ⟨hi, c⟩, if_neg (by omega), if_neg (by omega)]
          · rw [show (if i < A.n ∧ A.runs i = (u : Int) + 1 then (0 : Int) else A.runs i) = A.runs i from if_neg (fun z => c z.2)]
      · rw [at2_up A _ 0 hu rfl]
        show cO A y = _
        rw [h.o]
        split
        · rename_i e; subst e; rw [z 2 (by omega)]; rfl
        · rfl
      · rw [at2_up A _ 0 hu rfl]
        show cG A y = _
        rw [h.g]
        split
        · rename_i e; subst e; rw [z 3 (by omega)]; rfl
        · rfl
    · rename_i e1
      split
      · rename_i e2
        unfold noWh
        rw [hu0]
        refine ⟨h.runs, wh_up h.wh u (by decide), fun y hy => ?_, fun y => ?_, fun y => ?_, h.pos⟩
        · rw [at2_up A _ 0 hu rfl]
          show cR A y = _
          rw [h.r y hy]
          split
          · rename_i e; subst e; rw [z 1 (by omega)]; rfl
          · rfl
        · rw [at2_up A _ 0 hu rfl]
          show sumN (fun i => (if i < A.n then wo (A.own i) (u : Int) else A.own i).count y) A.n = _
          rw [sumN_congr (g := fun i => if y = (u : Int) then 0 else (A.own i).count y) (fun i hi => by rw [if_pos hi, wo_count])]
          split
          · rw [sumN_zero]; rfl
          · exact h.o y
        · rw [at2_up A _ 0 hu rfl]
          show cG A y = _
          rw [h.g]
          split
          · rename_i e; subst e; rw [z 3 (by omega)]; rfl
          · rfl
      · rename_i e2
        have e3 : A.wh u = 3 := by have := h.wh u hu; omega
        unfold noWh
        rw [hu0]
        refine ⟨h.runs, wh_up h.wh u (by decide), fun y hy => ?_, fun y => ?_, fun y => ?_, h.pos⟩
        · rw [at2_up A _ 0 hu rfl]
          show cR A y = _
          rw [h.r y hy]
          split
          · rename_i e; subst e; rw [z 1 (by omega)]; rfl
          · rfl
        · rw [at2_up A _ 0 hu rfl]
          show cO A y = _
          rw [h.o]
          split
          · rename_i e; subst e; rw [z 2 (by omega)]; rfl
          · rfl
        · rw [at2_up A _ 0 hu rfl]
          show (wo A.gl (u : Int)).count y = _
          rw [wo_count]
          split
          · rfl
          · exact h.g y
theorem inv0 {n : Nat} (h0 : 0 < n) : Inv (A0 n) := by
  have hz : ∀ x v : Int, v ≠ 0 → at2 (A0 n) x v = 0 := fun x v hv => if_neg (fun z => hv z.2.symm)
  refine ⟨fun i hi => (show (0 : Int) ≤ 0 ∧ (0 : Int) ≤ 64 by decide), fun t ht => (show (0 : Int) ≤ 0 ∧ (0 : Int) ≤ 3 by decide), fun x hx => ?_, fun x => ?_, fun x => ?_, h0⟩
  · rw [hz x 1 (by decide)]
    show sumN (fun i => if (0 : Int) = x + 1 then 1 else 0) n = 0
    rw [sumN_congr (g := fun _ => 0) (fun i hi => if_neg (by omega)), sumN_zero]
  · rw [hz x 2 (by decide)]
    show sumN (fun i => ([] : List Int).count x) n = 0
    rw [sumN_congr (g := fun _ => 0) (fun i hi => List.count_nil), sumN_zero]
  · rw [hz x 3 (by decide)]
    exact List.count_nil
def WB (m : Int) (A : Pa) : Prop := ∀ i, i < A.n → 0 ≤ A.work i ∧ A.work i ≤ m
theorem Inv.do_ (h : Inv A) {m : Int} (hw : WB m A) (hm : 0 ≤ m) (k x t : Int) : Inv (doA A k x t).1 ∧ (doA A k x t).1.n = A.n ∧ WB (m + 1) (doA A k x t).1 := by
  have hw1 : WB (m + 1) A := fun i hi => ⟨(hw i hi).1, by have := (hw i hi).2; omega⟩
  have same : ∀ B : Pa, B.n = A.n → B.work = A.work → WB (m + 1) B := fun B hn hwk i hi => by
    rw [hwk]; exact hw1 i (by omega)
  unfold doA
  split
  · have hn : (readyA A x t).n = A.n ∧ (readyA A x t).work = A.work := by
      unfold readyA
      split
      · split <;> exact ⟨rfl, rfl⟩
      · exact ⟨rfl, rfl⟩
    exact ⟨h.ready x t, hn.1, same _ hn.1 hn.2⟩
  · split
    · obtain ⟨h1, h2, h3⟩ := h.fetch x t
      refine ⟨h1, h2, fun i hi => ?_⟩
      rcases h3 i with e | e
      · rw [e]; exact hw1 i (by omega)
      · rw [e]; exact ⟨by omega, by omega⟩
    · split
      · have hn : (putA A x).n = A.n ∧ (putA A x).work = A.work := by
          unfold putA
          split <;> exact ⟨rfl, rfl⟩
        exact ⟨h.put x, hn.1, same _ hn.1 hn.2⟩
      · split
        · have hn : (leaveA A x).n = A.n ∧ (leaveA A x).work = A.work := by
            unfold leaveA
            split <;> exact ⟨rfl, rfl⟩
          exact ⟨h.leave x, hn.1, same _ hn.1 hn.2⟩
        · split
          · have hn : (dropA A t).n = A.n ∧ (dropA A t).work = A.work := by
              unfold dropA
              split
              · exact ⟨rfl, rfl⟩
              · split
                · exact ⟨rfl, rfl⟩
                · split <;> exact ⟨rfl, rfl⟩
            exact ⟨h.drop t, hn.1, same _ hn.1 hn.2⟩
          · have hn : (workA A x).n = A.n := by
              unfold workA
              split <;> rfl
            refine ⟨h.work x, hn, fun i hi => ?_⟩
            have hi' : i < A.n := by
              have h1 : i < (workA A x).n := hi
              rwa [hn] at h1
            clear hi
            have hi := hi'
            show 0 ≤ (workA A x).work i ∧ (workA A x).work i ≤ m + 1
            unfold workA
            split
            · show 0 ≤ up A.work x.toNat (A.work x.toNat + 1) i ∧ up A.work x.toNat (A.work x.toNat + 1) i ≤ m + 1
              by_cases e : i = x.toNat
              · subst e
                rw [up_same]
                have := hw x.toNat (by omega)
                omega
              · rw [up_ne _ _ e]
                exact hw1 i (by omega)
            · exact hw1 i (by omega)
theorem inv_tot (h : Inv A) : tot A ≤ 64 := by
  unfold tot
  rw [len_count (fun t ht => (h.in_gl ht).1)]
  have e : ∀ n, n ≤ A.n → sumN (fun i => (A.own i).length) n = sumN (fun x => sumN (fun i => (A.own i).count (x : Int)) n) 64 := by
    intro n
    induction n with
    | zero => intro _; simp only [sumN, sumN_zero]
    | succ n ih =>
      intro hn
      simp only [sumN]
      rw [ih (by omega), len_count (fun t ht => (h.in_own (by omega) ht).1)]
      exact (sumN_add _ _ 64).symm
  rw [e A.n (Nat.le_refl _), ← sumN_add, ← sumN_one 64]
  refine Nat.le_trans (sumN_le (g := fun _ => 1) (fun x hx => ?_)) (by rw [sumN_one, sumN_one]; exact Nat.le_refl _)
  have h1 : cG A (x : Int) = at2 A (x : Int) 3 := h.g _
  have h2 : cO A (x : Int) = at2 A (x : Int) 2 := h.o _
  show cG A (x : Int) + cO A (x : Int) ≤ 1
  rw [h1, h2]
  unfold at2
  split
  · rename_i c
    rw [if_neg (fun z => by have := z.2; have := c.2; omega)]
    omega
  · split <;> omega
end
end Go.Proofs.Ytjcjhmnfknenlaa.Pl
