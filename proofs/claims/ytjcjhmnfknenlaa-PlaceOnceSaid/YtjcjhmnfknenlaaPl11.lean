/- Places: each thread stands once. Conditions: none. -/
import Derived.Test.YtjcjhmnfknenlaaPl10
namespace Go.Proofs.Ytjcjhmnfknenlaa.Pl
open Go.RowKit Go.Proofs.Ytjcjhmnfknenlaa.PPlaceOnce Go.Proofs.YtjcjhmnfknenlaaW.PrintWords Go.Proofs.YtjcjhmnfknenlaaW.PrintLast
open Rg (refDo)
set_option linter.unusedVariables false
set_option linter.unusedSimpArgs false

def sumN (f : Nat → Nat) : Nat → Nat
  | 0 => 0
  | i + 1 => sumN f i + f i
theorem sumN_congr {f g : Nat → Nat} : ∀ {n : Nat}, (∀ i, i < n → f i = g i) → sumN f n = sumN g n
  | 0, _ => rfl
  | n + 1, h => by
    simp only [sumN]
    rw [sumN_congr (n := n) (fun i hi => h i (by omega)), h n (by omega)]
theorem sumN_up (f g : Nat → Nat) {n i : Nat} (hi : i < n) (h : ∀ j, j ≠ i → g j = f j) : sumN g n + f i = sumN f n + g i := by
  induction n with
  | zero => omega
  | succ n ih =>
    simp only [sumN]
    by_cases e : i = n
    · subst e
      rw [sumN_congr (f := g) (g := f) (n := i) (fun j hj => h j (by omega))]
      omega
    · have := ih (by omega)
      rw [h n (fun z => e z.symm)]
      omega
theorem sumN_add (f g : Nat → Nat) : ∀ n, sumN (fun i => f i + g i) n = sumN f n + sumN g n
  | 0 => rfl
  | n + 1 => by
    simp only [sumN]
    rw [sumN_add f g n]
    omega
theorem sumN_zero : ∀ n, sumN (fun _ => 0) n = 0
  | 0 => rfl
  | n + 1 => by simp only [sumN]; rw [sumN_zero n]
theorem sumN_le {f g : Nat → Nat} : ∀ {n : Nat}, (∀ i, i < n → f i ≤ g i) → sumN f n ≤ sumN g n
  | 0, _ => Nat.le_refl _
  | n + 1, h => by
    simp only [sumN]
    have := sumN_le (n := n) (fun i hi => h i (by omega))
    have := h n (by omega)
    omega
theorem sumN_one : ∀ n, sumN (fun _ => 1) n = n
  | 0 => rfl
  | n + 1 => by simp only [sumN]; rw [sumN_one n]
theorem sumN_get {f : Nat → Nat} {n i : Nat} (hi : i < n) : f i ≤ sumN f n := by
  induction n with
  | zero => omega
  | succ n ih =>
    simp only [sumN]
    by_cases e : i = n
    · subst e; omega
    · have := ih (by omega); omega
theorem sumN_eq_zero {f : Nat → Nat} {n : Nat} (h : sumN f n = 0) {i : Nat} (hi : i < n) : f i = 0 := by
  have := sumN_get (f := f) hi
  omega
def rg (x : Int) : Prop := 0 ≤ x ∧ x < 64
instance (x : Int) : Decidable (rg x) := by unfold rg; exact inferInstance
theorem len_count : ∀ {l : List Int}, (∀ t ∈ l, rg t) → l.length = sumN (fun x => l.count (x : Int)) 64
  | [], _ => by simp only [List.count_nil, sumN_zero, List.length_nil]
  | a :: l, h => by
    have ih := len_count (l := l) (fun t ht => h t (List.mem_cons_of_mem _ ht))
    have ha : rg a := h a List.mem_cons_self
    obtain ⟨k, rfl⟩ : ∃ k : Nat, a = (k : Int) := ⟨a.toNat, by have := ha.1; omega⟩
    have hk : k < 64 := by have := ha.2; omega
    have e := sumN_up (fun x => l.count (x : Int)) (fun x => ((k : Int) :: l).count (x : Int)) hk (fun j hj => List.count_cons_of_ne (fun z => hj (by omega)))
    simp only [List.count_cons_self] at e
    rw [List.length_cons]
    omega
/-- How often a thread stands in workers' rows, in the row of all, and is run. -/
def cO (A : Pa) (x : Int) : Nat := sumN (fun i => (A.own i).count x) A.n
def cG (A : Pa) (x : Int) : Nat := A.gl.count x
def cR (A : Pa) (x : Int) : Nat := sumN (fun i => if A.runs i = x + 1 then 1 else 0) A.n
def at2 (A : Pa) (x : Int) (v : Int) : Nat := if rg x ∧ A.wh x.toNat = v then 1 else 0
structure Inv (A : Pa) : Prop where
  runs : ∀ i, i < A.n → Rg64 (A.runs i)
  wh : ∀ t, t < 64 → 0 ≤ A.wh t ∧ A.wh t ≤ 3
  r : ∀ x, 0 ≤ x → cR A x = at2 A x 1
  o : ∀ x, cO A x = at2 A x 2
  g : ∀ x, cG A x = at2 A x 3
  pos : 0 < A.n
theorem at2_pos {A : Pa} {x v : Int} (h : 0 < at2 A x v) : rg x ∧ A.wh x.toNat = v := by
  unfold at2 at h
  split at h
  · assumption
  · omega
theorem at2_le (A : Pa) (x v : Int) : at2 A x v ≤ 1 := by unfold at2; split <;> omega
section
variable {A : Pa}
theorem Inv.in_own (h : Inv A) {i : Nat} (hi : i < A.n) {t : Int} (ht : t ∈ A.own i) : rg t ∧ A.wh t.toNat = 2 := by
  apply at2_pos
  rw [← h.o]
  have h1 : 0 < (A.own i).count t := List.count_pos_iff.2 ht
  have h2 := sumN_get (f := fun i => (A.own i).count t) hi
  exact Nat.lt_of_lt_of_le h1 h2
theorem Inv.in_gl (h : Inv A) {t : Int} (ht : t ∈ A.gl) : rg t ∧ A.wh t.toNat = 3 := by
  apply at2_pos
  rw [← h.g]
  exact List.count_pos_iff.2 ht
theorem Inv.in_runs (h : Inv A) {i : Nat} (hi : i < A.n) {t : Int} (h0 : 0 ≤ t) (ht : A.runs i = t + 1) : rg t ∧ A.wh t.toNat = 1 := by
  apply at2_pos
  rw [← h.r t h0]
  have h2 := sumN_get (f := fun i => if A.runs i = t + 1 then 1 else 0) hi
  simp only [if_pos ht] at h2
  exact h2
theorem Inv.ok (h : Inv A) : Ok A := ⟨h.runs, h.wh, fun i hi t ht => (h.in_own hi ht).1, fun t ht => (h.in_gl ht).1⟩
theorem Inv.gl_room (h : Inv A) {t : Nat} (ht : t < 64) (hw : A.wh t ≠ 3) : A.gl.length < 64 := by
  rw [len_count (fun t ht => (h.in_gl ht).1)]
  have e := sumN_up (fun x => cG A (x : Int)) (fun x => if x = t then 1 else cG A (x : Int)) ht (fun j hj => if_neg hj)
  have z : cG A (t : Int) = 0 := by
    rw [h.g]
    unfold at2
    rw [if_neg (fun z => hw (by rw [← z.2, Int.toNat_natCast]))]
  have l := sumN_le (f := fun x => if x = t then 1 else cG A (x : Int)) (g := fun _ => 1) (n := 64) (fun i hi => by
    show (if i = t then 1 else cG A (i : Int)) ≤ 1
    split
    · exact Nat.le_refl _
    · rw [h.g]; exact at2_le _ _ _)
  rw [sumN_one] at l
  simp only [if_true] at e
  have e2 : sumN (fun x => A.gl.count (x : Int)) 64 = sumN (fun x => cG A (x : Int)) 64 := rfl
  rw [e2]
  omega
/-! ### what calls do to it -/
theorem at2_up (A B : Pa) {t : Nat} (v : Int) (ht : t < 64) (hw : B.wh = up A.wh t v) (x u : Int) : at2 B x u = if x = (t : Int) then (if v = u then 1 else 0) else at2 A x u := by
  unfold at2
  rw [hw]
  by_cases e : x = (t : Int)
  · subst e
    rw [if_pos rfl, Int.toNat_natCast, up_same]
    have : rg (t : Int) := ⟨by omega, by omega⟩
    by_cases c : v = u
    · rw [if_pos c, if_pos ⟨this, c⟩]
    · rw [if_neg c, if_neg (fun z => c z.2)]
  · rw [if_neg e]
    by_cases hx : rg x
    · have hx' := hx
      unfold rg at hx'
      rw [up_ne _ _ (by omega)]
    · rw [if_neg (fun z => hx z.1), if_neg (fun z => hx z.1)]
theorem wh_up (h : ∀ t, t < 64 → 0 ≤ A.wh t ∧ A.wh t ≤ 3) (t : Nat) {v : Int} (hv : 0 ≤ v ∧ v ≤ 3) : ∀ k, k < 64 → 0 ≤ up A.wh t v k ∧ up A.wh t v k ≤ 3 := by
  intro k hk
  unfold up
  split
  · exact hv
  · exact h k hk
theorem cO_up (A : Pa) {i : Nat} (hi : i < A.n) (l : List Int) (x : Int) : cO { A with own := up A.own i l } x + (A.own i).count x = cO A x + l.count x := by
  have e := sumN_up (fun j => (A.own j).count x) (fun j => (up A.own i l j).count x) hi (fun j hj => by rw [up_ne _ _ hj])
  rw [up_same] at e
  exact e
theorem cR_up (A : Pa) {i : Nat} (hi : i < A.n) (v : Int) (x : Int) : cR { A with runs := up A.runs i v } x + (if A.runs i = x + 1 then 1 else 0) = cR A x + (if v = x + 1 then 1 else 0) := by
  have e := sumN_up (fun j => if A.runs j = x + 1 then 1 else 0) (fun j => if up A.runs i v j = x + 1 then 1 else 0) hi (fun j hj => by rw [up_ne _ _ hj])
  rw [up_same] at e
  exact e
theorem Inv.ready (h : Inv A) (x t : Int) : Inv (readyA A x t) := by
  unfold readyA
  split
  · rename_i hb
    unfold readyB at hb
    simp only [Bool.and_eq_true, decide_eq_true_eq] at hb
    obtain ⟨⟨⟨h0, h1⟩, h2, h3⟩, h4⟩ := hb
    obtain ⟨u, rfl⟩ : ∃ u : Nat, t = (u : Int) := ⟨t.toNat, by omega⟩
    rw [Int.toNat_natCast] at h4
    have hu : u < 64 := by omega
    have hi : x.toNat < A.n := by omega
    rw [Int.toNat_natCast]
    have z : ∀ v : Int, v ≠ 0 → at2 A (u : Int) v = 0 := fun v hv => if_neg (fun z => hv (by have h5 := z.2; rw [Int.toNat_natCast, h4] at h5; exact h5.symm))
    split
    · refine ⟨h.runs, wh_up h.wh u (by decide), fun y hy => ?_, fun y => ?_, fun y => ?_, h.pos⟩
      · rw [at2_up A _ 2 hu rfl]
        show cR A y = _
        rw [h.r y hy]
        split
        · rename_i e; subst e; rw [z 1 (by decide)]; rfl
        · rfl
      · rw [at2_up A _ 2 hu rfl]
        show cO { A with own := up A.own x.toNat (A.own x.toNat ++ [(u : Int)]) } y = _
        have e := cO_up A hi (A.own x.toNat ++ [(u : Int)]) y
        rw [List.count_append, h.o] at e
        split
        · rename_i q; subst q
          rw [z 2 (by decide), List.count_singleton_self] at e
          rw [if_pos rfl]
          omega
        · rename_i q
          have : List.count y [(u : Int)] = 0 := List.count_eq_zero.2 (fun m => q (List.mem_singleton.1 m))
          omega
      · rw [at2_up A _ 2 hu rfl]
        show cG A y = _
        rw [h.g]
        split
        · rename_i e; subst e; rw [z 3 (by decide)]; rfl
        · rfl
    · have hroom : A.gl.length < 64 := h.gl_room hu (by rw [h4]; decide)
      have hgl : backGl A (u : Int) = A.gl ++ [(u : Int)] := by unfold backGl; exact congrArg Prod.fst (ref_room (cap := 64) _ hroom)
      rw [hgl]
      refine ⟨h.runs, wh_up h.wh u (by decide), fun y hy => ?_, fun y => ?_, fun y => ?_, h.pos⟩
      · rw [at2_up A _ 3 hu rfl]
        show cR A y = _
        rw [h.r y hy]
        split
        · rename_i e; subst e; rw [z 1 (by decide)]; rfl
        · rfl
      · rw [at2_up A _ 3 hu rfl]
        show cO A y = _
        rw [h.o]
        split
        · rename_i e; subst e; rw [z 2 (by decide)]; rfl
        · rfl
      · rw [at2_up A _ 3 hu rfl]
        show (A.gl ++ [(u : Int)]).count y = _
        have e := h.g y
        unfold cG at e
        rw [List.count_append, e]
        split
        · rename_i q; subst q
          rw [z 3 (by decide), List.count_singleton_self, if_pos rfl]
        · rename_i q
          have : List.count y [(u : Int)] = 0 := List.count_eq_zero.2 (fun m => q (List.mem_singleton.1 m))
          omega
  · exact h
theorem Inv.on_wh (h : Inv A) {x : Int} (h0 : 0 ≤ on A x) : ∃ (i u : Nat), x = (i : Int) ∧ i < A.n ∧ on A x = (u : Int) ∧ u < 64 ∧ A.runs i = (u : Int) + 1 ∧ A.wh u = 1 := by
  obtain ⟨i, e, hi, ho⟩ := on_pos h0
  have h1 := h.in_runs hi h0 (by omega)
  obtain ⟨h2, h3⟩ := h1
  unfold rg at h2
  refine ⟨i, (on A x).toNat, e, hi, by omega, by omega, by omega, h3⟩
theorem off_aux (h : Inv A) {i u : Nat} (hi : i < A.n) (hu : u < 64) (hr : A.runs i = (u : Int) + 1) (hw : A.wh u = 1) (y : Int) (hy : 0 ≤ y) (v : Int) (hv : v ≠ 1) : cR { A with runs := up A.runs i 0 } y = if y = (u : Int) then (if v = 1 then 1 else 0) else at2 A y 1 := by
  have e := cR_up A hi 0 y
  rw [if_neg (show ¬ (0 : Int) = y + 1 by omega), h.r y hy] at e
  rw [if_neg hv]
  split
  · rename_i q; subst q
    rw [if_pos hr] at e
    have : at2 A (u : Int) 1 = 1 := if_pos ⟨⟨by omega, by omega⟩, by rw [Int.toNat_natCast]; exact hw⟩
    omega
  · rename_i q
    rw [if_neg (by omega)] at e
    omega
theorem Inv.leave (h : Inv A) (x : Int) : Inv (leaveA A x) := by
  unfold leaveA
  split
  · rename_i h0
    obtain ⟨i, u, rfl, hi, ho, hu, hr, hw⟩ := h.on_wh h0
    rw [ho, Int.toNat_natCast, Int.toNat_natCast]
    have z : ∀ v : Int, v ≠ 1 → at2 A (u : Int) v = 0 := fun v hv => if_neg (fun z => hv (by have h5 := z.2; rw [Int.toNat_natCast, hw] at h5; exact h5.symm))
    refine ⟨fun j hj => ?_, wh_up h.wh u (by decide), fun y hy => ?_, fun y => ?_, fun y => ?_, h.pos⟩
    · show Rg64 (up A.runs i 0 j)
      unfold up
      split
      · exact ⟨by decide, by decide⟩
      · exact h.runs j hj
    · rw [at2_up A _ 0 hu rfl]
      exact off_aux h hi hu hr hw y hy 0 (by decide)
    · rw [at2_up A _ 0 hu rfl]
      show cO A y = _
      rw [h.o]
      split
      · rename_i e; subst e; rw [z 2 (by decide)]; rfl
      · rfl
    · rw [at2_up A _ 0 hu rfl]
      show cG A y = _
      rw [h.g]
      split
      · rename_i e; subst e; rw [z 3 (by decide)]; rfl
      · rfl
  · exact h
theorem Inv.put (h : Inv A) (x : Int) : Inv (putA A x) := by
  unfold putA
  split
  · rename_i h0
    obtain ⟨i, u, rfl, hi, ho, hu, hr, hw⟩ := h.on_wh h0
    have hroom : A.gl.length < 64 := h.gl_room hu (by rw [hw]; decide)
    have hgl : backGl A (u : Int) = A.gl ++ [(u : Int)] := by unfold backGl; exact congrArg Prod.fst (ref_room (cap := 64) _ hroom)
    rw [ho, Int.toNat_natCast, Int.toNat_natCast, hgl]
    have z : ∀ v : Int, v ≠ 1 → at2 A (u : Int) v = 0 := fun v hv => if_neg (fun z => hv (by have h5 := z.2; rw [Int.toNat_natCast, hw] at h5; exact h5.symm))
    refine ⟨fun j hj => ?_, wh_up h.wh u (by decide), fun y hy => ?_, fun y => ?_, fun y => ?_, h.pos⟩
    · show Rg64 (up A.runs i 0 j)
      unfold up
      split
      · exact ⟨by decide, by decide⟩
      · exact h.runs j hj
    · rw [at2_up A _ 3 hu rfl]
      exact off_aux h hi hu hr hw y hy 3 (by decide)
    · rw [at2_up A _ 3 hu rfl]
      show cO A y = _
      rw [h.o]
      split
      · rename_i e; subst e; rw [z 2 (by decide)]; rfl
      · rfl
    · rw [at2_up A _ 3 hu rfl]
      show (A.gl ++ [(u : Int)]).count y = _
      have e := h.g y
      unfold cG at e
      rw [List.count_append, e]
      split
      · rename_i q; subst q
        rw [z 3 (by decide), List.count_singleton_self, if_pos rfl]
      · rename_i q
        have : List.count y [(u : Int)] = 0 := List.count_eq_zero.2 (fun m => q (List.mem_singleton.1 m))
        omega
  · exact h
theorem Inv.work (h : Inv A) (x : Int) : Inv (workA A x) := by
  unfold workA
  split
  · exact ⟨h.runs, h.wh, h.r, h.o, h.g, h.pos⟩
  · exact h
theorem count_last {l : List Int} (h : ¬ l.length = 0) (x : Int) : l.count x = (l.take (l.length - 1)).count x + if x = l.getD (l.length - 1) 0 then 1 else 0 := by
  have e : l = l.take (l.length - 1) ++ [l.getD (l.length - 1) 0] := by
    have h1 : l.take (l.length - 1 + 1) = l := by rw [List.take_of_length_le]; omega
    rw [List.take_add_one] at h1
    rw [List.getD_eq_getElem?_getD, List.getElem?_eq_getElem (by omega)] at *
    exact h1.symm
  generalize l.getD (l.length - 1) 0 = y at *
  generalize l.take (l.length - 1) = m at *
  rw [e, List.count_append]
  congr 1
  by_cases q : x = y
  · subst q; rw [if_pos rfl, List.count_singleton_self]
  · rw [if_neg q]; exact List.count_eq_zero.2 (fun m => q (List.mem_singleton.1 m))
theorem count_first {l : List Int} (h : ¬ l.length = 0) (x : Int) : l.count x = (l.drop 1).count x + if x = l.getD 0 0 then 1 else 0 := by
  cases l with
  | nil => exact absurd rfl h
  | cons a l =>
    show (a :: l).count x = l.count x + if x = a then 1 else 0
    rw [List.count_cons]
    by_cases q : x = a
    · subst q; rw [if_pos rfl]; simp
    · rw [if_neg q]
      simp
      exact fun z => q z.symm
/-- A thread is taken out of a row, and is run. -/
theorem Inv.take (h : Inv A) {i : Nat} (hi : i < A.n) (hr : A.runs i = 0) {t : Nat} (ht : t < 64) {B : Pa} (hn : B.n = A.n) (hru : B.runs = up A.runs i ((t : Int) + 1)) (hwh : B.wh = up A.wh t 1)
    (hOG : (A.wh t = 2 ∧ (∀ x, cO A x = cO B x + if x = (t : Int) then 1 else 0) ∧ (∀ x, cG A x = cG B x)) ∨ (A.wh t = 3 ∧ (∀ x, cG A x = cG B x + if x = (t : Int) then 1 else 0) ∧ (∀ x, cO A x = cO B x))) : Inv B := by
  have hRg : ∀ j, j < B.n → Rg64 (B.runs j) := by
    intro j hj
    rw [hru]
    unfold up
    split
    · exact ⟨by omega, by omega⟩
    · exact h.runs j (by omega)
  have hwr : ∀ k, k < 64 → 0 ≤ B.wh k ∧ B.wh k ≤ 3 := by rw [hwh]; exact wh_up h.wh t (by decide)
  have hR : ∀ x, 0 ≤ x → cR B x = at2 B x 1 := by
    intro y hy
    rw [at2_up A B 1 ht hwh]
    have e := cR_up A hi ((t : Int) + 1) y
    have e2 : cR B y = cR { A with runs := up A.runs i ((t : Int) + 1) } y := by
      unfold cR
      rw [hn, hru]
    rw [e2]
    rw [if_neg (show ¬ A.runs i = y + 1 by omega), h.r y hy] at e
    split
    · rename_i q; subst q
      have : at2 A (t : Int) 1 = 0 := if_neg (fun z => by
        have h5 := z.2
        rw [Int.toNat_natCast] at h5
        rcases hOG with ⟨h6, _⟩ | ⟨h6, _⟩ <;> omega)
      rw [if_pos rfl] at e
      rw [if_pos rfl]
      omega
    · rename_i q
      rw [if_neg (by omega)] at e
      omega
  rcases hOG with ⟨h2, hO, hG⟩ | ⟨h2, hG, hO⟩
  · refine ⟨hRg, hwr, hR, fun y => ?_, fun y => ?_, by rw [hn]; exact h.pos⟩
    · rw [at2_up A B 1 ht hwh]
      have e := hO y
      rw [h.o] at e
      split
      · rename_i q; subst q
        have : at2 A (t : Int) 2 = 1 := if_pos ⟨⟨by omega, by omega⟩, by rw [Int.toNat_natCast]; exact h2⟩
        rw [if_pos rfl] at e
        rw [if_neg (by decide)]
        omega
      · rename_i q
        rw [if_neg q] at e
        omega
    · rw [at2_up A B 1 ht hwh, ← hG y, h.g]
      split
      · rename_i q; subst q
        rw [if_neg (by decide)]
        exact if_neg (fun z => by have h5 := z.2; rw [Int.toNat_natCast] at h5; omega)
      · rfl
  · refine ⟨hRg, hwr, hR, fun y => ?_, fun y => ?_, by rw [hn]; exact h.pos⟩
    · rw [at2_up A B 1 ht hwh, ← hO y, h.o]
      split
      · rename_i q; subst q
        rw [if_neg (by decide)]
        exact if_neg (fun z => by have h5 := z.2; rw [Int.toNat_natCast] at h5; omega)
      · rfl
    · rw [at2_up A B 1 ht hwh]
      have e := hG y
      rw [h.g] at e
      split
      · rename_i q; subst q
        have : at2 A (t : Int) 3 = 1 := if_pos ⟨⟨by omega, by omega⟩, by rw [Int.toNat_natCast]; exact h2⟩
        rw [if_pos rfl] at e
        rw [if_neg (by decide)]
        omega
      · rename_i q
        rw [if_neg q] at e
        omega
end
end Go.Proofs.Ytjcjhmnfknenlaa.Pl
