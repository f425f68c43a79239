/- Places: each thread stands once. Conditions: none. -/
import Derived.Test.YtjcjhmnfknenlaaPl10
namespace Go.Proofs.Ytjcjhmnfknenlaa.Pl
open Go.RowKit Go.Proofs.Ytjcjhmnfknenlaa.PPlaceApart Go.Proofs.YtjcjhmnfknenlaaW.PrintWords Go.Proofs.YtjcjhmnfknenlaaW.PrintLast
open Rg (refDo)
set_option linter.unusedVariables false
set_option linter.unusedSimpArgs false

def sumN (f : Nat → Nat) : Nat → Nat
  | 0 => 0
  | i + 1 => sumN f i + f i
theorem sumN_congr {f g : Nat → Nat} : ∀ {n : Nat}, (∀ i, i < n → f i = g i) → sumN f n = sumN g n
  | 0, _ => rfl
  | n + 1, h => by
    simp only [sumN]
    rw [sumN_congr (n := n) (fun i hi => h i (by omega)), h n (by omega)]
theorem sumN_up (f g : Nat → Nat) {n i : Nat} (hi : i < n) (h : ∀ j, j ≠ i → g j = f j) : sumN g n + f i = sumN f n + g i := by
  induction n with
  | zero => omega
  | succ n ih =>
    simp only [sumN]
    by_cases e : i = n
    · subst e
      rw [sumN_congr (f := g) (g := f) (n := i) (fun j hj => h j (by omega))]
      omega
    · have := ih (by omega)
      rw [h n (fun z => e z.symm)]
      omega
theorem sumN_add (f g : Nat → Nat) : ∀ n, sumN (fun i => f i + g i) n = sumN f n + sumN g n
  | 0 => rfl
  | n + 1 => by
    simp only [sumN]
    rw [sumN_add f g n]
    omega
theorem sumN_zero : ∀ n, sumN (fun _ => 0) n = 0
  | 0 => rfl
  | n + 1 => by simp only [sumN]; rw [sumN_zero n]
theorem sumN_le {f g : Nat → Nat} : ∀ {n : Nat}, (∀ i, i < n → f i ≤ g i) → sumN f n ≤ sumN g n
  | 0, _ => Nat.le_refl _
  | n + 1, h => by
    simp only [sumN]
    have := sumN_le (n := n) (fun i hi => h i (by omega))
    have := h n (by omega)
    omega
theorem sumN_one : ∀ n, sumN (fun _ => 1) n = n
  | 0 => rfl
  | n + 1 => by simp only [sumN]; rw [sumN_one n]
theorem sumN_get {f : Nat → Nat} {n i : Nat} (hi : i < n) : f i ≤ sumN f n := by
  induction n with
  | zero => omega
  | succ n ih =>
    simp only [sumN]
    by_cases e : i = n
    · subst e; omega
    · have := ih (by omega); omega
theorem sumN_eq_zero {f : Nat → Nat} {n : Nat} (h : sumN f n = 0) {i : Nat} (hi : i < n) : f i = 0 := by
  have := sumN_get (f := f) hi
  omega
def rg (x : Int) : Prop := 0 ≤ x ∧ x < 64
instance (x : Int) : Decidable (rg x) := by unfold rg; exact inferInstance
theorem len_count : ∀ {l : List Int}, (∀ t ∈ l, rg t) → l.length = sumN (fun x => l.count (x : Int)) 64
  | [], _ => by simp only [List.count_nil, sumN_zero, List.length_nil]
  | a :: l, h => by
    have ih := len_count (l := l) (fun t ht => h t (List.mem_cons_of_mem _ ht))
    have ha : rg a := h a List.mem_cons_self
    obtain ⟨k, rfl⟩ : ∃ k : Nat, a = (k : Int) := ⟨a.toNat, by have := ha.1; omega⟩
    have hk : k < 64 := by have := ha.2; omega
    have e := sumN_up (fun x => l.count (x : Int)) (fun x => ((k : Int) :: l).count (x : Int)) hk (fun j hj => List.count_cons_of_ne (fun z => hj (by omega)))
    simp only [List.count_cons_self] at e
    rw [List.length_cons]
    omega
/-- How often a thread stands in workers' rows, in the row of all, and is run. -/
def cO (A : Pa) (x : Int) : Nat := sumN (fun i => (A.own i).count x) A.n
def cG (A : Pa) (x : Int) : Nat := A.gl.count x
def cR (A : Pa) (x : Int) : Nat := sumN (fun i => if A.runs i = x + 1 then 1 else 0) A.n
def at2 (A : Pa) (x : Int) (v : Int) : Nat := if rg x ∧ A.wh x.toNat = v then 1 else 0
structure Inv (A : Pa) : Prop where
  runs : ∀ i, i < A.n → Rg64 (A.runs i)
  wh : ∀ t, t < 64 → 0 ≤ A.wh t ∧ A.wh t ≤ 3
  r : ∀ x, 0 ≤ x → cR A x = at2 A x 1
  o : ∀ x, cO A x = at2 A x 2
  g : ∀ x, cG A x = at2 A x 3
  pos : 0 < A.n
theorem at2_pos {A : Pa} {x v : Int} (h : 0 < at2 A x v) : rg x ∧ A.wh x.toNat = v := by
  unfold at2 at h
  split at h
  · assumption
  · omega
theorem at2_le (A : Pa) (x v : Int) : at2 A x v ≤ 1 := by unfold at2; split <;> omega
section
variable {A : Pa}
theorem Inv.in_own (h : Inv A) {i : Nat} (hi : i < A.n) {t : Int} (ht : t ∈ A.own i) : rg t ∧ A.wh t.toNat = 2 := by
  apply at2_pos
  rw [← h.o]
  have h1 : 0 < (A.own i).count t := List.count_pos_iff.2 ht
  have h2 := sumN_get (f := fun i => (A.own i).count t) hi
  exact Nat.lt_of_lt_of_le h1 h2
theorem Inv.in_gl (h : Inv A) {t : Int} (ht : t ∈ A.gl) : rg t ∧ A.wh t.toNat = 3 := by
  apply at2_pos
  rw [← h.g]
  exact List.count_pos_iff.2 ht
theorem Inv.in_runs (h : Inv A) {i : Nat} (hi : i < A.n) {t : Int} (h0 : 0 ≤ t) (ht : A.runs i = t + 1) : rg t ∧ A.wh t.toNat = 1 := by
  apply at2_pos
  rw [← h.r t h0]
  have h2 := sumN_get (f := fun i => if A.runs i = t + 1 then 1 else 0) hi
  simp only [if_pos ht] at h2
  exact h2
theorem Inv.ok (h : Inv A) : Ok A := ⟨h.runs, h.wh, fun i hi t ht => (h.in_own hi ht).1, fun t ht => (h.in_gl ht).1⟩
theorem Inv.gl_room (h : Inv A) {t : Nat} (ht : t < 64) (hw : A.wh t ≠ 3) : A.gl.length < 64 := by
  rw [len_count (fun t ht => (h.in_gl ht).1)]
  have e := sumN_up (fun x => cG A (x : Int)) (fun x => if x = t then 1 else cG A (x : Int)) ht (fun j hj => if_neg hj)
  have z : cG A (t : Int) = 0 := by
    rw [h.g]
    unfold at2
    rw [if_neg (fun z => hw (by rw [← z.2, Int.toNat_natCast]))]
  have l := sumN_le (f := fun x => if x = t then 1 else cG A (x : Int)) (g := fun _ => 1) (n := 64) (fun i hi => by
    show (if i = t then 1 else cG A (i : Int)) ≤ 1
    split
    · exact Nat.le_refl _
    · rw [h.g]; exact at2_le _ _ _)
  rw [sumN_one] at l
  simp only [if_true] at e
  have e2 : sumN (fun x => A.gl.count (x : Int)) 64 = sumN (fun x => cG A (x : Int)) 64 := rfl
  rw [e2]
  omega
/-! ### what calls do to it -/
theorem at2_up (A B : Pa) {t : Nat} (v : Int) (ht : t < 64) (hw : B.wh = up A.wh t v) (x u : Int) : at2 B x u = if x = (t : Int) then (if v = u then 1 else 0) else at2 A x u := by
  unfold at2
  rw [hw]
  by_cases e : x = (t : Int)
  · subst e
    rw [if_pos rfl, Int.toNat_natCast, up_same]
    have : rg (t : Int) := ⟨by omega, by omega⟩
    by_cases c : v = u
    · rw [if_pos c, if_pos ⟨this, c⟩]
    · rw [if_neg c, if_neg (fun z => c z.2)]
  · rw [if_neg e]
    by_cases hx : rg x
    · have hx' := hx
      unfold rg at hx'
      rw [up_ne _ _ (by omega)]
    · rw [if_neg (fun z => hx z.1), if_neg (fun z => hx z.1)]
theorem wh_up (h : ∀ t, t < 64 → 0 ≤ A.wh t ∧ A.wh t ≤ 3) (t : Nat) {v : Int} (hv : 0 ≤ v ∧ v ≤ 3) : ∀ k, k < 64 → 0 ≤ up A.wh t v k ∧ up A.wh t v k ≤ 3 := by
  intro k hk
  unfold up
  split
  · exact hv
  · exact h k hk
theorem cO_up (A : Pa) {i : Nat} (hi : i < A.n) (l : List Int) (x : Int) : cO { A with own := up A.own i l } x + (A.own i).count x = cO A x + l.count x := by
  have e := sumN_up (fun j => (A.own j).count x) (fun j => (up A.own i l j).count x) hi (fun j hj => by rw [up_ne _ _ hj])
  rw [up_same] at e
  exact e
theorem cR_up (A : Pa) {i : Nat} (hi : i < A.n) (v : Int) (x : Int) : cR { A with runs := up A.runs i v } x + (if A.runs i = x + 1 then 1 else 0) = cR A x + (if v = x + 1 then 1 else 0) := by
  have e := sumN_up (fun j => if A.runs j = x + 1 then 1 else 0) (fun j => if up A.runs i v j = x + 1 then 1 else 0) hi (fun j hj => by rw [up_ne _ _ hj])
  rw [up_same] at e
  exact e
theorem Inv.ready (h : Inv A) (x t : Int) : Inv (readyA A x t) := by
  unfold readyA
  split
  · rename_i hb
    unfold readyB at hb
    simp only [Bool.and_eq_true, decide_eq_true_eq] at hb
    obtain ⟨⟨⟨h0, h1⟩, h2, h3⟩, h4⟩ := hb
    obtain ⟨u, rfl⟩ : ∃ u : Nat, t = (u : Int) := ⟨t.toNat, by omega⟩
    rw [Int.toNat_natCast] at h4
    have hu : u < 64 := by omega
    have hi : x.toNat < A.n := by omega
    rw [Int.toNat_natCast]
    have z : ∀ v : Int, v ≠ 0 → at2 A (u : Int) v = 0 := fun v hv => if_neg (fun z => hv (by have h5 := z.2; rw [Int.toNat_natCast, h4] at h5; exact h5.symm))
    split
    · refine ⟨h.runs, wh_up h.wh u (by decide), fun y hy => ?_, fun y => ?_, fun y => ?_, h.pos⟩
      · rw [at2_up A _ 2 hu rfl]
        show cR A y = _
        rw [h.r y hy]
        split
        · rename_i e; subst e; rw [z 1 (by decide)]; rfl
        · rfl
      · rw [at2_up A _ 2 hu rfl]
        show cO { A with own := up A.own x.toNat (A.own x.toNat ++ [(u : Int)]) } y = _
        have e := cO_up A hi (A.own x.toNat ++ [(u : Int)]) y
        rw [List.count_append, h.o] at e
        split
        · rename_i q; subst q
          rw [z 2 (by decide), List.count_singleton_self] at e
          rw [if_pos rfl]
          omega
        · rename_i q
          have : List.count y [(u : Int)] = 0 := List.count_eq_zero.2 (fun m => q (List.mem_singleton.1 m))
          omega
      · rw [at2_up A _ 2 hu rfl]
        show cG A y = _
        rw [h.g]
        split
        · rename_i e; subst e; rw [z 3 (by decide)]; rfl
        · rfl
    · have hroom : A.gl.length < 64 := h.gl_room hu (by rw [h4]; decide)
      have hgl : backGl A (u : Int) = A.gl ++ [(u : Int)] := by unfold backGl; exact congrArg Prod.fst (ref_room (cap := 64) _ hroom)
      rw [hgl]
      refine ⟨h.runs, wh_up h.wh u (by decide), fun y hy => ?_, fun y => ?_, fun y => ?_, h.pos⟩
      · rw [at2_up A _ 3 hu rfl]
        show cR A y = _
        rw [h.r y hy]
        split
        · rename_i e; subst e; rw [z 1 (by decide)]; rfl
        · rfl
      · rw [at2_up A _ 3 hu rfl]
        show cO A y = _
        rw [h.o]
        split
        · rename_i e; subst e; rw [z 2 (by decide)]; rfl
        · rfl
      · rw [at2_up A _ 3 hu rfl]
        show (A.gl ++ [(u : Int)]).count y = _
        have e := h.g y
        unfold cG at e
        rw [List.count_append, e]
        split
        · rename_i q; subst q
          rw [z 3 (by decide), List.count_singleton_self, if_pos rfl]
        · rename_i q
          have : List.count y [(u : Int)] = 0 := List.count_eq_zero.2 (fun m => q (List.mem_singleton.1 m))
          omega
  · exact h
theorem Inv.on_wh (h : Inv A) {x : Int} (h0 : 0 ≤ on A x) : ∃ (i u : Nat), x = (i : Int) ∧ i < A.n ∧ on A x = (u : Int) ∧ u < 64 ∧ A.runs i = (u : Int) + 1 ∧ A.wh u = 1 := by
  obtain ⟨i, e, hi, ho⟩ := on_pos h0
  have h1 := h.in_runs hi h0 (by omega)
  obtain ⟨h2, h3⟩ := h1
  unfold rg at h2
  refine ⟨i, (on A x).toNat, e, hi, by omega, by omega, by omega, h3⟩
theorem off_aux (h : Inv A) {i u : Nat} (hi : i < A.n) (hu : u < 64) (hr : A.runs i = (u : Int) + 1) (hw : A.wh u = 1) (y : Int) (hy : 0 ≤ y) (v : Int) (hv : v ≠ 1) : cR { A with runs := up A.runs i 0 } y = if y = (u : Int) then (if v = 1 then 1 else 0) else at2 A y 1 := by
  have e := cR_up A hi 0 y
  rw [if_neg (show ¬ (0 : Int) = y + 1 by omega), h.r y hy] at e
  rw [if_neg hv]
  split
  · rename_i q; subst q
    rw [if_pos hr] at e
    have : at2 A (u : Int) 1 = 1 := if_pos ⟨⟨by omega, by omega⟩, by rw [Int.toNat_natCast]; exact hw⟩
    omega
  · rename_i q
    rw [if_neg (by omega)] at e
    omega
theorem Inv.leave (h : Inv A) (x : Int) : Inv (leaveA A x) := by
  unfold leaveA
  split
  · rename_i h0
    obtain ⟨i, u, rfl, hi, ho, hu, hr, hw⟩ := h.on_wh h0
    rw [ho, Int.toNat_natCast, Int.toNat_natCast]
    have z : ∀ v : Int, v ≠ 1 → at2 A (u : Int) v = 0 := fun v hv => if_neg (fun z => hv (by have h5 := z.2; rw [Int.toNat_natCast, hw] at h5; exact h5.symm))
    refine ⟨fun j hj => ?_, wh_up h.wh u (by decide), fun y hy => ?_, fun y => ?_, fun y => ?_, h.pos⟩
    · show Rg64 (up A.runs i 0 j)
      unfold up
      split
      · exact ⟨by decide, by decide⟩
      · exact h.runs j hj
    · rw [at2_up A _ 0 hu rfl]
      exact off_aux h hi hu hr hw y hy 0 (by decide)
    · rw [at2_up A _ 0 hu rfl]
      show cO A y = _
      rw [h.o]
      split
      · rename_i e; subst e; rw [z 2 (by decide)]; rfl
      · rfl
    · rw [at2_up A _ 0 hu rfl]
      show cG A y = _
      rw [h.g]
      split
      · rename_i e; subst e; rw [z 3 (by decide)]; rfl
      · rfl
  · exact h
theorem Inv.put (h : Inv A) (x : Int) : Inv (putA A x) := by
  unfold putA
  split
  · rename_i h0
    obtain ⟨i, u, rfl, hi, ho, hu, hr, hw⟩ := h.on_wh h0
    have hroom : A.gl.length < 64 := h.gl_room hu (by rw [hw]; decide)
    have hgl : backGl A (u : Int) = A.gl ++ [(u : Int)] := by unfold backGl; exact congrArg Prod.fst (ref_room (cap := 64) _ hroom)
    rw [ho, Int.toNat_natCast, Int.toNat_natCast, hgl]
    have z : ∀ v : Int, v ≠ 1 → at2 A (u : Int) v = 0 := fun v hv => if_neg (fun z => hv (by have h5 := z.2; rw [Int.toNat_natCast, hw] at h5; exact h5.symm))
    refine ⟨fun j hj => ?_, wh_up h.wh u (by decide), fun y hy => ?_, fun y => ?_, fun y => ?_, h.pos⟩
    · show Rg64 (up A.runs i 0 j)
      unfold up
      split
      · exact ⟨by decide, by decide⟩
      · exact h.runs j hj
    · rw [at2_up A _ 3 hu rfl]
      exact off_aux h hi hu hr hw y hy 3 (by decide)
    · rw [at2_up A _ 3 hu rfl]
      show cO A y = _
      rw [h.o]
      split
      · rename_i e; subst e; rw [z 2 (by decide)]; rfl
      · rfl
    · rw [at2_up A _ 3 hu rfl]
      show (A.gl ++ [(u : Int)]).count y = _
      have e := h.g y
      unfold cG at e
      rw [List.count_append, e]
      split
      · rename_i q; subst q
        rw [z 3 (by decide), List.count_singleton_self, if_pos rfl]
      · rename_i q
        have : List.count y [(u : Int)] = 0 := List.count_eq_zero.2 (fun m => q (List.mem_singleton.1 m))
        omega
  · exact h
theorem Inv.work (h : Inv A) (x : Int) : Inv (workA A x) := by
  unfold workA
  split
  · exact ⟨h.runs, h.wh, h.r, h.o, h.g, h.pos⟩
  · exact h
theorem count_last {l : List Int} (h : ¬ l.length = 0) (x : Int) : l.count x = (l.take (l.length - 1)).count x + if x = l.getD (l.length - 1) 0 then 1 else 0 := by
  have e : l = l.take (l.length - 1) ++ [l.getD (l.length - 1) 0] := by
    have h1 : l.take (l.length - 1 + 1) = l := by rw [List.take_of_length_le]; omega
    rw [List.take_add_one] at h1
    rw [List.getD_eq_getElem?_getD, List.getElem?_eq_getElem (by omega)] at *
    exact h1.symm
  generalize l.getD (l.length - 1) 0 = y at *
  generalize l.take (l.length - 1) = m at *
  rw [e, List.count_append]
  congr 1
  by_cases q : x = y
  · subst q; rw [if_pos rfl, List.count_singleton_self]
  · rw [if_neg q]; exact List.count_eq_zero.2 (fun m => q (List.mem_singleton.1 m))
theorem count_first {l : List Int} (h : ¬ l.length = 0) (x : Int) : l.count x = (l.drop 1).count x + if x = l.getD 0 0 then 1 else 0 := by
  cases l with
  | nil => exact absurd rfl h
  | cons a l =>
    show (a :: l).count x = l.count x + if x = a then 1 else 0
    rw [List.count_cons]
    by_cases q : x = a
    · subst q; rw [if_pos rfl]; simp
    · rw [if_neg q]
      simp
      exact fun z => q z.symm
/-- A thread is taken out of a row, and is run. -/
theorem Inv.take (h : Inv A) {i : Nat} (hi : i < A.n) (hr : A.runs i = 0) {t : Nat} (ht : t < 64) {B : Pa} (hn : B.n = A.n) (hru : B.runs = up A.runs i ((t : Int) + 1)) (hwh : B.wh = up A.wh t 1)
    (hOG : (A.wh t = 2 ∧ (∀ x, cO A x = cO B x + if x = (t : Int) then 1 else 0) ∧ (∀ x, cG A x = cG B x)) ∨ (A.wh t = 3 ∧ (∀ x, cG A x = cG B x + if x = (t : Int) then 1 else 0) ∧ (∀ x, cO A x = cO B x))) : Inv B := by
  have hRg : ∀ j, j < B.n → Rg64 (B.runs j) := by
    intro j hj
    rw [hru]
    unfold up
    split
    · exact ⟨by omega, by omega⟩
    · exact h.runs j (by omega)
  have hwr : ∀ k, k < 64 → 0 ≤ B.wh k ∧ B.wh k ≤ 3 := by rw [hwh]; exact wh_up h.wh t (by decide)
  have hR : ∀ x, 0 ≤ x → cR B x = at2 B x 1 := by
    intro y hy
    rw [at2_up A B 1 ht hwh]
    have e := cR_up A hi ((t : Int) + 1) y
    have e2 : cR B y = cR { A with runs := up A.runs i ((t : Int) + 1) } y := by
      unfold cR
      rw [hn, hru]
    rw [e2]
    rw [if_neg (show ¬ A.runs i = y + 1 by omega), h.r y hy] at e
    split
    · rename_i q; subst q
      have : at2 A (t : Int) 1 = 0 := if_neg (fun z => by
        have h5 := z.2
        rw [Int.toNat_natCast] at h5
        rcases hOG with ⟨h6, _⟩ | ⟨h6, _⟩ <;> omega)
      rw [if_pos rfl] at e
      rw [if_pos rfl]
      omega
    · rename_i q
      rw [if_neg (by omega)] at e
      omega
  rcases hOG with ⟨h2, hO, hG⟩ | ⟨h2, hG, hO⟩
  · refine ⟨hRg, hwr, hR, fun y => ?_, fun y => ?_, by rw [hn]; exact h.pos⟩
    · rw [at2_up A B 1 ht hwh]
      have e := hO y
      rw [h.o] at e
      split
      · rename_i q; subst q
        have : at2 A (t : Int) 2 = 1 := if_pos ⟨⟨by omega, by omega⟩, by rw [Int.toNat_natCast]; exact h2⟩
        rw [if_pos rfl] at e
        rw [if_neg (by decide)]
        omega
      · rename_i q
        rw [if_neg q] at e
        omega
    · rw [at2_up A B 1 ht hwh, ← hG y, h.g]
      split
      · rename_i q; subst q
        rw [if_neg (by decide)]
        exact if_neg (fun z => by have h5 := z.2; rw [Int.toNat_natCast] at h5; omega)
      · rfl
  · refine ⟨hRg, hwr, hR, fun y => ?_, fun y => ?_, by rw [hn]; exact h.pos⟩
    · rw [at2_up A B 1 ht hwh, ← hO y, h.o]
      split
      · rename_i q; subst q
        rw [if_neg (by decide)]
        exact if_neg (fun z => by have h5 := z.2; rw [Int.toNat_natCast] at h5; omega)
      · rfl
    · rw [at2_up A B 1 ht hwh]
      have e := hG y
      rw [h.g] at e
      split
      · rename_i q; subst q
        have : at2 A (t : Int) 3 = 1 := if_pos ⟨⟨by omega, by omega⟩, by rw [Int.toNat_natCast]; exact h2⟩
        rw [if_pos rfl] at e
        rw [if_neg (by decide)]
        omega
      · rename_i q
        rw [if_neg q] at e
        omega
end
end Go.Proofs.Ytjcjhmnfknenlaa.Pl
namespace Go.Proofs.Ytjcjhmnfknenlaa.Pl
open Go.RowKit Go.Proofs.Ytjcjhmnfknenlaa.PPlaceApart Go.Proofs.YtjcjhmnfknenlaaW.PrintWords Go.Proofs.YtjcjhmnfknenlaaW.PrintLast
open Rg (refDo)
set_option linter.unusedVariables false
set_option linter.unusedSimpArgs false

/-- How many stand in rows. -/
def tot (A : Pa) : Nat := A.gl.length + sumN (fun i => (A.own i).length) A.n
theorem tot_up (A : Pa) {i : Nat} (hi : i < A.n) (l : List Int) : tot { A with own := up A.own i l } + (A.own i).length = tot A + l.length := by
  have e := sumN_up (fun j => (A.own j).length) (fun j => (up A.own i l j).length) hi (fun j hj => by rw [up_ne _ _ hj])
  rw [up_same] at e
  show A.gl.length + sumN (fun j => (up A.own i l j).length) A.n + _ = A.gl.length + sumN (fun j => (A.own j).length) A.n + _
  omega
section
variable {A : Pa}
theorem fetch_fail {i : Nat} (hi : i < A.n) (hr : A.runs i = 0) (d : Int) (h : nextA A i d = (A, -1, 0)) : fetchA A (i : Int) d = (A, -1, 0) := by
  unfold fetchA
  rw [if_pos ⟨by omega, by omega, by rw [Int.toNat_natCast]; exact hr⟩, Int.toNat_natCast, h, if_neg (show ¬ (0 : Int) < 0 by decide)]
theorem fetch_some {i : Nat} (hi : i < A.n) (hr : A.runs i = 0) (d : Int) {A1 : Pa} {t : Nat} {f : Int} (hf : 0 < f) (h : nextA A i d = (A1, (t : Int), f)) :
    fetchA A (i : Int) d = ({ A1 with runs := up A1.runs i ((t : Int) + 1), work := up A1.work i 0, wh := up A1.wh t 1 }, (t : Int), f) := by
  unfold fetchA
  rw [if_pos ⟨by omega, by omega, by rw [Int.toNat_natCast]; exact hr⟩, Int.toNat_natCast, h, if_pos (show 0 < (A1, ((t : Nat) : Int), f).2.2 from hf)]
  rfl
/-- What Fetch comes to. -/
theorem fetch_spec (h : Inv A) {i : Nat} (hi : i < A.n) (hr : A.runs i = 0) (d : Int) :
    (fetchA A (i : Int) d = (A, -1, 0) ∧ (A.own i).length = 0 ∧ A.gl.length = 0) ∨
    ∃ (B : Pa) (t : Nat) (f : Int), fetchA A (i : Int) d = (B, (t : Int), f) ∧ (0 < f ∧ f ≤ 3) ∧ t < 64 ∧ (A.wh t = 2 ∨ A.wh t = 3) ∧ Inv B ∧ B.n = A.n ∧ B.runs = up A.runs i ((t : Int) + 1) ∧ B.wh = up A.wh t 1 ∧ tot B + 1 = tot A ∧ B.work = up A.work i 0 := by
  by_cases h1 : (A.own i).length = 0
  · by_cases h2 : A.gl.length = 0
    · by_cases h3 : kOf A d ≠ i ∧ ¬ (A.own (kOf A d)).length = 0
      · have hk : kOf A d < A.n := Nat.mod_lt _ h.pos
        have hm := getD_mem (l := A.own (kOf A d)) (k := 0) (Nat.pos_of_ne_zero h3.2)
        obtain ⟨h4, h5⟩ := h.in_own hk hm
        obtain ⟨t, ht⟩ : ∃ t : Nat, (A.own (kOf A d)).getD 0 0 = (t : Int) := ⟨_, (Int.toNat_of_nonneg h4.1).symm⟩
        have hN : nextA A i d = ({ A with own := up A.own (kOf A d) ((A.own (kOf A d)).drop 1) }, (t : Int), 3) := by
          unfold nextA
          rw [if_neg (fun z => z h1), if_neg (fun z => z h2), if_pos h3, ht]
        rw [ht] at h4 h5
        rw [Int.toNat_natCast] at h5
        have h4' := h4
        unfold rg at h4'
        refine .inr ⟨_, t, 3, fetch_some hi hr d (by decide) hN, ⟨by decide, by decide⟩, by omega, .inl h5, ?_, rfl, rfl, rfl, ?_, rfl⟩
        · refine h.take hi hr (t := t) (by omega) rfl rfl rfl (.inl ⟨h5, fun x => ?_, fun x => rfl⟩)
          have e := cO_up A hk ((A.own (kOf A d)).drop 1) x
          have e2 := count_first h3.2 x
          rw [ht] at e2
          show cO A x = cO { A with own := up A.own (kOf A d) ((A.own (kOf A d)).drop 1) } x + _
          omega
        · have e := tot_up A hk ((A.own (kOf A d)).drop 1)
          rw [List.length_drop] at e
          show tot { A with own := up A.own (kOf A d) ((A.own (kOf A d)).drop 1) } + 1 = _
          have := h3.2
          omega
      · exact .inl ⟨fetch_fail hi hr d (by unfold nextA; rw [if_neg (fun z => z h1), if_neg (fun z => z h2), if_neg h3]), h1, h2⟩
    · have hm := getD_mem (l := A.gl) (k := 0) (Nat.pos_of_ne_zero h2)
      obtain ⟨h4, h5⟩ := h.in_gl hm
      obtain ⟨t, ht⟩ : ∃ t : Nat, A.gl.getD 0 0 = (t : Int) := ⟨_, (Int.toNat_of_nonneg h4.1).symm⟩
      have hN : nextA A i d = ({ A with gl := A.gl.drop 1 }, (t : Int), 2) := by
        unfold nextA
        rw [if_neg (fun z => z h1), if_pos h2, ht]
      rw [ht] at h4 h5
      rw [Int.toNat_natCast] at h5
      have h4' := h4
      unfold rg at h4'
      refine .inr ⟨_, t, 2, fetch_some hi hr d (by decide) hN, ⟨by decide, by decide⟩, by omega, .inr h5, ?_, rfl, rfl, rfl, ?_, rfl⟩
      · refine h.take hi hr (t := t) (by omega) rfl rfl rfl (.inr ⟨h5, fun x => ?_, fun x => rfl⟩)
        have e2 := count_first h2 x
        rw [ht] at e2
        exact e2
      · show (A.gl.drop 1).length + sumN (fun i => (A.own i).length) A.n + 1 = A.gl.length + sumN (fun i => (A.own i).length) A.n
        rw [List.length_drop]
        omega
  · have hm := getD_mem (l := A.own i) (k := (A.own i).length - 1) (by omega)
    obtain ⟨h4, h5⟩ := h.in_own hi hm
    obtain ⟨t, ht⟩ : ∃ t : Nat, (A.own i).getD ((A.own i).length - 1) 0 = (t : Int) := ⟨_, (Int.toNat_of_nonneg h4.1).symm⟩
    have hN : nextA A i d = ({ A with own := up A.own i ((A.own i).take ((A.own i).length - 1)) }, (t : Int), 1) := by
      unfold nextA
      rw [if_pos h1, ht]
    rw [ht] at h4 h5
    rw [Int.toNat_natCast] at h5
    have h4' := h4
    unfold rg at h4'
    refine .inr ⟨_, t, 1, fetch_some hi hr d (by decide) hN, ⟨by decide, by decide⟩, by omega, .inl h5, ?_, rfl, rfl, rfl, ?_, rfl⟩
    · refine h.take hi hr (t := t) (by omega) rfl rfl rfl (.inl ⟨h5, fun x => ?_, fun x => rfl⟩)
      have e := cO_up A hi ((A.own i).take ((A.own i).length - 1)) x
      have e2 := count_last h1 x
      rw [ht] at e2
      show cO A x = cO { A with own := up A.own i ((A.own i).take ((A.own i).length - 1)) } x + _
      omega
    · have e := tot_up A hi ((A.own i).take ((A.own i).length - 1))
      rw [List.length_take] at e
      show tot { A with own := up A.own i ((A.own i).take ((A.own i).length - 1)) } + 1 = _
      omega
theorem Inv.fetch (h : Inv A) (x d : Int) : Inv (fetchA A x d).1 ∧ (fetchA A x d).1.n = A.n ∧ ∀ j, (fetchA A x d).1.work j = A.work j ∨ (fetchA A x d).1.work j = 0 := by
  by_cases c : 0 ≤ x ∧ x < (A.n : Int) ∧ A.runs x.toNat = 0
  · obtain ⟨i, rfl⟩ : ∃ i : Nat, x = (i : Int) := ⟨x.toNat, by omega⟩
    rw [Int.toNat_natCast] at c
    rcases fetch_spec h (by omega) c.2.2 d with ⟨e, _⟩ | ⟨B, t, f, e, _, _, _, hB, hn, _, _, _, hw⟩
    · rw [e]; exact ⟨h, rfl, fun j => .inl rfl⟩
    · rw [e]
      refine ⟨hB, hn, fun j => ?_⟩
      show B.work j = _ ∨ B.work j = 0
      rw [hw]
      unfold up
      split
      · exact .inr rfl
      · exact .inl rfl
  · have e : fetchA A x d = (A, -1, 0) := if_neg c
    rw [e]
    exact ⟨h, rfl, fun j => .inl rfl⟩
theorem wo_count (l : List Int) (t x : Int) : (wo l t).count x = if x = t then 0 else l.count x := by
  unfold wo
  by_cases e : x = t
  · subst e
    rw [if_pos rfl]
    apply List.count_eq_zero.2
    intro m
    rw [List.mem_filter] at m
    simp at m
  · rw [if_neg e]
    exact List.count_filter (by simp [e])
theorem Inv.drop (h : Inv A) (t : Int) : Inv (dropA A t) := by
  unfold dropA
  split
  · exact h
  · rename_i e0
    have ht : 0 ≤ t ∧ t < 64 := Classical.byContradiction fun z => e0 (by unfold wher; rw [if_neg z])
    obtain ⟨u, rfl⟩ : ∃ u : Nat, t = (u : Int) := ⟨t.toNat, by omega⟩
    have hu : u < 64 := by omega
    have hwu : wher A (u : Int) = A.wh u := by unfold wher; rw [if_pos ht, Int.toNat_natCast]
    rw [hwu] at e0 ⊢
    have z : ∀ v : Int, v ≠ A.wh u → at2 A (u : Int) v = 0 := fun v hv => if_neg (fun z => hv (by have h5 := z.2; rw [Int.toNat_natCast] at h5; exact h5.symm))
    have hu0 : ((u : Int)).toNat = u := Int.toNat_natCast u
    split
    · rename_i e1
      unfold noWh
      rw [hu0]
      refine ⟨fun j hj => ?_, wh_up h.wh u (by decide), fun y hy => ?_, fun y => ?_, fun y => ?_, h.pos⟩
      · show Rg64 (if j < A.n ∧ A.runs j = (u : Int) + 1 then 0 else A.runs j)
        split
        · exact ⟨by decide, by decide⟩
        · exact h.runs j hj
      · rw [at2_up A _ 0 hu rfl]
        show sumN (fun i => if (if i < A.n ∧ A.runs i = (u : Int) + 1 then 0 else A.runs i) = y + 1 then 1 else 0) A.n = _
        split
        · rename_i q
          subst q
          rw [if_neg (by decide), sumN_congr (g := fun _ => 0) (fun i hi => ?_), sumN_zero]
          by_cases c : A.runs i = (u : Int) + 1
          · rw [show (if i < A.n ∧ A.runs i = (u : Int) + 1 then (0 : Int) else A.runs i) = 0 from if_pos ⟨hi, c⟩, if_neg (by omega)]
          · rw [show (if i < A.n ∧ A.runs i = (u : Int) + 1 then (0 : Int) else A.runs i) = A.runs i from if_neg (fun z => c z.2), if_neg c]
        · rename_i q
          rw [← h.r y hy]
          refine sumN_congr (fun i hi => ?_)
          by_cases c : A.runs i = (u : Int) + 1
          · rw [show (if i < A.n ∧ A.runs i = (u : Int) + 1 then (0 : Int) else A.runs i) = 0 from if_pos ⟨hi, c⟩, if_neg (by omega), if_neg (by omega)]
          · rw [show (if i < A.n ∧ A.runs i = (u : Int) + 1 then (0 : Int) else A.runs i) = A.runs i from if_neg (fun z => c z.2)]
      · rw [at2_up A _ 0 hu rfl]
        show cO A y = _
        rw [h.o]
        split
        · rename_i e; subst e; rw [z 2 (by omega)]; rfl
        · rfl
      · rw [at2_up A _ 0 hu rfl]
        show cG A y = _
        rw [h.g]
        split
        · rename_i e; subst e; rw [z 3 (by omega)]; rfl
        · rfl
    · rename_i e1
      split
      · rename_i e2
        unfold noWh
        rw [hu0]
        refine ⟨h.runs, wh_up h.wh u (by decide), fun y hy => ?_, fun y => ?_, fun y => ?_, h.pos⟩
        · rw [at2_up A _ 0 hu rfl]
          show cR A y = _
          rw [h.r y hy]
          split
          · rename_i e; subst e; rw [z 1 (by omega)]; rfl
          · rfl
        · rw [at2_up A _ 0 hu rfl]
          show sumN (fun i => (if i < A.n then wo (A.own i) (u : Int) else A.own i).count y) A.n = _
          rw [sumN_congr (g := fun i => if y = (u : Int) then 0 else (A.own i).count y) (fun i hi => by rw [if_pos hi, wo_count])]
          split
          · rw [sumN_zero]; rfl
          · exact h.o y
        · rw [at2_up A _ 0 hu rfl]
          show cG A y = _
          rw [h.g]
          split
          · rename_i e; subst e; rw [z 3 (by omega)]; rfl
          · rfl
      · rename_i e2
        have e3 : A.wh u = 3 := by have := h.wh u hu; omega
        unfold noWh
        rw [hu0]
        refine ⟨h.runs, wh_up h.wh u (by decide), fun y hy => ?_, fun y => ?_, fun y => ?_, h.pos⟩
        · rw [at2_up A _ 0 hu rfl]
          show cR A y = _
          rw [h.r y hy]
          split
          · rename_i e; subst e; rw [z 1 (by omega)]; rfl
          · rfl
        · rw [at2_up A _ 0 hu rfl]
          show cO A y = _
          rw [h.o]
          split
          · rename_i e; subst e; rw [z 2 (by omega)]; rfl
          · rfl
        · rw [at2_up A _ 0 hu rfl]
          show (wo A.gl (u : Int)).count y = _
          rw [wo_count]
          split
          · rfl
          · exact h.g y
theorem inv0 {n : Nat} (h0 : 0 < n) : Inv (A0 n) := by
  have hz : ∀ x v : Int, v ≠ 0 → at2 (A0 n) x v = 0 := fun x v hv => if_neg (fun z => hv z.2.symm)
  refine ⟨fun i hi => (show (0 : Int) ≤ 0 ∧ (0 : Int) ≤ 64 by decide), fun t ht => (show (0 : Int) ≤ 0 ∧ (0 : Int) ≤ 3 by decide), fun x hx => ?_, fun x => ?_, fun x => ?_, h0⟩
  · rw [hz x 1 (by decide)]
    show sumN (fun i => if (0 : Int) = x + 1 then 1 else 0) n = 0
    rw [sumN_congr (g := fun _ => 0) (fun i hi => if_neg (by omega)), sumN_zero]
  · rw [hz x 2 (by decide)]
    show sumN (fun i => ([] : List Int).count x) n = 0
    rw [sumN_congr (g := fun _ => 0) (fun i hi => List.count_nil), sumN_zero]
  · rw [hz x 3 (by decide)]
    exact List.count_nil
def WB (m : Int) (A : Pa) : Prop := ∀ i, i < A.n → 0 ≤ A.work i ∧ A.work i ≤ m
theorem Inv.do_ (h : Inv A) {m : Int} (hw : WB m A) (hm : 0 ≤ m) (k x t : Int) : Inv (doA A k x t).1 ∧ (doA A k x t).1.n = A.n ∧ WB (m + 1) (doA A k x t).1 := by
  have hw1 : WB (m + 1) A := fun i hi => ⟨(hw i hi).1, by have := (hw i hi).2; omega⟩
  have same : ∀ B : Pa, B.n = A.n → B.work = A.work → WB (m + 1) B := fun B hn hwk i hi => by
    rw [hwk]; exact hw1 i (by omega)
  unfold doA
  split
  · have hn : (readyA A x t).n = A.n ∧ (readyA A x t).work = A.work := by
      unfold readyA
      split
      · split <;> exact ⟨rfl, rfl⟩
      · exact ⟨rfl, rfl⟩
    exact ⟨h.ready x t, hn.1, same _ hn.1 hn.2⟩
  · split
    · obtain ⟨h1, h2, h3⟩ := h.fetch x t
      refine ⟨h1, h2, fun i hi => ?_⟩
      rcases h3 i with e | e
      · rw [e]; exact hw1 i (by omega)
      · rw [e]; exact ⟨by omega, by omega⟩
    · split
      · have hn : (putA A x).n = A.n ∧ (putA A x).work = A.work := by
          unfold putA
          split <;> exact ⟨rfl, rfl⟩
        exact ⟨h.put x, hn.1, same _ hn.1 hn.2⟩
      · split
        · have hn : (leaveA A x).n = A.n ∧ (leaveA A x).work = A.work := by
            unfold leaveA
            split <;> exact ⟨rfl, rfl⟩
          exact ⟨h.leave x, hn.1, same _ hn.1 hn.2⟩
        · split
          · have hn : (dropA A t).n = A.n ∧ (dropA A t).work = A.work := by
              unfold dropA
              split
              · exact ⟨rfl, rfl⟩
              · split
                · exact ⟨rfl, rfl⟩
                · split <;> exact ⟨rfl, rfl⟩
            exact ⟨h.drop t, hn.1, same _ hn.1 hn.2⟩
          · have hn : (workA A x).n = A.n := by
              unfold workA
              split <;> rfl
            refine ⟨h.work x, hn, fun i hi => ?_⟩
            have hi' : i < A.n := by
              have h1 : i < (workA A x).n := hi
              rwa [hn] at h1
            clear hi
            have hi := hi'
            show 0 ≤ (workA A x).work i ∧ (workA A x).work i ≤ m + 1
            unfold workA
            split
            · show 0 ≤ up A.work x.toNat (A.work x.toNat + 1) i ∧ up A.work x.toNat (A.work x.toNat + 1) i ≤ m + 1
              by_cases e : i = x.toNat
              · subst e
                rw [up_same]
                have := hw x.toNat (by omega)
                omega
              · rw [up_ne _ _ e]
                exact hw1 i (by omega)
            · exact hw1 i (by omega)
theorem inv_tot (h : Inv A) : tot A ≤ 64 := by
  unfold tot
  rw [len_count (fun t ht => (h.in_gl ht).1)]
  have e : ∀ n, n ≤ A.n → sumN (fun i => (A.own i).length) n = sumN (fun x => sumN (fun i => (A.own i).count (x : Int)) n) 64 := by
    intro n
    induction n with
    | zero => intro _; simp only [sumN, sumN_zero]
    | succ n ih =>
      intro hn
      simp only [sumN]
      rw [ih (by omega), len_count (fun t ht => (h.in_own (by omega) ht).1)]
      exact (sumN_add _ _ 64).symm
  rw [e A.n (Nat.le_refl _), ← sumN_add, ← sumN_one 64]
  refine Nat.le_trans (sumN_le (g := fun _ => 1) (fun x hx => ?_)) (by rw [sumN_one, sumN_one]; exact Nat.le_refl _)
  have h1 : cG A (x : Int) = at2 A (x : Int) 3 := h.g _
  have h2 : cO A (x : Int) = at2 A (x : Int) 2 := h.o _
  show cG A (x : Int) + cO A (x : Int) ≤ 1
  rw [h1, h2]
  unfold at2
  split
  · rename_i c
    rw [if_neg (fun z => by have := z.2; have := c.2; omega)]
    omega
  · split <;> omega
end
end Go.Proofs.Ytjcjhmnfknenlaa.Pl
namespace Go.Proofs.Ytjcjhmnfknenlaa.Pl
open Go.RowKit Go.Proofs.Ytjcjhmnfknenlaa.PPlaceApart Go.Proofs.YtjcjhmnfknenlaaW.PrintWords Go.Proofs.YtjcjhmnfknenlaaW.PrintLast
open Rg (Chg)
set_option linter.unusedVariables false
set_option linter.unusedSimpArgs false

/-- Places made since w. -/
def Sp (w w' : World) (gp : Nat) (A : Pa) : Prop := Pl (fun k => w.heap.size ≤ k) w' gp A ∧ Below w.heap.size w w'
section
variable {w w1 w2 : World} {gp : Nat} {A : Pa}
theorem Sp.hb (h : Sp w w1 gp A) : Below w.heap.size w w1 := h.2
theorem Sp.below (h : Sp w w1 gp A) (hb : Below w1.heap.size w1 w2) : Sp w w2 gp A := by
  obtain ⟨⟨bl, cl, ex, r, q, h1⟩, h2⟩ := h
  exact ⟨⟨bl, cl, ex, r, q, h1.below hb⟩, below_step h2 hb⟩
theorem Sp.drewN (h : Sp w w1 gp A) (n : Nat) : Sp w (w1.drewN n) gp A := h.below (pw_below_drewN (Below.refl _ _) n)
theorem Sp.n8 (h : Sp w w1 gp A) : 0 < A.n ∧ A.n ≤ 8 := by
  obtain ⟨⟨bl, cl, ex, r, q, h1⟩, h2⟩ := h
  exact ⟨h1.n_pos, h1.n_le⟩
theorem sp_new (w : World) (x : Int) : Calls Try.prog 7 #[.int .i64 x] w fun e w' => ∃ gp n, e = .returned (.pointer (some ⟨gp, 0, none⟩)) ∧ Sp w w' gp (A0 n) ∧ Inv (A0 n) ∧ WB 0 (A0 n) := by
  obtain ⟨n, hn⟩ : ∃ n : Nat, (n : Int) = min (max x 1) 8 := ⟨(min (max x 1) 8).toNat, by omega⟩
  exact (new_any w x n hn).mono fun e w' ⟨gp, h1, h2, h3⟩ => ⟨gp, n, h1, ⟨h2, h3⟩, inv0 (by omega), fun i hi => ⟨Int.le_refl _, Int.le_refl _⟩⟩
theorem sp_on (h : Sp w w1 gp A) (hi : Inv A) (x : Int) : Calls Try.prog 11 #[.pointer (some ⟨gp, 0, none⟩), .int .i64 x] w1 fun e w' => e = .returned (.int .i64 (on A x)) ∧ Sp w w' gp A := by
  obtain ⟨⟨bl, cl, ex, r, q, h1⟩, h2⟩ := h
  exact (on_any h1 hi.runs x).mono fun e w' ⟨h3, h4⟩ => ⟨h3, by rw [h4]; exact ⟨⟨bl, cl, ex, r, q, h1⟩, h2⟩⟩
theorem sp_where (h : Sp w w1 gp A) (hi : Inv A) (x : Int) : Calls Try.prog 20 #[.pointer (some ⟨gp, 0, none⟩), .int .i64 x] w1 fun e w' => e = .returned (.int .i64 (wher A x)) ∧ Sp w w' gp A := by
  obtain ⟨⟨bl, cl, ex, r, q, h1⟩, h2⟩ := h
  exact (where_any h1 hi.wh x).mono fun e w' ⟨h3, h4⟩ => ⟨h3, by rw [h4]; exact ⟨⟨bl, cl, ex, r, q, h1⟩, h2⟩⟩
theorem sp_workers (h : Sp w w1 gp A) : Calls Try.prog 10 #[.pointer (some ⟨gp, 0, none⟩)] w1 fun e w' => e = .returned (.int .i64 (A.n : Int)) ∧ Sp w w' gp A := by
  obtain ⟨⟨bl, cl, ex, r, q, h1⟩, h2⟩ := h
  exact (workers_any h1).mono fun e w' ⟨h3, h4⟩ => ⟨h3, by rw [h4]; exact ⟨⟨bl, cl, ex, r, q, h1⟩, h2⟩⟩
theorem sp_all (h : Sp w w1 gp A) (hi : Inv A) : Calls Try.prog 9 #[.pointer (some ⟨gp, 0, none⟩)] w1 fun e w' => e = .returned (.int .u64 ((allS A : Nat) : Int)) ∧ Sp w w' gp A := by
  have h' := h
  obtain ⟨⟨bl, cl, ex, r, q, h1⟩, h2⟩ := h
  exact (all_any h1 hi.ok).mono fun e w' ⟨h3, n, h4⟩ => ⟨h3, by rw [h4]; exact h'.drewN n⟩
theorem sp_of {A' : Pa} (h : Sp w w1 gp A) (h1 : Pl (fun k => w.heap.size ≤ k ∨ w1.heap.size ≤ k) w2 gp A') (h2 : Chg (fun k => w.heap.size ≤ k) w1 w2) : Sp w w2 gp A' := by
  obtain ⟨bl, cl, ex, r, q, h1⟩ := h1
  exact ⟨⟨bl, cl, ex, r, q, h1.mono (fun k hk => by have := h.2.size; omega)⟩, Chg.below h.2 h2 h.2.size (fun k hk => hk)⟩
theorem sp_do (h : Sp w w1 gp A) (hi : Inv A) {m : Int} (hw : WB m A) (hm : m ≤ 1000000) (k x : Int) {t : Int} (wt : (Lit.int .i64 t).wf = true) :
    Calls Try.prog 8 #[.pointer (some ⟨gp, 0, none⟩), .agg #[.int .i64 k, .int .i64 x, .int .i64 t]] w1 fun e w' => e = .returned (.tuple #[.int .i64 (doA A k x t).2.1, .int .i64 (doA A k x t).2.2]) ∧ Sp w w' gp (doA A k x t).1 := by
  have e1 : IntKind.i64.min = -9223372036854775808 := by decide
  have e2 : IntKind.i64.max = 9223372036854775807 := by decide
  simp only [Lit.wf, Bool.and_eq_true, decide_eq_true_eq, e1, e2] at wt
  exact (do_any h.1 hi.ok (fun i hi => ⟨(hw i hi).1, Int.le_trans (hw i hi).2 hm⟩) k x wt).mono fun e w' ⟨h3, h4, h5⟩ => ⟨h3, sp_of h h4 h5⟩
theorem sp_leave (h : Sp w w1 gp A) (hi : Inv A) (x : Int) : Calls Try.prog 12 #[.pointer (some ⟨gp, 0, none⟩), .int .i64 x] w1 fun e w' => e = .returned (.bool (decide (0 ≤ on A x))) ∧ Sp w w' gp (leaveA A x) := by
  have h' := h
  obtain ⟨⟨bl, cl, ex, r, q, h1⟩, h2⟩ := h
  exact (leave_any h1 hi.ok x).mono fun e w' ⟨h3, h4, h5⟩ => ⟨h3, sp_of h' ⟨bl, cl, ex, r, q, h4.mono (fun k hk => .inl hk)⟩ h5⟩
theorem sp_ready (h : Sp w w1 gp A) (hi : Inv A) (x t : Int) : Calls Try.prog 22 #[.pointer (some ⟨gp, 0, none⟩), .int .i64 x, .int .i64 t] w1 fun e w' => e = .returned (.bool (readyB A x t)) ∧ Sp w w' gp (readyA A x t) := by
  have h' := h
  obtain ⟨⟨bl, cl, ex, r, q, h1⟩, h2⟩ := h
  exact (ready_any h1 hi.ok x t).mono fun e w' ⟨h3, h4, h5⟩ => ⟨h3, sp_of h' ⟨bl, cl, ex, r, q, h4.mono (fun k hk => .inl hk)⟩ h5⟩
theorem sp_fetch (h : Sp w w1 gp A) (hi : Inv A) (x : Int) {d : Int} (wd : -9223372036854775808 ≤ d ∧ d ≤ 9223372036854775807) : Calls Try.prog 13 #[.pointer (some ⟨gp, 0, none⟩), .int .i64 x, .int .i64 d] w1 fun e w' => e = .returned (.tuple #[.int .i64 (fetchA A x d).2.1, .int .i64 (fetchA A x d).2.2]) ∧ Sp w w' gp (fetchA A x d).1 := by
  have h' := h
  obtain ⟨⟨bl, cl, ex, r, q, h1⟩, h2⟩ := h
  exact (fetch_any h1 hi.ok x wd).mono fun e w' ⟨h3, h4, h5⟩ => ⟨h3, sp_of h' ⟨bl, cl, ex, r, q, h4.mono (fun k hk => .inl hk)⟩ h5⟩
end
/-! ### lives -/
def L1 : Pa := readyA (A0 2) 0 5
def L2 : Pa := readyA L1 0 6
def L3 : Pa := (fetchA L2 0 0).1
def L4 : Pa := (fetchA L3 1 0).1
theorem l_r1 : readyB (A0 2) 0 5 = true := by decide +kernel
theorem l_r2 : readyB L1 0 6 = true := by decide +kernel
theorem l_f1 : (fetchA L2 0 0).2 = (6, 1) := by decide +kernel
theorem l_f2 : (fetchA L3 1 0).2 = (5, 3) := by decide +kernel
theorem l_on : on L4 1 = 5 := by decide +kernel
theorem l_wh : wher L4 6 = 1 := by decide +kernel
theorem l_i0 : Inv (A0 2) := inv0 (by decide)
theorem l_i1 : Inv L1 := l_i0.ready 0 5
theorem l_i2 : Inv L2 := l_i1.ready 0 6
theorem l_i3 : Inv L3 := (l_i2.fetch 0 0).1
theorem l_i4 : Inv L4 := (l_i3.fetch 1 0).1
set_option maxHeartbeats 4000000 in
set_option maxRecDepth 100000 in
theorem lives_any (w : World) : Calls Try.prog 14 #[] w fun e w' => e = .returned (.bool true) ∧ Below w.heap.size w w' := by
  have HN := Aside0.mk (new_any w 2 2 (by decide))
  go_enter Try.func14, Try.ntmps14
  go_upto_region 4 with (go_at_call 7; (refine HN.out.mono ?_); rintro e w1 ⟨gp, rfl, ha, hb⟩; have S0 := Aside0.mk (show Sp w w1 gp (A0 2) from ⟨ha, hb⟩); clear ha hb)
  go_upto_region 5 with (first
    | (go_at_call 22; (with_reducible refine (sp_ready S0.out l_i0 0 5).mono ?_); rintro e w2 ⟨rfl, h⟩; rw [l_r1]; have S1 := Aside0.mk (show Sp w w2 gp L1 from h); clear h)
    | (go_at_call 22; (with_reducible refine (sp_ready S1.out l_i1 0 6).mono ?_); rintro e w3 ⟨rfl, h⟩; rw [l_r2]; have S2 := Aside0.mk (show Sp w w3 gp L2 from h); clear h))
  have HF1 := Aside0.mk (show Calls Try.prog 13 #[.pointer (some ⟨gp, 0, none⟩), .int .i64 0, .int .i64 0] w3 fun e w' => e = .returned (.tuple #[.int .i64 6, .int .i64 1]) ∧ Sp w w' gp L3 from by
    have h := sp_fetch S2.out l_i2 0 (d := 0) (by decide)
    rw [l_f1] at h
    exact h)
  go_upto_region 6 with (go_at_call 13; (refine HF1.out.mono ?_); rintro e w4 ⟨rfl, h⟩; have S3 := Aside0.mk h; clear h)
  have HF2 := Aside0.mk (show Calls Try.prog 13 #[.pointer (some ⟨gp, 0, none⟩), .int .i64 1, .int .i64 0] w4 fun e w' => e = .returned (.tuple #[.int .i64 5, .int .i64 3]) ∧ Sp w w' gp L4 from by
    have h := sp_fetch S3.out l_i3 1 (d := 0) (by decide)
    rw [l_f2] at h
    exact h)
  go_upto_region 7 with (go_at_call 13; (refine HF2.out.mono ?_); rintro e w5 ⟨rfl, h⟩; have S4 := Aside0.mk h; clear h)
  go_wp2_with (first
    | (go_at_call 11; (refine (sp_on S4.out l_i4 1).mono ?_); rintro e w6 ⟨rfl, h⟩; rw [l_on]; have S5 := Aside0.mk h; clear h)
    | (go_at_call 20; (refine (sp_where S5.out l_i4 6).mono ?_); rintro e w7 ⟨rfl, h⟩; rw [l_wh]; have S6 := Aside0.mk h; clear h))
  go_ret
  exact ⟨rfl, S6.out.hb⟩
end Go.Proofs.Ytjcjhmnfknenlaa.Pl
