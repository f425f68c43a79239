/- The page's places: what Fetch and Drop leave, told by the lists alone. Plain law. Conditions: none. -/
import Derived.Test.YtjcjhmnfknenlaaPx9
namespace Go.Proofs.Ytjcjhmnfknenlaa.Px
open Go.RowKit Go.Proofs.Ytjcjhmnfknenlaa.PPlaceApart Go.Proofs.YtjcjhmnfknenlaaW.PrintWords Go.Proofs.YtjcjhmnfknenlaaW.PrintLast Go.Proofs.YtjcjhmnfknenlaaW.PrintMore
open Pl (Pa Inv Ok wher on readyA putA leaveA dropA workA workN fetchA nextA kOf draws allS inB doA flagI wo A0 rg sumN sumN_up sumN_eq_zero cO cG cR at2 count_last count_first fetch_some fetch_fail)
set_option linter.unusedVariables false
set_option linter.unusedSimpArgs false

theorem wo_none {l : List Int} {t : Int} (h : t ∉ l) : wo l t = l := by
  unfold wo
  rw [List.filter_eq_self]
  intro u hu
  have : u ≠ t := fun q => h (q ▸ hu)
  simp [this]
theorem wo_app (a b : List Int) (t : Int) : wo (a ++ b) t = wo a t ++ wo b t := List.filter_append ..
theorem split_last {l : List Int} (h : ¬ l.length = 0) : l = l.take (l.length - 1) ++ [l.getD (l.length - 1) 0] := by
  have h1 : l.length - 1 < l.length := by omega
  rw [List.getD_eq_getElem?_getD, List.getElem?_eq_getElem h1]
  have := List.take_succ_eq_append_getElem h1
  rw [show l.length - 1 + 1 = l.length by omega, List.take_length] at this
  exact this
theorem split_first {l : List Int} (h : ¬ l.length = 0) : l = l.getD 0 0 :: l.drop 1 := by
  cases l with
  | nil => exact absurd rfl h
  | cons a l => simp
theorem wo_last {l : List Int} (h : ¬ l.length = 0) (h1 : l.count (l.getD (l.length - 1) 0) ≤ 1) : wo l (l.getD (l.length - 1) 0) = l.take (l.length - 1) := by
  have e := count_last h (l.getD (l.length - 1) 0)
  rw [if_pos rfl] at e
  have hn : l.getD (l.length - 1) 0 ∉ l.take (l.length - 1) := fun q => by
    have := List.count_pos_iff.2 q
    omega
  generalize ht : l.getD (l.length - 1) 0 = t at *
  have e2 := split_last h
  rw [ht] at e2
  rw [e2, wo_app, wo_none (t := t) (l := l.take (l.length - 1)) hn, ← e2]
  simp [wo]
theorem wo_first {l : List Int} (h : ¬ l.length = 0) (h1 : l.count (l.getD 0 0) ≤ 1) : wo l (l.getD 0 0) = l.drop 1 := by
  have e := count_first h (l.getD 0 0)
  rw [if_pos rfl] at e
  have hn : l.getD 0 0 ∉ l.drop 1 := fun q => by
    have := List.count_pos_iff.2 q
    omega
  generalize ht : l.getD 0 0 = t at *
  have e2 := split_first h
  rw [ht] at e2
  conv => lhs; rw [e2]
  rw [wo_cons, if_pos rfl, wo_none hn]
theorem own_once {A : Pa} (h : Inv A) {i : Nat} (hi : i < A.n) {t : Int} (ht : t ∈ A.own i) : (A.own i).count t ≤ 1 ∧ (∀ j, j < A.n → j ≠ i → t ∉ A.own j) ∧ t ∉ A.gl := by
  have hp := List.count_pos_iff.2 ht
  have ho := h.o t
  have h1 : at2 A t 2 ≤ 1 := Pl.at2_le A t 2
  have hg := (h.in_own hi ht).2
  have e := sumN_up (fun j => (A.own j).count t) (fun j => if j = i then 0 else (A.own j).count t) hi (fun j hj => if_neg hj)
  simp only [if_pos] at e
  have eo : sumN (fun j => (A.own j).count t) A.n = cO A t := rfl
  have e0 : (fun j => if j = i then 0 else (A.own j).count t) i = 0 := if_pos rfl
  refine ⟨by omega, fun j hj hji hm => ?_, fun hm => ?_⟩
  · have h2 := List.count_pos_iff.2 hm
    have h3 := Pl.sumN_get (f := fun j => if j = i then 0 else (A.own j).count t) hj
    simp only [if_neg hji] at h3
    omega
  · have := (h.in_gl hm).2
    omega
theorem gl_once {A : Pa} (h : Inv A) {t : Int} (ht : t ∈ A.gl) : A.gl.count t ≤ 1 ∧ ∀ j, j < A.n → t ∉ A.own j := by
  have h1 : at2 A t 3 ≤ 1 := Pl.at2_le A t 3
  have hg := h.g t
  refine ⟨by unfold cG at hg; omega, fun j hj hm => ?_⟩
  have h2 := (h.in_gl ht).2
  have h3 := (h.in_own hj hm).2
  omega
/-- Told by the lists: a worker runs a thread that stood in a row. -/
structure Same (A B : Pa) (i : Nat) (t : Int) : Prop where
  n : B.n = A.n
  runs : B.runs = Pl.up A.runs i (t + 1)
  work : B.work = Pl.up A.work i 0
  own : ∀ q, q < A.n → B.own q = wo (A.own q) t
  gl : B.gl = wo A.gl t
section
variable {A : Pa} {i : Nat}
theorem fetch_own (h : Inv A) (hi : i < A.n) (hr : A.runs i = 0) (d : Int) (hl : ¬ (A.own i).length = 0) : ∃ B, fetchA A (i : Int) d = (B, (A.own i).getD ((A.own i).length - 1) 0, 1) ∧ Same A B i ((A.own i).getD ((A.own i).length - 1) 0) := by
  have hm := Pl.getD_mem (l := A.own i) (k := (A.own i).length - 1) (by omega)
  obtain ⟨h1, h2, h3⟩ := own_once h hi hm
  obtain ⟨t, ht⟩ : ∃ t : Nat, (A.own i).getD ((A.own i).length - 1) 0 = (t : Int) := ⟨_, (Int.toNat_of_nonneg (h.in_own hi hm).1.1).symm⟩
  have hN : nextA A i d = ({ A with own := Pl.up A.own i ((A.own i).take ((A.own i).length - 1)) }, (t : Int), 1) := by
    unfold nextA
    rw [if_pos hl, ht]
  have hw := wo_last hl h1
  have hF := fetch_some hi hr d (by decide) hN
  rw [ht] at hw h2 h3 ⊢
  refine ⟨_, hF, rfl, rfl, rfl, fun q hq => ?_, (wo_none h3).symm⟩
  show Pl.up A.own i ((A.own i).take ((A.own i).length - 1)) q = _
  by_cases c : q = i
  · subst c
    rw [Pl.up_same, hw]
  · rw [Pl.up_ne _ _ c, wo_none (h2 q hq c)]
theorem fetch_gl (h : Inv A) (hi : i < A.n) (hr : A.runs i = 0) (d : Int) (h0 : (A.own i).length = 0) (hl : ¬ A.gl.length = 0) : ∃ B, fetchA A (i : Int) d = (B, A.gl.getD 0 0, 2) ∧ Same A B i (A.gl.getD 0 0) := by
  have hm := Pl.getD_mem (l := A.gl) (k := 0) (by omega)
  obtain ⟨h1, h2⟩ := gl_once h hm
  obtain ⟨t, ht⟩ : ∃ t : Nat, A.gl.getD 0 0 = (t : Int) := ⟨_, (Int.toNat_of_nonneg (h.in_gl hm).1.1).symm⟩
  have hN : nextA A i d = ({ A with gl := A.gl.drop 1 }, (t : Int), 2) := by
    unfold nextA
    rw [if_neg (fun z => z h0), if_pos hl, ht]
  have hw := wo_first hl h1
  have hF := fetch_some hi hr d (by decide) hN
  rw [ht] at hw h2 ⊢
  exact ⟨_, hF, rfl, rfl, rfl, fun q hq => (wo_none (h2 q hq)).symm, hw.symm⟩
theorem fetch_steal (h : Inv A) (hi : i < A.n) (hr : A.runs i = 0) (d : Int) (h0 : (A.own i).length = 0) (hg : A.gl.length = 0) (hk : kOf A d ≠ i) (hl : ¬ (A.own (kOf A d)).length = 0) : ∃ B, fetchA A (i : Int) d = (B, (A.own (kOf A d)).getD 0 0, 3) ∧ Same A B i ((A.own (kOf A d)).getD 0 0) := by
  have hkn : kOf A d < A.n := Nat.mod_lt _ h.pos
  have hm := Pl.getD_mem (l := A.own (kOf A d)) (k := 0) (by omega)
  obtain ⟨h1, h2, h3⟩ := own_once h hkn hm
  obtain ⟨t, ht⟩ : ∃ t : Nat, (A.own (kOf A d)).getD 0 0 = (t : Int) := ⟨_, (Int.toNat_of_nonneg (h.in_own hkn hm).1.1).symm⟩
  have hN : nextA A i d = ({ A with own := Pl.up A.own (kOf A d) ((A.own (kOf A d)).drop 1) }, (t : Int), 3) := by
    unfold nextA
    rw [if_neg (fun z => z h0), if_neg (fun z => z hg), if_pos ⟨hk, hl⟩, ht]
  have hw := wo_first hl h1
  have hF := fetch_some hi hr d (by decide) hN
  rw [ht] at hw h2 h3 ⊢
  refine ⟨_, hF, rfl, rfl, rfl, fun q hq => ?_, (wo_none h3).symm⟩
  show Pl.up A.own (kOf A d) ((A.own (kOf A d)).drop 1) q = _
  by_cases c : q = kOf A d
  · subst c
    rw [Pl.up_same, hw]
  · rw [Pl.up_ne _ _ c, wo_none (h2 q hq c)]
theorem fetch_nil (hi : i < A.n) (hr : A.runs i = 0) (d : Int) (h0 : (A.own i).length = 0) (hg : A.gl.length = 0) (hk : kOf A d = i ∨ (A.own (kOf A d)).length = 0) : fetchA A (i : Int) d = (A, -1, 0) :=
  fetch_fail hi hr d (by unfold nextA; rw [if_neg (fun z => z h0), if_neg (fun z => z hg), if_neg (fun z => by rcases hk with q | q; exact z.1 q; exact z.2 q)])
theorem fetch_out {x d : Int} (hx : ¬ (0 ≤ x ∧ x < (A.n : Int) ∧ A.runs x.toNat = 0)) : fetchA A x d = (A, -1, 0) := if_neg hx
theorem Same.pg {R : Nat → Prop} {W : World} {B : Pa} {t : Int} {u0 u1 u2 u3 : Value} {vs : Nat → Value} (h : Same A B i t) (hp : Pg R W (runsA A i t) u0 u1 u2 u3 vs) : Pg R W B u0 u1 u2 u3 vs :=
  hp.to h.n (fun q hq => by rw [h.runs]; rfl) (fun q hq => by rw [h.work]; rfl) (fun q hq => h.own q hq) h.gl
end
/-! ### Drop -/
def dropP (A : Pa) (t : Int) (j : Nat) : Pa := { A with own := fun k => if k < j then wo (A.own k) t else A.own k, runs := fun k => if k < j ∧ A.runs k = t + 1 then 0 else A.runs k }
theorem dropP_zero (A : Pa) (t : Int) : dropP A t 0 = A := by
  unfold dropP
  simp
theorem dropP_own (A : Pa) (t : Int) (j : Nat) : (dropP A t j).own j = A.own j := if_neg (Nat.lt_irrefl j)
theorem dropP_runs (A : Pa) (t : Int) (j : Nat) : (dropP A t j).runs j = A.runs j := if_neg (fun z => Nat.lt_irrefl j z.1)
theorem dropP_hit (A : Pa) (t : Int) (j : Nat) (h : A.runs j = t + 1) : { dropP A t j with own := Pl.up (dropP A t j).own j (wo (A.own j) t), runs := Pl.up (dropP A t j).runs j 0 } = dropP A t (j + 1) := by
  unfold dropP
  have e1 : Pl.up (fun k => if k < j then wo (A.own k) t else A.own k) j (wo (A.own j) t) = fun k => if k < j + 1 then wo (A.own k) t else A.own k := by
    funext k
    unfold Pl.up
    by_cases e : k = j
    · subst e
      rw [if_pos rfl, if_pos (by omega)]
    · rw [if_neg e]
      by_cases c : k < j
      · show (if k < j then wo (A.own k) t else A.own k) = _
        rw [if_pos c, if_pos (by omega)]
      · show (if k < j then wo (A.own k) t else A.own k) = _
        rw [if_neg c, if_neg (by omega)]
  have e2 : Pl.up (fun k => if k < j ∧ A.runs k = t + 1 then 0 else A.runs k) j 0 = fun k => if k < j + 1 ∧ A.runs k = t + 1 then 0 else A.runs k := by
    funext k
    unfold Pl.up
    by_cases e : k = j
    · subst e
      rw [if_pos rfl, if_pos ⟨by omega, h⟩]
    · rw [if_neg e]
      by_cases c : k < j ∧ A.runs k = t + 1
      · show (if k < j ∧ A.runs k = t + 1 then 0 else A.runs k) = _
        rw [if_pos c, if_pos ⟨by omega, c.2⟩]
      · show (if k < j ∧ A.runs k = t + 1 then 0 else A.runs k) = _
        rw [if_neg c, if_neg (fun z => c ⟨by omega, z.2⟩)]
  show Pa.mk _ _ _ _ _ _ = Pa.mk _ _ _ _ _ _
  rw [← e1, ← e2]
theorem dropP_miss (A : Pa) (t : Int) (j : Nat) (h : A.runs j ≠ t + 1) : { dropP A t j with own := Pl.up (dropP A t j).own j (wo (A.own j) t) } = dropP A t (j + 1) := by
  unfold dropP
  have e1 : Pl.up (fun k => if k < j then wo (A.own k) t else A.own k) j (wo (A.own j) t) = fun k => if k < j + 1 then wo (A.own k) t else A.own k := by
    funext k
    unfold Pl.up
    by_cases e : k = j
    · subst e
      rw [if_pos rfl, if_pos (by omega)]
    · rw [if_neg e]
      by_cases c : k < j
      · show (if k < j then wo (A.own k) t else A.own k) = _
        rw [if_pos c, if_pos (by omega)]
      · show (if k < j then wo (A.own k) t else A.own k) = _
        rw [if_neg c, if_neg (by omega)]
  have e2 : (fun k => if k < j ∧ A.runs k = t + 1 then 0 else A.runs k) = fun k => if k < j + 1 ∧ A.runs k = t + 1 then 0 else A.runs k := by
    funext k
    by_cases e : k = j
    · subst e
      rw [if_neg (fun z => h z.2), if_neg (fun z => h z.2)]
    · by_cases c : k < j ∧ A.runs k = t + 1
      · rw [if_pos c, if_pos ⟨by omega, c.2⟩]
      · rw [if_neg c, if_neg (fun z => c ⟨by omega, z.2⟩)]
  show Pa.mk _ _ _ _ _ _ = Pa.mk _ _ _ _ _ _
  rw [← e1, ← e2]
/-- The page's Drop leaves what the record's does. -/
theorem drop_same {A : Pa} (h : Inv A) (t : Int) (hw : wher A t ≠ 0) : (dropA A t).n = A.n ∧ (∀ q, q < A.n → (dropA A t).runs q = if A.runs q = t + 1 then 0 else A.runs q) ∧ (dropA A t).work = A.work ∧ (∀ q, q < A.n → (dropA A t).own q = wo (A.own q) t) ∧ (dropA A t).gl = wo A.gl t := by
  have hr : rg t := by
    unfold wher at hw
    split at hw
    · assumption
    · exact absurd rfl hw
  have hwt : wher A t = A.wh t.toNat := if_pos hr
  have nr : wher A t ≠ 1 → ∀ q, q < A.n → A.runs q ≠ t + 1 := fun z q hq e => z (hwt.trans (h.in_runs hq hr.1 e).2)
  have no : wher A t ≠ 2 → ∀ q, q < A.n → t ∉ A.own q := fun z q hq e => z (hwt.trans (h.in_own hq e).2)
  have ng : wher A t ≠ 3 → t ∉ A.gl := fun z e => z (hwt.trans (h.in_gl e).2)
  unfold dropA
  rw [if_neg hw]
  by_cases c1 : wher A t = 1
  · rw [if_pos c1]
    refine ⟨rfl, fun q hq => ?_, rfl, fun q hq => (wo_none (no (by omega) q hq)).symm, (wo_none (ng (by omega))).symm⟩
    show (if q < A.n ∧ A.runs q = t + 1 then 0 else A.runs q) = _
    by_cases c : A.runs q = t + 1
    · rw [if_pos c, if_pos ⟨hq, c⟩]
    · rw [if_neg c, if_neg (fun z => c z.2)]
  · rw [if_neg c1]
    by_cases c2 : wher A t = 2
    · rw [if_pos c2]
      refine ⟨rfl, fun q hq => ?_, rfl, fun q hq => ?_, (wo_none (ng (by omega))).symm⟩
      · rw [if_neg (nr c1 q hq)]
        rfl
      · exact if_pos hq
    · rw [if_neg c2]
      exact ⟨rfl, fun q hq => by rw [if_neg (nr c1 q hq)]; rfl, rfl, fun q hq => (wo_none (no c2 q hq)).symm, rfl⟩
end Go.Proofs.Ytjcjhmnfknenlaa.Px
