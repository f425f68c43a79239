/- What the page's and the program's small functions on graphs come to (plain functions of PCycleAgrees). Conditions: none. -/
import Derived.Test.YtbfbegleffkafaaDoorGr
import Derived.Test.YtbfbegleffkafaaDoorPCycleAgreesx1
import Derived.Test.YtbfbegleffkafaaDoorPCycleAgreesx2
import Derived.Test.YtbfbegleffkafaaDoorPCycleAgreesx3
import Derived.Test.YtbfbegleffkafaaDoorPCycleAgreesx4
import Derived.Test.YtbfbegleffkafaaDoorPCycleAgreesx5

namespace Go.Proofs.YtbfbegleffkafaaDoor.Ce
open Go.RowKit Go.Proofs.YtbfbegleffkafaaDoor.PCycleAgrees Go.Proofs.YtbfbegleffkafaaDoorW.PrintWords Go.Proofs.YtbfbegleffkafaaDoorW.PrintLast Go.Proofs.YtbfbegleffkafaaDoorW.PrintMore
open Gr (Evt)
set_option linter.unusedVariables false

theorem wr {i : Nat} (h : i < 4000000000000000000) : wrap64 ((i : Int) + 1) = ((i + 1 : Nat) : Int) := by unfold wrap64; omega
theorem take_snoc {α : Type} (l : List α) (i : Nat) (h : i < l.length) : l.take (i + 1) = l.take i ++ [l[i]] := by
  rw [List.take_succ_eq_append_getElem h]
theorem rdT {l : List S44} {i : Nat} (h : i < l.length) : rd_T44 l (i : Int) = l[i] := by unfold rd_T44; simp [List.getD_eq_getElem?_getD, h]
theorem rdL {l : List (List S66)} {i : Nat} (h : i < l.length) : rd_L5 l (i : Int) = l[i] := by unfold rd_L5; simp [List.getD_eq_getElem?_getD, h]
theorem rdM {l : List S66} {i : Nat} (h : i < l.length) : rd_T66 l (i : Int) = l[i] := by unfold rd_T66; simp [List.getD_eq_getElem?_getD, h]

theorem ints_len (l : List Nat) : (Cy.ints l).length = l.length := by simp [Cy.ints]
theorem rd_ints {l : List Nat} {i : Nat} (h : i < l.length) : rd (Cy.ints l) (i : Int) = ((l[i] : Nat) : Int) := by
  unfold rd Cy.ints
  simp [List.getD_eq_getElem?_getD, h]

/-! ### a graph in memory of its own -/
def term (m : S66) : S66 := ⟨m.f0, m.f1.take 70⟩
def way (w : List S66) : List S66 := (w.take 6).map term
def node (n : S44) : S44 := ⟨n.f0, (n.f1.take 6).map way⟩
def own (l : List S44) : List S44 := (l.take 70).map node
theorem own_own (l : List S44) : own (own l) = own l := by
  unfold own
  rw [← List.map_take, List.take_take, List.map_map]
  apply List.map_congr_left
  intro n _
  simp only [Function.comp, node, ← List.map_take, List.take_take, List.map_map]
  congr 1
  apply List.map_congr_left
  intro w _
  simp only [Function.comp, way, ← List.map_take, List.take_take, List.map_map]
  apply List.map_congr_left
  intro m _
  simp [Function.comp, term, List.take_take]
theorem own_len (l : List S44) : (own l).length ≤ 70 := by unfold own; simp; omega
section
variable {x0 : List S44} {v : List S44}
theorem own_l2 {acc : List S44} {i a : Nat} {st : Bool} {alts : List (List S66)} (hi : i < x0.length) (ha : a < x0[i].f1.length) (ha6 : a < 6) (hal : alts.length ≤ 6)
    (hv : Evt (fun k => logjamlaw26_Own.l1 k x0 acc (i : Int) ((a + 1 : Nat) : Int) st (alts ++ [way x0[i].f1[a]])) v) :
    ∀ d j, j + d = min 6 x0[i].f1[a].length → Evt (fun k => logjamlaw26_Own.l2 k x0 acc (i : Int) (a : Int) ((x0[i].f1[a].take j).map term) (j : Int) st alts) v := by
  intro d
  induction d with
  | zero =>
    intro j hj
    have hend : Evt (fun k => logjamlaw26_Own.j5 k x0 acc (i : Int) (a : Int) ((x0[i].f1[a].take j).map term) (j : Int) false st alts) v := by
      refine Evt.step (g := fun k => logjamlaw26_Own.l1 k x0 acc (i : Int) ((a + 1 : Nat) : Int) st (alts ++ [way x0[i].f1[a]])) (fun k => ?_) hv
      simp only [logjamlaw26_Own.j5]
      rw [if_neg (by decide), if_pos (by omega), wr (by omega)]
      have e : (x0[i].f1[a].take j).map term = way x0[i].f1[a] := by
        unfold way
        have : x0[i].f1[a].take j = x0[i].f1[a].take 6 := by
          rcases Nat.lt_or_ge 6 x0[i].f1[a].length with q | q
          · rw [show j = 6 by omega]
          · rw [List.take_of_length_le (by omega), List.take_of_length_le q]
        rw [this]
      rw [e]
    refine Evt.step (g := fun k => logjamlaw26_Own.j5 k x0 acc (i : Int) (a : Int) ((x0[i].f1[a].take j).map term) (j : Int) false st alts) (fun k => ?_) hend
    simp only [logjamlaw26_Own.l2, rdT hi]
    rw [if_pos (by omega), if_pos (by omega), if_pos (by omega), if_pos (by omega), rdL ha]
    by_cases c : (j : Int) < (x0[i].f1[a].length : Int)
    · rw [if_pos c, show decide ((j : Int) < 6) = false from by simp; omega]
    · rw [if_neg c]
  | succ d ih =>
    intro j hj
    have hjl : j < x0[i].f1[a].length := by omega
    have go := ih (j + 1) (by omega)
    rw [take_snoc _ _ hjl, List.map_append] at go
    have hend : Evt (fun k => logjamlaw26_Own.j5 k x0 acc (i : Int) (a : Int) ((x0[i].f1[a].take j).map term) (j : Int) true st alts) v := by
      refine Evt.step (g := fun k => logjamlaw26_Own.l2 k x0 acc (i : Int) (a : Int) ((x0[i].f1[a].take j).map term ++ [x0[i].f1[a][j]].map term) ((j + 1 : Nat) : Int) st alts) (fun k => ?_) go
      simp only [logjamlaw26_Own.j5, rdT hi, rdL ha, rdM hjl]
      rw [if_pos trivial, if_pos (by omega), if_pos (by omega), if_pos (by omega), if_pos (by omega), if_pos (by omega), if_pos (by omega)]
      have hl : ((x0[i].f1[a].take j).map term).length < 4398046511104 := by simp; omega
      by_cases c : ((x0[i].f1[a][j].f1.length : Nat) : Int) > 70
      · rw [if_pos c, if_pos (by omega)]
        simp only [Option.bind_some, List.length_nil, List.nil_append]
        rw [if_pos (by simp; omega), if_pos hl, wr (by omega)]
        rfl
      · rw [if_neg c]
        simp only [Option.bind_some, List.length_nil, List.nil_append]
        rw [if_pos (by omega), if_pos hl, wr (by omega)]
        have : x0[i].f1[a][j].f1 = x0[i].f1[a][j].f1.take 70 := by rw [List.take_of_length_le (by omega)]
        simp only [List.map_cons, List.map_nil, term]
        rw [← this]
    refine Evt.step (g := fun k => logjamlaw26_Own.j5 k x0 acc (i : Int) (a : Int) ((x0[i].f1[a].take j).map term) (j : Int) true st alts) (fun k => ?_) hend
    simp only [logjamlaw26_Own.l2, rdT hi]
    rw [if_pos (by omega), if_pos (by omega), if_pos (by omega), if_pos (by omega), rdL ha, if_pos (by omega), show decide ((j : Int) < 6) = true from by simp; omega]
theorem own_l1 {acc : List S44} {i : Nat} (hi : i < x0.length) (hi70 : i < 70) (hacc : acc.length ≤ 70)
    (hv : Evt (fun k => logjamlaw26_Own.l0 k x0 (acc ++ [node x0[i]]) ((i + 1 : Nat) : Int)) v) :
    ∀ d a, a + d = min 6 x0[i].f1.length → Evt (fun k => logjamlaw26_Own.l1 k x0 acc (i : Int) (a : Int) x0[i].f0 ((x0[i].f1.take a).map way)) v := by
  intro d
  induction d with
  | zero =>
    intro a ha
    have hend : Evt (fun k => logjamlaw26_Own.j3 k x0 acc (i : Int) (a : Int) false x0[i].f0 ((x0[i].f1.take a).map way)) v := by
      refine Evt.step (g := fun k => logjamlaw26_Own.l0 k x0 (acc ++ [node x0[i]]) ((i + 1 : Nat) : Int)) (fun k => ?_) hv
      simp only [logjamlaw26_Own.j3]
      rw [if_neg (by decide), if_pos (by omega), wr (by omega)]
      have e : (x0[i].f1.take a).map way = (x0[i].f1.take 6).map way := by
        rcases Nat.lt_or_ge 6 x0[i].f1.length with q | q
        · rw [show a = 6 by omega]
        · rw [List.take_of_length_le (by omega), List.take_of_length_le q]
      rw [e]
      rfl
    refine Evt.step (g := fun k => logjamlaw26_Own.j3 k x0 acc (i : Int) (a : Int) false x0[i].f0 ((x0[i].f1.take a).map way)) (fun k => ?_) hend
    simp only [logjamlaw26_Own.l1, rdT hi]
    rw [if_pos (by omega), if_pos (by omega)]
    by_cases c : (a : Int) < (x0[i].f1.length : Int)
    · rw [if_pos c, show decide ((a : Int) < 6) = false from by simp; omega]
    · rw [if_neg c]
  | succ d ih =>
    intro a ha
    have hal : a < x0[i].f1.length := by omega
    have go := ih (a + 1) (by omega)
    rw [take_snoc _ _ hal, List.map_append] at go
    have h2 := own_l2 (acc := acc) (alts := (x0[i].f1.take a).map way) (st := x0[i].f0) hi hal (by omega) (by simp; omega) go (min 6 x0[i].f1[a].length) 0 (by omega)
    have hend : Evt (fun k => logjamlaw26_Own.j3 k x0 acc (i : Int) (a : Int) true x0[i].f0 ((x0[i].f1.take a).map way)) v :=
      Evt.step (g := fun k => logjamlaw26_Own.l2 k x0 acc (i : Int) (a : Int) ((x0[i].f1[a].take 0).map term) ((0 : Nat) : Int) x0[i].f0 ((x0[i].f1.take a).map way)) (fun k => by
        simp only [logjamlaw26_Own.j3]
        rw [if_pos trivial]
        rfl) h2
    refine Evt.step (g := fun k => logjamlaw26_Own.j3 k x0 acc (i : Int) (a : Int) true x0[i].f0 ((x0[i].f1.take a).map way)) (fun k => ?_) hend
    simp only [logjamlaw26_Own.l1, rdT hi]
    rw [if_pos (by omega), if_pos (by omega), if_pos (by omega), show decide ((a : Int) < 6) = true from by simp; omega]
end
theorem own_l0 {x0 : List S44} : ∀ d i, i + d = min 70 x0.length → Evt (fun k => logjamlaw26_Own.l0 k x0 ((x0.take i).map node) (i : Int)) (own x0) := by
  intro d
  induction d with
  | zero =>
    intro i hi
    have hend : Evt (fun k => logjamlaw26_Own.j1 k x0 ((x0.take i).map node) (i : Int) false) (own x0) := by
      refine Evt.step (g := fun _ => some (own x0)) (fun k => ?_) (Evt.const fun _ => rfl)
      simp only [logjamlaw26_Own.j1]
      rw [if_neg (by decide)]
      unfold own
      rcases Nat.lt_or_ge 70 x0.length with q | q
      · rw [show i = 70 by omega]
      · rw [List.take_of_length_le (show x0.length ≤ i by omega), List.take_of_length_le q]
    refine Evt.step (g := fun k => logjamlaw26_Own.j1 k x0 ((x0.take i).map node) (i : Int) false) (fun k => ?_) hend
    simp only [logjamlaw26_Own.l0]
    by_cases c : (i : Int) < (x0.length : Int)
    · rw [if_pos c, show decide ((i : Int) < 70) = false from by simp; omega]
    · rw [if_neg c]
  | succ d ih =>
    intro i hi
    have hil : i < x0.length := by omega
    have go := ih (i + 1) (by omega)
    rw [take_snoc _ _ hil, List.map_append] at go
    have h1 := own_l1 (acc := (x0.take i).map node) hil (by omega) (by simp; omega) go (min 6 x0[i].f1.length) 0 (by omega)
    have hend : Evt (fun k => logjamlaw26_Own.j1 k x0 ((x0.take i).map node) (i : Int) true) (own x0) := by
      refine Evt.step (g := fun k => logjamlaw26_Own.l1 k x0 ((x0.take i).map node) (i : Int) ((0 : Nat) : Int) x0[i].f0 ((x0[i].f1.take 0).map way)) (fun k => ?_) h1
      simp only [logjamlaw26_Own.j1, rdT hil]
      rw [if_pos trivial, if_pos (by omega), if_pos (by omega)]
      rfl
    refine Evt.step (g := fun k => logjamlaw26_Own.j1 k x0 ((x0.take i).map node) (i : Int) true) (fun k => ?_) hend
    simp only [logjamlaw26_Own.l0]
    rw [if_pos (by omega), show decide ((i : Int) < 70) = true from by simp; omega]
theorem own_f (l : List S44) : Evt (fun k => logjamlaw26_Own.f k l) (own l) := own_l0 (min 70 l.length) 0 (by omega)

/-! ### which graphs are pure -/
def thr (m : S66) : Int := (rd_T68 m.f1 0).f0
def pm (n : Nat) (m : S66) : Bool := decide (m.f0 = 1) && (decide ((m.f1.length : Int) = 1) && (decide ((rd_T68 m.f1 0).f1 ≥ 1) && (decide (thr m ≥ 0) && decide (thr m < (n : Int)))))
def pn (n : Nat) (x : S44) : Bool := !x.f0 || (decide ((x.f1.length : Int) = 1) && (rd_L5 x.f1 0).all (pm n))
def pureB (l : List S44) : Bool := decide (l.length ≤ 64) && l.all (pn l.length)
theorem single_f (m : S66) (n : Nat) : cycle_single.f m.f0 m.f1 (n : Int) = some (pm n m) := by
  unfold cycle_single.f pm
  by_cases c1 : m.f0 = 1
  · rw [if_pos c1]
    by_cases c2 : (m.f1.length : Int) = 1
    · rw [if_pos c2, if_pos (by omega)]
      by_cases c3 : (rd_T68 m.f1 0).f1 ≥ 1
      · rw [if_pos c3]
        by_cases c4 : (rd_T68 m.f1 0).f0 ≥ 0
        · rw [if_pos c4]
          simp [c1, c2, c3, c4, thr]
          try rfl
        · rw [if_neg c4]
          simp [c4, thr]
      · rw [if_neg c3]
        simp [c3]
    · rw [if_neg c2]
      simp [c2]
  · rw [if_neg c1]
    simp [c1]
theorem all_drop {α : Type} (p : α → Bool) (l : List α) (i : Nat) (h : i < l.length) : (l.drop i).all p = (p l[i] && (l.drop (i + 1)).all p) := by
  rw [List.drop_eq_getElem_cons h, List.all_cons]
theorem all_end {α : Type} (p : α → Bool) (l : List α) (i : Nat) (h : l.length ≤ i) : (l.drop i).all p = true := by
  rw [List.drop_of_length_le h]; rfl
theorem pure_l1 {l : List S44} {i : Nat} {w : List S66} {v : Bool} (hl : l.length ≤ 64) (hi : i < l.length) (hw : w.length < 1000000)
    (hv : Evt (fun k => cycle_Pure.l0 k l l (l.length : Int) ((i + 1 : Nat) : Int)) v) :
    ∀ d j, j + d = w.length → Evt (fun k => cycle_Pure.l1 k l l (l.length : Int) (i : Int) w (w.length : Int) (j : Int)) ((w.drop j).all (pm l.length) && v) := by
  intro d
  induction d with
  | zero =>
    intro j hj
    rw [all_end _ _ _ (by omega), Bool.true_and]
    refine Evt.step (g := fun k => cycle_Pure.l0 k l l (l.length : Int) ((i + 1 : Nat) : Int)) (fun k => ?_) hv
    simp only [cycle_Pure.l1]
    rw [if_neg (by omega), wr (by omega)]
  | succ d ih =>
    intro j hj
    have hjl : j < w.length := by omega
    rw [all_drop _ _ _ hjl]
    refine Evt.step (g := fun k => if pm l.length w[j] = true then cycle_Pure.l1 k l l (l.length : Int) (i : Int) w (w.length : Int) ((j + 1 : Nat) : Int) else some false) (fun k => ?_) (Evt.ite (fun h => ?_) (fun h => ?_))
    · simp only [cycle_Pure.l1, rdM hjl, single_f]
      rw [if_pos (by omega), if_pos (by omega), if_pos (by omega), Option.bind_some, wr (by omega)]
    · rw [h, Bool.true_and]
      exact ih (j + 1) (by omega)
    · rw [h]
      exact Evt.const fun _ => rfl
theorem pure_l0 {l : List S44} (hl : l.length ≤ 64) (hw : ∀ x ∈ l, ∀ w ∈ x.f1, w.length < 1000000) : ∀ d i, i + d = l.length → Evt (fun k => cycle_Pure.l0 k l l (l.length : Int) (i : Int)) ((l.drop i).all (pn l.length)) := by
  intro d
  induction d with
  | zero =>
    intro i hi
    rw [all_end _ _ _ (by omega)]
    refine Evt.step (g := fun _ => some true) (fun k => ?_) (Evt.const fun _ => rfl)
    simp only [cycle_Pure.l0]
    rw [if_neg (by omega)]
  | succ d ih =>
    intro i hi
    have hil : i < l.length := by omega
    have go := ih (i + 1) (by omega)
    rw [all_drop _ _ _ hil]
    have hp : Evt (fun k => if l[i].f0 = true then (if (l[i].f1.length : Int) = 1 then (if 0 < (l[i].f1.length : Int) then cycle_Pure.l1 k l l (l.length : Int) (i : Int) (rd_L5 l[i].f1 0) ((rd_L5 l[i].f1 0).length : Int) 0 else none) else some false) else cycle_Pure.l0 k l l (l.length : Int) ((i + 1 : Nat) : Int)) (pn l.length l[i] && (l.drop (i + 1)).all (pn l.length)) := by
      refine Evt.ite (fun h => ?_) (fun h => ?_)
      · by_cases c : (l[i].f1.length : Int) = 1
        · refine Evt.of (g := fun k => cycle_Pure.l1 k l l (l.length : Int) (i : Int) (rd_L5 l[i].f1 0) ((rd_L5 l[i].f1 0).length : Int) ((0 : Nat) : Int)) (fun k => by rw [if_pos c, if_pos (by omega)]; rfl) ?_
          have hr : rd_L5 l[i].f1 0 = l[i].f1[0]'(by omega) := rdL (i := 0) (by omega)
          have := pure_l1 (w := rd_L5 l[i].f1 0) hl hil (by rw [hr]; exact hw _ (List.getElem_mem hil) _ (List.getElem_mem _)) go (rd_L5 l[i].f1 0).length 0 (by omega)
          have e : pn l.length l[i] = (rd_L5 l[i].f1 0).all (pm l.length) := by unfold pn; rw [h]; simp [c]
          rw [e]
          simpa using this
        · refine Evt.of (g := fun _ => some false) (fun k => by rw [if_neg c]) ?_
          have e : pn l.length l[i] = false := by unfold pn; rw [h]; simp [c]
          rw [e, Bool.false_and]
          exact Evt.const fun _ => rfl
      · have e : pn l.length l[i] = true := by unfold pn; rw [h]; rfl
        rw [e, Bool.true_and]
        exact go
    refine Evt.step (fun k => ?_) hp
    simp only [cycle_Pure.l0, rdT hil]
    rw [if_pos (by omega), if_pos (by omega), if_pos (by omega), wr (by omega)]
/-- Lists whose ways are no great ones. -/
def Small (l : List S44) : Prop := ∀ x ∈ l, ∀ w ∈ x.f1, w.length < 1000000
theorem small_own (l : List S44) : Small (own l) := by
  intro x hx w hw
  unfold own at hx
  obtain ⟨n, _, rfl⟩ := List.mem_map.1 hx
  unfold node at hw
  obtain ⟨w0, _, rfl⟩ := List.mem_map.1 hw
  unfold way
  simp
  omega
theorem pure_f {l : List S44} (hs : Small l) (h70 : l.length ≤ 1000000) : Evt (fun k => cycle_Pure.f k l) (pureB l) := by
  unfold pureB
  by_cases c : l.length ≤ 64
  · rw [decide_eq_true c, Bool.true_and]
    refine Evt.of (g := fun k => cycle_Pure.l0 k l l (l.length : Int) ((0 : Nat) : Int)) (fun k => by unfold cycle_Pure.f; rw [if_neg (by omega)]; rfl) ?_
    have := pure_l0 c hs l.length 0 (by omega)
    simpa using this
  · rw [decide_eq_false c, Bool.false_and]
    exact Evt.of (g := fun _ => some false) (fun k => by unfold cycle_Pure.f; rw [if_pos (by omega)]) (Evt.const fun _ => rfl)

theorem rpure_l1 {l : List S44} {i : Nat} {v : Bool} (hl : l.length ≤ 64) (hi : i < l.length) (h0 : l[i].f0 = true) (h1 : (l[i].f1.length : Int) = 1) (hw : (rd_L5 l[i].f1 0).length < 1000000)
    (hv : Evt (fun k => logjamref27_Pure.l0 k l ((i + 1 : Nat) : Int)) v) :
    ∀ d j, j + d = (rd_L5 l[i].f1 0).length → Evt (fun k => logjamref27_Pure.l1 k l (i : Int) (j : Int)) (((rd_L5 l[i].f1 0).drop j).all (pm l.length) && v) := by
  obtain ⟨w, hwe⟩ : ∃ w, w = rd_L5 l[i].f1 0 := ⟨_, rfl⟩
  rw [← hwe] at hw
  rw [← hwe]
  intro d
  induction d with
  | zero =>
    intro j hj
    rw [all_end _ _ _ (by omega), Bool.true_and]
    have hend : Evt (fun k => logjamref27_Pure.j3 k l (i : Int) (j : Int) false) v :=
      Evt.step (g := fun k => logjamref27_Pure.l0 k l ((i + 1 : Nat) : Int)) (fun k => by
        simp only [logjamref27_Pure.j3]
        rw [if_neg (by decide), wr (by omega)]) hv
    refine Evt.step (g := fun k => logjamref27_Pure.j3 k l (i : Int) (j : Int) false) (fun k => ?_) hend
    simp only [logjamref27_Pure.l1, rdT hi, ← hwe]
    rw [if_pos (by omega), if_pos (by omega), if_pos h0, if_pos (by omega), show decide ((j : Int) < (w.length : Int)) = false from by simp; omega]
  | succ d ih =>
    intro j hj
    have hjl : j < w.length := by omega
    rw [all_drop _ _ _ hjl]
    have hend : Evt (fun k => logjamref27_Pure.j3 k l (i : Int) (j : Int) true) (pm l.length w[j] && (w.drop (j + 1)).all (pm l.length) && v) := by
      refine Evt.step (g := fun k => if pm l.length w[j] = true then logjamref27_Pure.l1 k l (i : Int) ((j + 1 : Nat) : Int) else some false) (fun k => ?_) (Evt.ite (fun h => ?_) (fun h => ?_))
      · simp only [logjamref27_Pure.j3, rdT hi, ← hwe, rdM hjl]
        rw [if_pos trivial, if_pos (by omega), if_pos (by omega), if_pos (by omega), if_pos (by omega), if_pos (by omega), wr (by omega)]
        unfold pm thr
        by_cases c1 : w[j].f0 = 1
        · rw [if_pos c1]
          by_cases c2 : (w[j].f1.length : Int) = 1
          · rw [if_pos c2, if_pos (by omega)]
            by_cases c3 : (rd_T68 w[j].f1 0).f1 < 1
            · rw [if_pos c3]
              have : ¬ (rd_T68 w[j].f1 0).f1 ≥ 1 := by omega
              simp [this]
            · rw [if_neg c3]
              have c3' : (rd_T68 w[j].f1 0).f1 ≥ 1 := by omega
              by_cases c4 : (rd_T68 w[j].f1 0).f0 < 0
              · rw [if_pos c4]
                have : ¬ (rd_T68 w[j].f1 0).f0 ≥ 0 := by omega
                simp [this]
              · rw [if_neg c4]
                have c4' : (rd_T68 w[j].f1 0).f0 ≥ 0 := by omega
                by_cases c5 : (rd_T68 w[j].f1 0).f0 ≥ (l.length : Int)
                · rw [if_pos c5]
                  have : ¬ (rd_T68 w[j].f1 0).f0 < (l.length : Int) := by omega
                  simp [this]
                · rw [if_neg c5]
                  have c5' : (rd_T68 w[j].f1 0).f0 < (l.length : Int) := by omega
                  rw [if_pos (by simp [c1, c2, c3', c4', c5'])]
          · rw [if_neg c2]
            simp [c2]
        · rw [if_neg c1]
          simp [c1]
      · rw [h, Bool.true_and]
        exact ih (j + 1) (by omega)
      · rw [h]
        exact Evt.const fun _ => rfl
    refine Evt.step (g := fun k => logjamref27_Pure.j3 k l (i : Int) (j : Int) true) (fun k => ?_) hend
    simp only [logjamref27_Pure.l1, rdT hi, ← hwe]
    rw [if_pos (by omega), if_pos (by omega), if_pos h0, if_pos (by omega), show decide ((j : Int) < (w.length : Int)) = true from by simp; omega]
theorem rpure_l0 {l : List S44} (hl : l.length ≤ 64) (hw : Small l) : ∀ d i, i + d = l.length → Evt (fun k => logjamref27_Pure.l0 k l (i : Int)) ((l.drop i).all (pn l.length)) := by
  intro d
  induction d with
  | zero =>
    intro i hi
    rw [all_end _ _ _ (by omega)]
    refine Evt.step (g := fun _ => some true) (fun k => ?_) (Evt.const fun _ => rfl)
    simp only [logjamref27_Pure.l0]
    rw [if_neg (by omega)]
  | succ d ih =>
    intro i hi
    have hil : i < l.length := by omega
    have go := ih (i + 1) (by omega)
    rw [all_drop _ _ _ hil]
    cases h : l[i].f0 with
    | true =>
      by_cases c : (l[i].f1.length : Int) = 1
      · have hr : rd_L5 l[i].f1 0 = l[i].f1[0]'(by omega) := rdL (i := 0) (by omega)
        have h1 := rpure_l1 hl hil h c (by rw [hr]; exact hw _ (List.getElem_mem hil) _ (List.getElem_mem _)) go (rd_L5 l[i].f1 0).length 0 (by omega)
        have e : pn l.length l[i] = (rd_L5 l[i].f1 0).all (pm l.length) := by unfold pn; rw [h]; simp [c]
        rw [e]
        rw [List.drop_zero] at h1
        have h2 : Evt (fun k => logjamref27_Pure.j1 k l (i : Int) false) ((rd_L5 l[i].f1 0).all (pm l.length) && (l.drop (i + 1)).all (pn l.length)) :=
          Evt.step (g := fun k => logjamref27_Pure.l1 k l (i : Int) ((0 : Nat) : Int)) (fun k => by
            simp only [logjamref27_Pure.j1]
            rw [if_neg (by decide)]
            rfl) h1
        refine Evt.step (g := fun k => logjamref27_Pure.j1 k l (i : Int) false) (fun k => ?_) h2
        simp only [logjamref27_Pure.l0, rdT hil]
        rw [if_pos (by omega), if_pos (by omega), if_pos h, show ((l[i].f1.length : Int) != 1) = false from by simp [c]]
      · have e : pn l.length l[i] = false := by unfold pn; rw [h]; simp [c]
        rw [e, Bool.false_and]
        have h2 : Evt (fun k => logjamref27_Pure.j1 k l (i : Int) true) false :=
          Evt.step (g := fun _ => some false) (fun k => by
            simp only [logjamref27_Pure.j1]
            rw [if_pos trivial]) (Evt.const fun _ => rfl)
        refine Evt.step (g := fun k => logjamref27_Pure.j1 k l (i : Int) true) (fun k => ?_) h2
        simp only [logjamref27_Pure.l0, rdT hil]
        rw [if_pos (by omega), if_pos (by omega), if_pos h, show ((l[i].f1.length : Int) != 1) = true from by simp [c]]
    | false =>
      have e : pn l.length l[i] = true := by unfold pn; rw [h]; rfl
      rw [e, Bool.true_and]
      have h3 : Evt (fun k => logjamref27_Pure.j3 k l (i : Int) ((0 : Nat) : Int) false) ((l.drop (i + 1)).all (pn l.length)) :=
        Evt.step (g := fun k => logjamref27_Pure.l0 k l ((i + 1 : Nat) : Int)) (fun k => by
          simp only [logjamref27_Pure.j3]
          rw [if_neg (by decide), wr (by omega)]) go
      have h2 : Evt (fun k => logjamref27_Pure.l1 k l (i : Int) ((0 : Nat) : Int)) ((l.drop (i + 1)).all (pn l.length)) :=
        Evt.step (g := fun k => logjamref27_Pure.j3 k l (i : Int) ((0 : Nat) : Int) false) (fun k => by
          simp only [logjamref27_Pure.l1, rdT hil]
          rw [if_pos (by omega), if_pos (by omega), if_neg (by rw [h]; decide)]) h3
      have h1 : Evt (fun k => logjamref27_Pure.j1 k l (i : Int) false) ((l.drop (i + 1)).all (pn l.length)) :=
        Evt.step (g := fun k => logjamref27_Pure.l1 k l (i : Int) ((0 : Nat) : Int)) (fun k => by
          simp only [logjamref27_Pure.j1]
          rw [if_neg (by decide)]
          rfl) h2
      refine Evt.step (g := fun k => logjamref27_Pure.j1 k l (i : Int) false) (fun k => ?_) h1
      simp only [logjamref27_Pure.l0, rdT hil]
      rw [if_pos (by omega), if_pos (by omega), if_neg (by rw [h]; decide)]
theorem rpure_f {l : List S44} (hs : Small l) (h70 : l.length ≤ 1000000) : Evt (fun k => logjamref27_Pure.f k l) (pureB l) := by
  unfold pureB
  by_cases c : l.length ≤ 64
  · rw [decide_eq_true c, Bool.true_and]
    refine Evt.of (g := fun k => logjamref27_Pure.l0 k l ((0 : Nat) : Int)) (fun k => by unfold logjamref27_Pure.f; rw [if_neg (by omega)]; rfl) ?_
    have := rpure_l0 c hs l.length 0 (by omega)
    simpa using this
  · rw [decide_eq_false c, Bool.false_and]
    exact Evt.of (g := fun _ => some false) (fun k => by unfold logjamref27_Pure.f; rw [if_pos (by omega)]) (Evt.const fun _ => rfl)

/-! ### who waits for whom -/
def succ (x : S44) : List Int := if x.f0 = true then (rd_L5 x.f1 0).map thr else []
def gr (l : List S44) : List (List Nat) := l.map fun x => (succ x).map Int.toNat
theorem pn_thr {n : Nat} {x : S44} (h : pn n x = true) : ∀ u ∈ succ x, 0 ≤ u ∧ u < n := by
  intro u hu
  unfold succ at hu
  split at hu
  · rename_i h0
    obtain ⟨m, hm, rfl⟩ := List.mem_map.1 hu
    unfold pn at h
    rw [h0] at h
    simp only [Bool.not_true, Bool.false_or, Bool.and_eq_true, List.all_eq_true] at h
    have := h.2 m hm
    unfold pm at this
    simp only [Bool.and_eq_true, decide_eq_true_eq] at this
    exact ⟨this.2.2.2.1, this.2.2.2.2⟩
  · cases hu
theorem next_l0 {w : List S66} {n : Nat} (hw : w.length < 1000000) (hp : w.all (pm n) = true) : ∀ d j, j + d = w.length → Evt (fun k => cycle_next.l0 k ((w.take j).map thr) w (w.length : Int) (j : Int)) (w.map thr) := by
  intro d
  induction d with
  | zero =>
    intro j hj
    refine Evt.step (g := fun _ => some (w.map thr)) (fun k => ?_) (Evt.const fun _ => rfl)
    simp only [cycle_next.l0]
    rw [if_neg (by omega), List.take_of_length_le (by omega)]
  | succ d ih =>
    intro j hj
    have hjl : j < w.length := by omega
    have go := ih (j + 1) (by omega)
    rw [take_snoc _ _ hjl, List.map_append] at go
    have hm := List.all_eq_true.1 hp _ (List.getElem_mem hjl)
    unfold pm at hm
    simp only [Bool.and_eq_true, decide_eq_true_eq] at hm
    refine Evt.step (fun k => ?_) go
    simp only [cycle_next.l0, rdM hjl]
    rw [if_pos (by omega), if_pos (by omega), if_pos (by omega), if_pos (by omega), if_pos (by simp; omega), wr (by omega)]
    rfl
theorem pn_way {n : Nat} {x : S44} (h : pn n x = true) (h0 : x.f0 = true) : (x.f1.length : Int) = 1 ∧ (rd_L5 x.f1 0).all (pm n) = true := by
  unfold pn at h
  rw [h0] at h
  simpa using h
theorem next_f {x : S44} {n : Nat} (hs : ∀ w ∈ x.f1, w.length < 1000000) (hp : pn n x = true) : Evt (fun k => cycle_next.f k x.f0 x.f1) (succ x) := by
  cases h0 : x.f0 with
  | false =>
    have e : succ x = [] := by unfold succ; rw [h0]; rfl
    rw [e]
    exact Evt.of (g := fun _ => some []) (fun k => by unfold cycle_next.f; rw [if_neg (by decide)]) (Evt.const fun _ => rfl)
  | true =>
    obtain ⟨h1, h2⟩ := pn_way hp h0
    have e : succ x = (rd_L5 x.f1 0).map thr := by unfold succ; rw [if_pos h0]
    have hr : rd_L5 x.f1 0 = x.f1[0]'(by omega) := rdL (i := 0) (by omega)
    rw [e]
    have := next_l0 (w := rd_L5 x.f1 0) (n := n) (by rw [hr]; exact hs _ (List.getElem_mem _)) h2 _ 0 (Nat.zero_add _)
    refine Evt.of (fun k => ?_) this
    unfold cycle_next.f
    rw [if_pos rfl, if_pos (by omega)]
    rfl
theorem pure_len {l : List S44} (h : pureB l = true) : l.length ≤ 64 := by
  unfold pureB at h
  simp only [Bool.and_eq_true, decide_eq_true_eq] at h
  exact h.1
theorem pure_pn {l : List S44} (h : pureB l = true) : ∀ x ∈ l, pn l.length x = true := by
  unfold pureB at h
  simp only [Bool.and_eq_true, decide_eq_true_eq, List.all_eq_true] at h
  exact h.2
theorem Next_f {l : List S44} (hs : Small l) (h70 : l.length ≤ 1000000) (hp : pureB l = true) (t : Int) : Evt (fun k => cycle_Next.f k l t) (if 0 ≤ t ∧ t < l.length then succ (rd_T44 l t) else []) := by
  by_cases c1 : t < 0
  · rw [if_neg (by omega)]
    exact Evt.of (g := fun _ => some []) (fun k => by unfold cycle_Next.f; rw [if_pos c1]) (Evt.const fun _ => rfl)
  · by_cases c2 : t ≥ (l.length : Int)
    · rw [if_neg (by omega)]
      exact Evt.of (g := fun _ => some []) (fun k => by unfold cycle_Next.f; rw [if_neg c1, if_pos c2]) (Evt.const fun _ => rfl)
    · rw [if_pos (by omega)]
      obtain ⟨i, rfl⟩ : ∃ i : Nat, t = (i : Int) := ⟨t.toNat, by omega⟩
      have hi : i < l.length := by omega
      rw [rdT hi]
      refine Evt.of (g := fun k => (cycle_Pure.f k l).bind fun t204 => if t204 = true then (if 0 ≤ (i : Int) then (if (i : Int) < (l.length : Int) then ((cycle_next.f k l[i].f0 l[i].f1).bind fun t206 => some t206) else none) else none) else some []) (fun k => by
        unfold cycle_Next.f
        rw [if_neg c1, if_neg c2, rdT hi]) (Evt.bind (pure_f hs h70) ?_)
      rw [hp]
      refine Evt.of (g := fun k => (cycle_next.f k l[i].f0 l[i].f1).bind fun t206 => some t206) (fun k => by rw [if_pos rfl, if_pos (by omega), if_pos (by omega)]) ?_
      exact Evt.bind (next_f (hs _ (List.getElem_mem hi)) (pure_pn hp _ (List.getElem_mem hi))) (Evt.const fun _ => rfl)
theorem Next_none {l : List S44} (hs : Small l) (h70 : l.length ≤ 1000000) (hp : pureB l = false) (t : Int) : Evt (fun k => cycle_Next.f k l t) [] := by
  by_cases c1 : t < 0
  · exact Evt.of (g := fun _ => some []) (fun k => by unfold cycle_Next.f; rw [if_pos c1]) (Evt.const fun _ => rfl)
  · by_cases c2 : t ≥ (l.length : Int)
    · exact Evt.of (g := fun _ => some []) (fun k => by unfold cycle_Next.f; rw [if_neg c1, if_pos c2]) (Evt.const fun _ => rfl)
    · refine Evt.of (fun k => ?_) (Evt.bind (pure_f hs h70) (g := fun k t204 => if t204 = true then (if 0 ≤ t then (if t < (l.length : Int) then ((cycle_next.f k (rd_T44 l t).f0 (rd_T44 l t).f1).bind fun t206 => some t206) else none) else none) else some []) ?_)
      · unfold cycle_Next.f
        rw [if_neg c1, if_neg c2]
      · rw [hp]
        exact Evt.const fun k => by rw [if_neg (by decide)]
/-! ### the graph -/
open Gr (sc)
theorem gr_len (l : List S44) : (gr l).length = l.length := by simp [gr]
theorem sc_in {l : List S44} {t : Nat} (ht : t < l.length) : sc (gr l) t = (succ l[t]).map Int.toNat := by
  unfold sc gr
  rw [List.getD_eq_getElem?_getD, List.getElem?_map, List.getElem?_eq_getElem ht]
  rfl
theorem sc_out {l : List S44} {t : Nat} (ht : l.length ≤ t) : sc (gr l) t = [] := by
  unfold sc
  rw [List.getD_eq_getElem?_getD, List.getElem?_eq_none (by rw [gr_len]; exact ht)]
  rfl
theorem ints_toNat {l : List Int} (h : ∀ u ∈ l, 0 ≤ u) : Cy.ints (l.map Int.toNat) = l := by
  unfold Cy.ints
  rw [List.map_map]
  conv => rhs; rw [← List.map_id l]
  apply List.map_congr_left
  intro x hx
  have := h x hx
  simp only [Function.comp, id]
  omega
theorem nx_eq {l : List S44} (hp : pureB l = true) (t : Nat) : (if 0 ≤ (t : Int) ∧ (t : Int) < l.length then succ (rd_T44 l t) else []) = Cy.ints (sc (gr l) t) := by
  by_cases ht : t < l.length
  · rw [if_pos (by omega), sc_in ht, rdT ht, ints_toNat]
    exact fun u hu => (pn_thr (pure_pn hp _ (List.getElem_mem ht)) u hu).1
  · rw [if_neg (by omega), sc_out (by omega)]
    rfl
theorem gr_lt {l : List S44} (hp : pureB l = true) : Gr.Lt (gr l) := by
  intro t u hu
  rcases Nat.lt_or_ge t l.length with ht | ht
  · rw [sc_in ht] at hu
    obtain ⟨x, hx, rfl⟩ := List.mem_map.1 hu
    have := pn_thr (pure_pn hp _ (List.getElem_mem ht)) x hx
    rw [gr_len]
    omega
  · rw [sc_out ht] at hu; cases hu
theorem gr_64 {l : List S44} (hp : pureB l = true) : ∀ t u, u ∈ sc (gr l) t → u < 64 := by
  intro t u hu
  have := gr_lt hp t u hu
  rw [gr_len] at this
  have := pure_len hp
  omega
theorem gr_in {l : List S44} (hp : pureB l = true) : Cy.In (gr l) := by
  intro L hL u hu
  obtain ⟨t, ht, rfl⟩ := List.getElem_of_mem hL
  refine gr_64 hp t u ?_
  unfold sc
  rw [List.getD_eq_getElem?_getD, List.getElem?_eq_getElem ht]
  exact hu
theorem nexts_f {l : List S44} {n : Nat} (hs : ∀ x ∈ l, ∀ w ∈ x.f1, w.length < 1000000) (hp : ∀ x ∈ l, pn n x = true) : Evt (fun k => Cy.nexts k l) (l.map succ) := by
  induction l with
  | nil => exact Evt.const fun _ => rfl
  | cons x l ih =>
    have h1 := next_f (hs x (by simp)) (hp x (by simp))
    have h2 := ih (fun y hy => hs y (by simp [hy])) (fun y hy => hp y (by simp [hy]))
    exact Evt.of (fun k => rfl) (Evt.bind h1 (g := fun k r => (Cy.nexts k l).bind fun rs => some (r :: rs)) (Evt.bind h2 (g := fun _ rs => some (succ x :: rs)) (Evt.const fun _ => rfl)))
theorem nats_succ (l : List S44) : Cy.nats (l.map succ) = gr l := by
  unfold Cy.nats gr
  rw [List.map_map]
  rfl
theorem okG_succ {l : List S44} (hp : pureB l = true) : Cy.okG (l.map succ) := by
  refine ⟨by rw [List.length_map]; exact pure_len hp, fun r hr x hx => ?_⟩
  obtain ⟨y, hy, rfl⟩ := List.mem_map.1 hr
  rw [List.length_map]
  exact pn_thr (pure_pn hp y hy) x hx
/-- The doomed ones' set. -/
def dmd (l : List S44) : Nat := (Cy.upto (gr l) (gr l).length).b
theorem Doomed_f {l : List S44} (hs : Small l) (h70 : l.length ≤ 1000000) : Evt (fun k => cycle_Doomed.f k l) (if pureB l = true then ((dmd l : Int), true) else (0, false)) := by
  refine Evt.of (fun k => rfl) (Evt.bind (pure_f hs h70) (g := fun k p => if p = true then (Cy.nexts k l).bind fun nx => if Cy.okG nx then some (((Cy.upto (Cy.nats nx) nx.length).b : Int), true) else none else some (0, false)) ?_)
  cases hp : pureB l with
  | false => exact Evt.const fun k => rfl
  | true =>
    refine Evt.of (fun k => if_pos rfl) ?_
    refine Evt.bind (nexts_f hs (pure_pn hp)) (g := fun _ nx => if Cy.okG nx then some (((Cy.upto (Cy.nats nx) nx.length).b : Int), true) else none) (Evt.const fun _ => ?_)
    rw [if_pos (okG_succ hp), nats_succ, if_pos rfl]
    unfold dmd
    rw [List.length_map, gr_len]
theorem sc_short {l : List S44} (hs : Small l) (hp : pureB l = true) (t : Nat) : (sc (gr l) t).length < 1000000 := by
  rcases Nat.lt_or_ge t l.length with ht | ht
  · rw [sc_in ht, List.length_map]
    unfold succ
    split
    · rename_i h0
      have h1 := (pn_way (pure_pn hp _ (List.getElem_mem ht)) h0).1
      have hr : rd_L5 l[t].f1 0 = l[t].f1[0]'(by omega) := rdL (i := 0) (by omega)
      rw [List.length_map, hr]
      exact hs _ (List.getElem_mem ht) _ (List.getElem_mem _)
    · simp
  · rw [sc_out ht]; simp
end Go.Proofs.YtbfbegleffkafaaDoor.Ce
