/- What the graph's functions come to, and that those that come free are the least set that is closed (plain functions of PCycleAgrees). Conditions: none. -/
import Derived.Test.YtbfbegleffkafaaDoorGr
import Derived.Test.YtbfbegleffkafaaDoorGcsCycleAgrees
import Derived.Test.YtbfbegleffkafaaDoorPCycleAgreesx1
import Derived.Test.YtbfbegleffkafaaDoorPCycleAgreesx8
import Derived.Test.YtbfbegleffkafaaDoorPCycleAgreesx9

namespace Go.Proofs.YtbfbegleffkafaaDoor.Ge
open Go.RowKit Go.Proofs.YtbfbegleffkafaaDoor.PCycleAgrees Go.Proofs.YtbfbegleffkafaaDoorW.PrintWords Go.Proofs.YtbfbegleffkafaaDoorW.PrintLast Go.Proofs.YtbfbegleffkafaaDoorW.PrintMore
open Gr (Evt)
set_option linter.unusedVariables false
set_option linter.unusedSimpArgs false

theorem wr {i : Nat} (h : i < 4000000000000000000) : wrap64 ((i : Int) + 1) = ((i + 1 : Nat) : Int) := by unfold wrap64; omega
theorem take_snoc {α : Type} (l : List α) (i : Nat) (h : i < l.length) : l.take (i + 1) = l.take i ++ [l[i]] := by
  rw [List.take_succ_eq_append_getElem h]
theorem rdT {l : List S44} {i : Nat} (h : i < l.length) : rd_T44 l (i : Int) = l[i] := by unfold rd_T44; simp [List.getD_eq_getElem?_getD, h]
theorem rdL {l : List (List S66)} {i : Nat} (h : i < l.length) : rd_L5 l (i : Int) = l[i] := by unfold rd_L5; simp [List.getD_eq_getElem?_getD, h]
theorem rdM {l : List S66} {i : Nat} (h : i < l.length) : rd_T66 l (i : Int) = l[i] := by unfold rd_T66; simp [List.getD_eq_getElem?_getD, h]

theorem ints_len (l : List Nat) : (Bl.ints l).length = l.length := by simp [Bl.ints]
theorem rd_ints {l : List Nat} {i : Nat} (h : i < l.length) : rd (Bl.ints l) (i : Int) = ((l[i] : Nat) : Int) := by
  unfold rd Bl.ints
  simp [List.getD_eq_getElem?_getD, h]

/-! ### a graph in memory of its own -/
def term (m : S66) : S66 := ⟨m.f0, m.f1.take 70⟩
def way (w : List S66) : List S66 := (w.take 6).map term
def node (n : S44) : S44 := ⟨n.f0, (n.f1.take 6).map way⟩
def own (l : List S44) : List S44 := (l.take 70).map node
theorem own_own (l : List S44) : own (own l) = own l := by
  unfold own
  rw [← List.map_take, List.take_take, List.map_map]
  apply List.map_congr_left
  intro n _
  simp only [Function.comp, node, ← List.map_take, List.take_take, List.map_map]
  congr 1
  apply List.map_congr_left
  intro w _
  simp only [Function.comp, way, ← List.map_take, List.take_take, List.map_map]
  apply List.map_congr_left
  intro m _
  simp [Function.comp, term, List.take_take]
theorem own_len (l : List S44) : (own l).length ≤ 70 := by unfold own; simp; omega
section
variable {x0 : List S44} {v : List S44}
theorem own_l2 {acc : List S44} {i a : Nat} {st : Bool} {alts : List (List S66)} (hi : i < x0.length) (ha : a < x0[i].f1.length) (ha6 : a < 6) (hal : alts.length ≤ 6)
    (hv : Evt (fun k => logjamlaw26_Own.l1 k x0 acc (i : Int) ((a + 1 : Nat) : Int) st (alts ++ [way x0[i].f1[a]])) v) :
    ∀ d j, j + d = min 6 x0[i].f1[a].length → Evt (fun k => logjamlaw26_Own.l2 k x0 acc (i : Int) (a : Int) ((x0[i].f1[a].take j).map term) (j : Int) st alts) v := by
  intro d
  induction d with
  | zero =>
    intro j hj
    have hend : Evt (fun k => logjamlaw26_Own.j5 k x0 acc (i : Int) (a : Int) ((x0[i].f1[a].take j).map term) (j : Int) false st alts) v := by
      refine Evt.step (g := fun k => logjamlaw26_Own.l1 k x0 acc (i : Int) ((a + 1 : Nat) : Int) st (alts ++ [way x0[i].f1[a]])) (fun k => ?_) hv
      simp only [logjamlaw26_Own.j5]
      rw [if_neg (by decide), if_pos (by omega), wr (by omega)]
      have e : (x0[i].f1[a].take j).map term = way x0[i].f1[a] := by
        unfold way
        have : x0[i].f1[a].take j = x0[i].f1[a].take 6 := by
          rcases Nat.lt_or_ge 6 x0[i].f1[a].length with q | q
          · rw [show j = 6 by omega]
          · rw [List.take_of_length_le (by omega), List.take_of_length_le q]
        rw [this]
      rw [e]
    refine Evt.step (g := fun k => logjamlaw26_Own.j5 k x0 acc (i : Int) (a : Int) ((x0[i].f1[a].take j).map term) (j : Int) false st alts) (fun k => ?_) hend
    simp only [logjamlaw26_Own.l2, rdT hi]
    rw [if_pos (by omega), if_pos (by omega), if_pos (by omega), if_pos (by omega), rdL ha]
    by_cases c : (j : Int) < (x0[i].f1[a].length : Int)
    · rw [if_pos c, show decide ((j : Int) < 6) = false from by simp; omega]
    · rw [if_neg c]
  | succ d ih =>
    intro j hj
    have hjl : j < x0[i].f1[a].length := by omega
    have go := ih (j + 1) (by omega)
    rw [take_snoc _ _ hjl, List.map_append] at go
    have hend : Evt (fun k => logjamlaw26_Own.j5 k x0 acc (i : Int) (a : Int) ((x0[i].f1[a].take j).map term) (j : Int) true st alts) v := by
      refine Evt.step (g := fun k => logjamlaw26_Own.l2 k x0 acc (i : Int) (a : Int) ((x0[i].f1[a].take j).map term ++ [x0[i].f1[a][j]].map term) ((j + 1 : Nat) : Int) st alts) (fun k => ?_) go
      simp only [logjamlaw26_Own.j5, rdT hi, rdL ha, rdM hjl]
      rw [if_pos trivial, if_pos (by omega), if_pos (by omega), if_pos (by omega), if_pos (by omega), if_pos (by omega), if_pos (by omega)]
      have hl : ((x0[i].f1[a].take j).map term).length < 4398046511104 := by simp; omega
      by_cases c : ((x0[i].f1[a][j].f1.length : Nat) : Int) > 70
      · rw [if_pos c, if_pos (by omega)]
        simp only [Option.bind_some, List.length_nil, List.nil_append]
        rw [if_pos (by simp; omega), if_pos hl, wr (by omega)]
        rfl
      · rw [if_neg c]
        simp only [Option.bind_some, List.length_nil, List.nil_append]
        rw [if_pos (by omega), if_pos hl, wr (by omega)]
        have : x0[i].f1[a][j].f1 = x0[i].f1[a][j].f1.take 70 := by rw [List.take_of_length_le (by omega)]
        simp only [List.map_cons, List.map_nil, term]
        rw [← this]
    refine Evt.step (g := fun k => logjamlaw26_Own.j5 k x0 acc (i : Int) (a : Int) ((x0[i].f1[a].take j).map term) (j : Int) true st alts) (fun k => ?_) hend
    simp only [logjamlaw26_Own.l2, rdT hi]
    rw [if_pos (by omega), if_pos (by omega), if_pos (by omega), if_pos (by omega), rdL ha, if_pos (by omega), show decide ((j : Int) < 6) = true from by simp; omega]
theorem own_l1 {acc : List S44} {i : Nat} (hi : i < x0.length) (hi70 : i < 70) (hacc : acc.length ≤ 70)
    (hv : Evt (fun k => logjamlaw26_Own.l0 k x0 (acc ++ [node x0[i]]) ((i + 1 : Nat) : Int)) v) :
    ∀ d a, a + d = min 6 x0[i].f1.length → Evt (fun k => logjamlaw26_Own.l1 k x0 acc (i : Int) (a : Int) x0[i].f0 ((x0[i].f1.take a).map way)) v := by
  intro d
  induction d with
  | zero =>
    intro a ha
    have hend : Evt (fun k => logjamlaw26_Own.j3 k x0 acc (i : Int) (a : Int) false x0[i].f0 ((x0[i].f1.take a).map way)) v := by
      refine Evt.step (g := fun k => logjamlaw26_Own.l0 k x0 (acc ++ [node x0[i]]) ((i + 1 : Nat) : Int)) (fun k => ?_) hv
      simp only [logjamlaw26_Own.j3]
      rw [if_neg (by decide), if_pos (by omega), wr (by omega)]
      have e : (x0[i].f1.take a).map way = (x0[i].f1.take 6).map way := by
        rcases Nat.lt_or_ge 6 x0[i].f1.length with q | q
        · rw [show a = 6 by omega]
        · rw [List.take_of_length_le (by omega), List.take_of_length_le q]
      rw [e]
      rfl
    refine Evt.step (g := fun k => logjamlaw26_Own.j3 k x0 acc (i : Int) (a : Int) false x0[i].f0 ((x0[i].f1.take a).map way)) (fun k => ?_) hend
    simp only [logjamlaw26_Own.l1, rdT hi]
    rw [if_pos (by omega), if_pos (by omega)]
    by_cases c : (a : Int) < (x0[i].f1.length : Int)
    · rw [if_pos c, show decide ((a : Int) < 6) = false from by simp; omega]
    · rw [if_neg c]
  | succ d ih =>
    intro a ha
    have hal : a < x0[i].f1.length := by omega
    have go := ih (a + 1) (by omega)
    rw [take_snoc _ _ hal, List.map_append] at go
    have h2 := own_l2 (acc := acc) (alts := (x0[i].f1.take a).map way) (st := x0[i].f0) hi hal (by omega) (by simp; omega) go (min 6 x0[i].f1[a].length) 0 (by omega)
    have hend : Evt (fun k => logjamlaw26_Own.j3 k x0 acc (i : Int) (a : Int) true x0[i].f0 ((x0[i].f1.take a).map way)) v :=
      Evt.step (g := fun k => logjamlaw26_Own.l2 k x0 acc (i : Int) (a : Int) ((x0[i].f1[a].take 0).map term) ((0 : Nat) : Int) x0[i].f0 ((x0[i].f1.take a).map way)) (fun k => by
        simp only [logjamlaw26_Own.j3]
        rw [if_pos trivial]
        rfl) h2
    refine Evt.step (g := fun k => logjamlaw26_Own.j3 k x0 acc (i : Int) (a : Int) true x0[i].f0 ((x0[i].f1.take a).map way)) (fun k => ?_) hend
    simp only [logjamlaw26_Own.l1, rdT hi]
    rw [if_pos (by omega), if_pos (by omega), if_pos (by omega), show decide ((a : Int) < 6) = true from by simp; omega]
end
theorem own_l0 {x0 : List S44} : ∀ d i, i + d = min 70 x0.length → Evt (fun k => logjamlaw26_Own.l0 k x0 ((x0.take i).map node) (i : Int)) (own x0) := by
  intro d
  induction d with
  | zero =>
    intro i hi
    have hend : Evt (fun k => logjamlaw26_Own.j1 k x0 ((x0.take i).map node) (i : Int) false) (own x0) := by
      refine Evt.step (g := fun _ => some (own x0)) (fun k => ?_) (Evt.const fun _ => rfl)
      simp only [logjamlaw26_Own.j1]
      rw [if_neg (by decide)]
      unfold own
      rcases Nat.lt_or_ge 70 x0.length with q | q
      · rw [show i = 70 by omega]
      · rw [List.take_of_length_le (show x0.length ≤ i by omega), List.take_of_length_le q]
    refine Evt.step (g := fun k => logjamlaw26_Own.j1 k x0 ((x0.take i).map node) (i : Int) false) (fun k => ?_) hend
    simp only [logjamlaw26_Own.l0]
    by_cases c : (i : Int) < (x0.length : Int)
    · rw [if_pos c, show decide ((i : Int) < 70) = false from by simp; omega]
    · rw [if_neg c]
  | succ d ih =>
    intro i hi
    have hil : i < x0.length := by omega
    have go := ih (i + 1) (by omega)
    rw [take_snoc _ _ hil, List.map_append] at go
    have h1 := own_l1 (acc := (x0.take i).map node) hil (by omega) (by simp; omega) go (min 6 x0[i].f1.length) 0 (by omega)
    have hend : Evt (fun k => logjamlaw26_Own.j1 k x0 ((x0.take i).map node) (i : Int) true) (own x0) := by
      refine Evt.step (g := fun k => logjamlaw26_Own.l1 k x0 ((x0.take i).map node) (i : Int) ((0 : Nat) : Int) x0[i].f0 ((x0[i].f1.take 0).map way)) (fun k => ?_) h1
      simp only [logjamlaw26_Own.j1, rdT hil]
      rw [if_pos trivial, if_pos (by omega), if_pos (by omega)]
      rfl
    refine Evt.step (g := fun k => logjamlaw26_Own.j1 k x0 ((x0.take i).map node) (i : Int) true) (fun k => ?_) hend
    simp only [logjamlaw26_Own.l0]
    rw [if_pos (by omega), show decide ((i : Int) < 70) = true from by simp; omega]
theorem own_f (l : List S44) : Evt (fun k => logjamlaw26_Own.f k l) (own l) := own_l0 (min 70 l.length) 0 (by omega)
theorem own_f' (l : List S44) : Evt (fun k => logjamlaw26_Own.f k (own l)) (own l) := by
  have := own_f (own l)
  rwa [own_own] at this
/-! ### short enough -/
def Shrt (l : List S44) : Prop := ∀ x ∈ l, ∀ w ∈ x.f1, ∀ m ∈ w, m.f1.length ≤ 70
theorem short_own (l : List S44) : Shrt (own l) := by
  intro x hx w hw m hm
  unfold own at hx
  obtain ⟨n, _, rfl⟩ := List.mem_map.1 hx
  unfold node at hw
  obtain ⟨w0, _, rfl⟩ := List.mem_map.1 hw
  unfold way at hm
  obtain ⟨m0, _, rfl⟩ := List.mem_map.1 hm
  unfold term
  simp
  omega
theorem need_short {l : List S44} (h : Shrt l) {k : Nat} (hk : 71 ≤ k) : Og.need k l = true := by
  unfold Og.need Og.needN
  rw [List.all_eq_true]
  intro x hx
  rw [List.all_eq_true]
  intro w hw
  rw [List.all_eq_true]
  intro m hm
  have := h x hx w hw m hm
  exact decide_eq_true ⟨by omega, by omega⟩
/-! ### those that come free -/
def fr (l : List S44) : Nat := (Og.ordR l).2
section
variable {l : List S44}
theorem tb_Td (F n i : Nat) : (Og.Td l F n).testBit i = (decide (i < n) && (!F.testBit i && Og.metB F (l.getD i z44))) := by
  unfold Og.Td
  rw [Og.tb_setOf]
/-- Closed: who can go on is in it. -/
def Up (l : List S44) (X : Nat) : Prop := ∀ t, t < l.length → Og.metB X (l.getD t z44) = true → X.testBit t = true
theorem up_of_Td {F : Nat} (h : Og.Td l F l.length = 0) : Up l F := by
  intro t ht hm
  have := tb_Td (l := l) F l.length t
  rw [h, Nat.zero_testBit, decide_eq_true ht, hm] at this
  cases hb : F.testBit t with
  | true => rfl
  | false => rw [hb] at this; cases this
theorem ord_facts (hn : l.length ≤ 64) : ∀ k out F, F < 2 ^ l.length → Og.lft l.length F ≤ k → (∀ X, Up l X → Og.Sub F X) →
    (Og.ord l k out F).2 < 2 ^ l.length ∧ Up l (Og.ord l k out F).2 ∧ ∀ X, Up l X → Og.Sub (Og.ord l k out F).2 X := by
  intro k
  induction k with
  | zero =>
    intro out F hF hl hX
    exact ⟨hF, up_of_Td (F := F) (Og.Td_zero (by omega)), hX⟩
  | succ k ih =>
    intro out F hF hl hX
    by_cases hz : Og.Td l F l.length = 0
    · rw [Og.ord_nil hz]
      exact ⟨hF, up_of_Td hz, hX⟩
    · rw [Og.ord_cons hn hz]
      have hbit := Og.ctz_bit (s := Og.Td l F l.length) (Og.setOf_top _ hn) hz
      rw [tb_Td, Bool.and_eq_true, Bool.and_eq_true] at hbit
      have ht := of_decide_eq_true hbit.1
      have hf : F.testBit (Lib.ctz 64 (Og.Td l F l.length)) = false := by have := hbit.2.1; rwa [Bool.not_eq_true'] at this
      generalize Lib.ctz 64 (Og.Td l F l.length) = t at *
      refine ih _ _ (Nat.or_lt_two_pow hF (Nat.pow_lt_pow_right (by decide) ht)) (by have := Og.lft_with ht hf; omega) ?_
      intro X hU i hi
      rw [Bt.tb_or, Bt.tb_pow, Bool.or_eq_true] at hi
      rcases hi with hi | hi
      · exact hX X hU i hi
      · have e : t = i := of_decide_eq_true hi
        subst e
        exact hU t ht (Og.met_mono (hX X hU) hbit.2.2)
theorem fr_facts (hn : l.length ≤ 64) : fr l < 2 ^ l.length ∧ Up l (fr l) ∧ ∀ X, Up l X → Og.Sub (fr l) X := by
  refine ord_facts hn 64 _ _ (Og.setOf_lt _) (Nat.le_trans (Og.lft_le _ _) hn) ?_
  intro X hU i hi
  unfold Og.F0 at hi
  rw [Og.tb_setOf, Bool.and_eq_true] at hi
  refine hU i (of_decide_eq_true hi.1) ?_
  unfold Og.metB
  rw [hi.2]
  rfl
/-- Those that never do. -/
def dm (l : List S44) : Nat := Bt.sub (Gc.allN l.length) (fr l)
theorem allN_top (hn : l.length ≤ 64) : Gc.allN l.length < Bt.top := Og.setOf_top _ hn
theorem tb_all (n i : Nat) : (Gc.allN n).testBit i = decide (i < n) := by
  unfold Gc.allN
  rw [Og.tb_setOf, Bool.and_true]
theorem fr_top (hn : l.length ≤ 64) : fr l < Bt.top := As.lt_top hn (fr_facts hn).1
theorem dm_top (hn : l.length ≤ 64) : dm l < Bt.top := Bt.lt_sub (allN_top hn)
theorem tb_dm (hn : l.length ≤ 64) (i : Nat) (hi : i < 64) : (dm l).testBit i = (decide (i < l.length) && !(fr l).testBit i) := by
  unfold dm
  rw [Bt.tb_sub (fr_top hn) i hi, tb_all]
/-- All but those that never come free. -/
theorem all_dm (hn : l.length ≤ 64) : Bt.sub (Gc.allN l.length) (dm l) = fr l := by
  apply Bt.ext (Bt.lt_sub (allN_top hn)) (fr_top hn)
  intro i hi
  rw [Bt.tb_sub (dm_top hn) i hi, tb_all, tb_dm hn i hi]
  by_cases h : i < l.length
  · rw [decide_eq_true h]; simp
  · rw [decide_eq_false h, Nat.testBit_lt_two_pow (Nat.lt_of_lt_of_le (fr_facts hn).1 (Nat.pow_le_pow_right (by decide) (by omega)))]; rfl
def closedB (l : List S44) (s : Nat) : Bool := decide (Bt.sub s (Gc.allN l.length) = 0) && !((Gr.low s 64).any fun t => Og.metB (Bt.sub (Gc.allN l.length) s) (l.getD t z44))
theorem closed_dm (hn : l.length ≤ 64) : closedB l (dm l) = true := by
  unfold closedB
  rw [all_dm hn, Bool.and_eq_true]
  constructor
  · refine decide_eq_true ((Bt.sub_zero_iff (dm_top hn) (allN_top hn)).2 ?_)
    intro i hi h
    rw [tb_dm hn i hi, Bool.and_eq_true] at h
    rw [tb_all]
    exact h.1
  · rw [Bool.not_eq_true', Bool.eq_false_iff]
    intro h
    rw [List.any_eq_true] at h
    obtain ⟨t, ht, hm⟩ := h
    have h1 := Gr.mem_low.1 ht
    rw [tb_dm hn t h1.1, Bool.and_eq_true] at h1
    have h2 := (fr_facts hn).2.1 t (of_decide_eq_true h1.2.1) hm
    rw [h2] at h1
    exact absurd h1.2.2 (by decide)
theorem closed_sub (hn : l.length ≤ 64) {s : Nat} (hs : s < Bt.top) (h : closedB l s = true) : Bt.sub s (dm l) = 0 := by
  unfold closedB at h
  rw [Bool.and_eq_true] at h
  have h0 := (Bt.sub_zero_iff hs (allN_top hn)).1 (of_decide_eq_true h.1)
  have hU : Up l (Bt.sub (Gc.allN l.length) s) := by
    intro t ht hm
    have ht64 : t < 64 := by omega
    rw [Bt.tb_sub hs t ht64, tb_all, decide_eq_true ht, Bool.true_and]
    cases hb : s.testBit t with
    | false => rfl
    | true =>
      have h2 := h.2
      rw [Bool.not_eq_true', Bool.eq_false_iff] at h2
      exact absurd (List.any_eq_true.2 ⟨t, Gr.mem_low.2 ⟨ht64, hb⟩, hm⟩) h2
  have h3 := (fr_facts hn).2.2 _ hU
  refine (Bt.sub_zero_iff hs (dm_top hn)).2 ?_
  intro i hi hb
  rw [tb_dm hn i hi]
  have h4 := h0 i hi hb
  rw [tb_all] at h4
  rw [h4, Bool.true_and]
  cases hf : (fr l).testBit i with
  | false => rfl
  | true =>
    have := h3 i hf
    rw [Bt.tb_sub hs i hi, hb] at this
    simp at this
end
/-! ### with one node let go -/
theorem less {l : List S44} (hn : l.length ≤ 64) {t : Nat} (ht : t < l.length) (m : List S44) (hm : m = l.set t ⟨false, (l.getD t z44).f1⟩) : Bt.sub (dm m) (dm l) = 0 ∧ (dm m).testBit t = false := by
  have hml : m.length = l.length := by rw [hm, List.length_set]
  have hmn : m.length ≤ 64 := by omega
  have hget : ∀ i, m.getD i z44 = if i = t then ⟨false, (l.getD t z44).f1⟩ else l.getD i z44 := by
    intro i
    rw [hm, List.getD_eq_getElem?_getD, List.getElem?_set]
    by_cases e : t = i
    · subst e; rw [if_pos rfl, if_pos rfl, if_pos ht]; rfl
    · rw [if_neg e, if_neg (fun q => e q.symm), List.getD_eq_getElem?_getD]
  have hU : Up l (fr m) := by
    intro i hi hme
    refine (fr_facts hmn).2.1 i (by omega) ?_
    rw [hget]
    split
    · rfl
    · exact hme
  have hS := (fr_facts hn).2.2 _ hU
  have htf : (fr m).testBit t = true := by
    refine (fr_facts hmn).2.1 t (by omega) ?_
    rw [hget, if_pos rfl]
    rfl
  constructor
  · refine (Bt.sub_zero_iff (dm_top hmn) (dm_top hn)).2 ?_
    intro i hi hb
    rw [tb_dm hmn i hi, Bool.and_eq_true] at hb
    rw [tb_dm hn i hi, ← hml, hb.1, Bool.true_and]
    cases hf : (fr l).testBit i with
    | false => rfl
    | true => rw [hS i hf] at hb; exact absurd hb.2 (by decide)
  · rw [tb_dm hmn t (by omega), htf]
    simp
/-! ### the printed functions -/
section
variable {l : List S44}
theorem check_ok (hn : l.length ≤ 64) : graph_Check.f l = some 0 := by unfold graph_Check.f; rw [if_neg (by omega)]
theorem check_long (hn : ¬ l.length ≤ 64) : graph_Check.f l = some 4 := by unfold graph_Check.f; rw [if_pos (by omega)]
theorem order_in (hn : l.length ≤ 64) (hs : Shrt l) {k : Nat} (hk : 71 ≤ k) : graph_order.f k l = some (Bl.ints (Og.ordR l).1, ((fr l : Nat) : Int)) := by
  unfold graph_order.f
  rw [if_pos hn, if_pos (need_short hs hk)]
  rfl
theorem Doomed_ev (hn : l.length ≤ 64) (hs : Shrt l) : Evt (fun k => graph_Doomed.f k l) ((dm l : Nat) : Int) := by
  refine ⟨71, fun k hk => ?_⟩
  show graph_Doomed.f k l = _
  unfold graph_Doomed.f
  rw [check_ok hn, Option.bind_some, if_pos rfl, order_in hn hs hk, Option.bind_some, Gc.all_f hn, Option.bind_some, Bt.andNot_nat (allN_top hn) (fr_top hn)]
  rfl
theorem Doomed_long (hn : ¬ l.length ≤ 64) : Evt (fun k => graph_Doomed.f k l) 0 := by
  refine Evt.const fun k => ?_
  unfold graph_Doomed.f
  rw [check_long hn, Option.bind_some, if_neg (by decide)]
end

end Go.Proofs.YtbfbegleffkafaaDoor.Ge
