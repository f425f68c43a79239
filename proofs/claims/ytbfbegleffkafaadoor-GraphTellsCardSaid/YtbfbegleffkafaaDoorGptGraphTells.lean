/- What the page's functions on graphs come to (plain functions of PGraphTells): the same as the program's. Conditions: none. -/
import Derived.Test.YtbfbegleffkafaaDoorGpeGraphTells
import Derived.Test.YtbfbegleffkafaaDoorR2PGraphTells
import Derived.Test.YtbfbegleffkafaaDoorPGraphTellsx7
import Derived.Test.YtbfbegleffkafaaDoorPGraphTellsx8

namespace Go.Proofs.YtbfbegleffkafaaDoor.Ge
open Go.RowKit Go.Proofs.YtbfbegleffkafaaDoor.PGraphTells Go.Proofs.YtbfbegleffkafaaDoorW.PrintWords Go.Proofs.YtbfbegleffkafaaDoorW.PrintLast Go.Proofs.YtbfbegleffkafaaDoorW.PrintMore
open Gr (Evt)
set_option linter.unusedVariables false
set_option linter.unusedSimpArgs false

theorem up1 {α : Type} {f : Nat → Option α} {v : α} (h : Evt (fun k => f (k + 1)) v) : Evt f v := Evt.step (fun _ => rfl) h
theorem hasE {F : Nat} (hF : F < Bt.top) (t : Int) : Evt (fun k => logjamref02_Has.f k (F : Int) t) (Og.hasB F t) := by
  refine ⟨66, fun k hk => ?_⟩
  show logjamref02_Has.f k (F : Int) t = _
  unfold Og.hasB
  by_cases h : t < 0 ∨ 64 ≤ t
  · rw [R2.has_out h hk]
    rcases h with h | h
    · rw [decide_eq_false (show ¬ (0 : Int) ≤ t by omega)]; rfl
    · rw [decide_eq_false (show ¬ t < 64 by omega)]; simp
  · obtain ⟨q, rfl⟩ : ∃ q : Nat, t = (q : Int) := ⟨t.toNat, by omega⟩
    rw [R2.has_in hF (by omega) hk, decide_eq_true (show (0 : Int) ≤ (q : Int) by omega), decide_eq_true (show (q : Int) < 64 by omega), Int.toNat_natCast]
    rfl
theorem hasN {F : Nat} (hF : F < Bt.top) {t : Nat} (ht : t < 64) : Evt (fun k => logjamref02_Has.f k (F : Int) (t : Int)) (F.testBit t) := ⟨66, fun k hk => R2.has_in hF ht hk⟩
theorem withN {F : Nat} (hF : F < Bt.top) {t : Nat} (ht : t < 64) : Evt (fun k => logjamref02_With.f k (F : Int) (t : Int)) ((F ||| 2 ^ t : Nat) : Int) := ⟨68, fun k hk => R2.with_in hF ht hk⟩
/-- Those of F that are nodes. -/
def msk (n F : Nat) : Nat := F &&& Gc.allN n
theorem has_msk (n F : Nat) (hn : n ≤ 64) (t : Int) : Og.hasB (msk n F) t = (decide (t < (n : Int)) && Og.hasB F t) := by
  unfold Og.hasB msk
  rw [Bt.tb_and, tb_all]
  by_cases h0 : 0 ≤ t
  · by_cases h1 : t < 64
    · rw [decide_eq_true h0, decide_eq_true h1]
      have : decide (t.toNat < n) = decide (t < (n : Int)) := by rw [decide_eq_decide]; omega
      rw [this]
      cases F.testBit t.toNat <;> cases decide (t < (n : Int)) <;> rfl
    · rw [decide_eq_true h0, decide_eq_false h1]; simp
  · rw [decide_eq_false h0]; simp
theorem comes_l0 {F n : Nat} (hn : n ≤ 64) (hF : F < Bt.top) (L : List S68) (K : Int) (hL : L.length ≤ 70) : ∀ (d i : Nat) (acc : Int), i + d = L.length → 0 ≤ acc → acc ≤ i * 1048576 →
    Evt (fun k => logjamref26_Comes.l0 k (n : Int) (F : Int) acc (i : Int) K L) (decide (acc + Og.sumI (msk n F) (L.drop i) ≥ K)) := by
  intro d
  induction d with
  | zero =>
    intro i acc hi h0 h1
    refine up1 ?_
    have c : ¬ (i : Int) < (L.length : Int) := by omega
    simp only [logjamref26_Comes.l0, if_neg c]
    rw [List.drop_of_length_le (by omega)]
    simp only [Og.sumI, Int.add_zero]
    exact Evt.const fun _ => rfl
  | succ d ih =>
    intro i acc hi h0 h1
    have hil : i < L.length := by omega
    refine up1 ?_
    have c : (i : Int) < (L.length : Int) := by omega
    have c0 : (0 : Int) ≤ (i : Int) := by omega
    have e : rd_T68 L (i : Int) = L[i] := by unfold rd_T68; rw [Int.toNat_natCast, List.getD_eq_getElem?_getD, List.getElem?_eq_getElem hil]; rfl
    have ew : wrap64 ((i : Int) + 1) = ((i + 1 : Nat) : Int) := wr (by omega)
    simp only [logjamref26_Comes.l0, if_pos c, if_pos c0, e, ew]
    rw [List.drop_eq_getElem_cons hil]
    simp only [Og.sumI, has_msk n F hn]
    have hs := Og.shr_le L[i].f1
    by_cases ct : L[i].f0 < (n : Int)
    · simp only [if_pos ct, decide_eq_true ct, Bool.true_and]
      refine Evt.bind (hasE hF _) ?_
      by_cases hb : Og.hasB F L[i].f0 = true
      · simp only [hb, if_true]
        have ea : wrap64 (acc + mn (mx L[i].f1 0) 1048576) = acc + Og.shr L[i].f1 := by
          show wrap64 (acc + Og.shr L[i].f1) = _
          generalize Og.shr L[i].f1 = x at *
          unfold wrap64; omega
        rw [ea, ← Int.add_assoc]
        exact ih (i + 1) _ (by omega) (by omega) (by generalize Og.shr L[i].f1 = x at *; omega)
      · simp only [if_neg hb]
        rw [Int.zero_add]
        exact ih (i + 1) _ (by omega) h0 (by omega)
    · simp only [if_neg ct, decide_eq_false ct, Bool.false_and, Bool.false_eq_true, if_false, Int.zero_add]
      exact ih (i + 1) _ (by omega) h0 (by omega)
theorem comesE {F n : Nat} (hn : n ≤ 64) (hF : F < Bt.top) {m : S66} (hL : m.f1.length ≤ 70) : Evt (fun k => logjamref26_Comes.f k m.f0 m.f1 (n : Int) (F : Int)) (Og.comesB (msk n F) m) := by
  unfold logjamref26_Comes.f Og.comesB
  have := comes_l0 (n := n) hn hF m.f1 m.f0 hL m.f1.length 0 0 (by omega) (by omega) (by omega)
  rw [Int.zero_add, List.drop_zero] at this
  exact this
section
variable {l : List S44} {F : Nat}
theorem met_l1 (hn : l.length ≤ 64) (hF : F < Bt.top) {t : Nat} (ht : t < l.length) {y : List S66} (hy : y.length ≤ 1000) (hm : ∀ m ∈ y, m.f1.length ≤ 70) {a : Nat} {v : Bool}
    (hnext : Evt (fun k => logjamref26_Met.l0 k l (t : Int) (F : Int) (wrap64 ((a : Int) + 1))) v) : ∀ d i (ok : Bool), i + d = y.length →
    Evt (fun k => logjamref26_Met.l1 k l (t : Int) (F : Int) (a : Int) y ok (i : Int)) (if (ok && (y.drop i).all (Og.comesB (msk l.length F))) = true then true else v) := by
  intro d
  induction d with
  | zero =>
    intro i ok hi
    refine up1 ?_
    have c : ¬ (i : Int) < (y.length : Int) := by omega
    simp only [logjamref26_Met.l1, if_neg c]
    rw [List.drop_of_length_le (by omega)]
    simp only [List.all_nil, Bool.and_true]
    cases ok with
    | true => simp only [if_true]; exact Evt.const fun _ => rfl
    | false => simp only [Bool.false_eq_true, if_false]; exact hnext
  | succ d ih =>
    intro i ok hi
    have hil : i < y.length := by omega
    refine up1 ?_
    have c : (i : Int) < (y.length : Int) := by omega
    have c0 : (0 : Int) ≤ (i : Int) := by omega
    have e : rd_T66 y (i : Int) = y[i] := by unfold rd_T66; rw [Int.toNat_natCast, List.getD_eq_getElem?_getD, List.getElem?_eq_getElem hil]; rfl
    have ew : wrap64 ((i : Int) + 1) = ((i + 1 : Nat) : Int) := wr (by omega)
    simp only [logjamref26_Met.l1, if_pos c, if_pos c0, e, ew]
    rw [List.drop_eq_getElem_cons hil, List.all_cons]
    cases ok with
    | true =>
      simp only [if_true, Bool.true_and]
      refine Evt.bind (comesE hn hF (hm _ (List.getElem_mem hil))) ?_
      have := ih (i + 1) (Og.comesB (msk l.length F) y[i]) (by omega)
      exact this
    | false =>
      simp only [Bool.false_eq_true, if_false, Bool.false_and]
      have := ih (i + 1) false (by omega)
      simp only [Bool.false_and, Bool.false_eq_true, if_false] at this
      exact this
theorem met_l0 (hn : l.length ≤ 64) (hs : Shrt l) (hw : ∀ x ∈ l, ∀ y ∈ x.f1, y.length ≤ 1000) (hF : F < Bt.top) {t : Nat} (ht : t < l.length) (ha : (l.getD t z44).f1.length ≤ 1000) : ∀ d a, a + d = (l.getD t z44).f1.length →
    Evt (fun k => logjamref26_Met.l0 k l (t : Int) (F : Int) (a : Int)) (((l.getD t z44).f1.drop a).any fun y => y.all (Og.comesB (msk l.length F))) := by
  have hmem : l.getD t z44 ∈ l := by rw [List.getD_eq_getElem?_getD, List.getElem?_eq_getElem ht]; exact List.getElem_mem ht
  have ct0 : (0 : Int) ≤ (t : Int) := by omega
  have ct1 : (t : Int) < (l.length : Int) := by omega
  have ert : rd_T44 l (t : Int) = l.getD t z44 := by unfold rd_T44; rw [Int.toNat_natCast]
  intro d
  induction d with
  | zero =>
    intro a hi
    refine up1 ?_
    have c : ¬ (a : Int) < ((l.getD t z44).f1.length : Int) := by omega
    simp only [logjamref26_Met.l0, if_pos ct0, if_pos ct1, ert, if_neg c]
    rw [List.drop_of_length_le (by omega)]
    exact Evt.const fun _ => rfl
  | succ d ih =>
    intro a hi
    have hil : a < (l.getD t z44).f1.length := by omega
    refine up1 ?_
    have c : (a : Int) < ((l.getD t z44).f1.length : Int) := by omega
    have c0 : (0 : Int) ≤ (a : Int) := by omega
    have e : rd_L5 (l.getD t z44).f1 (a : Int) = (l.getD t z44).f1[a] := by unfold rd_L5; rw [Int.toNat_natCast, List.getD_eq_getElem?_getD, List.getElem?_eq_getElem hil]; rfl
    have ew : wrap64 ((a : Int) + 1) = ((a + 1 : Nat) : Int) := wr (by omega)
    simp only [logjamref26_Met.l0, if_pos ct0, if_pos ct1, ert, if_pos c, if_pos c0, e]
    have hy := List.getElem_mem hil
    have h1 := met_l1 hn hF ht (hw _ hmem _ hy) (hs _ hmem _ hy) (a := a) (by rw [ew]; exact ih (a + 1) (by omega)) ((l.getD t z44).f1[a]).length 0 true (by omega)
    rw [List.drop_zero, Bool.true_and] at h1
    rw [List.drop_eq_getElem_cons hil, List.any_cons]
    have e2 : (if ((l.getD t z44).f1[a].all (Og.comesB (msk l.length F))) = true then true else (((l.getD t z44).f1.drop (a + 1)).any fun y => y.all (Og.comesB (msk l.length F)))) = (((l.getD t z44).f1[a].all (Og.comesB (msk l.length F))) || (((l.getD t z44).f1.drop (a + 1)).any fun y => y.all (Og.comesB (msk l.length F)))) := by
      cases ((l.getD t z44).f1[a].all (Og.comesB (msk l.length F))) <;> rfl
    rw [← e2]
    exact h1
/-- All rows are short. -/
def Rows (l : List S44) : Prop := (∀ x ∈ l, x.f1.length ≤ 1000) ∧ ∀ x ∈ l, ∀ y ∈ x.f1, y.length ≤ 1000
theorem rows_own (l : List S44) : Rows (own l) := by
  constructor
  · intro x hx
    unfold own at hx
    obtain ⟨n, _, rfl⟩ := List.mem_map.1 hx
    unfold node
    simp
    omega
  · intro x hx w hw
    unfold own at hx
    obtain ⟨n, _, rfl⟩ := List.mem_map.1 hx
    unfold node at hw
    obtain ⟨w0, _, rfl⟩ := List.mem_map.1 hw
    unfold way
    simp
    omega
theorem metE (hn : l.length ≤ 64) (hs : Shrt l) (hw : Rows l) (hF : F < Bt.top) (t : Int) : Evt (fun k => logjamref26_Met.f k l t (F : Int)) (decide (0 ≤ t) && (decide (t < (l.length : Int)) && Og.metB (msk l.length F) (l.getD t.toNat z44))) := by
  unfold logjamref26_Met.f
  by_cases h0 : t < 0
  · simp only [if_pos h0]
    rw [decide_eq_false (show ¬ 0 ≤ t by omega)]
    refine up1 ?_
    simp only [logjamref26_Met.j0, if_true, Bool.false_and]
    exact Evt.const fun _ => rfl
  · simp only [if_neg h0]
    rw [decide_eq_true (show 0 ≤ t by omega), Bool.true_and]
    by_cases h1 : t ≥ (l.length : Int)
    · rw [decide_eq_true h1, decide_eq_false (show ¬ t < (l.length : Int) by omega), Bool.false_and]
      refine up1 ?_
      simp only [logjamref26_Met.j0, if_true]
      exact Evt.const fun _ => rfl
    · rw [decide_eq_false h1, decide_eq_true (show t < (l.length : Int) by omega), Bool.true_and]
      obtain ⟨q, rfl⟩ : ∃ q : Nat, t = (q : Int) := ⟨t.toNat, by omega⟩
      have hq : q < l.length := by omega
      have ct0 : (0 : Int) ≤ (q : Int) := by omega
      have ct1 : (q : Int) < (l.length : Int) := by omega
      have ert : rd_T44 l (q : Int) = l.getD q z44 := by unfold rd_T44; rw [Int.toNat_natCast]
      have hmem : l.getD q z44 ∈ l := by rw [List.getD_eq_getElem?_getD, List.getElem?_eq_getElem hq]; exact List.getElem_mem hq
      refine up1 ?_
      simp only [logjamref26_Met.j0, Bool.false_eq_true, if_false, if_pos ct0, if_pos ct1, ert, Int.toNat_natCast]
      have h2 := met_l0 hn hs hw.2 hF hq (hw.1 _ hmem) (l.getD q z44).f1.length 0 (by omega)
      rw [List.drop_zero] at h2
      unfold Og.metB
      by_cases hst : (l.getD q z44).f0 = true
      · simp only [if_pos hst]
        rw [hst]
        exact h2
      · simp only [if_neg hst]
        rw [Bool.eq_false_iff.mpr hst]
        exact Evt.const fun _ => rfl
theorem msk_sub {n F : Nat} (h : F < 2 ^ n) : msk n F = F := by
  unfold msk
  apply Nat.eq_of_testBit_eq
  intro i
  rw [Bt.tb_and, tb_all]
  by_cases hi : i < n
  · rw [decide_eq_true hi, Bool.and_true]
  · rw [Nat.testBit_lt_two_pow (Nat.lt_of_lt_of_le h (Nat.pow_le_pow_right (by decide) (by omega)))]; rfl
/-- The program's own. -/
theorem MetE (hn : l.length ≤ 64) (hs : Shrt l) (hF : F < Bt.top) (t : Int) : Evt (fun k => graph_Met.f k l t (F : Int)) (decide (0 ≤ t) && (decide (t < (l.length : Int)) && Og.metB (msk l.length F) (l.getD t.toNat z44))) := by
  refine ⟨71, fun k hk => ?_⟩
  show graph_Met.f k l t (F : Int) = _
  unfold graph_Met.f
  by_cases h0 : t ≥ 0
  · rw [if_pos h0, decide_eq_true (show 0 ≤ t from h0), Bool.true_and]
    by_cases h1 : t < (l.length : Int)
    · rw [if_pos h1, if_pos (show 0 ≤ t from h0), decide_eq_true h1, Bool.true_and, Gc.all_f hn, Option.bind_some, Bt.and_nat hF (allN_top hn)]
      obtain ⟨q, rfl⟩ : ∃ q : Nat, t = (q : Int) := ⟨t.toNat, by omega⟩
      have hq : q < l.length := by omega
      have ert : rd_T44 l (q : Int) = l.getD q z44 := by unfold rd_T44; rw [Int.toNat_natCast]
      have hmem : l.getD q z44 ∈ l := by rw [List.getD_eq_getElem?_getD, List.getElem?_eq_getElem hq]; exact List.getElem_mem hq
      have hnd : Og.needN k (l.getD q z44) = true := by
        have := need_short hs hk
        unfold Og.need at this
        rw [List.all_eq_true] at this
        exact this _ hmem
      have := Og.met_f (k := k) (F := msk l.length F) (Bt.lt_and (allN_top hn)) hnd
      rw [ert, Int.toNat_natCast]
      rw [show ((F &&& Gc.allN l.length : Nat) : Int) = ((msk l.length F : Nat) : Int) from rfl, this]
      rfl
    · rw [if_neg h1, decide_eq_false h1]
      rfl
  · rw [if_neg h0, decide_eq_false (show ¬ 0 ≤ t by omega)]
    rfl
/-! ### Closed -/
theorem out_t {s i : Nat} (h : s.testBit i = true) : Og.setOf (fun t => !s.testBit t) (i + 1) = Og.setOf (fun t => !s.testBit t) i := by
  show (if (!s.testBit i) = true then _ else _) = _
  rw [if_neg (by rw [h]; decide)]
theorem out_f {s i : Nat} (h : s.testBit i = false) : Og.setOf (fun t => !s.testBit t) (i + 1) = Og.setOf (fun t => !s.testBit t) i ||| 2 ^ i := by
  show (if (!s.testBit i) = true then _ else _) = _
  rw [if_pos (by rw [h]; rfl)]
theorem closed_l0 (hn : l.length ≤ 64) {s : Nat} (hs : s < Bt.top) {v : Bool} (hnext : Evt (fun k => logjamref26_Closed.l1 k l (s : Int) ((Og.setOf (fun t => !s.testBit t) l.length : Nat) : Int) 0) v) : ∀ d i, i + d = l.length →
    Evt (fun k => logjamref26_Closed.l0 k l (s : Int) ((Og.setOf (fun t => !s.testBit t) i : Nat) : Int) (i : Int)) v := by
  intro d
  induction d with
  | zero =>
    intro i hi
    have e : i = l.length := by omega
    subst e
    refine up1 ?_
    have c : ¬ (l.length : Int) < (l.length : Int) := by omega
    simp only [logjamref26_Closed.l0, if_neg c]
    exact hnext
  | succ d ih =>
    intro i hi
    refine up1 ?_
    have c : (i : Int) < (l.length : Int) := by omega
    have ew : wrap64 ((i : Int) + 1) = ((i + 1 : Nat) : Int) := wr (by omega)
    simp only [logjamref26_Closed.l0, if_pos c, ew]
    refine Evt.bind (hasN hs (by omega)) ?_
    have h1 := ih (i + 1) (by omega)
    cases hb : s.testBit i with
    | true =>
      rw [out_t hb] at h1
      simp only [if_true]
      exact h1
    | false =>
      rw [out_f hb] at h1
      simp only [Bool.false_eq_true, if_false]
      exact Evt.bind (withN (Og.setOf_top _ (by omega)) (by omega)) h1
theorem closed_l1 (hn : l.length ≤ 64) (hs : Shrt l) (hw : Rows l) {s : Nat} (ht : s < Bt.top) {E : Nat} (hE : E < 2 ^ l.length) : ∀ (d t : Nat), t + d = 64 →
    Evt (fun k => logjamref26_Closed.l1 k l (s : Int) (E : Int) (t : Int)) (((List.range 64).drop t).all fun u => !s.testBit u || (decide (u < l.length) && !Og.metB E (l.getD u z44))) := by
  intro d
  induction d with
  | zero =>
    intro t hi
    refine up1 ?_
    have c : ¬ (t : Int) < 64 := by omega
    simp only [logjamref26_Closed.l1, if_neg c]
    rw [List.drop_of_length_le (by simp; omega)]
    exact Evt.const fun _ => rfl
  | succ d ih =>
    intro t hi
    have htl : t < (List.range 64).length := by simp; omega
    refine up1 ?_
    have c : (t : Int) < 64 := by omega
    have ew : wrap64 ((t : Int) + 1) = ((t + 1 : Nat) : Int) := wr (by omega)
    simp only [logjamref26_Closed.l1, if_pos c, ew]
    rw [List.drop_eq_getElem_cons htl, List.all_cons, List.getElem_range]
    refine Evt.bind (hasN ht (by omega)) ?_
    have h1 := ih (t + 1) (by omega)
    cases hb : s.testBit t with
    | false =>
      simp only [Bool.false_eq_true, if_false, Bool.not_false, Bool.true_or, Bool.true_and]
      exact h1
    | true =>
      simp only [if_true, Bool.not_true, Bool.false_or]
      by_cases hl : (t : Int) ≥ (l.length : Int)
      · simp only [if_pos hl]
        rw [decide_eq_false (show ¬ t < l.length by omega)]
        exact Evt.const fun _ => rfl
      · simp only [if_neg hl]
        have hm := metE hn hs hw (As.lt_top hn hE) (t : Int)
        rw [decide_eq_true (show (0 : Int) ≤ (t : Int) by omega), decide_eq_true (show (t : Int) < (l.length : Int) by omega), Bool.true_and, Bool.true_and, msk_sub hE, Int.toNat_natCast] at hm
        refine Evt.bind hm ?_
        rw [decide_eq_true (show t < l.length by omega), Bool.true_and]
        cases Og.metB E (l.getD t z44) with
        | true => simp only [if_true]; exact Evt.const fun _ => rfl
        | false =>
          simp only [Bool.false_eq_true, if_false, Bool.not_false, Bool.true_and]
          exact h1
theorem sub_all (hn : l.length ≤ 64) {s : Nat} (hs : s < Bt.top) : Bt.sub (Gc.allN l.length) s = Og.setOf (fun t => !s.testBit t) l.length := by
  apply Bt.ext (Bt.lt_sub (allN_top hn)) (Og.setOf_top _ hn)
  intro i hi
  rw [Bt.tb_sub hs i hi, tb_all, Og.tb_setOf]
theorem closedE (hn : l.length ≤ 64) (hs : Shrt l) (hw : Rows l) {s : Nat} (ht : s < Bt.top) : Evt (fun k => logjamref26_Closed.f k l (s : Int)) (closedB l s) := by
  unfold logjamref26_Closed.f
  have h1 := closed_l1 hn hs hw ht (E := Og.setOf (fun t => !s.testBit t) l.length) (Og.setOf_lt _) 64 0 (by omega)
  have h2 := closed_l0 hn ht h1 l.length 0 (by omega)
  have e : closedB l s = (((List.range 64).drop 0).all fun u => !s.testBit u || (decide (u < l.length) && !Og.metB (Og.setOf (fun t => !s.testBit t) l.length) (l.getD u z44))) := by
    unfold closedB
    rw [sub_all hn ht, List.drop_zero]
    generalize Og.setOf (fun t => !s.testBit t) l.length = E
    rw [Bool.eq_iff_iff, Bool.and_eq_true, List.all_eq_true]
    constructor
    · rintro ⟨q1, q2⟩ u hu
      have hu64 : u < 64 := List.mem_range.1 hu
      cases hb : s.testBit u with
      | false => rfl
      | true =>
        have h3 := (Bt.sub_zero_iff ht (allN_top hn)).1 (of_decide_eq_true q1) u hu64 hb
        rw [tb_all] at h3
        rw [h3]
        cases hm : Og.metB E (l.getD u z44) with
        | false => rfl
        | true =>
          rw [Bool.not_eq_true', Bool.eq_false_iff] at q2
          exact absurd (List.any_eq_true.2 ⟨u, Gr.mem_low.2 ⟨hu64, hb⟩, hm⟩) q2
    · intro q
      constructor
      · refine decide_eq_true ((Bt.sub_zero_iff ht (allN_top hn)).2 ?_)
        intro i hi hb
        have := q i (List.mem_range.2 hi)
        rw [hb] at this
        rw [tb_all]
        simp only [Bool.not_true, Bool.false_or, Bool.and_eq_true] at this
        exact this.1
      · rw [Bool.not_eq_true', Bool.eq_false_iff]
        intro h
        obtain ⟨u, hu, hm⟩ := List.any_eq_true.1 h
        have h4 := Gr.mem_low.1 hu
        have := q u (List.mem_range.2 h4.1)
        rw [h4.2, hm] at this
        simp at this
  rw [e]
  exact h2
/-! ### Order -/
theorem ctz_least {T : Nat} (hT : T < Bt.top) {u : Nat} (hu : u < 64) (hb : T.testBit u = true) : Lib.ctz 64 T ≤ u := by
  have h0 : T ≠ 0 := by intro e; rw [e, Nat.zero_testBit] at hb; cases hb
  have hp : (Gr.low T 64).Pairwise (· < ·) := List.Pairwise.filter _ List.pairwise_lt_range
  have hm : u ∈ Gr.low T 64 := Gr.mem_low.2 ⟨hu, hb⟩
  rw [Bl.low_step hT h0] at hp hm
  rw [List.pairwise_cons] at hp
  rcases List.mem_cons.1 hm with e | e
  · omega
  · have := hp.1 u e; omega
theorem order_l2 (hn : l.length ≤ 64) (hs : Shrt l) (hw : Rows l) {out : List Nat} (ho : out.length ≤ 1000) (hF : F < 2 ^ l.length) {v : List Int × Int}
    (h0 : Og.Td l F l.length = 0 → v = (Bl.ints out, (F : Int)))
    (h1 : Og.Td l F l.length ≠ 0 → Evt (fun k => logjamref26_Order.l1 k l (Bl.ints (out ++ [Lib.ctz 64 (Og.Td l F l.length)])) ((F ||| 2 ^ Lib.ctz 64 (Og.Td l F l.length) : Nat) : Int)) v) : ∀ d t, t + d = l.length → (∀ u, u < t → (Og.Td l F l.length).testBit u = false) →
    Evt (fun k => logjamref26_Order.l2 k l (Bl.ints out) (F : Int) (t : Int)) v := by
  have hFt := As.lt_top hn hF
  have hTt : Og.Td l F l.length < Bt.top := Og.setOf_top _ hn
  intro d
  induction d with
  | zero =>
    intro t hi hl
    have e : t = l.length := by omega
    subst e
    refine up1 ?_
    have c : ¬ (l.length : Int) < (l.length : Int) := by omega
    simp only [logjamref26_Order.l2, if_neg c, if_true]
    have hz : Og.Td l F l.length = 0 := by
      apply Nat.eq_of_testBit_eq
      intro i
      rw [Nat.zero_testBit]
      by_cases hi : i < l.length
      · exact hl i hi
      · rw [tb_Td, decide_eq_false hi]; rfl
    rw [h0 hz]
    exact Evt.const fun _ => rfl
  | succ d ih =>
    intro t hi hl
    have htl : t < l.length := by omega
    refine up1 ?_
    have c : (t : Int) < (l.length : Int) := by omega
    have ew : wrap64 ((t : Int) + 1) = ((t + 1 : Nat) : Int) := wr (by omega)
    simp only [logjamref26_Order.l2, if_pos c, ew]
    refine Evt.bind (hasN hFt (by omega)) ?_
    have hbt := tb_Td (l := l) F l.length t
    rw [decide_eq_true htl, Bool.true_and] at hbt
    have hstep : (Og.Td l F l.length).testBit t = false → Evt (fun k => logjamref26_Order.l2 k l (Bl.ints out) (F : Int) ((t + 1 : Nat) : Int)) v := by
      intro hb
      refine ih (t + 1) (by omega) ?_
      intro u hu
      by_cases e : u = t
      · rw [e]; exact hb
      · exact hl u (by omega)
    cases hf : F.testBit t with
    | true =>
      simp only [if_true]
      refine hstep ?_
      rw [hbt, hf]
      rfl
    | false =>
      simp only [Bool.false_eq_true, if_false]
      have hm := metE hn hs hw hFt (t : Int)
      rw [decide_eq_true (show (0 : Int) ≤ (t : Int) by omega), decide_eq_true c, Bool.true_and, Bool.true_and, msk_sub hF, Int.toNat_natCast] at hm
      refine Evt.bind hm ?_
      rw [hf, Bool.not_false, Bool.true_and] at hbt
      cases hmt : Og.metB F (l.getD t z44) with
      | false =>
        simp only [Bool.false_eq_true, if_false]
        exact hstep (by rw [hbt, hmt])
      | true =>
        rw [hmt] at hbt
        have hz : Og.Td l F l.length ≠ 0 := by intro e; rw [e, Nat.zero_testBit] at hbt; cases hbt
        have hct : Lib.ctz 64 (Og.Td l F l.length) = t := by
          have q1 := ctz_least hTt (by omega) hbt
          have q2 := Og.ctz_bit hTt hz
          refine Classical.byContradiction fun hne => ?_
          rw [hl _ (by omega)] at q2
          cases q2
        have hne : ¬ (t : Int) = (l.length : Int) := by omega
        have hlen : (Bl.ints out).length < 17592186044416 := by rw [Bl.ints_len]; omega
        simp only [if_true, if_neg hne, if_pos hlen]
        refine Evt.bind (withN hFt (by omega)) ?_
        have h2 := h1 hz
        rw [hct] at h2
        rw [Bl.ints_snoc]
        exact h2
theorem order_l1 (hn : l.length ≤ 64) (hs : Shrt l) (hw : Rows l) : ∀ k (out : List Nat) F, F < 2 ^ l.length → Og.lft l.length F ≤ k → out.length + k ≤ 1000 →
    Evt (fun j => logjamref26_Order.l1 j l (Bl.ints out) (F : Int)) (Bl.ints (Og.ord l k out F).1, (((Og.ord l k out F).2 : Nat) : Int)) := by
  intro k
  induction k with
  | zero =>
    intro out F hF hl ho
    refine up1 ?_
    simp only [logjamref26_Order.l1]
    have hz := Og.Td_zero (l := l) (F := F) (by omega)
    exact order_l2 hn hs hw (by omega) hF (fun _ => by rw [Og.ord_nil hz]) (fun h => absurd hz h) l.length 0 (by omega) (fun u hu => by omega)
  | succ k ih =>
    intro out F hF hl ho
    refine up1 ?_
    simp only [logjamref26_Order.l1]
    refine order_l2 hn hs hw (by omega) hF (fun hz => by rw [Og.ord_nil hz]) (fun hz => ?_) l.length 0 (by omega) (fun u hu => by omega)
    have hb := Og.Td_bit (Og.ctz_bit (s := Og.Td l F l.length) (Og.setOf_top _ hn) hz)
    rw [Og.ord_cons hn hz]
    exact ih _ _ (Nat.or_lt_two_pow hF (Nat.pow_lt_pow_right (by decide) hb.1)) (by have := Og.lft_with hb.1 hb.2; omega) (by simp; omega)
theorem order_l0 (hn : l.length ≤ 64) (hs : Shrt l) (hw : Rows l) : ∀ d i, i + d = l.length →
    Evt (fun k => logjamref26_Order.l0 k l (Bl.ints (Og.out0 l i)) ((Og.F0 l i : Nat) : Int) (i : Int)) (Bl.ints (Og.ordR l).1, ((fr l : Nat) : Int)) := by
  intro d
  induction d with
  | zero =>
    intro i hi
    have e : i = l.length := by omega
    subst e
    refine up1 ?_
    have c : ¬ (l.length : Int) < (l.length : Int) := by omega
    simp only [logjamref26_Order.l0, if_neg c]
    exact order_l1 hn hs hw 64 _ _ (Og.setOf_lt _) (Nat.le_trans (Og.lft_le _ _) hn) (by have := Og.out0_len l l.length; omega)
  | succ d ih =>
    intro i hi
    refine up1 ?_
    have c : (i : Int) < (l.length : Int) := by omega
    have c0 : (0 : Int) ≤ (i : Int) := by omega
    have ew : wrap64 ((i : Int) + 1) = ((i + 1 : Nat) : Int) := wr (by omega)
    have ert : rd_T44 l (i : Int) = l.getD i z44 := by unfold rd_T44; rw [Int.toNat_natCast]
    simp only [logjamref26_Order.l0, if_pos c, if_pos c0, ert, ew]
    have h1 := ih (i + 1) (by omega)
    rw [Og.F0_succ, Og.out0_succ] at h1
    have hlen : (Bl.ints (Og.out0 l i)).length < 17592186044416 := by rw [Bl.ints_len]; have := Og.out0_len l i; omega
    by_cases hst : (l.getD i z44).f0 = true
    · rw [if_pos hst, if_pos hst] at h1
      simp only [if_pos hst]
      exact h1
    · rw [if_neg hst, if_neg hst] at h1
      simp only [if_neg hst, if_pos hlen]
      refine Evt.bind (withN (Og.setOf_top _ (by omega)) (by omega)) ?_
      rw [Bl.ints_snoc]
      exact h1
theorem orderE (hn : l.length ≤ 64) (hs : Shrt l) (hw : Rows l) : Evt (fun k => logjamref26_Order.f k l) (Bl.ints (Og.ordR l).1, ((fr l : Nat) : Int)) := by
  unfold logjamref26_Order.f
  exact order_l0 hn hs hw l.length 0 (by omega)
theorem doomed_l0 (hn : l.length ≤ 64) : ∀ d i, i + d = l.length →
    Evt (fun k => logjamref26_Doomed.l0 k l ((fr l : Nat) : Int) ((Og.setOf (fun t => !(fr l).testBit t) i : Nat) : Int) (i : Int)) ((dm l : Nat) : Int) := by
  intro d
  induction d with
  | zero =>
    intro i hi
    have e : i = l.length := by omega
    subst e
    refine up1 ?_
    have c : ¬ (l.length : Int) < (l.length : Int) := by omega
    simp only [logjamref26_Doomed.l0, if_neg c]
    unfold dm
    rw [sub_all hn (fr_top hn)]
    exact Evt.const fun _ => rfl
  | succ d ih =>
    intro i hi
    refine up1 ?_
    have c : (i : Int) < (l.length : Int) := by omega
    have ew : wrap64 ((i : Int) + 1) = ((i + 1 : Nat) : Int) := wr (by omega)
    simp only [logjamref26_Doomed.l0, if_pos c, ew]
    refine Evt.bind (hasN (fr_top hn) (by omega)) ?_
    have h1 := ih (i + 1) (by omega)
    cases hb : (fr l).testBit i with
    | true =>
      rw [out_t hb] at h1
      simp only [if_true]
      exact h1
    | false =>
      rw [out_f hb] at h1
      simp only [Bool.false_eq_true, if_false]
      exact Evt.bind (withN (Og.setOf_top _ (by omega)) (by omega)) h1
theorem doomedE (hn : l.length ≤ 64) (hs : Shrt l) (hw : Rows l) : Evt (fun k => logjamref26_Doomed.f k l) ((dm l : Nat) : Int) := by
  unfold logjamref26_Doomed.f
  refine Evt.bind (orderE hn hs hw) ?_
  exact doomed_l0 hn l.length 0 (by omega)
theorem Order_ev (hn : l.length ≤ 64) (hs : Shrt l) : Evt (fun k => graph_Order.f k l) (Bl.ints (Og.ordR l).1) := by
  refine ⟨71, fun k hk => ?_⟩
  show graph_Order.f k l = _
  unfold graph_Order.f
  rw [check_ok hn, Option.bind_some, if_pos rfl, order_in hn hs hk, Option.bind_some]
theorem Order_long (hn : ¬ l.length ≤ 64) : Evt (fun k => graph_Order.f k l) [] := by
  refine Evt.const fun k => ?_
  unfold graph_Order.f
  rw [check_long hn, Option.bind_some, if_neg (by decide)]
theorem ord_len (hn : l.length ≤ 64) : ∀ k (out : List Nat) F, (Og.ord l k out F).1.length ≤ out.length + k := by
  intro k
  induction k with
  | zero => intro out F; exact Nat.le_refl _
  | succ k ih =>
    intro out F
    simp only [Og.ord]
    split
    · simp
    · rename_i t _ _
      have := ih (out ++ [t]) (F ||| 2 ^ t)
      simp at this
      omega
theorem ordR_len (hn : l.length ≤ 64) : (Og.ordR l).1.length ≤ 128 := by
  have h1 := ord_len hn 64 (Og.out0 l l.length) (Og.F0 l l.length)
  have h2 := Og.out0_len l l.length
  unfold Og.ordR
  omega
end

end Go.Proofs.YtbfbegleffkafaaDoor.Ge
