/- What is given, and the document's order, over numbers and lists. Conditions: none. -/
import Derived.Test.YtlggjacghemakaaCl2ClaimTells
namespace Go.Proofs.Ytlggjacghemakaa.ClClaimTells
open Go.RowKit Go.Proofs.Ytlggjacghemakaa.PClaimTells Go.Proofs.YtlggjacghemakaaW.PrintWords Go.Proofs.YtlggjacghemakaaW.PrintLast Go.Proofs.YtlggjacghemakaaW.PrintMore
open Cm

section
variable {F : List Int} {H C : List (List Int)}
/-! ### given -/
def gbad (F : List Int) (H C : List (List Int)) (i : Nat) (ask : List Int) (q : Nat) : Bool := decide (rd ask (q : Int) < 0) || (decide (rd ask (q : Int) > hh C i q - hh H i q) || decide (rd ask (q : Int) > rd F (q : Int)))
theorem gH_take {i j : Nat} (hj : j < H.length) (ask : List Int) : (gH F H i ask).take (j + 1) = (gH F H i ask).take j ++ [if j = i then gR F H i ask else rd_L1 H (j : Int)] := by
  rw [List.take_succ_eq_append_getElem (by unfold gH; rw [List.length_set]; exact hj)]
  congr 2
  unfold gH
  rw [List.getElem_set]
  by_cases e : i = j
  · subst e; simp
  · rw [if_neg e, if_neg (fun q => e q.symm), rl_at hj]
theorem given_rows (ok : OkA F H C) {i : Nat} (hi : i < H.length) {ask : List Int} (hl : ask.length = F.length) (hb : ∀ q, q < F.length → gbad F H C i ask q = false) : ∀ d j, d + j = H.length →
    Evt (fun k => logjamref25_Given.l1 k (i : Int) ask (j : Int) F H C (gF F ask) ((gH F H i ask).take j) C) (gF F ask, gH F H i ask, C, true)
  | 0, j, h => by
    refine Evt.step (g := fun _ => some (gF F ask, gH F H i ask, C, true)) (fun k => ?_) (Evt.const fun _ => rfl)
    show logjamref25_Given.l1 (k + 1) _ _ _ _ _ _ _ _ _ = _
    simp only [logjamref25_Given.l1]
    rw [if_neg (by omega), List.take_of_length_le (by unfold gH; rw [List.length_set]; omega)]
  | d + 1, j, h => by
    have hj : j < H.length := by omega
    have hm := ok.2.1
    have hn := ok.2.2.1
    have hp := (ok.2.2.2.2 j hj).1
    have ht : ((gH F H i ask).take j).length ≤ 64 := by rw [List.length_take]; omega
    have ih := given_rows ok hi hl hb d (j + 1) (by omega)
    rw [gH_take hj] at ih
    by_cases e : j = i
    · subst e
      rw [if_pos rfl] at ih
      have hs := sum_f (rd_L1 H (j : Int)) ask (fun q => hh H j q + rd ask (q : Int)) (by omega) (by omega) (fun q hq => by
        have h1 := hb q (by omega)
        unfold gbad at h1
        rw [Bool.or_eq_false_iff, Bool.or_eq_false_iff] at h1
        have h2 := of_decide_eq_false h1.1
        have h3 := of_decide_eq_false h1.2.1
        have h4 := (ok.2.2.2.2 j hj).2.2 q (by omega)
        exact w0 (by show _ ≤ hh H j q + rd ask (q : Int); omega) (by show hh H j q + rd ask (q : Int) ≤ _; omega))
      rw [hp] at hs
      refine Evt.step (g := fun k => (logjamref25_sum.f k (rd_L1 H (j : Int)) ask).bind fun t => logjamref25_Given.l1 k (j : Int) ask ((j + 1 : Nat) : Int) F H C (gF F ask) ((gH F H j ask).take j ++ [t]) C) (fun k => ?_) (Evt.bind hs ih)
      show logjamref25_Given.l1 (k + 1) _ _ _ _ _ _ _ _ _ = _
      simp only [logjamref25_Given.l1]
      rw [if_pos (by omega), if_pos trivial, if_pos (by omega), w1 (by omega)]
      congr 1
      funext t
      rw [if_pos (by omega)]
    · rw [if_neg e] at ih
      refine Evt.step (fun k => ?_) ih
      show logjamref25_Given.l1 (k + 1) _ _ _ _ _ _ _ _ _ = _
      simp only [logjamref25_Given.l1]
      rw [if_pos (by omega), if_neg (by omega), if_pos (by omega), if_pos (by omega), w1 (by omega)]
theorem given_free (ok : OkA F H C) {i : Nat} (hi : i < H.length) {ask : List Int} (hl : ask.length = F.length) : ∀ d j, d + j = F.length → (∀ q, q < j → gbad F H C i ask q = false) →
    Evt (fun k => logjamref25_Given.l0 k (i : Int) ask (lf F H C i) (j : Int) F H C (vec j (fun q => rd F (q : Int) - rd ask (q : Int))) C) (cond (anyF (gbad F H C i ask) j d) (F, H, C, false) (gF F ask, gH F H i ask, C, true))
  | 0, j, h, hb => by
    have e : j = F.length := by omega
    subst e
    have ih := given_rows ok hi hl (fun q hq => hb q hq) H.length 0 rfl
    refine Evt.step (fun k => ?_) ih
    show logjamref25_Given.l0 (k + 1) _ _ _ _ _ _ _ _ _ = _
    simp only [logjamref25_Given.l0]
    rw [if_neg (by omega)]
    rfl
  | d + 1, j, h, hb => by
    have hj : j < F.length := by omega
    have hn := ok.2.2.1
    have hlf : (lf F H C i).length = F.length := vec_len _ _
    have er : rd (lf F H C i) (j : Int) = hh C i j - hh H i j := vec_rd hj
    have hno : ∀ x4, Evt (fun k => logjamref25_Given.j2 k (i : Int) ask (lf F H C i) (j : Int) true F H C x4 C) (F, H, C, false) := fun x4 => Evt.step (g := fun _ => some (F, H, C, false)) (fun k => by show logjamref25_Given.j2 (k + 1) _ _ _ _ _ _ _ _ _ _ = _; simp only [logjamref25_Given.j2]; rw [if_pos trivial]) (Evt.const fun _ => rfl)
    simp only [anyF]
    by_cases c1 : rd ask (j : Int) < 0
    · rw [show gbad F H C i ask j = true by unfold gbad; rw [decide_eq_true c1]; rfl, Bool.true_or, cond_true]
      refine Evt.step (fun k => ?_) (hno (vec j (fun q => rd F (q : Int) - rd ask (q : Int))))
      show logjamref25_Given.l0 (k + 1) _ _ _ _ _ _ _ _ _ = _
      simp only [logjamref25_Given.l0]
      rw [if_pos (by omega), if_pos (by omega), if_pos c1]
    by_cases c2 : rd ask (j : Int) > hh C i j - hh H i j
    · rw [show gbad F H C i ask j = true by unfold gbad; rw [decide_eq_true c2]; simp, Bool.true_or, cond_true]
      refine Evt.step (fun k => ?_) (hno (vec j (fun q => rd F (q : Int) - rd ask (q : Int))))
      show logjamref25_Given.l0 (k + 1) _ _ _ _ _ _ _ _ _ = _
      simp only [logjamref25_Given.l0]
      rw [if_pos (by omega), if_pos (by omega), if_neg c1, if_pos (by omega), er, if_pos c2]
    by_cases c3 : rd ask (j : Int) > rd F (j : Int)
    · rw [show gbad F H C i ask j = true by unfold gbad; rw [decide_eq_true c3]; simp, Bool.true_or, cond_true]
      refine Evt.step (fun k => ?_) (hno (vec j (fun q => rd F (q : Int) - rd ask (q : Int))))
      show logjamref25_Given.l0 (k + 1) _ _ _ _ _ _ _ _ _ = _
      simp only [logjamref25_Given.l0]
      rw [if_pos (by omega), if_pos (by omega), if_neg c1, if_pos (by omega), er, if_neg c2, if_pos (by omega), decide_eq_true c3]
    have hg : gbad F H C i ask j = false := by unfold gbad; rw [decide_eq_false c1, decide_eq_false c2, decide_eq_false c3]; rfl
    rw [hg, Bool.false_or]
    have ih := given_free ok hi hl d (j + 1) (by omega) (fun q hq => by
      by_cases e : q = j
      · subst e; exact hg
      · exact hb q (by omega))
    have hF := ok.2.2.2.1 j hj
    refine Evt.step (g := fun k => logjamref25_Given.j2 k (i : Int) ask (lf F H C i) (j : Int) false F H C (vec j (fun q => rd F (q : Int) - rd ask (q : Int))) C) (fun k => ?_) (Evt.step (fun k => ?_) ih)
    · show logjamref25_Given.l0 (k + 1) _ _ _ _ _ _ _ _ _ = _
      simp only [logjamref25_Given.l0]
      rw [if_pos (by omega), if_pos (by omega), if_neg c1, if_pos (by omega), er, if_neg c2, if_pos (by omega), decide_eq_false c3]
    · show logjamref25_Given.j2 (k + 1) _ _ _ _ _ _ _ _ _ _ = _
      simp only [logjamref25_Given.j2]
      have eW : wrap64 (rd F (j : Int) - rd ask (j : Int)) = rd F (j : Int) - rd ask (j : Int) := w0 (by omega) (by omega)
      rw [if_neg (by decide), if_pos (by omega), if_pos (by omega), if_pos (by omega), if_pos (by rw [vec_len]; omega), eW, vec_snoc j (fun q => rd F (q : Int) - rd ask (q : Int)), w1 (by omega)]
open Classical in
noncomputable def giv (F : List Int) (H C : List (List Int)) (who : Int) (ask : List Int) : List Int × List (List Int) × List (List Int) × Bool :=
  if May F H C who ask then (gF F ask, gH F H who.toNat ask, C, true) else (F, H, C, false)
open Classical in
theorem given_f (ok : OkA F H C) (who : Int) (ask : List Int) : Evt (fun k => logjamref25_Given.f k F H C who ask) (giv F H C who ask) := by
  have hno : Evt (fun k => logjamref25_Given.j0 k who ask true F H C) (F, H, C, false) := Evt.step (g := fun _ => some (F, H, C, false)) (fun k => by show logjamref25_Given.j0 (k + 1) _ _ _ _ _ _ = _; simp only [logjamref25_Given.j0]; rw [if_pos trivial]) (Evt.const fun _ => rfl)
  unfold giv
  by_cases c1 : who < 0
  · rw [if_neg (fun h => by have := h.1; omega)]
    refine Evt.of (fun k => ?_) hno
    show logjamref25_Given.f k _ _ _ _ _ = _
    unfold logjamref25_Given.f
    rw [if_pos c1]
  by_cases c2 : who ≥ (H.length : Int)
  · rw [if_neg (fun h => by have := h.2.1; omega)]
    refine Evt.of (fun k => ?_) hno
    show logjamref25_Given.f k _ _ _ _ _ = _
    unfold logjamref25_Given.f
    rw [if_neg c1, if_pos c2]
  obtain ⟨i, rfl⟩ : ∃ i : Nat, who = (i : Int) := ⟨who.toNat, by omega⟩
  have hi : i < H.length := by omega
  by_cases c3 : ask.length = F.length
  · have h0 := given_free ok hi c3 F.length 0 rfl (fun q hq => by omega)
    have e : (cond (anyF (gbad F H C i ask) 0 F.length) (F, H, C, false) (gF F ask, gH F H i ask, C, true)) = if May F H C (i : Int) ask then (gF F ask, gH F H (i : Int).toNat ask, C, true) else (F, H, C, false) := by
      rw [Int.toNat_natCast]
      cases hb : anyF (gbad F H C i ask) 0 F.length with
      | true =>
        obtain ⟨q, _, hq, hg⟩ := (anyF_iff _ _ _).1 hb
        rw [if_neg]
        · rfl
        · rintro ⟨_, _, _, h4⟩
          have h5 := h4 q (by omega)
          rw [Int.toNat_natCast] at h5
          unfold gbad at hg
          rw [decide_eq_false (by omega), decide_eq_false (by omega), decide_eq_false (by omega)] at hg
          cases hg
      | false =>
        have hb := (anyF_false _ _ _).1 hb
        rw [if_pos]
        · rfl
        · refine ⟨by omega, by omega, c3, fun q hq => ?_⟩
          have h1 := hb q (by omega) (by omega)
          unfold gbad at h1
          rw [Bool.or_eq_false_iff, Bool.or_eq_false_iff] at h1
          have h2 := of_decide_eq_false h1.1
          have h3 := of_decide_eq_false h1.2.1
          have h4 := of_decide_eq_false h1.2.2
          rw [Int.toNat_natCast]
          omega
    rw [← e]
    refine Evt.of (g := fun k => logjamref25_Given.j0 k (i : Int) ask false F H C) (fun k => ?_) (Evt.step (g := fun k => (logjamref25_Left.f k F H C (i : Int)).bind fun t => logjamref25_Given.l0 k (i : Int) ask t ((0 : Nat) : Int) F H C (vec 0 (fun q => rd F (q : Int) - rd ask (q : Int))) C) (fun k => ?_) (Evt.bind (g := fun k t => logjamref25_Given.l0 k (i : Int) ask t ((0 : Nat) : Int) F H C (vec 0 (fun q => rd F (q : Int) - rd ask (q : Int))) C) (rleft_f ok hi) h0))
    · show logjamref25_Given.f k _ _ _ _ _ = _
      unfold logjamref25_Given.f
      rw [if_neg c1, if_neg c2, c3, bne_self_eq_false]
    · show logjamref25_Given.j0 (k + 1) _ _ _ _ _ _ = _
      simp only [logjamref25_Given.j0]
      rw [if_neg (by decide)]
      rfl
  · rw [if_neg (fun h => c3 h.2.2.1)]
    refine Evt.of (fun k => ?_) hno
    show logjamref25_Given.f k _ _ _ _ _ = _
    unfold logjamref25_Given.f
    rw [if_neg c1, if_neg c2, bne_iff_ne.mpr (by omega : (ask.length : Int) ≠ (F.length : Int))]
end
/-! ### the document's order -/
section
variable {F : List Int} {H C : List (List Int)}
def idx : Option Nat → Int
  | none => -1
  | some q => q
theorem rscan (ok : OkA F H C) {l : List Nat} (hl : l.length ≤ 64) (v : List Int × Bool) (hv : Evt (fun k => logjamref25_Order.l1 k (frv F H l) (lI l) (idx (nxt (pN F H C l) 0 H.length)) (-1) F H C) v) : ∀ i, i ≤ H.length →
    Evt (fun k => logjamref25_Order.l1 k (frv F H l) (lI l) (idx (nxt (pN F H C l) i (H.length - i))) ((i : Int) - 1) F H C) v
  | 0, _ => hv
  | i + 1, h => by
    have hm := ok.2.1
    have hn := ok.2.2.1
    have ih := rscan ok hl v hv i (by omega)
    have ed : H.length - i = (H.length - (i + 1)) + 1 := by omega
    rw [ed] at ih
    simp only [nxt] at ih
    have ex : ((i + 1 : Nat) : Int) - 1 = (i : Int) := by omega
    rw [ex]
    have hw : wrap64 ((i : Int) - 1) = (i : Int) - 1 := w0 (by omega) (by omega)
    by_cases c : i ∈ l
    · have e : pN F H C l i = false := by unfold pN; simp [c]
      rw [e, if_neg (by decide)] at ih
      have hh1 := has_f (lI l) (i : Int) (by rw [lI_len]; omega)
      have e2 : decide ((i : Int) ∈ lI l) = true := decide_eq_true (List.mem_map.2 ⟨i, c, rfl⟩)
      rw [e2] at hh1
      refine Evt.step (g := fun k => (logjamref25_has.f k (lI l) (i : Int)).bind fun t => if t = true then logjamref25_Order.l1 k (frv F H l) (lI l) (idx (nxt (pN F H C l) (i + 1) (H.length - (i + 1)))) ((i : Int) - 1) F H C else (logjamref25_Left.f k F H C (i : Int)).bind fun n => (logjamref25_Under.f k n (frv F H l)).bind fun u => if u = true then logjamref25_Order.l1 k (frv F H l) (lI l) (i : Int) ((i : Int) - 1) F H C else logjamref25_Order.l1 k (frv F H l) (lI l) (idx (nxt (pN F H C l) (i + 1) (H.length - (i + 1)))) ((i : Int) - 1) F H C) (fun k => ?_) (Evt.bind hh1 (Evt.of (fun k => by rw [if_pos rfl]) ih))
      show logjamref25_Order.l1 (k + 1) _ _ _ _ _ _ _ = _
      simp only [logjamref25_Order.l1]
      rw [if_pos (by omega), hw]
    · have hh1 := has_f (lI l) (i : Int) (by rw [lI_len]; omega)
      have e2 : decide ((i : Int) ∈ lI l) = false := decide_eq_false (fun hx => by
        obtain ⟨y, hy, e⟩ := List.mem_map.1 hx
        have : y = i := by omega
        subst this
        exact c hy)
      rw [e2] at hh1
      have hu := runder_f (lf F H C i) (frv F H l) (by rw [lf, vec_len]; omega) (by rw [lf, frv, vec_len, vec_len]; exact Nat.le_refl _)
      have e : pN F H C l i = und (lf F H C i) (frv F H l) := by unfold pN; simp [c]
      rw [e] at ih
      refine Evt.step (g := fun k => (logjamref25_has.f k (lI l) (i : Int)).bind fun t => if t = true then logjamref25_Order.l1 k (frv F H l) (lI l) (idx (nxt (pN F H C l) (i + 1) (H.length - (i + 1)))) ((i : Int) - 1) F H C else (logjamref25_Left.f k F H C (i : Int)).bind fun n => (logjamref25_Under.f k n (frv F H l)).bind fun u => if u = true then logjamref25_Order.l1 k (frv F H l) (lI l) (i : Int) ((i : Int) - 1) F H C else logjamref25_Order.l1 k (frv F H l) (lI l) (idx (nxt (pN F H C l) (i + 1) (H.length - (i + 1)))) ((i : Int) - 1) F H C) (fun k => ?_) (Evt.bind hh1 (Evt.of (g := fun k => (logjamref25_Left.f k F H C (i : Int)).bind fun n => (logjamref25_Under.f k n (frv F H l)).bind fun u => if u = true then logjamref25_Order.l1 k (frv F H l) (lI l) (i : Int) ((i : Int) - 1) F H C else logjamref25_Order.l1 k (frv F H l) (lI l) (idx (nxt (pN F H C l) (i + 1) (H.length - (i + 1)))) ((i : Int) - 1) F H C) (fun k => by rw [if_neg (by decide)]) (Evt.bind (g := fun k n => (logjamref25_Under.f k n (frv F H l)).bind fun u => if u = true then logjamref25_Order.l1 k (frv F H l) (lI l) (i : Int) ((i : Int) - 1) F H C else logjamref25_Order.l1 k (frv F H l) (lI l) (idx (nxt (pN F H C l) (i + 1) (H.length - (i + 1)))) ((i : Int) - 1) F H C) (rleft_f ok (by omega)) (Evt.bind (g := fun k u => if u = true then logjamref25_Order.l1 k (frv F H l) (lI l) (i : Int) ((i : Int) - 1) F H C else logjamref25_Order.l1 k (frv F H l) (lI l) (idx (nxt (pN F H C l) (i + 1) (H.length - (i + 1)))) ((i : Int) - 1) F H C) hu ?_))))
      · show logjamref25_Order.l1 (k + 1) _ _ _ _ _ _ _ = _
        simp only [logjamref25_Order.l1]
        rw [if_pos (by omega), hw]
      · cases hb : und (lf F H C i) (frv F H l) with
        | true =>
          rw [hb, if_pos rfl] at ih
          exact Evt.of (fun k => by rw [if_pos rfl]; rfl) ih
        | false =>
          rw [hb, if_neg (by decide)] at ih
          exact Evt.of (fun k => by rw [if_neg (by decide)]) ih
theorem rrun (ok : OkA F H C) : ∀ d l, l.length + d = H.length → Chain H.length F.length (FF F) (hh H) (hh C) l → Evt (fun k => logjamref25_Order.l0 k (frv F H l) (lI l) F H C) (lI (G (pN F H C) H.length d l), decide ((G (pN F H C) H.length d l).length = H.length)) := by
  intro d
  induction d with
  | zero =>
    intro l h hc
    have hm := ok.2.1
    have hnone : nxt (pN F H C l) 0 H.length = none := by
      cases e : nxt (pN F H C l) 0 H.length with
      | none => rfl
      | some q =>
        exfalso
        obtain ⟨_, hq, hp⟩ := nxt_some e
        unfold pN at hp
        rw [Bool.and_eq_true, decide_eq_true_iff] at hp
        exact hp.1 (hc.all (by omega) (by omega))
    refine Evt.step (fun k => ?_) (rscan ok (l := l) (by omega) _ ?_ H.length (Nat.le_refl _))
    · show logjamref25_Order.l0 (k + 1) _ _ _ _ _ = _
      simp only [logjamref25_Order.l0, Nat.sub_self, nxt, idx]
      rw [w0 (by omega) (by omega)]
    · rw [hnone]
      show Evt (fun k => logjamref25_Order.l1 k (frv F H l) (lI l) (-1) (-1) F H C) (lI l, decide (l.length = H.length))
      refine Evt.step (g := fun _ => some (lI l, decide (l.length = H.length))) (fun k => ?_) (Evt.const fun _ => rfl)
      show logjamref25_Order.l1 (k + 1) _ _ _ _ _ _ _ = _
      simp only [logjamref25_Order.l1]
      rw [if_neg (by decide), if_pos (by decide), lI_len]
      congr 2
      rw [Bool.eq_iff_iff]
      simp
      omega
  | succ d ih =>
    intro l h hc
    have hm := ok.2.1
    have hn := ok.2.2.1
    refine Evt.step (fun k => ?_) (rscan ok (l := l) (by omega) _ ?_ H.length (Nat.le_refl _))
    · show logjamref25_Order.l0 (k + 1) _ _ _ _ _ = _
      simp only [logjamref25_Order.l0, Nat.sub_self, nxt, idx]
      rw [w0 (by omega) (by omega)]
    · cases e : nxt (pN F H C l) 0 H.length with
      | none =>
        have eG : G (pN F H C) H.length (d + 1) l = l := by simp only [G, e]
        rw [eG]
        show Evt (fun k => logjamref25_Order.l1 k (frv F H l) (lI l) (-1) (-1) F H C) (lI l, decide (l.length = H.length))
        refine Evt.step (g := fun _ => some (lI l, decide (l.length = H.length))) (fun k => ?_) (Evt.const fun _ => rfl)
        show logjamref25_Order.l1 (k + 1) _ _ _ _ _ _ _ = _
        simp only [logjamref25_Order.l1]
        rw [if_neg (by decide), if_pos (by decide), lI_len]
        congr 2
        rw [Bool.eq_iff_iff]
        simp
        omega
      | some q =>
        obtain ⟨_, hq, hp⟩ := nxt_some e
        have hq : q < H.length := by omega
        have hr := (ok.2.2.2.2 q hq).1
        have hs := sum_f (frv F H l) (rd_L1 H (q : Int)) (fun k => fr (FF F) (hh H) l k + hh H q k) (by rw [frv, vec_len]; omega) (by rw [frv, vec_len, hr]; exact Nat.le_refl _) (fun k hk => by
          rw [frv, vec_len] at hk
          have h1 := fr_in ok (l := l) (by omega) hk
          have h2 := hh_nn ok q k
          rw [frv, vec_rd hk]
          exact w0 (by show _ ≤ fr (FF F) (hh H) l k + hh H q k; omega) (by show fr (FF F) (hh H) l k + hh H q k ≤ _; omega))
        have e3 : vec (frv F H l).length (fun k => fr (FF F) (hh H) l k + hh H q k) = frv F H (l ++ [q]) := by rw [frv_snoc, frv, vec_len]
        rw [e3] at hs
        have eG : G (pN F H C) H.length (d + 1) l = G (pN F H C) H.length d (l ++ [q]) := by simp only [G, e]
        rw [eG]
        show Evt (fun k => logjamref25_Order.l1 k (frv F H l) (lI l) (q : Int) (-1) F H C) _
        refine Evt.step (g := fun k => (logjamref25_sum.f k (frv F H l) (rd_L1 H (q : Int))).bind fun t => logjamref25_Order.l0 k t (lI (l ++ [q])) F H C) (fun k => ?_) (Evt.bind hs (ih (l ++ [q]) (by simp; omega) (hc.snoc ((pN_iff hq).1 hp))))
        show logjamref25_Order.l1 (k + 1) _ _ _ _ _ _ _ = _
        simp only [logjamref25_Order.l1]
        rw [if_neg (by decide), if_neg (by omega), if_pos (by rw [lI_len]; omega), if_pos (by omega), if_pos (by omega), lI_snoc]
theorem rorder_f (ok : OkA F H C) : Evt (fun k => logjamref25_Order.f k F H C) (lI (ord F H C), decide ((ord F H C).length = H.length)) := by
  refine Evt.of (fun k => ?_) (rrun ok H.length [] (by simp) Chain.nil)
  show logjamref25_Order.f k F H C = _
  unfold logjamref25_Order.f
  have e1 : F = frv F H [] := by
    conv => lhs; rw [vec_of F]
    unfold frv
    apply vec_congr
    intro q _
    simp [fr, FF, S]
  rw [← e1]
  rfl
theorem cleft_f (F : List Int) (H C : List (List Int)) (who : Int) : Evt (fun k => claim_Left.f k F H C who) (if chk F H C = 0 ∧ 0 ≤ who ∧ who < H.length then lf F H C who.toNat else []) := by
  have hno : Evt (fun k => claim_Left.j0 k who true F H C) [] := Evt.step (g := fun _ => some []) (fun k => by show claim_Left.j0 (k + 1) _ _ _ _ _ = _; simp only [claim_Left.j0]; rw [if_pos trivial]) (Evt.const fun _ => rfl)
  refine Evt.of (g := fun k => (claim_Check.f k F H C).bind fun t => if t = 0 then (if who < 0 then claim_Left.j0 k who true F H C else claim_Left.j0 k who (decide (who ≥ (H.length : Int))) F H C) else claim_Left.j0 k who true F H C) (fun k => rfl) (Evt.bind (g := fun k t => if t = 0 then (if who < 0 then claim_Left.j0 k who true F H C else claim_Left.j0 k who (decide (who ≥ (H.length : Int))) F H C) else claim_Left.j0 k who true F H C) (check_f F H C) ?_)
  by_cases c0 : chk F H C = 0
  · by_cases c1 : who < 0
    · rw [if_neg (fun h => by omega)]
      exact Evt.of (fun k => by rw [if_pos c0, if_pos c1]) hno
    by_cases c2 : who ≥ (H.length : Int)
    · rw [if_neg (fun h => by omega)]
      exact Evt.of (fun k => by rw [if_pos c0, if_neg c1, decide_eq_true c2]) hno
    · rw [if_pos ⟨c0, by omega, by omega⟩]
      obtain ⟨i, rfl⟩ : ∃ i : Nat, who = (i : Int) := ⟨who.toNat, by omega⟩
      rw [Int.toNat_natCast]
      refine Evt.of (g := fun k => claim_Left.j0 k (i : Int) false F H C) (fun k => by rw [if_pos c0, if_neg c1, decide_eq_false c2]) (Evt.step (g := fun k => (claim_left.f k F H C (i : Int)).bind fun t => some t) (fun k => ?_) (Evt.bind (g := fun _ t => some t) (left_f (chk_ok c0) (by omega)) (Evt.const fun _ => rfl)))
      show claim_Left.j0 (k + 1) _ _ _ _ _ = _
      simp only [claim_Left.j0]
      rw [if_neg (by decide)]
  · rw [if_neg (fun h => c0 h.1)]
    exact Evt.of (fun k => by rw [if_neg c0]) hno
end
end Go.Proofs.Ytlggjacghemakaa.ClClaimTells
