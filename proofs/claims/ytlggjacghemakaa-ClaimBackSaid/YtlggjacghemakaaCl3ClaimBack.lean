/- What is given, and the document's order, over numbers and lists. Conditions: none. -/
import Derived.Test.YtlggjacghemakaaCl2ClaimBack
namespace Go.Proofs.Ytlggjacghemakaa.ClClaimBack
open Go.RowKit Go.Proofs.Ytlggjacghemakaa.PClaimBack Go.Proofs.YtlggjacghemakaaW.PrintWords Go.Proofs.YtlggjacghemakaaW.PrintLast Go.Proofs.YtlggjacghemakaaW.PrintMore
open Cm

section
variable {F : List Int} {H C : List (List Int)}
/-! ### given -/
def gbad (F : List Int) (H C : List (List Int)) (i : Nat) (ask : List Int) (q : Nat) : Bool := decide (rd ask (q : Int) < 0) || (decide (rd ask (q : Int) > hh C i q - hh H i q) || decide (rd ask (q : Int) > rd F (q : Int)))
theorem gH_take {i j : Nat} (hj : j < H.length) (ask : List Int) : (gH F H i ask).take (j + 1) = (gH F H i ask).take j ++ [if j = i then gR F H i ask else rd_L1 H (j : Int)] := by
  rw [List.take_succ_eq_append_getElem (by unfold gH; rw [List.length_set]; exact hj)]
  congr 2
  unfold gH
  rw [List.getElem_set]
  by_cases e : i = j
  · subst e; simp
  · rw [if_neg e, if_neg (fun q => e q.symm), rl_at hj]
theorem given_rows (ok : OkA F H C) {i : Nat} (hi : i < H.length) {ask : List Int} (hl : ask.length = F.length) (hb : ∀ q, q < F.length → gbad F H C i ask q = false) : ∀ d j, d + j = H.length →
    Evt (fun k => logjamref25_Given.l1 k (i : Int) ask (j : Int) F H C (gF F ask) ((gH F H i ask).take j) C) (gF F ask, gH F H i ask, C, true)
  | 0, j, h => by
    refine Evt.step (g := fun _ => some (gF F ask, gH F H i ask, C, true)) (fun k => ?_) (Evt.const fun _ => rfl)
    show logjamref25_Given.l1 (k + 1) _ _ _ _ _ _ _ _ _ = _
    simp only [logjamref25_Given.l1]
    rw [if_neg (by omega), List.take_of_length_le (by unfold gH; rw [List.length_set]; omega)]
  | d + 1, j, h => by
    have hj : j < H.length := by omega
    have hm := ok.2.1
    have hn := ok.2.2.1
    have hp := (ok.2.2.2.2 j hj).1
    have ht : ((gH F H i ask).take j).length ≤ 64 := by rw [List.length_take]; omega
    have ih := given_rows ok hi hl hb d (j + 1) (by omega)
    rw [gH_take hj] at ih
    by_cases e : j = i
    · subst e
      rw [if_pos rfl] at ih
      have hs := sum_f (rd_L1 H (j : Int)) ask (fun q => hh H j q + rd ask (q : Int)) (by omega) (by omega) (fun q hq => by
        have h1 := hb q (by omega)
        unfold gbad at h1
        rw [Bool.or_eq_false_iff, Bool.or_eq_false_iff] at h1
        have h2 := of_decide_eq_false h1.1
        have h3 := of_decide_eq_false h1.2.1
        have h4 := (ok.2.2.2.2 j hj).2.2 q (by omega)
        exact w0 (by show _ ≤ hh H j q + rd ask (q : Int); omega) (by show hh H j q + rd ask (q : Int) ≤ _; omega))
      rw [hp] at hs
      refine Evt.step (g := fun k => (logjamref25_sum.f k (rd_L1 H (j : Int)) ask).bind fun t => logjamref25_Given.l1 k (j : Int) ask ((j + 1 : Nat) : Int) F H C (gF F ask) ((gH F H j ask).take j ++ [t]) C) (fun k => ?_) (Evt.bind hs ih)
      show logjamref25_Given.l1 (k + 1) _ _ _ _ _ _ _ _ _ = _
      simp only [logjamref25_Given.l1]
      rw [if_pos (by omega), if_pos trivial, if_pos (by omega), w1 (by omega)]
      congr 1
      funext t
      rw [if_pos (by omega)]
    · rw [if_neg e] at ih
      refine Evt.step (fun k => ?_) ih
      show logjamref25_Given.l1 (k + 1) _ _ _ _ _ _ _ _ _ = _
      simp only [logjamref25_Given.l1]
      rw [if_pos (by omega), if_neg (by omega), if_pos (by omega), if_pos (by omega), w1 (by omega)]
theorem given_free (ok : OkA F H C) {i : Nat} (hi : i < H.length) {ask : List Int} (hl : ask.length = F.length) : ∀ d j, d + j = F.length → (∀ q, q < j → gbad F H C i ask q = false) →
    Evt (fun k => logjamref25_Given.l0 k (i : Int) ask (lf F H C i) (j : Int) F H C (vec j (fun q => rd F (q : Int) - rd ask (q : Int))) C) (cond (anyF (gbad F H C i ask) j d) (F, H, C, false) (gF F ask, gH F H i ask, C, true))
  | 0, j, h, hb => by
    have e : j = F.length := by omega
    subst e
    have ih := given_rows ok hi hl (fun q hq => hb q hq) H.length 0 rfl
    refine Evt.step (fun k => ?_) ih
    show logjamref25_Given.l0 (k + 1) _ _ _ _ _ _ _ _ _ = _
    simp only [logjamref25_Given.l0]
    rw [if_neg (by omega)]
    rfl
  | d + 1, j, h, hb => by
    have hj : j < F.length := by omega
    have hn := ok.2.2.1
    have hlf : (lf F H C i).length = F.length := vec_len _ _
    have er : rd (lf F H C i) (j : Int) = hh C i j - hh H i j := vec_rd hj
    have hno : ∀ x4, Evt (fun k => logjamref25_Given.j2 k (i : Int) ask (lf F H C i) (j : Int) true F H C x4 C) (F, H, C, false) := fun x4 => Evt.step (g := fun _ => some (F, H, C, false)) (fun k => by show logjamref25_Given.j2 (k + 1) _ _ _ _ _ _ _ _ _ _ = _; simp only [logjamref25_Given.j2]; rw [if_pos trivial]) (Evt.const fun _ => rfl)
    simp only [anyF]
    by_cases c1 : rd ask (j : Int) < 0
    · rw [show gbad F H C i ask j = true by unfold gbad; rw [decide_eq_true c1]; rfl, Bool.true_or, cond_true]
      refine Evt.step (fun k => ?_) (hno (vec j (fun q => rd F (q : Int) - rd ask (q : Int))))
      show logjamref25_Given.l0 (k + 1) _ _ _ _ _ _ _ _ _ = _
      simp only [logjamref25_Given.l0]
      rw [if_pos (by omega), if_pos (by omega), if_pos c1]
    by_cases c2 : rd ask (j : Int) > hh C i j - hh H i j
    · rw [show gbad F H C i ask j = true by unfold gbad; rw [decide_eq_true c2]; simp, Bool.true_or, cond_true]
      refine Evt.step (fun k => ?_) (hno (vec j (fun q => rd F (q : Int) - rd ask (q : Int))))
      show logjamref25_Given.l0 (k + 1) _ _ _ _ _ _ _ _ _ = _
      simp only [logjamref25_Given.l0]
      rw [if_pos (by omega), if_pos (by omega), if_neg c1, if_pos (by omega), er, if_pos c2]
    by_cases c3 : rd ask (j : Int) > rd F (j : Int)
    · rw [show gbad F H C i ask j = true by unfold gbad; rw [decide_eq_true c3]; simp, Bool.true_or, cond_true]
      refine Evt.step (fun k => ?_) (hno (vec j (fun q => rd F (q : Int) - rd ask (q : Int))))
      show logjamref25_Given.l0 (k + 1) _ _ _ _ _ _ _ _ _ = _
      simp only [logjamref25_Given.l0]
      rw [if_pos (by omega), if_pos (by omega), if_neg c1, if_pos (by omega), er, if_neg c2, if_pos (by omega), decide_eq_true c3]
    have hg : gbad F H C i ask j = false := by unfold gbad; rw [decide_eq_false c1, decide_eq_false c2, decide_eq_false c3]; rfl
    rw [hg, Bool.false_or]
    have ih := given_free ok hi hl d (j + 1) (by omega) (fun q hq => by
      by_cases e : q = j
      · subst e; exact hg
      · exact hb q (by omega))
    have hF := ok.2.2.2.1 j hj
    refine Evt.step (g := fun k => logjamref25_Given.j2 k (i : Int) ask (lf F H C i) (j : Int) false F H C (vec j (fun q => rd F (q : Int) - rd ask (q : Int))) C) (fun k => ?_) (Evt.step (fun k => ?_) ih)
    · show logjamref25_Given.l0 (k + 1) _ _ _ _ _ _ _ _ _ = _
      simp only [logjamref25_Given.l0]
      rw [if_pos (by omega), if_pos (by omega), if_neg c1, if_pos (by omega), er, if_neg c2, if_pos (by omega), decide_eq_false c3]
    · show logjamref25_Given.j2 (k + 1) _ _ _ _ _ _ _ _ _ _ = _
      simp only [logjamref25_Given.j2]
      have eW : wrap64 (rd F (j : Int) - rd ask (j : Int)) = rd F (j : Int) - rd ask (j : Int) := w0 (by omega) (by omega)
      rw [if_neg (by decide), if_pos (by omega), if_pos (by omega), if_pos (by omega), if_pos (by rw [vec_len]; omega), eW, vec_snoc j (fun q => rd F (q : Int) - rd ask (q : Int)), w1 (by omega)]
open Classical in
noncomputable def giv (F : List Int) (H C : List (List Int)) (who : Int) (ask : List Int) : List Int × List (List Int) × List (List Int) × Bool :=
  if May F H C who ask then (gF F ask, gH F H who.toNat ask, C, true) else (F, H, C, false)
open Classical in
theorem given_f (ok : OkA F H C) (who : Int) (ask : List Int) : Evt (fun k => logjamref25_Given.f k F H C who ask) (giv F H C who ask) := by
  have hno : Evt (fun k => logjamref25_Given.j0 k who ask true F H C) (F, H, C, false) := Evt.step (g := fun _ => some (F, H, C, false)) (fun k => by show logjamref25_Given.j0 (k + 1) _ _ _ _ _ _ = _; simp only [logjamref25_Given.j0]; rw [if_pos trivial]) (Evt.const fun _ => rfl)
  unfold giv
  by_cases c1 : who < 0
  · rw [if_neg (fun h => by have := h.1; omega)]
    refine Evt.of (fun k => ?_) hno
    show logjamref25_Given.f k _ _ _ _ _ = _
    unfold logjamref25_Given.f
    rw [if_pos c1]
  by_cases c2 : who ≥ (H.length : Int)
  · rw [if_neg (fun h => by have := h.2.1; omega)]
    refine Evt.of (fun k => ?_) hno
    show logjamref25_Given.f k _ _ _ _ _ = _
    unfold logjamref25_Given.f
    rw [if_neg c1, if_pos c2]
  obtain ⟨i, rfl⟩ : ∃ i : Nat, who = (i : Int) := ⟨who.toNat, by omega⟩
  have hi : i < H.length := by omega
  by_cases c3 : ask.length = F.length
  · have h0 := given_free ok hi c3 F.length 0 rfl (fun q hq => by omega)
    have e : (cond (anyF (gbad F H C i ask) 0 F.length) (F, H, C, false) (gF F ask, gH F H i ask, C, true)) = if May F H C (i : Int) ask then (gF F ask, gH F H (i : Int).toNat ask, C, true) else (F, H, C, false) := by
      rw [Int.toNat_natCast]
      cases hb : anyF (gbad F H C i ask) 0 F.length with
      | true =>
        obtain ⟨q, _, hq, hg⟩ := (anyF_iff _ _ _).1 hb
        rw [if_neg]
        · rfl
        · rintro ⟨_, _, _, h4⟩
          have h5 := h4 q (by omega)
          rw [Int.toNat_natCast] at h5
          unfold gbad at hg
          rw [decide_eq_false (by omega), decide_eq_false (by omega), decide_eq_false (by omega)] at hg
          cases hg
      | false =>
        have hb := (anyF_false _ _ _).1 hb
        rw [if_pos]
        · rfl
        · refine ⟨by omega, by omega, c3, fun q hq => ?_⟩
          have h1 := hb q (by omega) (by omega)
          unfold gbad at h1
          rw [Bool.or_eq_false_iff, Bool.or_eq_false_iff] at h1
          have h2 := of_decide_eq_false h1.1
          have h3 := of_decide_eq_false h1.2.1
          have h4 := of_decide_eq_false h1.2.2
          rw [Int.toNat_natCast]
          omega
    rw [← e]
    refine Evt.of (g := fun k => logjamref25_Given.j0 k (i : Int) ask false F H C) (fun k => ?_) (Evt.step (g := fun k => (logjamref25_Left.f k F H C (i : Int)).bind fun t => logjamref25_Given.l0 k (i : Int) ask t ((0 : Nat) : Int) F H C (vec 0 (fun q => rd F (q : Int) - rd ask (q : Int))) C) (fun k => ?_) (Evt.bind (g := fun k t => logjamref25_Given.l0 k (i : Int) ask t ((0 : Nat) : Int) F H C (vec 0 (fun q => rd F (q : Int) - rd ask (q : Int))) C) (rleft_f ok hi) h0))
    · show logjamref25_Given.f k _ _ _ _ _ = _
      unfold logjamref25_Given.f
      rw [if_neg c1, if_neg c2, c3, bne_self_eq_false]
    · show logjamref25_Given.j0 (k + 1) _ _ _ _ _ _ = _
      simp only [logjamref25_Given.j0]
      rw [if_neg (by decide)]
      rfl
  · rw [if_neg (fun h => c3 h.2.2.1)]
    refine Evt.of (fun k => ?_) hno
    show logjamref25_Given.f k _ _ _ _ _ = _
    unfold logjamref25_Given.f
    rw [if_neg c1, if_neg c2, bne_iff_ne.mpr (by omega : (ask.length : Int) ≠ (F.length : Int))]
end
end Go.Proofs.Ytlggjacghemakaa.ClClaimBack
