/- What is granted, and what is given, over numbers and lists. Conditions: none. -/
import Derived.Test.YtlggjacghemakaaClClaimBack
namespace Go.Proofs.Ytlggjacghemakaa.ClClaimBack
open Go.RowKit Go.Proofs.Ytlggjacghemakaa.PClaimBack Go.Proofs.YtlggjacghemakaaW.PrintWords Go.Proofs.YtlggjacghemakaaW.PrintLast Go.Proofs.YtlggjacghemakaaW.PrintMore
open Cm

section
variable {F : List Int} {H C : List (List Int)}
def gF (F ask : List Int) : List Int := vec F.length (fun q => rd F (q : Int) - rd ask (q : Int))
def gR (F : List Int) (H : List (List Int)) (i : Nat) (ask : List Int) : List Int := vec F.length (fun q => hh H i q + rd ask (q : Int))
def gH (F : List Int) (H : List (List Int)) (i : Nat) (ask : List Int) : List (List Int) := H.set i (gR F H i ask)
/-- May i be given what it asks? -/
def May (F : List Int) (H C : List (List Int)) (who : Int) (ask : List Int) : Prop :=
  0 ≤ who ∧ who < H.length ∧ ask.length = F.length ∧ ∀ k, k < F.length → 0 ≤ rd ask (k : Int) ∧ rd ask (k : Int) ≤ hh C who.toNat k - hh H who.toNat k ∧ rd ask (k : Int) ≤ rd F (k : Int)
theorem hh_set {i j k : Nat} {r : List Int} (hi : i < H.length) : hh (H.set i r) j k = if j = i then rd r (k : Int) else hh H j k := by
  unfold hh rd_L1
  simp only [Int.toNat_natCast]
  by_cases e : j = i
  · subst e
    rw [if_pos rfl]
    simp [hi]
  · rw [if_neg e]
    simp [Ne.symm e]
theorem len_set {i j : Nat} {r : List Int} (hi : i < H.length) : (rd_L1 (H.set i r) (j : Int)).length = if j = i then r.length else (rd_L1 H (j : Int)).length := by
  unfold rd_L1
  simp only [Int.toNat_natCast]
  by_cases e : j = i
  · subst e
    rw [if_pos rfl]
    simp [hi]
  · rw [if_neg e]
    simp [Ne.symm e]
theorem given_ok (ok : OkA F H C) {i : Nat} (hi : i < H.length) {ask : List Int} (h : ∀ k, k < F.length → 0 ≤ rd ask (k : Int) ∧ rd ask (k : Int) ≤ hh C i k - hh H i k ∧ rd ask (k : Int) ≤ rd F (k : Int)) : OkA (gF F ask) (gH F H i ask) C := by
  obtain ⟨o1, o2, o3, o4, o5⟩ := ok
  have el : (gF F ask).length = F.length := vec_len _ _
  refine ⟨by unfold gH; rw [List.length_set]; exact o1, by unfold gH; rw [List.length_set]; exact o2, by rw [el]; exact o3, fun k hk => ?_, fun j hj => ?_⟩
  · rw [el] at hk
    have h1 := h k hk
    have h2 := o4 k hk
    unfold gF
    rw [vec_rd hk]
    omega
  · unfold gH at hj
    rw [List.length_set] at hj
    obtain ⟨p1, p2, p3⟩ := o5 j hj
    refine ⟨?_, by rw [el]; exact p2, fun k hk => ?_⟩
    · unfold gH
      rw [len_set hi, el]
      split
      · exact vec_len _ _
      · exact p1
    · rw [el] at hk
      have q := p3 k hk
      unfold gH
      rw [hh_set hi]
      split
      · rename_i e
        subst e
        have h1 := h k hk
        unfold gR
        rw [vec_rd hk]
        omega
      · exact q
/-! ### Grants -/
theorem g_ev (ok : OkA F H C) {i : Nat} (hi : i < H.length) {ask : List Int} (hl : ask.length = F.length) (h1 : ∀ k, k < F.length → rd ask (k : Int) ≤ hh C i k - hh H i k ∧ rd ask (k : Int) ≤ rd F (k : Int)) : ∀ d j, d + j = F.length →
    claim_Grants.g (ask.drop j) j (vec F.length (fun q => if q < j then rd F (q : Int) - rd ask (q : Int) else rd F (q : Int))) (vec F.length (fun q => if q < j then hh H i q + rd ask (q : Int) else hh H i q)) = if anyF (fun q => decide (rd ask (q : Int) < 0)) j d = true then none else some (gF F ask, gR F H i ask)
  | 0, j, h => by
    rw [List.drop_eq_nil_of_le (by omega), show anyF (fun q => decide (rd ask (q : Int) < 0)) j 0 = false from rfl, if_neg (by decide)]
    simp only [claim_Grants.g]
    unfold gF gR
    congr 2
    · apply vec_congr; intro q hq; rw [if_pos (by omega)]
    · apply vec_congr; intro q hq; rw [if_pos (by omega)]
  | d + 1, j, h => by
    have hj : j < F.length := by omega
    have e : rd ask (j : Int) = ask[j]'(by omega) := rd_at (by omega)
    obtain ⟨o1, o2, o3, o4, o5⟩ := ok
    have b1 := o4 j hj
    have b2 := (o5 i hi).2.2 j hj
    have b3 := h1 j hj
    rw [List.drop_eq_getElem_cons (by omega : j < ask.length)]
    simp only [claim_Grants.g]
    rw [← e]
    by_cases c : rd ask (j : Int) < 0
    · have e2 : anyF (fun q => decide (rd ask (q : Int) < 0)) j (d + 1) = true := by simp only [anyF]; rw [decide_eq_true c]; rfl
      rw [if_pos c, e2, if_pos rfl]
    · have e2 : anyF (fun q => decide (rd ask (q : Int) < 0)) j (d + 1) = anyF (fun q => decide (rd ask (q : Int) < 0)) (j + 1) d := by simp only [anyF]; rw [decide_eq_false c]; rfl
      rw [if_neg c, e2, ← g_ev ⟨o1, o2, o3, o4, o5⟩ hi hl h1 d (j + 1) (by omega), vec_rd hj, vec_rd hj, if_neg (by omega), if_neg (by omega), w0 (by omega) (by omega), w0 (by omega) (by omega), vec_set, vec_set]
      congr 2
      · funext q
        by_cases c2 : q = j
        · subst c2; simp
        · rw [if_neg c2]
          by_cases c3 : q < j
          · rw [if_pos c3, if_pos (by omega)]
          · rw [if_neg c3, if_neg (by omega)]
      · funext q
        by_cases c2 : q = j
        · subst c2; simp
        · rw [if_neg c2]
          by_cases c3 : q < j
          · rw [if_pos c3, if_pos (by omega)]
          · rw [if_neg c3, if_neg (by omega)]
theorem clone49_f {l : List (List Int)} (h : l.length < 5864062014805) : slices_Clone_int_int_49.f l = some l := by
  unfold slices_Clone_int_int_49.f
  simp [h]
theorem row_vec (ok : OkA F H C) {i : Nat} (hi : i < H.length) : rd_L1 H (i : Int) = vec F.length (fun q => hh H i q) := by
  have := (ok.2.2.2.2 i hi).1
  rw [← this]
  exact vec_of _
theorem und_iff {a b : List Int} : und a b = true ↔ ∀ k, k < a.length → rd a (k : Int) ≤ rd b (k : Int) := by
  unfold und
  rw [Bool.not_eq_true', anyF_false]
  constructor
  · intro h k hk
    have := of_decide_eq_false (h k (by omega) (by omega))
    omega
  · intro h q _ hq
    exact decide_eq_false (by have := h q (by omega); omega)
open Classical in
noncomputable def grv (F : List Int) (H C : List (List Int)) (who : Int) (ask : List Int) : Bool :=
  if chk F H C = 0 ∧ May F H C who ask then decide ((ord (gF F ask) (gH F H who.toNat ask) C).length = H.length) else false
theorem bad_ev (F : List Int) (H C : List (List Int)) (who : Int) (ask : List Int) (hl : ask.length < 4611686018427387904) :
    ∃ b, Evt (fun k => claim_Grants.bad k F H C who ask) b ∧ (b = false ↔ chk F H C = 0 ∧ 0 ≤ who ∧ who < H.length ∧ ask.length = F.length ∧ und ask F = true ∧ und ask (lf F H C who.toNat) = true) := by
  have hc := check_f F H C
  have base : ∀ (b : Bool), Evt (fun k => if chk F H C = 0 then (if who < 0 then some true else if who ≥ (H.length : Int) then some true else if (ask.length : Int) = (F.length : Int) then
      ((claim_under.f k ask F).bind fun u => if u = true then ((claim_left.f k F H C who).bind fun n => (claim_under.f k ask n).bind fun v => some (!v)) else some true) else some true) else some true) b → Evt (fun k => claim_Grants.bad k F H C who ask) b := fun b hb => by
    refine Evt.of (fun k => ?_) (Evt.bind (g := fun k c => if c = 0 then (if who < 0 then some true else if who ≥ (H.length : Int) then some true else if (ask.length : Int) = (F.length : Int) then
      ((claim_under.f k ask F).bind fun u => if u = true then ((claim_left.f k F H C who).bind fun n => (claim_under.f k ask n).bind fun v => some (!v)) else some true) else some true) else some true) hc hb)
    rfl
  by_cases c1 : chk F H C = 0
  · have ok := chk_ok c1
    by_cases c2 : who < 0
    · exact ⟨true, base true (Evt.const fun k => by rw [if_pos c1, if_pos c2]), by constructor; (intro h; cases h); (intro h; omega)⟩
    by_cases c3 : who ≥ (H.length : Int)
    · exact ⟨true, base true (Evt.const fun k => by rw [if_pos c1, if_neg c2, if_pos c3]), by constructor; (intro h; cases h); (intro h; omega)⟩
    obtain ⟨i, rfl⟩ : ∃ i : Nat, who = (i : Int) := ⟨who.toNat, by omega⟩
    have hi : i < H.length := by omega
    by_cases c4 : (ask.length : Int) = (F.length : Int)
    · have hu := under_f ask F (by omega) (by omega)
      have hlf : (lf F H C i).length = F.length := vec_len _ _
      have hv := under_f ask (lf F H C i) (by omega) (by omega)
      refine ⟨!(und ask F && und ask (lf F H C i)), base _ (Evt.of (g := fun k => (claim_under.f k ask F).bind fun u => if u = true then ((claim_left.f k F H C (i : Int)).bind fun n => (claim_under.f k ask n).bind fun v => some (!v)) else some true) (fun k => by rw [if_pos c1, if_neg c2, if_neg c3, if_pos c4]) (Evt.bind (g := fun k u => if u = true then ((claim_left.f k F H C (i : Int)).bind fun n => (claim_under.f k ask n).bind fun v => some (!v)) else some true) hu ?_)), ?_⟩
      · cases und ask F with
        | false => exact Evt.const fun k => by rw [if_neg (by decide)]; rfl
        | true =>
          refine Evt.of (g := fun k => (claim_left.f k F H C (i : Int)).bind fun n => (claim_under.f k ask n).bind fun v => some (!v)) (fun k => by rw [if_pos rfl]) (Evt.bind (g := fun k n => (claim_under.f k ask n).bind fun v => some (!v)) (left_f ok hi) (Evt.bind (g := fun _ v => some (!v)) hv (Evt.const fun _ => by simp)))
      · rw [Int.toNat_natCast]
        constructor
        · intro h
          have : (und ask F && und ask (lf F H C i)) = true := by simpa using h
          rw [Bool.and_eq_true] at this
          exact ⟨c1, by omega, by omega, by omega, this.1, this.2⟩
        · intro h
          rw [h.2.2.2.2.1, h.2.2.2.2.2]
          rfl
    · exact ⟨true, base true (Evt.const fun k => by rw [if_pos c1, if_neg c2, if_neg c3, if_neg c4]), by constructor; (intro h; cases h); (intro h; omega)⟩
  · exact ⟨true, base true (Evt.const fun k => by rw [if_neg c1]), by constructor; (intro h; cases h); (intro h; exact absurd h.1 c1)⟩
theorem grants_f (F : List Int) (H C : List (List Int)) (who : Int) (ask : List Int) (hl : ask.length < 4611686018427387904) : Evt (fun k => claim_Grants.f k F H C who ask) (grv F H C who ask) := by
  obtain ⟨b, hb, hbi⟩ := bad_ev F H C who ask hl
  refine Evt.of (g := fun k => (claim_Grants.bad k F H C who ask).bind fun b => if b = true then some false else if 0 ≤ who then if who < (H.length : Int) then if ask.length ≤ F.length then if ask.length ≤ (rd_L1 H who).length then
      (slices_Clone_int_int_48.f F).bind fun _ => (slices_Clone_int_int_49.f H).bind fun _ => (slices_Clone_int_int_48.f (rd_L1 H who)).bind fun _ =>
        claim_Grants.rest k H C who (claim_Grants.g ask 0 F (rd_L1 H who))
    else none else none else none else none) (fun k => rfl) (Evt.bind (g := fun k b => if b = true then some false else if 0 ≤ who then if who < (H.length : Int) then if ask.length ≤ F.length then if ask.length ≤ (rd_L1 H who).length then
      (slices_Clone_int_int_48.f F).bind fun _ => (slices_Clone_int_int_49.f H).bind fun _ => (slices_Clone_int_int_48.f (rd_L1 H who)).bind fun _ =>
        claim_Grants.rest k H C who (claim_Grants.g ask 0 F (rd_L1 H who))
    else none else none else none else none) hb ?_)
  cases b with
  | true =>
    have e : grv F H C who ask = false := by
      unfold grv
      rw [if_neg]
      rintro ⟨h1, h2, h3, h4, h5⟩
      have : true = false := hbi.2 ⟨h1, h2, h3, h4, und_iff.2 (fun k hk => (h5 k (by omega)).2.2), und_iff.2 (fun k hk => by
        have := (h5 k (by omega)).2.1
        unfold lf
        rw [vec_rd (by omega)]
        exact this)⟩
      cases this
    rw [e]
    exact Evt.const fun k => by rw [if_pos rfl]
  | false =>
    obtain ⟨h1, h2, h3, h4, h5, h6⟩ := hbi.1 rfl
    have ok := chk_ok h1
    obtain ⟨i, rfl⟩ : ∃ i : Nat, who = (i : Int) := ⟨who.toNat, by omega⟩
    rw [Int.toNat_natCast] at h6
    have hi : i < H.length := by omega
    have hm := ok.2.1
    have hn := ok.2.2.1
    have hr := (ok.2.2.2.2 i hi).1
    have u1 := und_iff.1 h5
    have u2 := und_iff.1 h6
    have hg := g_ev ok hi h4 (fun k hk => ⟨by have := u2 k (by omega); unfold lf at this; rw [vec_rd hk] at this; exact this, u1 k (by omega)⟩) F.length 0 rfl
    have eF : vec F.length (fun q => if q < 0 then rd F (q : Int) - rd ask (q : Int) else rd F (q : Int)) = F := by
      conv => rhs; rw [vec_of F]
      apply vec_congr
      intro q _
      rw [if_neg (by omega)]
    have eR : vec F.length (fun q => if q < 0 then hh H i q + rd ask (q : Int) else hh H i q) = rd_L1 H (i : Int) := by
      rw [row_vec ok hi]
      apply vec_congr
      intro q _
      rw [if_neg (by omega)]
    rw [eF, eR, List.drop_zero] at hg
    refine Evt.of (g := fun k => claim_Grants.rest k H C (i : Int) (claim_Grants.g ask 0 F (rd_L1 H (i : Int)))) (fun k => ?_) ?_
    · rw [if_neg (by decide), if_pos h2, if_pos h3, if_pos (by omega), if_pos (by omega), clone_f (by omega), Option.bind_some, clone49_f (by omega), Option.bind_some, clone_f (by omega), Option.bind_some]
    · rw [hg]
      by_cases c : anyF (fun q => decide (rd ask (q : Int) < 0)) 0 F.length = true
      · rw [if_pos c]
        have e : grv F H C (i : Int) ask = false := by
          unfold grv
          rw [if_neg]
          rintro ⟨_, _, _, _, h7⟩
          obtain ⟨q, _, hq, hd⟩ := (anyF_iff _ _ _).1 c
          have := (h7 q (by omega)).1
          have := of_decide_eq_true hd
          omega
        rw [e]
        exact Evt.const fun k => rfl
      · rw [if_neg c]
        have c := (anyF_false _ _ _).1 (Bool.eq_false_iff.2 c)
        have hall : ∀ k, k < F.length → 0 ≤ rd ask (k : Int) ∧ rd ask (k : Int) ≤ hh C i k - hh H i k ∧ rd ask (k : Int) ≤ rd F (k : Int) := fun k hk => by
          have q1 := of_decide_eq_false (c k (by omega) (by omega))
          have q2 := u1 k (by omega)
          have q3 := u2 k (by omega)
          unfold lf at q3
          rw [vec_rd hk] at q3
          omega
        have e : grv F H C (i : Int) ask = decide ((ord (gF F ask) (gH F H i ask) C).length = H.length) := by
          unfold grv
          rw [Int.toNat_natCast, if_pos ⟨h1, h2, h3, h4, by rw [Int.toNat_natCast]; exact hall⟩]
        rw [e]
        have ho := order_f (given_ok ok hi hall)
        refine Evt.of (g := fun k => (claim_order.f k (gF F ask) (gH F H i ask) C).bind fun o => some o.2) (fun k => rfl) (Evt.bind (g := fun _ o => some o.2) ho (Evt.const fun _ => ?_))
        unfold outO
        have el : (gH F H i ask).length = H.length := by unfold gH; rw [List.length_set]
        rw [el]
        by_cases c2 : (ord (gF F ask) (gH F H i ask) C).length = H.length
        · rw [if_pos c2, decide_eq_true c2]
        · rw [if_neg c2, decide_eq_false c2]
end
end Go.Proofs.Ytlggjacghemakaa.ClClaimBack
