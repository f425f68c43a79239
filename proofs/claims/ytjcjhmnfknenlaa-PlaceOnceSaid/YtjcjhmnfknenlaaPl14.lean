/- Places: who has been fetched. Conditions: none. -/
import Derived.Test.YtjcjhmnfknenlaaPl13
namespace Go.Proofs.Ytjcjhmnfknenlaa.Pl
open Go.RowKit Go.Proofs.Ytjcjhmnfknenlaa.PPlaceOnce Go.Proofs.YtjcjhmnfknenlaaW.PrintWords Go.Proofs.YtjcjhmnfknenlaaW.PrintLast
set_option linter.unusedVariables false
set_option linter.unusedSimpArgs false

/-- Those that stood, and stand no more. -/
def metS (Z A : Pa) : Nat := Gs.setOf (fun t => inB Z t && !inB A t) 64
def Sub (Z A : Pa) : Prop := ∀ t, t < 64 → inB A t = true → inB Z t = true
def Idle (A : Pa) : Prop := ∀ i, i < A.n → A.runs i = 0
theorem shlf {t P : Nat} (ht : t < 64) (hP : P = 2 ^ t) : IntKind.u64.wrap ((2 : Int) ^ min (IntKind.u64.wrap (t : Int)).toNat 64) = (P : Int) := by
  rw [Bt.wrapU (show t < Bt.top by unfold Bt.top; omega), Int.toNat_natCast, Nat.min_eq_left (by omega), hP]
  have e : ((2 : Int) ^ t) = ((2 ^ t : Nat) : Int) := by rw [Int.natCast_pow]; rfl
  rw [e, Bt.wrapU (Bt.lt_pow ht)]
theorem shrf {M t : Nat} (hM : M < Bt.top) (ht : t < 64) (hb : M.testBit t = false) : Go.bits .and .u64 ((M : Int) / (2 : Int) ^ min (IntKind.u64.wrap (t : Int)).toNat 64) 1 = 0 := by
  rw [Bt.wrapU (show t < Bt.top by unfold Bt.top; omega), Int.toNat_natCast, Nat.min_eq_left (by omega)]
  have e : ((2 : Int) ^ t) = ((2 ^ t : Nat) : Int) := by rw [Int.natCast_pow]; rfl
  rw [e, show (M : Int) / ((2 ^ t : Nat) : Int) = ((M / 2 ^ t : Nat) : Int) from rfl, show (1 : Int) = ((1 : Nat) : Int) from rfl, Bt.and_nat (Nat.lt_of_le_of_lt (Nat.div_le_self _ _) hM) (by decide), Nat.and_one_is_mod]
  rw [Nat.testBit_eq_decide_div_mod_eq] at hb
  have := of_decide_eq_false hb
  omega
theorem metS_top (Z A : Pa) : metS Z A < Bt.top := Gs.setOf_top _ (by decide)
theorem metS_self (Z : Pa) : metS Z Z = 0 := by
  apply Nat.eq_of_testBit_eq
  intro i
  unfold metS
  rw [Gs.tb_setOf, Nat.zero_testBit]
  cases inB Z i <;> simp
theorem metS_out {Z A C : Pa} (hs : Sub Z A) {t : Nat} (ht : t < 64) (hin : inB A t = true) (hC : ∀ k, k < 64 → inB C k = if k = t then false else inB A k) : metS Z C = metS Z A ||| 2 ^ t := by
  apply Nat.eq_of_testBit_eq
  intro i
  unfold metS
  rw [Bt.tb_or, Bt.tb_pow, Gs.tb_setOf, Gs.tb_setOf]
  by_cases hi : i < 64
  · rw [decide_eq_true hi, hC i hi]
    by_cases e : i = t
    · subst e
      rw [if_pos rfl, hs i hi hin, decide_eq_true rfl]
      simp
    · rw [if_neg e, decide_eq_false (fun z => e z.symm)]
      simp
  · rw [decide_eq_false hi, decide_eq_false (show ¬ t = i by omega)]
    simp
theorem metS_bit {Z A : Pa} {t : Nat} (hin : inB A t = true) : (metS Z A).testBit t = false := by
  unfold metS
  rw [Gs.tb_setOf, hin]
  simp
theorem sub_out {Z A C : Pa} (hs : Sub Z A) {t : Nat} (hC : ∀ k, k < 64 → inB C k = if k = t then false else inB A k) : Sub Z C := by
  intro k hk h
  rw [hC k hk] at h
  split at h
  · cases h
  · exact hs k hk h
theorem inB_up {A C : Pa} {t : Nat} (hw : ∀ k, C.wh k = if k = t then 0 else A.wh k) : ∀ k, k < 64 → inB C k = if k = t then false else inB A k := by
  intro k hk
  unfold inB
  rw [hw]
  split
  · rfl
  · rfl
theorem leave_step {Z A : Pa} (h : Inv A) (hs : Sub Z A) {i : Nat} (hi : i < A.n) (h0 : 0 ≤ on A (i : Int)) :
    ∃ t : Nat, on A (i : Int) = (t : Int) ∧ t < 64 ∧ metS Z (leaveA A (i : Int)) = metS Z A ||| 2 ^ t ∧ Sub Z (leaveA A (i : Int)) ∧ (∀ j, (leaveA A (i : Int)).runs j = if j = i then 0 else A.runs j) ∧ (leaveA A (i : Int)).n = A.n := by
  obtain ⟨i', u, e, hi', ho, hu, hr, hw⟩ := h.on_wh h0
  have e' : i' = i := by omega
  subst e'
  have hl : leaveA A (i' : Int) = { A with runs := up A.runs i' 0, wh := up A.wh u 0 } := by
    unfold leaveA
    rw [if_pos h0, ho, Int.toNat_natCast, Int.toNat_natCast]
  have hC := inB_up (A := A) (C := leaveA A (i' : Int)) (t := u) (fun k => by rw [hl]; rfl)
  have hin : inB A u = true := by unfold inB; rw [hw]; rfl
  exact ⟨u, ho, hu, metS_out hs hu hin hC, sub_out hs hC, fun j => by rw [hl]; rfl, by rw [hl]⟩
theorem leave_none {A : Pa} {i : Nat} (h0 : ¬ 0 ≤ on A (i : Int)) : leaveA A (i : Int) = A := if_neg h0
theorem on_in {A : Pa} {i : Nat} (hi : i < A.n) : on A (i : Int) = A.runs i - 1 := by
  unfold on
  rw [if_pos (by omega), Int.toNat_natCast]
/-- A worker fetches one, and leaves it. -/
theorem fetch_step {Z A : Pa} (h : Inv A) (hs : Sub Z A) (hid : Idle A) {i : Nat} (hi : i < A.n) (d : Int) :
    (fetchA A (i : Int) d = (A, -1, 0) ∧ (A.own i).length = 0 ∧ A.gl.length = 0) ∨
    ∃ (B : Pa) (t : Nat) (f : Int), fetchA A (i : Int) d = (B, (t : Int), f) ∧ (0 < f ∧ f ≤ 3) ∧ t < 64 ∧ Inv B ∧ on B (i : Int) = (t : Int) ∧ B.n = A.n ∧ (metS Z A).testBit t = false ∧ metS Z (leaveA B (i : Int)) = metS Z A ||| 2 ^ t ∧ Sub Z (leaveA B (i : Int)) ∧ Inv (leaveA B (i : Int)) ∧ Idle (leaveA B (i : Int)) ∧ (leaveA B (i : Int)).n = A.n ∧ tot (leaveA B (i : Int)) + 1 = tot A := by
  rcases fetch_spec h hi (hid i hi) d with e | ⟨B, t, f, e, hf, ht, hw, hB, hn, hr, hwh, htot, _⟩
  · exact .inl e
  · have hin : inB A t = true := by unfold inB; rcases hw with hw | hw <;> rw [hw] <;> rfl
    have hon : on B (i : Int) = (t : Int) := by rw [on_in (by omega), hr, up_same]; omega
    have hl : leaveA B (i : Int) = { B with runs := up B.runs i 0, wh := up B.wh t 0 } := by
      unfold leaveA
      rw [if_pos (by omega), hon, Int.toNat_natCast, Int.toNat_natCast]
    have hC := inB_up (A := A) (C := leaveA B (i : Int)) (t := t) (fun k => by
      rw [hl]
      show up B.wh t 0 k = _
      rw [hwh]
      unfold up
      split
      · rfl
      · rfl)
    refine .inr ⟨B, t, f, e, hf, ht, hB, hon, hn, metS_bit hin, metS_out hs ht hin hC, sub_out hs hC, hB.leave _, fun j hj => ?_, by rw [hl]; exact hn, by rw [hl]; exact htot⟩
    rw [hl] at hj ⊢
    show up B.runs i 0 j = 0
    rw [hr]
    unfold up
    split
    · rfl
    · exact hid j (by have h1 : j < B.n := hj; omega)
theorem tot_zero {A : Pa} (ho : ∀ j, j < A.n → (A.own j).length = 0) (hg : A.gl.length = 0) : tot A = 0 := by
  unfold tot
  rw [hg, sumN_congr (g := fun _ => 0) ho, sumN_zero]
theorem fetch_tot {A : Pa} (ho : tot A = 0) {i : Nat} (hi : i < A.n) : (A.own i).length = 0 ∧ A.gl.length = 0 := by
  unfold tot at ho
  exact ⟨sumN_eq_zero (f := fun i => (A.own i).length) (by omega) hi, by omega⟩
/-- Nobody is left. -/
theorem none_left {A : Pa} (h : Inv A) (hid : Idle A) (ht : tot A = 0) : ∀ t, t < 64 → inB A t = false := by
  intro t ht64
  have hg : A.gl = [] := List.eq_nil_of_length_eq_zero (fetch_tot ht h.pos).2
  have hO : cO A (t : Int) = 0 := by
    unfold cO
    rw [sumN_congr (g := fun _ => 0) (fun i hi => by rw [List.eq_nil_of_length_eq_zero (fetch_tot ht hi).1]; rfl), sumN_zero]
  have hG : cG A (t : Int) = 0 := by unfold cG; rw [hg]; rfl
  have hR : cR A (t : Int) = 0 := by
    unfold cR
    rw [sumN_congr (g := fun _ => 0) (fun i hi => by rw [hid i hi, if_neg (by omega)]), sumN_zero]
  rw [h.o] at hO
  rw [h.g] at hG
  rw [h.r _ (by omega)] at hR
  have rgt : rg (t : Int) := ⟨by omega, by omega⟩
  unfold at2 at hO hG hR
  rw [Int.toNat_natCast] at hO hG hR
  have h1 : A.wh t ≠ 1 := fun e => by rw [if_pos ⟨rgt, e⟩] at hR; cases hR
  have h2 : A.wh t ≠ 2 := fun e => by rw [if_pos ⟨rgt, e⟩] at hO; cases hO
  have h3 : A.wh t ≠ 3 := fun e => by rw [if_pos ⟨rgt, e⟩] at hG; cases hG
  have := h.wh t ht64
  unfold inB
  rw [decide_eq_false (by omega)]
theorem met_all {Z A : Pa} (h : ∀ t, t < 64 → inB A t = false) : metS Z A = allS Z ∧ allS A = 0 := by
  constructor
  · apply Nat.eq_of_testBit_eq
    intro i
    unfold metS allS
    rw [Gs.tb_setOf, Gs.tb_setOf]
    by_cases hi : i < 64
    · rw [h i hi]; simp
    · rw [decide_eq_false hi]; rfl
  · apply Nat.eq_of_testBit_eq
    intro i
    unfold allS
    rw [Gs.tb_setOf, Nat.zero_testBit]
    by_cases hi : i < 64
    · rw [h i hi]; simp
    · rw [decide_eq_false hi]; rfl
end Go.Proofs.Ytjcjhmnfknenlaa.Pl
