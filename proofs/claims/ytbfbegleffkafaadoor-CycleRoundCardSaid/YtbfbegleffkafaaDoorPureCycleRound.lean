/- CycleRound as plain functions: in a ring each one waits for the next one, the last one for the first, and there is one just if somebody is doomed. Conditions: none. -/
import Derived.Test.YtbfbegleffkafaaDoorPCycleRoundx7
import Derived.Test.YtbfbegleffkafaaDoorCyfCycleRound
namespace Go.Proofs.YtbfbegleffkafaaDoor.Pure
open Go.RowKit Go.Proofs.YtbfbegleffkafaaDoor.PCycleRound Go.Proofs.YtbfbegleffkafaaDoorW.PrintWords Go.Proofs.YtbfbegleffkafaaDoorW.PrintLast
open Gr (Evt sc Bad)
open Ce
set_option linter.unusedVariables false

set_option maxRecDepth 100000 in
theorem lives_at : logjamlaw27_lives.f 90 = some true := by decide +kernel
theorem lives_f : Evt (fun k => logjamlaw27_lives.f k) true := ⟨90, fun k hk => at_rounds logjamlaw27_lives.mono hk lives_at⟩
theorem own_f' (l : List S44) : Evt (fun k => logjamlaw26_Own.f k (own l)) (own l) := by
  have := own_f (own l)
  rwa [own_own] at this
theorem bit_at {D x : Nat} (hD : D < Bt.top) (hx : x < 64) : (Go.bits .and .u64 (shr .u64 (D : Int) (IntKind.u64.wrap (x : Int))) 1) = ((D / 2 ^ x % 2 : Nat) : Int) := by
  rw [Bt.wrapU (Nat.lt_trans hx (by decide))]
  have e : shr .u64 (D : Int) (x : Int) = ((D / 2 ^ x : Nat) : Int) := by
    unfold shr
    rw [Int.toNat_natCast, Nat.min_eq_left (by simp [IntKind.bits]; omega)]
    simp
  rw [e]
  have := Bt.and_nat (a := D / 2 ^ x) (b := 1) (Nat.lt_of_le_of_lt (Nat.div_le_self _ _) hD) (by decide)
  rw [Nat.and_one_is_mod] at this
  exact this
section
variable {m : List S44} {r : List Nat} {v : Bool} {D : Nat} {ok : Bool}
theorem l1_ev {i : Nat} {ys : List Nat} (hD : D < Bt.top) (hi : i < r.length) (hr : r.length ≤ 64) (hy : ys.length < 1000000) (h64 : r.getD i 0 < 64) (hbit : D.testBit (r.getD i 0) = true)
    (hv : Evt (fun k => logjamlaw27_CycleRound.l0 k m (Cy.ints r) (D : Int) ok ((i + 1 : Nat) : Int)) v) :
    ∀ d j b, j + d = ys.length → (b = true ∨ ∃ p, j ≤ p ∧ p < ys.length ∧ ys.getD p 0 = r.getD ((i + 1) % r.length) 0) → Evt (fun k => logjamlaw27_CycleRound.l1 k m (Cy.ints r) (D : Int) ok (i : Int) (Cy.ints ys) b (j : Int)) v := by
  have hlen := ints_len ys
  have hlr := ints_len r
  have hg : r.getD i 0 = r[i] := by rw [List.getD_eq_getElem?_getD, List.getElem?_eq_getElem hi]; rfl
  intro d
  induction d with
  | zero =>
    intro j b hj hb
    have hbt : b = true := by
      rcases hb with q | ⟨q, h1, h2, _⟩
      · exact q
      · omega
    subst hbt
    refine Evt.step (fun k => ?_) hv
    simp only [logjamlaw27_CycleRound.l1]
    rw [if_neg (by omega), if_pos trivial, if_pos (by omega), if_pos (by omega), rd_ints hi, ← hg, if_neg (by omega), if_neg (by omega), bit_at hD h64, if_pos (by rw [Bt.wrapU (Nat.lt_trans h64 (by decide))]; omega)]
    have : D / 2 ^ r.getD i 0 % 2 = 1 := by
      rw [Nat.testBit_eq_decide_div_mod_eq, decide_eq_true_iff] at hbit
      exact hbit
    rw [this, if_neg (by decide), wr (by omega)]
  | succ d ih =>
    intro j b hj hb
    have hjl : j < ys.length := by omega
    cases b with
    | true =>
      refine Evt.step (fun k => ?_) (ih (j + 1) true (by omega) (.inl rfl))
      simp only [logjamlaw27_CycleRound.l1]
      rw [if_pos (by omega), if_pos trivial, wr (by omega)]
    | false =>
      have hmod : (i + 1) % r.length < r.length := Nat.mod_lt _ (by omega)
      have e : Int.tmod (wrap64 ((i : Int) + 1)) ((Cy.ints r).length : Int) = (((i + 1) % r.length : Nat) : Int) := by
        rw [wr (by omega), hlr]
        exact (Int.ofNat_tmod _ _).symm
      obtain ⟨q, hq⟩ : ∃ q, q = (i + 1) % r.length := ⟨_, rfl⟩
      rw [← hq] at hmod e hb ih
      clear hq
      have hgm : r.getD q 0 = r[q] := by rw [List.getD_eq_getElem?_getD, List.getElem?_eq_getElem hmod]; rfl
      have hgj : ys.getD j 0 = ys[j] := by rw [List.getD_eq_getElem?_getD, List.getElem?_eq_getElem hjl]; rfl
      have hb2 : (((ys[j] : Nat) : Int) == ((r[q] : Nat) : Int)) = true ∨ ∃ p, j + 1 ≤ p ∧ p < ys.length ∧ ys.getD p 0 = r.getD q 0 := by
        rcases hb with z | ⟨p, h1, h2, h3⟩
        · cases z
        · by_cases e : p = j
          · left
            rw [e, hgj, hgm] at h3
            rw [h3]
            simp
          · exact .inr ⟨p, by omega, h2, h3⟩
      have h2 := ih (j + 1) (((ys[j] : Nat) : Int) == ((r[q] : Nat) : Int)) (by omega) hb2
      refine Evt.step (fun k => ?_) h2
      simp only [logjamlaw27_CycleRound.l1, e]
      rw [if_pos (by omega), if_neg (by decide), if_pos (by omega), if_neg (by omega), if_pos (by omega), if_pos (by omega), rd_ints hjl, rd_ints hmod, wr (by omega)]
end
theorem l0_ev {m : List S44} {r : List Nat} (hs : Small m) (hp : pureB m = true) (hoo : Evt (fun k => logjamlaw26_Own.f k m) m) (hr : dmd m ≠ 0 → Ringly (l := m) r) (h0 : dmd m = 0 → r = []) (hrl : r.length ≤ 64) :
    ∀ d i, i + d = r.length → Evt (fun k => logjamlaw27_CycleRound.l0 k m (Cy.ints r) ((dmd m : Nat) : Int) true (i : Int)) true := by
  have h70 : m.length ≤ 1000000 := by have := pure_len hp; omega
  have hlr := ints_len r
  intro d
  induction d with
  | zero =>
    intro i hi
    refine Evt.step (g := fun k => (logjamref27_Pure.f k m).bind fun t283 => if (true == t283) = true then (if ((decide (((Cy.ints r).length : Int) > 0)) == (((dmd m : Nat) : Int) != 0)) = true then ((logjamlaw27_lives.f k).bind fun t284 => some t284) else some false) else some false) (fun k => ?_) ?_
    · simp only [logjamlaw27_CycleRound.l0]
      rw [if_neg (by omega)]
      rfl
    refine Evt.bind (rpure_f hs h70) (g := fun k t283 => if (true == t283) = true then (if ((decide (((Cy.ints r).length : Int) > 0)) == (((dmd m : Nat) : Int) != 0)) = true then ((logjamlaw27_lives.f k).bind fun t284 => some t284) else some false) else some false) ?_
    rw [hp]
    refine Evt.of (fun k => if_pos rfl) ?_
    have e : ((decide (((Cy.ints r).length : Int) > 0)) == (((dmd m : Nat) : Int) != 0)) = true := by
      rw [hlr]
      by_cases c : dmd m = 0
      · rw [h0 c, c]; rfl
      · have := List.length_pos_iff.2 (hr c).ne
        have e1 : decide ((r.length : Int) > 0) = true := by simp; omega
        have e2 : (((dmd m : Nat) : Int) != 0) = true := by rw [bne_iff_ne]; omega
        rw [e1, e2]; rfl
    refine Evt.of (fun k => if_pos e) ?_
    exact Evt.bind lives_f (g := fun _ t => some t) (Evt.const fun _ => rfl)
  | succ d ih =>
    intro i hi
    have hil : i < r.length := by omega
    have hD0 : dmd m ≠ 0 := fun c => by rw [h0 c] at hil; simp at hil
    have hR := hr hD0
    have hg : r.getD i 0 = r[i] := by rw [List.getD_eq_getElem?_getD, List.getElem?_eq_getElem hil]; rfl
    have hbad : Bad (gr m) (r.getD i 0) := by rw [hg]; exact hR.bad _ (List.getElem_mem hil)
    have hstep := hR.step i hil
    obtain ⟨q, hq, hqe⟩ := List.getElem_of_mem hstep
    have h2 := l1_ev (m := m) (r := r) (ok := true) (ys := sc (gr m) (r.getD i 0)) (dmd_lt hp) hil hrl (sc_short hs hp _) (bad_64 hp hbad) ((dmd_iff hp _).2 hbad) (ih (i + 1) (by omega)) _ 0 false (Nat.zero_add _) (.inr ⟨q, Nat.zero_le _, hq, by rw [List.getD_eq_getElem?_getD, List.getElem?_eq_getElem hq]; exact hqe⟩)
    have h3 := Next_f hs h70 hp (r[i] : Int)
    rw [nx_eq hp, ← hg] at h3
    refine Evt.step (g := fun k => (logjamlaw26_Own.f k m).bind fun t286 => (cycle_Next.f k t286 ((r.getD i 0 : Nat) : Int)).bind fun t290 => logjamlaw27_CycleRound.l1 k m (Cy.ints r) ((dmd m : Nat) : Int) true (i : Int) t290 false 0) (fun k => ?_) ?_
    · simp only [logjamlaw27_CycleRound.l0]
      rw [if_pos (by omega), rd_ints hil, hg]
      congr 1
      try (funext t; rw [if_pos (by omega)])
    refine Evt.bind hoo (g := fun k t286 => (cycle_Next.f k t286 ((r.getD i 0 : Nat) : Int)).bind fun t290 => logjamlaw27_CycleRound.l1 k m (Cy.ints r) ((dmd m : Nat) : Int) true (i : Int) t290 false 0) ?_
    exact Evt.bind h3 (g := fun k t290 => logjamlaw27_CycleRound.l1 k m (Cy.ints r) ((dmd m : Nat) : Int) true (i : Int) t290 false 0) h2
theorem ends (l : List S44) : Evt (fun k => logjamlaw27_CycleRound.f k l) true := by
  obtain ⟨m, hm⟩ : ∃ m, m = own l := ⟨_, rfl⟩
  have ho := own_f l
  have hoo := own_f' l
  have hs := small_own l
  have h70 : m.length ≤ 1000000 := by have := own_len l; rw [hm]; omega
  rw [← hm] at ho hoo hs
  clear hm
  refine Evt.of (fun k => rfl) (Evt.bind ho (g := fun k t269 => (logjamlaw26_Own.f k t269).bind fun t272 => (cycle_Ring.f k t272).bind fun t275 => (logjamlaw26_Own.f k t269).bind fun t278 => (cycle_Doomed.f k t278).bind fun bt281 => logjamlaw27_CycleRound.l0 k t269 t275 bt281.1 bt281.2 0) ?_)
  refine Evt.bind hoo (g := fun k t272 => (cycle_Ring.f k t272).bind fun t275 => (logjamlaw26_Own.f k m).bind fun t278 => (cycle_Doomed.f k t278).bind fun bt281 => logjamlaw27_CycleRound.l0 k m t275 bt281.1 bt281.2 0) ?_
  have hd := Doomed_f hs h70
  cases hp : pureB m with
  | false =>
    rw [if_neg (by rw [hp]; decide)] at hd
    refine Evt.bind (Ring_none hs h70 hp) (g := fun k t275 => (logjamlaw26_Own.f k m).bind fun t278 => (cycle_Doomed.f k t278).bind fun bt281 => logjamlaw27_CycleRound.l0 k m t275 bt281.1 bt281.2 0) ?_
    refine Evt.bind hoo (g := fun k t278 => (cycle_Doomed.f k t278).bind fun bt281 => logjamlaw27_CycleRound.l0 k m [] bt281.1 bt281.2 0) ?_
    refine Evt.bind hd (g := fun k (bt281 : Int × Bool) => logjamlaw27_CycleRound.l0 k m [] bt281.1 bt281.2 0) ?_
    refine Evt.step (g := fun k => (logjamref27_Pure.f k m).bind fun t283 => if (false == t283) = true then ((logjamlaw27_lives.f k).bind fun t285 => some t285) else some false) (fun k => ?_) ?_
    · simp only [logjamlaw27_CycleRound.l0]
      rw [if_neg (by decide)]
      congr 1
    refine Evt.bind (rpure_f hs h70) (g := fun k t283 => if (false == t283) = true then ((logjamlaw27_lives.f k).bind fun t285 => some t285) else some false) ?_
    rw [hp]
    refine Evt.of (fun k => if_pos rfl) ?_
    exact Evt.bind lives_f (g := fun _ t => some t) (Evt.const fun _ => rfl)
  | true =>
    rw [if_pos hp] at hd
    obtain ⟨r, h1, h2, h3, h4⟩ := ring_prog hs hp
    refine Evt.bind h1 (g := fun k t275 => (logjamlaw26_Own.f k m).bind fun t278 => (cycle_Doomed.f k t278).bind fun bt281 => logjamlaw27_CycleRound.l0 k m t275 bt281.1 bt281.2 0) ?_
    refine Evt.bind hoo (g := fun k t278 => (cycle_Doomed.f k t278).bind fun bt281 => logjamlaw27_CycleRound.l0 k m (Cy.ints r) bt281.1 bt281.2 0) ?_
    refine Evt.bind hd (g := fun k (bt281 : Int × Bool) => logjamlaw27_CycleRound.l0 k m (Cy.ints r) bt281.1 bt281.2 0) ?_
    exact l0_ev hs hp hoo (fun h => (h3 h).1) h2 h4 r.length 0 (by omega)
theorem CycleRound : logjamlaw27_CycleRound.Pure := by
  intro l _
  obtain ⟨K, h⟩ := ends l
  exact ⟨K, h K (Nat.le_refl _)⟩

end Go.Proofs.YtbfbegleffkafaaDoor.Pure
