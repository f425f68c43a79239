/- Places: Ready. Conditions: none. -/
import Derived.Test.YtjcjhmnfknenlaaPl3
namespace Go.Proofs.Ytjcjhmnfknenlaa.Pl
open Go.RowKit Go.Proofs.YtjcjhmnfknenlaaW.PrintWords Go.Proofs.YtjcjhmnfknenlaaW.PrintLast Go.Proofs.YtjcjhmnfknenlaaW.PrintMore
open Rg (Chg Row row_back row_popback row_popfront row_all row_new row_clone two refDo)
set_option linter.unusedVariables false
set_option linter.unusedSimpArgs false

section
variable {S : Nat → Prop} {W W' : World} {gp bl cl : Nat} {A : Pa} {ex : List Value} {r : Nat → Rk} {q : Rk}
theorem ref_room {l : List Int} {cap : Nat} (x : Int) (h : l.length < cap) : refDo l cap 0 x = (l ++ [x], 0, true) := by
  unfold refDo
  rw [if_pos rfl, if_neg (by omega)]
theorem ref_full {l : List Int} {cap : Nat} (x : Int) (h : ¬ l.length < cap) : refDo l cap 0 x = (l, 0, false) := by
  unfold refDo
  rw [if_pos rfl, if_pos (by omega)]
set_option maxHeartbeats 4000000 in
set_option maxRecDepth 100000 in
theorem ready_any (h : At S W gp A bl cl ex r q) (hk : Ok A) (x t : Int) : Calls Try.prog 22 #[.pointer (some ⟨gp, 0, none⟩), .int .i64 x, .int .i64 t] W fun e w' => e = .returned (.bool (readyB A x t)) ∧ At S w' gp (readyA A x t) bl cl ex r q ∧ Chg S W w' := by
  have hu57 := Try.underlying57
  have hu54 := Try.underlying54
  have hu59 := Try.underlying59
  by_cases hx : x < 0 ∨ (A.n : Int) ≤ x
  · have HB := Aside0.mk (show readyB A x t = false from by
      unfold readyB
      rcases hx with hx | hx
      · rw [decide_eq_false (show ¬ 0 ≤ x by omega)]; rfl
      · rw [decide_eq_false (show ¬ x < (A.n : Int) by omega)]; simp)
    have HV := Aside0.mk (show readyA A x t = A from if_neg (by rw [HB.out]; decide))
    rw [HB.out, HV.out]
    have HC := Aside0.mk (at_out h x hx)
    have HA := Aside0.mk h
    clear h hk hx HB HV
    go_enter Try.func22, Try.ntmps22
    go_wp2_with (go_at_call 29; (refine HC.out.mono ?_); rintro e w1 ⟨rfl, rfl⟩)
    go_ret
    exact ⟨rfl, HA.out, Chg.refl _ _⟩
  · obtain ⟨i, rfl⟩ : ∃ i : Nat, x = (i : Int) := ⟨x.toNat, by omega⟩
    have hi : i < A.n := by omega
    have HI := Aside0.mk hi
    have HC := Aside0.mk (at_in h hi)
    have HA := Aside0.mk h
    by_cases ht : 0 ≤ t ∧ t < 64
    · obtain ⟨u, rfl⟩ : ∃ u : Nat, t = (u : Int) := ⟨t.toNat, by omega⟩
      have HT := Aside0.mk (show u < 64 from by omega)
      have e1 : readyB A (i : Int) (u : Int) = decide (A.wh u = 0) := by
        unfold readyB
        rw [decide_eq_true (show 0 ≤ (i : Int) by omega), decide_eq_true (show (i : Int) < (A.n : Int) by omega), decide_eq_true ht.1, decide_eq_true ht.2, Int.toNat_natCast]
        rfl
      have d0 : decide ((u : Int) < 0) = false := decide_eq_false (by omega)
      have d1 : decide ((64 : Int) ≤ (u : Int)) = false := decide_eq_false (by omega)
      have d2 : decide (64 ≤ u) = false := decide_eq_false (by omega)
      have p1 : (0 ≤ (i : Int)) = True := eq_true (by omega)
      have p2 : ((i : Int) < (A.n : Int)) = True := eq_true (by omega)
      have p3 : (0 ≤ (u : Int)) = True := eq_true (by omega)
      have p4 : ((u : Int) < 64) = True := eq_true (by omega)
      have cw := h.cw HT.out
      by_cases hw : A.wh u = 0
      · have HB := Aside0.mk (show readyB A (i : Int) (u : Int) = true from by rw [e1, decide_eq_true hw])
        rw [hw] at cw
        have w2 := h.w2 hi
        have HRB := Aside0.mk (row_back (h.own i hi) (u : Int))
        by_cases hroom : (A.own i).length < 16
        · have HV := Aside0.mk (show readyA A (i : Int) (u : Int) = { A with own := up A.own i (A.own i ++ [(u : Int)]), wh := up A.wh u 2 } from by unfold readyA; rw [if_pos HB.out, Int.toNat_natCast, Int.toNat_natCast, if_pos hroom])
          rw [HB.out, HV.out]
          rw [ref_room (u : Int) hroom] at HRB
          clear h hk hx HB HV ht e1 hw hi hroom
          go_enter Try.func22, Try.ntmps22
          go_upto_region 5 with (first
            | (go_at_call 29; (refine HC.out.mono ?_); rintro e w1 ⟨rfl, rfl⟩)
            | (go_at_call 43; (refine HRB.out.mono ?_); rintro e w3 ⟨rfl, hc, hr⟩; have HA2 := Aside0.mk (HA.out.turnOwn HI.out hc hr); have HC2 := Aside0.mk (HA.out.chgOwn HI.out hc); clear hc hr))
          clear cw w2
          have cw := HA2.out.cw HT.out
          have fz := blk_frozen HA2.out.hg (2 + u)
          go_wp2
          go_ret
          exact ⟨rfl, HA2.out.setWh HT.out 2, HC2.out.set_ (Or.inl HA.out.s.1) _⟩
        · have HV := Aside0.mk (show readyA A (i : Int) (u : Int) = { A with gl := backGl A (u : Int), wh := up A.wh u 3 } from by unfold readyA; rw [if_pos HB.out, Int.toNat_natCast, Int.toNat_natCast, if_neg hroom])
          rw [HB.out, HV.out]
          rw [ref_full (u : Int) hroom] at HRB
          clear h hk hx HB HV ht e1 hw hi hroom
          go_enter Try.func22, Try.ntmps22
          go_upto_region 6 with (first
            | (go_at_call 29; (refine HC.out.mono ?_); rintro e w1 ⟨rfl, rfl⟩)
            | (go_at_call 43; (refine HRB.out.mono ?_); rintro e w3 ⟨rfl, hc, hr⟩; have HA2 := Aside0.mk (show At S w3 gp A bl cl ex r q from by have h1 := HA.out.turnOwn HI.out hc hr; rw [up_self] at h1; exact h1); have HC2 := Aside0.mk (HA.out.chgOwn HI.out hc); clear hc hr))
          clear cw w2
          have c1 := HA2.out.c1
          have HRG := Aside0.mk (row_back HA2.out.glob (u : Int))
          go_upto_region 7 with (go_at_call 43; (refine HRG.out.mono ?_); rintro e w4 ⟨rfl, hc, hr⟩; have HA3 := Aside0.mk (HA2.out.turnGl hc hr); have HC3 := Aside0.mk (HC2.out.trans (HA2.out.chgGl hc)); clear hc hr)
          clear c1
          have cw := HA3.out.cw HT.out
          have fz := blk_frozen HA3.out.hg (2 + u)
          go_wp2
          go_ret
          exact ⟨rfl, HA3.out.setWh HT.out 3, HC3.out.set_ (Or.inl HA.out.s.1) _⟩
      · have HB := Aside0.mk (show readyB A (i : Int) (u : Int) = false from by rw [e1, decide_eq_false hw])
        have HV := Aside0.mk (show readyA A (i : Int) (u : Int) = A from if_neg (by rw [HB.out]; decide))
        rw [HB.out, HV.out]
        have d5 : (A.wh u != 0) = true := bne_iff_ne.2 hw
        clear h hk hx HB HV ht e1 hw hi
        go_enter Try.func22, Try.ntmps22
        go_wp2_with (go_at_call 29; (refine HC.out.mono ?_); rintro e w1 ⟨rfl, rfl⟩)
        go_ret
        exact ⟨rfl, HA.out, Chg.refl _ _⟩
    · have HB := Aside0.mk (show readyB A (i : Int) t = false from by
        unfold readyB
        by_cases h0 : 0 ≤ t
        · rw [decide_eq_false (show ¬ t < 64 by omega)]; simp
        · rw [decide_eq_false h0]; simp)
      have HV := Aside0.mk (show readyA A (i : Int) t = A from if_neg (by rw [HB.out]; decide))
      rw [HB.out, HV.out]
      clear h hk hx HB HV hi
      by_cases h0 : t < 0
      · have d0 : decide (t < 0) = true := decide_eq_true h0
        clear ht
        go_enter Try.func22, Try.ntmps22
        go_wp2_with (go_at_call 29; (refine HC.out.mono ?_); rintro e w1 ⟨rfl, rfl⟩)
        go_ret
        exact ⟨rfl, HA.out, Chg.refl _ _⟩
      · have d0 : decide (t < 0) = false := decide_eq_false h0
        have d1 : decide ((64 : Int) ≤ t) = true := decide_eq_true (by omega)
        clear ht
        go_enter Try.func22, Try.ntmps22
        go_wp2_with (go_at_call 29; (refine HC.out.mono ?_); rintro e w1 ⟨rfl, rfl⟩)
        go_ret
        exact ⟨rfl, HA.out, Chg.refl _ _⟩
end
end Go.Proofs.Ytjcjhmnfknenlaa.Pl
