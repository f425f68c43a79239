/- The law's call of a row with two ends; the page's call of a list. Conditions: the row lies in memory of its own. -/
import Derived.Test.YtbnkanlfepdlkaaRing5
namespace Go.Proofs.Ytbnkanlfepdlkaa.Rg
open Go.RowKit Go.Proofs.YtbnkanlfepdlkaaW.PrintWords Go.Proofs.YtbnkanlfepdlkaaW.PrintLast Go.Proofs.YtbnkanlfepdlkaaW.PrintMore Ap
set_option linter.unusedSimpArgs false
set_option linter.unusedVariables false
section
variable {W : World} {g b c cap : Nat} {ex : List Value} {l : List Int}

theorem chg_alloc {S : Nat → Prop} {W W' : World} {o : Obj} (h : Chg S (W.alloc o) W') : Chg S W W' := ((Chg.refl S W).alloc o).trans h

theorem do_any (h : Row W g b c ex cap l) (kd x : Int) :
    Calls Try.prog 31 #[.pointer (some ⟨g, 0, none⟩), .agg #[.int .i64 kd, .int .i64 x]] W fun e w' =>
      e = .returned (.tuple #[.int .i64 (refDo l cap kd x).2.1, .bool (refDo l cap kd x).2.2]) ∧ Chg (two g b) W w' ∧ Row w' g b c ex cap (refDo l cap kd x).1 := by
  have hA := fun o => h.below (below_alloc (Below.refl _ _) o)
  have e0 : kd ≠ 0 → (kd == 0) = false := fun q => beq_eq_false_iff_ne.2 q
  have e1 : kd ≠ 1 → (kd == 1) = false := fun q => beq_eq_false_iff_ne.2 q
  have e2 : kd ≠ 2 → (kd == 2) = false := fun q => beq_eq_false_iff_ne.2 q
  have e3 : kd ≠ 3 → (kd == 3) = false := fun q => beq_eq_false_iff_ne.2 q
  by_cases k0 : kd = 0
  · subst k0
    go_enter Try.func31, Try.ntmps31
    go_wp2_with (go_at_call 25; refine (row_back (hA _) x).mono ?_; rintro e w' ⟨rfl, hc, hr⟩)
    go_ret2
    exact ⟨by simp [refDo]; split <;> rfl, chg_alloc hc, hr⟩
  have f0 := e0 k0
  by_cases k1 : kd = 1
  · subst k1
    go_enter Try.func31, Try.ntmps31
    go_wp2_with (go_at_call 27; refine (row_front (hA _) x).mono ?_; rintro e w' ⟨rfl, hc, hr⟩)
    go_ret2
    exact ⟨by simp [refDo]; split <;> rfl, chg_alloc hc, hr⟩
  have f1 := e1 k1
  by_cases k2 : kd = 2
  · subst k2
    have q : refDo l cap 2 x = refDo l cap 2 0 := by simp [refDo]
    rw [q]
    go_enter Try.func31, Try.ntmps31
    go_wp2_with (go_at_call 28; refine (row_popback (hA _)).mono ?_; rintro e w' ⟨rfl, hc, hr⟩)
    go_ret2
    exact ⟨rfl, chg_alloc hc, hr⟩
  have f2 := e2 k2
  by_cases k3 : kd = 3
  · subst k3
    have q : refDo l cap 3 x = refDo l cap 3 0 := by simp [refDo]
    rw [q]
    go_enter Try.func31, Try.ntmps31
    go_wp2_with (go_at_call 26; refine (row_popfront (hA _)).mono ?_; rintro e w' ⟨rfl, hc, hr⟩)
    go_ret2
    exact ⟨rfl, chg_alloc hc, hr⟩
  have f3 := e3 k3
  have q : refDo l cap kd x = refDo l cap 4 x := by simp [refDo, k0, k1, k2, k3]
  rw [q]
  go_enter Try.func31, Try.ntmps31
  go_wp2_with (go_at_call 37; refine (row_at (hA _) x).mono ?_; rintro e w' ⟨rfl, hc, hr⟩)
  go_ret2
  exact ⟨rfl, chg_alloc hc, hr⟩
end
end Go.Proofs.Ytbnkanlfepdlkaa.Rg
