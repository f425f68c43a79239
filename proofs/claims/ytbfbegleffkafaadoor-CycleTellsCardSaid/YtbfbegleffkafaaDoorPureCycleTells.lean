/- CycleTells as plain functions: which graphs are pure, who waits for whom, who is doomed, and the ring, are the page's own. Conditions: none. -/
import Derived.Test.YtbfbegleffkafaaDoorPCycleTellsx8
import Derived.Test.YtbfbegleffkafaaDoorCyfCycleTells
namespace Go.Proofs.YtbfbegleffkafaaDoor.Pure
open Go.RowKit Go.Proofs.YtbfbegleffkafaaDoor.PCycleTells Go.Proofs.YtbfbegleffkafaaDoorW.PrintWords Go.Proofs.YtbfbegleffkafaaDoorW.PrintLast
open Gr (Evt)
open Ce
set_option linter.unusedVariables false

theorem same_ev (a : List Int) (hn : a.length < 1000000) : ∀ d i, i + d = a.length → Evt (fun k => logjamlaw27_same.l0 k a a (i : Int)) true := by
  intro d
  induction d with
  | zero =>
    intro i hi
    refine Evt.step (g := fun _ => some true) (fun k => ?_) (Evt.const fun _ => rfl)
    simp only [logjamlaw27_same.l0]
    rw [if_neg (by omega)]
  | succ d ih =>
    intro i hi
    refine Evt.step (fun k => ?_) (ih (i + 1) (by omega))
    simp only [logjamlaw27_same.l0]
    rw [if_pos (by omega), if_pos (by omega), if_pos (by omega), if_pos trivial, wr (by omega)]
theorem same_f (a : List Int) (hn : a.length < 1000000) : Evt (fun k => logjamlaw27_same.f k a a) true := by
  refine Evt.of (fun k => ?_) (same_ev a hn a.length 0 (by omega))
  unfold logjamlaw27_same.f
  rw [if_pos rfl]
  rfl
set_option maxRecDepth 100000 in
theorem lives_at : logjamlaw27_lives.f 90 = some true := by decide +kernel
theorem lives_f : Evt (fun k => logjamlaw27_lives.f k) true := ⟨90, fun k hk => at_rounds logjamlaw27_lives.mono hk lives_at⟩
theorem own_f' (l : List S44) : Evt (fun k => logjamlaw26_Own.f k (own l)) (own l) := by
  have := own_f (own l)
  rwa [own_own] at this
theorem ends (l : List S44) (t : Int) : Evt (fun k => logjamlaw27_CycleTells.f k l t) true := by
  obtain ⟨m, hm⟩ : ∃ m, m = own l := ⟨_, rfl⟩
  have ho := own_f l
  have hoo := own_f' l
  have hs := small_own l
  have h70 : m.length ≤ 1000000 := by have := own_len l; rw [hm]; omega
  rw [← hm] at ho hoo hs
  clear hm
  refine Evt.of (fun k => rfl) (Evt.bind ho (g := fun k t335 => (logjamref27_Pure.f k t335).bind fun t338 => (logjamlaw26_Own.f k t335).bind fun t339 => (cycle_Doomed.f k t339).bind fun bt342 => (logjamlaw26_Own.f k t335).bind fun t344 => (cycle_Ring.f k t344).bind fun t347 => (logjamlaw26_Own.f k t335).bind fun t350 => (cycle_Next.f k t350 t).bind fun t353 => (logjamlaw26_Own.f k t335).bind fun t356 => (cycle_Pure.f k t356).bind fun t359 => if (t359 != t338) = true then logjamlaw27_CycleTells.j0 k t335 t t338 bt342.1 t347 t353 true else logjamlaw27_CycleTells.j0 k t335 t t338 bt342.1 t347 t353 (bt342.2 != t338)) ?_)
  refine Evt.bind (rpure_f hs h70) (g := fun k t338 => (logjamlaw26_Own.f k m).bind fun t339 => (cycle_Doomed.f k t339).bind fun bt342 => (logjamlaw26_Own.f k m).bind fun t344 => (cycle_Ring.f k t344).bind fun t347 => (logjamlaw26_Own.f k m).bind fun t350 => (cycle_Next.f k t350 t).bind fun t353 => (logjamlaw26_Own.f k m).bind fun t356 => (cycle_Pure.f k t356).bind fun t359 => if (t359 != t338) = true then logjamlaw27_CycleTells.j0 k m t t338 bt342.1 t347 t353 true else logjamlaw27_CycleTells.j0 k m t t338 bt342.1 t347 t353 (bt342.2 != t338)) ?_
  have tail : ∀ (d : Int) (ok : Bool) (ring nx : List Int), Evt (fun k => cycle_Doomed.f k m) (d, ok) → Evt (fun k => cycle_Ring.f k m) ring → Evt (fun k => cycle_Next.f k m t) nx → ok = pureB m → Evt (fun k => logjamlaw27_CycleTells.j0 k m t (pureB m) d ring nx false) true →
      Evt (fun k => (logjamlaw26_Own.f k m).bind fun t339 => (cycle_Doomed.f k t339).bind fun bt342 => (logjamlaw26_Own.f k m).bind fun t344 => (cycle_Ring.f k t344).bind fun t347 => (logjamlaw26_Own.f k m).bind fun t350 => (cycle_Next.f k t350 t).bind fun t353 => (logjamlaw26_Own.f k m).bind fun t356 => (cycle_Pure.f k t356).bind fun t359 => if (t359 != pureB m) = true then logjamlaw27_CycleTells.j0 k m t (pureB m) bt342.1 t347 t353 true else logjamlaw27_CycleTells.j0 k m t (pureB m) bt342.1 t347 t353 (bt342.2 != pureB m)) true := by
    intro d ok ring nx h1 h2 h3 h4 h5
    refine Evt.bind hoo (g := fun k t339 => (cycle_Doomed.f k t339).bind fun bt342 => (logjamlaw26_Own.f k m).bind fun t344 => (cycle_Ring.f k t344).bind fun t347 => (logjamlaw26_Own.f k m).bind fun t350 => (cycle_Next.f k t350 t).bind fun t353 => (logjamlaw26_Own.f k m).bind fun t356 => (cycle_Pure.f k t356).bind fun t359 => if (t359 != pureB m) = true then logjamlaw27_CycleTells.j0 k m t (pureB m) bt342.1 t347 t353 true else logjamlaw27_CycleTells.j0 k m t (pureB m) bt342.1 t347 t353 (bt342.2 != pureB m)) ?_
    refine Evt.bind h1 (g := fun k (bt342 : Int × Bool) => (logjamlaw26_Own.f k m).bind fun t344 => (cycle_Ring.f k t344).bind fun t347 => (logjamlaw26_Own.f k m).bind fun t350 => (cycle_Next.f k t350 t).bind fun t353 => (logjamlaw26_Own.f k m).bind fun t356 => (cycle_Pure.f k t356).bind fun t359 => if (t359 != pureB m) = true then logjamlaw27_CycleTells.j0 k m t (pureB m) bt342.1 t347 t353 true else logjamlaw27_CycleTells.j0 k m t (pureB m) bt342.1 t347 t353 (bt342.2 != pureB m)) ?_
    refine Evt.bind hoo (g := fun k t344 => (cycle_Ring.f k t344).bind fun t347 => (logjamlaw26_Own.f k m).bind fun t350 => (cycle_Next.f k t350 t).bind fun t353 => (logjamlaw26_Own.f k m).bind fun t356 => (cycle_Pure.f k t356).bind fun t359 => if (t359 != pureB m) = true then logjamlaw27_CycleTells.j0 k m t (pureB m) d t347 t353 true else logjamlaw27_CycleTells.j0 k m t (pureB m) d t347 t353 (ok != pureB m)) ?_
    refine Evt.bind h2 (g := fun k t347 => (logjamlaw26_Own.f k m).bind fun t350 => (cycle_Next.f k t350 t).bind fun t353 => (logjamlaw26_Own.f k m).bind fun t356 => (cycle_Pure.f k t356).bind fun t359 => if (t359 != pureB m) = true then logjamlaw27_CycleTells.j0 k m t (pureB m) d t347 t353 true else logjamlaw27_CycleTells.j0 k m t (pureB m) d t347 t353 (ok != pureB m)) ?_
    refine Evt.bind hoo (g := fun k t350 => (cycle_Next.f k t350 t).bind fun t353 => (logjamlaw26_Own.f k m).bind fun t356 => (cycle_Pure.f k t356).bind fun t359 => if (t359 != pureB m) = true then logjamlaw27_CycleTells.j0 k m t (pureB m) d ring t353 true else logjamlaw27_CycleTells.j0 k m t (pureB m) d ring t353 (ok != pureB m)) ?_
    refine Evt.bind h3 (g := fun k t353 => (logjamlaw26_Own.f k m).bind fun t356 => (cycle_Pure.f k t356).bind fun t359 => if (t359 != pureB m) = true then logjamlaw27_CycleTells.j0 k m t (pureB m) d ring t353 true else logjamlaw27_CycleTells.j0 k m t (pureB m) d ring t353 (ok != pureB m)) ?_
    refine Evt.bind hoo (g := fun k t356 => (cycle_Pure.f k t356).bind fun t359 => if (t359 != pureB m) = true then logjamlaw27_CycleTells.j0 k m t (pureB m) d ring nx true else logjamlaw27_CycleTells.j0 k m t (pureB m) d ring nx (ok != pureB m)) ?_
    refine Evt.bind (pure_f hs h70) (g := fun k t359 => if (t359 != pureB m) = true then logjamlaw27_CycleTells.j0 k m t (pureB m) d ring nx true else logjamlaw27_CycleTells.j0 k m t (pureB m) d ring nx (ok != pureB m)) ?_
    refine Evt.of (fun k => ?_) h5
    rw [if_neg (by simp), h4]
    simp
  have hd := Doomed_f hs h70
  cases hp : pureB m with
  | false =>
    rw [if_neg (by rw [hp]; decide)] at hd
    have := tail 0 false [] [] hd (Ring_none hs h70 hp) (Next_none hs h70 hp t) hp.symm
    rw [hp] at this
    refine this (Evt.step (fun k => ?_) (Evt.bind lives_f (g := fun _ t360 => some t360) (Evt.const fun _ => rfl)))
    simp only [logjamlaw27_CycleTells.j0]
    rw [if_neg (by decide), if_neg (by decide), if_pos trivial, if_pos (by decide), if_pos (by decide)]
  | true =>
    rw [if_pos hp] at hd
    obtain ⟨r, h1, h2, _, _, h5⟩ := ring_both hs hp
    have hnx := Next_f hs h70 hp t
    have hrnx := rNext_f hs hp t
    have := tail _ true _ _ hd h1 hnx hp.symm
    rw [hp] at this
    have hrl : (R2.ints r).length < 1000000 := by rw [R2.ints_len]; omega
    have hnl : (if 0 ≤ t ∧ t < m.length then succ (rd_T44 m t) else []).length < 1000000 := by
      by_cases c : 0 ≤ t ∧ t < m.length
      · obtain ⟨i, rfl⟩ : ∃ i : Nat, t = (i : Int) := ⟨t.toNat, by omega⟩
        have h := sc_short hs hp i
        rw [sc_in (by omega), List.length_map] at h
        rw [if_pos c, rdT (by omega)]
        exact h
      · rw [if_neg c]; simp
    refine this (Evt.step (g := fun k => (logjamref27_Doomed.f k m).bind fun t361 => if ((dmd m : Nat) : Int) = t361 then ((logjamref27_Ring.f k m).bind fun t362 => (logjamlaw27_same.f k (R2.ints r) t362).bind fun t365 => if t365 = true then ((logjamref27_Next.f k m t).bind fun t366 => (logjamlaw27_same.f k (if 0 ≤ t ∧ t < m.length then succ (rd_T44 m t) else []) t366).bind fun t369 => if t369 = true then ((logjamlaw27_lives.f k).bind fun t370 => some t370) else some false) else some false) else some false) (fun k => by
      simp only [logjamlaw27_CycleTells.j0]
      rw [if_neg (by decide), if_pos trivial]) ?_)
    refine Evt.bind (rDoomed_f hs hp) (g := fun k t361 => if ((dmd m : Nat) : Int) = t361 then ((logjamref27_Ring.f k m).bind fun t362 => (logjamlaw27_same.f k (R2.ints r) t362).bind fun t365 => if t365 = true then ((logjamref27_Next.f k m t).bind fun t366 => (logjamlaw27_same.f k (if 0 ≤ t ∧ t < m.length then succ (rd_T44 m t) else []) t366).bind fun t369 => if t369 = true then ((logjamlaw27_lives.f k).bind fun t370 => some t370) else some false) else some false) else some false) ?_
    refine Evt.of (fun k => if_pos rfl) ?_
    refine Evt.bind h2 (g := fun k t362 => (logjamlaw27_same.f k (R2.ints r) t362).bind fun t365 => if t365 = true then ((logjamref27_Next.f k m t).bind fun t366 => (logjamlaw27_same.f k (if 0 ≤ t ∧ t < m.length then succ (rd_T44 m t) else []) t366).bind fun t369 => if t369 = true then ((logjamlaw27_lives.f k).bind fun t370 => some t370) else some false) else some false) ?_
    refine Evt.bind (same_f _ hrl) (g := fun k t365 => if t365 = true then ((logjamref27_Next.f k m t).bind fun t366 => (logjamlaw27_same.f k (if 0 ≤ t ∧ t < m.length then succ (rd_T44 m t) else []) t366).bind fun t369 => if t369 = true then ((logjamlaw27_lives.f k).bind fun t370 => some t370) else some false) else some false) ?_
    refine Evt.of (fun k => if_pos rfl) ?_
    refine Evt.bind hrnx (g := fun k t366 => (logjamlaw27_same.f k (if 0 ≤ t ∧ t < m.length then succ (rd_T44 m t) else []) t366).bind fun t369 => if t369 = true then ((logjamlaw27_lives.f k).bind fun t370 => some t370) else some false) ?_
    refine Evt.bind (same_f _ hnl) (g := fun k t369 => if t369 = true then ((logjamlaw27_lives.f k).bind fun t370 => some t370) else some false) ?_
    refine Evt.of (fun k => if_pos rfl) ?_
    exact Evt.bind lives_f (g := fun _ t370 => some t370) (Evt.const fun _ => rfl)
theorem CycleTells : logjamlaw27_CycleTells.Pure := by
  intro l t _ _
  obtain ⟨K, h⟩ := ends l t
  exact ⟨K, h K (Nat.le_refl _)⟩

end Go.Proofs.YtbfbegleffkafaaDoor.Pure
