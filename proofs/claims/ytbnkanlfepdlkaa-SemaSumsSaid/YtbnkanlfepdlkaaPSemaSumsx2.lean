/- Go functions as plain Lean functions, and that the calls come to them. Conditions: none. (Written by a program of this session.) -/
import Derived.Test.YtbnkanlfepdlkaaPSemaSumsx0
import Derived.Test.YtbnkanlfepdlkaaPSemaSumsx1
namespace Go.Proofs.Ytbnkanlfepdlkaa.PSemaSums
open Go.RowKit Go.Proofs.YtbnkanlfepdlkaaW.PrintWords Go.Proofs.YtbnkanlfepdlkaaW.PrintLast Go.Proofs.YtbnkanlfepdlkaaW.PrintMore
attribute [local go_sem] max2_int min2_int max_two min_two max_three min_three max_four min_four   -- for this text's walks alone
set_option linter.unusedVariables false
set_option linter.unusedSimpArgs false

/-! ### logjamlaw18_SemaSums: function 4 -/
mutual
def logjamlaw18_SemaSums.l0 : Nat → List (S32) → Int → Int → Int → Int → Option (Bool)
  | 0, _, _, _, _, _ => none
  | k + 1, x2, x8, x9, x133000, x133001 => if x9 < (x2.length : Int) then (logjamlaw18_SemaSums.j1 k x2 x8 x9 (decide (x9 < 80)) x133000 x133001) else (logjamlaw18_SemaSums.j1 k x2 x8 x9 false x133000 x133001)
def logjamlaw18_SemaSums.j1 : Nat → List (S32) → Int → Int → Bool → Int → Int → Option (Bool)
  | 0, _, _, _, _, _, _ => none
  | k + 1, x2, x8, x9, x26, x133000, x133001 => if x26 = true then (if 0 ≤ x9 then (if x9 < (x2.length : Int) then ((logjamlaw18_do.f x133000 x133001 ((rd_T32 x2 x9).f0) ((rd_T32 x2 x9).f1)).bind fun bt139 => (if ((rd_T32 x2 x9).f0) = 0 then (logjamlaw18_SemaSums.j2 k x2 x8 x9 bt139.1 (bt139.1 == 1) bt139.2.1 bt139.2.2 ((rd_T32 x2 x9).f0) ((rd_T32 x2 x9).f1)) else (logjamlaw18_SemaSums.j2 k x2 x8 x9 bt139.1 false bt139.2.1 bt139.2.2 ((rd_T32 x2 x9).f0) ((rd_T32 x2 x9).f1)))) else (none)) else (none)) else ((logjamlaw18_lives.f).bind fun t136 => (some t136))
def logjamlaw18_SemaSums.j2 : Nat → List (S32) → Int → Int → Int → Bool → Int → Int → Int → Int → Option (Bool)
  | 0, _, _, _, _, _, _, _, _, _ => none
  | k + 1, x2, x8, x9, x11, x42, x133000, x133001, x139000, x139001 => if x42 = true then (logjamlaw18_SemaSums.j3 k x2 (wrap64 (x8 - x139001)) x9 x11 x133000 x133001 x139000 x139001) else (logjamlaw18_SemaSums.j3 k x2 x8 x9 x11 x133000 x133001 x139000 x139001)
def logjamlaw18_SemaSums.j3 : Nat → List (S32) → Int → Int → Int → Int → Int → Int → Int → Option (Bool)
  | 0, _, _, _, _, _, _, _, _ => none
  | k + 1, x2, x8, x9, x11, x133000, x133001, x139000, x139001 => if x139000 = 1 then (logjamlaw18_SemaSums.j4 k x2 x8 x9 x11 (x11 == 0) x133000 x133001 x139000 x139001) else (logjamlaw18_SemaSums.j4 k x2 x8 x9 x11 false x133000 x133001 x139000 x139001)
def logjamlaw18_SemaSums.j4 : Nat → List (S32) → Int → Int → Int → Bool → Int → Int → Int → Int → Option (Bool)
  | 0, _, _, _, _, _, _, _, _, _ => none
  | k + 1, x2, x8, x9, x11, x53, x133000, x133001, x139000, x139001 => if x53 = true then (logjamlaw18_SemaSums.j5 k x2 (wrap64 (x8 + x139001)) x9 x11 x133000 x133001 x139000 x139001) else (logjamlaw18_SemaSums.j5 k x2 x8 x9 x11 x133000 x133001 x139000 x139001)
def logjamlaw18_SemaSums.j5 : Nat → List (S32) → Int → Int → Int → Int → Int → Int → Int → Option (Bool)
  | 0, _, _, _, _, _, _, _, _ => none
  | k + 1, x2, x8, x9, x11, x133000, x133001, x139000, x139001 => if x139000 = 0 then (logjamlaw18_SemaSums.j6 k x2 x8 x9 x11 false x133000 x133001) else (logjamlaw18_SemaSums.j6 k x2 x8 x9 x11 (x139000 != 1) x133000 x133001)
def logjamlaw18_SemaSums.j6 : Nat → List (S32) → Int → Int → Int → Bool → Int → Int → Option (Bool)
  | 0, _, _, _, _, _, _, _ => none
  | k + 1, x2, x8, x9, x11, x65, x133000, x133001 => if x65 = true then (logjamlaw18_SemaSums.j7 k x2 (wrap64 (x8 + x11)) x9 x133000 x133001) else (logjamlaw18_SemaSums.j7 k x2 x8 x9 x133000 x133001)
def logjamlaw18_SemaSums.j7 : Nat → List (S32) → Int → Int → Int → Int → Option (Bool)
  | 0, _, _, _, _, _ => none
  | k + 1, x2, x8, x9, x133000, x133001 => (sema_Sema_Value.f x133000 x133001).bind fun bt142 => (if bt142.1 = x8 then (if x8 < 0 then (some false) else ((sema_Sema_Most.f bt142.2.1 bt142.2.2).bind fun bt145 => (if x8 > bt145.1 then (some false) else (logjamlaw18_SemaSums.l0 k x2 x8 (wrap64 (x9 + 1)) bt145.2.1 bt145.2.2)))) else (some false))
end
def logjamlaw18_SemaSums.f (k : Nat) (a0 : Int) (a1 : Int) (l2 : List (S32)) : Option (Bool) := (sema_New.f a0 a1).bind fun bt130 => ((sema_Sema_Value.f bt130.1 bt130.2).bind fun bt133 => (logjamlaw18_SemaSums.l0 k l2 bt133.1 0 bt133.2.1 bt133.2.2))
theorem logjamlaw18_SemaSums.mono_l : ∀ k, (∀ y0 y1 y2 y3 y4, LeO (logjamlaw18_SemaSums.l0 k y0 y1 y2 y3 y4) (logjamlaw18_SemaSums.l0 (k + 1) y0 y1 y2 y3 y4)) ∧ (∀ y0 y1 y2 y3 y4 y5, LeO (logjamlaw18_SemaSums.j1 k y0 y1 y2 y3 y4 y5) (logjamlaw18_SemaSums.j1 (k + 1) y0 y1 y2 y3 y4 y5)) ∧ (∀ y0 y1 y2 y3 y4 y5 y6 y7 y8, LeO (logjamlaw18_SemaSums.j2 k y0 y1 y2 y3 y4 y5 y6 y7 y8) (logjamlaw18_SemaSums.j2 (k + 1) y0 y1 y2 y3 y4 y5 y6 y7 y8)) ∧ (∀ y0 y1 y2 y3 y4 y5 y6 y7, LeO (logjamlaw18_SemaSums.j3 k y0 y1 y2 y3 y4 y5 y6 y7) (logjamlaw18_SemaSums.j3 (k + 1) y0 y1 y2 y3 y4 y5 y6 y7)) ∧ (∀ y0 y1 y2 y3 y4 y5 y6 y7 y8, LeO (logjamlaw18_SemaSums.j4 k y0 y1 y2 y3 y4 y5 y6 y7 y8) (logjamlaw18_SemaSums.j4 (k + 1) y0 y1 y2 y3 y4 y5 y6 y7 y8)) ∧ (∀ y0 y1 y2 y3 y4 y5 y6 y7, LeO (logjamlaw18_SemaSums.j5 k y0 y1 y2 y3 y4 y5 y6 y7) (logjamlaw18_SemaSums.j5 (k + 1) y0 y1 y2 y3 y4 y5 y6 y7)) ∧ (∀ y0 y1 y2 y3 y4 y5 y6, LeO (logjamlaw18_SemaSums.j6 k y0 y1 y2 y3 y4 y5 y6) (logjamlaw18_SemaSums.j6 (k + 1) y0 y1 y2 y3 y4 y5 y6)) ∧ (∀ y0 y1 y2 y3 y4, LeO (logjamlaw18_SemaSums.j7 k y0 y1 y2 y3 y4) (logjamlaw18_SemaSums.j7 (k + 1) y0 y1 y2 y3 y4))
  | 0 => ⟨fun _ _ _ _ _ r h => by simp [logjamlaw18_SemaSums.l0] at h, fun _ _ _ _ _ _ r h => by simp [logjamlaw18_SemaSums.j1] at h, fun _ _ _ _ _ _ _ _ _ r h => by simp [logjamlaw18_SemaSums.j2] at h, fun _ _ _ _ _ _ _ _ r h => by simp [logjamlaw18_SemaSums.j3] at h, fun _ _ _ _ _ _ _ _ _ r h => by simp [logjamlaw18_SemaSums.j4] at h, fun _ _ _ _ _ _ _ _ r h => by simp [logjamlaw18_SemaSums.j5] at h, fun _ _ _ _ _ _ _ r h => by simp [logjamlaw18_SemaSums.j6] at h, fun _ _ _ _ _ r h => by simp [logjamlaw18_SemaSums.j7] at h⟩
  | k + 1 => by
    obtain ⟨ih0, ih1, ih2, ih3, ih4, ih5, ih6, ih7⟩ := logjamlaw18_SemaSums.mono_l k
    refine ⟨?_, ?_, ?_, ?_, ?_, ?_, ?_, ?_⟩
    · intro y0 y1 y2 y3 y4
      unfold logjamlaw18_SemaSums.l0
      repeat' first
      | (with_reducible exact ih0 _ _ _ _ _)
      | (with_reducible exact ih1 _ _ _ _ _ _)
      | (with_reducible exact ih2 _ _ _ _ _ _ _ _ _)
      | (with_reducible exact ih3 _ _ _ _ _ _ _ _)
      | (with_reducible exact ih4 _ _ _ _ _ _ _ _ _)
      | (with_reducible exact ih5 _ _ _ _ _ _ _ _)
      | (with_reducible exact ih6 _ _ _ _ _ _ _)
      | (with_reducible exact ih7 _ _ _ _ _)
      | (with_reducible exact LeO.refl _)
      | (with_reducible exact LeO.none _)
      | (with_reducible refine LeO.ite ?_ ?_)
      | (with_reducible refine LeO.bind ?_ (fun _ => ?_))
      | exact ih0 _ _ _ _ _
      | exact ih1 _ _ _ _ _ _
      | exact ih2 _ _ _ _ _ _ _ _ _
      | exact ih3 _ _ _ _ _ _ _ _
      | exact ih4 _ _ _ _ _ _ _ _ _
      | exact ih5 _ _ _ _ _ _ _ _
      | exact ih6 _ _ _ _ _ _ _
      | exact ih7 _ _ _ _ _
      | exact LeO.none _
      | refine LeO.ite ?_ ?_
      | refine LeO.bind ?_ (fun _ => ?_)
    · intro y0 y1 y2 y3 y4 y5
      unfold logjamlaw18_SemaSums.j1
      repeat' first
      | (with_reducible exact ih0 _ _ _ _ _)
      | (with_reducible exact ih1 _ _ _ _ _ _)
      | (with_reducible exact ih2 _ _ _ _ _ _ _ _ _)
      | (with_reducible exact ih3 _ _ _ _ _ _ _ _)
      | (with_reducible exact ih4 _ _ _ _ _ _ _ _ _)
      | (with_reducible exact ih5 _ _ _ _ _ _ _ _)
      | (with_reducible exact ih6 _ _ _ _ _ _ _)
      | (with_reducible exact ih7 _ _ _ _ _)
      | (with_reducible exact LeO.refl _)
      | (with_reducible exact LeO.none _)
      | (with_reducible refine LeO.ite ?_ ?_)
      | (with_reducible refine LeO.bind ?_ (fun _ => ?_))
      | exact ih0 _ _ _ _ _
      | exact ih1 _ _ _ _ _ _
      | exact ih2 _ _ _ _ _ _ _ _ _
      | exact ih3 _ _ _ _ _ _ _ _
      | exact ih4 _ _ _ _ _ _ _ _ _
      | exact ih5 _ _ _ _ _ _ _ _
      | exact ih6 _ _ _ _ _ _ _
      | exact ih7 _ _ _ _ _
      | exact LeO.none _
      | refine LeO.ite ?_ ?_
      | refine LeO.bind ?_ (fun _ => ?_)
    · intro y0 y1 y2 y3 y4 y5 y6 y7 y8
      unfold logjamlaw18_SemaSums.j2
      repeat' first
      | (with_reducible exact ih0 _ _ _ _ _)
      | (with_reducible exact ih1 _ _ _ _ _ _)
      | (with_reducible exact ih2 _ _ _ _ _ _ _ _ _)
      | (with_reducible exact ih3 _ _ _ _ _ _ _ _)
      | (with_reducible exact ih4 _ _ _ _ _ _ _ _ _)
      | (with_reducible exact ih5 _ _ _ _ _ _ _ _)
      | (with_reducible exact ih6 _ _ _ _ _ _ _)
      | (with_reducible exact ih7 _ _ _ _ _)
      | (with_reducible exact LeO.refl _)
      | (with_reducible exact LeO.none _)
      | (with_reducible refine LeO.ite ?_ ?_)
      | (with_reducible refine LeO.bind ?_ (fun _ => ?_))
      | exact ih0 _ _ _ _ _
      | exact ih1 _ _ _ _ _ _
      | exact ih2 _ _ _ _ _ _ _ _ _
      | exact ih3 _ _ _ _ _ _ _ _
      | exact ih4 _ _ _ _ _ _ _ _ _
      | exact ih5 _ _ _ _ _ _ _ _
      | exact ih6 _ _ _ _ _ _ _
      | exact ih7 _ _ _ _ _
      | exact LeO.none _
      | refine LeO.ite ?_ ?_
      | refine LeO.bind ?_ (fun _ => ?_)
    · intro y0 y1 y2 y3 y4 y5 y6 y7
      unfold logjamlaw18_SemaSums.j3
      repeat' first
      | (with_reducible exact ih0 _ _ _ _ _)
      | (with_reducible exact ih1 _ _ _ _ _ _)
      | (with_reducible exact ih2 _ _ _ _ _ _ _ _ _)
      | (with_reducible exact ih3 _ _ _ _ _ _ _ _)
      | (with_reducible exact ih4 _ _ _ _ _ _ _ _ _)
      | (with_reducible exact ih5 _ _ _ _ _ _ _ _)
      | (with_reducible exact ih6 _ _ _ _ _ _ _)
      | (with_reducible exact ih7 _ _ _ _ _)
      | (with_reducible exact LeO.refl _)
      | (with_reducible exact LeO.none _)
      | (with_reducible refine LeO.ite ?_ ?_)
      | (with_reducible refine LeO.bind ?_ (fun _ => ?_))
      | exact ih0 _ _ _ _ _
      | exact ih1 _ _ _ _ _ _
      | exact ih2 _ _ _ _ _ _ _ _ _
      | exact ih3 _ _ _ _ _ _ _ _
      | exact ih4 _ _ _ _ _ _ _ _ _
      | exact ih5 _ _ _ _ _ _ _ _
      | exact ih6 _ _ _ _ _ _ _
      | exact ih7 _ _ _ _ _
      | exact LeO.none _
      | refine LeO.ite ?_ ?_
      | refine LeO.bind ?_ (fun _ => ?_)
    · intro y0 y1 y2 y3 y4 y5 y6 y7 y8
      unfold logjamlaw18_SemaSums.j4
      repeat' first
      | (with_reducible exact ih0 _ _ _ _ _)
      | (with_reducible exact ih1 _ _ _ _ _ _)
      | (with_reducible exact ih2 _ _ _ _ _ _ _ _ _)
      | (with_reducible exact ih3 _ _ _ _ _ _ _ _)
      | (with_reducible exact ih4 _ _ _ _ _ _ _ _ _)
      | (with_reducible exact ih5 _ _ _ _ _ _ _ _)
      | (with_reducible exact ih6 _ _ _ _ _ _ _)
      | (with_reducible exact ih7 _ _ _ _ _)
      | (with_reducible exact LeO.refl _)
      | (with_reducible exact LeO.none _)
      | (with_reducible refine LeO.ite ?_ ?_)
      | (with_reducible refine LeO.bind ?_ (fun _ => ?_))
      | exact ih0 _ _ _ _ _
      | exact ih1 _ _ _ _ _ _
      | exact ih2 _ _ _ _ _ _ _ _ _
      | exact ih3 _ _ _ _ _ _ _ _
      | exact ih4 _ _ _ _ _ _ _ _ _
      | exact ih5 _ _ _ _ _ _ _ _
      | exact ih6 _ _ _ _ _ _ _
      | exact ih7 _ _ _ _ _
      | exact LeO.none _
      | refine LeO.ite ?_ ?_
      | refine LeO.bind ?_ (fun _ => ?_)
    · intro y0 y1 y2 y3 y4 y5 y6 y7
      unfold logjamlaw18_SemaSums.j5
      repeat' first
      | (with_reducible exact ih0 _ _ _ _ _)
      | (with_reducible exact ih1 _ _ _ _ _ _)
      | (with_reducible exact ih2 _ _ _ _ _ _ _ _ _)
      | (with_reducible exact ih3 _ _ _ _ _ _ _ _)
      | (with_reducible exact ih4 _ _ _ _ _ _ _ _ _)
      | (with_reducible exact ih5 _ _ _ _ _ _ _ _)
      | (with_reducible exact ih6 _ _ _ _ _ _ _)
      | (with_reducible exact ih7 _ _ _ _ _)
      | (with_reducible exact LeO.refl _)
      | (with_reducible exact LeO.none _)
      | (with_reducible refine LeO.ite ?_ ?_)
      | (with_reducible refine LeO.bind ?_ (fun _ => ?_))
      | exact ih0 _ _ _ _ _
      | exact ih1 _ _ _ _ _ _
      | exact ih2 _ _ _ _ _ _ _ _ _
      | exact ih3 _ _ _ _ _ _ _ _
      | exact ih4 _ _ _ _ _ _ _ _ _
      | exact ih5 _ _ _ _ _ _ _ _
      | exact ih6 _ _ _ _ _ _ _
      | exact ih7 _ _ _ _ _
      | exact LeO.none _
      | refine LeO.ite ?_ ?_
      | refine LeO.bind ?_ (fun _ => ?_)
    · intro y0 y1 y2 y3 y4 y5 y6
      unfold logjamlaw18_SemaSums.j6
      repeat' first
      | (with_reducible exact ih0 _ _ _ _ _)
      | (with_reducible exact ih1 _ _ _ _ _ _)
      | (with_reducible exact ih2 _ _ _ _ _ _ _ _ _)
      | (with_reducible exact ih3 _ _ _ _ _ _ _ _)
      | (with_reducible exact ih4 _ _ _ _ _ _ _ _ _)
      | (with_reducible exact ih5 _ _ _ _ _ _ _ _)
      | (with_reducible exact ih6 _ _ _ _ _ _ _)
      | (with_reducible exact ih7 _ _ _ _ _)
      | (with_reducible exact LeO.refl _)
      | (with_reducible exact LeO.none _)
      | (with_reducible refine LeO.ite ?_ ?_)
      | (with_reducible refine LeO.bind ?_ (fun _ => ?_))
      | exact ih0 _ _ _ _ _
      | exact ih1 _ _ _ _ _ _
      | exact ih2 _ _ _ _ _ _ _ _ _
      | exact ih3 _ _ _ _ _ _ _ _
      | exact ih4 _ _ _ _ _ _ _ _ _
      | exact ih5 _ _ _ _ _ _ _ _
      | exact ih6 _ _ _ _ _ _ _
      | exact ih7 _ _ _ _ _
      | exact LeO.none _
      | refine LeO.ite ?_ ?_
      | refine LeO.bind ?_ (fun _ => ?_)
    · intro y0 y1 y2 y3 y4
      unfold logjamlaw18_SemaSums.j7
      repeat' first
      | (with_reducible exact ih0 _ _ _ _ _)
      | (with_reducible exact ih1 _ _ _ _ _ _)
      | (with_reducible exact ih2 _ _ _ _ _ _ _ _ _)
      | (with_reducible exact ih3 _ _ _ _ _ _ _ _)
      | (with_reducible exact ih4 _ _ _ _ _ _ _ _ _)
      | (with_reducible exact ih5 _ _ _ _ _ _ _ _)
      | (with_reducible exact ih6 _ _ _ _ _ _ _)
      | (with_reducible exact ih7 _ _ _ _ _)
      | (with_reducible exact LeO.refl _)
      | (with_reducible exact LeO.none _)
      | (with_reducible refine LeO.ite ?_ ?_)
      | (with_reducible refine LeO.bind ?_ (fun _ => ?_))
      | exact ih0 _ _ _ _ _
      | exact ih1 _ _ _ _ _ _
      | exact ih2 _ _ _ _ _ _ _ _ _
      | exact ih3 _ _ _ _ _ _ _ _
      | exact ih4 _ _ _ _ _ _ _ _ _
      | exact ih5 _ _ _ _ _ _ _ _
      | exact ih6 _ _ _ _ _ _ _
      | exact ih7 _ _ _ _ _
      | exact LeO.none _
      | refine LeO.ite ?_ ?_
      | refine LeO.bind ?_ (fun _ => ?_)
theorem logjamlaw18_SemaSums.mono : ∀ a0 a1 a2 k, LeO (logjamlaw18_SemaSums.f k a0 a1 a2) (logjamlaw18_SemaSums.f (k + 1) a0 a1 a2) := by
  intro a0 a1 a2 k
  obtain ⟨ih0, ih1, ih2, ih3, ih4, ih5, ih6, ih7⟩ := logjamlaw18_SemaSums.mono_l k
  unfold logjamlaw18_SemaSums.f
  repeat' first
      | (with_reducible exact ih0 _ _ _ _ _)
      | (with_reducible exact ih1 _ _ _ _ _ _)
      | (with_reducible exact ih2 _ _ _ _ _ _ _ _ _)
      | (with_reducible exact ih3 _ _ _ _ _ _ _ _)
      | (with_reducible exact ih4 _ _ _ _ _ _ _ _ _)
      | (with_reducible exact ih5 _ _ _ _ _ _ _ _)
      | (with_reducible exact ih6 _ _ _ _ _ _ _)
      | (with_reducible exact ih7 _ _ _ _ _)
      | (with_reducible exact LeO.refl _)
      | (with_reducible exact LeO.none _)
      | (with_reducible refine LeO.ite ?_ ?_)
      | (with_reducible refine LeO.bind ?_ (fun _ => ?_))
      | exact ih0 _ _ _ _ _
      | exact ih1 _ _ _ _ _ _
      | exact ih2 _ _ _ _ _ _ _ _ _
      | exact ih3 _ _ _ _ _ _ _ _
      | exact ih4 _ _ _ _ _ _ _ _ _
      | exact ih5 _ _ _ _ _ _ _ _
      | exact ih6 _ _ _ _ _ _ _
      | exact ih7 _ _ _ _ _
      | exact LeO.none _
      | refine LeO.ite ?_ ?_
      | refine LeO.bind ?_ (fun _ => ?_)
set_option maxHeartbeats 8000000 in
set_option maxRecDepth 100000 in
theorem logjamlaw18_SemaSums.calls (k : Nat) (a0 : Int) (a1 : Int) (A2 : Option Addr) (c2 : Nat) (l2 : List (S32)) (r : Bool) (w : World) (hr2 : Kd.C k32 w A2 l2.length l2) (hc2 : l2.length ≤ c2) (h : logjamlaw18_SemaSums.f k a0 a1 l2 = some r) :
    Calls Try.prog 4 #[.int .i64 a0, .int .i64 a1, .slice A2 l2.length c2] w fun e w' => e = .returned (.bool r) ∧ Below w.heap.size w w' := by
  have hu32 := Try.underlying32
  have HR2 := Aside0.mk hr2
  have HC2 := Aside0.mk hc2
  clear hr2 hc2
  have HB := Aside0.mk (Below.refl w.heap.size w)
  have H : ((sema_New.f a0 a1).bind fun bt130 => ((sema_Sema_Value.f bt130.1 bt130.2).bind fun bt133 => (logjamlaw18_SemaSums.l0 k l2 bt133.1 0 bt133.2.1 bt133.2.2))) = some r := h
  clear h
  replace H := Option.bind_eq_some_iff.mp H
  obtain ⟨⟨t130, t131⟩, A40, H⟩ := H
  replace H : ((sema_Sema_Value.f t130 t131).bind fun bt133 => (logjamlaw18_SemaSums.l0 k l2 bt133.1 0 bt133.2.1 bt133.2.2)) = some r := H
  have A4 := Aside0.mk A40
  clear A40
  replace H := Option.bind_eq_some_iff.mp H
  obtain ⟨⟨t133, t134, t135⟩, A50, H⟩ := H
  replace H : (logjamlaw18_SemaSums.l0 k l2 t133 0 t134 t135) = some r := H
  have A5 := Aside0.mk A50
  clear A50
  have H' := Aside0.mk H
  clear H
  go_enter Try.func4, Try.ntmps4
  go_wp2_with (first | ((with_reducible refine gate_callee (f := 14) rfl ?_); refine goesL_ (some 14) rfl rfl Try.func14 (by kernel_rfl) rfl #[.int .i64 a0, .int .i64 a1] rfl (by (try simp only [List.map_toArray, List.map_cons, List.map_nil]); first | done | rfl | (simp only [List.length_drop, List.length_take]; rfl)) ?_; (with_reducible refine (sema_New.calls a0 a1 t130 t131 w _ ?side1 A4.out).mono ?_); (case side1 => repeat (first | (with_reducible first | exact HB.out | apply below_alloc | apply pw_below_drewN | apply below_drew1) | exact HB.out)); rintro e w6 ⟨g132, rfl, hi, hb, hb2⟩; refine ⟨_, rfl, ?_⟩; have n0_ := Aside0.mk (hb); have n1_ := Aside0.mk (hi); clear HB; have HB := n0_; have HI132 := n1_; clear n0_ n1_; (try clear hb); (try clear hb2); (try clear hk); (try clear hi)) | ((with_reducible refine gate_callee (f := 16) rfl ?_); refine goesL_ (some 18) rfl rfl Try.func16 (by kernel_rfl) rfl #[.pointer (some ⟨g132, 0, none⟩)] rfl (by (try simp only [List.map_toArray, List.map_cons, List.map_nil]); first | done | rfl | (simp only [List.length_drop, List.length_take]; rfl)) ?_; (with_reducible refine (sema_Sema_Value.calls g132 t130 t131 t133 t134 t135 w _ ?side1 ?side2 A5.out).mono ?_); (case side1 => repeat (first | (with_reducible first | exact HI132.out | apply IsS89.alloc | apply IsS89.drewN | apply IsS89.drew | apply IsS89.set_0 | apply IsS89.set_1) | exact HI132.out)); (case side2 => repeat (first | (with_reducible first | exact HB.out | apply below_alloc | apply pw_below_drewN | apply below_drew1 | refine below_set ?_ (IsS89.ge HI132.out)) | exact HB.out)); rintro e w7 ⟨rfl, hi, hb, hk⟩; refine ⟨_, rfl, ?_⟩; have n0_ := Aside0.mk (hb); have n1_ := Aside0.mk (hi); clear HB; clear HI132; have HB := n0_; have HI132 := n1_; clear n0_ n1_; (try clear hb); (try clear hb2); (try clear hk); (try clear hi)))
  go_loopg [8, 9] k (fun kq v8 v9 w' => ∃ (x8_1 : Int) (x9_1 : Int) (x133000_1 : Int) (x133001_1 : Int), v8 = .int .i64 x8_1 ∧ v9 = .int .i64 x9_1 ∧ Aside0 (logjamlaw18_SemaSums.l0 kq l2 x8_1 x9_1 x133000_1 x133001_1 = some r) ∧ Aside0 (kq ≤ k) ∧ Aside0 (IsS89 w w' g132 x133000_1 x133001_1) ∧ Aside0 (Below w.heap.size w w'))
  case atStart => exact ⟨(t133), (0), (t134), (t135), (by first | rfl | (simp; done) | (simp [*]; done)), (by first | rfl | (simp; done) | (simp [*]; done)), H', ⟨Nat.le_refl _⟩, ⟨by repeat (first | (with_reducible first | exact HI132.out | apply IsS89.alloc | apply IsS89.drewN | apply IsS89.drew | apply IsS89.set_0 | apply IsS89.set_1) | exact HI132.out)⟩, ⟨by repeat (first | (with_reducible first | exact HB.out | apply below_alloc | apply pw_below_drewN | apply below_drew1 | refine below_set ?_ (IsS89.ge HI132.out)) | exact HB.out)⟩⟩
  case round =>
    clear H'
    try clear c1
    try clear c2
    try clear p2
    try clear c4
    obtain ⟨x8_1, x9_1, x133000_1, x133001_1, rfl, rfl, HA, HK1, HI132, HB⟩ := hrel
    cases gk with
    | zero => exact absurd HA.out (by simp [logjamlaw18_SemaSums.l0])
    | succ k1 =>
      have H := HA.out
      clear HA
      simp only [logjamlaw18_SemaSums.l0] at H
      have HC8 := Aside0.mk H
      clear H
      go_upto_region 6 with (fail)
      go_cut [26] (fun v26 wc => ∃ (kq : Nat) (x26_7 : Bool), v26 = .bool x26_7 ∧ Aside0 (logjamlaw18_SemaSums.j1 kq l2 x8_1 x9_1 x26_7 x133000_1 x133001_1 = some r) ∧ Aside0 (kq ≤ k1) ∧ Aside0 (IsS89 w wc g132 x133000_1 x133001_1) ∧ Aside0 (Below w.heap.size w wc))
      case first =>
        have H := HC8.out
        clear HC8
        by_cases c9 : x9_1 < (l2.length : Int)
        · rw [if_pos c9] at H
          have c9b0 : decide (x9_1 < (l2.length : Int)) = true := decide_eq_true c9
          clear c9
          (first | rw [c9b0] | (simp only [i64_w, i32_w]; rw [c9b0]) | skip)
          have H' := Aside0.mk H
          clear H
          go_wp2
          go_meet
          case rel => exact ⟨_, (decide (x9_1 < 80)), (by first | rfl | (simp; done) | (simp [*]; done)), H', ⟨by have := HK1.out; first | omega | exact Nat.le_refl _⟩, ⟨by repeat (first | (with_reducible first | exact HI132.out | apply IsS89.alloc | apply IsS89.drewN | apply IsS89.drew | apply IsS89.set_0 | apply IsS89.set_1) | exact HI132.out)⟩, ⟨by repeat (first | (with_reducible first | exact HB.out | apply below_alloc | apply pw_below_drewN | apply below_drew1 | refine below_set ?_ (IsS89.ge HI132.out)) | exact HB.out)⟩⟩
        · rw [if_neg c9] at H
          have c9b0 : decide (x9_1 < (l2.length : Int)) = false := decide_eq_false c9
          clear c9
          (first | rw [c9b0] | (simp only [i64_w, i32_w]; rw [c9b0]) | skip)
          have H' := Aside0.mk H
          clear H
          go_wp2
          go_meet
          case rel => exact ⟨_, (false), (by first | rfl | (simp; done) | (simp [*]; done)), H', ⟨by have := HK1.out; first | omega | exact Nat.le_refl _⟩, ⟨by repeat (first | (with_reducible first | exact HI132.out | apply IsS89.alloc | apply IsS89.drewN | apply IsS89.drew | apply IsS89.set_0 | apply IsS89.set_1) | exact HI132.out)⟩, ⟨by repeat (first | (with_reducible first | exact HB.out | apply below_alloc | apply pw_below_drewN | apply below_drew1 | refine below_set ?_ (IsS89.ge HI132.out)) | exact HB.out)⟩⟩
      case rest =>
        clear HC8
        try clear c1
        try clear c2
        try clear p2
        try clear c4
        try clear c9
        try clear c9b0
        try clear p2
        obtain ⟨kq, x26_7, rfl, HA, HJ7, HI132, HB⟩ := hcut
        cases kq with
        | zero => exact absurd HA.out (by simp [logjamlaw18_SemaSums.j1])
        | succ kj7 =>
          have H := HA.out
          clear HA
          simp only [logjamlaw18_SemaSums.j1] at H
          by_cases c10 : x26_7 = true
          · subst c10
            have H1 : (if 0 ≤ x9_1 then (if x9_1 < (l2.length : Int) then ((logjamlaw18_do.f x133000_1 x133001_1 ((rd_T32 l2 x9_1).f0) ((rd_T32 l2 x9_1).f1)).bind fun bt139 => (if ((rd_T32 l2 x9_1).f0) = 0 then (logjamlaw18_SemaSums.j2 kj7 l2 x8_1 x9_1 bt139.1 (bt139.1 == 1) bt139.2.1 bt139.2.2 ((rd_T32 l2 x9_1).f0) ((rd_T32 l2 x9_1).f1)) else (logjamlaw18_SemaSums.j2 kj7 l2 x8_1 x9_1 bt139.1 false bt139.2.1 bt139.2.2 ((rd_T32 l2 x9_1).f0) ((rd_T32 l2 x9_1).f1)))) else (none)) else (none)) = some r := by rw [if_pos rfl] at H; exact H
            clear H
            have H := H1
            clear H1
            by_cases c11 : 0 ≤ x9_1
            · rw [if_pos c11] at H
              have c11b0 : decide (0 ≤ x9_1) = true := decide_eq_true c11
              clear c11
              by_cases c12 : x9_1 < (l2.length : Int)
              · rw [if_pos c12] at H
                have c12b0 : decide (x9_1 < (l2.length : Int)) = true := decide_eq_true c12
                clear c12
                replace H := Option.bind_eq_some_iff.mp H
                obtain ⟨⟨t139, t140, t141⟩, A130, H⟩ := H
                replace H : (if ((rd_T32 l2 x9_1).f0) = 0 then (logjamlaw18_SemaSums.j2 kj7 l2 x8_1 x9_1 t139 (t139 == 1) t140 t141 ((rd_T32 l2 x9_1).f0) ((rd_T32 l2 x9_1).f1)) else (logjamlaw18_SemaSums.j2 kj7 l2 x8_1 x9_1 t139 false t140 t141 ((rd_T32 l2 x9_1).f0) ((rd_T32 l2 x9_1).f1))) = some r := H
                have A13 := Aside0.mk A130
                clear A130
                have HC14 := Aside0.mk H
                clear H
                have p137 : 0 ≤ (x9_1 : Int) := of_decide_eq_true (by first | (with_reducible assumption) | assumption)
                have q137 : x9_1 < (l2.length : Int) := of_decide_eq_true (by first | (with_reducible assumption) | assumption)
                obtain ⟨ad137, e137, hx137_0, hx137_1⟩ := at_T32 HR2.out x9_1 p137 q137
                cases e137
                replace hx137_0 := (HB.out.cell (World.block_lt_of_cell? w _ hx137_0)).trans hx137_0
                replace hx137_1 := (HB.out.cell (World.block_lt_of_cell? w _ hx137_1)).trans hx137_1
                replace p137 := eq_true p137
                replace q137 := eq_true q137
                go_upto_region 10 with (first | ((with_reducible refine gate_dst (N := 10) rfl ?_); refine box_event ?hg (N := 10) ?hd (cs := #[.int .i64 0, .int .i64 0]) (t := 32) ?hr ?_; (case hd => rfl); (case hg => rfl); (case hr => first | (go_simp; done) | (go_simp; rfl)); intro gb138 hg w15 hbox hb; have n0_ := Aside0.mk (IsS89.below (by repeat (first | (with_reducible first | exact HI132.out | apply IsS89.alloc | apply IsS89.drewN | apply IsS89.drew | apply IsS89.set_0 | apply IsS89.set_1) | exact HI132.out)) hb); have n1_ := Aside0.mk (below_step (by repeat (first | (with_reducible first | exact HB.out | apply below_alloc | apply pw_below_drewN | apply below_drew1 | refine below_set ?_ (IsS89.ge HI132.out)) | exact HB.out)) hb); have n2_ := Aside0.mk (hbox); have n3_ := Aside0.mk ((by rw [hg]; exact (below_size (by repeat (first | (with_reducible first | exact HB.out | apply below_alloc | apply pw_below_drewN | apply below_drew1 | refine below_set ?_ (IsS89.ge HI132.out)) | exact HB.out))) : w.heap.size ≤ gb138)); have n4_ := Aside0.mk ((by rw [hg]; exact (below_size (by repeat (first | (with_reducible first | exact HB.out | apply below_alloc | apply pw_below_drewN | apply below_drew1 | refine below_set ?_ (IsS89.ge HI132.out)) | exact HB.out))) : w.heap.size ≤ gb138)); have n5_ := Aside0.mk ((by rw [hg]; exact Nat.ne_of_lt (IsS89.lt (show IsS89 w _ g132 x133000_1 x133001_1 from by repeat (first | (with_reducible first | exact HI132.out | apply IsS89.alloc | apply IsS89.drewN | apply IsS89.drew | apply IsS89.set_0 | apply IsS89.set_1) | exact HI132.out))) : g132 ≠ gb138)); have n6_ := Aside0.mk ((by rw [hg]; exact Nat.ne_of_gt (IsS89.lt (show IsS89 w _ g132 x133000_1 x133001_1 from by repeat (first | (with_reducible first | exact HI132.out | apply IsS89.alloc | apply IsS89.drewN | apply IsS89.drew | apply IsS89.set_0 | apply IsS89.set_1) | exact HI132.out))) : gb138 ≠ g132)); clear HI132; clear HB; have HI132 := n0_; have HB := n1_; have BK138 := n2_; have GW138 := n3_; have GE138 := n4_; have NB132_138 := n5_; have NB138_132 := n6_; clear n0_ n1_ n2_ n3_ n4_ n5_ n6_; clear hb hbox hg; have hnb16 := NB138_132.out; have hnc16 := NB132_138.out; have hcz17_0 : w15.cell? ⟨gb138, 0, none⟩ = some (.int .i64 0) := (blk_cell BK138.out 0).trans rfl; have hcz17_1 : w15.cell? ⟨gb138, 1, none⟩ = some (.int .i64 0) := (blk_cell BK138.out 1).trans rfl; have hfz17_0 := blk_frozen BK138.out 0; have hfz17_1 := blk_frozen BK138.out 1) | ((with_reducible refine gate_callee (f := 19) rfl ?_); refine goesL_ (some 35) rfl rfl Try.func19 (by kernel_rfl) rfl #[.pointer (some ⟨g132, 0, none⟩), .agg #[.int .i64 ((rd_T32 l2 x9_1).f0), .int .i64 ((rd_T32 l2 x9_1).f1)]] rfl (by (try simp only [List.map_toArray, List.map_cons, List.map_nil]); first | done | rfl | (simp only [List.length_drop, List.length_take]; rfl)) ?_; (with_reducible refine (logjamlaw18_do.calls g132 x133000_1 x133001_1 ((rd_T32 l2 x9_1).f0) ((rd_T32 l2 x9_1).f1) t139 t140 t141 w _ ?side1 ?side2 A13.out).mono ?_); (case side1 => repeat (first | (with_reducible first | exact HI132.out | apply IsS89.alloc | apply IsS89.drewN | apply IsS89.drew | apply IsS89.set_0 | apply IsS89.set_1 | refine IsS89.far ?_ NB132_138.out _) | exact HI132.out)); (case side2 => repeat (first | (with_reducible first | exact HB.out | apply below_alloc | apply pw_below_drewN | apply below_drew1 | refine below_set ?_ (IsS89.ge HI132.out) | refine below_set ?_ GE138.out) | exact HB.out)); rintro e w18 ⟨rfl, hi, hb, hk⟩; refine ⟨_, rfl, ?_⟩; have n0_ := Aside0.mk (KeepBut.blk hk (g' := gb138) (o := .cells #[.int .i64 ((rd_T32 l2 x9_1).f0), .int .i64 ((rd_T32 l2 x9_1).f1)] 32 (0, 0)) (by (with_reducible repeat (first | refine blk_drewN ?_ _ | refine blk_drew ?_ | refine blk_alloc ?_ _)); refine blk_put (cs := #[.int .i64 ((rd_T32 l2 x9_1).f0), .int .i64 0]) ?_ 1 _ rfl; (with_reducible repeat (first | refine blk_drewN ?_ _ | refine blk_drew ?_ | refine blk_alloc ?_ _)); refine blk_put (cs := #[.int .i64 0, .int .i64 0]) ?_ 0 _ rfl; (with_reducible repeat (first | refine blk_drewN ?_ _ | refine blk_drew ?_ | refine blk_alloc ?_ _)); exact BK138.out) NB138_132.out (by simp)); have n1_ := Aside0.mk (hb); have n2_ := Aside0.mk (hi); clear BK138; clear HB; clear HI132; have BK138 := n0_; have HB := n1_; have HI132 := n2_; clear n0_ n1_ n2_; (try clear hb); (try clear hb2); (try clear hk); (try clear hi)))
                (try simp only [Act.put, List.setIfInBounds_toArray, List.set_cons_zero, List.set_cons_succ])
                go_cut [42] (fun v42 wc => ∃ (kq : Nat) (x42_13 : Bool), v42 = .bool x42_13 ∧ Aside0 (logjamlaw18_SemaSums.j2 kq l2 x8_1 x9_1 t139 x42_13 t140 t141 ((rd_T32 l2 x9_1).f0) ((rd_T32 l2 x9_1).f1) = some r) ∧ Aside0 (kq ≤ kj7) ∧ Aside0 (wc.heap[gb138]? = some (.cells #[.int .i64 ((rd_T32 l2 x9_1).f0), .int .i64 ((rd_T32 l2 x9_1).f1)] 32 (0, 0))) ∧ Aside0 (IsS89 w wc g132 t140 t141) ∧ Aside0 (Below w.heap.size w wc))
                case first =>
                  have H := HC14.out
                  clear HC14
                  by_cases c19 : ((rd_T32 l2 x9_1).f0) = 0
                  · rw [if_pos c19] at H
                    have c19b0 : (((rd_T32 l2 x9_1).f0) == 0) = true := beq_iff_eq.mpr c19
                    have c19b1 : (((rd_T32 l2 x9_1).f0) != 0) = false := bne_eq_false_iff_eq.mpr c19
                    clear c19
                    (first | rw [c19b0] | (simp only [i64_w, i32_w]; rw [c19b0]) | skip)
                    have H' := Aside0.mk H
                    clear H
                    have hnb20 := NB138_132.out
                    have hnc20 := NB132_138.out
                    have hcz21_0 : w18.cell? ⟨gb138, 0, none⟩ = some (.int .i64 ((rd_T32 l2 x9_1).f0)) := (blk_cell BK138.out 0).trans rfl
                    have hcz21_1 : w18.cell? ⟨gb138, 1, none⟩ = some (.int .i64 ((rd_T32 l2 x9_1).f1)) := (blk_cell BK138.out 1).trans rfl
                    have hfz21_0 := blk_frozen BK138.out 0
                    have hfz21_1 := blk_frozen BK138.out 1
                    go_wp2
                    go_meet
                    case rel => exact ⟨_, ((t139 == 1)), (by first | rfl | (simp; done) | (simp [*]; done)), H', ⟨by have := HK1.out; have := HJ7.out; first | omega | exact Nat.le_refl _⟩, ⟨by (with_reducible repeat (first | refine blk_drewN ?_ _ | refine blk_drew ?_ | refine blk_alloc ?_ _)); exact BK138.out⟩, ⟨by repeat (first | (with_reducible first | exact HI132.out | apply IsS89.alloc | apply IsS89.drewN | apply IsS89.drew | apply IsS89.set_0 | apply IsS89.set_1 | refine IsS89.far ?_ NB132_138.out _) | exact HI132.out)⟩, ⟨by repeat (first | (with_reducible first | exact HB.out | apply below_alloc | apply pw_below_drewN | apply below_drew1 | refine below_set ?_ (IsS89.ge HI132.out) | refine below_set ?_ GE138.out) | exact HB.out)⟩⟩
                  · rw [if_neg c19] at H
                    have c19b0 : (((rd_T32 l2 x9_1).f0) == 0) = false := beq_eq_false_iff_ne.mpr c19
                    have c19b1 : (((rd_T32 l2 x9_1).f0) != 0) = true := bne_iff_ne.mpr c19
                    (first | rw [c19b0] | (simp only [i64_w, i32_w]; rw [c19b0]) | skip)
                    have H' := Aside0.mk H
                    clear H
                    have hnb22 := NB138_132.out
                    have hnc22 := NB132_138.out
                    have hcz23_0 : w18.cell? ⟨gb138, 0, none⟩ = some (.int .i64 ((rd_T32 l2 x9_1).f0)) := (blk_cell BK138.out 0).trans rfl
                    have hcz23_1 : w18.cell? ⟨gb138, 1, none⟩ = some (.int .i64 ((rd_T32 l2 x9_1).f1)) := (blk_cell BK138.out 1).trans rfl
                    have hfz23_0 := blk_frozen BK138.out 0
                    have hfz23_1 := blk_frozen BK138.out 1
                    go_wp2
                    go_meet
                    case rel => exact ⟨_, (false), (by first | rfl | (simp; done) | (simp [*]; done)), H', ⟨by have := HK1.out; have := HJ7.out; first | omega | exact Nat.le_refl _⟩, ⟨by (with_reducible repeat (first | refine blk_drewN ?_ _ | refine blk_drew ?_ | refine blk_alloc ?_ _)); exact BK138.out⟩, ⟨by repeat (first | (with_reducible first | exact HI132.out | apply IsS89.alloc | apply IsS89.drewN | apply IsS89.drew | apply IsS89.set_0 | apply IsS89.set_1 | refine IsS89.far ?_ NB132_138.out _) | exact HI132.out)⟩, ⟨by repeat (first | (with_reducible first | exact HB.out | apply below_alloc | apply pw_below_drewN | apply below_drew1 | refine below_set ?_ (IsS89.ge HI132.out) | refine below_set ?_ GE138.out) | exact HB.out)⟩⟩
                case rest =>
                  clear HC14
                  try clear c1
                  try clear p1
                  try clear q1
                  try clear hx1
                  try clear c2
                  try clear p2
                  try clear c4
                  try clear c9
                  try clear c9b0
                  try clear c10
                  try clear c11
                  try clear c11b0
                  try clear c12
                  try clear c12b0
                  try clear p13
                  try clear q13
                  try clear hx13
                  try clear c14
                  try clear c16
                  try clear c19
                  try clear c19b0
                  try clear c19b1
                  try clear c20
                  try clear c22
                  try clear hcz17_0
                  try clear hcz17_1
                  try clear hcz21_0
                  try clear hcz21_1
                  try clear hcz23_0
                  try clear hcz23_1
                  try clear hfz17_0
                  try clear hfz17_1
                  try clear hfz21_0
                  try clear hfz21_1
                  try clear hfz23_0
                  try clear hfz23_1
                  try clear hx137_0
                  try clear hx137_1
                  try clear p137
                  try clear p2
                  try clear q137
                  obtain ⟨kq, x42_13, rfl, HA, HJ13, BK138, HI132, HB⟩ := hcut
                  cases kq with
                  | zero => exact absurd HA.out (by simp [logjamlaw18_SemaSums.j2])
                  | succ kj13 =>
                    have H := HA.out
                    clear HA
                    simp only [logjamlaw18_SemaSums.j2] at H
                    have HC24 := Aside0.mk H
                    clear H
                    go_upto_if 42 with (fail)
                    go_cut [8] (fun v8 wc => ∃ (kq : Nat) (x8_23 : Int), v8 = .int .i64 x8_23 ∧ Aside0 (logjamlaw18_SemaSums.j3 kq l2 x8_23 x9_1 t139 t140 t141 ((rd_T32 l2 x9_1).f0) ((rd_T32 l2 x9_1).f1) = some r) ∧ Aside0 (kq ≤ kj13) ∧ Aside0 (wc.heap[gb138]? = some (.cells #[.int .i64 ((rd_T32 l2 x9_1).f0), .int .i64 ((rd_T32 l2 x9_1).f1)] 32 (0, 0))) ∧ Aside0 (IsS89 w wc g132 t140 t141) ∧ Aside0 (Below w.heap.size w wc))
                    case first =>
                      have H := HC24.out
                      clear HC24
                      by_cases c25 : x42_13 = true
                      · subst c25
                        have H1 : (logjamlaw18_SemaSums.j3 kj13 l2 (wrap64 (x8_1 - ((rd_T32 l2 x9_1).f1))) x9_1 t139 t140 t141 ((rd_T32 l2 x9_1).f0) ((rd_T32 l2 x9_1).f1)) = some r := by rw [if_pos rfl] at H; exact H
                        clear H
                        have H := H1
                        clear H1
                        have H' := Aside0.mk H
                        clear H
                        have hnb26 := NB138_132.out
                        have hnc26 := NB132_138.out
                        have hcz27_0 : wc.cell? ⟨gb138, 0, none⟩ = some (.int .i64 ((rd_T32 l2 x9_1).f0)) := (blk_cell BK138.out 0).trans rfl
                        have hcz27_1 : wc.cell? ⟨gb138, 1, none⟩ = some (.int .i64 ((rd_T32 l2 x9_1).f1)) := (blk_cell BK138.out 1).trans rfl
                        have hfz27_0 := blk_frozen BK138.out 0
                        have hfz27_1 := blk_frozen BK138.out 1
                        go_wp2
                        go_meet
                        case rel => exact ⟨_, (wrap64 (x8_1 - ((rd_T32 l2 x9_1).f1))), (by first | rfl | (simp; done) | (simp [*]; done)), H', ⟨by have := HK1.out; have := HJ7.out; have := HJ13.out; first | omega | exact Nat.le_refl _⟩, ⟨by (with_reducible repeat (first | refine blk_drewN ?_ _ | refine blk_drew ?_ | refine blk_alloc ?_ _)); exact BK138.out⟩, ⟨by repeat (first | (with_reducible first | exact HI132.out | apply IsS89.alloc | apply IsS89.drewN | apply IsS89.drew | apply IsS89.set_0 | apply IsS89.set_1 | refine IsS89.far ?_ NB132_138.out _) | exact HI132.out)⟩, ⟨by repeat (first | (with_reducible first | exact HB.out | apply below_alloc | apply pw_below_drewN | apply below_drew1 | refine below_set ?_ (IsS89.ge HI132.out) | refine below_set ?_ GE138.out) | exact HB.out)⟩⟩
                      · replace c25 := Bool.eq_false_iff.mpr c25
                        subst c25
                        have H1 : (logjamlaw18_SemaSums.j3 kj13 l2 x8_1 x9_1 t139 t140 t141 ((rd_T32 l2 x9_1).f0) ((rd_T32 l2 x9_1).f1)) = some r := by rw [if_neg (show ¬ (false = true) by decide)] at H; exact H
                        clear H
                        have H := H1
                        clear H1
                        have H' := Aside0.mk H
                        clear H
                        go_wp2
                        go_meet
                        case rel => exact ⟨_, (x8_1), (by first | rfl | (simp; done) | (simp [*]; done)), H', ⟨by have := HK1.out; have := HJ7.out; have := HJ13.out; first | omega | exact Nat.le_refl _⟩, ⟨by (with_reducible repeat (first | refine blk_drewN ?_ _ | refine blk_drew ?_ | refine blk_alloc ?_ _)); exact BK138.out⟩, ⟨by repeat (first | (with_reducible first | exact HI132.out | apply IsS89.alloc | apply IsS89.drewN | apply IsS89.drew | apply IsS89.set_0 | apply IsS89.set_1 | refine IsS89.far ?_ NB132_138.out _) | exact HI132.out)⟩, ⟨by repeat (first | (with_reducible first | exact HB.out | apply below_alloc | apply pw_below_drewN | apply below_drew1 | refine below_set ?_ (IsS89.ge HI132.out) | refine below_set ?_ GE138.out) | exact HB.out)⟩⟩
                    case rest =>
                      clear HC24
                      try clear c1
                      try clear p1
                      try clear q1
                      try clear hx1
                      try clear c2
                      try clear p2
                      try clear c4
                      try clear p6
                      try clear c9
                      try clear c9b0
                      try clear c10
                      try clear c11
                      try clear c11b0
                      try clear c12
                      try clear c12b0
                      try clear p13
                      try clear q13
                      try clear hx13
                      try clear c14
                      try clear c16
                      try clear c19
                      try clear c19b0
                      try clear c19b1
                      try clear c20
                      try clear c22
                      try clear c25
                      try clear c26
                      try clear hcz17_0
                      try clear hcz17_1
                      try clear hcz21_0
                      try clear hcz21_1
                      try clear hcz23_0
                      try clear hcz23_1
                      try clear hcz27_0
                      try clear hcz27_1
                      try clear hfz17_0
                      try clear hfz17_1
                      try clear hfz21_0
                      try clear hfz21_1
                      try clear hfz23_0
                      try clear hfz23_1
                      try clear hfz27_0
                      try clear hfz27_1
                      try clear hx137_0
                      try clear hx137_1
                      try clear p1
                      try clear p13
                      try clear p137
                      try clear p2
                      try clear q1
                      try clear q13
                      try clear q137
                      obtain ⟨kq, x8_23, rfl, HA, HJ23, BK138, HI132, HB⟩ := hcut
                      cases kq with
                      | zero => exact absurd HA.out (by simp [logjamlaw18_SemaSums.j3])
                      | succ kj23 =>
                        have H := HA.out
                        clear HA
                        simp only [logjamlaw18_SemaSums.j3] at H
                        have HC28 := Aside0.mk H
                        clear H
                        go_upto_region 12 with (fail)
                        go_cut [53] (fun v53 wc => ∃ (kq : Nat) (x53_27 : Bool), v53 = .bool x53_27 ∧ Aside0 (logjamlaw18_SemaSums.j4 kq l2 x8_23 x9_1 t139 x53_27 t140 t141 ((rd_T32 l2 x9_1).f0) ((rd_T32 l2 x9_1).f1) = some r) ∧ Aside0 (kq ≤ kj23) ∧ Aside0 (wc.heap[gb138]? = some (.cells #[.int .i64 ((rd_T32 l2 x9_1).f0), .int .i64 ((rd_T32 l2 x9_1).f1)] 32 (0, 0))) ∧ Aside0 (IsS89 w wc g132 t140 t141) ∧ Aside0 (Below w.heap.size w wc))
                        case first =>
                          have H := HC28.out
                          clear HC28
                          by_cases c29 : ((rd_T32 l2 x9_1).f0) = 1
                          · rw [if_pos c29] at H
                            have c29b0 : (((rd_T32 l2 x9_1).f0) == 1) = true := beq_iff_eq.mpr c29
                            have c29b1 : (((rd_T32 l2 x9_1).f0) != 1) = false := bne_eq_false_iff_eq.mpr c29
                            clear c29
                            (first | rw [c29b0] | (simp only [i64_w, i32_w]; rw [c29b0]) | skip)
                            have H' := Aside0.mk H
                            clear H
                            have hnb30 := NB138_132.out
                            have hnc30 := NB132_138.out
                            have hcz31_0 : wc.cell? ⟨gb138, 0, none⟩ = some (.int .i64 ((rd_T32 l2 x9_1).f0)) := (blk_cell BK138.out 0).trans rfl
                            have hcz31_1 : wc.cell? ⟨gb138, 1, none⟩ = some (.int .i64 ((rd_T32 l2 x9_1).f1)) := (blk_cell BK138.out 1).trans rfl
                            have hfz31_0 := blk_frozen BK138.out 0
                            have hfz31_1 := blk_frozen BK138.out 1
                            go_wp2
                            go_meet
                            case rel => exact ⟨_, ((t139 == 0)), (by first | rfl | (simp; done) | (simp [*]; done)), H', ⟨by have := HK1.out; have := HJ7.out; have := HJ13.out; have := HJ23.out; first | omega | exact Nat.le_refl _⟩, ⟨by (with_reducible repeat (first | refine blk_drewN ?_ _ | refine blk_drew ?_ | refine blk_alloc ?_ _)); exact BK138.out⟩, ⟨by repeat (first | (with_reducible first | exact HI132.out | apply IsS89.alloc | apply IsS89.drewN | apply IsS89.drew | apply IsS89.set_0 | apply IsS89.set_1 | refine IsS89.far ?_ NB132_138.out _) | exact HI132.out)⟩, ⟨by repeat (first | (with_reducible first | exact HB.out | apply below_alloc | apply pw_below_drewN | apply below_drew1 | refine below_set ?_ (IsS89.ge HI132.out) | refine below_set ?_ GE138.out) | exact HB.out)⟩⟩
                          · rw [if_neg c29] at H
                            have c29b0 : (((rd_T32 l2 x9_1).f0) == 1) = false := beq_eq_false_iff_ne.mpr c29
                            have c29b1 : (((rd_T32 l2 x9_1).f0) != 1) = true := bne_iff_ne.mpr c29
                            (first | rw [c29b0] | (simp only [i64_w, i32_w]; rw [c29b0]) | skip)
                            have H' := Aside0.mk H
                            clear H
                            have hnb32 := NB138_132.out
                            have hnc32 := NB132_138.out
                            have hcz33_0 : wc.cell? ⟨gb138, 0, none⟩ = some (.int .i64 ((rd_T32 l2 x9_1).f0)) := (blk_cell BK138.out 0).trans rfl
                            have hcz33_1 : wc.cell? ⟨gb138, 1, none⟩ = some (.int .i64 ((rd_T32 l2 x9_1).f1)) := (blk_cell BK138.out 1).trans rfl
                            have hfz33_0 := blk_frozen BK138.out 0
                            have hfz33_1 := blk_frozen BK138.out 1
                            go_wp2
                            go_meet
                            case rel => exact ⟨_, (false), (by first | rfl | (simp; done) | (simp [*]; done)), H', ⟨by have := HK1.out; have := HJ7.out; have := HJ13.out; have := HJ23.out; first | omega | exact Nat.le_refl _⟩, ⟨by (with_reducible repeat (first | refine blk_drewN ?_ _ | refine blk_drew ?_ | refine blk_alloc ?_ _)); exact BK138.out⟩, ⟨by repeat (first | (with_reducible first | exact HI132.out | apply IsS89.alloc | apply IsS89.drewN | apply IsS89.drew | apply IsS89.set_0 | apply IsS89.set_1 | refine IsS89.far ?_ NB132_138.out _) | exact HI132.out)⟩, ⟨by repeat (first | (with_reducible first | exact HB.out | apply below_alloc | apply pw_below_drewN | apply below_drew1 | refine below_set ?_ (IsS89.ge HI132.out) | refine below_set ?_ GE138.out) | exact HB.out)⟩⟩
                        case rest =>
                          clear HC28
                          try clear c1
                          try clear p1
                          try clear q1
                          try clear hx1
                          try clear c2
                          try clear p2
                          try clear c3
                          try clear c4
                          try clear p6
                          try clear c9
                          try clear c9b0
                          try clear c10
                          try clear c11
                          try clear c11b0
                          try clear c12
                          try clear c12b0
                          try clear p13
                          try clear q13
                          try clear hx13
                          try clear c14
                          try clear c16
                          try clear c19
                          try clear c19b0
                          try clear c19b1
                          try clear c20
                          try clear c22
                          try clear c25
                          try clear c26
                          try clear c29
                          try clear c29b0
                          try clear c29b1
                          try clear c30
                          try clear c32
                          try clear hcz17_0
                          try clear hcz17_1
                          try clear hcz21_0
                          try clear hcz21_1
                          try clear hcz23_0
                          try clear hcz23_1
                          try clear hcz27_0
                          try clear hcz27_1
                          try clear hcz31_0
                          try clear hcz31_1
                          try clear hcz33_0
                          try clear hcz33_1
                          try clear hfz17_0
                          try clear hfz17_1
                          try clear hfz21_0
                          try clear hfz21_1
                          try clear hfz23_0
                          try clear hfz23_1
                          try clear hfz27_0
                          try clear hfz27_1
                          try clear hfz31_0
                          try clear hfz31_1
                          try clear hfz33_0
                          try clear hfz33_1
                          try clear hx137_0
                          try clear hx137_1
                          try clear p1
                          try clear p13
                          try clear p137
                          try clear p2
                          try clear p6
                          try clear q1
                          try clear q13
                          try clear q137
                          obtain ⟨kq, x53_27, rfl, HA, HJ27, BK138, HI132, HB⟩ := hcut
                          cases kq with
                          | zero => exact absurd HA.out (by simp [logjamlaw18_SemaSums.j4])
                          | succ kj27 =>
                            have H := HA.out
                            clear HA
                            simp only [logjamlaw18_SemaSums.j4] at H
                            have HC34 := Aside0.mk H
                            clear H
                            go_upto_if 53 with (fail)
                            go_cut [8] (fun v8 wc => ∃ (kq : Nat) (x8_33 : Int), v8 = .int .i64 x8_33 ∧ Aside0 (logjamlaw18_SemaSums.j5 kq l2 x8_33 x9_1 t139 t140 t141 ((rd_T32 l2 x9_1).f0) ((rd_T32 l2 x9_1).f1) = some r) ∧ Aside0 (kq ≤ kj27) ∧ Aside0 (wc.heap[gb138]? = some (.cells #[.int .i64 ((rd_T32 l2 x9_1).f0), .int .i64 ((rd_T32 l2 x9_1).f1)] 32 (0, 0))) ∧ Aside0 (IsS89 w wc g132 t140 t141) ∧ Aside0 (Below w.heap.size w wc))
                            case first =>
                              have H := HC34.out
                              clear HC34
                              by_cases c35 : x53_27 = true
                              · subst c35
                                have H1 : (logjamlaw18_SemaSums.j5 kj27 l2 (wrap64 (x8_23 + ((rd_T32 l2 x9_1).f1))) x9_1 t139 t140 t141 ((rd_T32 l2 x9_1).f0) ((rd_T32 l2 x9_1).f1)) = some r := by rw [if_pos rfl] at H; exact H
                                clear H
                                have H := H1
                                clear H1
                                have H' := Aside0.mk H
                                clear H
                                have hnb36 := NB138_132.out
                                have hnc36 := NB132_138.out
                                have hcz37_0 : wc.cell? ⟨gb138, 0, none⟩ = some (.int .i64 ((rd_T32 l2 x9_1).f0)) := (blk_cell BK138.out 0).trans rfl
                                have hcz37_1 : wc.cell? ⟨gb138, 1, none⟩ = some (.int .i64 ((rd_T32 l2 x9_1).f1)) := (blk_cell BK138.out 1).trans rfl
                                have hfz37_0 := blk_frozen BK138.out 0
                                have hfz37_1 := blk_frozen BK138.out 1
                                go_wp2
                                go_meet
                                case rel => exact ⟨_, (wrap64 (x8_23 + ((rd_T32 l2 x9_1).f1))), (by first | rfl | (simp; done) | (simp [*]; done)), H', ⟨by have := HK1.out; have := HJ7.out; have := HJ13.out; have := HJ23.out; have := HJ27.out; first | omega | exact Nat.le_refl _⟩, ⟨by (with_reducible repeat (first | refine blk_drewN ?_ _ | refine blk_drew ?_ | refine blk_alloc ?_ _)); exact BK138.out⟩, ⟨by repeat (first | (with_reducible first | exact HI132.out | apply IsS89.alloc | apply IsS89.drewN | apply IsS89.drew | apply IsS89.set_0 | apply IsS89.set_1 | refine IsS89.far ?_ NB132_138.out _) | exact HI132.out)⟩, ⟨by repeat (first | (with_reducible first | exact HB.out | apply below_alloc | apply pw_below_drewN | apply below_drew1 | refine below_set ?_ (IsS89.ge HI132.out) | refine below_set ?_ GE138.out) | exact HB.out)⟩⟩
                              · replace c35 := Bool.eq_false_iff.mpr c35
                                subst c35
                                have H1 : (logjamlaw18_SemaSums.j5 kj27 l2 x8_23 x9_1 t139 t140 t141 ((rd_T32 l2 x9_1).f0) ((rd_T32 l2 x9_1).f1)) = some r := by rw [if_neg (show ¬ (false = true) by decide)] at H; exact H
                                clear H
                                have H := H1
                                clear H1
                                have H' := Aside0.mk H
                                clear H
                                go_wp2
                                go_meet
                                case rel => exact ⟨_, (x8_23), (by first | rfl | (simp; done) | (simp [*]; done)), H', ⟨by have := HK1.out; have := HJ7.out; have := HJ13.out; have := HJ23.out; have := HJ27.out; first | omega | exact Nat.le_refl _⟩, ⟨by (with_reducible repeat (first | refine blk_drewN ?_ _ | refine blk_drew ?_ | refine blk_alloc ?_ _)); exact BK138.out⟩, ⟨by repeat (first | (with_reducible first | exact HI132.out | apply IsS89.alloc | apply IsS89.drewN | apply IsS89.drew | apply IsS89.set_0 | apply IsS89.set_1 | refine IsS89.far ?_ NB132_138.out _) | exact HI132.out)⟩, ⟨by repeat (first | (with_reducible first | exact HB.out | apply below_alloc | apply pw_below_drewN | apply below_drew1 | refine below_set ?_ (IsS89.ge HI132.out) | refine below_set ?_ GE138.out) | exact HB.out)⟩⟩
                            case rest =>
                              clear HC34
                              try clear c1
                              try clear p1
                              try clear q1
                              try clear hx1
                              try clear c2
                              try clear p2
                              try clear c3
                              try clear c4
                              try clear p6
                              try clear c9
                              try clear c9b0
                              try clear c10
                              try clear c11
                              try clear c11b0
                              try clear c12
                              try clear c12b0
                              try clear p13
                              try clear q13
                              try clear hx13
                              try clear c14
                              try clear c16
                              try clear c19
                              try clear c19b0
                              try clear c19b1
                              try clear c20
                              try clear c22
                              try clear c25
                              try clear c26
                              try clear c29
                              try clear c29b0
                              try clear c29b1
                              try clear c30
                              try clear c32
                              try clear c35
                              try clear c36
                              try clear hcz17_0
                              try clear hcz17_1
                              try clear hcz21_0
                              try clear hcz21_1
                              try clear hcz23_0
                              try clear hcz23_1
                              try clear hcz27_0
                              try clear hcz27_1
                              try clear hcz31_0
                              try clear hcz31_1
                              try clear hcz33_0
                              try clear hcz33_1
                              try clear hcz37_0
                              try clear hcz37_1
                              try clear hfz17_0
                              try clear hfz17_1
                              try clear hfz21_0
                              try clear hfz21_1
                              try clear hfz23_0
                              try clear hfz23_1
                              try clear hfz27_0
                              try clear hfz27_1
                              try clear hfz31_0
                              try clear hfz31_1
                              try clear hfz33_0
                              try clear hfz33_1
                              try clear hfz37_0
                              try clear hfz37_1
                              try clear hx137_0
                              try clear hx137_1
                              try clear p1
                              try clear p13
                              try clear p137
                              try clear p2
                              try clear p6
                              try clear q1
                              try clear q13
                              try clear q137
                              obtain ⟨kq, x8_33, rfl, HA, HJ33, BK138, HI132, HB⟩ := hcut
                              cases kq with
                              | zero => exact absurd HA.out (by simp [logjamlaw18_SemaSums.j5])
                              | succ kj33 =>
                                have H := HA.out
                                clear HA
                                simp only [logjamlaw18_SemaSums.j5] at H
                                have HC38 := Aside0.mk H
                                clear H
                                go_upto_region 14 with (fail)
                                go_cut [65] (fun v65 wc => ∃ (kq : Nat) (x65_37 : Bool), v65 = .bool x65_37 ∧ Aside0 (logjamlaw18_SemaSums.j6 kq l2 x8_33 x9_1 t139 x65_37 t140 t141 = some r) ∧ Aside0 (kq ≤ kj33) ∧ Aside0 (wc.heap[gb138]? = some (.cells #[.int .i64 ((rd_T32 l2 x9_1).f0), .int .i64 ((rd_T32 l2 x9_1).f1)] 32 (0, 0))) ∧ Aside0 (IsS89 w wc g132 t140 t141) ∧ Aside0 (Below w.heap.size w wc))
                                case first =>
                                  have H := HC38.out
                                  clear HC38
                                  by_cases c39 : ((rd_T32 l2 x9_1).f0) = 0
                                  · rw [if_pos c39] at H
                                    have c39b0 : (((rd_T32 l2 x9_1).f0) == 0) = true := beq_iff_eq.mpr c39
                                    have c39b1 : (((rd_T32 l2 x9_1).f0) != 0) = false := bne_eq_false_iff_eq.mpr c39
                                    clear c39
                                    (first | rw [c39b0] | (simp only [i64_w, i32_w]; rw [c39b0]) | skip)
                                    have H' := Aside0.mk H
                                    clear H
                                    have hnb40 := NB138_132.out
                                    have hnc40 := NB132_138.out
                                    have hcz41_0 : wc.cell? ⟨gb138, 0, none⟩ = some (.int .i64 ((rd_T32 l2 x9_1).f0)) := (blk_cell BK138.out 0).trans rfl
                                    have hcz41_1 : wc.cell? ⟨gb138, 1, none⟩ = some (.int .i64 ((rd_T32 l2 x9_1).f1)) := (blk_cell BK138.out 1).trans rfl
                                    have hfz41_0 := blk_frozen BK138.out 0
                                    have hfz41_1 := blk_frozen BK138.out 1
                                    go_wp2
                                    go_meet
                                    case rel => exact ⟨_, (false), (by first | rfl | (simp; done) | (simp [*]; done)), H', ⟨by have := HK1.out; have := HJ7.out; have := HJ13.out; have := HJ23.out; have := HJ27.out; have := HJ33.out; first | omega | exact Nat.le_refl _⟩, ⟨by (with_reducible repeat (first | refine blk_drewN ?_ _ | refine blk_drew ?_ | refine blk_alloc ?_ _)); exact BK138.out⟩, ⟨by repeat (first | (with_reducible first | exact HI132.out | apply IsS89.alloc | apply IsS89.drewN | apply IsS89.drew | apply IsS89.set_0 | apply IsS89.set_1 | refine IsS89.far ?_ NB132_138.out _) | exact HI132.out)⟩, ⟨by repeat (first | (with_reducible first | exact HB.out | apply below_alloc | apply pw_below_drewN | apply below_drew1 | refine below_set ?_ (IsS89.ge HI132.out) | refine below_set ?_ GE138.out) | exact HB.out)⟩⟩
                                  · rw [if_neg c39] at H
                                    have c39b0 : (((rd_T32 l2 x9_1).f0) == 0) = false := beq_eq_false_iff_ne.mpr c39
                                    have c39b1 : (((rd_T32 l2 x9_1).f0) != 0) = true := bne_iff_ne.mpr c39
                                    (first | rw [c39b0] | (simp only [i64_w, i32_w]; rw [c39b0]) | skip)
                                    have H' := Aside0.mk H
                                    clear H
                                    have hnb42 := NB138_132.out
                                    have hnc42 := NB132_138.out
                                    have hcz43_0 : wc.cell? ⟨gb138, 0, none⟩ = some (.int .i64 ((rd_T32 l2 x9_1).f0)) := (blk_cell BK138.out 0).trans rfl
                                    have hcz43_1 : wc.cell? ⟨gb138, 1, none⟩ = some (.int .i64 ((rd_T32 l2 x9_1).f1)) := (blk_cell BK138.out 1).trans rfl
                                    have hfz43_0 := blk_frozen BK138.out 0
                                    have hfz43_1 := blk_frozen BK138.out 1
                                    go_wp2
                                    go_meet
                                    case rel => exact ⟨_, ((((rd_T32 l2 x9_1).f0) != 1)), (by first | rfl | (simp; done) | (simp [*]; done)), H', ⟨by have := HK1.out; have := HJ7.out; have := HJ13.out; have := HJ23.out; have := HJ27.out; have := HJ33.out; first | omega | exact Nat.le_refl _⟩, ⟨by (with_reducible repeat (first | refine blk_drewN ?_ _ | refine blk_drew ?_ | refine blk_alloc ?_ _)); exact BK138.out⟩, ⟨by repeat (first | (with_reducible first | exact HI132.out | apply IsS89.alloc | apply IsS89.drewN | apply IsS89.drew | apply IsS89.set_0 | apply IsS89.set_1 | refine IsS89.far ?_ NB132_138.out _) | exact HI132.out)⟩, ⟨by repeat (first | (with_reducible first | exact HB.out | apply below_alloc | apply pw_below_drewN | apply below_drew1 | refine below_set ?_ (IsS89.ge HI132.out) | refine below_set ?_ GE138.out) | exact HB.out)⟩⟩
                                case rest =>
                                  clear HC38
                                  try clear c1
                                  try clear p1
                                  try clear q1
                                  try clear hx1
                                  try clear c2
                                  try clear p2
                                  try clear c3
                                  try clear c4
                                  try clear p6
                                  try clear c9
                                  try clear c9b0
                                  try clear c10
                                  try clear c11
                                  try clear c11b0
                                  try clear c12
                                  try clear c12b0
                                  try clear p13
                                  try clear q13
                                  try clear hx13
                                  try clear c14
                                  try clear c16
                                  try clear c19
                                  try clear c19b0
                                  try clear c19b1
                                  try clear c20
                                  try clear c22
                                  try clear c25
                                  try clear c26
                                  try clear c29
                                  try clear c29b0
                                  try clear c29b1
                                  try clear c30
                                  try clear c32
                                  try clear c35
                                  try clear c36
                                  try clear c39
                                  try clear c39b0
                                  try clear c39b1
                                  try clear c40
                                  try clear c42
                                  try clear hcz17_0
                                  try clear hcz17_1
                                  try clear hcz21_0
                                  try clear hcz21_1
                                  try clear hcz23_0
                                  try clear hcz23_1
                                  try clear hcz27_0
                                  try clear hcz27_1
                                  try clear hcz31_0
                                  try clear hcz31_1
                                  try clear hcz33_0
                                  try clear hcz33_1
                                  try clear hcz37_0
                                  try clear hcz37_1
                                  try clear hcz41_0
                                  try clear hcz41_1
                                  try clear hcz43_0
                                  try clear hcz43_1
                                  try clear hfz17_0
                                  try clear hfz17_1
                                  try clear hfz21_0
                                  try clear hfz21_1
                                  try clear hfz23_0
                                  try clear hfz23_1
                                  try clear hfz27_0
                                  try clear hfz27_1
                                  try clear hfz31_0
                                  try clear hfz31_1
                                  try clear hfz33_0
                                  try clear hfz33_1
                                  try clear hfz37_0
                                  try clear hfz37_1
                                  try clear hfz41_0
                                  try clear hfz41_1
                                  try clear hfz43_0
                                  try clear hfz43_1
                                  try clear hx137_0
                                  try clear hx137_1
                                  try clear p1
                                  try clear p13
                                  try clear p137
                                  try clear p2
                                  try clear p6
                                  try clear q1
                                  try clear q13
                                  try clear q137
                                  obtain ⟨kq, x65_37, rfl, HA, HJ37, BK138, HI132, HB⟩ := hcut
                                  cases kq with
                                  | zero => exact absurd HA.out (by simp [logjamlaw18_SemaSums.j6])
                                  | succ kj37 =>
                                    have H := HA.out
                                    clear HA
                                    simp only [logjamlaw18_SemaSums.j6] at H
                                    have HC44 := Aside0.mk H
                                    clear H
                                    go_upto_if 65 with (fail)
                                    go_cut [8] (fun v8 wc => ∃ (kq : Nat) (x8_43 : Int), v8 = .int .i64 x8_43 ∧ Aside0 (logjamlaw18_SemaSums.j7 kq l2 x8_43 x9_1 t140 t141 = some r) ∧ Aside0 (kq ≤ kj37) ∧ Aside0 (wc.heap[gb138]? = some (.cells #[.int .i64 ((rd_T32 l2 x9_1).f0), .int .i64 ((rd_T32 l2 x9_1).f1)] 32 (0, 0))) ∧ Aside0 (IsS89 w wc g132 t140 t141) ∧ Aside0 (Below w.heap.size w wc))
                                    case first =>
                                      have H := HC44.out
                                      clear HC44
                                      by_cases c45 : x65_37 = true
                                      · subst c45
                                        have H1 : (logjamlaw18_SemaSums.j7 kj37 l2 (wrap64 (x8_33 + t139)) x9_1 t140 t141) = some r := by rw [if_pos rfl] at H; exact H
                                        clear H
                                        have H := H1
                                        clear H1
                                        have H' := Aside0.mk H
                                        clear H
                                        go_wp2
                                        go_meet
                                        case rel => exact ⟨_, (wrap64 (x8_33 + t139)), (by first | rfl | (simp; done) | (simp [*]; done)), H', ⟨by have := HK1.out; have := HJ7.out; have := HJ13.out; have := HJ23.out; have := HJ27.out; have := HJ33.out; have := HJ37.out; first | omega | exact Nat.le_refl _⟩, ⟨by (with_reducible repeat (first | refine blk_drewN ?_ _ | refine blk_drew ?_ | refine blk_alloc ?_ _)); exact BK138.out⟩, ⟨by repeat (first | (with_reducible first | exact HI132.out | apply IsS89.alloc | apply IsS89.drewN | apply IsS89.drew | apply IsS89.set_0 | apply IsS89.set_1 | refine IsS89.far ?_ NB132_138.out _) | exact HI132.out)⟩, ⟨by repeat (first | (with_reducible first | exact HB.out | apply below_alloc | apply pw_below_drewN | apply below_drew1 | refine below_set ?_ (IsS89.ge HI132.out) | refine below_set ?_ GE138.out) | exact HB.out)⟩⟩
                                      · replace c45 := Bool.eq_false_iff.mpr c45
                                        subst c45
                                        have H1 : (logjamlaw18_SemaSums.j7 kj37 l2 x8_33 x9_1 t140 t141) = some r := by rw [if_neg (show ¬ (false = true) by decide)] at H; exact H
                                        clear H
                                        have H := H1
                                        clear H1
                                        have H' := Aside0.mk H
                                        clear H
                                        go_wp2
                                        go_meet
                                        case rel => exact ⟨_, (x8_33), (by first | rfl | (simp; done) | (simp [*]; done)), H', ⟨by have := HK1.out; have := HJ7.out; have := HJ13.out; have := HJ23.out; have := HJ27.out; have := HJ33.out; have := HJ37.out; first | omega | exact Nat.le_refl _⟩, ⟨by (with_reducible repeat (first | refine blk_drewN ?_ _ | refine blk_drew ?_ | refine blk_alloc ?_ _)); exact BK138.out⟩, ⟨by repeat (first | (with_reducible first | exact HI132.out | apply IsS89.alloc | apply IsS89.drewN | apply IsS89.drew | apply IsS89.set_0 | apply IsS89.set_1 | refine IsS89.far ?_ NB132_138.out _) | exact HI132.out)⟩, ⟨by repeat (first | (with_reducible first | exact HB.out | apply below_alloc | apply pw_below_drewN | apply below_drew1 | refine below_set ?_ (IsS89.ge HI132.out) | refine below_set ?_ GE138.out) | exact HB.out)⟩⟩
                                    case rest =>
                                      clear HC44
                                      try clear c1
                                      try clear p1
                                      try clear q1
                                      try clear hx1
                                      try clear c2
                                      try clear p2
                                      try clear c3
                                      try clear c4
                                      try clear p6
                                      try clear c9
                                      try clear c9b0
                                      try clear c10
                                      try clear c11
                                      try clear c11b0
                                      try clear c12
                                      try clear c12b0
                                      try clear p13
                                      try clear q13
                                      try clear hx13
                                      try clear c14
                                      try clear c16
                                      try clear c19
                                      try clear c19b0
                                      try clear c19b1
                                      try clear c20
                                      try clear c22
                                      try clear c25
                                      try clear c26
                                      try clear c29
                                      try clear c29b0
                                      try clear c29b1
                                      try clear c30
                                      try clear c32
                                      try clear c35
                                      try clear c36
                                      try clear c39
                                      try clear c39b0
                                      try clear c39b1
                                      try clear c40
                                      try clear c42
                                      try clear c45
                                      try clear hcz17_0
                                      try clear hcz17_1
                                      try clear hcz21_0
                                      try clear hcz21_1
                                      try clear hcz23_0
                                      try clear hcz23_1
                                      try clear hcz27_0
                                      try clear hcz27_1
                                      try clear hcz31_0
                                      try clear hcz31_1
                                      try clear hcz33_0
                                      try clear hcz33_1
                                      try clear hcz37_0
                                      try clear hcz37_1
                                      try clear hcz41_0
                                      try clear hcz41_1
                                      try clear hcz43_0
                                      try clear hcz43_1
                                      try clear hfz17_0
                                      try clear hfz17_1
                                      try clear hfz21_0
                                      try clear hfz21_1
                                      try clear hfz23_0
                                      try clear hfz23_1
                                      try clear hfz27_0
                                      try clear hfz27_1
                                      try clear hfz31_0
                                      try clear hfz31_1
                                      try clear hfz33_0
                                      try clear hfz33_1
                                      try clear hfz37_0
                                      try clear hfz37_1
                                      try clear hfz41_0
                                      try clear hfz41_1
                                      try clear hfz43_0
                                      try clear hfz43_1
                                      try clear hx137_0
                                      try clear hx137_1
                                      try clear p1
                                      try clear p13
                                      try clear p137
                                      try clear p2
                                      try clear p6
                                      try clear q1
                                      try clear q13
                                      try clear q137
                                      obtain ⟨kq, x8_43, rfl, HA, HJ43, BK138, HI132, HB⟩ := hcut
                                      cases kq with
                                      | zero => exact absurd HA.out (by simp [logjamlaw18_SemaSums.j7])
                                      | succ kj43 =>
                                        have H := HA.out
                                        clear HA
                                        simp only [logjamlaw18_SemaSums.j7] at H
                                        replace H := Option.bind_eq_some_iff.mp H
                                        obtain ⟨⟨t142, t143, t144⟩, A460, H⟩ := H
                                        replace H : (if t142 = x8_43 then (if x8_43 < 0 then (some false) else ((sema_Sema_Most.f t143 t144).bind fun bt145 => (if x8_43 > bt145.1 then (some false) else (logjamlaw18_SemaSums.l0 kj43 l2 x8_43 (wrap64 (x9_1 + 1)) bt145.2.1 bt145.2.2)))) else (some false)) = some r := H
                                        have A46 := Aside0.mk A460
                                        clear A460
                                        by_cases c47 : t142 = x8_43
                                        · rw [if_pos c47] at H
                                          have c47b0 : (t142 == x8_43) = true := beq_iff_eq.mpr c47
                                          have c47b1 : (t142 != x8_43) = false := bne_eq_false_iff_eq.mpr c47
                                          clear c47
                                          by_cases c48 : x8_43 < 0
                                          · rw [if_pos c48] at H
                                            have c48b0 : decide (x8_43 < 0) = true := decide_eq_true c48
                                            clear c48
                                            obtain rfl := Option.some.inj H
                                            go_wp2_with (first | ((with_reducible refine gate_callee (f := 16) rfl ?_); refine goesL_ (some 70) rfl rfl Try.func16 (by kernel_rfl) rfl #[.pointer (some ⟨g132, 0, none⟩)] rfl (by (try simp only [List.map_toArray, List.map_cons, List.map_nil]); first | done | rfl | (simp only [List.length_drop, List.length_take]; rfl)) ?_; (with_reducible refine (sema_Sema_Value.calls g132 t140 t141 t142 t143 t144 w _ ?side1 ?side2 A46.out).mono ?_); (case side1 => repeat (first | (with_reducible first | exact HI132.out | apply IsS89.alloc | apply IsS89.drewN | apply IsS89.drew | apply IsS89.set_0 | apply IsS89.set_1 | refine IsS89.far ?_ NB132_138.out _) | exact HI132.out)); (case side2 => repeat (first | (with_reducible first | exact HB.out | apply below_alloc | apply pw_below_drewN | apply below_drew1 | refine below_set ?_ (IsS89.ge HI132.out) | refine below_set ?_ GE138.out) | exact HB.out)); rintro e w49 ⟨rfl, hi, hb, hk⟩; refine ⟨_, rfl, ?_⟩; have n0_ := Aside0.mk (KeepBut.blk hk (g' := gb138) (o := .cells #[.int .i64 ((rd_T32 l2 x9_1).f0), .int .i64 ((rd_T32 l2 x9_1).f1)] 32 (0, 0)) (by (with_reducible repeat (first | refine blk_drewN ?_ _ | refine blk_drew ?_ | refine blk_alloc ?_ _)); exact BK138.out) NB138_132.out (by simp)); have n1_ := Aside0.mk (hb); have n2_ := Aside0.mk (hi); clear BK138; clear HB; clear HI132; have BK138 := n0_; have HB := n1_; have HI132 := n2_; clear n0_ n1_ n2_; (try clear hb); (try clear hb2); (try clear hk); (try clear hi)))
                                            go_ret
                                            exact ⟨by first | rfl | (simp [errW_none, errW_some] <;> rfl) | (simp [*, errW_none, errW_some] <;> rfl), by repeat (first | (with_reducible first | exact HB.out | apply below_alloc | apply pw_below_drewN | apply below_drew1 | refine below_set ?_ (IsS89.ge HI132.out) | refine below_set ?_ GE138.out) | exact HB.out)⟩
                                          · rw [if_neg c48] at H
                                            have c48b0 : decide (x8_43 < 0) = false := decide_eq_false c48
                                            clear c48
                                            replace H := Option.bind_eq_some_iff.mp H
                                            obtain ⟨⟨t145, t146, t147⟩, A500, H⟩ := H
                                            replace H : (if x8_43 > t145 then (some false) else (logjamlaw18_SemaSums.l0 kj43 l2 x8_43 (wrap64 (x9_1 + 1)) t146 t147)) = some r := H
                                            have A50 := Aside0.mk A500
                                            clear A500
                                            by_cases c51 : x8_43 > t145
                                            · rw [if_pos c51] at H
                                              have c51b0 : decide (t145 < x8_43) = true := decide_eq_true c51
                                              clear c51
                                              obtain rfl := Option.some.inj H
                                              go_wp2_with (first | ((with_reducible refine gate_callee (f := 16) rfl ?_); refine goesL_ (some 70) rfl rfl Try.func16 (by kernel_rfl) rfl #[.pointer (some ⟨g132, 0, none⟩)] rfl (by (try simp only [List.map_toArray, List.map_cons, List.map_nil]); first | done | rfl | (simp only [List.length_drop, List.length_take]; rfl)) ?_; (with_reducible refine (sema_Sema_Value.calls g132 t140 t141 t142 t143 t144 w _ ?side1 ?side2 A46.out).mono ?_); (case side1 => repeat (first | (with_reducible first | exact HI132.out | apply IsS89.alloc | apply IsS89.drewN | apply IsS89.drew | apply IsS89.set_0 | apply IsS89.set_1 | refine IsS89.far ?_ NB132_138.out _) | exact HI132.out)); (case side2 => repeat (first | (with_reducible first | exact HB.out | apply below_alloc | apply pw_below_drewN | apply below_drew1 | refine below_set ?_ (IsS89.ge HI132.out) | refine below_set ?_ GE138.out) | exact HB.out)); rintro e w52 ⟨rfl, hi, hb, hk⟩; refine ⟨_, rfl, ?_⟩; have n0_ := Aside0.mk (KeepBut.blk hk (g' := gb138) (o := .cells #[.int .i64 ((rd_T32 l2 x9_1).f0), .int .i64 ((rd_T32 l2 x9_1).f1)] 32 (0, 0)) (by (with_reducible repeat (first | refine blk_drewN ?_ _ | refine blk_drew ?_ | refine blk_alloc ?_ _)); exact BK138.out) NB138_132.out (by simp)); have n1_ := Aside0.mk (hb); have n2_ := Aside0.mk (hi); clear BK138; clear HB; clear HI132; have BK138 := n0_; have HB := n1_; have HI132 := n2_; clear n0_ n1_ n2_; (try clear hb); (try clear hb2); (try clear hk); (try clear hi)) | (go_at_call 17; (with_reducible refine (sema_Sema_Most.calls g132 t143 t144 t145 t146 t147 w _ ?side1 ?side2 A50.out).mono ?_); (case side1 => repeat (first | (with_reducible first | exact HI132.out | apply IsS89.alloc | apply IsS89.drewN | apply IsS89.drew | apply IsS89.set_0 | apply IsS89.set_1 | refine IsS89.far ?_ NB132_138.out _) | exact HI132.out)); (case side2 => repeat (first | (with_reducible first | exact HB.out | apply below_alloc | apply pw_below_drewN | apply below_drew1 | refine below_set ?_ (IsS89.ge HI132.out) | refine below_set ?_ GE138.out) | exact HB.out)); rintro e w53 ⟨rfl, hi, hb, hk⟩; have n0_ := Aside0.mk (KeepBut.blk hk (g' := gb138) (o := .cells #[.int .i64 ((rd_T32 l2 x9_1).f0), .int .i64 ((rd_T32 l2 x9_1).f1)] 32 (0, 0)) (by (with_reducible repeat (first | refine blk_drewN ?_ _ | refine blk_drew ?_ | refine blk_alloc ?_ _)); exact BK138.out) NB138_132.out (by simp)); have n1_ := Aside0.mk (hb); have n2_ := Aside0.mk (hi); clear BK138; clear HB; clear HI132; have BK138 := n0_; have HB := n1_; have HI132 := n2_; clear n0_ n1_ n2_; (try clear hb); (try clear hb2); (try clear hk); (try clear hi)))
                                              go_ret
                                              exact ⟨by first | rfl | (simp [errW_none, errW_some] <;> rfl) | (simp [*, errW_none, errW_some] <;> rfl), by repeat (first | (with_reducible first | exact HB.out | apply below_alloc | apply pw_below_drewN | apply below_drew1 | refine below_set ?_ (IsS89.ge HI132.out) | refine below_set ?_ GE138.out) | exact HB.out)⟩
                                            · rw [if_neg c51] at H
                                              have c51b0 : decide (t145 < x8_43) = false := decide_eq_false c51
                                              clear c51
                                              have H' := Aside0.mk H
                                              clear H
                                              go_wp2_with (first | ((with_reducible refine gate_callee (f := 16) rfl ?_); refine goesL_ (some 70) rfl rfl Try.func16 (by kernel_rfl) rfl #[.pointer (some ⟨g132, 0, none⟩)] rfl (by (try simp only [List.map_toArray, List.map_cons, List.map_nil]); first | done | rfl | (simp only [List.length_drop, List.length_take]; rfl)) ?_; (with_reducible refine (sema_Sema_Value.calls g132 t140 t141 t142 t143 t144 w _ ?side1 ?side2 A46.out).mono ?_); (case side1 => repeat (first | (with_reducible first | exact HI132.out | apply IsS89.alloc | apply IsS89.drewN | apply IsS89.drew | apply IsS89.set_0 | apply IsS89.set_1 | refine IsS89.far ?_ NB132_138.out _) | exact HI132.out)); (case side2 => repeat (first | (with_reducible first | exact HB.out | apply below_alloc | apply pw_below_drewN | apply below_drew1 | refine below_set ?_ (IsS89.ge HI132.out) | refine below_set ?_ GE138.out) | exact HB.out)); rintro e w54 ⟨rfl, hi, hb, hk⟩; refine ⟨_, rfl, ?_⟩; have n0_ := Aside0.mk (KeepBut.blk hk (g' := gb138) (o := .cells #[.int .i64 ((rd_T32 l2 x9_1).f0), .int .i64 ((rd_T32 l2 x9_1).f1)] 32 (0, 0)) (by (with_reducible repeat (first | refine blk_drewN ?_ _ | refine blk_drew ?_ | refine blk_alloc ?_ _)); exact BK138.out) NB138_132.out (by simp)); have n1_ := Aside0.mk (hb); have n2_ := Aside0.mk (hi); clear BK138; clear HB; clear HI132; have BK138 := n0_; have HB := n1_; have HI132 := n2_; clear n0_ n1_ n2_; (try clear hb); (try clear hb2); (try clear hk); (try clear hi)) | (go_at_call 17; (with_reducible refine (sema_Sema_Most.calls g132 t143 t144 t145 t146 t147 w _ ?side1 ?side2 A50.out).mono ?_); (case side1 => repeat (first | (with_reducible first | exact HI132.out | apply IsS89.alloc | apply IsS89.drewN | apply IsS89.drew | apply IsS89.set_0 | apply IsS89.set_1 | refine IsS89.far ?_ NB132_138.out _) | exact HI132.out)); (case side2 => repeat (first | (with_reducible first | exact HB.out | apply below_alloc | apply pw_below_drewN | apply below_drew1 | refine below_set ?_ (IsS89.ge HI132.out) | refine below_set ?_ GE138.out) | exact HB.out)); rintro e w55 ⟨rfl, hi, hb, hk⟩; have n0_ := Aside0.mk (KeepBut.blk hk (g' := gb138) (o := .cells #[.int .i64 ((rd_T32 l2 x9_1).f0), .int .i64 ((rd_T32 l2 x9_1).f1)] 32 (0, 0)) (by (with_reducible repeat (first | refine blk_drewN ?_ _ | refine blk_drew ?_ | refine blk_alloc ?_ _)); exact BK138.out) NB138_132.out (by simp)); have n1_ := Aside0.mk (hb); have n2_ := Aside0.mk (hi); clear BK138; clear HB; clear HI132; have BK138 := n0_; have HB := n1_; have HI132 := n2_; clear n0_ n1_ n2_; (try clear hb); (try clear hb2); (try clear hk); (try clear hi)))
                                              go_roundg kj43
                                              case measure => have := HK1.out; have := HJ7.out; have := HJ13.out; have := HJ23.out; have := HJ27.out; have := HJ33.out; have := HJ37.out; have := HJ43.out; omega
                                              case rel => exact ⟨(x8_43), (wrap64 (x9_1 + 1)), (t146), (t147), (by first | rfl | (simp; done) | (simp [*]; done)), (by first | rfl | (simp; done) | (simp [*]; done)), H', ⟨by have := HK1.out; have := HJ7.out; have := HJ13.out; have := HJ23.out; have := HJ27.out; have := HJ33.out; have := HJ37.out; have := HJ43.out; omega⟩, ⟨by repeat (first | (with_reducible first | exact HI132.out | apply IsS89.alloc | apply IsS89.drewN | apply IsS89.drew | apply IsS89.set_0 | apply IsS89.set_1 | refine IsS89.far ?_ NB132_138.out _) | exact HI132.out)⟩, ⟨by repeat (first | (with_reducible first | exact HB.out | apply below_alloc | apply pw_below_drewN | apply below_drew1 | refine below_set ?_ (IsS89.ge HI132.out) | refine below_set ?_ GE138.out) | exact HB.out)⟩⟩
                                        · rw [if_neg c47] at H
                                          have c47b0 : (t142 == x8_43) = false := beq_eq_false_iff_ne.mpr c47
                                          have c47b1 : (t142 != x8_43) = true := bne_iff_ne.mpr c47
                                          obtain rfl := Option.some.inj H
                                          go_wp2_with (first | ((with_reducible refine gate_callee (f := 16) rfl ?_); refine goesL_ (some 70) rfl rfl Try.func16 (by kernel_rfl) rfl #[.pointer (some ⟨g132, 0, none⟩)] rfl (by (try simp only [List.map_toArray, List.map_cons, List.map_nil]); first | done | rfl | (simp only [List.length_drop, List.length_take]; rfl)) ?_; (with_reducible refine (sema_Sema_Value.calls g132 t140 t141 t142 t143 t144 w _ ?side1 ?side2 A46.out).mono ?_); (case side1 => repeat (first | (with_reducible first | exact HI132.out | apply IsS89.alloc | apply IsS89.drewN | apply IsS89.drew | apply IsS89.set_0 | apply IsS89.set_1 | refine IsS89.far ?_ NB132_138.out _) | exact HI132.out)); (case side2 => repeat (first | (with_reducible first | exact HB.out | apply below_alloc | apply pw_below_drewN | apply below_drew1 | refine below_set ?_ (IsS89.ge HI132.out) | refine below_set ?_ GE138.out) | exact HB.out)); rintro e w56 ⟨rfl, hi, hb, hk⟩; refine ⟨_, rfl, ?_⟩; have n0_ := Aside0.mk (KeepBut.blk hk (g' := gb138) (o := .cells #[.int .i64 ((rd_T32 l2 x9_1).f0), .int .i64 ((rd_T32 l2 x9_1).f1)] 32 (0, 0)) (by (with_reducible repeat (first | refine blk_drewN ?_ _ | refine blk_drew ?_ | refine blk_alloc ?_ _)); exact BK138.out) NB138_132.out (by simp)); have n1_ := Aside0.mk (hb); have n2_ := Aside0.mk (hi); clear BK138; clear HB; clear HI132; have BK138 := n0_; have HB := n1_; have HI132 := n2_; clear n0_ n1_ n2_; (try clear hb); (try clear hb2); (try clear hk); (try clear hi)))
                                          go_ret
                                          exact ⟨by first | rfl | (simp [errW_none, errW_some] <;> rfl) | (simp [*, errW_none, errW_some] <;> rfl), by repeat (first | (with_reducible first | exact HB.out | apply below_alloc | apply pw_below_drewN | apply below_drew1 | refine below_set ?_ (IsS89.ge HI132.out) | refine below_set ?_ GE138.out) | exact HB.out)⟩
              · rw [if_neg c12] at H
                exact absurd H (by simp)
            · rw [if_neg c11] at H
              exact absurd H (by simp)
          · replace c10 := Bool.eq_false_iff.mpr c10
            subst c10
            have H1 : ((logjamlaw18_lives.f).bind fun t136 => (some t136)) = some r := by rw [if_neg (show ¬ (false = true) by decide)] at H; exact H
            clear H
            have H := H1
            clear H1
            replace H := Option.bind_eq_some_iff.mp H
            obtain ⟨t136, A570, H⟩ := H
            replace H : (some t136) = some r := H
            have A57 := Aside0.mk A570
            clear A570
            obtain rfl := Option.some.inj H
            go_wp2_with (first | ((with_reducible refine gate_callee (f := 20) rfl ?_); refine goesL_ (some 83) rfl rfl Try.func20 (by kernel_rfl) rfl #[] rfl (by (try simp only [List.map_toArray, List.map_cons, List.map_nil]); first | done | rfl | (simp only [List.length_drop, List.length_take]; rfl)) ?_; (with_reducible refine (logjamlaw18_lives.calls  t136 _ A57.out).mono ?_); rintro e w58 ⟨rfl, hb⟩; refine ⟨_, rfl, ?_⟩; have n0_ := Aside0.mk (IsS89.below (by repeat (first | (with_reducible first | exact HI132.out | apply IsS89.alloc | apply IsS89.drewN | apply IsS89.drew | apply IsS89.set_0 | apply IsS89.set_1) | exact HI132.out)) hb); have n1_ := Aside0.mk (below_step (by repeat (first | (with_reducible first | exact HB.out | apply below_alloc | apply pw_below_drewN | apply below_drew1 | refine below_set ?_ (IsS89.ge HI132.out)) | exact HB.out)) hb); clear HI132; clear HB; have HI132 := n0_; have HB := n1_; clear n0_ n1_; (try clear hb); (try clear hb2); (try clear hk); (try clear hi)))
            go_ret
            exact ⟨by first | rfl | (simp [errW_none, errW_some] <;> rfl) | (simp [*, errW_none, errW_some] <;> rfl), by repeat (first | (with_reducible first | exact HB.out | apply below_alloc | apply pw_below_drewN | apply below_drew1 | refine below_set ?_ (IsS89.ge HI132.out)) | exact HB.out)⟩

/-- THE ONE PURE STATEMENT of logjamlaw18_SemaSums: yours. -/
def ok32 (s : S32) : Prop := (fun x => (Lit.int .i64 x).wf = true) s.f0 ∧ (fun x => (Lit.int .i64 x).wf = true) s.f1
def logjamlaw18_SemaSums.Pure : Prop := ∀ (a0 : Int) (a1 : Int) (l2 : List (S32)), (fun x => (Lit.int .i64 x).wf = true) a0 → (fun x => (Lit.int .i64 x).wf = true) a1 → (fun l => (∀ a ∈ l, (ok32) a) ∧ l.length * 16 ≤ 140737488351232) l2 → ∃ k, logjamlaw18_SemaSums.f k a0 a1 l2 = some true

end Go.Proofs.Ytbnkanlfepdlkaa.PSemaSums
