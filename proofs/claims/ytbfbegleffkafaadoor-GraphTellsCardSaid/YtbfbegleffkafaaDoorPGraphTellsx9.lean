/- Go functions as plain Lean functions, and that the calls come to them. Conditions: none. (Written by a program of this session.) -/
import Derived.Test.YtbfbegleffkafaaDoorPGraphTellsx0
import Derived.Test.YtbfbegleffkafaaDoorPGraphTellsx1
import Derived.Test.YtbfbegleffkafaaDoorPGraphTellsx2
import Derived.Test.YtbfbegleffkafaaDoorPGraphTellsx5
import Derived.Test.YtbfbegleffkafaaDoorPGraphTellsx6
import Derived.Test.YtbfbegleffkafaaDoorPGraphTellsx7
import Derived.Test.YtbfbegleffkafaaDoorPGraphTellsx8
namespace Go.Proofs.YtbfbegleffkafaaDoor.PGraphTells
open Go.RowKit Go.Proofs.YtbfbegleffkafaaDoorW.PrintWords Go.Proofs.YtbfbegleffkafaaDoorW.PrintLast Go.Proofs.YtbfbegleffkafaaDoorW.PrintMore
attribute [local go_sem] max2_int min2_int max_two min_two max_three min_three max_four min_four   -- for this text's walks alone
set_option linter.unusedVariables false
set_option linter.unusedSimpArgs false

/-! ### logjamlaw26_GraphTells: function 5 -/
mutual
def logjamlaw26_GraphTells.j0 : Nat → List (S44) → List Int → Bool → Option (Bool)
  | 0,_,_,_=>none
  | k + 1,x0,x7,x77=>if x77 = true then (some false) else ((logjamref26_Order.f k x0).bind fun bt280=>(if (x7.length : Int) = (bt280.1.length : Int) then (logjamlaw26_GraphTells.l0 k x7 bt280.1 0) else (some false)))
def logjamlaw26_GraphTells.l0 : Nat → List Int → List Int → Int → Option (Bool)
  | 0,_,_,_=>none
  | k + 1,x7,x9,x11=>if x11 < (x7.length : Int) then (if 0 ≤ x11 then (if x11 < (x9.length : Int) then (if (rd x7 x11) = (rd x9 x11) then (logjamlaw26_GraphTells.l0 k x7 x9 (wrap64 (x11 + 1))) else (some false)) else (none)) else (none)) else ((logjamlaw26_lives.f k).bind fun t286=>(some t286))
end
def logjamlaw26_GraphTells.f (k : Nat) (l0 : List (S44)) (a1 : Int) (a2 : Int) : Option (Bool) := (logjamlaw26_Own.f k l0).bind fun t243 => ((logjamlaw26_Own.f k t243).bind fun t246 => ((graph_Order.f k t246).bind fun t249 => ((logjamlaw26_Own.f k t243).bind fun t252 => ((graph_Doomed.f k t252).bind fun t255 => (if (t243.length : Int) > 64 then ((logjamlaw26_Own.f k t243).bind fun t256 => ((graph_Check.f t256).bind fun t259 => (if t259 = 4 then (if (t249.length : Int) = 0 then (if t255 = 0 then ((logjamlaw26_Own.f k t243).bind fun t260 => ((graph_Closed.f k t260 a2).bind fun t263 => (if t263 = true then (some false) else ((logjamlaw26_lives.f k).bind fun t264 => (some t264))))) else (some false)) else (some false)) else (some false)))) else ((logjamlaw26_Own.f k t243).bind fun t265 => ((graph_Check.f t265).bind fun t268 => (if t268 = 0 then ((logjamlaw26_Own.f k t243).bind fun t269 => ((graph_Met.f k t269 a1 a2).bind fun t272 => ((logjamref26_Met.f k t243 a1 a2).bind fun t273 => (if (t272 != t273) = true then (logjamlaw26_GraphTells.j0 k t243 t249 true) else ((logjamlaw26_Own.f k t243).bind fun t274 => ((graph_Closed.f k t274 a2).bind fun t277 => ((logjamref26_Closed.f k t243 a2).bind fun t278 => (if (t277 != t278) = true then (logjamlaw26_GraphTells.j0 k t243 t249 true) else ((logjamref26_Doomed.f k t243).bind fun t279 => (logjamlaw26_GraphTells.j0 k t243 t249 (t255 != t279))))))))))) else (logjamlaw26_GraphTells.j0 k t243 t249 true)))))))))
theorem logjamlaw26_GraphTells.mono_l : ∀ k, (∀ y0 y1 y2, LeO (logjamlaw26_GraphTells.j0 k y0 y1 y2) (logjamlaw26_GraphTells.j0 (k + 1) y0 y1 y2)) ∧ (∀ y0 y1 y2, LeO (logjamlaw26_GraphTells.l0 k y0 y1 y2) (logjamlaw26_GraphTells.l0 (k + 1) y0 y1 y2))
  | 0=>⟨fun _ _ _ r h=>by simp [logjamlaw26_GraphTells.j0] at h,fun _ _ _ r h=>by simp [logjamlaw26_GraphTells.l0] at h⟩
  | k + 1=>by
    obtain ⟨ih0,ih1⟩:=logjamlaw26_GraphTells.mono_l k;refine ⟨?_,?_⟩
    all_goals intros
    all_goals first | unfold logjamlaw26_GraphTells.j0 | unfold logjamlaw26_GraphTells.l0
    all_goals
      repeat' first
      | (with_reducible exact ih0 _ _ _)
      | (with_reducible exact ih1 _ _ _)
      | (with_reducible exact graph_Closed.mono _ _ _)
      | (with_reducible exact graph_Doomed.mono _ _)
      | (with_reducible exact graph_Met.mono _ _ _ _)
      | (with_reducible exact graph_Order.mono _ _)
      | (with_reducible exact logjamlaw26_Own.mono _ _)
      | (with_reducible exact logjamlaw26_lives.mono _)
      | (with_reducible exact logjamref26_Closed.mono _ _ _)
      | (with_reducible exact logjamref26_Doomed.mono _ _)
      | (with_reducible exact logjamref26_Met.mono _ _ _ _)
      | (with_reducible exact logjamref26_Order.mono _ _)
      | (with_reducible exact LeO.refl _)
      | (with_reducible exact LeO.none _)
      | (with_reducible refine LeO.ite ?_ ?_)
      | (with_reducible refine LeO.bind ?_ (fun _=>?_))
      | exact ih0 _ _ _
      | exact ih1 _ _ _
      | exact graph_Closed.mono _ _ _
      | exact graph_Doomed.mono _ _
      | exact graph_Met.mono _ _ _ _
      | exact graph_Order.mono _ _
      | exact logjamlaw26_Own.mono _ _
      | exact logjamlaw26_lives.mono _
      | exact logjamref26_Closed.mono _ _ _
      | exact logjamref26_Doomed.mono _ _
      | exact logjamref26_Met.mono _ _ _ _
      | exact logjamref26_Order.mono _ _
      | exact LeO.none _
      | refine LeO.ite ?_ ?_
      | refine LeO.bind ?_ (fun _=>?_)
theorem logjamlaw26_GraphTells.mono : ∀ a0 a1 a2 k, LeO (logjamlaw26_GraphTells.f k a0 a1 a2) (logjamlaw26_GraphTells.f (k + 1) a0 a1 a2) := by
  intro a0 a1 a2 k
  obtain ⟨ih0,ih1⟩:=logjamlaw26_GraphTells.mono_l k;unfold logjamlaw26_GraphTells.f
  repeat' first
      | (with_reducible exact ih0 _ _ _)
      | (with_reducible exact ih1 _ _ _)
      | (with_reducible exact graph_Closed.mono _ _ _)
      | (with_reducible exact graph_Doomed.mono _ _)
      | (with_reducible exact graph_Met.mono _ _ _ _)
      | (with_reducible exact graph_Order.mono _ _)
      | (with_reducible exact logjamlaw26_Own.mono _ _)
      | (with_reducible exact logjamlaw26_lives.mono _)
      | (with_reducible exact logjamref26_Closed.mono _ _ _)
      | (with_reducible exact logjamref26_Doomed.mono _ _)
      | (with_reducible exact logjamref26_Met.mono _ _ _ _)
      | (with_reducible exact logjamref26_Order.mono _ _)
      | (with_reducible exact LeO.refl _)
      | (with_reducible exact LeO.none _)
      | (with_reducible refine LeO.ite ?_ ?_)
      | (with_reducible refine LeO.bind ?_ (fun _=>?_))
      | exact ih0 _ _ _
      | exact ih1 _ _ _
      | exact graph_Closed.mono _ _ _
      | exact graph_Doomed.mono _ _
      | exact graph_Met.mono _ _ _ _
      | exact graph_Order.mono _ _
      | exact logjamlaw26_Own.mono _ _
      | exact logjamlaw26_lives.mono _
      | exact logjamref26_Closed.mono _ _ _
      | exact logjamref26_Doomed.mono _ _
      | exact logjamref26_Met.mono _ _ _ _
      | exact logjamref26_Order.mono _ _
      | exact LeO.none _
      | refine LeO.ite ?_ ?_
      | refine LeO.bind ?_ (fun _=>?_)

end Go.Proofs.YtbfbegleffkafaaDoor.PGraphTells
