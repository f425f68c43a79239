/- Small words for walks over rows with two ends. Conditions: none. -/
import Derived.Test.YtbnkanlfepdlkaaRing8
namespace Go.Proofs.Ytbnkanlfepdlkaa.Rg
open Go.RowKit Go.Proofs.YtbnkanlfepdlkaaW.PrintWords Go.Proofs.YtbnkanlfepdlkaaW.PrintLast Go.Proofs.YtbnkanlfepdlkaaW.PrintMore Ap
theorem Row.lt {W : World} {g b c cap : Nat} {ex : List Value} {l : List Int} (h : Row W g b c ex cap l) : g < W.heap.size ∧ b < W.heap.size := by
  obtain ⟨p, n, xs, h, rfl⟩ := h
  exact ⟨blk_lt h.hg, blk_lt h.hb⟩
theorem below_mono {B B' : Nat} {w w' : World} (h : Below B w w') (hb : B' ≤ B) : Below B' w w' := ⟨h.os, h.tape, h.output, h.size, fun k hk => h.block k (by omega)⟩
theorem refDo_len (l : List Int) (room kd x : Int) : (refDo l room kd x).1.length ≤ l.length + 1 := by
  unfold refDo
  repeat' split
  all_goals simp
  all_goals omega
/-- Many calls, on a list. -/
def many (l : List Int) (room : Int) : List (Int × Int) → List Int
  | [] => l
  | o :: r => many (refDo l room o.1 o.2).1 room r
theorem u8_range {x : Int} (h : (Lit.int .u8 x).wf = true) : 0 ≤ x ∧ x ≤ 255 := by
  have h1 : IntKind.u8.min = 0 := rfl
  have h2 : IntKind.u8.max = 255 := rfl
  have := h
  simp [Lit.wf, h1, h2] at this
  omega
end Go.Proofs.Ytbnkanlfepdlkaa.Rg
