/- The page's Add: the walk. Conditions: none. -/
import Derived.Test.YtakbhnfmimnbhaaRn24
import Derived.Test.YtakbhnfmimnbhaaRn27
namespace Go.Proofs.Ytakbhnfmimnbhaa.Rn
open Go.RowKit Go.Proofs.YtakbhnfmimnbhaaW.PrintWords Go.Proofs.YtakbhnfmimnbhaaW.PrintLast Go.Proofs.YtakbhnfmimnbhaaW.PrintMore
set_option linter.unusedVariables false
set_option linter.unusedSimpArgs false

/-- The page's loop behind i pairs. -/
def addI (l : List (Int × Int)) (o m : Int) (i : Nat) : List (Int × Int) × Bool := (l.take i).foldl (addS o m) ([], false)
theorem addI_step (l : List (Int × Int)) (o m : Int) {i : Nat} (h : i < l.length) : addI l o m (i + 1) = addS o m (addI l o m i) (l.getD i (0, 0)) := by
  unfold addI
  rw [take_next l i h, List.foldl_append]
  rfl
theorem addI_all (l : List (Int × Int)) (o m : Int) {i : Nat} (h : l.length ≤ i) : addR l o m = if (addI l o m i).2 = false ∧ 0 < m then (addI l o m i).1 ++ [(o, m)] else (addI l o m i).1 := by
  unfold addR addI
  rw [List.take_of_length_le h]
theorem addI_len (l : List (Int × Int)) (o m : Int) : ∀ i, (addI l o m i).1.length + (if (addI l o m i).2 then 0 else 1) ≤ i + 1
  | 0 => by simp [addI]
  | i + 1 => by
    have ih := addI_len l o m i
    by_cases h : i < l.length
    · rw [addI_step l o m h]
      generalize addI l o m i = s at *
      generalize l.getD i (0, 0) = p at *
      obtain ⟨out, b⟩ := s
      cases b
      · by_cases c : o ≤ p.1
        · by_cases c2 : p.1 = o <;> simp only [addS, c, c2] <;> (repeat' split) <;> simp_all <;> omega
        · simp only [addS, c] <;> (repeat' split) <;> simp_all <;> omega
      · simp only [addS] <;> (repeat' split) <;> simp_all <;> omega
    · have e : addI l o m (i + 1) = addI l o m i := by
        unfold addI
        rw [List.take_of_length_le (by omega), List.take_of_length_le (by omega)]
      rw [e]
      omega
end Go.Proofs.Ytakbhnfmimnbhaa.Rn
