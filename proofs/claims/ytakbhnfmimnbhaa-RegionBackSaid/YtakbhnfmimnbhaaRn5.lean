/- What is got where nothing was got; Again; Frames. Conditions: none. -/
import Derived.Test.YtakbhnfmimnbhaaRn4
namespace Go.Proofs.Ytakbhnfmimnbhaa.Rn
open Go.RowKit Go.Proofs.YtakbhnfmimnbhaaW.PrintWords Go.Proofs.YtakbhnfmimnbhaaW.PrintLast Go.Proofs.YtakbhnfmimnbhaaW.PrintMore
set_option linter.unusedVariables false
set_option linter.unusedSimpArgs false


set_option maxHeartbeats 4000000 in
set_option maxRecDepth 100000 in
theorem insert_end {W : World} {v : Value} {l : List (Int × Int)} {b0 : Nat} (hr : PR W b0 v l) (hb0 : b0 ≤ W.heap.size) (hl : l.length ≤ 1000) {gv : Nat} {x y : Int} (hv : W.heap[gv]? = some (.cells #[.int .i64 x, .int .i64 y] 33 (0, 0))) :
    Calls Try.prog 67 #[v, .int .i64 (l.length : Int), .slice (some ⟨gv, 0, none⟩) 1 1] W fun e w' => ∃ v', e = .returned v' ∧ PR w' b0 v' (l ++ [(x, y)]) ∧ W.grownBy w' v.ownBlock ∧ (v'.ownBlock = v.ownBlock ∨ v'.ownBlock = some W.heap.size) := by
  have hu30 := Try.underlying30
  obtain ⟨v1, w9, hrn, hown, hg9, hat⟩ := app_any (P := Try.prog) (W := W) b0 30 30 33 2 16 (.agg #[.int .i64 0, .int .i64 0]) Try.underlying30 info33 rfl (by decide) (by decide) v l.length (pcs l) (pcs [(x, y)]) (some ⟨gv, 0, none⟩) 1 1 hr
    ⟨rfl, fun _ => ⟨_, rfl, fun j q hj => by rw [add_plain]; exact (blk_cell hv j).trans (by rw [List.getElem?_toArray]; exact hj)⟩⟩ (pcs_one _) hb0 (by omega) (fun _ => rfl)
  obtain ⟨A, c, rfl, ho⟩ := hr.open
  have HO := Aside0.mk hown
  have HG := Aside0.mk hg9
  have HT := Aside0.mk hat
  obtain ⟨n, hn⟩ : ∃ n, n = l.length := ⟨_, rfl⟩
  rw [← hn] at hrn ⊢
  have HN := Aside0.mk hn
  have hs : ∃ A', A' = A := ⟨_, rfl⟩
  have q1 : (0 ≤ (n : Int)) = True := eq_true (by omega)
  have q2 : ¬ ((1 : Int) == 0) = true := by decide
  have hc : n ≤ c := by
    rcases ho with ⟨_, hc, h⟩ | ⟨_, _, h⟩
    · rw [hn, h]; simp
    · omega
  have q3 : ((n : Int) ≤ (c : Int)) = True := eq_true (by omega)
  have HO2 := Aside0.mk ho
  clear hown hg9 hat hr hn ho hs
  go_enter Try.func67, Try.ntmps67
  go_wp2_with (at_builtin; refine list_run rfl (.tmp 23) (.tmp 24) 30 30 rfl _ _ v1 rfl rfl hrn ?_)
  all_goals
    go_ret
    refine ⟨v1, rfl, ?_, ?_, ?_⟩
    · unfold PR
      rw [pcs_app, List.length_append]
      exact HO.out
    · cases A <;> exact HG.out
    · cases A <;> exact HT.out
end Go.Proofs.Ytakbhnfmimnbhaa.Rn
