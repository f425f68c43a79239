/- What the printed owns come to, and their contracts. Conditions: none. -/
import Derived.Test.YtakbhnfmimnbhaaPLineRisesx1
namespace Go.Proofs.Ytakbhnfmimnbhaa.Ln
open Go.RowKit Go.Proofs.Ytakbhnfmimnbhaa.PLineRises Go.Proofs.YtakbhnfmimnbhaaW.PrintWords Go.Proofs.YtakbhnfmimnbhaaW.PrintLast Go.Proofs.YtakbhnfmimnbhaaW.PrintMore
set_option linter.unusedVariables false
set_option linter.unusedSimpArgs false

abbrev kW : Kd (List S100) := Kd.slice 100 k100
/-- A wait, as the law cuts it. -/
def cutA (l : List (List S100)) : List (List S100) := (l.take 6).map (List.take 6)
def okA (l : List (List S100)) : Prop := l.length ≤ 6 ∧ ∀ w ∈ l, w.length ≤ 6
theorem cutA_ok (l : List (List S100)) : okA (cutA l) := by
  refine ⟨by simp [cutA]; omega, fun w hw => ?_⟩
  unfold cutA at hw
  obtain ⟨x, _, rfl⟩ := List.mem_map.1 hw
  rw [List.length_take]
  omega
theorem rd_nat (l : List (List S100)) (i : Nat) : rd_L2 l (i : Int) = l.getD i [] := by
  unfold rd_L2
  rw [Int.toNat_natCast]
theorem wrap_succ (i : Nat) (h : i ≤ 1000000) : wrap64 ((i : Int) + 1) = ((i + 1 : Nat) : Int) := by unfold wrap64; omega
theorem own9_eval (x0 : List (List S100)) : ∀ (n i : Nat) (acc : List (List S100)), acc.length = i → n + i = min x0.length 6 → logjamlaw09_Own.l0 (2 * n + 2) x0 acc (i : Int) = some (acc ++ ((x0.take 6).drop i).map (List.take 6))
  | 0, i, acc, ha, hn => by
    have hz : (x0.take 6).drop i = [] := List.drop_eq_nil_of_le (by rw [List.length_take]; omega)
    rw [hz]
    show logjamlaw09_Own.l0 (1 + 1) x0 acc (i : Int) = _
    unfold logjamlaw09_Own.l0
    by_cases c : (i : Int) < (x0.length : Int)
    · rw [if_pos c, show decide ((i : Int) < 6) = false from decide_eq_false (by omega)]
      simp [logjamlaw09_Own.j1]
    · rw [if_neg c]
      simp [logjamlaw09_Own.j1]
  | n + 1, i, acc, ha, hn => by
    have hi : i < x0.length ∧ i < 6 := by omega
    have hd : (x0.take 6).drop i = x0.getD i [] :: (x0.take 6).drop (i + 1) := by
      rw [List.drop_eq_getElem_cons (by rw [List.length_take]; omega), List.getElem_take, List.getD_eq_getElem?_getD, List.getElem?_eq_getElem hi.1]
      rfl
    have ih := own9_eval x0 n (i + 1) (acc ++ [(x0.getD i []).take 6]) (by simp [ha]) (by omega)
    rw [hd, List.map_cons]
    show logjamlaw09_Own.l0 ((2 * n + 2 + 1) + 1) x0 acc (i : Int) = _
    unfold logjamlaw09_Own.l0
    rw [if_pos (by omega), show decide ((i : Int) < 6) = true from decide_eq_true (by omega)]
    unfold logjamlaw09_Own.j1
    rw [if_pos rfl, if_pos (by omega), if_pos (by omega), rd_nat, wrap_succ i (by omega)]
    have hr : acc ++ [(x0.getD i []).take 6] ++ ((x0.take 6).drop (i + 1)).map (List.take 6) = acc ++ ((x0.getD i []).take 6 :: ((x0.take 6).drop (i + 1)).map (List.take 6)) := by simp
    rw [hr] at ih
    by_cases c : ((x0.getD i []).length : Int) > 6
    · rw [if_pos c, if_pos (by omega)]
      simp only [Option.bind_some, List.nil_append]
      rw [if_pos (by simp only [List.length_nil, List.length_take]; omega), if_pos (by omega)]
      exact ih
    · rw [if_neg c]
      simp only [Option.bind_some, List.nil_append]
      rw [if_pos (by simp only [List.length_nil, List.length_take]; omega), if_pos (by omega)]
      rw [List.take_of_length_le (by omega)] at ih ⊢
      exact ih
theorem lown_eval (a : S48) : ∃ k, logjamlaw29_own.f k a.f0 a.f1 a.f2 a.f3 a.f4 a.f5 a.f6 a.f7 a.f8 a.f9 = some (a.f0, a.f1, a.f2, a.f3, cutA a.f4, a.f5, a.f6, a.f7, a.f8, a.f9) := by
  refine ⟨2 * min a.f4.length 6 + 2, ?_⟩
  unfold logjamlaw29_own.f logjamlaw09_Own.f
  rw [show logjamlaw09_Own.l0 (2 * min a.f4.length 6 + 2) a.f4 [] 0 = some (cutA a.f4) from (own9_eval a.f4 (min a.f4.length 6) 0 [] rfl (by omega)).trans (by rw [List.nil_append, List.drop_zero]; rfl)]
  rfl
theorem own_eval (x9 : List (List S100)) (hl : x9.length ≤ 1000000) (hw : ∀ w ∈ x9, w.length ≤ 1000000) (b0 b1 b2 b3 b5 b6 b7 b8 b9 : Int) : ∀ (n i : Nat) (acc : List (List S100)), acc.length = i → n + i = x9.length → line_own.l0 (n + 1) x9 (x9.length : Int) (i : Int) b0 b1 b2 b3 acc b5 b6 b7 b8 b9 = some (b0, b1, b2, b3, acc ++ x9.drop i, b5, b6, b7, b8, b9)
  | 0, i, acc, ha, hn => by
    have hz : x9.drop i = [] := List.drop_eq_nil_of_le (by omega)
    rw [hz]
    unfold line_own.l0
    rw [if_neg (by omega), List.append_nil]
  | n + 1, i, acc, ha, hn => by
    have hi : i < x9.length := by omega
    have hd : x9.drop i = x9.getD i [] :: x9.drop (i + 1) := by
      rw [List.drop_eq_getElem_cons hi, List.getD_eq_getElem?_getD, List.getElem?_eq_getElem hi]
      rfl
    have ih := own_eval x9 hl hw b0 b1 b2 b3 b5 b6 b7 b8 b9 n (i + 1) (acc ++ [x9.getD i []]) (by simp [ha]) (by omega)
    have hm : (x9.getD i []).length ≤ 1000000 := by
      rw [List.getD_eq_getElem?_getD, List.getElem?_eq_getElem hi]
      exact hw _ (List.getElem_mem hi)
    unfold line_own.l0
    rw [if_pos (by omega), if_pos (by omega), if_pos (by omega), rd_nat, wrap_succ i (by omega)]
    unfold api_Need.f
    rw [if_pos hm, Option.bind_some, if_pos (by omega), ih, hd]
    simp
theorem own_evalF (a : S48) (hl : a.f4.length ≤ 1000000) (hw : ∀ w ∈ a.f4, w.length ≤ 1000000) : line_own.f (a.f4.length + 1) a.f0 a.f1 a.f2 a.f3 a.f4 a.f5 a.f6 a.f7 a.f8 a.f9 = some (a.f0, a.f1, a.f2, a.f3, a.f4, a.f5, a.f6, a.f7, a.f8, a.f9) := by
  unfold line_own.f
  exact (own_eval a.f4 hl hw _ _ _ _ _ _ _ _ _ a.f4.length 0 [] rfl (by omega)).trans (by rw [List.nil_append, List.drop_zero])
/-- A waiter's ten cells. -/
def wv (x : S48) (v : Value) : Value := .agg #[.int .i64 x.f0, .int .i64 x.f1, .int .i64 x.f2, .int .i64 x.f3, v, .int .i64 x.f5, .int .i64 x.f6, .int .i64 x.f7, .int .i64 x.f8, .int .u64 x.f9]
theorem own_any {w : World} {A : Option Addr} {n c : Nat} (x : S48) (hn : n = x.f4.length) (hr : Kd.C kW w A x.f4.length x.f4) (hc : x.f4.length ≤ c) (ho : okA x.f4) : Calls Try.prog 53 #[wv x (.slice A n c)] w fun e w' => ∃ v4, e = .returned (wv x v4) ∧ Kd.S kW 99 w' w.heap.size (fun _ => True) v4 x.f4 ∧ Below w.heap.size w w' := by
  subst hn
  exact line_own.calls _ x.f0 x.f1 x.f2 x.f3 A c x.f4 x.f5 x.f6 x.f7 x.f8 x.f9 _ _ _ _ _ _ _ _ _ _ w hr hc (own_evalF x (by have := ho.1; omega) (fun z hz => by have := ho.2 z hz; omega))
theorem lown_any {w : World} {A : Option Addr} {c : Nat} (x : S48) (hr : Kd.C kW w A x.f4.length x.f4) (hc : x.f4.length ≤ c) : Calls Try.prog 15 #[wv x (.slice A x.f4.length c)] w fun e w' => ∃ v4, e = .returned (wv { x with f4 := cutA x.f4 } v4) ∧ Kd.S kW 99 w' w.heap.size (fun _ => True) v4 (cutA x.f4) ∧ Below w.heap.size w w' := by
  obtain ⟨k, hk⟩ := lown_eval x
  exact logjamlaw29_own.calls k x.f0 x.f1 x.f2 x.f3 A c x.f4 x.f5 x.f6 x.f7 x.f8 x.f9 _ _ _ _ _ _ _ _ _ _ w hr hc hk
end Go.Proofs.Ytakbhnfmimnbhaa.Ln
