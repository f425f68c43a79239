/- slices.Delete of one pair. Conditions: none. -/
import Derived.Test.YtakbhnfmimnbhaaRn9
import Derived.Lib.SliceRun
namespace Go.Proofs.Ytakbhnfmimnbhaa.Rn
open Go.RowKit Go.Proofs.YtakbhnfmimnbhaaW.PrintWords Go.Proofs.YtakbhnfmimnbhaaW.PrintLast Go.Proofs.YtakbhnfmimnbhaaW.PrintMore
set_option linter.unusedVariables false
set_option linter.unusedSimpArgs false

def k33 : Kd (Int × Int) := Kd.pair (Kd.int .i64) (Kd.int .i64)
theorem pcs_of : ∀ (l : List (Int × Int)) (cs : List Value), cs.length = l.length * 2 → (∀ j p, l[j]? = some p → (cs.drop (j * 2)).take 2 = [.int .i64 p.1, .int .i64 p.2]) → cs = pcs l
  | [], cs, h, _ => by
    rw [pcs_nil]
    exact List.eq_nil_of_length_eq_zero (by simpa using h)
  | p :: l, cs, h, hp => by
    have h0 := hp 0 p rfl
    rw [Nat.zero_mul, List.drop_zero] at h0
    have ht := pcs_of l (cs.drop 2) (by rw [List.length_drop, h, List.length_cons]; omega) (fun j q hq => by
      have := hp (j + 1) q (by simpa using hq)
      rw [List.drop_drop]
      rw [show (j + 1) * 2 = 2 + j * 2 by omega] at this
      exact this)
    rw [pcs_cons, ← ht, ← List.take_append_drop 2 cs, h0]
    simp
theorem PR.toR {W : World} {b : Nat} {v : Value} {l : List (Int × Int)} (h : PR W b v l) : k33.R 33 W b (fun _ => True) v l := by
  refine ⟨fun _ _ => trivial, pcs l, h, pcs_len l, fun j p hj => ?_⟩
  have hl : j < l.length := (List.getElem?_eq_some_iff.1 hj).1
  obtain ⟨h1, h2⟩ := pcs_get l j hl
  have e : l.getD j (0, 0) = p := by rw [List.getD_eq_getElem?_getD, hj]; rfl
  rw [e] at h1 h2
  have hz : ((pcs l).drop (j * 2)).take 2 = [.int .i64 p.1, .int .i64 p.2] := by
    refine List.ext_getElem? fun q => ?_
    rw [List.getElem?_take, List.getElem?_drop]
    rcases q with _ | _ | q
    · simpa using h1
    · simpa using h2
    · rw [if_neg (by omega)]
      simp
  show k33.M W b _ p (((pcs l).drop (j * 2)).take 2)
  rw [hz]
  exact ⟨[.int .i64 p.1], [.int .i64 p.2], rfl, rfl, rfl⟩
theorem PR.ofR {W : World} {b : Nat} {ok : Nat → Prop} {v : Value} {l : List (Int × Int)} (h : k33.R 33 W b ok v l) : PR W b v l := by
  obtain ⟨_, inner, ho, hr⟩ := h
  have e := pcs_of l inner hr.1 (fun j p hj => by
    obtain ⟨c0, c1, e1, e2, e3⟩ := hr.2 j p hj
    have e4 : (inner.drop (j * 2)).take 2 = c0 ++ c1 := e1
    rw [e4, show c0 = [.int .i64 p.1] from e2, show c1 = [.int .i64 p.2] from e3]
    rfl)
  rw [e] at ho
  exact ho
theorem own_beyond {W : World} {b e k g n c : Nat} {xs : List Value} {m : Nat} (h : W.ownsRow b e k (.slice (some ⟨g, 0, none⟩) m c) n xs) {q : Nat} (hq : n * k ≤ q) (u : Value) : (W.setCell ⟨g, q, none⟩ u).ownsRow b e k (.slice (some ⟨g, 0, none⟩) m c) n xs := by
  refine ⟨h.1, ?_⟩
  rcases h.2 with ⟨hv, _⟩ | ⟨g', cap', cur, hv, hb, hh, hle, hcm, hcs, htake⟩
  · cases hv
  · have hv0 := hv
    injection hv with ha _ hc
    injection ha with ha
    injection ha with hg
    subst hg
    refine .inr ⟨g, cap', cur.setIfInBounds q u, hv0, hb, blk_put hh q u rfl, hle, hcm, by rw [Array.size_setIfInBounds]; exact hcs, ?_⟩
    rw [← htake, Array.toList_setIfInBounds, List.take_set_of_le hq]
theorem own_room {W : World} {b e k g n m c : Nat} {xs : List Value} (h : W.ownsRow b e k (.slice (some ⟨g, 0, none⟩) m c) n xs) {q : Nat} (hq : q < c * k) : (W.cell? ⟨g, q, none⟩).isSome = true ∧ W.frozen? ⟨g, q, none⟩ = false := by
  rcases h.2 with ⟨hv, _⟩ | ⟨g', cap', cur, hv, hb, hh, hle, hcm, hcs, htake⟩
  · cases hv
  · injection hv with ha _ hc
    injection ha with ha
    injection ha with hg
    subst hg
    subst hc
    exact ⟨by rw [blk_cell hh q]; simp; omega, blk_frozen hh q⟩
theorem run_clear1 (w : World) (ty : TypeId) (g o c : Nat) (hc : ∀ j, j < 2 → (w.cell? ⟨g, o + j, none⟩).isSome = true) (hf : ∀ j, j < 2 → w.frozen? ⟨g, o + j, none⟩ = false) :
    (Builtin.clear_ #[30] ty #[.slice (some ⟨g, o, none⟩) 1 c]).run Try.prog w = .ok (.tuple #[]) ((w.setCell ⟨g, o, none⟩ (.int .i64 0)).setCell ⟨g, o + 1, none⟩ (.int .i64 0)) := by
  have hst := run_storeCells_cells (P := Try.prog) g o [.int .i64 0, .int .i64 0] 0 w (by simpa using hc) (by simpa using hf) (by intro v hv; simp at hv; rw [hv]; rfl)
  have hv : (zeroValue 33).run Try.prog w = .ok (.agg #[.int .i64 0, .int .i64 0]) w := by
    obtain ⟨i0, hi, h2⟩ := Option.map_eq_some_iff.1 info33
    simp only [Prod.mk.injEq] at h2
    simp [zeroValue, typeInfo, hi, h2.1]
  have hz : (Builtin.zeroCells (Value.agg #[.int .i64 0, .int .i64 0]).cells 1).toList = [.int .i64 0, .int .i64 0] := by kernel_rfl
  simp only [Nat.add_zero] at hst
  simp [Builtin.clear_, run_underlying Try.underlying30, hv, hz, hst]
  rfl
theorem list_clear {P : Program} {ops : Array Oper} {rest : List Oper} {o : Oper} {a : Act} {W w1 : World} {Q : Exit → Act → World → Prop} (hgd : o.guard = none) (s : Operand) (t : TypeId) (ho : o.op = .call { callee := .builtin .clear, args := #[s], argTypes := #[t] }) (v : Value) (hs : a.eval s = v) {v' : Value}
    (hr : (Builtin.clear_ #[t] o.type #[v]).run P W = .ok v' w1) (h : wpList P ops Q rest (a.put o.dst v') w1) : wpList P ops Q (o :: rest) a W := by
  refine wpList_plain hgd fun K hK => ?_
  unfold Oper.wp execOp
  simp only [ho, resolve, invoke, builtin, Sem.run_bind, Sem.run_pure, Result.andThen_ok, List.map_toArray, List.map_cons, List.map_nil, hs, hr]
  exact hK _ _ h
set_option maxHeartbeats 8000000 in
set_option maxRecDepth 100000 in
theorem delete_any {W : World} {b0 g n c i : Nat} {l : List (Int × Int)} (hr : PR W b0 (.slice (some ⟨g, 0, none⟩) n c) l) (hi : i < n) (hn : n ≤ 100000) : Calls Try.prog 68 #[.slice (some ⟨g, 0, none⟩) n c, .int .i64 (i : Int), .int .i64 ((i + 1 : Nat) : Int)] W fun e w' => e = .returned (.slice (some ⟨g, 0, none⟩) (n - 1) c) ∧ PR w' b0 (.slice (some ⟨g, 0, none⟩) (n - 1) c) (l.eraseIdx i) ∧ Chg (fun k => k = g) W w' := by
  have hu30 := Try.underlying30
  have hu33 := Try.underlying33
  obtain ⟨i0, hi0, hsz⟩ := Option.map_eq_some_iff.1 info33s
  obtain ⟨A, hA⟩ : ∃ A, A = if c = i + 1 then some (⟨g, 0, none⟩ : Addr) else (some (⟨g, 0, none⟩ : Addr)).map (·.add ((i + 1) * k33.sz)) := ⟨_, rfl⟩
  obtain ⟨w1, hrn, hR, hg⟩ := Kd.R_delete_run (P := Try.prog) k33 b0 30 30 33 i0 Try.underlying30 hi0 hsz (PR.below hr (below_drew (Below.refl _ _))).toR hi hA (c - (i + 1))
  have HP := Aside0.mk (PR.ofR hR)
  have HC := Aside0.mk hg
  obtain ⟨hnl, hnc, _⟩ := Kd.R_reads' (PR.toR hr)
  clear hR hg hi0 hsz
  obtain ⟨I1, hI1⟩ : ∃ I1, I1 = i + 1 := ⟨_, rfl⟩
  rw [← hI1] at hrn hA ⊢
  have HI1 := Aside0.mk hI1
  have HNL := Aside0.mk hnl
  have HNC := Aside0.mk hnc
  have HIN := Aside0.mk hi
  have HN := Aside0.mk hn
  have HR := Aside0.mk hr
  have b1 : decide ((i : Int) ≤ (I1 : Int)) = true := decide_eq_true (by omega)
  have b2 : decide (i ≤ I1) = true := decide_eq_true (by omega)
  have b3 : ((i : Int) == (I1 : Int)) = false := beq_eq_false_iff_ne.2 (by omega)
  have b4 : (i == I1) = false := beq_eq_false_iff_ne.2 (by omega)
  have q0 : (0 ≤ (i : Int)) = True := eq_true (by omega)
  have q1 : (0 ≤ (I1 : Int)) = True := eq_true (by omega)
  have q2 : ((i : Int) ≤ (n : Int)) = True := eq_true (by omega)
  have q3 : ((I1 : Int) ≤ (n : Int)) = True := eq_true (by omega)
  have q4 : ((i : Int) ≤ (I1 : Int)) = True := eq_true (by omega)
  have q5 : ((n : Int) ≤ (c : Int)) = True := eq_true (by omega)
  have q6 : ((i : Int) ≤ (c : Int)) = True := eq_true (by omega)
  have q7 : (i ≤ I1) = True := eq_true (by omega)
  have q8 : (I1 ≤ n) = True := eq_true (by omega)
  have q9 : (n ≤ c) = True := eq_true (by omega)
  have q10 : (i ≤ c) = True := eq_true (by omega)
  have q11 : (i ≤ n) = True := eq_true (by omega)
  have q12 : (i = I1) = False := eq_false (by omega)
  have hA2 : A = if c = I1 then some (⟨g, 0, none⟩ : Addr) else some ⟨g, I1 * 2, none⟩ := by
    rw [hA]
    split
    · rfl
    · show some (Addr.add ⟨g, 0, none⟩ (I1 * 2)) = _
      first | rw [add_at, Nat.zero_add] | rw [add_plain, Nat.zero_add] | rw [add_plain]
  rw [hA2] at hrn
  clear hA hA2
  obtain ⟨N1, hN1⟩ : ∃ N1, N1 = n - 1 := ⟨_, rfl⟩
  rw [← hN1] at hrn HP ⊢
  have q13 : (0 ≤ (N1 : Int)) = True := eq_true (by omega)
  have q14 : ((N1 : Int) ≤ (n : Int)) = True := eq_true (by omega)
  have q15 : (N1 ≤ n) = True := eq_true (by omega)
  have q16 : (c = N1) = False := eq_false (by omega)
  have q17 : n - N1 = 1 := by omega
  have q18 : (n = i) = False := eq_false (by omega)
  have HN1 := Aside0.mk hN1
  clear hI1 hnl hnc hi hn hr hN1
  go_enter Try.func68, Try.ntmps68
  go_upto_region 5 with (fail)
  refine start_ (n := 8) (S := fun w' => True) (ds := [6]) #[false, false, false, false, false, false, false, false] (by kernel_rfl) rfl rfl trivial (fun hHeld => ?_)
  refine pure_ (i := 0) (N := some 20) (v := ?_) (a' := ?_) #[true, false, false, false, false, false, false, false] rfl rfl (by kernel_rfl) (fun _ _ _ h => h) (Or.inl ⟨by rfl, ?_⟩) ?_ ?_
  rotate_left
  · intro w'
    go_simp
    with_reducible rfl
  rotate_left
  · simp only [Act.put, List.setIfInBounds_toArray, List.set_cons_zero, List.set_cons_succ, i64_w, i32_w]
    rfl
  refine pure_ (i := 1) (N := some 21) (v := ?_) (a' := ?_) #[true, true, false, false, false, false, false, false] rfl rfl (by kernel_rfl) (fun _ _ _ h => h) (Or.inl ⟨by rfl, ?_⟩) ?_ ?_
  rotate_left
  · intro w'
    go_simp
    with_reducible rfl
  rotate_left
  · simp only [Act.put, List.setIfInBounds_toArray, List.set_cons_zero, List.set_cons_succ, i64_w, i32_w]
    rfl
  refine pure_ (i := 2) (N := some 22) (v := ?_) (a' := ?_) #[true, true, true, false, false, false, false, false] rfl rfl (by kernel_rfl) (fun _ _ _ h => h) (Or.inl ⟨by rfl, ?_⟩) ?_ ?_
  rotate_left
  · intro w'
    go_simp
    with_reducible rfl
  rotate_left
  · simp only [Act.put, List.setIfInBounds_toArray, List.set_cons_zero, List.set_cons_succ, i64_w, i32_w]
    rfl
  refine pure_ (i := 3) (N := some 23) (v := ?_) (a' := ?_) #[true, true, true, true, false, false, false, false] rfl rfl (by kernel_rfl) (fun _ _ _ h => h) (Or.inl ⟨by rfl, ?_⟩) ?_ ?_
  rotate_left
  · intro w'
    go_simp
    with_reducible rfl
  rotate_left
  · simp only [Act.put, List.setIfInBounds_toArray, List.set_cons_zero, List.set_cons_succ, i64_w, i32_w]
    rfl
  refine pure_ (i := 4) (N := some 24) (v := ?_) (a' := ?_) #[true, true, true, true, true, false, false, false] rfl rfl (by kernel_rfl) (fun _ _ _ h => h) (Or.inl ⟨by rfl, ?_⟩) ?_ ?_
  rotate_left
  · intro w'
    go_simp
    with_reducible rfl
  rotate_left
  · simp only [Act.put, List.setIfInBounds_toArray, List.set_cons_zero, List.set_cons_succ, i64_w, i32_w]
    rfl
  refine pure_ (i := 5) (N := some 25) (v := ?_) (a' := ?_) #[true, true, true, true, true, true, false, false] rfl rfl (by kernel_rfl) (fun _ _ _ h => h) (Or.inl ⟨by rfl, ?_⟩) ?_ ?_
  rotate_left
  · intro w'
    go_simp
    with_reducible rfl
  rotate_left
  · simp only [Act.put, List.setIfInBounds_toArray, List.set_cons_zero, List.set_cons_succ, i64_w, i32_w]
    rfl
  refine last_ (i := 6) (N := some 26) #[true, true, true, true, true, true, true, false] rfl rfl (by kernel_rfl) (by decide) (fun K hK => ?_)
  refine step_run rfl (.tmp 22) (.tmp 25) 30 30 rfl _ _ _ (by simp [Act.eval, Act.put]) (by simp [Act.eval, Act.put]) hrn ?_
  refine hK.out _ _ ?_
  clear hK K
  refine norm_ (a' := ?_) ?_ ?_
  rotate_left
  · show Act.put _ (some 26) _ = _
    simp only [Act.put, List.setIfInBounds_toArray, List.set_cons_zero, List.set_cons_succ, i64_w, i32_w]
    rfl
  refine pure_ (i := 7) (N := some 0) (v := ?_) (a' := ?_) #[true, true, true, true, true, true, true, true] rfl rfl (by kernel_rfl) (fun _ _ _ h => h) (Or.inl ⟨by rfl, ?_⟩) ?_ ?_
  rotate_left
  · intro w'
    go_simp
    with_reducible rfl
  rotate_left
  · simp only [Act.put, List.setIfInBounds_toArray, List.set_cons_zero, List.set_cons_succ, i64_w, i32_w]
    rfl
  refine done_ (by kernel_rfl) ?_
  have HRM := Aside0.mk (fun (j : Nat) (hj : j < 2) => own_room HP.out (q := N1 * 2 + j) (by have h1 := HN1.out; have h2 := HNC.out; have h3 := HIN.out; omega))
  go_wp2_with (refine list_clear rfl (.tmp 31) 30 rfl (.slice (some ⟨g, N1 * 2, none⟩) 1 (c - N1)) rfl (run_clear1 w1 _ g (N1 * 2) (c - N1) (fun j hj => (HRM.out j hj).1) (fun j hj => (HRM.out j hj).2)) ?_)
  all_goals try (have hcI : c = I1 := by assumption
                 subst hcI)
  all_goals
    go_ret
    have hl : (l.eraseIdx i).length = N1 := (PR.n HP.out).symm
    have hc : Chg (fun k => k = g) W w1 := Chg.grown (Chg.of_below (below_drew (Below.refl _ _))) HC.out (fun k hk => .inl (Option.some.inj hk).symm)
    have hp := own_beyond (q := N1 * 2 + 1) (own_beyond (q := N1 * 2) HP.out (by rw [hl]; exact Nat.le_refl _) (.int .i64 0)) (by rw [hl]; omega) (.int .i64 0)
    exact ⟨rfl, hp, (hc.set_ (p := ⟨g, N1 * 2, none⟩) (.inl rfl) _).set_ (p := ⟨g, N1 * 2 + 1, none⟩) (.inl rfl) _⟩
end Go.Proofs.Ytakbhnfmimnbhaa.Rn
