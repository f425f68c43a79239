/- slices.Delete of one waiter; Drop. Conditions: none. -/
import Derived.Test.YtakbhnfmimnbhaaLn4
import Derived.Lib.SliceRun
namespace Go.Proofs.Ytakbhnfmimnbhaa.Ln
open Go.RowKit Go.Proofs.Ytakbhnfmimnbhaa.PLineRises Go.Proofs.YtakbhnfmimnbhaaW.PrintWords Go.Proofs.YtakbhnfmimnbhaaW.PrintLast Go.Proofs.YtakbhnfmimnbhaaW.PrintMore
open Tm (Chg TR Shp rSet rDrop)
open Rn (RdC)
set_option linter.unusedVariables false
set_option linter.unusedSimpArgs false

theorem own_beyond {W : World} {b e k g n c : Nat} {xs : List Value} {m : Nat} (h : W.ownsRow b e k (.slice (some ⟨g, 0, none⟩) m c) n xs) {q : Nat} (hq : n * k ≤ q) (u : Value) : (W.setCell ⟨g, q, none⟩ u).ownsRow b e k (.slice (some ⟨g, 0, none⟩) m c) n xs := by
  refine ⟨h.1, ?_⟩
  rcases h.2 with ⟨hv, _⟩ | ⟨g', cap', cur, hv, hb, hh, hle, hcm, hcs, htake⟩
  · cases hv
  · have hv0 := hv
    injection hv with ha _ hc
    injection ha with ha
    injection ha with hg
    subst hg
    refine .inr ⟨g, cap', cur.setIfInBounds q u, hv0, hb, blk_put hh q u rfl, hle, hcm, by rw [Array.size_setIfInBounds]; exact hcs, ?_⟩
    rw [← htake, Array.toList_setIfInBounds, List.take_set_of_le hq]
theorem own_room {W : World} {b e k g n m c : Nat} {xs : List Value} (h : W.ownsRow b e k (.slice (some ⟨g, 0, none⟩) m c) n xs) {q : Nat} (hq : q < c * k) : (W.cell? ⟨g, q, none⟩).isSome = true ∧ W.frozen? ⟨g, q, none⟩ = false := by
  rcases h.2 with ⟨hv, _⟩ | ⟨g', cap', cur, hv, hb, hh, hle, hcm, hcs, htake⟩
  · cases hv
  · injection hv with ha _ hc
    injection ha with ha
    injection ha with hg
    subst hg
    subst hc
    exact ⟨by rw [blk_cell hh q]; simp; omega, blk_frozen hh q⟩
def z10 : List Value := [.int .i64 0, .int .i64 0, .int .i64 0, .int .i64 0, .slice none 0 0, .int .i64 0, .int .i64 0, .int .i64 0, .int .i64 0, .int .u64 0]
theorem run_clear48 (w : World) (ty : TypeId) (g o c : Nat) (hc : ∀ j, j < 10 → (w.cell? ⟨g, o + j, none⟩).isSome = true) (hf : ∀ j, j < 10 → w.frozen? ⟨g, o + j, none⟩ = false) :
    (Builtin.clear_ #[38] ty #[.slice (some ⟨g, o, none⟩) 1 c]).run Try.prog w = .ok (.tuple #[]) (w.setCells g o z10) := by
  have hst := run_storeCells_cells (P := Try.prog) g o z10 0 w (by simpa [z10] using hc) (by simpa [z10] using hf) (by intro v hv; simp [z10] at hv; rcases hv with rfl | rfl | rfl | rfl <;> rfl)
  have hv : (zeroValue 48).run Try.prog w = .ok (.agg z10.toArray) w := by
    obtain ⟨i0, hi, h2⟩ := Option.map_eq_some_iff.1 info48
    simp only [Prod.mk.injEq] at h2
    simp [zeroValue, typeInfo, hi, h2.1, z10]
  have hz : (Builtin.zeroCells (Value.agg z10.toArray).cells 1).toList = z10 := by kernel_rfl
  simp only [Nat.add_zero] at hst
  simp [Builtin.clear_, run_underlying Try.underlying38, hv, hz, hst]
theorem list_clear {P : Program} {ops : Array Oper} {rest : List Oper} {o : Oper} {a : Act} {W w1 : World} {Q : Exit → Act → World → Prop} (hgd : o.guard = none) (s : Operand) (t : TypeId) (ho : o.op = .call { callee := .builtin .clear, args := #[s], argTypes := #[t] }) (v : Value) (hs : a.eval s = v) {v' : Value}
    (hr : (Builtin.clear_ #[t] o.type #[v]).run P W = .ok v' w1) (h : wpList P ops Q rest (a.put o.dst v') w1) : wpList P ops Q (o :: rest) a W := by
  refine wpList_plain hgd fun K hK => ?_
  unfold Oper.wp execOp
  simp only [ho, resolve, invoke, builtin, Sem.run_bind, Sem.run_pure, Result.andThen_ok, List.map_toArray, List.map_cons, List.map_nil, hs, hr]
  exact hK _ _ h
theorem r_own {W : World} {b : Nat} {v : Value} {ok : Nat → Prop} {xs : List S48} (h : k48.R 48 W b ok v xs) : W.ownsRow b 48 10 v xs.length h.2.choose := h.2.choose_spec.1
theorem r_beyond {W : World} {b g c m : Nat} {ok : Nat → Prop} {xs : List S48} (h : k48.R 48 W b ok (.slice (some ⟨g, 0, none⟩) m c) xs) {q : Nat} (hq : xs.length * 10 ≤ q) (u : Value) : k48.R 48 (W.setCell ⟨g, q, none⟩ u) b ok (.slice (some ⟨g, 0, none⟩) m c) xs := by
  obtain ⟨h0, inner, hown, hr⟩ := h
  exact ⟨h0, inner, own_beyond hown hq u, hr.imp_ (fun _ _ hp => Kd.M_far hp (fun k hk e => hk.2 (by rw [e]; rfl)) u)⟩
theorem r_cells {b g c m : Nat} {ok : Nat → Prop} {xs : List S48} : ∀ (vs : List Value) {W : World} (q : Nat), k48.R 48 W b ok (.slice (some ⟨g, 0, none⟩) m c) xs → xs.length * 10 ≤ q → k48.R 48 (W.setCells g q vs) b ok (.slice (some ⟨g, 0, none⟩) m c) xs
  | [], W, q, h, _ => h
  | v :: r, W, q, h, hq => r_cells r (q + 1) (r_beyond h hq v) (by omega)
theorem chg_cells {S : Nat → Prop} {w : World} {g : Nat} : ∀ (vs : List Value) {W : World} (q : Nat), Chg S w W → (S g ∨ w.heap.size ≤ g) → Chg S w (W.setCells g q vs)
  | [], W, q, h, _ => h
  | v :: r, W, q, h, hg => chg_cells r (q + 1) (h.set_ (p := ⟨g, q, none⟩) hg v) hg
set_option maxHeartbeats 8000000 in
set_option maxRecDepth 100000 in
theorem delete_any {W : World} {b0 g n c i : Nat} {ok : Nat → Prop} {l : List S48} (hr : k48.R 48 W b0 ok (.slice (some ⟨g, 0, none⟩) n c) l) (hi : i < n) (hn : n ≤ 100000) : Calls Try.prog 57 #[.slice (some ⟨g, 0, none⟩) n c, .int .i64 (i : Int), .int .i64 ((i + 1 : Nat) : Int)] W fun e w' => e = .returned (.slice (some ⟨g, 0, none⟩) (n - 1) c) ∧ k48.R 48 w' b0 ok (.slice (some ⟨g, 0, none⟩) (n - 1) c) (l.eraseIdx i) ∧ Chg (fun k => k = g) W w' := by
  have hu38 := Try.underlying38
  have hu48 := Try.underlying48
  obtain ⟨i0, hi0, hsz⟩ := Option.map_eq_some_iff.1 info48s
  obtain ⟨A, hA⟩ : ∃ A, A = if c = i + 1 then some (⟨g, 0, none⟩ : Addr) else (some (⟨g, 0, none⟩ : Addr)).map (·.add ((i + 1) * k48.sz)) := ⟨_, rfl⟩
  obtain ⟨w1, hrn, hR, hg⟩ := Kd.R_delete_run (P := Try.prog) k48 b0 38 38 48 i0 Try.underlying38 hi0 hsz (Kd.R_below hr (below_drew (Below.refl _ _))) hi hA (c - (i + 1))
  have HP := Aside0.mk hR
  have HC := Aside0.mk hg
  obtain ⟨hnl, hnc, _⟩ := Kd.R_reads' hr
  clear hR hg hi0 hsz
  obtain ⟨I1, hI1⟩ : ∃ I1, I1 = i + 1 := ⟨_, rfl⟩
  rw [← hI1] at hrn hA ⊢
  have HI1 := Aside0.mk hI1
  have HNL := Aside0.mk hnl
  have HNC := Aside0.mk hnc
  have HIN := Aside0.mk hi
  have HN := Aside0.mk hn
  have HR := Aside0.mk hr
  have b1 : decide ((i : Int) ≤ (I1 : Int)) = true := decide_eq_true (by omega)
  have b2 : decide (i ≤ I1) = true := decide_eq_true (by omega)
  have b3 : ((i : Int) == (I1 : Int)) = false := beq_eq_false_iff_ne.2 (by omega)
  have b4 : (i == I1) = false := beq_eq_false_iff_ne.2 (by omega)
  have q0 : (0 ≤ (i : Int)) = True := eq_true (by omega)
  have q1 : (0 ≤ (I1 : Int)) = True := eq_true (by omega)
  have q2 : ((i : Int) ≤ (n : Int)) = True := eq_true (by omega)
  have q3 : ((I1 : Int) ≤ (n : Int)) = True := eq_true (by omega)
  have q4 : ((i : Int) ≤ (I1 : Int)) = True := eq_true (by omega)
  have q5 : ((n : Int) ≤ (c : Int)) = True := eq_true (by omega)
  have q6 : ((i : Int) ≤ (c : Int)) = True := eq_true (by omega)
  have q7 : (i ≤ I1) = True := eq_true (by omega)
  have q8 : (I1 ≤ n) = True := eq_true (by omega)
  have q9 : (n ≤ c) = True := eq_true (by omega)
  have q10 : (i ≤ c) = True := eq_true (by omega)
  have q11 : (i ≤ n) = True := eq_true (by omega)
  have q12 : (i = I1) = False := eq_false (by omega)
  have hA2 : A = if c = I1 then some (⟨g, 0, none⟩ : Addr) else some ⟨g, I1 * 10, none⟩ := by
    rw [hA]
    split
    · rfl
    · show some (Addr.add ⟨g, 0, none⟩ (I1 * 10)) = _
      first | rw [add_at, Nat.zero_add] | rw [add_plain, Nat.zero_add] | rw [add_plain]
  rw [hA2] at hrn
  clear hA hA2
  obtain ⟨N1, hN1⟩ : ∃ N1, N1 = n - 1 := ⟨_, rfl⟩
  rw [← hN1] at hrn HP ⊢
  have q13 : (0 ≤ (N1 : Int)) = True := eq_true (by omega)
  have q14 : ((N1 : Int) ≤ (n : Int)) = True := eq_true (by omega)
  have q15 : (N1 ≤ n) = True := eq_true (by omega)
  have q16 : (c = N1) = False := eq_false (by omega)
  have q17 : n - N1 = 1 := by omega
  have q18 : (n = i) = False := eq_false (by omega)
  have HN1 := Aside0.mk hN1
  clear hI1 hnl hnc hi hn hr hN1
  go_enter Try.func57, Try.ntmps57
  go_upto_region 5 with (fail)
  refine start_ (n := 8) (S := fun w' => True) (ds := [6]) #[false, false, false, false, false, false, false, false] (by kernel_rfl) rfl rfl trivial (fun hHeld => ?_)
  refine pure_ (i := 0) (N := some 20) (v := ?_) (a' := ?_) #[true, false, false, false, false, false, false, false] rfl rfl (by kernel_rfl) (fun _ _ _ h => h) (Or.inl ⟨by rfl, ?_⟩) ?_ ?_
  rotate_left
  · intro w'
    go_simp
    with_reducible rfl
  rotate_left
  · simp only [Act.put, List.setIfInBounds_toArray, List.set_cons_zero, List.set_cons_succ, i64_w, i32_w]
    rfl
  refine pure_ (i := 1) (N := some 21) (v := ?_) (a' := ?_) #[true, true, false, false, false, false, false, false] rfl rfl (by kernel_rfl) (fun _ _ _ h => h) (Or.inl ⟨by rfl, ?_⟩) ?_ ?_
  rotate_left
  · intro w'
    go_simp
    with_reducible rfl
  rotate_left
  · simp only [Act.put, List.setIfInBounds_toArray, List.set_cons_zero, List.set_cons_succ, i64_w, i32_w]
    rfl
  refine pure_ (i := 2) (N := some 22) (v := ?_) (a' := ?_) #[true, true, true, false, false, false, false, false] rfl rfl (by kernel_rfl) (fun _ _ _ h => h) (Or.inl ⟨by rfl, ?_⟩) ?_ ?_
  rotate_left
  · intro w'
    go_simp
    with_reducible rfl
  rotate_left
  · simp only [Act.put, List.setIfInBounds_toArray, List.set_cons_zero, List.set_cons_succ, i64_w, i32_w]
    rfl
  refine pure_ (i := 3) (N := some 23) (v := ?_) (a' := ?_) #[true, true, true, true, false, false, false, false] rfl rfl (by kernel_rfl) (fun _ _ _ h => h) (Or.inl ⟨by rfl, ?_⟩) ?_ ?_
  rotate_left
  · intro w'
    go_simp
    with_reducible rfl
  rotate_left
  · simp only [Act.put, List.setIfInBounds_toArray, List.set_cons_zero, List.set_cons_succ, i64_w, i32_w]
    rfl
  refine pure_ (i := 4) (N := some 24) (v := ?_) (a' := ?_) #[true, true, true, true, true, false, false, false] rfl rfl (by kernel_rfl) (fun _ _ _ h => h) (Or.inl ⟨by rfl, ?_⟩) ?_ ?_
  rotate_left
  · intro w'
    go_simp
    with_reducible rfl
  rotate_left
  · simp only [Act.put, List.setIfInBounds_toArray, List.set_cons_zero, List.set_cons_succ, i64_w, i32_w]
    rfl
  refine pure_ (i := 5) (N := some 25) (v := ?_) (a' := ?_) #[true, true, true, true, true, true, false, false] rfl rfl (by kernel_rfl) (fun _ _ _ h => h) (Or.inl ⟨by rfl, ?_⟩) ?_ ?_
  rotate_left
  · intro w'
    go_simp
    with_reducible rfl
  rotate_left
  · simp only [Act.put, List.setIfInBounds_toArray, List.set_cons_zero, List.set_cons_succ, i64_w, i32_w]
    rfl
  refine last_ (i := 6) (N := some 26) #[true, true, true, true, true, true, true, false] rfl rfl (by kernel_rfl) (by decide) (fun K hK => ?_)
  refine Rn.step_run rfl (.tmp 22) (.tmp 25) 38 38 rfl _ _ _ (by simp [Act.eval, Act.put]) (by simp [Act.eval, Act.put]) hrn ?_
  refine hK.out _ _ ?_
  clear hK K
  refine norm_ (a' := ?_) ?_ ?_
  rotate_left
  · show Act.put _ (some 26) _ = _
    simp only [Act.put, List.setIfInBounds_toArray, List.set_cons_zero, List.set_cons_succ, i64_w, i32_w]
    rfl
  refine pure_ (i := 7) (N := some 0) (v := ?_) (a' := ?_) #[true, true, true, true, true, true, true, true] rfl rfl (by kernel_rfl) (fun _ _ _ h => h) (Or.inl ⟨by rfl, ?_⟩) ?_ ?_
  rotate_left
  · intro w'
    go_simp
    with_reducible rfl
  rotate_left
  · simp only [Act.put, List.setIfInBounds_toArray, List.set_cons_zero, List.set_cons_succ, i64_w, i32_w]
    rfl
  refine done_ (by kernel_rfl) ?_
  have HRM := Aside0.mk (fun (j : Nat) (hj : j < 10) => own_room (r_own HP.out) (q := N1 * 10 + j) (by have h1 := HN1.out; have h2 := HNC.out; have h3 := HIN.out; omega))
  go_wp2_with (refine list_clear rfl (.tmp 31) 38 rfl (.slice (some ⟨g, N1 * 10, none⟩) 1 (c - N1)) rfl (run_clear48 w1 _ g (N1 * 10) (c - N1) (fun j hj => (HRM.out j hj).1) (fun j hj => (HRM.out j hj).2)) ?_)
  all_goals try (have hcI : c = I1 := by assumption
                 subst hcI)
  all_goals
    go_ret
    have hl : (l.eraseIdx i).length = N1 := (Kd.R_reads' HP.out).1.symm
    have hc : Chg (fun k => k = g) W w1 := (Chg.of_below (below_drew (Below.refl _ _))).trans (Chg.grown HC.out (fun k hk => (Option.some.inj hk).symm))
    exact ⟨rfl, r_cells z10 _ HP.out (by rw [hl]; exact Nat.le_refl _), chg_cells z10 _ hc (.inl rfl)⟩
section
variable {W W' : World} {base g n : Nat} {vl : Value} {last : Int} {ws : List S48} {m : List (Int × Int)} {S ok : Nat → Prop}
/-- Without one. -/
def without (ws : List S48) (t : Int) : List S48 := match fnd ws t with
  | some i => ws.eraseIdx i
  | none => ws
def tick (ws : List S48) (t : Int) : Int := match fnd ws t with
  | some i => (wq ws i).f2
  | none => 0
end
end Go.Proofs.Ytakbhnfmimnbhaa.Ln
