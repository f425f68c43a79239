/- slices.Insert of one pair where there is no room; wherever it stands. Conditions: none. -/
import Derived.Test.YtakbhnfmimnbhaaRn7
namespace Go.Proofs.Ytakbhnfmimnbhaa.Rn
open Go.RowKit Go.Proofs.YtakbhnfmimnbhaaW.PrintWords Go.Proofs.YtakbhnfmimnbhaaW.PrintLast Go.Proofs.YtakbhnfmimnbhaaW.PrintMore
set_option linter.unusedVariables false
set_option linter.unusedSimpArgs false

theorem zero_len (z : Array Value) (n : Nat) : (Builtin.zeroCells z n).size = n * z.size := by
  simp [Builtin.zeroCells]
set_option maxHeartbeats 8000000 in
set_option maxRecDepth 100000 in
theorem insert_grow {W : World} {g c : Nat} {l : List (Int × Int)} {b0 i : Nat} (hr : PR W b0 (.slice (some ⟨g, 0, none⟩) l.length c) l) (hb0 : b0 ≤ W.heap.size) (hi : i < l.length) (hl : l.length ≤ 1000) (hroom : c < l.length + 1) {gv : Nat} {x y : Int} (hv : W.heap[gv]? = some (.cells #[.int .i64 x, .int .i64 y] 33 (0, 0))) :
    Calls Try.prog 67 #[.slice (some ⟨g, 0, none⟩) l.length c, .int .i64 (i : Int), .slice (some ⟨gv, 0, none⟩) 1 1] W fun e w' => ∃ G, e = .returned (.slice (some ⟨W.heap.size, 0, none⟩) (l.length + 1) G) ∧ PR w' b0 (.slice (some ⟨W.heap.size, 0, none⟩) (l.length + 1) G) (l.take i ++ (x, y) :: l.drop i) ∧ Below W.heap.size W w' := by
  have hu30 := Try.underlying30
  obtain ⟨cur, hh, hb, hn, hm, hs, ht⟩ := hr.opn
  have hcl : (pcs (l.drop i)).length = (l.length - i) * 2 := by rw [pcs_len, List.length_drop]
  have hcell : ∀ j u, (pcs l)[j]? = some u → W.cell? ⟨g, j, none⟩ = some u := fun j u hj => by
    have := hr.cells (g := g) rfl j u hj
    rwa [add_plain] at this
  obtain ⟨i0, hi0, hzz⟩ := Option.map_eq_some_iff.1 info33
  simp only [Prod.mk.injEq] at hzz
  obtain ⟨hz0, hz1, hz2⟩ := hzz
  obtain ⟨K, hK⟩ : ∃ K, K = l.length + 1 - i := ⟨_, rfl⟩
  obtain ⟨G, hG⟩ : ∃ G, G = grownCap W (l.length + 1) c 33 := ⟨_, rfl⟩
  obtain ⟨ROW, hROW⟩ : ∃ ROW : Array Value, ROW = (pcs (l.take i)).toArray ++ Builtin.zeroCells (Value.agg #[.int .i64 0, .int .i64 0]).cells K ++ Builtin.zeroCells (Value.agg #[.int .i64 0, .int .i64 0]).cells (G - (l.length + 1)) := ⟨_, rfl⟩
  have hGn : l.length + 1 ≤ G := by rw [hG]; exact grownCap_ge W _ _ _
  have hG63 : G ≤ 9223372036854775807 := by
    have := grownCap_le_maxLen W (l.length + 1) c 33 (by unfold maxLen; omega)
    rw [← hG] at this
    unfold maxLen at this
    omega
  have hti : (pcs (l.take i)).length = i * 2 := by rw [pcs_len, List.length_take, Nat.min_eq_left (by omega)]
  have hRs : ROW.size = G * 2 := by
    rw [hROW]
    simp only [Array.size_append, zero_len, List.size_toArray, hti]
    show i * 2 + K * 2 + (G - (l.length + 1)) * 2 = _
    omega
  have hrz : ∀ ty, (Builtin.append_ #[30, 3] ty #[.slice (some ⟨g, 0, none⟩) i c, .int .i64 (K : Int)]).run Try.prog W = .ok (.slice (some ⟨W.heap.size, 0, none⟩) (l.length + 1) G) (W.drew.alloc (.cells ROW 33)) := fun ty => by
    have hold : (Builtin.firstCells i0.size i (.slice (some ⟨g, 0, none⟩) i c)).run Try.prog W.drew = .ok (pcs (l.take i)).toArray W.drew := by
      rw [hz1]
      exact run_firstCells_some (P := Try.prog) (w := W.drew) 2 i ⟨g, 0, none⟩ i c (pcs (l.take i)) hti (fun j u hj => by
        rw [add_plain]
        rw [← pcs_take, List.getElem?_take] at hj
        split at hj
        · exact hcell j u hj
        · cases hj)
    have h := Lib.run_append_grow_zeros (P := Try.prog) (ty := ty) W 30 3 33 i0 _ .i64 .i64 Try.underlying30 Try.underlying3 hi0 hz0 (some ⟨g, 0, none⟩) i c (pcs (l.take i)) hold K (by omega) (by rw [hz1]; decide) (by omega) (by omega) (by rw [hz2]; omega) (by rw [hz2, show i + K = l.length + 1 by omega]; exact growslice_fits hroom (by omega))
    rw [show i + K = l.length + 1 by omega, ← hG, ← hROW] at h
    exact h
  obtain ⟨W1, hW1⟩ : ∃ W1, W1 = W.drew.alloc (.cells ROW 33) := ⟨_, rfl⟩
  obtain ⟨NB, hNB⟩ : ∃ NB, NB = W.heap.size := ⟨_, rfl⟩
  have hb1 : Below W.heap.size W W1 := by rw [hW1]; exact below_alloc (below_drew (Below.refl _ _)) _
  have hh1 : W1.heap[NB]? = some (.cells ROW 33 (0, 0)) := by rw [hW1, hNB]; exact blk_new W.drew _
  have hgNB : g < NB := by rw [hNB]; exact blk_lt hh
  have hvNB : gv < NB := by rw [hNB]; exact blk_lt hv
  rw [← hW1, ← hNB] at hrz
  rw [← hNB] at hb1
  -- the new one
  obtain ⟨cur1, hc1⟩ : ∃ cur1, cur1 = (ROW.toList.take (i * 2) ++ pcs [(x, y)] ++ ROW.toList.drop (i * 2 + 2)).toArray := ⟨_, rfl⟩
  have hcp2 : ∀ ty dc, (Builtin.copy_ #[30, 30] ty #[.slice (some ⟨NB, i * 2, none⟩) K dc, .slice (some ⟨gv, 0, none⟩) 1 1]).run Try.prog W1 = .ok (goInt 1) (W1.setRow NB cur1) := fun ty dc => by
    have h := run_copy_k (P := Try.prog) W1 30 30 ty 33 2 NB (i * 2) K dc ⟨gv, 0, none⟩ 1 1 ROW 33 (pcs [(x, y)]) Try.underlying30 info33s hh1 (by rw [show Nat.min 1 K = 1 by simp only [Nat.min_def]; split <;> omega]; rfl)
      (fun j u hj => by
        rw [add_plain]
        refine (blk_cell (show W1.heap[gv]? = some (.cells #[.int .i64 x, .int .i64 y] 33 (0, 0)) from (hb1.block gv hvNB).trans hv) j).trans ?_
        rw [List.getElem?_toArray]
        exact hj) (by rw [hRs]; show i * 2 + 2 ≤ _; omega) (pcs_one _)
    rw [show Nat.min 1 K = 1 by simp only [Nat.min_def]; split <;> omega] at h
    rw [hc1]
    exact h
  have hs1 : cur1.size = G * 2 := by rw [hc1]; simp [hRs, pcs_len]; omega
  obtain ⟨W2, hW2⟩ : ∃ W2, W2 = W1.setRow NB cur1 := ⟨_, rfl⟩
  have hb2 : Below NB W W2 := by rw [hW2]; exact setRow_below hb1 (Nat.le_refl _) _
  have hh2 : W2.heap[NB]? = some (.cells cur1 33 (0, 0)) := by rw [hW2]; exact setRow_heap _ _ _ _ _ _ hh1
  rw [← hW2] at hcp2
  -- those behind
  obtain ⟨cur2, hc2⟩ : ∃ cur2, cur2 = (cur1.toList.take ((i + 1) * 2) ++ pcs (l.drop i) ++ cur1.toList.drop ((i + 1) * 2 + (pcs (l.drop i)).length)).toArray := ⟨_, rfl⟩
  have hfit2 : (i + 1) * 2 + (pcs (l.drop i)).length ≤ cur1.size := by rw [hcl, hs1]; omega
  have hcp3 : ∀ ty dc sc, (Builtin.copy_ #[30, 30] ty #[.slice (some ⟨NB, (i + 1) * 2, none⟩) (l.length - i) dc, .slice (some ⟨g, i * 2, none⟩) (l.length - i) sc]).run Try.prog W2.drew = .ok (goInt ((l.length - i : Nat) : Int)) (W2.drew.setRow NB cur2) := fun ty dc sc => by
    have h := run_copy_k (P := Try.prog) W2.drew 30 30 ty 33 2 NB ((i + 1) * 2) (l.length - i) dc ⟨g, i * 2, none⟩ (l.length - i) sc cur1 33 (pcs (l.drop i)) Try.underlying30 info33s hh2 (by rw [hcl]; simp only [Nat.min_def]; split <;> omega)
      (fun j u hj => by
        rw [Addr.add_lit]
        refine (hb2.cell (p := ⟨g, i * 2 + j, none⟩) hgNB).trans (hcell (i * 2 + j) u ?_)
        rw [← pcs_drop, List.getElem?_drop] at hj
        exact hj) hfit2 (pcs_one _)
    rw [show Nat.min (l.length - i) (l.length - i) = l.length - i by simp only [Nat.min_def]; split <;> omega, ← hc2] at h
    exact h
  have HNEW := Aside0.mk (show PR (W2.drew.setRow NB cur2) b0 (.slice (some ⟨NB, 0, none⟩) (l.length + 1) G) (l.take i ++ (x, y) :: l.drop i) from by
    have hlen : (l.take i ++ (x, y) :: l.drop i).length = l.length + 1 := by simp; omega
    have hs2 : cur2.size = G * 2 := by rw [hc2]; simp [hcl] at hfit2 ⊢; omega
    have h := PR.mk (l := l.take i ++ (x, y) :: l.drop i) (setRow_heap W2.drew NB cur1 cur2 33 (0, 0) hh2) (by rw [hNB]; exact hb0) (by rw [hlen]; exact hGn) hG63 hs2 (by
      rw [hlen, hc2, List.toList_toArray, pcs_app, pcs_cons]
      have e1 : cur1.toList.take ((i + 1) * 2) = pcs (l.take i) ++ pcs [(x, y)] := by
        rw [hc1, List.toList_toArray, List.take_append_of_le_length (by simp [pcs_len, hRs]; omega)]
        have e0 : ROW.toList.take (i * 2) = pcs (l.take i) := by
          rw [hROW, Array.toList_append, Array.toList_append, List.append_assoc, List.take_append_of_le_length (by simp [hti])]
          rw [List.take_of_length_le (by simp [hti])]
        rw [e0, List.take_of_length_le (by rw [List.length_append, hti, pcs_len]; show i * 2 + 1 * 2 ≤ _; omega)]
      rw [e1, List.append_assoc, List.append_assoc, List.take_append, hti, List.take_of_length_le (by rw [hti]; omega)]
      congr 1
      rw [show (l.length + 1) * 2 - i * 2 = 2 + (pcs (l.drop i)).length by rw [hcl]; omega]
      show List.take (2 + (pcs (l.drop i)).length) (Value.int .i64 x :: Value.int .i64 y :: (pcs (l.drop i) ++ _)) = _
      rw [show 2 + (pcs (l.drop i)).length = (pcs (l.drop i)).length + 1 + 1 by omega, List.take_succ_cons, List.take_succ_cons, List.take_left' rfl])
    rw [hlen] at h
    exact h)
  have HBB := Aside0.mk (show Below NB W (W2.drew.setRow NB cur2) from setRow_below (show Below NB W W2.drew from ⟨hb2.os, hb2.tape, hb2.output, hb2.size, hb2.block⟩) (Nat.le_refl _) _)
  obtain ⟨W3, hW3⟩ : ∃ W3, W3 = W2.drew.setRow NB cur2 := ⟨_, rfl⟩
  rw [← hW3] at hcp3 HNEW HBB
  rw [← hNB]
  obtain ⟨n, hnn⟩ : ∃ n, n = l.length := ⟨_, rfl⟩
  rw [← hnn] at hrz hcp3 HNEW hi hroom hn hl hK hGn ⊢
  obtain ⟨N1, hN1⟩ : ∃ N1, N1 = n + 1 := ⟨_, rfl⟩
  obtain ⟨I1, hI1⟩ : ∃ I1, I1 = i + 1 := ⟨_, rfl⟩
  rw [show n - i = N1 - I1 by omega, ← hI1] at hcp3
  rw [show (N1 - I1 : Nat) = n - i by omega] at hcp3
  rw [← hN1] at hrz HNEW hGn ⊢
  have hNI : N1 - I1 = n - i := by omega
  have hNK : N1 - i = K := by omega
  have e1 : IntKind.i64.wrap ((n : Int) + 1) = (N1 : Int) := by rw [IntKind.wrap_i64]; omega
  have e2 : IntKind.i64.wrap ((i : Int) + 1) = (I1 : Int) := by rw [IntKind.wrap_i64]; omega
  have e3 : IntKind.i64.wrap ((N1 : Int) - (i : Int)) = (K : Int) := by rw [IntKind.wrap_i64]; omega
  have q1 : (0 ≤ (i : Int)) = True := eq_true (by omega)
  have q2 : ((i : Int) ≤ (n : Int)) = True := eq_true (by omega)
  have q2c : ((i : Int) ≤ (c : Int)) = True := eq_true (by omega)
  have q3 : ((i : Int) == (n : Int)) = false := beq_eq_false_iff_ne.2 (by omega)
  have q4 : decide ((c : Int) < (N1 : Int)) = true := decide_eq_true (by omega)
  have q4b : decide (c < N1) = true := decide_eq_true (by omega)
  have q7 : (0 ≤ (I1 : Int)) = True := eq_true (by omega)
  have q8 : ((I1 : Int) ≤ (N1 : Int)) = True := eq_true (by omega)
  have q9 : ((i : Int) ≤ (N1 : Int)) = True := eq_true (by omega)
  have r1 : (i ≤ n) = True := eq_true (by omega)
  have r1c : (i ≤ c) = True := eq_true (by omega)
  have r3 : (I1 ≤ N1) = True := eq_true (by omega)
  have r4 : (i ≤ N1) = True := eq_true (by omega)
  have r5 : (G = I1) = False := eq_false (by omega)
  have r6 : (c = i) = False := eq_false (by omega)
  have r7 : (G = i) = False := eq_false (by omega)
  have HX := Aside0.mk (And.intro hN1 hI1)
  clear hr hh hb hm hs ht hcl hcell hi0 hz0 hz1 hz2 hG hROW hGn hG63 hti hRs hW1 hb1 hh1 hgNB hvNB hc1 hs1 hW2 hb2 hh2 hc2 hfit2 hW3 hnn hn hN1 hI1 hi hroom hl hK hb0 hv hNB
  go_enter Try.func67, Try.ntmps67
  go_upto_region 11 with (first
    | (at_builtin; refine list_run rfl (.tmp 34) (.tmp 39) 30 3 rfl _ _ _ rfl rfl (hrz _) ?_)
    | (at_builtin; refine list_copy rfl (.tmp 43) (.tmp 44) 30 30 rfl _ _ rfl rfl (hcp2 _ _) ?_))
  refine start_ (n := 9) (S := fun w' => True) (ds := [8]) #[false, false, false, false, false, false, false, false, false] (by kernel_rfl) rfl rfl trivial (fun hHeld => ?_)
  refine pure_ (i := 0) (N := some 46) (v := ?_) (a' := ?_) #[true, false, false, false, false, false, false, false, false] rfl rfl (by kernel_rfl) (fun _ _ _ h => h) (Or.inl ⟨by rfl, ?_⟩) ?_ ?_
  rotate_left
  · intro w'
    go_simp
    with_reducible rfl
  rotate_left
  · simp only [Act.put, List.setIfInBounds_toArray, List.set_cons_zero, List.set_cons_succ, i64_w, i32_w]
    rfl
  refine pure_ (i := 1) (N := some 47) (v := ?_) (a' := ?_) #[true, true, false, false, false, false, false, false, false] rfl rfl (by kernel_rfl) (fun _ _ _ h => h) (Or.inl ⟨by rfl, ?_⟩) ?_ ?_
  rotate_left
  · intro w'
    go_simp
    with_reducible rfl
  rotate_left
  · simp only [Act.put, List.setIfInBounds_toArray, List.set_cons_zero, List.set_cons_succ, i64_w, i32_w]
    rfl
  refine pure_ (i := 2) (N := some 48) (v := ?_) (a' := ?_) #[true, true, true, false, false, false, false, false, false] rfl rfl (by kernel_rfl) (fun _ _ _ h => h) (Or.inl ⟨by rfl, ?_⟩) ?_ ?_
  rotate_left
  · intro w'
    go_simp
    with_reducible rfl
  rotate_left
  · simp only [Act.put, List.setIfInBounds_toArray, List.set_cons_zero, List.set_cons_succ, i64_w, i32_w]
    rfl
  refine pure_ (i := 3) (N := some 49) (v := ?_) (a' := ?_) #[true, true, true, true, false, false, false, false, false] rfl rfl (by kernel_rfl) (fun _ _ _ h => h) (Or.inl ⟨by rfl, ?_⟩) ?_ ?_
  rotate_left
  · intro w'
    go_simp
    with_reducible rfl
  rotate_left
  · simp only [Act.put, List.setIfInBounds_toArray, List.set_cons_zero, List.set_cons_succ, i64_w, i32_w]
    rfl
  refine pure_ (i := 4) (N := some 50) (v := ?_) (a' := ?_) #[true, true, true, true, true, false, false, false, false] rfl rfl (by kernel_rfl) (fun _ _ _ h => h) (Or.inl ⟨by rfl, ?_⟩) ?_ ?_
  rotate_left
  · intro w'
    go_simp
    with_reducible rfl
  rotate_left
  · simp only [Act.put, List.setIfInBounds_toArray, List.set_cons_zero, List.set_cons_succ, i64_w, i32_w]
    rfl
  refine pure_ (i := 5) (N := some 51) (v := ?_) (a' := ?_) #[true, true, true, true, true, true, false, false, false] rfl rfl (by kernel_rfl) (fun _ _ _ h => h) (Or.inl ⟨by rfl, ?_⟩) ?_ ?_
  rotate_left
  · intro w'
    go_simp
    with_reducible rfl
  rotate_left
  · simp only [Act.put, List.setIfInBounds_toArray, List.set_cons_zero, List.set_cons_succ, i64_w, i32_w]
    rfl
  refine pure_ (i := 6) (N := some 52) (v := ?_) (a' := ?_) #[true, true, true, true, true, true, true, false, false] rfl rfl (by kernel_rfl) (fun _ _ _ h => h) (Or.inl ⟨by rfl, ?_⟩) ?_ ?_
  rotate_left
  · intro w'
    go_simp
    with_reducible rfl
  rotate_left
  · simp only [Act.put, List.setIfInBounds_toArray, List.set_cons_zero, List.set_cons_succ, i64_w, i32_w]
    rfl
  refine pure_ (i := 7) (N := some 53) (v := ?_) (a' := ?_) #[true, true, true, true, true, true, true, true, false] rfl rfl (by kernel_rfl) (fun _ _ _ h => h) (Or.inl ⟨by rfl, ?_⟩) ?_ ?_
  rotate_left
  · intro w'
    go_simp
    with_reducible rfl
  rotate_left
  · simp only [Act.put, List.setIfInBounds_toArray, List.set_cons_zero, List.set_cons_succ, i64_w, i32_w]
    rfl
  refine last_ (i := 8) (N := some 54) #[true, true, true, true, true, true, true, true, true] rfl rfl (by kernel_rfl) (by decide) (fun K hK => ?_)
  refine step_copy rfl (.tmp 50) (.tmp 53) 30 30 rfl _ _ (by simp [Act.eval, Act.put, hNI]) (by simp [Act.eval, Act.put]) (hcp3 _ (G - I1) (c - i)) ?_
  refine hK.out _ _ ?_
  clear hK K
  refine norm_ (a' := ?_) ?_ ?_
  rotate_left
  · show Act.put _ (some 54) _ = _
    simp only [Act.put, List.setIfInBounds_toArray, List.set_cons_zero, List.set_cons_succ, i64_w, i32_w]
    rfl
  refine done_ (by kernel_rfl) ?_
  go_wp2
  go_ret
  exact ⟨G, rfl, HNEW.out, HBB.out⟩
end Go.Proofs.Ytakbhnfmimnbhaa.Rn
