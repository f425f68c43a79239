/- slices.Insert of one pair among pairs. Conditions: none. -/
import Derived.Test.YtakbhnfmimnbhaaRn6
import Derived.Lib.AppendZerosOnto
import Derived.Lib.Overlaps
import Derived.Laws.CopyRow
import Derived.Laws.Externs
namespace Go.Proofs.Ytakbhnfmimnbhaa.Rn
open Go.RowKit Go.Proofs.YtakbhnfmimnbhaaW.PrintWords Go.Proofs.YtakbhnfmimnbhaaW.PrintLast Go.Proofs.YtakbhnfmimnbhaaW.PrintMore
set_option linter.unusedVariables false
set_option linter.unusedSimpArgs false

section
variable {P : Program} {ops : Array Oper} {o : Oper} {a : Act} {Q : Exit → Act → World → Prop} {W w1 : World} {rest : List Oper}
theorem run_copy_k (w : World) (dT sT ty elem k : Nat) (g o dLen dCap : Nat) (a : Addr) (sLen sCap : Nat) (cur : Array Value) (t : TypeId) (cs : List Value)
    (hu : P.underlying dT = some (.slice elem)) (hs : (P.info? elem).map (·.size) = some k)
    (hg : w.heap[g]? = some (.cells cur t (0, 0))) (hn : cs.length = Nat.min sLen dLen * k)
    (hsrc : ∀ j v, cs[j]? = some v → w.cell? (a.add j) = some v) (hfit : o + cs.length ≤ cur.size) (h1 : ∀ v ∈ cs, v.oneCell' = true) :
    (Builtin.copy_ #[dT, sT] ty #[.slice (some ⟨g, o, none⟩) dLen dCap, .slice (some a) sLen sCap]).run P w =
      .ok (goInt (Nat.min sLen dLen)) (w.setRow g (cur.toList.take o ++ cs ++ cur.toList.drop (o + cs.length)).toArray) := by
  have hl := run_loadCells_list (P := P) w a cs hsrc
  have hst := run_storeCells_at P g o t cs 0 cur w hg (by simpa using hfit) h1
  cases hq : P.info? elem with
  | none => simp [hq] at hs
  | some i =>
    have hi : i.size = k := by simpa [hq] using hs
    simp [Builtin.copy_, run_underlying hu, Builtin.lenOf, Builtin.firstCells, sizeOf, typeInfo, hq, hi, ← hn, hl, hst]
theorem list_copy (hgd : o.guard = none) (d s : Operand) (t t' : TypeId) (ho : o.op = .call { callee := .builtin .copy, args := #[d, s], argTypes := #[t, t'] }) (v u : Value) (hd : a.eval d = v) (hs : a.eval s = u) {v' : Value}
    (hr : (Builtin.copy_ #[t, t'] o.type #[v, u]).run P W = .ok v' w1) (h : wpList P ops Q rest (a.put o.dst v') w1) : wpList P ops Q (o :: rest) a W := by
  refine wpList_plain hgd fun K hK => ?_
  unfold Oper.wp execOp
  simp only [ho, resolve, invoke, builtin, Sem.run_bind, Sem.run_pure, Result.andThen_ok, List.map_toArray, List.map_cons, List.map_nil, hd, hs, hr]
  exact hK _ _ h
theorem step_copy {K : Act → World → Prop} (hg : o.guard = none) (d s : Operand) (t t' : TypeId) (ho : o.op = .call { callee := .builtin .copy, args := #[d, s], argTypes := #[t, t'] }) (v u : Value) (hd : a.eval d = v) (hs : a.eval s = u) {v' : Value}
    (hr : (Builtin.copy_ #[t, t'] o.type #[v, u]).run P W = .ok v' w1) (h : K (a.put o.dst v') w1) {E : Prop} : if Region.wanted o (yielded ops a.tmps) = true then Oper.wp P o a W K Q else E := by
  have hw : Region.wanted o (yielded ops a.tmps) = true := by simp [Region.wanted, hg]
  rw [if_pos hw]
  unfold Oper.wp execOp
  simp only [ho, resolve, invoke, builtin, Sem.run_bind, Sem.run_pure, Result.andThen_ok, List.map_toArray, List.map_cons, List.map_nil, hd, hs, hr]
  exact h
end
theorem size33 : ∀ w, (Go.sizeOf 33).run Try.prog w = .ok 2 w := by
  intro w
  obtain ⟨i0, hi, h2⟩ := Option.map_eq_some_iff.1 (show (Try.prog.info? 33).map (·.size) = some 2 from by kernel_rfl)
  simp [sizeOf, typeInfo, hi, h2]
theorem info33s : (Try.prog.info? 33).map (·.size) = some 2 := by kernel_rfl
theorem pcs_take (l : List (Int × Int)) (i : Nat) : (pcs l).take (i * 2) = pcs (l.take i) := by
  induction l generalizing i with
  | nil => simp [pcs_nil]
  | cons p l ih =>
    cases i with
    | zero => simp [pcs_nil]
    | succ i => rw [pcs_cons, List.take_succ_cons, pcs_cons, show (i + 1) * 2 = i * 2 + 1 + 1 by omega, List.take_succ_cons, List.take_succ_cons, ih]
theorem pcs_drop (l : List (Int × Int)) (i : Nat) : (pcs l).drop (i * 2) = pcs (l.drop i) := by
  induction l generalizing i with
  | nil => simp [pcs_nil]
  | cons p l ih =>
    cases i with
    | zero => simp
    | succ i => rw [pcs_cons, List.drop_succ_cons, show (i + 1) * 2 = i * 2 + 1 + 1 by omega, List.drop_succ_cons, List.drop_succ_cons, ih]
/-- A row's block, opened. -/
theorem PR.opn {W : World} {b g n c : Nat} {l : List (Int × Int)} (h : PR W b (.slice (some ⟨g, 0, none⟩) n c) l) : ∃ cur, W.heap[g]? = some (.cells cur 33 (0, 0)) ∧ b ≤ g ∧ l.length ≤ c ∧ c ≤ 9223372036854775807 ∧ cur.size = c * 2 ∧ cur.toList.take (l.length * 2) = pcs l := by
  rcases h.2 with ⟨h', _⟩ | ⟨g', cap, cur, h', hb, hh, hn, hm, hs, ht⟩
  · cases h'
  · injection h' with e1 e2 e3
    injection e1 with e1
    injection e1 with e1
    subst e1
    subst e3
    exact ⟨cur, hh, hb, hn, by simpa [maxLen] using hm, hs, ht⟩
theorem PR.mk {W : World} {b g c : Nat} {l : List (Int × Int)} {cur : Array Value} (hh : W.heap[g]? = some (.cells cur 33 (0, 0))) (hb : b ≤ g) (hn : l.length ≤ c) (hm : c ≤ 9223372036854775807) (hs : cur.size = c * 2) (ht : cur.toList.take (l.length * 2) = pcs l) :
    PR W b (.slice (some ⟨g, 0, none⟩) l.length c) l := ⟨pcs_len l, .inr ⟨g, c, cur, rfl, hb, hh, hn, by simpa [maxLen] using hm, hs, ht⟩⟩
theorem setRow_below {b : Nat} {w0 w : World} (hb : Below b w0 w) {g : Nat} (hg : b ≤ g) (cs : Array Value) : Below b w0 (w.setRow g cs) :=
  hb.trans ⟨rfl, rfl, rfl, by simp [World.setRow], fun k hk => setRow_other w g k cs (by omega)⟩
theorem setRow_chg {S : Nat → Prop} {a w : World} (h : Chg S a w) {g : Nat} (hg : S g ∨ a.heap.size ≤ g) (cs : Array Value) : Chg S a (w.setRow g cs) :=
  ⟨h.os, h.tape, h.output, by simpa [World.setRow] using h.size, fun k hk hs => (setRow_other w g k cs (by
    rintro rfl
    rcases hg with z | z
    · exact hs z
    · omega)).trans (h.block k hk hs)⟩
set_option maxHeartbeats 8000000 in
set_option maxRecDepth 100000 in
/-- slices.Insert where there is room, ahead of the end. -/
theorem insert_room {W : World} {g c : Nat} {l : List (Int × Int)} {b0 i : Nat} (hr : PR W b0 (.slice (some ⟨g, 0, none⟩) l.length c) l) (hi : i < l.length) (hl : l.length ≤ 1000) (hroom : l.length + 1 ≤ c) {gv : Nat} {x y : Int} (hv : W.heap[gv]? = some (.cells #[.int .i64 x, .int .i64 y] 33 (0, 0))) (hne : gv ≠ g) :
    Calls Try.prog 67 #[.slice (some ⟨g, 0, none⟩) l.length c, .int .i64 (i : Int), .slice (some ⟨gv, 0, none⟩) 1 1] W fun e w' => e = .returned (.slice (some ⟨g, 0, none⟩) (l.length + 1) c) ∧ PR w' b0 (.slice (some ⟨g, 0, none⟩) (l.length + 1) c) (l.take i ++ (x, y) :: l.drop i) ∧ Chg (fun k => k = g) W w' := by
  have hu30 := Try.underlying30
  obtain ⟨cur, hh, hb, hn, hm, hs, ht⟩ := hr.opn
  have hcl : (pcs (l.drop i)).length = (l.length - i) * 2 := by rw [pcs_len, List.length_drop]
  have hcell : ∀ j u, (pcs l)[j]? = some u → W.cell? ⟨g, j, none⟩ = some u := fun j u hj => by
    have := hr.cells (g := g) rfl j u hj
    rwa [add_plain] at this
  -- the elements behind go one place up
  obtain ⟨cur1, hc1⟩ : ∃ cur1, cur1 = (cur.toList.take ((i + 1) * 2) ++ pcs (l.drop i) ++ cur.toList.drop ((i + 1) * 2 + (pcs (l.drop i)).length)).toArray := ⟨_, rfl⟩
  have hfit1 : (i + 1) * 2 + (pcs (l.drop i)).length ≤ cur.size := by rw [hcl, hs]; omega
  have hcp1 : ∀ ty dc sc, (Builtin.copy_ #[30, 30] ty #[.slice (some ⟨g, (i + 1) * 2, none⟩) (l.length - i) dc, .slice (some ⟨g, i * 2, none⟩) (l.length + 1 - i) sc]).run Try.prog W.drew = .ok (goInt ((l.length - i : Nat) : Int)) (W.drew.setRow g cur1) := fun ty dc sc => by
    have h := run_copy_k (P := Try.prog) W.drew 30 30 ty 33 2 g ((i + 1) * 2) (l.length - i) dc ⟨g, i * 2, none⟩ (l.length + 1 - i) sc cur 33 (pcs (l.drop i)) Try.underlying30 info33s hh (by rw [hcl]; simp only [Nat.min_def]; split <;> omega)
      (fun j u hj => by
        rw [Addr.add_lit]
        refine hcell (i * 2 + j) u ?_
        rw [← pcs_drop, List.getElem?_drop] at hj
        exact hj) hfit1 (pcs_one _)
    rw [show Nat.min (l.length + 1 - i) (l.length - i) = l.length - i by simp only [Nat.min_def]; split <;> omega, ← hc1] at h
    exact h
  have hs1 : cur1.size = cur.size := by rw [hc1]; simp [hcl] at hfit1 ⊢; omega
  have hh1 : (W.drew.setRow g cur1).heap[g]? = some (.cells cur1 33 (0, 0)) := setRow_heap _ _ _ _ _ _ (show W.drew.heap[g]? = _ from hh)
  obtain ⟨cur2, hc2⟩ : ∃ cur2, cur2 = (cur1.toList.take (i * 2) ++ pcs [(x, y)] ++ cur1.toList.drop (i * 2 + 2)).toArray := ⟨_, rfl⟩
  have hcp2 : ∀ ty dc, (Builtin.copy_ #[30, 30] ty #[.slice (some ⟨g, i * 2, none⟩) (l.length + 1 - i) dc, .slice (some ⟨gv, 0, none⟩) 1 1]).run Try.prog (W.drew.setRow g cur1) = .ok (goInt 1) ((W.drew.setRow g cur1).setRow g cur2) := fun ty dc => by
    have h := run_copy_k (P := Try.prog) (W.drew.setRow g cur1) 30 30 ty 33 2 g (i * 2) (l.length + 1 - i) dc ⟨gv, 0, none⟩ 1 1 cur1 33 (pcs [(x, y)]) Try.underlying30 info33s hh1 (by rw [show Nat.min 1 (l.length + 1 - i) = 1 by simp only [Nat.min_def]; split <;> omega]; rfl)
      (fun j u hj => by
        rw [add_plain]
        refine (blk_cell (show (W.drew.setRow g cur1).heap[gv]? = some (.cells #[.int .i64 x, .int .i64 y] 33 (0, 0)) from (setRow_other W.drew g gv cur1 hne).trans hv) j).trans ?_
        rw [List.getElem?_toArray]
        exact hj) (by rw [hs1, hs]; show i * 2 + 2 ≤ _; omega) (pcs_one _)
    rw [show Nat.min 1 (l.length + 1 - i) = 1 by simp only [Nat.min_def]; split <;> omega] at h
    rw [hc2]
    exact h
  have hov : ∀ lb cb, (callFunc 90 #[.slice (some ⟨gv, 0, none⟩) 1 1, .slice (some ⟨g, (i + 1) * 2, none⟩) lb cb]).run Try.prog W = .ok (.value (.bool false)) W := fun lb cb => by
    rw [run_callFunc_extern Try.func90 (by kernel_rfl) (by kernel_rfl) (by kernel_rfl) (e := Extern.SlicesOverlaps.overlaps #[30, 30] #[4]) (by kernel_rfl),
      Lib.run_overlaps_apart W 30 4 33 Try.underlying30 2 size33 ⟨gv, 0, none⟩ ⟨g, (i + 1) * 2, none⟩ 1 1 lb cb hne 33 33 2 (c * 2) (by simp [World.shape?, hv]) (by simp [World.shape?, hh, hs]) (by omega) (blk_frozen hv 0) (blk_frozen hv 2)]
    rfl
  have HNEW := Aside0.mk (show PR ((W.drew.setRow g cur1).setRow g cur2) b0 (.slice (some ⟨g, 0, none⟩) (l.length + 1) c) (l.take i ++ (x, y) :: l.drop i) from by
    have hlen : (l.take i ++ (x, y) :: l.drop i).length = l.length + 1 := by simp; omega
    have hs2 : cur2.size = c * 2 := by rw [hc2]; simp [hs1, hs, pcs_len]; omega
    have h := PR.mk (l := l.take i ++ (x, y) :: l.drop i) (setRow_heap (W.drew.setRow g cur1) g cur1 cur2 33 (0, 0) hh1) hb (by rw [hlen]; exact hroom) hm hs2 (by
      rw [hlen, hc2, List.toList_toArray]
      have e1 : (cur1.toList.take (i * 2)) = pcs (l.take i) := by
        rw [hc1, List.toList_toArray, List.append_assoc, List.take_append_of_le_length (by rw [List.length_take, Array.length_toList, hs]; omega), List.take_take, show min (i * 2) ((i + 1) * 2) = min (i * 2) (l.length * 2) by omega, ← List.take_take, ht, pcs_take]
      have e2 : (cur1.toList.drop (i * 2 + 2)) = pcs (l.drop i) ++ cur.toList.drop ((i + 1) * 2 + (pcs (l.drop i)).length) := by
        rw [hc1, List.toList_toArray, List.append_assoc, List.drop_append_of_le_length (by rw [List.length_take, Array.length_toList, hs]; omega)]
        rw [List.drop_of_length_le (by rw [List.length_take]; omega), List.nil_append]
      rw [e1, e2, pcs_app, pcs_cons]
      have e3 : (pcs (l.take i)).length = i * 2 := by rw [pcs_len, List.length_take, Nat.min_eq_left (by omega)]
      rw [List.append_assoc, List.take_append, e3, List.take_of_length_le (by rw [e3]; omega)]
      congr 1
      rw [show (l.length + 1) * 2 - i * 2 = 2 + (pcs (l.drop i)).length by rw [hcl]; omega]
      show List.take (2 + (pcs (l.drop i)).length) (Value.int .i64 x :: Value.int .i64 y :: (pcs (l.drop i) ++ _)) = _
      rw [show 2 + (pcs (l.drop i)).length = (pcs (l.drop i)).length + 1 + 1 by omega, List.take_succ_cons, List.take_succ_cons, List.take_left' rfl]
      rfl)
    rw [hlen] at h
    exact h)
  have HCH := Aside0.mk (show Chg (fun k => k = g) W ((W.drew.setRow g cur1).setRow g cur2) from setRow_chg (S := fun k => k = g) (g := g) (setRow_chg (S := fun k => k = g) (g := g) (Chg.of_below (below_drew (Below.refl _ _))) (.inl rfl) _) (.inl rfl) _)
  obtain ⟨W1, hW1⟩ : ∃ W1, W1 = W.drew.setRow g cur1 := ⟨_, rfl⟩
  obtain ⟨W2, hW2⟩ : ∃ W2, W2 = W1.setRow g cur2 := ⟨_, rfl⟩
  rw [← hW1] at hcp1 hcp2 HNEW HCH
  rw [← hW2] at hcp2 HNEW HCH
  obtain ⟨n, hnn⟩ : ∃ n, n = l.length := ⟨_, rfl⟩
  rw [← hnn] at hcp1 hcp2 HNEW hi hroom hn hl ⊢
  obtain ⟨N1, hN1⟩ : ∃ N1, N1 = n + 1 := ⟨_, rfl⟩
  obtain ⟨I1, hI1⟩ : ∃ I1, I1 = i + 1 := ⟨_, rfl⟩
  rw [show n - i = N1 - I1 by omega, ← hN1, ← hI1] at hcp1
  rw [← hN1] at hcp2 HNEW ⊢
  rw [← hI1] at hov
  have e1 : IntKind.i64.wrap ((n : Int) + 1) = (N1 : Int) := by rw [IntKind.wrap_i64]; omega
  have e2 : IntKind.i64.wrap ((i : Int) + 1) = (I1 : Int) := by rw [IntKind.wrap_i64]; omega
  have q1 : (0 ≤ (i : Int)) = True := eq_true (by omega)
  have q2 : ((i : Int) ≤ (n : Int)) = True := eq_true (by omega)
  have q3 : ((i : Int) == (n : Int)) = false := beq_eq_false_iff_ne.2 (by omega)
  have q4 : decide ((c : Int) < (N1 : Int)) = false := decide_eq_false (by omega)
  have q4b : decide (c < N1) = false := decide_eq_false (by omega)
  have q5 : (0 ≤ (N1 : Int)) = True := eq_true (by omega)
  have q6 : ((N1 : Int) ≤ (c : Int)) = True := eq_true (by omega)
  have q7 : (0 ≤ (I1 : Int)) = True := eq_true (by omega)
  have q8 : ((I1 : Int) ≤ (N1 : Int)) = True := eq_true (by omega)
  have q9 : ((i : Int) ≤ (N1 : Int)) = True := eq_true (by omega)
  have r1 : (i ≤ n) = True := eq_true (by omega)
  have r2 : (N1 ≤ c) = True := eq_true (by omega)
  have r3 : (I1 ≤ N1) = True := eq_true (by omega)
  have r4 : (i ≤ N1) = True := eq_true (by omega)
  have r5 : (c = I1) = False := eq_false (by omega)
  have r6 : (c = i) = False := eq_false (by omega)
  have HX := Aside0.mk (And.intro hN1 hI1)
  clear hr hh hb hm hs ht hcl hcell hc1 hfit1 hs1 hh1 hc2 hW1 hW2 hnn hn hN1 hI1 hi hroom hl
  go_enter Try.func67, Try.ntmps67
  go_upto_region 15 with (simp only [hov])
  refine start_ (n := 9) (S := fun w' => True) (ds := [8]) #[false, false, false, false, false, false, false, false, false] (by kernel_rfl) rfl rfl trivial (fun hHeld => ?_)
  refine pure_ (i := 0) (N := some 69) (v := ?_) (a' := ?_) #[true, false, false, false, false, false, false, false, false] rfl rfl (by kernel_rfl) (fun _ _ _ h => h) (Or.inl ⟨by rfl, ?_⟩) ?_ ?_
  rotate_left
  · intro w'
    go_simp
    with_reducible rfl
  rotate_left
  · simp only [Act.put, List.setIfInBounds_toArray, List.set_cons_zero, List.set_cons_succ, i64_w, i32_w]
    rfl
  refine pure_ (i := 1) (N := some 70) (v := ?_) (a' := ?_) #[true, true, false, false, false, false, false, false, false] rfl rfl (by kernel_rfl) (fun _ _ _ h => h) (Or.inl ⟨by rfl, ?_⟩) ?_ ?_
  rotate_left
  · intro w'
    go_simp
    with_reducible rfl
  rotate_left
  · simp only [Act.put, List.setIfInBounds_toArray, List.set_cons_zero, List.set_cons_succ, i64_w, i32_w]
    rfl
  refine pure_ (i := 2) (N := some 71) (v := ?_) (a' := ?_) #[true, true, true, false, false, false, false, false, false] rfl rfl (by kernel_rfl) (fun _ _ _ h => h) (Or.inl ⟨by rfl, ?_⟩) ?_ ?_
  rotate_left
  · intro w'
    go_simp
    with_reducible rfl
  rotate_left
  · simp only [Act.put, List.setIfInBounds_toArray, List.set_cons_zero, List.set_cons_succ, i64_w, i32_w]
    rfl
  refine pure_ (i := 3) (N := some 72) (v := ?_) (a' := ?_) #[true, true, true, true, false, false, false, false, false] rfl rfl (by kernel_rfl) (fun _ _ _ h => h) (Or.inl ⟨by rfl, ?_⟩) ?_ ?_
  rotate_left
  · intro w'
    go_simp
    with_reducible rfl
  rotate_left
  · simp only [Act.put, List.setIfInBounds_toArray, List.set_cons_zero, List.set_cons_succ, i64_w, i32_w]
    rfl
  refine pure_ (i := 4) (N := some 73) (v := ?_) (a' := ?_) #[true, true, true, true, true, false, false, false, false] rfl rfl (by kernel_rfl) (fun _ _ _ h => h) (Or.inl ⟨by rfl, ?_⟩) ?_ ?_
  rotate_left
  · intro w'
    go_simp
    with_reducible rfl
  rotate_left
  · simp only [Act.put, List.setIfInBounds_toArray, List.set_cons_zero, List.set_cons_succ, i64_w, i32_w]
    rfl
  refine pure_ (i := 5) (N := some 74) (v := ?_) (a' := ?_) #[true, true, true, true, true, true, false, false, false] rfl rfl (by kernel_rfl) (fun _ _ _ h => h) (Or.inl ⟨by rfl, ?_⟩) ?_ ?_
  rotate_left
  · intro w'
    go_simp
    with_reducible rfl
  rotate_left
  · simp only [Act.put, List.setIfInBounds_toArray, List.set_cons_zero, List.set_cons_succ, i64_w, i32_w]
    rfl
  refine pure_ (i := 6) (N := some 75) (v := ?_) (a' := ?_) #[true, true, true, true, true, true, true, false, false] rfl rfl (by kernel_rfl) (fun _ _ _ h => h) (Or.inl ⟨by rfl, ?_⟩) ?_ ?_
  rotate_left
  · intro w'
    go_simp
    with_reducible rfl
  rotate_left
  · simp only [Act.put, List.setIfInBounds_toArray, List.set_cons_zero, List.set_cons_succ, i64_w, i32_w]
    rfl
  refine pure_ (i := 7) (N := some 76) (v := ?_) (a' := ?_) #[true, true, true, true, true, true, true, true, false] rfl rfl (by kernel_rfl) (fun _ _ _ h => h) (Or.inl ⟨by rfl, ?_⟩) ?_ ?_
  rotate_left
  · intro w'
    go_simp
    with_reducible rfl
  rotate_left
  · simp only [Act.put, List.setIfInBounds_toArray, List.set_cons_zero, List.set_cons_succ, i64_w, i32_w]
    rfl
  refine last_ (i := 8) (N := some 77) #[true, true, true, true, true, true, true, true, true] rfl rfl (by kernel_rfl) (by decide) (fun K hK => ?_)
  refine step_copy rfl (.tmp 73) (.tmp 76) 30 30 rfl _ _ (by simp [Act.eval, Act.put]) (by simp [Act.eval, Act.put]) (hcp1 _ (c - I1) (c - i)) ?_
  refine hK.out _ _ ?_
  clear hK K
  refine norm_ (a' := ?_) ?_ ?_
  rotate_left
  · show Act.put _ (some 77) _ = _
    simp only [Act.put, List.setIfInBounds_toArray, List.set_cons_zero, List.set_cons_succ, i64_w, i32_w]
    rfl
  refine done_ (by kernel_rfl) ?_
  go_wp2_with (at_builtin; refine list_copy rfl _ _ 30 30 rfl _ _ rfl rfl (hcp2 _ _) ?_)
  go_ret
  exact ⟨rfl, HNEW.out, HCH.out⟩
end Go.Proofs.Ytakbhnfmimnbhaa.Rn
