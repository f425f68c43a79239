/- Rows of frames: one frame read and stored; the page's with and Low. Conditions: none. -/
import Derived.Test.YtakbhnfmimnbhaaRn30
import Derived.Test.YtakbhnfmimnbhaaRn14
namespace Go.Proofs.Ytakbhnfmimnbhaa.Rn
open Go.RowKit Go.Proofs.YtakbhnfmimnbhaaW.PrintWords Go.Proofs.YtakbhnfmimnbhaaW.PrintLast Go.Proofs.YtakbhnfmimnbhaaW.PrintMore
set_option linter.unusedVariables false
set_option linter.unusedSimpArgs false

theorem info110s : (Try.prog.info? 110).map (·.size) = some 27 := by kernel_rfl
theorem set_all : ∀ (l : List Value) (k : Nat) (cs : Array Value), cs.size = k + l.length → ∀ j : Nat, ((l.zipIdx k).foldl (fun cs x => cs.setIfInBounds x.2 x.1) cs)[j]? = if j < k then cs[j]? else l[j - k]?
  | [], k, cs, h, j => by
    simp only [List.zipIdx_nil, List.foldl_nil, List.getElem?_nil]
    split
    · rfl
    · exact Array.getElem?_eq_none (by simp at h; omega)
  | x :: l, k, cs, h, j => by
    rw [List.zipIdx_cons, List.foldl_cons, set_all l (k + 1) _ (by simp at h ⊢; omega) j]
    rw [Array.getElem?_setIfInBounds]
    by_cases h1 : j < k
    · rw [if_pos (by omega), if_neg (by omega), if_pos h1]
    · rw [if_neg h1]
      by_cases h2 : j = k
      · subst h2
        have h3 : j < cs.size := by simp at h; omega
        simp [h3]
      · rw [if_neg (by omega), show j - k = (j - (k + 1)) + 1 by omega]
        rfl
theorem set_row {l : List Value} {cs : Array Value} (h : cs.size = l.length) : ((l.zipIdx).foldl (fun cs x => cs.setIfInBounds x.2 x.1) cs) = l.toArray := by
  refine Array.ext_getElem? fun j => ?_
  rw [set_all l 0 cs (by omega) j, if_neg (by omega)]
  simp
set_option maxRecDepth 100000 in
theorem run_slice110 {w : World} {r : List Int} (h27 : r.length = 27) : (Instr.buildSlice 59 1 #[(0, .agg (nums .i64 r).toArray)]).run Try.prog w = .ok (.slice (some ⟨w.heap.size, 0, none⟩) 1 1) (w.alloc (.cells (nums .i64 r).toArray 110)) := by
  have hu59 := Try.underlying59
  have hl : (nums .i64 r).length = 27 := by simp [nums, h27]
  unfold Instr.buildSlice
  go_simp
  rw [set_row (by rw [hl]; rfl)]
theorem ex_slice110 {oi : Oper} {a : Act} {w : World} {r : List Int} {x : Operand} (ho : oi.op = .buildSlice 59 1 #[(0, x)]) (hx : a.eval x = .agg (nums .i64 r).toArray) (h27 : r.length = 27) : (execOp a.eval oi).run Try.prog w = .ok (.value (.slice (some ⟨w.heap.size, 0, none⟩) 1 1)) (w.alloc (.cells (nums .i64 r).toArray 110)) := by
  unfold execOp
  simp only [ho, List.map_toArray, List.map_cons, List.map_nil, hx, Sem.run_bind, run_slice110 h27, Result.andThen_ok]
  rfl
def rowI (is : List Int) (i : Nat) : List Int := (is.drop (i * 27)).take 27
theorem rowI_len {is : List Int} {n i : Nat} (h : is.length = n * 27) (hi : i < n) : (rowI is i).length = 27 := by
  unfold rowI
  rw [List.length_take, List.length_drop]
  omega
theorem rowI_at {is : List Int} {i j : Nat} (hj : j < 27) : (rowI is i).getD j 0 = is.getD (i * 27 + j) 0 := by
  unfold rowI
  rw [List.getD_eq_getElem?_getD, List.getD_eq_getElem?_getD, List.getElem?_take, if_pos hj, List.getElem?_drop]
theorem nums_len (l : List Int) : (nums .i64 l).length = l.length := by simp [nums]
theorem nums_app (a b : List Int) : nums .i64 (a ++ b) = nums .i64 a ++ nums .i64 b := by simp [nums]
theorem fr_len {W : World} {A : Option Addr} {n : Nat} {is : List Int} (hr : RdC W A n 27 (nums .i64 is)) : is.length = n * 27 := by have := hr.1; rwa [nums_len] at this
theorem rd_row {W : World} {A : Option Addr} {n : Nat} {is : List Int} (hr : RdC W A n 27 (nums .i64 is)) {i : Nat} (hi : i < n) : ∃ ad, A = some ad ∧ (∀ j u, (nums .i64 (rowI is i))[j]? = some u → W.cell? ((ad.add (i * 27)).add j) = some u) ∧ W.cell? ⟨(ad.add (i * 27)).block, (ad.add (i * 27)).off + 2, none⟩ = some (.int .i64 (is.getD (i * 27 + 2) 0)) := by
  obtain ⟨ad, e, hc⟩ := hr.2 (by omega)
  have hl := fr_len hr
  refine ⟨ad, e, fun j u hj => ?_, by rw [← add_field _ _ 2 (by omega)]; exact hc _ _ (nums_at (by omega))⟩
  rw [Go.Deep.add_add]
  refine hc _ _ ?_
  have hj27 : j < 27 := by
    have := (List.getElem?_eq_some_iff.1 hj).1
    rw [nums_len, rowI_len hl hi] at this
    exact this
  unfold nums rowI at hj
  unfold nums
  rw [List.getElem?_map, List.getElem?_take, if_pos hj27, List.getElem?_drop, ← List.getElem?_map] at hj
  exact hj
theorem run_load110 {w : World} {a : Addr} {r : List Int} (h27 : r.length = 27) (hc : ∀ j u, (nums .i64 r)[j]? = some u → w.cell? (a.add j) = some u) : (loadVar 110 a).run Try.prog w = .ok (.agg (nums .i64 r).toArray) w := by
  have hl : (loadCells a (nums .i64 r).length).run Try.prog w = .ok (nums .i64 r).toArray w := run_loadCells_list (P := Try.prog) w a (nums .i64 r) hc
  rw [nums_len, h27] at hl
  cases hq : Try.prog.info? 110 with
  | none => have := info110s; rw [hq] at this; cases this
  | some i =>
    have hs : i.size = 27 := by have := info110s; rw [hq] at this; simpa using this
    have hagg : (isAgg 110).run Try.prog w = .ok true w := by
      unfold isAgg
      rw [Sem.run_bind, run_underlying Try.underlying110 w]
      rfl
    simp [loadVar, Sem.run_bind, hagg, sizeOf, typeInfo, hq, hs, hl]
theorem list_load110 {ops : Array Oper} {rest : List Oper} {o : Oper} {a : Act} {w : World} {Q : Exit → Act → World → Prop} {p : Addr} {r : List Int} (hg : o.guard = none) (x : Operand) (ho : o.op = .load 110 x) (hx : a.eval x = .pointer (some p)) (h27 : r.length = 27) (hc : ∀ j u, (nums .i64 r)[j]? = some u → w.cell? (p.add j) = some u) (h : wpList Try.prog ops Q rest (a.put o.dst (.agg (nums .i64 r).toArray)) w) : wpList Try.prog ops Q (o :: rest) a w := by
  refine wpList_plain hg fun K hK => ?_
  unfold Oper.wp execOp
  simp only [ho, hx, Instr.loadAt, Instr.sureAddr, Sem.run_bind, Sem.run_pure, Result.andThen_ok, run_load110 h27 hc]
  exact hK _ _ h
theorem ex_load110c {oi : Oper} {a : Act} {w : World} {p : Addr} {r : List Int} {x : Operand} (ho : oi.op = .load 110 x) (hx : a.eval x = .pointer (some p)) (h27 : r.length = 27) (hc : ∀ j u, (nums .i64 r)[j]? = some u → w.cell? (p.add j) = some u) : (execOp a.eval oi).run Try.prog w = .ok (.value (.agg (nums .i64 r).toArray)) w := by
  unfold execOp
  simp only [ho, hx, Instr.loadAt, Instr.sureAddr, Sem.run_bind, Sem.run_pure, Result.andThen_ok, run_load110 h27 hc]
theorem blk_cells {w : World} {g : Nat} {t : TypeId} {cs : List Value} (h : w.heap[g]? = some (.cells cs.toArray t (0, 0))) : ∀ j u, cs[j]? = some u → w.cell? ((⟨g, 0, none⟩ : Addr).add j) = some u := fun j u hj => by
  rw [add_plain]
  exact (blk_cell h j).trans (by rw [List.getElem?_toArray]; exact hj)
theorem ex_load110 {oi : Oper} {a : Act} {w : World} {g : Nat} {r : List Int} {x : Operand} (ho : oi.op = .load 110 x) (hx : a.eval x = .pointer (some ⟨g, 0, none⟩)) (h27 : r.length = 27) (hg : w.heap[g]? = some (.cells (nums .i64 r).toArray 110 (0, 0))) : (execOp a.eval oi).run Try.prog w = .ok (.value (.agg (nums .i64 r).toArray)) w := ex_load110c ho hx h27 (blk_cells hg)
theorem ex_box110 {oi : Oper} {a : Act} {w : World} {r : List Int} {x : Operand} (ho : oi.op = .box 110 x) (hx : a.eval x = .agg (nums .i64 r).toArray) : (execOp a.eval oi).run Try.prog w = .ok (.value (.pointer (some ⟨w.heap.size, 0, none⟩))) (w.alloc (.cells (nums .i64 r).toArray 110)) := by
  unfold execOp
  simp only [ho, hx]
  rfl
theorem nums_all (r : List Int) : (nums .i64 r).toArray.all (·.oneCell') = true := by
  rw [Array.all_eq_true_iff_forall_mem]
  intro v hv
  exact nums_one r v (by simpa using hv)
theorem nums_sz {r : List Int} (h : r.length = 27) : (nums .i64 r).toArray.size = 27 := by simp [nums, h]
theorem al_below {W V : World} (h : Below W.heap.size W V) (o : Obj) : Below W.heap.size W (V.alloc o) := h.alloc h.size o
theorem al_blk {V : World} {g : Nat} {o : Obj} (h : V.heap[g]? = some o) (o2 : Obj) : (V.alloc o2).heap[g]? = some o := blk_below h (below_alloc (Below.refl _ _) _)
theorem fr_app {W : World} {b g m c : Nat} {A : Option Addr} {fx : List Value} (hv : W.ownsRow b 110 27 (.slice (some ⟨g, 0, none⟩) 0 0) 0 []) (hr : RdC W A m 27 fx) (h1 : ∀ x ∈ fx, x.oneCell' = true) (hb : b ≤ W.heap.size) (hm : m ≤ 100000) : ∃ A9 c9 w9, (Builtin.append_ #[59, 59] 59 #[.slice (some ⟨g, 0, none⟩) 0 0, .slice A m c]).run Try.prog W = .ok (.slice A9 m c9) w9 ∧ w9.ownsRow b 110 27 (.slice A9 m c9) m fx ∧ Below b W w9 ∧ ∀ k o, W.heap[k]? = some o → k ≠ g → w9.heap[k]? = some o := by
  obtain ⟨v1, w9, hrn, hown, hg9, hat⟩ := app_any (P := Try.prog) (ty := 59) (W := W) b 59 110 27 216 z110 Try.underlying59 info110z rfl (by decide) (by decide) (.slice (some ⟨g, 0, none⟩) 0 0) 0 [] fx A m c hv hr h1 hb (by omega) (fun _ => rfl)
  obtain ⟨A9, c9, rfl⟩ := own_slice hown
  rw [Nat.zero_add, List.nil_append] at hown
  rw [Nat.zero_add] at hrn
  exact ⟨A9, c9, w9, hrn, hown, (Below.refl b W).grown hg9 hb (fun k hk => own_base hv k hk), fun k o ho hne => blk_grown ho hg9 (fun q => hne (by simpa [Value.ownBlock] using q))⟩
theorem fr_end {W : World} {b gn m : Nat} {v : Value} {pre r : List Int} (hv : W.ownsRow b 110 27 v m (nums .i64 pre)) (hx : W.heap[gn]? = some (.cells (nums .i64 r).toArray 110 (0, 0))) (hb : b ≤ W.heap.size) (h27 : r.length = 27) (hm : m ≤ 100000) : ∃ A9 c9 w9, (Builtin.append_ #[59, 59] 59 #[v, .slice (some ⟨gn, 0, none⟩) 1 1]).run Try.prog W = .ok (.slice A9 (m + 1) c9) w9 ∧ w9.ownsRow b 110 27 (.slice A9 (m + 1) c9) (m + 1) (nums .i64 (pre ++ r)) ∧ Below b W w9 := by
  obtain ⟨v1, w9, hrn, hown, hg9, hat⟩ := app_any (P := Try.prog) (ty := 59) (W := W) b 59 110 27 216 z110 Try.underlying59 info110z rfl (by decide) (by decide) v m (nums .i64 pre) (nums .i64 r) (some ⟨gn, 0, none⟩) 1 1 hv ⟨by rw [nums_len, h27], fun _ => ⟨_, rfl, blk_cells hx⟩⟩ (nums_one _) hb (by omega) (fun _ => rfl)
  obtain ⟨A9, c9, rfl⟩ := own_slice hown
  rw [← nums_app] at hown
  exact ⟨A9, c9, w9, hrn, hown, (Below.refl b W).grown hg9 hb (fun k hk => own_base hv k hk)⟩
theorem rdc_take {W : World} {A : Option Addr} {n m : Nat} {is : List Int} (hr : RdC W A n 27 (nums .i64 is)) (hm : m ≤ n) : RdC W A m 27 (nums .i64 (is.take (m * 27))) := by
  have hl := fr_len hr
  refine ⟨by rw [nums_len, List.length_take, hl]; omega, fun h => ?_⟩
  obtain ⟨ad, e, hc⟩ := hr.2 (by omega)
  refine ⟨ad, e, fun j u hj => hc j u ?_⟩
  unfold nums at hj ⊢
  rw [List.map_take, List.getElem?_take] at hj
  split at hj
  · exact hj
  · cases hj
set_option maxHeartbeats 16000000 in
set_option maxRecDepth 100000 in
theorem with_any {W : World} {A : Option Addr} {n c : Nat} {is r : List Int} (hr : RdC W A n 27 (nums .i64 is)) (hn : n ≤ 100000) (h0 : 0 < n) (hc : n ≤ c) (h27 : r.length = 27) : Calls Try.prog 108 #[.slice A n c, .agg (nums .i64 r).toArray] W fun e w' => ∃ A9 c9, e = .returned (.slice A9 n c9) ∧ w'.ownsRow W.heap.size 110 27 (.slice A9 n c9) n (nums .i64 (is.take ((n - 1) * 27) ++ r)) ∧ Below W.heap.size W w' := by
  have hu59 := Try.underlying59
  have HN := Aside0.mk hn
  have H27 := Aside0.mk h27
  obtain ⟨m, rfl⟩ : ∃ m, n = m + 1 := ⟨n - 1, by omega⟩
  rw [show m + 1 - 1 = m from rfl]
  obtain ⟨pre, hpre⟩ : ∃ pre, pre = is.take (m * 27) := ⟨_, rfl⟩
  have HRM := Aside0.mk (show RdC W A m 27 (nums .i64 pre) from by rw [hpre]; exact rdc_take hr (Nat.le_succ m))
  rw [← hpre]
  obtain ⟨n, hnn⟩ : ∃ n, n = m + 1 := ⟨_, rfl⟩
  rw [← hnn] at HN hc ⊢
  have HNN := Aside0.mk hnn
  have ew : IntKind.i64.wrap ((n : Int) - 1) = (m : Int) := by rw [IntKind.wrap_i64]; have := HN.out; omega
  have ew2 : wrap64 ((n : Int) - 1) = (m : Int) := by have := HN.out; unfold wrap64; omega
  have p1 : (0 ≤ (m : Int)) = True := eq_true (by omega)
  have p2 : ((m : Int) ≤ (c : Int)) = True := eq_true (by omega)
  have p3 : (m ≤ c) = True := eq_true (by omega)
  have p4 : ((c : Int) < (m : Int)) = False := eq_false (by omega)
  clear hr hn h0 hc h27 hpre hnn
  go_enter Try.func108, Try.ntmps108
  go_upto_region 1 with ((with_reducible refine gate_dst (N := 3) rfl ?_); refine box_event ?hg (N := 3) ?hd (cs := (nums .i64 r).toArray) (t := 110) ?hr ?_; (case hd => rfl); (case hg => rfl); (case hr => exact ex_box110 rfl rfl); intro gx hg w1 hbox hb; have B1 := Aside0.mk hb; have X1 := Aside0.mk hbox; clear hbox hb hg)
  have HXD := Aside0.mk (show w1.drew.heap[gx]? = some (.cells (nums .i64 r).toArray 110 (0, 0)) from X1.out)
  have BD := Aside0.mk (show Below W.heap.size W w1.drew from below_drew B1.out)
  refine start_ (n := 11) (S := fun w' => w'.heap[gx]? = some (.cells (nums .i64 r).toArray 110 (0, 0))) (ds := [9]) #[false, false, false, false, false, false, false, false, false, false, false] (by kernel_rfl) rfl rfl (HXD.out) (fun hHeld => ?_)
  refine pure_ (i := 1) (N := some 6) (v := ?_) (a' := ?_) #[false, true, false, false, false, false, false, false, false, false, false] rfl rfl (by kernel_rfl) (fun _ _ _ h => h) (Or.inl ⟨by rfl, ?_⟩) ?_ ?_
  rotate_left
  · intro w'
    go_simp
    with_reducible rfl
  rotate_left
  · simp only [Act.put, List.setIfInBounds_toArray, List.set_cons_zero, List.set_cons_succ, i64_w, i32_w]
    rfl
  refine pure_ (i := 2) (N := some 7) (v := ?_) (a' := ?_) #[false, true, true, false, false, false, false, false, false, false, false] rfl rfl (by kernel_rfl) (fun _ _ _ h => h) (Or.inl ⟨by rfl, ?_⟩) ?_ ?_
  rotate_left
  · intro w'
    go_simp
    with_reducible rfl
  rotate_left
  · simp only [Act.put, List.setIfInBounds_toArray, List.set_cons_zero, List.set_cons_succ, i64_w, i32_w]
    rfl
  refine pure_ (i := 3) (N := some 8) (v := ?_) (a' := ?_) #[false, true, true, true, false, false, false, false, false, false, false] rfl rfl (by kernel_rfl) (fun _ _ _ h => h) (Or.inl ⟨by rfl, ?_⟩) ?_ ?_
  rotate_left
  · intro w'
    go_simp
    with_reducible rfl
  rotate_left
  · simp only [Act.put, List.setIfInBounds_toArray, List.set_cons_zero, List.set_cons_succ, i64_w, i32_w]
    rfl
  refine pure_ (i := 4) (N := some 9) (v := ?_) (a' := ?_) #[false, true, true, true, true, false, false, false, false, false, false] rfl rfl (by kernel_rfl) (fun _ _ _ h => h) (Or.inl ⟨by rfl, ?_⟩) ?_ ?_
  rotate_left
  · intro w'
    go_simp
    with_reducible rfl
  rotate_left
  · simp only [Act.put, List.setIfInBounds_toArray, List.set_cons_zero, List.set_cons_succ, i64_w, i32_w]
    rfl
  refine pure_ (i := 5) (N := some 10) (v := ?_) (a' := ?_) #[false, true, true, true, true, true, false, false, false, false, false] rfl rfl (by kernel_rfl) (fun _ _ _ h => h) (Or.inl ⟨by rfl, ?_⟩) ?_ ?_
  rotate_left
  · intro w'
    go_simp
    with_reducible rfl
  rotate_left
  · simp only [Act.put, List.setIfInBounds_toArray, List.set_cons_zero, List.set_cons_succ, i64_w, i32_w]
    rfl
  refine take_ (i := 7) (N := some 12) (v := ?_) (a' := ?_) #[false, true, true, true, true, true, false, true, false, false, false] rfl rfl (by kernel_rfl) (fun _ _ _ h => h) (Or.inl ⟨by rfl, ?_⟩) hHeld ?_ ?_
  rotate_left
  · intro w' s0
    (refine ex_load110 (x := .tmp 3) ?_ ?_ H27.out s0 <;> first | (simp [Act.eval, Act.put]; done) | rfl)
  rotate_left
  · simp only [Act.put, List.setIfInBounds_toArray, List.set_cons_zero, List.set_cons_succ, i64_w, i32_w]
    rfl
  refine join_ (σ := Nat × Value × Nat) 2 #[true, true, true, true, true, true, true, true, true, false, false] (fun s => [(5, .slice (some ⟨s.1, 0, none⟩) 0 0), (11, s.2.1), (13, .slice (some ⟨s.2.2, 0, none⟩) 1 1)]) (fun s w' => w'.ownsRow W.heap.size 110 27 s.2.1 m (nums .i64 pre) ∧ Below W.heap.size W w' ∧ w'.heap[s.2.2]? = some (.cells (nums .i64 r).toArray 110 (0, 0)) ∧ w'.heap[gx]? = some (.cells (nums .i64 r).toArray 110 (0, 0))) ?_ ?_
  rotate_left
  · intro hCont
    refine two_ (i := 0) (j := 8) (Ni := some 5) (Nj := some 13) #[true, true, true, true, true, true, false, true, false, false, false] #[false, true, true, true, true, true, false, true, true, false, false] rfl rfl rfl rfl (by kernel_rfl) (by decide) (by decide) (fun K hK => ?_) (fun K hK => ?_)
    · skip
      refine value_ (w1 := ?_) (v := ?_) (by rfl) rfl ?_ ?_
      rotate_left 2
      · go_simp
        constructor
        · rfl
        · rfl
      refine hK.out _ _ ((al_blk HXD.out (.cells #[] 110))) (fun hHeld => ?_)
      clear hK K
      refine norm_ (a' := ?_) ?_ ?_
      rotate_left
      · show Act.put _ (some 5) _ = _
        simp only [Act.put, List.setIfInBounds_toArray, List.set_cons_zero, List.set_cons_succ, i64_w, i32_w]
        rfl
      refine two_ (i := 6) (j := 8) (Ni := some 11) (Nj := some 13) #[true, true, true, true, true, true, true, true, false, false, false] #[true, true, true, true, true, true, false, true, true, false, false] rfl rfl rfl rfl (by kernel_rfl) (by decide) (by decide) (fun K hK => ?_) (fun K hK => ?_)
      · skip
        obtain ⟨A6, c6, w6, hrn, hown, hbl, hkp⟩ := fr_app (c := c) (W := (w1.drew.alloc (.cells #[] 110))) (b := W.heap.size) (g := w1.drew.heap.size) (own_fresh w1.drew BD.out.size 110 27 (by decide)) (rdc_below HRM.out (al_below BD.out (.cells #[] 110))) (nums_one _) (al_below BD.out (.cells #[] 110)).size (by have := HN.out; have := HNN.out; omega)
        refine step_run rfl (.tmp 5) (.tmp 10) 59 59 rfl _ _ _ (by simp [Act.eval, Act.put]) (by simp [Act.eval, Act.put]) hrn ?_
        have B6 := Aside0.mk ((al_below BD.out (.cells #[] 110)).trans hbl)
        have O6 := Aside0.mk hown
        have X6 := Aside0.mk (hkp gx _ (al_blk HXD.out (.cells #[] 110)) (fun q => by have h1 := blk_lt HXD.out; have h2 : gx = w1.drew.heap.size := q; skip; omega))
        clear hrn hown hbl hkp
        refine hK.out _ _ (X6.out) (fun hHeld => ?_)
        clear hK K
        refine norm_ (a' := ?_) ?_ ?_
        rotate_left
        · show Act.put _ (some 11) _ = _
          simp only [Act.put, List.setIfInBounds_toArray, List.set_cons_zero, List.set_cons_succ, i64_w, i32_w]
          rfl
        refine one_ (i := 8) (N := some 13) #[true, true, true, true, true, true, true, true, true, false, false] rfl rfl (by kernel_rfl) (by decide) (fun K hK => ?_)
        refine value_ (w1 := ?_) (v := ?_) (by rfl) rfl ?_ ?_
        rotate_left 2
        · refine ex_slice110 (r := r) (x := .tmp 12) ?_ ?_ H27.out <;> first | rfl | (simp [Act.eval, Act.put]; done)
        refine hK.out _ _ ((al_blk X6.out (.cells (nums .i64 r).toArray 110))) (fun hHeld => ?_)
        clear hK K
        refine norm_ (a' := ?_) ?_ ?_
        rotate_left
        · show Act.put _ (some 13) _ = _
          simp only [Act.put, List.setIfInBounds_toArray, List.set_cons_zero, List.set_cons_succ, i64_w, i32_w]
          rfl
        exact norm_ (by simp only [putAll, Act.put, List.setIfInBounds_toArray, List.set_cons_zero, List.set_cons_succ]) (hCont (w1.heap.size, .slice A6 m c6, w6.heap.size) _ ⟨own_alloc O6.out _, (al_below B6.out (.cells (nums .i64 r).toArray 110)), blk_new _ _, (al_blk X6.out (.cells (nums .i64 r).toArray 110))⟩)
      · skip
        refine value_ (w1 := ?_) (v := ?_) (by rfl) rfl ?_ ?_
        rotate_left 2
        · refine ex_slice110 (r := r) (x := .tmp 12) ?_ ?_ H27.out <;> first | rfl | (simp [Act.eval, Act.put]; done)
        refine hK.out _ _ ((al_blk (al_blk HXD.out (.cells #[] 110)) (.cells (nums .i64 r).toArray 110))) (fun hHeld => ?_)
        clear hK K
        refine norm_ (a' := ?_) ?_ ?_
        rotate_left
        · show Act.put _ (some 13) _ = _
          simp only [Act.put, List.setIfInBounds_toArray, List.set_cons_zero, List.set_cons_succ, i64_w, i32_w]
          rfl
        refine one_ (i := 6) (N := some 11) #[true, true, true, true, true, true, true, true, true, false, false] rfl rfl (by kernel_rfl) (by decide) (fun K hK => ?_)
        obtain ⟨A6, c6, w6, hrn, hown, hbl, hkp⟩ := fr_app (c := c) (W := ((w1.drew.alloc (.cells #[] 110)).alloc (.cells (nums .i64 r).toArray 110))) (b := W.heap.size) (g := w1.drew.heap.size) (own_alloc (own_fresh w1.drew BD.out.size 110 27 (by decide)) (.cells (nums .i64 r).toArray 110)) (rdc_below HRM.out (al_below (al_below BD.out (.cells #[] 110)) (.cells (nums .i64 r).toArray 110))) (nums_one _) (al_below (al_below BD.out (.cells #[] 110)) (.cells (nums .i64 r).toArray 110)).size (by have := HN.out; have := HNN.out; omega)
        refine step_run rfl (.tmp 5) (.tmp 10) 59 59 rfl _ _ _ (by simp [Act.eval, Act.put]) (by simp [Act.eval, Act.put]) hrn ?_
        have B6 := Aside0.mk ((al_below (al_below BD.out (.cells #[] 110)) (.cells (nums .i64 r).toArray 110)).trans hbl)
        have O6 := Aside0.mk hown
        have X6 := Aside0.mk (hkp gx _ (al_blk (al_blk HXD.out (.cells #[] 110)) (.cells (nums .i64 r).toArray 110)) (fun q => by have h1 := blk_lt HXD.out; have h2 : gx = w1.drew.heap.size := q; skip; omega))
        have Y6 := Aside0.mk (hkp ((w1.drew.alloc (.cells #[] 110)).heap.size) (.cells (nums .i64 r).toArray 110 (0, 0)) (blk_new (w1.drew.alloc (.cells #[] 110)) (.cells (nums .i64 r).toArray 110)) (fun q => by have h2 : (w1.drew.alloc (.cells #[] 110)).heap.size = w1.drew.heap.size := q; have h3 := lt_alloc w1.drew (.cells #[] 110); omega))
        clear hrn hown hbl hkp
        refine hK.out _ _ (X6.out) (fun hHeld => ?_)
        clear hK K
        refine norm_ (a' := ?_) ?_ ?_
        rotate_left
        · show Act.put _ (some 11) _ = _
          simp only [Act.put, List.setIfInBounds_toArray, List.set_cons_zero, List.set_cons_succ, i64_w, i32_w]
          rfl
        exact norm_ (by simp only [putAll, Act.put, List.setIfInBounds_toArray, List.set_cons_zero, List.set_cons_succ]) (hCont (w1.heap.size, .slice A6 m c6, (w1.alloc (.cells #[] 110)).drew.heap.size) _ ⟨O6.out, B6.out, Y6.out, X6.out⟩)
    · skip
      refine value_ (w1 := ?_) (v := ?_) (by rfl) rfl ?_ ?_
      rotate_left 2
      · refine ex_slice110 (r := r) (x := .tmp 12) ?_ ?_ H27.out <;> first | rfl | (simp [Act.eval, Act.put]; done)
      refine hK.out _ _ ((al_blk HXD.out (.cells (nums .i64 r).toArray 110))) (fun hHeld => ?_)
      clear hK K
      refine norm_ (a' := ?_) ?_ ?_
      rotate_left
      · show Act.put _ (some 13) _ = _
        simp only [Act.put, List.setIfInBounds_toArray, List.set_cons_zero, List.set_cons_succ, i64_w, i32_w]
        rfl
      refine one_ (i := 0) (N := some 5) #[true, true, true, true, true, true, false, true, true, false, false] rfl rfl (by kernel_rfl) (by decide) (fun K hK => ?_)
      refine value_ (w1 := ?_) (v := ?_) (by rfl) rfl ?_ ?_
      rotate_left 2
      · go_simp
        constructor
        · rfl
        · rfl
      refine hK.out _ _ ((al_blk (al_blk HXD.out (.cells (nums .i64 r).toArray 110)) (.cells #[] 110))) (fun hHeld => ?_)
      clear hK K
      refine norm_ (a' := ?_) ?_ ?_
      rotate_left
      · show Act.put _ (some 5) _ = _
        simp only [Act.put, List.setIfInBounds_toArray, List.set_cons_zero, List.set_cons_succ, i64_w, i32_w]
        rfl
      refine one_ (i := 6) (N := some 11) #[true, true, true, true, true, true, true, true, true, false, false] rfl rfl (by kernel_rfl) (by decide) (fun K hK => ?_)
      obtain ⟨A6, c6, w6, hrn, hown, hbl, hkp⟩ := fr_app (c := c) (W := ((w1.drew.alloc (.cells (nums .i64 r).toArray 110)).alloc (.cells #[] 110))) (b := W.heap.size) (g := (w1.drew.alloc (.cells (nums .i64 r).toArray 110)).heap.size) (own_fresh (w1.drew.alloc (.cells (nums .i64 r).toArray 110)) (al_below BD.out (.cells (nums .i64 r).toArray 110)).size 110 27 (by decide)) (rdc_below HRM.out (al_below (al_below BD.out (.cells (nums .i64 r).toArray 110)) (.cells #[] 110))) (nums_one _) (al_below (al_below BD.out (.cells (nums .i64 r).toArray 110)) (.cells #[] 110)).size (by have := HN.out; have := HNN.out; omega)
      refine step_run rfl (.tmp 5) (.tmp 10) 59 59 rfl _ _ _ (by simp [Act.eval, Act.put]) (by simp [Act.eval, Act.put]) hrn ?_
      have B6 := Aside0.mk ((al_below (al_below BD.out (.cells (nums .i64 r).toArray 110)) (.cells #[] 110)).trans hbl)
      have O6 := Aside0.mk hown
      have X6 := Aside0.mk (hkp gx _ (al_blk (al_blk HXD.out (.cells (nums .i64 r).toArray 110)) (.cells #[] 110)) (fun q => by have h1 := blk_lt HXD.out; have h2 : gx = (w1.drew.alloc (.cells (nums .i64 r).toArray 110)).heap.size := q; have h3 := alloc_le w1.drew (.cells (nums .i64 r).toArray 110); omega))
      have Y6 := Aside0.mk (hkp (w1.drew.heap.size) (.cells (nums .i64 r).toArray 110 (0, 0)) (al_blk (blk_new w1.drew (.cells (nums .i64 r).toArray 110)) (.cells #[] 110)) (fun q => by have h2 : w1.drew.heap.size = (w1.drew.alloc (.cells (nums .i64 r).toArray 110)).heap.size := q; have h3 := lt_alloc w1.drew (.cells (nums .i64 r).toArray 110); omega))
      clear hrn hown hbl hkp
      refine hK.out _ _ (X6.out) (fun hHeld => ?_)
      clear hK K
      refine norm_ (a' := ?_) ?_ ?_
      rotate_left
      · show Act.put _ (some 11) _ = _
        simp only [Act.put, List.setIfInBounds_toArray, List.set_cons_zero, List.set_cons_succ, i64_w, i32_w]
        rfl
      exact norm_ (by simp only [putAll, Act.put, List.setIfInBounds_toArray, List.set_cons_zero, List.set_cons_succ]) (hCont (w1.heap.size + 1, .slice A6 m c6, w1.drew.heap.size) _ ⟨O6.out, B6.out, Y6.out, X6.out⟩)
  rintro ⟨gE, vA, gn⟩ w7 ⟨h1, h2, h3, h4⟩
  have O7 := Aside0.mk (show w7.ownsRow W.heap.size 110 27 vA m (nums .i64 pre) from h1)
  have B7 := Aside0.mk h2
  have X7 := Aside0.mk (show w7.heap[gn]? = some (.cells (nums .i64 r).toArray 110 (0, 0)) from h3)
  have hHeld : w7.heap[gx]? = some (.cells (nums .i64 r).toArray 110 (0, 0)) := h4
  clear h1 h2 h3 h4
  obtain ⟨A9, c9, w9, hrn9, hown9, hbl9⟩ := fr_end O7.out X7.out B7.out.size H27.out (by have := HN.out; have := HNN.out; omega)
  refine norm_ (a' := ?_) ?_ ?_
  rotate_left
  · simp only [putAll, Act.put, List.setIfInBounds_toArray, List.set_cons_zero, List.set_cons_succ]
    rfl
  refine last_ (i := 9) (N := some 14) #[true, true, true, true, true, true, true, true, true, true, false] rfl rfl (by kernel_rfl) (by decide) (fun K hK => ?_)
  refine step_run rfl (.tmp 11) (.tmp 13) 59 59 rfl _ _ _ (by simp [Act.eval, Act.put]) (by simp [Act.eval, Act.put]) hrn9 ?_
  have O9 := Aside0.mk hown9
  have B9 := Aside0.mk (B7.out.trans hbl9)
  clear hrn9 hown9 hbl9
  refine hK.out _ _ ?_
  clear hK K
  refine norm_ (a' := ?_) ?_ ?_
  rotate_left
  · show Act.put _ (some 14) _ = _
    simp only [Act.put, List.setIfInBounds_toArray, List.set_cons_zero, List.set_cons_succ, i64_w, i32_w]
    rfl
  refine pure_ (i := 10) (N := some 4) (v := ?_) (a' := ?_) #[true, true, true, true, true, true, true, true, true, true, true] rfl rfl (by kernel_rfl) (fun _ _ _ h => h) (Or.inl ⟨by rfl, ?_⟩) ?_ ?_
  rotate_left
  · intro w'
    go_simp
    with_reducible rfl
  rotate_left
  · simp only [Act.put, List.setIfInBounds_toArray, List.set_cons_zero, List.set_cons_succ, i64_w, i32_w]
    rfl
  refine done_ (by kernel_rfl) ?_
  go_wp2
  go_ret
  exact ⟨A9, c9, by rw [HNN.out]; rfl, by rw [HNN.out]; exact O9.out, B9.out⟩
end Go.Proofs.Ytakbhnfmimnbhaa.Rn
