/- The page's Frames; frames.Same of the same frames. Conditions: none. -/
import Derived.Test.YtakbhnfmimnbhaaRn34
namespace Go.Proofs.Ytakbhnfmimnbhaa.Rn
open Go.RowKit Go.Proofs.YtakbhnfmimnbhaaW.PrintWords Go.Proofs.YtakbhnfmimnbhaaW.PrintLast Go.Proofs.YtakbhnfmimnbhaaW.PrintMore
set_option linter.unusedVariables false
set_option linter.unusedSimpArgs false

theorem ex_store110 {oi : Oper} {a : Act} {w : World} {g : Nat} {x y : Operand} {r0 r : List Int} (ho : oi.op = .store 110 x y) (hx : a.eval x = .pointer (some ⟨g, 0, none⟩)) (hy : a.eval y = .agg (nums .i64 r).toArray) (h0 : r0.length = 27) (hs : r.length = 27) (hg : w.heap[g]? = some (.cells (nums .i64 r0).toArray 110 (0, 0))) : (execOp a.eval oi).run Try.prog w = .ok .skip (w.setRow g (nums .i64 r).toArray) := by
  unfold execOp
  simp only [ho, hx, hy, Instr.storeAt, Instr.sureAddr, Sem.run_bind, Sem.run_pure, Result.andThen_ok, run_storeVar_row w g 110 110 (nums .i64 r0).toArray (nums .i64 r).toArray hg (by rw [nums_sz hs]; exact info110s) (by rw [nums_sz hs, nums_sz h0]) (nums_all r)]
theorem row_of {w : World} {ad : Addr} {n i : Nat} {is r : List Int} (h : RdC w (some ad) n 27 (nums .i64 is)) (hi : i < n) (hr : r = rowI is i) : ∀ j u, (nums .i64 r)[j]? = some u → w.cell? ((ad.add (i * 27)).add j) = some u := by
  subst hr
  obtain ⟨ad', e, hc, _⟩ := rd_row h hi
  injection e with e
  subst e
  exact hc
set_option maxHeartbeats 4000000 in
set_option maxRecDepth 100000 in
theorem rframes_any {W : World} {A : Option Addr} {n c : Nat} {vu vg : Value} {nm ab : Int} {is : List Int} (hr : RdC W A n 27 (nums .i64 is)) (hn : n ≤ 100000) (hc : n ≤ c) (ha : 0 ≤ ab ∧ ab ≤ 1000000) : Calls Try.prog 61 #[.agg #[.slice A n c, .int .i64 nm, .int .i64 ab, vu, vg]] W fun e w' => ∃ A9 c9, e = .returned (.slice A9 n c9) ∧ RdC w' A9 n 27 (nums .i64 (if 0 < ab then turnI n is ab else is)) ∧ Below W.heap.size W w' := by
  have hu64 := Try.underlying64
  have HR := Aside0.mk hr
  have HT := Aside0.mk (fun (w9 : World) (h9 : RdC w9 A n 27 (nums .i64 is)) => rturn_any h9 hn hc ha)
  obtain ⟨is9, h9⟩ : ∃ is9, is9 = (if 0 < ab then turnI n is ab else is) := ⟨_, rfl⟩
  rw [← h9]
  have H9 := Aside0.mk h9
  clear hr hn hc ha h9
  go_enter Try.func61, Try.ntmps61
  go_upto_region 1 with ((with_reducible refine gate_dst (N := 1) rfl ?_); refine box_event ?hg (N := 1) ?hd (cs := #[.slice A n c, .int .i64 nm, .int .i64 ab, vu, vg]) (t := 64) ?hr ?_; (case hd => rfl); (case hg => rfl); (case hr => first | (go_simp; done) | (go_simp; rfl)); intro gx hgx w1 hbox hb; have B1 := Aside0.mk hb; have X1 := Aside0.mk hbox; clear hbox hb hgx)
  have x0 : w1.cell? ⟨gx, 0, none⟩ = some (.slice A n c) := (blk_cell X1.out 0).trans rfl
  have x2 : w1.cell? ⟨gx, 2, none⟩ = some (.int .i64 ab) := (blk_cell X1.out 2).trans rfl
  by_cases h : 0 < ab
  · have d1 : decide (0 < ab) = true := decide_eq_true h
    have HE := Aside0.mk (H9.out.trans (if_pos h))
    have HQ := Aside0.mk (HT.out w1 (rdc_below HR.out B1.out))
    clear h
    go_wp2_with (go_at_call 88; (refine HQ.out.mono ?_); rintro e w2 ⟨A2, c2, rfl, hr2, hb⟩; have R2 := Aside0.mk hr2; have B2 := Aside0.mk hb; clear hr2 hb)
    go_ret
    exact ⟨A2, c2, rfl, by rw [HE.out]; exact R2.out, below_step B1.out B2.out⟩
  · have d1 : decide (0 < ab) = false := decide_eq_false h
    have HE := Aside0.mk (H9.out.trans (if_neg h))
    clear h
    go_wp2
    go_ret
    exact ⟨A, c, rfl, by rw [HE.out]; exact rdc_below HR.out B1.out, B1.out⟩
set_option maxHeartbeats 16000000 in
set_option maxRecDepth 100000 in
theorem fsame_any {W : World} {A B : Option Addr} {n c c2 : Nat} {is : List Int} (ha : RdC W A n 27 (nums .i64 is)) (hb : RdC W B n 27 (nums .i64 is)) (hn : n ≤ 100000) : Calls Try.prog 60 #[.slice A n c, .slice B n c2] W fun e w' => e = .returned (.bool true) ∧ Below W.heap.size W w' := by
  have hu59 := Try.underlying59
  have hu110 := Try.underlying110
  have hu108 := Try.underlying108
  have hu22 := Try.underlying22
  have HA := Aside0.mk ha
  have HC := Aside0.mk hb
  have HN := Aside0.mk hn
  have HLEN := Aside0.mk (fr_len ha)
  clear ha hb hn
  have d0 : ((n : Int) != (n : Int)) = false := by simp
  go_enter Try.func60, Try.ntmps60
  go_upto_block 0 with (fail)
  clear d0
  go_wp2
  go_loopg [5] n (fun kq v5 w' => ∃ (i : Nat), v5 = .int .i64 (i : Int) ∧ Aside0 (i + kq = n) ∧ Aside0 (Below W.heap.size W w'))
  case atStart => exact ⟨0, rfl, ⟨by omega⟩, ⟨Below.refl _ _⟩⟩
  case round =>
    obtain ⟨i, rfl, HK, HW⟩ := hrel
    by_cases hi : i < n
    · rcases gk with _ | k1
      · exact absurd hi (by have := HK.out; omega)
      have d1 : decide ((i : Int) < (n : Int)) = true := decide_eq_true (by omega)
      have d2 : decide (i < n) = true := decide_eq_true hi
      have p1 : (0 ≤ (i : Int)) = True := eq_true (by omega)
      have p2 : ((i : Int) < (n : Int)) = True := eq_true (by omega)
      have HIN := Aside0.mk hi
      obtain ⟨ad, rfl, _⟩ := rd_row HA.out hi
      obtain ⟨ae, rfl, _⟩ := rd_row HC.out hi
      have ewi : Aside0 (wrap64 ((i : Int) + 1) = (i : Int) + 1) := ⟨by have h1 := HIN.out; have h2 := HN.out; unfold wrap64; omega⟩
      obtain ⟨ra, hra⟩ : ∃ ra, ra = rowI is i := ⟨_, rfl⟩
      have H27 := Aside0.mk (show ra.length = 27 from by rw [hra]; exact rowI_len HLEN.out hi)
      have HRA := Aside0.mk hra
      clear hi hra
      go_upto_region 6 with (fail)
      have BD := Aside0.mk (show Below W.heap.size W wr.drew from below_drew HW.out)
      refine start_ (n := 12) (S := fun w' => RdC w' (some ad) n 27 (nums .i64 is) ∧ RdC w' (some ae) n 27 (nums .i64 is)) (ds := []) #[false, false, false, false, false, false, false, false, false, false, false, false] (by kernel_rfl) rfl rfl ⟨(rdc_below HA.out BD.out), (rdc_below HC.out BD.out)⟩ (fun hHeld => ?_)
      refine pure_ (i := 0) (N := some 20) (v := ?_) (a' := ?_) #[true, false, false, false, false, false, false, false, false, false, false, false] rfl rfl (by kernel_rfl) (fun _ _ _ h => h) (Or.inl ⟨by rfl, ?_⟩) ?_ ?_
      rotate_left
      · intro w'
        go_simp
        with_reducible rfl
      rotate_left
      · simp only [Act.put, List.setIfInBounds_toArray, List.set_cons_zero, List.set_cons_succ, i64_w, i32_w]
        rfl
      refine pure_ (i := 1) (N := some 21) (v := ?_) (a' := ?_) #[true, true, false, false, false, false, false, false, false, false, false, false] rfl rfl (by kernel_rfl) (fun _ _ _ h => h) (Or.inl ⟨by rfl, ?_⟩) ?_ ?_
      rotate_left
      · intro w'
        go_simp
        with_reducible rfl
      rotate_left
      · simp only [Act.put, List.setIfInBounds_toArray, List.set_cons_zero, List.set_cons_succ, i64_w, i32_w]
        rfl
      refine pure_ (i := 2) (N := some 22) (v := ?_) (a' := ?_) #[true, true, true, false, false, false, false, false, false, false, false, false] rfl rfl (by kernel_rfl) (fun _ _ _ h => h) (Or.inl ⟨by rfl, ?_⟩) ?_ ?_
      rotate_left
      · intro w'
        go_simp
        with_reducible rfl
      rotate_left
      · simp only [Act.put, List.setIfInBounds_toArray, List.set_cons_zero, List.set_cons_succ, i64_w, i32_w]
        rfl
      refine pure_ (i := 4) (N := some 24) (v := ?_) (a' := ?_) #[true, true, true, false, true, false, false, false, false, false, false, false] rfl rfl (by kernel_rfl) (fun _ _ _ h => h) (Or.inl ⟨by rfl, ?_⟩) ?_ ?_
      rotate_left
      · intro w'
        go_simp
        with_reducible rfl
      rotate_left
      · simp only [Act.put, List.setIfInBounds_toArray, List.set_cons_zero, List.set_cons_succ, i64_w, i32_w]
        rfl
      refine pure_ (i := 5) (N := some 25) (v := ?_) (a' := ?_) #[true, true, true, false, true, true, false, false, false, false, false, false] rfl rfl (by kernel_rfl) (fun _ _ _ h => h) (Or.inl ⟨by rfl, ?_⟩) ?_ ?_
      rotate_left
      · intro w'
        go_simp
        with_reducible rfl
      rotate_left
      · simp only [Act.put, List.setIfInBounds_toArray, List.set_cons_zero, List.set_cons_succ, i64_w, i32_w]
        rfl
      refine pure_ (i := 6) (N := some 26) (v := ?_) (a' := ?_) #[true, true, true, false, true, true, true, false, false, false, false, false] rfl rfl (by kernel_rfl) (fun _ _ _ h => h) (Or.inl ⟨by rfl, ?_⟩) ?_ ?_
      rotate_left
      · intro w'
        go_simp
        with_reducible rfl
      rotate_left
      · simp only [Act.put, List.setIfInBounds_toArray, List.set_cons_zero, List.set_cons_succ, i64_w, i32_w]
        rfl
      refine take_ (i := 3) (N := some 23) (v := ?_) (a' := ?_) #[true, true, true, true, true, true, true, false, false, false, false, false] rfl rfl (by kernel_rfl) (fun _ _ _ h => h) (Or.inl ⟨by rfl, ?_⟩) hHeld ?_ ?_
      rotate_left
      · rintro w' ⟨s0, s1⟩
        (refine ex_load110c (x := .tmp 22) ?_ ?_ H27.out (row_of s0 HIN.out HRA.out) <;> first | (simp [Act.eval, Act.put]; done) | rfl)
      rotate_left
      · simp only [Act.put, List.setIfInBounds_toArray, List.set_cons_zero, List.set_cons_succ, i64_w, i32_w]
        rfl
      refine take_ (i := 7) (N := some 27) (v := ?_) (a' := ?_) #[true, true, true, true, true, true, true, true, false, false, false, false] rfl rfl (by kernel_rfl) (fun _ _ _ h => h) (Or.inl ⟨by rfl, ?_⟩) hHeld ?_ ?_
      rotate_left
      · rintro w' ⟨s0, s1⟩
        (refine ex_load110c (x := .tmp 26) ?_ ?_ H27.out (row_of s1 HIN.out HRA.out) <;> first | (simp [Act.eval, Act.put]; done) | rfl)
      rotate_left
      · simp only [Act.put, List.setIfInBounds_toArray, List.set_cons_zero, List.set_cons_succ, i64_w, i32_w]
        rfl
      refine join_ (σ := Nat × Nat) 2 #[true, true, true, true, true, true, true, true, true, true, false, false] (fun s => [(6, .pointer (some ⟨s.1, 0, none⟩)), (7, .pointer (some ⟨s.2, 0, none⟩))]) (fun s w' => RdC w' (some ad) n 27 (nums .i64 is) ∧ RdC w' (some ae) n 27 (nums .i64 is) ∧ Below W.heap.size W w' ∧ w'.heap[s.1]? = some (.cells (nums .i64 z27).toArray 110 (0, 0)) ∧ w'.heap[s.2]? = some (.cells (nums .i64 z27).toArray 110 (0, 0)) ∧ s.1 ≠ s.2 ∧ W.heap.size ≤ s.1 ∧ W.heap.size ≤ s.2) ?_ ?_
      rotate_left
      · intro hCont
        refine two_ (i := 8) (j := 9) (Ni := some 6) (Nj := some 7) #[true, true, true, true, true, true, true, true, true, false, false, false] #[true, true, true, true, true, true, true, true, false, true, false, false] rfl rfl rfl rfl (by kernel_rfl) (by decide) (by decide) (fun K hK => ?_) (fun K hK => ?_)
        · skip
          refine value_ (w1 := ?_) (v := ?_) (by rfl) rfl ?_ ?_
          rotate_left 2
          · refine ex_alloc110 ?_
            rfl
          refine hK.out _ _ ⟨(rdc_below HA.out (al_below BD.out (.cells (nums .i64 z27).toArray 110))), (rdc_below HC.out (al_below BD.out (.cells (nums .i64 z27).toArray 110)))⟩ (fun hHeld => ?_)
          clear hK K
          refine norm_ (a' := ?_) ?_ ?_
          rotate_left
          · show Act.put _ (some 6) _ = _
            simp only [Act.put, List.setIfInBounds_toArray, List.set_cons_zero, List.set_cons_succ, i64_w, i32_w]
            rfl
          refine one_ (i := 9) (N := some 7) #[true, true, true, true, true, true, true, true, true, true, false, false] rfl rfl (by kernel_rfl) (by decide) (fun K hK => ?_)
          refine value_ (w1 := ?_) (v := ?_) (by rfl) rfl ?_ ?_
          rotate_left 2
          · refine ex_alloc110 ?_
            rfl
          refine hK.out _ _ ⟨(rdc_below HA.out (al_below (al_below BD.out (.cells (nums .i64 z27).toArray 110)) (.cells (nums .i64 z27).toArray 110))), (rdc_below HC.out (al_below (al_below BD.out (.cells (nums .i64 z27).toArray 110)) (.cells (nums .i64 z27).toArray 110)))⟩ (fun hHeld => ?_)
          clear hK K
          refine norm_ (a' := ?_) ?_ ?_
          rotate_left
          · show Act.put _ (some 7) _ = _
            simp only [Act.put, List.setIfInBounds_toArray, List.set_cons_zero, List.set_cons_succ, i64_w, i32_w]
            rfl
          exact norm_ (by simp only [putAll, Act.put, List.setIfInBounds_toArray, List.set_cons_zero, List.set_cons_succ]) (hCont (wr.drew.heap.size, (wr.drew.alloc (.cells (nums .i64 z27).toArray 110)).heap.size) _ ⟨(rdc_below HA.out (al_below (al_below BD.out (.cells (nums .i64 z27).toArray 110)) (.cells (nums .i64 z27).toArray 110))), (rdc_below HC.out (al_below (al_below BD.out (.cells (nums .i64 z27).toArray 110)) (.cells (nums .i64 z27).toArray 110))), (al_below (al_below BD.out (.cells (nums .i64 z27).toArray 110)) (.cells (nums .i64 z27).toArray 110)), (al_blk (blk_new wr.drew (.cells (nums .i64 z27).toArray 110)) (.cells (nums .i64 z27).toArray 110)), (blk_new (wr.drew.alloc (.cells (nums .i64 z27).toArray 110)) (.cells (nums .i64 z27).toArray 110)), (Nat.ne_of_lt (lt_alloc wr.drew (.cells (nums .i64 z27).toArray 110))), BD.out.size, (Nat.le_trans BD.out.size (alloc_le _ _))⟩)
        · skip
          refine value_ (w1 := ?_) (v := ?_) (by rfl) rfl ?_ ?_
          rotate_left 2
          · refine ex_alloc110 ?_
            rfl
          refine hK.out _ _ ⟨(rdc_below HA.out (al_below BD.out (.cells (nums .i64 z27).toArray 110))), (rdc_below HC.out (al_below BD.out (.cells (nums .i64 z27).toArray 110)))⟩ (fun hHeld => ?_)
          clear hK K
          refine norm_ (a' := ?_) ?_ ?_
          rotate_left
          · show Act.put _ (some 7) _ = _
            simp only [Act.put, List.setIfInBounds_toArray, List.set_cons_zero, List.set_cons_succ, i64_w, i32_w]
            rfl
          refine one_ (i := 8) (N := some 6) #[true, true, true, true, true, true, true, true, true, true, false, false] rfl rfl (by kernel_rfl) (by decide) (fun K hK => ?_)
          refine value_ (w1 := ?_) (v := ?_) (by rfl) rfl ?_ ?_
          rotate_left 2
          · refine ex_alloc110 ?_
            rfl
          refine hK.out _ _ ⟨(rdc_below HA.out (al_below (al_below BD.out (.cells (nums .i64 z27).toArray 110)) (.cells (nums .i64 z27).toArray 110))), (rdc_below HC.out (al_below (al_below BD.out (.cells (nums .i64 z27).toArray 110)) (.cells (nums .i64 z27).toArray 110)))⟩ (fun hHeld => ?_)
          clear hK K
          refine norm_ (a' := ?_) ?_ ?_
          rotate_left
          · show Act.put _ (some 6) _ = _
            simp only [Act.put, List.setIfInBounds_toArray, List.set_cons_zero, List.set_cons_succ, i64_w, i32_w]
            rfl
          exact norm_ (by simp only [putAll, Act.put, List.setIfInBounds_toArray, List.set_cons_zero, List.set_cons_succ]) (hCont ((wr.drew.alloc (.cells (nums .i64 z27).toArray 110)).heap.size, wr.drew.heap.size) _ ⟨(rdc_below HA.out (al_below (al_below BD.out (.cells (nums .i64 z27).toArray 110)) (.cells (nums .i64 z27).toArray 110))), (rdc_below HC.out (al_below (al_below BD.out (.cells (nums .i64 z27).toArray 110)) (.cells (nums .i64 z27).toArray 110))), (al_below (al_below BD.out (.cells (nums .i64 z27).toArray 110)) (.cells (nums .i64 z27).toArray 110)), (blk_new (wr.drew.alloc (.cells (nums .i64 z27).toArray 110)) (.cells (nums .i64 z27).toArray 110)), (al_blk (blk_new wr.drew (.cells (nums .i64 z27).toArray 110)) (.cells (nums .i64 z27).toArray 110)), (Nat.ne_of_gt (lt_alloc wr.drew (.cells (nums .i64 z27).toArray 110))), (Nat.le_trans BD.out.size (alloc_le _ _)), BD.out.size⟩)
      rintro ⟨g6, g7⟩ w7 ⟨h1, h2, h3, h4, h5, h6, h7, h8⟩
      have B7 := Aside0.mk h3
      have X6 := Aside0.mk (show w7.heap[g6]? = some (.cells (nums .i64 z27).toArray 110 (0, 0)) from h4)
      have X7 := Aside0.mk (show w7.heap[g7]? = some (.cells (nums .i64 z27).toArray 110 (0, 0)) from h5)
      have GE := Aside0.mk (show g6 ≠ g7 ∧ W.heap.size ≤ g6 ∧ W.heap.size ≤ g7 from ⟨h6, h7, h8⟩)
      have hHeld : RdC w7 (some ad) n 27 (nums .i64 is) ∧ RdC w7 (some ae) n 27 (nums .i64 is) := ⟨h1, h2⟩
      clear h1 h2 h3 h4 h5 h6 h7 h8
      have B8 := Aside0.mk (below_row B7.out GE.out.2.1 (nums .i64 ra).toArray)
      have B9 := Aside0.mk (below_row B8.out GE.out.2.2 (nums .i64 ra).toArray)
      have Y7 := Aside0.mk ((setRow_other w7 g6 g7 (nums .i64 ra).toArray (fun q => GE.out.1 q.symm)).trans X7.out)
      refine norm_ (a' := ?_) ?_ ?_
      rotate_left
      · simp only [putAll, Act.put, List.setIfInBounds_toArray, List.set_cons_zero, List.set_cons_succ]
        rfl
      refine one_ (i := 10) (N := none) #[true, true, true, true, true, true, true, true, true, true, true, false] rfl rfl (by kernel_rfl) (by decide) (fun K hK => ?_)
      refine skip_ (w1 := _) (by rfl) rfl (ex_store110 (x := .tmp 6) (y := .tmp 23) (r0 := z27) (r := ra) rfl (by simp [Act.eval, Act.put]) (by simp [Act.eval, Act.put]) rfl H27.out X6.out) ?_
      refine hK.out _ _ ⟨(rdc_below HA.out B8.out), (rdc_below HC.out B8.out)⟩ (fun hHeld => ?_)
      clear hK K
      refine one_ (i := 11) (N := none) #[true, true, true, true, true, true, true, true, true, true, true, true] rfl rfl (by kernel_rfl) (by decide) (fun K hK => ?_)
      refine skip_ (w1 := _) (by rfl) rfl (ex_store110 (x := .tmp 7) (y := .tmp 27) (r0 := z27) (r := ra) rfl (by simp [Act.eval, Act.put]) (by simp [Act.eval, Act.put]) rfl H27.out Y7.out) ?_
      refine hK.out _ _ ⟨(rdc_below HA.out B9.out), (rdc_below HC.out B9.out)⟩ (fun hHeld => ?_)
      clear hK K
      refine done_ (by kernel_rfl) ?_
      clear HA HC
      have Z6 := Aside0.mk ((setRow_other _ g7 g6 (nums .i64 ra).toArray GE.out.1).trans (setRow_heap w7 g6 _ (nums .i64 ra).toArray _ _ X6.out))
      have Z7 := Aside0.mk (setRow_heap _ g7 _ (nums .i64 ra).toArray _ _ Y7.out)
      clear B7 X6 X7 B8 Y7 hHeld BD
      generalize (w7.setRow g6 (nums .i64 ra).toArray).setRow g7 (nums .i64 ra).toArray = w8 at *
      have a0 := blk_num Z6.out (j := 0) (by rw [H27.out]; decide)
      have a1 := blk_num Z6.out (j := 1) (by rw [H27.out]; decide)
      have a2 := blk_num Z6.out (j := 2) (by rw [H27.out]; decide)
      have b0 := blk_num Z7.out (j := 0) (by rw [H27.out]; decide)
      have b1 := blk_num Z7.out (j := 1) (by rw [H27.out]; decide)
      have b2 := blk_num Z7.out (j := 2) (by rw [H27.out]; decide)
      generalize ra.getD 0 0 = q0 at a0 b0
      generalize ra.getD 1 0 = q1 at a1 b1
      generalize ra.getD 2 0 = q2 at a2 b2
      have e0 : (q0 != q0) = false := by simp
      have e1 : (q1 != q1) = false := by simp
      have e2 : (q2 != q2) = false := by simp
      clear d1 d2 p1 p2
      go_upto_block 2 with (fail)
      clear a0 a1 a2 b0 b1 b2 e0 e1 e2
      go_wp2
      go_loopg [8] 16 (fun kk v8 w' => ∃ (k : Nat), v8 = .int .i64 (k : Int) ∧ Aside0 (k + kk = 16) ∧ Aside0 (Below W.heap.size W w') ∧ Aside0 (w'.heap[g6]? = some (.cells (nums .i64 ra).toArray 110 (0, 0))) ∧ Aside0 (w'.heap[g7]? = some (.cells (nums .i64 ra).toArray 110 (0, 0))))
      case atStart => exact ⟨0, rfl, ⟨by omega⟩, B9, Z6, Z7⟩
      case round =>
        clear B9 Z6 Z7
        obtain ⟨k, rfl, HKK, HB, H6, H7⟩ := hrel
        by_cases hk : k < 16
        · rcases gk with _ | k2
          · exact absurd hk (by have := HKK.out; omega)
          have HK16 := Aside0.mk hk
          have d1 : decide ((k : Int) < 16) = true := decide_eq_true (by omega)
          have d2 : decide (k < 16) = true := decide_eq_true hk
          have p1 : (0 ≤ (k : Int)) = True := eq_true (by omega)
          have p2 : ((k : Int) < 16) = True := eq_true (by omega)
          have p3 : (k < 16) = True := eq_true hk
          have ewk : Aside0 (wrap64 ((k : Int) + 1) = (k : Int) + 1) := ⟨by unfold wrap64; omega⟩
          clear hk
          go_upto_region 12 with (fail)
          obtain ⟨zz, hzz⟩ : ∃ zz, zz = ra.getD (11 + k) 0 := ⟨_, rfl⟩
          have c6 : wr.drew.cell? ⟨g6, 11 + k, none⟩ = some (.int .i64 zz) := by rw [hzz]; exact blk_num H6.out (by rw [H27.out]; have := HK16.out; omega)
          have c7 : wr.drew.cell? ⟨g7, 11 + k, none⟩ = some (.int .i64 zz) := by rw [hzz]; exact blk_num H7.out (by rw [H27.out]; have := HK16.out; omega)
          have e0 : (zz != zz) = false := by simp
          clear hzz
          by_cases h8 : k < 8
          · have d3 : decide ((k : Int) < 8) = true := decide_eq_true (by omega)
            have d4 : decide (k < 8) = true := decide_eq_true h8
            have p4 : ((k : Int) < 8) = True := eq_true (by omega)
            have p5 : (k < 8) = True := eq_true h8
            obtain ⟨yy, hyy⟩ : ∃ yy, yy = ra.getD (3 + k) 0 := ⟨_, rfl⟩
            have e6 : wr.drew.cell? ⟨g6, 3 + k, none⟩ = some (.int .i64 yy) := by rw [hyy]; exact blk_num H6.out (by rw [H27.out]; omega)
            have e7 : wr.drew.cell? ⟨g7, 3 + k, none⟩ = some (.int .i64 yy) := by rw [hyy]; exact blk_num H7.out (by rw [H27.out]; omega)
            have f0 : (yy != yy) = false := by simp
            clear hyy h8
            refine start_ (n := 24) (S := fun w' => w'.cell? ⟨g6, 11 + k, none⟩ = some (.int .i64 zz) ∧ w'.cell? ⟨g7, 11 + k, none⟩ = some (.int .i64 zz) ∧ w'.cell? ⟨g6, 3 + k, none⟩ = some (.int .i64 yy) ∧ w'.cell? ⟨g7, 3 + k, none⟩ = some (.int .i64 yy)) (ds := []) #[false, false, false, false, false, false, false, false, false, false, false, false, false, false, false, false, false, false, false, false, false, false, false, false] (by kernel_rfl) rfl rfl ⟨c6, c7, e6, e7⟩ (fun hHeld => ?_)
            refine pure_ (i := 0) (N := some 51) (v := ?_) (a' := ?_) #[true, false, false, false, false, false, false, false, false, false, false, false, false, false, false, false, false, false, false, false, false, false, false, false] rfl rfl (by kernel_rfl) (fun _ _ _ h => h) (Or.inl ⟨by rfl, ?_⟩) ?_ ?_
            rotate_left
            · intro w'
              go_simp
              with_reducible rfl
            rotate_left
            · simp only [Act.put, List.setIfInBounds_toArray, List.set_cons_zero, List.set_cons_succ, i64_w, i32_w]
              rfl
            refine pure_ (i := 1) (N := some 52) (v := ?_) (a' := ?_) #[true, true, false, false, false, false, false, false, false, false, false, false, false, false, false, false, false, false, false, false, false, false, false, false] rfl rfl (by kernel_rfl) (fun _ _ _ h => h) (Or.inl ⟨by rfl, ?_⟩) ?_ ?_
            rotate_left
            · intro w'
              go_simp
              with_reducible rfl
            rotate_left
            · simp only [Act.put, List.setIfInBounds_toArray, List.set_cons_zero, List.set_cons_succ, i64_w, i32_w]
              rfl
            refine pure_ (i := 2) (N := some 53) (v := ?_) (a' := ?_) #[true, true, true, false, false, false, false, false, false, false, false, false, false, false, false, false, false, false, false, false, false, false, false, false] rfl rfl (by kernel_rfl) (fun _ _ _ h => h) (Or.inl ⟨by rfl, ?_⟩) ?_ ?_
            rotate_left
            · intro w'
              go_simp
              with_reducible rfl
            rotate_left
            · simp only [Act.put, List.setIfInBounds_toArray, List.set_cons_zero, List.set_cons_succ, i64_w, i32_w]
              rfl
            refine pure_ (i := 4) (N := some 55) (v := ?_) (a' := ?_) #[true, true, true, false, true, false, false, false, false, false, false, false, false, false, false, false, false, false, false, false, false, false, false, false] rfl rfl (by kernel_rfl) (fun _ _ _ h => h) (Or.inl ⟨by rfl, ?_⟩) ?_ ?_
            rotate_left
            · intro w'
              go_simp
              with_reducible rfl
            rotate_left
            · simp only [Act.put, List.setIfInBounds_toArray, List.set_cons_zero, List.set_cons_succ, i64_w, i32_w]
              rfl
            refine pure_ (i := 5) (N := some 56) (v := ?_) (a' := ?_) #[true, true, true, false, true, true, false, false, false, false, false, false, false, false, false, false, false, false, false, false, false, false, false, false] rfl rfl (by kernel_rfl) (fun _ _ _ h => h) (Or.inl ⟨by rfl, ?_⟩) ?_ ?_
            rotate_left
            · intro w'
              go_simp
              with_reducible rfl
            rotate_left
            · simp only [Act.put, List.setIfInBounds_toArray, List.set_cons_zero, List.set_cons_succ, i64_w, i32_w]
              rfl
            refine pure_ (i := 6) (N := some 57) (v := ?_) (a' := ?_) #[true, true, true, false, true, true, true, false, false, false, false, false, false, false, false, false, false, false, false, false, false, false, false, false] rfl rfl (by kernel_rfl) (fun _ _ _ h => h) (Or.inl ⟨by rfl, ?_⟩) ?_ ?_
            rotate_left
            · intro w'
              go_simp
              with_reducible rfl
            rotate_left
            · simp only [Act.put, List.setIfInBounds_toArray, List.set_cons_zero, List.set_cons_succ, i64_w, i32_w]
              rfl
            refine take_ (i := 3) (N := some 54) (v := ?_) (a' := ?_) #[true, true, true, true, true, true, true, false, false, false, false, false, false, false, false, false, false, false, false, false, false, false, false, false] rfl rfl (by kernel_rfl) (fun _ _ _ h => h) (Or.inl ⟨by rfl, ?_⟩) hHeld ?_ ?_
            rotate_left
            · rintro w' ⟨s0, s1, s2, s3⟩
              go_simp
              with_reducible rfl
            rotate_left
            · simp only [Act.put, List.setIfInBounds_toArray, List.set_cons_zero, List.set_cons_succ, i64_w, i32_w]
              rfl
            refine take_ (i := 7) (N := some 58) (v := ?_) (a' := ?_) #[true, true, true, true, true, true, true, true, false, false, false, false, false, false, false, false, false, false, false, false, false, false, false, false] rfl rfl (by kernel_rfl) (fun _ _ _ h => h) (Or.inl ⟨by rfl, ?_⟩) hHeld ?_ ?_
            rotate_left
            · rintro w' ⟨s0, s1, s2, s3⟩
              go_simp
              with_reducible rfl
            rotate_left
            · simp only [Act.put, List.setIfInBounds_toArray, List.set_cons_zero, List.set_cons_succ, i64_w, i32_w]
              rfl
            refine pure_ (i := 8) (N := some 59) (v := ?_) (a' := ?_) #[true, true, true, true, true, true, true, true, true, false, false, false, false, false, false, false, false, false, false, false, false, false, false, false] rfl rfl (by kernel_rfl) (fun _ _ _ h => h) (Or.inl ⟨by rfl, ?_⟩) ?_ ?_
            rotate_left
            · intro w'
              go_simp
              with_reducible rfl
            rotate_left
            · simp only [Act.put, List.setIfInBounds_toArray, List.set_cons_zero, List.set_cons_succ, i64_w, i32_w]
              rfl
            refine pure_ (i := 9) (N := some 60) (v := ?_) (a' := ?_) #[true, true, true, true, true, true, true, true, true, true, false, false, false, false, false, false, false, false, false, false, false, false, false, false] rfl rfl (by kernel_rfl) (fun _ _ _ h => h) (Or.inl ⟨by rfl, ?_⟩) ?_ ?_
            rotate_left
            · intro w'
              go_simp
              with_reducible rfl
            rotate_left
            · simp only [Act.put, List.setIfInBounds_toArray, List.set_cons_zero, List.set_cons_succ, i64_w, i32_w]
              rfl
            refine pure_ (i := 10) (N := some 61) (v := ?_) (a' := ?_) #[true, true, true, true, true, true, true, true, true, true, true, false, false, false, false, false, false, false, false, false, false, false, false, false] rfl rfl (by kernel_rfl) (fun _ _ _ h => h) (Or.inl ⟨by rfl, ?_⟩) ?_ ?_
            rotate_left
            · intro w'
              go_simp
              with_reducible rfl
            rotate_left
            · simp only [Act.put, List.setIfInBounds_toArray, List.set_cons_zero, List.set_cons_succ, i64_w, i32_w]
              rfl
            refine pure_ (i := 11) (N := some 62) (v := ?_) (a' := ?_) #[true, true, true, true, true, true, true, true, true, true, true, true, false, false, false, false, false, false, false, false, false, false, false, false] rfl rfl (by kernel_rfl) (fun _ _ _ h => h) (Or.inl ⟨by rfl, ?_⟩) ?_ ?_
            rotate_left
            · intro w'
              go_simp
              with_reducible rfl
            rotate_left
            · simp only [Act.put, List.setIfInBounds_toArray, List.set_cons_zero, List.set_cons_succ, i64_w, i32_w]
              rfl
            refine pure_ (i := 12) (N := some 63) (v := ?_) (a' := ?_) #[true, true, true, true, true, true, true, true, true, true, true, true, true, false, false, false, false, false, false, false, false, false, false, false] rfl rfl (by kernel_rfl) (fun _ _ _ h => h) (Or.inl ⟨by rfl, ?_⟩) ?_ ?_
            rotate_left
            · intro w'
              go_simp
              with_reducible rfl
            rotate_left
            · simp only [Act.put, List.setIfInBounds_toArray, List.set_cons_zero, List.set_cons_succ, i64_w, i32_w]
              rfl
            refine pure_ (i := 13) (N := some 64) (v := ?_) (a' := ?_) #[true, true, true, true, true, true, true, true, true, true, true, true, true, true, false, false, false, false, false, false, false, false, false, false] rfl rfl (by kernel_rfl) (fun _ _ _ h => h) (Or.inl ⟨by rfl, ?_⟩) ?_ ?_
            rotate_left
            · intro w'
              go_simp
              with_reducible rfl
            rotate_left
            · simp only [Act.put, List.setIfInBounds_toArray, List.set_cons_zero, List.set_cons_succ, i64_w, i32_w]
              rfl
            refine pure_ (i := 14) (N := some 65) (v := ?_) (a' := ?_) #[true, true, true, true, true, true, true, true, true, true, true, true, true, true, true, false, false, false, false, false, false, false, false, false] rfl rfl (by kernel_rfl) (fun _ _ _ h => h) (Or.inl ⟨by rfl, ?_⟩) ?_ ?_
            rotate_left
            · intro w'
              go_simp
              with_reducible rfl
            rotate_left
            · simp only [Act.put, List.setIfInBounds_toArray, List.set_cons_zero, List.set_cons_succ, i64_w, i32_w]
              rfl
            refine pure_ (i := 15) (N := some 66) (v := ?_) (a' := ?_) #[true, true, true, true, true, true, true, true, true, true, true, true, true, true, true, true, false, false, false, false, false, false, false, false] rfl rfl (by kernel_rfl) (fun _ _ _ h => h) (Or.inl ⟨by rfl, ?_⟩) ?_ ?_
            rotate_left
            · intro w'
              go_simp
              with_reducible rfl
            rotate_left
            · simp only [Act.put, List.setIfInBounds_toArray, List.set_cons_zero, List.set_cons_succ, i64_w, i32_w]
              rfl
            refine pure_ (i := 17) (N := some 68) (v := ?_) (a' := ?_) #[true, true, true, true, true, true, true, true, true, true, true, true, true, true, true, true, false, true, false, false, false, false, false, false] rfl rfl (by kernel_rfl) (fun _ _ _ h => h) (Or.inl ⟨by rfl, ?_⟩) ?_ ?_
            rotate_left
            · intro w'
              go_simp
              with_reducible rfl
            rotate_left
            · simp only [Act.put, List.setIfInBounds_toArray, List.set_cons_zero, List.set_cons_succ, i64_w, i32_w]
              rfl
            refine pure_ (i := 18) (N := some 69) (v := ?_) (a' := ?_) #[true, true, true, true, true, true, true, true, true, true, true, true, true, true, true, true, false, true, true, false, false, false, false, false] rfl rfl (by kernel_rfl) (fun _ _ _ h => h) (Or.inl ⟨by rfl, ?_⟩) ?_ ?_
            rotate_left
            · intro w'
              go_simp
              with_reducible rfl
            rotate_left
            · simp only [Act.put, List.setIfInBounds_toArray, List.set_cons_zero, List.set_cons_succ, i64_w, i32_w]
              rfl
            refine pure_ (i := 19) (N := some 70) (v := ?_) (a' := ?_) #[true, true, true, true, true, true, true, true, true, true, true, true, true, true, true, true, false, true, true, true, false, false, false, false] rfl rfl (by kernel_rfl) (fun _ _ _ h => h) (Or.inl ⟨by rfl, ?_⟩) ?_ ?_
            rotate_left
            · intro w'
              go_simp
              with_reducible rfl
            rotate_left
            · simp only [Act.put, List.setIfInBounds_toArray, List.set_cons_zero, List.set_cons_succ, i64_w, i32_w]
              rfl
            refine take_ (i := 16) (N := some 67) (v := ?_) (a' := ?_) #[true, true, true, true, true, true, true, true, true, true, true, true, true, true, true, true, true, true, true, true, false, false, false, false] rfl rfl (by kernel_rfl) (fun _ _ _ h => h) (Or.inl ⟨by rfl, ?_⟩) hHeld ?_ ?_
            rotate_left
            · rintro w' ⟨s0, s1, s2, s3⟩
              go_simp
              with_reducible rfl
            rotate_left
            · simp only [Act.put, List.setIfInBounds_toArray, List.set_cons_zero, List.set_cons_succ, i64_w, i32_w]
              rfl
            refine take_ (i := 20) (N := some 71) (v := ?_) (a' := ?_) #[true, true, true, true, true, true, true, true, true, true, true, true, true, true, true, true, true, true, true, true, true, false, false, false] rfl rfl (by kernel_rfl) (fun _ _ _ h => h) (Or.inl ⟨by rfl, ?_⟩) hHeld ?_ ?_
            rotate_left
            · rintro w' ⟨s0, s1, s2, s3⟩
              go_simp
              with_reducible rfl
            rotate_left
            · simp only [Act.put, List.setIfInBounds_toArray, List.set_cons_zero, List.set_cons_succ, i64_w, i32_w]
              rfl
            refine pure_ (i := 21) (N := some 72) (v := ?_) (a' := ?_) #[true, true, true, true, true, true, true, true, true, true, true, true, true, true, true, true, true, true, true, true, true, true, false, false] rfl rfl (by kernel_rfl) (fun _ _ _ h => h) (Or.inl ⟨by rfl, ?_⟩) ?_ ?_
            rotate_left
            · intro w'
              go_simp
              with_reducible rfl
            rotate_left
            · simp only [Act.put, List.setIfInBounds_toArray, List.set_cons_zero, List.set_cons_succ, i64_w, i32_w]
              rfl
            refine pure_ (i := 22) (N := some 73) (v := ?_) (a' := ?_) #[true, true, true, true, true, true, true, true, true, true, true, true, true, true, true, true, true, true, true, true, true, true, true, false] rfl rfl (by kernel_rfl) (fun _ _ _ h => h) (Or.inl ⟨by rfl, ?_⟩) ?_ ?_
            rotate_left
            · intro w'
              go_simp
              with_reducible rfl
            rotate_left
            · simp only [Act.put, List.setIfInBounds_toArray, List.set_cons_zero, List.set_cons_succ, i64_w, i32_w]
              rfl
            refine pure_ (i := 23) (N := some 74) (v := ?_) (a' := ?_) #[true, true, true, true, true, true, true, true, true, true, true, true, true, true, true, true, true, true, true, true, true, true, true, true] rfl rfl (by kernel_rfl) (fun _ _ _ h => h) (Or.inl ⟨by rfl, ?_⟩) ?_ ?_
            rotate_left
            · intro w'
              go_simp
              with_reducible rfl
            rotate_left
            · simp only [Act.put, List.setIfInBounds_toArray, List.set_cons_zero, List.set_cons_succ, i64_w, i32_w]
              rfl
            refine done_ (by kernel_rfl) ?_
            clear c6 c7 e6 e7
            go_wp2
            go_roundg k2
            case measure => omega
            case rel => exact ⟨k + 1, by rw [ewk.out]; simp, ⟨by have := HKK.out; omega⟩, ⟨below_drew HB.out⟩, H6, H7⟩
          · have d3 : decide ((k : Int) < 8) = false := decide_eq_false (by omega)
            have d4 : decide (k < 8) = false := decide_eq_false h8
            clear h8
            refine start_ (n := 24) (S := fun w' => w'.cell? ⟨g6, 11 + k, none⟩ = some (.int .i64 zz) ∧ w'.cell? ⟨g7, 11 + k, none⟩ = some (.int .i64 zz)) (ds := []) #[false, false, false, false, false, false, false, false, false, false, false, false, false, false, false, false, false, false, false, false, false, false, false, false] (by kernel_rfl) rfl rfl ⟨c6, c7⟩ (fun hHeld => ?_)
            refine pure_ (i := 0) (N := some 51) (v := ?_) (a' := ?_) #[true, false, false, false, false, false, false, false, false, false, false, false, false, false, false, false, false, false, false, false, false, false, false, false] rfl rfl (by kernel_rfl) (fun _ _ _ h => h) (Or.inl ⟨by rfl, ?_⟩) ?_ ?_
            rotate_left
            · intro w'
              go_simp
              with_reducible rfl
            rotate_left
            · simp only [Act.put, List.setIfInBounds_toArray, List.set_cons_zero, List.set_cons_succ, i64_w, i32_w]
              rfl
            refine pure_ (i := 1) (N := some 52) (v := ?_) (a' := ?_) #[true, true, false, false, false, false, false, false, false, false, false, false, false, false, false, false, false, false, false, false, false, false, false, false] rfl rfl (by kernel_rfl) (fun _ _ _ h => h) (Or.inl ⟨by rfl, ?_⟩) ?_ ?_
            rotate_left
            · intro w'
              go_simp
              with_reducible rfl
            rotate_left
            · simp only [Act.put, List.setIfInBounds_toArray, List.set_cons_zero, List.set_cons_succ, i64_w, i32_w]
              rfl
            refine pure_ (i := 2) (N := some 53) (v := ?_) (a' := ?_) #[true, true, true, false, false, false, false, false, false, false, false, false, false, false, false, false, false, false, false, false, false, false, false, false] rfl rfl (by kernel_rfl) (fun _ _ _ h => h) (Or.inl ⟨by rfl, ?_⟩) ?_ ?_
            rotate_left
            · intro w'
              go_simp
              with_reducible rfl
            rotate_left
            · simp only [Act.put, List.setIfInBounds_toArray, List.set_cons_zero, List.set_cons_succ, i64_w, i32_w]
              rfl
            refine pure_ (i := 4) (N := some 55) (v := ?_) (a' := ?_) #[true, true, true, false, true, false, false, false, false, false, false, false, false, false, false, false, false, false, false, false, false, false, false, false] rfl rfl (by kernel_rfl) (fun _ _ _ h => h) (Or.inl ⟨by rfl, ?_⟩) ?_ ?_
            rotate_left
            · intro w'
              go_simp
              with_reducible rfl
            rotate_left
            · simp only [Act.put, List.setIfInBounds_toArray, List.set_cons_zero, List.set_cons_succ, i64_w, i32_w]
              rfl
            refine pure_ (i := 5) (N := some 56) (v := ?_) (a' := ?_) #[true, true, true, false, true, true, false, false, false, false, false, false, false, false, false, false, false, false, false, false, false, false, false, false] rfl rfl (by kernel_rfl) (fun _ _ _ h => h) (Or.inl ⟨by rfl, ?_⟩) ?_ ?_
            rotate_left
            · intro w'
              go_simp
              with_reducible rfl
            rotate_left
            · simp only [Act.put, List.setIfInBounds_toArray, List.set_cons_zero, List.set_cons_succ, i64_w, i32_w]
              rfl
            refine pure_ (i := 6) (N := some 57) (v := ?_) (a' := ?_) #[true, true, true, false, true, true, true, false, false, false, false, false, false, false, false, false, false, false, false, false, false, false, false, false] rfl rfl (by kernel_rfl) (fun _ _ _ h => h) (Or.inl ⟨by rfl, ?_⟩) ?_ ?_
            rotate_left
            · intro w'
              go_simp
              with_reducible rfl
            rotate_left
            · simp only [Act.put, List.setIfInBounds_toArray, List.set_cons_zero, List.set_cons_succ, i64_w, i32_w]
              rfl
            refine take_ (i := 3) (N := some 54) (v := ?_) (a' := ?_) #[true, true, true, true, true, true, true, false, false, false, false, false, false, false, false, false, false, false, false, false, false, false, false, false] rfl rfl (by kernel_rfl) (fun _ _ _ h => h) (Or.inl ⟨by rfl, ?_⟩) hHeld ?_ ?_
            rotate_left
            · rintro w' ⟨s0, s1⟩
              go_simp
              with_reducible rfl
            rotate_left
            · simp only [Act.put, List.setIfInBounds_toArray, List.set_cons_zero, List.set_cons_succ, i64_w, i32_w]
              rfl
            refine take_ (i := 7) (N := some 58) (v := ?_) (a' := ?_) #[true, true, true, true, true, true, true, true, false, false, false, false, false, false, false, false, false, false, false, false, false, false, false, false] rfl rfl (by kernel_rfl) (fun _ _ _ h => h) (Or.inl ⟨by rfl, ?_⟩) hHeld ?_ ?_
            rotate_left
            · rintro w' ⟨s0, s1⟩
              go_simp
              with_reducible rfl
            rotate_left
            · simp only [Act.put, List.setIfInBounds_toArray, List.set_cons_zero, List.set_cons_succ, i64_w, i32_w]
              rfl
            refine pure_ (i := 8) (N := some 59) (v := ?_) (a' := ?_) #[true, true, true, true, true, true, true, true, true, false, false, false, false, false, false, false, false, false, false, false, false, false, false, false] rfl rfl (by kernel_rfl) (fun _ _ _ h => h) (Or.inl ⟨by rfl, ?_⟩) ?_ ?_
            rotate_left
            · intro w'
              go_simp
              with_reducible rfl
            rotate_left
            · simp only [Act.put, List.setIfInBounds_toArray, List.set_cons_zero, List.set_cons_succ, i64_w, i32_w]
              rfl
            refine pure_ (i := 9) (N := some 60) (v := ?_) (a' := ?_) #[true, true, true, true, true, true, true, true, true, true, false, false, false, false, false, false, false, false, false, false, false, false, false, false] rfl rfl (by kernel_rfl) (fun _ _ _ h => h) (Or.inl ⟨by rfl, ?_⟩) ?_ ?_
            rotate_left
            · intro w'
              go_simp
              with_reducible rfl
            rotate_left
            · simp only [Act.put, List.setIfInBounds_toArray, List.set_cons_zero, List.set_cons_succ, i64_w, i32_w]
              rfl
            refine pure_ (i := 10) (N := some 61) (v := ?_) (a' := ?_) #[true, true, true, true, true, true, true, true, true, true, true, false, false, false, false, false, false, false, false, false, false, false, false, false] rfl rfl (by kernel_rfl) (fun _ _ _ h => h) (Or.inl ⟨by rfl, ?_⟩) ?_ ?_
            rotate_left
            · intro w'
              go_simp
              with_reducible rfl
            rotate_left
            · simp only [Act.put, List.setIfInBounds_toArray, List.set_cons_zero, List.set_cons_succ, i64_w, i32_w]
              rfl
            refine pure_ (i := 11) (N := some 62) (v := ?_) (a' := ?_) #[true, true, true, true, true, true, true, true, true, true, true, true, false, false, false, false, false, false, false, false, false, false, false, false] rfl rfl (by kernel_rfl) (fun _ _ _ h => h) (Or.inl ⟨by rfl, ?_⟩) ?_ ?_
            rotate_left
            · intro w'
              go_simp
              with_reducible rfl
            rotate_left
            · simp only [Act.put, List.setIfInBounds_toArray, List.set_cons_zero, List.set_cons_succ, i64_w, i32_w]
              rfl
            refine pure_ (i := 12) (N := some 63) (v := ?_) (a' := ?_) #[true, true, true, true, true, true, true, true, true, true, true, true, true, false, false, false, false, false, false, false, false, false, false, false] rfl rfl (by kernel_rfl) (fun _ _ _ h => h) (Or.inl ⟨by rfl, ?_⟩) ?_ ?_
            rotate_left
            · intro w'
              go_simp
              with_reducible rfl
            rotate_left
            · simp only [Act.put, List.setIfInBounds_toArray, List.set_cons_zero, List.set_cons_succ, i64_w, i32_w]
              rfl
            refine pure_ (i := 13) (N := some 64) (v := undef) (a' := ?_) #[true, true, true, true, true, true, true, true, true, true, true, true, true, true, false, false, false, false, false, false, false, false, false, false] rfl rfl (by kernel_rfl) (fun _ _ _ h => h) (Or.inr ⟨by rfl, rfl⟩) ?_ ?_
            rotate_left
            · simp only [Act.put, List.setIfInBounds_toArray, List.set_cons_zero, List.set_cons_succ, i64_w, i32_w]
              rfl
            refine pure_ (i := 14) (N := some 65) (v := undef) (a' := ?_) #[true, true, true, true, true, true, true, true, true, true, true, true, true, true, true, false, false, false, false, false, false, false, false, false] rfl rfl (by kernel_rfl) (fun _ _ _ h => h) (Or.inr ⟨by rfl, rfl⟩) ?_ ?_
            rotate_left
            · simp only [Act.put, List.setIfInBounds_toArray, List.set_cons_zero, List.set_cons_succ, i64_w, i32_w]
              rfl
            refine pure_ (i := 15) (N := some 66) (v := undef) (a' := ?_) #[true, true, true, true, true, true, true, true, true, true, true, true, true, true, true, true, false, false, false, false, false, false, false, false] rfl rfl (by kernel_rfl) (fun _ _ _ h => h) (Or.inr ⟨by rfl, rfl⟩) ?_ ?_
            rotate_left
            · simp only [Act.put, List.setIfInBounds_toArray, List.set_cons_zero, List.set_cons_succ, i64_w, i32_w]
              rfl
            refine pure_ (i := 16) (N := some 67) (v := undef) (a' := ?_) #[true, true, true, true, true, true, true, true, true, true, true, true, true, true, true, true, true, false, false, false, false, false, false, false] rfl rfl (by kernel_rfl) (fun _ _ _ h => h) (Or.inr ⟨by rfl, rfl⟩) ?_ ?_
            rotate_left
            · simp only [Act.put, List.setIfInBounds_toArray, List.set_cons_zero, List.set_cons_succ, i64_w, i32_w]
              rfl
            refine pure_ (i := 17) (N := some 68) (v := undef) (a' := ?_) #[true, true, true, true, true, true, true, true, true, true, true, true, true, true, true, true, true, true, false, false, false, false, false, false] rfl rfl (by kernel_rfl) (fun _ _ _ h => h) (Or.inr ⟨by rfl, rfl⟩) ?_ ?_
            rotate_left
            · simp only [Act.put, List.setIfInBounds_toArray, List.set_cons_zero, List.set_cons_succ, i64_w, i32_w]
              rfl
            refine pure_ (i := 18) (N := some 69) (v := undef) (a' := ?_) #[true, true, true, true, true, true, true, true, true, true, true, true, true, true, true, true, true, true, true, false, false, false, false, false] rfl rfl (by kernel_rfl) (fun _ _ _ h => h) (Or.inr ⟨by rfl, rfl⟩) ?_ ?_
            rotate_left
            · simp only [Act.put, List.setIfInBounds_toArray, List.set_cons_zero, List.set_cons_succ, i64_w, i32_w]
              rfl
            refine pure_ (i := 19) (N := some 70) (v := undef) (a' := ?_) #[true, true, true, true, true, true, true, true, true, true, true, true, true, true, true, true, true, true, true, true, false, false, false, false] rfl rfl (by kernel_rfl) (fun _ _ _ h => h) (Or.inr ⟨by rfl, rfl⟩) ?_ ?_
            rotate_left
            · simp only [Act.put, List.setIfInBounds_toArray, List.set_cons_zero, List.set_cons_succ, i64_w, i32_w]
              rfl
            refine pure_ (i := 20) (N := some 71) (v := undef) (a' := ?_) #[true, true, true, true, true, true, true, true, true, true, true, true, true, true, true, true, true, true, true, true, true, false, false, false] rfl rfl (by kernel_rfl) (fun _ _ _ h => h) (Or.inr ⟨by rfl, rfl⟩) ?_ ?_
            rotate_left
            · simp only [Act.put, List.setIfInBounds_toArray, List.set_cons_zero, List.set_cons_succ, i64_w, i32_w]
              rfl
            refine pure_ (i := 21) (N := some 72) (v := undef) (a' := ?_) #[true, true, true, true, true, true, true, true, true, true, true, true, true, true, true, true, true, true, true, true, true, true, false, false] rfl rfl (by kernel_rfl) (fun _ _ _ h => h) (Or.inr ⟨by rfl, rfl⟩) ?_ ?_
            rotate_left
            · simp only [Act.put, List.setIfInBounds_toArray, List.set_cons_zero, List.set_cons_succ, i64_w, i32_w]
              rfl
            refine pure_ (i := 22) (N := some 73) (v := ?_) (a' := ?_) #[true, true, true, true, true, true, true, true, true, true, true, true, true, true, true, true, true, true, true, true, true, true, true, false] rfl rfl (by kernel_rfl) (fun _ _ _ h => h) (Or.inl ⟨by rfl, ?_⟩) ?_ ?_
            rotate_left
            · intro w'
              go_simp
              with_reducible rfl
            rotate_left
            · simp only [Act.put, List.setIfInBounds_toArray, List.set_cons_zero, List.set_cons_succ, i64_w, i32_w]
              rfl
            refine pure_ (i := 23) (N := some 74) (v := ?_) (a' := ?_) #[true, true, true, true, true, true, true, true, true, true, true, true, true, true, true, true, true, true, true, true, true, true, true, true] rfl rfl (by kernel_rfl) (fun _ _ _ h => h) (Or.inl ⟨by rfl, ?_⟩) ?_ ?_
            rotate_left
            · intro w'
              go_simp
              with_reducible rfl
            rotate_left
            · simp only [Act.put, List.setIfInBounds_toArray, List.set_cons_zero, List.set_cons_succ, i64_w, i32_w]
              rfl
            refine done_ (by kernel_rfl) ?_
            clear c6 c7
            go_wp2
            go_roundg k2
            case measure => omega
            case rel => exact ⟨k + 1, by rw [ewk.out]; simp, ⟨by have := HKK.out; omega⟩, ⟨below_drew HB.out⟩, H6, H7⟩
        · have d1 : decide ((k : Int) < 16) = false := decide_eq_false (by omega)
          have d2 : decide (k < 16) = false := decide_eq_false hk
          clear hk
          go_wp2
          go_roundg k1
          case measure => omega
          case rel => exact ⟨i + 1, by rw [ewi.out]; simp, ⟨by have := HK.out; omega⟩, HB⟩
    · have d1 : decide ((i : Int) < (n : Int)) = false := decide_eq_false (by omega)
      have d2 : decide (i < n) = false := decide_eq_false hi
      clear hi
      go_wp2
      go_ret
      exact ⟨rfl, HW.out⟩
end Go.Proofs.Ytakbhnfmimnbhaa.Rn
