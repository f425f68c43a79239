/- The page's places: Do. Conditions: none. -/
import Derived.Test.YtjcjhmnfknenlaaPx6
import Derived.Test.YtjcjhmnfknenlaaPx11
import Derived.Test.YtjcjhmnfknenlaaPx12
import Derived.Test.YtjcjhmnfknenlaaPx13
namespace Go.Proofs.Ytjcjhmnfknenlaa.Px
open Go.RowKit Go.Proofs.Ytjcjhmnfknenlaa.PPlaceApart Go.Proofs.YtjcjhmnfknenlaaW.PrintWords Go.Proofs.YtjcjhmnfknenlaaW.PrintLast Go.Proofs.YtjcjhmnfknenlaaW.PrintMore
open Pl (dropA OkW Pa Inv Ok wher on readyA readyB putA leaveA dropA workA workN fetchA allS inB doA flagI wo A0 rg sumN)
set_option linter.unusedVariables false
set_option linter.unusedSimpArgs false

theorem ref_flag (W : World) (b : Bool) : Calls Try.prog 39 #[.bool b] W fun e w' => e = .returned (.int .i64 (flagI b)) ∧ w' = W := by
  cases b
  · go_enter Try.func39, Try.ntmps39
    go_wp2
    go_ret
    exact ⟨rfl, rfl⟩
  · go_enter Try.func39, Try.ntmps39
    go_wp2
    go_ret
    exact ⟨rfl, rfl⟩
section
variable {R : Nat → Prop} {W w : World} {A : Pa} {u0 u1 u2 u3 : Value} {vs : Nat → Value}
theorem J.putp {g1 g2 : Nat} {q0 q1 q2 q3 : Value} (h : J W w u0 u1 u2 u3 g1 g2) : J W (w.setRow g1 #[q0, q1, q2, q3]) q0 q1 q2 q3 g1 g2 :=
  ⟨below_row41 h.hb h.ge1 _, setRow_heap _ _ _ _ _ _ h.h1, (setRow_other _ _ _ _ h.ne.symm).trans h.h2, h.ge1, h.ge2, h.ne⟩
set_option maxHeartbeats 8000000 in
set_option maxRecDepth 100000 in
theorem ref_do (h : Pg R W A u0 u1 u2 u3 vs) (hi : Inv A) (hn : A.n ≤ 8) (hw : ∀ i, i < A.n → 0 ≤ A.work i ∧ A.work i ≤ 1000000) (k x : Int) {t : Int} (wd : -9223372036854775808 ≤ t ∧ t ≤ 9223372036854775807) : Calls Try.prog 17 #[.agg #[u0, u1, u2, u3], .agg #[.int .i64 k, .int .i64 x, .int .i64 t]] W fun e w' => ∃ q0 q1 q2 q3 qs, e = .returned (.tuple #[.agg #[q0, q1, q2, q3], .int .i64 (doA A k x t).2.1, .int .i64 (doA A k x t).2.2]) ∧ Below W.heap.size W w' ∧ Pg R w' (doA A k x t).1 q0 q1 q2 q3 qs := by
  have hu41 := Try.underlying41
  have hu28 := Try.underlying28
  obtain ⟨s0, s1, s2, s3⟩ := (show (∃ A' c, u0 = .slice A' A.n c) ∧ (∃ A' c, u1 = .slice A' A.n c) ∧ (∃ A' c, u2 = .slice A' A.n c) ∧ (∃ A' c, u3 = .slice A' A.gl.length c) from ⟨own_slice h.r0, own_slice h.r1, own_slice h.r2, own_slice h.r3⟩)
  obtain ⟨A0, c0, rfl⟩ := s0
  obtain ⟨A1, c1, rfl⟩ := s1
  obtain ⟨A2, c2, rfl⟩ := s2
  obtain ⟨A3, c3, rfl⟩ := s3
  have HP := Aside0.mk h
  have HI := Aside0.mk hi
  have HN8 := Aside0.mk hn
  have HW := Aside0.mk hw
  have HWD := Aside0.mk wd
  have ONE := Aside0.mk h.one
  clear h hi hn hw wd
  by_cases c0 : k = 0
  · rw [show doA A k x t = (readyA A x t, flagI (readyB A x t), 0) from by unfold doA; rw [if_pos c0]]
    have d0 : (k == 0) = true := beq_iff_eq.2 c0
    clear c0
    obtain ⟨bb, hbb⟩ : ∃ bb, bb = readyB A x t := ⟨_, rfl⟩
    rw [← hbb]
    have HBB := Aside0.mk hbb
    clear hbb
    go_enter Try.func17, Try.ntmps17
    go_upto_region 1 with (first
      | ((with_reducible refine gate_dst (N := 2) rfl ?_); refine box_event ?hg (N := 2) ?hd (cs := #[.slice A0 A.n c0, .slice A1 A.n c1, .slice A2 A.n c2, .slice A3 A.gl.length c3]) (t := 41) ?hr ?_; (case hd => rfl); (case hg => rfl); (case hr => first | (go_simp; done) | (go_simp; rfl)); intro g1 hg w1 hbox hb; have B1 := Aside0.mk hb; have G1 := Aside0.mk hg; have X1 := Aside0.mk hbox; clear hbox hb hg)
      | ((with_reducible refine gate_dst (N := 3) rfl ?_); refine box_event ?hg (N := 3) ?hd (cs := #[.int .i64 k, .int .i64 x, .int .i64 t]) (t := 28) ?hr ?_; (case hd => rfl); (case hg => rfl); (case hr => first | (go_simp; done) | (go_simp; rfl)); intro g4 hg w2 hbox hb; have B2 := Aside0.mk hb; have G2 := Aside0.mk hg; have X2 := Aside0.mk hbox; clear hbox hb hg)
      | ((with_reducible refine gate_dst (N := 4) rfl ?_); refine box_event ?hg (N := 4) ?hd (cs := #[.slice none 0 0, .slice none 0 0, .slice none 0 0, .slice none 0 0]) (t := 41) ?hr ?_; (case hd => rfl); (case hg => rfl); (case hr => first | (go_simp; done) | (go_simp; rfl)); intro g2 hg w3 hbox hb; have B3 := Aside0.mk hb; have G3 := Aside0.mk hg; have X3 := Aside0.mk hbox; clear hbox hb hg))
    have HJ := Aside0.mk (show J W w3 _ _ _ _ g1 g2 from ⟨below_step B1.out (below_step B2.out B3.out), blk_below X1.out (below_step B2.out B3.out), X3.out, by rw [G1.out]; exact Nat.le_refl _, by have h1 := B1.out.size; have h2 := B2.out.size; have h3 := G3.out; omega, by have h1 := blk_lt X1.out; have h2 := B2.out.size; have h3 := G3.out; omega⟩)
    have z0 : w3.cell? ⟨g4, 0, none⟩ = some (.int .i64 k) := (blk_cell (blk_below X2.out B3.out) 0).trans rfl
    have z1 : w3.cell? ⟨g4, 1, none⟩ = some (.int .i64 x) := (blk_cell (blk_below X2.out B3.out) 1).trans rfl
    have z2 : w3.cell? ⟨g4, 2, none⟩ = some (.int .i64 t) := (blk_cell (blk_below X2.out B3.out) 2).trans rfl
    clear B1 B2 B3 X1 X2 X3 G1 G2 G3
    go_upto_region 15 with (first
      | (refine wpList_load_row rfl 41 (.tmp 2) rfl g1 rfl 41 _ (0, 0) _ HJ.out.h1 Try.underlying41 rfl info41 ?_)
      | (go_at_call 34; (with_reducible refine (ref_ready (HP.out.below HJ.out.hb) HI.out HN8.out x t).mono ?_); rw [← HBB.out]; rintro e w4 ⟨q0, q1, q2, q3, qs, rfl, hb, hp⟩; have B4 := Aside0.mk hb; have P4 := Aside0.mk hp; clear hb hp)
      | (refine wpList_store_row rfl 41 (.tmp 2) (.tmp 29) rfl g1 _ rfl rfl 41 _ (HJ.out.below B4.out).h1 info41 rfl P4.out.one ?_))
    try rw [← HBB.out]
    have HJ5 := Aside0.mk ((HJ.out.below B4.out).putp (q0 := q0) (q1 := q1) (q2 := q2) (q3 := q3))
    have HP5 := Aside0.mk (P4.out.boxr (cs := #[q0, q1, q2, q3]) (HJ.out.below B4.out).h1)
    clear B4 P4 HJ z0 z1 z2
    generalize w4.setRow g1 #[q0, q1, q2, q3] = w6 at *
    have HJ6 := Aside0.mk (HJ5.out.below (below_drew (Below.refl _ _)))
    have HP6 := Aside0.mk (HP5.out.below (below_drew (Below.refl _ _)))
    clear HJ5 HP5
    refine start_ (n := 6) (S := fun w' => w'.heap[g1]? = some (.cells #[q0, q1, q2, q3] 41 (0, 0))) (ds := []) #[false, false, false, false, false, false] (by kernel_rfl) rfl rfl (HJ6.out.h1) (fun hHeld => ?_)
    refine pure_ (i := 1) (N := some 70) (v := ?_) (a' := ?_) #[false, true, false, false, false, false] rfl rfl (by kernel_rfl) (fun _ _ _ h => h) (Or.inl ⟨by rfl, ?_⟩) ?_ ?_
    rotate_left
    · intro w'
      go_simp
      with_reducible rfl
    rotate_left
    · simp only [Act.put, List.setIfInBounds_toArray, List.set_cons_zero, List.set_cons_succ, i64_w, i32_w]
      rfl
    refine take_ (i := 0) (N := some 69) (v := ?_) (a' := ?_) #[true, true, false, false, false, false] rfl rfl (by kernel_rfl) (fun _ _ _ h => h) (Or.inl ⟨by rfl, ?_⟩) hHeld ?_ ?_
    rotate_left
    · intro w' s0
      (refine ex_load41 (x := .tmp 2) ?_ ?_ rfl s0 <;> rfl)
    rotate_left
    · simp only [Act.put, List.setIfInBounds_toArray, List.set_cons_zero, List.set_cons_succ, i64_w, i32_w]
      rfl
    refine one_ (i := 2) (N := some 71) #[true, true, true, false, false, false] rfl rfl (by kernel_rfl) (by decide) (fun K hK => ?_)
    refine goes_ Try.func39 (by kernel_rfl) rfl #[.bool bb] (by rfl) rfl rfl (by simp only [List.map_toArray, List.map_cons, List.map_nil]; rfl) ?_
    with_reducible refine (ref_flag _ bb).mono ?_
    rintro e w8 ⟨rfl, rfl⟩
    refine ⟨_, rfl, ?_⟩
    refine hK.out _ _ (HJ6.out.h1) (fun hHeld => ?_)
    clear hK K
    refine norm_ (a' := ?_) ?_ ?_
    rotate_left
    · show Act.put _ (some 71) _ = _
      simp only [Act.put, List.setIfInBounds_toArray, List.set_cons_zero, List.set_cons_succ, i64_w, i32_w]
      rfl
    refine one_ (i := 3) (N := none) #[true, true, true, true, false, false] rfl rfl (by kernel_rfl) (by decide) (fun K hK => ?_)
    refine skip_ (w1 := _) (by rfl) rfl (ex_store41 (x := .tmp 4) (y := .tmp 69) rfl (by first | (simp [Act.eval, Act.put]; done) | rfl) (by first | (simp [Act.eval, Act.put]; done) | rfl) HJ6.out.h2 ⟨HP6.out.r0, HP6.out.r1, HP6.out.r2, HP6.out.r3⟩) ?_
    refine hK.out _ _ (HJ6.out.res) (fun hHeld => ?_)
    clear hK K
    refine pure_ (i := 4) (N := some 5) (v := ?_) (a' := ?_) #[true, true, true, true, true, false] rfl rfl (by kernel_rfl) (fun _ _ _ h => h) (Or.inl ⟨by rfl, ?_⟩) ?_ ?_
    rotate_left
    · intro w'
      go_simp
      with_reducible rfl
    rotate_left
    · simp only [Act.put, List.setIfInBounds_toArray, List.set_cons_zero, List.set_cons_succ, i64_w, i32_w]
      rfl
    refine pure_ (i := 5) (N := some 6) (v := ?_) (a' := ?_) #[true, true, true, true, true, true] rfl rfl (by kernel_rfl) (fun _ _ _ h => h) (Or.inl ⟨by rfl, ?_⟩) ?_ ?_
    rotate_left
    · intro w'
      go_simp
      with_reducible rfl
    rotate_left
    · simp only [Act.put, List.setIfInBounds_toArray, List.set_cons_zero, List.set_cons_succ, i64_w, i32_w]
      rfl
    refine done_ (by kernel_rfl) ?_

    go_wp2
    have HF := Aside0.mk (HJ6.out.fin HP6.out)
    refine bodyPost_ret (results_ctt rfl _ _ g2 41 #[q0, q1, q2, q3] (0, 0) _ rfl HF.out.1 Try.underlying41 rfl info41) rfl (by first | exact ⟨_, _, _, _, _, rfl, HF.out.2.1, HF.out.2.2⟩ | exact ⟨_, _, _, _, rfl, HF.out.2.1, _, HF.out.2.2⟩)
  by_cases c1 : k = 1
  · rw [show doA A k x t = fetchA A x t from by unfold doA; rw [if_neg c0, if_pos c1]]
    have d0 : (k == 0) = false := beq_eq_false_iff_ne.2 c0
    have d1 : (k == 1) = true := beq_iff_eq.2 c1
    clear c0 c1
    go_enter Try.func17, Try.ntmps17
    go_upto_region 1 with (first
      | ((with_reducible refine gate_dst (N := 2) rfl ?_); refine box_event ?hg (N := 2) ?hd (cs := #[.slice A0 A.n c0, .slice A1 A.n c1, .slice A2 A.n c2, .slice A3 A.gl.length c3]) (t := 41) ?hr ?_; (case hd => rfl); (case hg => rfl); (case hr => first | (go_simp; done) | (go_simp; rfl)); intro g1 hg w1 hbox hb; have B1 := Aside0.mk hb; have G1 := Aside0.mk hg; have X1 := Aside0.mk hbox; clear hbox hb hg)
      | ((with_reducible refine gate_dst (N := 3) rfl ?_); refine box_event ?hg (N := 3) ?hd (cs := #[.int .i64 k, .int .i64 x, .int .i64 t]) (t := 28) ?hr ?_; (case hd => rfl); (case hg => rfl); (case hr => first | (go_simp; done) | (go_simp; rfl)); intro g4 hg w2 hbox hb; have B2 := Aside0.mk hb; have G2 := Aside0.mk hg; have X2 := Aside0.mk hbox; clear hbox hb hg)
      | ((with_reducible refine gate_dst (N := 4) rfl ?_); refine box_event ?hg (N := 4) ?hd (cs := #[.slice none 0 0, .slice none 0 0, .slice none 0 0, .slice none 0 0]) (t := 41) ?hr ?_; (case hd => rfl); (case hg => rfl); (case hr => first | (go_simp; done) | (go_simp; rfl)); intro g2 hg w3 hbox hb; have B3 := Aside0.mk hb; have G3 := Aside0.mk hg; have X3 := Aside0.mk hbox; clear hbox hb hg))
    have HJ := Aside0.mk (show J W w3 _ _ _ _ g1 g2 from ⟨below_step B1.out (below_step B2.out B3.out), blk_below X1.out (below_step B2.out B3.out), X3.out, by rw [G1.out]; exact Nat.le_refl _, by have h1 := B1.out.size; have h2 := B2.out.size; have h3 := G3.out; omega, by have h1 := blk_lt X1.out; have h2 := B2.out.size; have h3 := G3.out; omega⟩)
    have z0 : w3.cell? ⟨g4, 0, none⟩ = some (.int .i64 k) := (blk_cell (blk_below X2.out B3.out) 0).trans rfl
    have z1 : w3.cell? ⟨g4, 1, none⟩ = some (.int .i64 x) := (blk_cell (blk_below X2.out B3.out) 1).trans rfl
    have z2 : w3.cell? ⟨g4, 2, none⟩ = some (.int .i64 t) := (blk_cell (blk_below X2.out B3.out) 2).trans rfl
    clear B1 B2 B3 X1 X2 X3 G1 G2 G3
    go_wp2_with (first
      | (refine wpList_load_row rfl 41 (.tmp 2) rfl g1 rfl 41 _ (0, 0) _ HJ.out.h1 Try.underlying41 rfl info41 ?_)
      | (go_at_call 35; (with_reducible refine (ref_fetch (HP.out.below HJ.out.hb) HI.out HN8.out x HWD.out).mono ?_); rintro e w4 ⟨q0, q1, q2, q3, qs, rfl, hb, hp⟩; have B4 := Aside0.mk hb; have P4 := Aside0.mk hp; clear hb hp)
      | (refine wpList_store_row rfl 41 (.tmp 4) (.tmp 39) rfl g2 _ rfl rfl 41 _ (HJ.out.below B4.out).h2 info41 rfl P4.out.one ?_))
    have HF := Aside0.mk ((HJ.out.below B4.out).fin P4.out)
    refine bodyPost_ret (results_ctt rfl _ _ g2 41 #[q0, q1, q2, q3] (0, 0) _ rfl HF.out.1 Try.underlying41 rfl info41) rfl (by first | exact ⟨_, _, _, _, _, rfl, HF.out.2.1, HF.out.2.2⟩ | exact ⟨_, _, _, _, rfl, HF.out.2.1, _, HF.out.2.2⟩)
  by_cases c2 : k = 2
  · rw [show doA A k x t = (putA A x, flagI (decide (0 ≤ on A x)), 0) from by unfold doA; rw [if_neg c0, if_neg c1, if_pos c2]]
    have d0 : (k == 0) = false := beq_eq_false_iff_ne.2 c0
    have d1 : (k == 1) = false := beq_eq_false_iff_ne.2 c1
    have d2 : (k == 2) = true := beq_iff_eq.2 c2
    clear c0 c1 c2
    obtain ⟨bb, hbb⟩ : ∃ bb, bb = decide (0 ≤ on A x) := ⟨_, rfl⟩
    rw [← hbb]
    have HBB := Aside0.mk hbb
    clear hbb
    go_enter Try.func17, Try.ntmps17
    go_upto_region 1 with (first
      | ((with_reducible refine gate_dst (N := 2) rfl ?_); refine box_event ?hg (N := 2) ?hd (cs := #[.slice A0 A.n c0, .slice A1 A.n c1, .slice A2 A.n c2, .slice A3 A.gl.length c3]) (t := 41) ?hr ?_; (case hd => rfl); (case hg => rfl); (case hr => first | (go_simp; done) | (go_simp; rfl)); intro g1 hg w1 hbox hb; have B1 := Aside0.mk hb; have G1 := Aside0.mk hg; have X1 := Aside0.mk hbox; clear hbox hb hg)
      | ((with_reducible refine gate_dst (N := 3) rfl ?_); refine box_event ?hg (N := 3) ?hd (cs := #[.int .i64 k, .int .i64 x, .int .i64 t]) (t := 28) ?hr ?_; (case hd => rfl); (case hg => rfl); (case hr => first | (go_simp; done) | (go_simp; rfl)); intro g4 hg w2 hbox hb; have B2 := Aside0.mk hb; have G2 := Aside0.mk hg; have X2 := Aside0.mk hbox; clear hbox hb hg)
      | ((with_reducible refine gate_dst (N := 4) rfl ?_); refine box_event ?hg (N := 4) ?hd (cs := #[.slice none 0 0, .slice none 0 0, .slice none 0 0, .slice none 0 0]) (t := 41) ?hr ?_; (case hd => rfl); (case hg => rfl); (case hr => first | (go_simp; done) | (go_simp; rfl)); intro g2 hg w3 hbox hb; have B3 := Aside0.mk hb; have G3 := Aside0.mk hg; have X3 := Aside0.mk hbox; clear hbox hb hg))
    have HJ := Aside0.mk (show J W w3 _ _ _ _ g1 g2 from ⟨below_step B1.out (below_step B2.out B3.out), blk_below X1.out (below_step B2.out B3.out), X3.out, by rw [G1.out]; exact Nat.le_refl _, by have h1 := B1.out.size; have h2 := B2.out.size; have h3 := G3.out; omega, by have h1 := blk_lt X1.out; have h2 := B2.out.size; have h3 := G3.out; omega⟩)
    have z0 : w3.cell? ⟨g4, 0, none⟩ = some (.int .i64 k) := (blk_cell (blk_below X2.out B3.out) 0).trans rfl
    have z1 : w3.cell? ⟨g4, 1, none⟩ = some (.int .i64 x) := (blk_cell (blk_below X2.out B3.out) 1).trans rfl
    have z2 : w3.cell? ⟨g4, 2, none⟩ = some (.int .i64 t) := (blk_cell (blk_below X2.out B3.out) 2).trans rfl
    clear B1 B2 B3 X1 X2 X3 G1 G2 G3
    go_upto_region 15 with (first
      | (refine wpList_load_row rfl 41 (.tmp 2) rfl g1 rfl 41 _ (0, 0) _ HJ.out.h1 Try.underlying41 rfl info41 ?_)
      | (go_at_call 36; (with_reducible refine (ref_put (HP.out.below HJ.out.hb) HI.out HN8.out x).mono ?_); rw [← HBB.out]; rintro e w4 ⟨q0, q1, q2, q3, qs, rfl, hb, hp⟩; have B4 := Aside0.mk hb; have P4 := Aside0.mk hp; clear hb hp)
      | (refine wpList_store_row rfl 41 (.tmp 2) (.tmp 49) rfl g1 _ rfl rfl 41 _ (HJ.out.below B4.out).h1 info41 rfl P4.out.one ?_))
    try rw [← HBB.out]
    have HJ5 := Aside0.mk ((HJ.out.below B4.out).putp (q0 := q0) (q1 := q1) (q2 := q2) (q3 := q3))
    have HP5 := Aside0.mk (P4.out.boxr (cs := #[q0, q1, q2, q3]) (HJ.out.below B4.out).h1)
    clear B4 P4 HJ z0 z1 z2
    generalize w4.setRow g1 #[q0, q1, q2, q3] = w6 at *
    have HJ6 := Aside0.mk (HJ5.out.below (below_drew (Below.refl _ _)))
    have HP6 := Aside0.mk (HP5.out.below (below_drew (Below.refl _ _)))
    clear HJ5 HP5
    refine start_ (n := 6) (S := fun w' => w'.heap[g1]? = some (.cells #[q0, q1, q2, q3] 41 (0, 0))) (ds := []) #[false, false, false, false, false, false] (by kernel_rfl) rfl rfl (HJ6.out.h1) (fun hHeld => ?_)
    refine pure_ (i := 1) (N := some 70) (v := ?_) (a' := ?_) #[false, true, false, false, false, false] rfl rfl (by kernel_rfl) (fun _ _ _ h => h) (Or.inl ⟨by rfl, ?_⟩) ?_ ?_
    rotate_left
    · intro w'
      go_simp
      with_reducible rfl
    rotate_left
    · simp only [Act.put, List.setIfInBounds_toArray, List.set_cons_zero, List.set_cons_succ, i64_w, i32_w]
      rfl
    refine take_ (i := 0) (N := some 69) (v := ?_) (a' := ?_) #[true, true, false, false, false, false] rfl rfl (by kernel_rfl) (fun _ _ _ h => h) (Or.inl ⟨by rfl, ?_⟩) hHeld ?_ ?_
    rotate_left
    · intro w' s0
      (refine ex_load41 (x := .tmp 2) ?_ ?_ rfl s0 <;> rfl)
    rotate_left
    · simp only [Act.put, List.setIfInBounds_toArray, List.set_cons_zero, List.set_cons_succ, i64_w, i32_w]
      rfl
    refine one_ (i := 2) (N := some 71) #[true, true, true, false, false, false] rfl rfl (by kernel_rfl) (by decide) (fun K hK => ?_)
    refine goes_ Try.func39 (by kernel_rfl) rfl #[.bool bb] (by rfl) rfl rfl (by simp only [List.map_toArray, List.map_cons, List.map_nil]; rfl) ?_
    with_reducible refine (ref_flag _ bb).mono ?_
    rintro e w8 ⟨rfl, rfl⟩
    refine ⟨_, rfl, ?_⟩
    refine hK.out _ _ (HJ6.out.h1) (fun hHeld => ?_)
    clear hK K
    refine norm_ (a' := ?_) ?_ ?_
    rotate_left
    · show Act.put _ (some 71) _ = _
      simp only [Act.put, List.setIfInBounds_toArray, List.set_cons_zero, List.set_cons_succ, i64_w, i32_w]
      rfl
    refine one_ (i := 3) (N := none) #[true, true, true, true, false, false] rfl rfl (by kernel_rfl) (by decide) (fun K hK => ?_)
    refine skip_ (w1 := _) (by rfl) rfl (ex_store41 (x := .tmp 4) (y := .tmp 69) rfl (by first | (simp [Act.eval, Act.put]; done) | rfl) (by first | (simp [Act.eval, Act.put]; done) | rfl) HJ6.out.h2 ⟨HP6.out.r0, HP6.out.r1, HP6.out.r2, HP6.out.r3⟩) ?_
    refine hK.out _ _ (HJ6.out.res) (fun hHeld => ?_)
    clear hK K
    refine pure_ (i := 4) (N := some 5) (v := ?_) (a' := ?_) #[true, true, true, true, true, false] rfl rfl (by kernel_rfl) (fun _ _ _ h => h) (Or.inl ⟨by rfl, ?_⟩) ?_ ?_
    rotate_left
    · intro w'
      go_simp
      with_reducible rfl
    rotate_left
    · simp only [Act.put, List.setIfInBounds_toArray, List.set_cons_zero, List.set_cons_succ, i64_w, i32_w]
      rfl
    refine pure_ (i := 5) (N := some 6) (v := ?_) (a' := ?_) #[true, true, true, true, true, true] rfl rfl (by kernel_rfl) (fun _ _ _ h => h) (Or.inl ⟨by rfl, ?_⟩) ?_ ?_
    rotate_left
    · intro w'
      go_simp
      with_reducible rfl
    rotate_left
    · simp only [Act.put, List.setIfInBounds_toArray, List.set_cons_zero, List.set_cons_succ, i64_w, i32_w]
      rfl
    refine done_ (by kernel_rfl) ?_

    go_wp2
    have HF := Aside0.mk (HJ6.out.fin HP6.out)
    refine bodyPost_ret (results_ctt rfl _ _ g2 41 #[q0, q1, q2, q3] (0, 0) _ rfl HF.out.1 Try.underlying41 rfl info41) rfl (by first | exact ⟨_, _, _, _, _, rfl, HF.out.2.1, HF.out.2.2⟩ | exact ⟨_, _, _, _, rfl, HF.out.2.1, _, HF.out.2.2⟩)
  by_cases c3 : k = 3
  · rw [show doA A k x t = (leaveA A x, flagI (decide (0 ≤ on A x)), 0) from by unfold doA; rw [if_neg c0, if_neg c1, if_neg c2, if_pos c3]]
    have d0 : (k == 0) = false := beq_eq_false_iff_ne.2 c0
    have d1 : (k == 1) = false := beq_eq_false_iff_ne.2 c1
    have d2 : (k == 2) = false := beq_eq_false_iff_ne.2 c2
    have d3 : (k == 3) = true := beq_iff_eq.2 c3
    clear c0 c1 c2 c3
    obtain ⟨bb, hbb⟩ : ∃ bb, bb = decide (0 ≤ on A x) := ⟨_, rfl⟩
    rw [← hbb]
    have HBB := Aside0.mk hbb
    clear hbb
    go_enter Try.func17, Try.ntmps17
    go_upto_region 1 with (first
      | ((with_reducible refine gate_dst (N := 2) rfl ?_); refine box_event ?hg (N := 2) ?hd (cs := #[.slice A0 A.n c0, .slice A1 A.n c1, .slice A2 A.n c2, .slice A3 A.gl.length c3]) (t := 41) ?hr ?_; (case hd => rfl); (case hg => rfl); (case hr => first | (go_simp; done) | (go_simp; rfl)); intro g1 hg w1 hbox hb; have B1 := Aside0.mk hb; have G1 := Aside0.mk hg; have X1 := Aside0.mk hbox; clear hbox hb hg)
      | ((with_reducible refine gate_dst (N := 3) rfl ?_); refine box_event ?hg (N := 3) ?hd (cs := #[.int .i64 k, .int .i64 x, .int .i64 t]) (t := 28) ?hr ?_; (case hd => rfl); (case hg => rfl); (case hr => first | (go_simp; done) | (go_simp; rfl)); intro g4 hg w2 hbox hb; have B2 := Aside0.mk hb; have G2 := Aside0.mk hg; have X2 := Aside0.mk hbox; clear hbox hb hg)
      | ((with_reducible refine gate_dst (N := 4) rfl ?_); refine box_event ?hg (N := 4) ?hd (cs := #[.slice none 0 0, .slice none 0 0, .slice none 0 0, .slice none 0 0]) (t := 41) ?hr ?_; (case hd => rfl); (case hg => rfl); (case hr => first | (go_simp; done) | (go_simp; rfl)); intro g2 hg w3 hbox hb; have B3 := Aside0.mk hb; have G3 := Aside0.mk hg; have X3 := Aside0.mk hbox; clear hbox hb hg))
    have HJ := Aside0.mk (show J W w3 _ _ _ _ g1 g2 from ⟨below_step B1.out (below_step B2.out B3.out), blk_below X1.out (below_step B2.out B3.out), X3.out, by rw [G1.out]; exact Nat.le_refl _, by have h1 := B1.out.size; have h2 := B2.out.size; have h3 := G3.out; omega, by have h1 := blk_lt X1.out; have h2 := B2.out.size; have h3 := G3.out; omega⟩)
    have z0 : w3.cell? ⟨g4, 0, none⟩ = some (.int .i64 k) := (blk_cell (blk_below X2.out B3.out) 0).trans rfl
    have z1 : w3.cell? ⟨g4, 1, none⟩ = some (.int .i64 x) := (blk_cell (blk_below X2.out B3.out) 1).trans rfl
    have z2 : w3.cell? ⟨g4, 2, none⟩ = some (.int .i64 t) := (blk_cell (blk_below X2.out B3.out) 2).trans rfl
    clear B1 B2 B3 X1 X2 X3 G1 G2 G3
    go_upto_region 15 with (first
      | (refine wpList_load_row rfl 41 (.tmp 2) rfl g1 rfl 41 _ (0, 0) _ HJ.out.h1 Try.underlying41 rfl info41 ?_)
      | (go_at_call 36; (with_reducible refine (ref_leave (HP.out.below HJ.out.hb) HI.out HN8.out x).mono ?_); rw [← HBB.out]; rintro e w4 ⟨q0, q1, q2, q3, qs, rfl, hb, hp⟩; have B4 := Aside0.mk hb; have P4 := Aside0.mk hp; clear hb hp)
      | (refine wpList_store_row rfl 41 (.tmp 2) (.tmp 58) rfl g1 _ rfl rfl 41 _ (HJ.out.below B4.out).h1 info41 rfl P4.out.one ?_))
    try rw [← HBB.out]
    have HJ5 := Aside0.mk ((HJ.out.below B4.out).putp (q0 := q0) (q1 := q1) (q2 := q2) (q3 := q3))
    have HP5 := Aside0.mk (P4.out.boxr (cs := #[q0, q1, q2, q3]) (HJ.out.below B4.out).h1)
    clear B4 P4 HJ z0 z1 z2
    generalize w4.setRow g1 #[q0, q1, q2, q3] = w6 at *
    have HJ6 := Aside0.mk (HJ5.out.below (below_drew (Below.refl _ _)))
    have HP6 := Aside0.mk (HP5.out.below (below_drew (Below.refl _ _)))
    clear HJ5 HP5
    refine start_ (n := 6) (S := fun w' => w'.heap[g1]? = some (.cells #[q0, q1, q2, q3] 41 (0, 0))) (ds := []) #[false, false, false, false, false, false] (by kernel_rfl) rfl rfl (HJ6.out.h1) (fun hHeld => ?_)
    refine pure_ (i := 1) (N := some 70) (v := ?_) (a' := ?_) #[false, true, false, false, false, false] rfl rfl (by kernel_rfl) (fun _ _ _ h => h) (Or.inl ⟨by rfl, ?_⟩) ?_ ?_
    rotate_left
    · intro w'
      go_simp
      with_reducible rfl
    rotate_left
    · simp only [Act.put, List.setIfInBounds_toArray, List.set_cons_zero, List.set_cons_succ, i64_w, i32_w]
      rfl
    refine take_ (i := 0) (N := some 69) (v := ?_) (a' := ?_) #[true, true, false, false, false, false] rfl rfl (by kernel_rfl) (fun _ _ _ h => h) (Or.inl ⟨by rfl, ?_⟩) hHeld ?_ ?_
    rotate_left
    · intro w' s0
      (refine ex_load41 (x := .tmp 2) ?_ ?_ rfl s0 <;> rfl)
    rotate_left
    · simp only [Act.put, List.setIfInBounds_toArray, List.set_cons_zero, List.set_cons_succ, i64_w, i32_w]
      rfl
    refine one_ (i := 2) (N := some 71) #[true, true, true, false, false, false] rfl rfl (by kernel_rfl) (by decide) (fun K hK => ?_)
    refine goes_ Try.func39 (by kernel_rfl) rfl #[.bool bb] (by rfl) rfl rfl (by simp only [List.map_toArray, List.map_cons, List.map_nil]; rfl) ?_
    with_reducible refine (ref_flag _ bb).mono ?_
    rintro e w8 ⟨rfl, rfl⟩
    refine ⟨_, rfl, ?_⟩
    refine hK.out _ _ (HJ6.out.h1) (fun hHeld => ?_)
    clear hK K
    refine norm_ (a' := ?_) ?_ ?_
    rotate_left
    · show Act.put _ (some 71) _ = _
      simp only [Act.put, List.setIfInBounds_toArray, List.set_cons_zero, List.set_cons_succ, i64_w, i32_w]
      rfl
    refine one_ (i := 3) (N := none) #[true, true, true, true, false, false] rfl rfl (by kernel_rfl) (by decide) (fun K hK => ?_)
    refine skip_ (w1 := _) (by rfl) rfl (ex_store41 (x := .tmp 4) (y := .tmp 69) rfl (by first | (simp [Act.eval, Act.put]; done) | rfl) (by first | (simp [Act.eval, Act.put]; done) | rfl) HJ6.out.h2 ⟨HP6.out.r0, HP6.out.r1, HP6.out.r2, HP6.out.r3⟩) ?_
    refine hK.out _ _ (HJ6.out.res) (fun hHeld => ?_)
    clear hK K
    refine pure_ (i := 4) (N := some 5) (v := ?_) (a' := ?_) #[true, true, true, true, true, false] rfl rfl (by kernel_rfl) (fun _ _ _ h => h) (Or.inl ⟨by rfl, ?_⟩) ?_ ?_
    rotate_left
    · intro w'
      go_simp
      with_reducible rfl
    rotate_left
    · simp only [Act.put, List.setIfInBounds_toArray, List.set_cons_zero, List.set_cons_succ, i64_w, i32_w]
      rfl
    refine pure_ (i := 5) (N := some 6) (v := ?_) (a' := ?_) #[true, true, true, true, true, true] rfl rfl (by kernel_rfl) (fun _ _ _ h => h) (Or.inl ⟨by rfl, ?_⟩) ?_ ?_
    rotate_left
    · intro w'
      go_simp
      with_reducible rfl
    rotate_left
    · simp only [Act.put, List.setIfInBounds_toArray, List.set_cons_zero, List.set_cons_succ, i64_w, i32_w]
      rfl
    refine done_ (by kernel_rfl) ?_

    go_wp2
    have HF := Aside0.mk (HJ6.out.fin HP6.out)
    refine bodyPost_ret (results_ctt rfl _ _ g2 41 #[q0, q1, q2, q3] (0, 0) _ rfl HF.out.1 Try.underlying41 rfl info41) rfl (by first | exact ⟨_, _, _, _, _, rfl, HF.out.2.1, HF.out.2.2⟩ | exact ⟨_, _, _, _, rfl, HF.out.2.1, _, HF.out.2.2⟩)
  by_cases c4 : k = 4
  · rw [show doA A k x t = (dropA A t, flagI (!decide (wher A t = 0)), 0) from by unfold doA; rw [if_neg c0, if_neg c1, if_neg c2, if_neg c3, if_pos c4]]
    have d0 : (k == 0) = false := beq_eq_false_iff_ne.2 c0
    have d1 : (k == 1) = false := beq_eq_false_iff_ne.2 c1
    have d2 : (k == 2) = false := beq_eq_false_iff_ne.2 c2
    have d3 : (k == 3) = false := beq_eq_false_iff_ne.2 c3
    have d4 : (k == 4) = true := beq_iff_eq.2 c4
    clear c0 c1 c2 c3 c4
    obtain ⟨bb, hbb⟩ : ∃ bb, bb = (!decide (wher A t = 0)) := ⟨_, rfl⟩
    rw [← hbb]
    have HBB := Aside0.mk hbb
    clear hbb
    go_enter Try.func17, Try.ntmps17
    go_upto_region 1 with (first
      | ((with_reducible refine gate_dst (N := 2) rfl ?_); refine box_event ?hg (N := 2) ?hd (cs := #[.slice A0 A.n c0, .slice A1 A.n c1, .slice A2 A.n c2, .slice A3 A.gl.length c3]) (t := 41) ?hr ?_; (case hd => rfl); (case hg => rfl); (case hr => first | (go_simp; done) | (go_simp; rfl)); intro g1 hg w1 hbox hb; have B1 := Aside0.mk hb; have G1 := Aside0.mk hg; have X1 := Aside0.mk hbox; clear hbox hb hg)
      | ((with_reducible refine gate_dst (N := 3) rfl ?_); refine box_event ?hg (N := 3) ?hd (cs := #[.int .i64 k, .int .i64 x, .int .i64 t]) (t := 28) ?hr ?_; (case hd => rfl); (case hg => rfl); (case hr => first | (go_simp; done) | (go_simp; rfl)); intro g4 hg w2 hbox hb; have B2 := Aside0.mk hb; have G2 := Aside0.mk hg; have X2 := Aside0.mk hbox; clear hbox hb hg)
      | ((with_reducible refine gate_dst (N := 4) rfl ?_); refine box_event ?hg (N := 4) ?hd (cs := #[.slice none 0 0, .slice none 0 0, .slice none 0 0, .slice none 0 0]) (t := 41) ?hr ?_; (case hd => rfl); (case hg => rfl); (case hr => first | (go_simp; done) | (go_simp; rfl)); intro g2 hg w3 hbox hb; have B3 := Aside0.mk hb; have G3 := Aside0.mk hg; have X3 := Aside0.mk hbox; clear hbox hb hg))
    have HJ := Aside0.mk (show J W w3 _ _ _ _ g1 g2 from ⟨below_step B1.out (below_step B2.out B3.out), blk_below X1.out (below_step B2.out B3.out), X3.out, by rw [G1.out]; exact Nat.le_refl _, by have h1 := B1.out.size; have h2 := B2.out.size; have h3 := G3.out; omega, by have h1 := blk_lt X1.out; have h2 := B2.out.size; have h3 := G3.out; omega⟩)
    have z0 : w3.cell? ⟨g4, 0, none⟩ = some (.int .i64 k) := (blk_cell (blk_below X2.out B3.out) 0).trans rfl
    have z1 : w3.cell? ⟨g4, 1, none⟩ = some (.int .i64 x) := (blk_cell (blk_below X2.out B3.out) 1).trans rfl
    have z2 : w3.cell? ⟨g4, 2, none⟩ = some (.int .i64 t) := (blk_cell (blk_below X2.out B3.out) 2).trans rfl
    clear B1 B2 B3 X1 X2 X3 G1 G2 G3
    go_upto_region 15 with (first
      | (refine wpList_load_row rfl 41 (.tmp 2) rfl g1 rfl 41 _ (0, 0) _ HJ.out.h1 Try.underlying41 rfl info41 ?_)
      | (go_at_call 37; (with_reducible refine (ref_drop (HP.out.below HJ.out.hb) HI.out HN8.out t).mono ?_); rw [← HBB.out]; rintro e w4 ⟨q0, q1, q2, q3, qs, rfl, hb, hp⟩; have B4 := Aside0.mk hb; have P4 := Aside0.mk hp; clear hb hp)
      | (refine wpList_store_row rfl 41 (.tmp 2) (.tmp 67) rfl g1 _ rfl rfl 41 _ (HJ.out.below B4.out).h1 info41 rfl P4.out.one ?_))
    try rw [← HBB.out]
    have HJ5 := Aside0.mk ((HJ.out.below B4.out).putp (q0 := q0) (q1 := q1) (q2 := q2) (q3 := q3))
    have HP5 := Aside0.mk (P4.out.boxr (cs := #[q0, q1, q2, q3]) (HJ.out.below B4.out).h1)
    clear B4 P4 HJ z0 z1 z2
    generalize w4.setRow g1 #[q0, q1, q2, q3] = w6 at *
    have HJ6 := Aside0.mk (HJ5.out.below (below_drew (Below.refl _ _)))
    have HP6 := Aside0.mk (HP5.out.below (below_drew (Below.refl _ _)))
    clear HJ5 HP5
    refine start_ (n := 6) (S := fun w' => w'.heap[g1]? = some (.cells #[q0, q1, q2, q3] 41 (0, 0))) (ds := []) #[false, false, false, false, false, false] (by kernel_rfl) rfl rfl (HJ6.out.h1) (fun hHeld => ?_)
    refine pure_ (i := 1) (N := some 70) (v := ?_) (a' := ?_) #[false, true, false, false, false, false] rfl rfl (by kernel_rfl) (fun _ _ _ h => h) (Or.inl ⟨by rfl, ?_⟩) ?_ ?_
    rotate_left
    · intro w'
      go_simp
      with_reducible rfl
    rotate_left
    · simp only [Act.put, List.setIfInBounds_toArray, List.set_cons_zero, List.set_cons_succ, i64_w, i32_w]
      rfl
    refine take_ (i := 0) (N := some 69) (v := ?_) (a' := ?_) #[true, true, false, false, false, false] rfl rfl (by kernel_rfl) (fun _ _ _ h => h) (Or.inl ⟨by rfl, ?_⟩) hHeld ?_ ?_
    rotate_left
    · intro w' s0
      (refine ex_load41 (x := .tmp 2) ?_ ?_ rfl s0 <;> rfl)
    rotate_left
    · simp only [Act.put, List.setIfInBounds_toArray, List.set_cons_zero, List.set_cons_succ, i64_w, i32_w]
      rfl
    refine one_ (i := 2) (N := some 71) #[true, true, true, false, false, false] rfl rfl (by kernel_rfl) (by decide) (fun K hK => ?_)
    refine goes_ Try.func39 (by kernel_rfl) rfl #[.bool bb] (by rfl) rfl rfl (by simp only [List.map_toArray, List.map_cons, List.map_nil]; rfl) ?_
    with_reducible refine (ref_flag _ bb).mono ?_
    rintro e w8 ⟨rfl, rfl⟩
    refine ⟨_, rfl, ?_⟩
    refine hK.out _ _ (HJ6.out.h1) (fun hHeld => ?_)
    clear hK K
    refine norm_ (a' := ?_) ?_ ?_
    rotate_left
    · show Act.put _ (some 71) _ = _
      simp only [Act.put, List.setIfInBounds_toArray, List.set_cons_zero, List.set_cons_succ, i64_w, i32_w]
      rfl
    refine one_ (i := 3) (N := none) #[true, true, true, true, false, false] rfl rfl (by kernel_rfl) (by decide) (fun K hK => ?_)
    refine skip_ (w1 := _) (by rfl) rfl (ex_store41 (x := .tmp 4) (y := .tmp 69) rfl (by first | (simp [Act.eval, Act.put]; done) | rfl) (by first | (simp [Act.eval, Act.put]; done) | rfl) HJ6.out.h2 ⟨HP6.out.r0, HP6.out.r1, HP6.out.r2, HP6.out.r3⟩) ?_
    refine hK.out _ _ (HJ6.out.res) (fun hHeld => ?_)
    clear hK K
    refine pure_ (i := 4) (N := some 5) (v := ?_) (a' := ?_) #[true, true, true, true, true, false] rfl rfl (by kernel_rfl) (fun _ _ _ h => h) (Or.inl ⟨by rfl, ?_⟩) ?_ ?_
    rotate_left
    · intro w'
      go_simp
      with_reducible rfl
    rotate_left
    · simp only [Act.put, List.setIfInBounds_toArray, List.set_cons_zero, List.set_cons_succ, i64_w, i32_w]
      rfl
    refine pure_ (i := 5) (N := some 6) (v := ?_) (a' := ?_) #[true, true, true, true, true, true] rfl rfl (by kernel_rfl) (fun _ _ _ h => h) (Or.inl ⟨by rfl, ?_⟩) ?_ ?_
    rotate_left
    · intro w'
      go_simp
      with_reducible rfl
    rotate_left
    · simp only [Act.put, List.setIfInBounds_toArray, List.set_cons_zero, List.set_cons_succ, i64_w, i32_w]
      rfl
    refine done_ (by kernel_rfl) ?_

    go_wp2
    have HF := Aside0.mk (HJ6.out.fin HP6.out)
    refine bodyPost_ret (results_ctt rfl _ _ g2 41 #[q0, q1, q2, q3] (0, 0) _ rfl HF.out.1 Try.underlying41 rfl info41) rfl (by first | exact ⟨_, _, _, _, _, rfl, HF.out.2.1, HF.out.2.2⟩ | exact ⟨_, _, _, _, rfl, HF.out.2.1, _, HF.out.2.2⟩)
  rw [show doA A k x t = (workA A x, workN A x, 0) from by unfold doA; rw [if_neg c0, if_neg c1, if_neg c2, if_neg c3, if_neg c4]]
  have d0 : (k == 0) = false := beq_eq_false_iff_ne.2 c0
  have d1 : (k == 1) = false := beq_eq_false_iff_ne.2 c1
  have d2 : (k == 2) = false := beq_eq_false_iff_ne.2 c2
  have d3 : (k == 3) = false := beq_eq_false_iff_ne.2 c3
  have d4 : (k == 4) = false := beq_eq_false_iff_ne.2 c4
  clear c0 c1 c2 c3 c4
  go_enter Try.func17, Try.ntmps17
  go_upto_region 1 with (first
    | ((with_reducible refine gate_dst (N := 2) rfl ?_); refine box_event ?hg (N := 2) ?hd (cs := #[.slice A0 A.n c0, .slice A1 A.n c1, .slice A2 A.n c2, .slice A3 A.gl.length c3]) (t := 41) ?hr ?_; (case hd => rfl); (case hg => rfl); (case hr => first | (go_simp; done) | (go_simp; rfl)); intro g1 hg w1 hbox hb; have B1 := Aside0.mk hb; have G1 := Aside0.mk hg; have X1 := Aside0.mk hbox; clear hbox hb hg)
    | ((with_reducible refine gate_dst (N := 3) rfl ?_); refine box_event ?hg (N := 3) ?hd (cs := #[.int .i64 k, .int .i64 x, .int .i64 t]) (t := 28) ?hr ?_; (case hd => rfl); (case hg => rfl); (case hr => first | (go_simp; done) | (go_simp; rfl)); intro g4 hg w2 hbox hb; have B2 := Aside0.mk hb; have G2 := Aside0.mk hg; have X2 := Aside0.mk hbox; clear hbox hb hg)
    | ((with_reducible refine gate_dst (N := 4) rfl ?_); refine box_event ?hg (N := 4) ?hd (cs := #[.slice none 0 0, .slice none 0 0, .slice none 0 0, .slice none 0 0]) (t := 41) ?hr ?_; (case hd => rfl); (case hg => rfl); (case hr => first | (go_simp; done) | (go_simp; rfl)); intro g2 hg w3 hbox hb; have B3 := Aside0.mk hb; have G3 := Aside0.mk hg; have X3 := Aside0.mk hbox; clear hbox hb hg))
  have HJ := Aside0.mk (show J W w3 _ _ _ _ g1 g2 from ⟨below_step B1.out (below_step B2.out B3.out), blk_below X1.out (below_step B2.out B3.out), X3.out, by rw [G1.out]; exact Nat.le_refl _, by have h1 := B1.out.size; have h2 := B2.out.size; have h3 := G3.out; omega, by have h1 := blk_lt X1.out; have h2 := B2.out.size; have h3 := G3.out; omega⟩)
  have z0 : w3.cell? ⟨g4, 0, none⟩ = some (.int .i64 k) := (blk_cell (blk_below X2.out B3.out) 0).trans rfl
  have z1 : w3.cell? ⟨g4, 1, none⟩ = some (.int .i64 x) := (blk_cell (blk_below X2.out B3.out) 1).trans rfl
  have z2 : w3.cell? ⟨g4, 2, none⟩ = some (.int .i64 t) := (blk_cell (blk_below X2.out B3.out) 2).trans rfl
  clear B1 B2 B3 X1 X2 X3 G1 G2 G3
  go_upto_region 4 with (first
    | (refine wpList_load_row rfl 41 (.tmp 2) rfl g1 rfl 41 _ (0, 0) _ HJ.out.h1 Try.underlying41 rfl info41 ?_)
    | (go_at_call 38; (with_reducible refine (ref_work (HP.out.below HJ.out.hb) HI.out HN8.out HW.out x).mono ?_); rintro e w4 ⟨q0, q1, q2, q3, qs, rfl, hb, hp⟩; have B4 := Aside0.mk hb; have P4 := Aside0.mk hp; clear hb hp)
    | (refine wpList_store_row rfl 41 (.tmp 2) (.tmp 16) rfl g1 _ rfl rfl 41 _ (HJ.out.below B4.out).h1 info41 rfl P4.out.one ?_))
  have HJ6 := Aside0.mk ((HJ.out.below B4.out).putp (q0 := q0) (q1 := q1) (q2 := q2) (q3 := q3))
  have HP6 := Aside0.mk (P4.out.boxr (cs := #[q0, q1, q2, q3]) (HJ.out.below B4.out).h1)
  clear B4 P4 HJ z0 z1 z2
  generalize w4.setRow g1 #[q0, q1, q2, q3] = w6 at *
  go_wp2_with (first
    | (refine wpList_load_row rfl 41 (.tmp 2) rfl g1 rfl 41 _ (0, 0) _ HJ6.out.h1 Try.underlying41 rfl info41 ?_)
    | (refine wpList_store_row rfl 41 (.tmp 4) (.tmp 18) rfl g2 _ rfl rfl 41 _ HJ6.out.h2 info41 rfl HP6.out.one ?_))
  have HF := Aside0.mk (HJ6.out.fin HP6.out)
  refine bodyPost_ret (results_ctt rfl _ _ g2 41 #[q0, q1, q2, q3] (0, 0) _ rfl HF.out.1 Try.underlying41 rfl info41) rfl (by first | exact ⟨_, _, _, _, _, rfl, HF.out.2.1, HF.out.2.2⟩ | exact ⟨_, _, _, _, rfl, HF.out.2.1, _, HF.out.2.2⟩)
end
end Go.Proofs.Ytjcjhmnfknenlaa.Px
