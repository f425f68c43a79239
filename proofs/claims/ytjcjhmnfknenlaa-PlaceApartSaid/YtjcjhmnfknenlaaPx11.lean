/- The page's places: Fetch. Conditions: none. -/
import Derived.Test.YtjcjhmnfknenlaaPx10
namespace Go.Proofs.Ytjcjhmnfknenlaa.Px
open Go.RowKit Go.Proofs.Ytjcjhmnfknenlaa.PPlaceApart Go.Proofs.YtjcjhmnfknenlaaW.PrintWords Go.Proofs.YtjcjhmnfknenlaaW.PrintLast Go.Proofs.YtjcjhmnfknenlaaW.PrintMore
open Pl (kOf draws Pa Inv Ok wher on readyA readyB putA leaveA dropA workA workN fetchA allS inB doA flagI wo A0 rg sumN)
set_option linter.unusedVariables false
set_option linter.unusedSimpArgs false

section
variable {R : Nat → Prop} {W : World} {A : Pa} {u0 u1 u2 u3 : Value} {vs : Nat → Value}
theorem row_open {v : Value} {l : List Int} (h : Rw W v l) {m : Nat} (hm : l.length = m + 1) : ∃ g c, v = .slice (some ⟨g, 0, none⟩) (m + 1) c ∧ W.ownsRow 0 3 1 (.slice (some ⟨g, 0, none⟩) (m + 1) c) (m + 1) (nums .i64 l) := by
  unfold Rw at h
  rw [hm] at h
  obtain ⟨g, c, rfl⟩ := row_at h (by omega)
  exact ⟨g, c, rfl, h⟩
theorem nums_get {l : List Int} {k : Nat} (h : k < l.length) : (nums .i64 l)[k]? = some (.int .i64 (l.getD k 0)) := by simp [nums, h, List.getD_eq_getElem?_getD]
set_option maxHeartbeats 16000000 in
set_option maxRecDepth 100000 in
theorem ref_fetch (h : Pg R W A u0 u1 u2 u3 vs) (hi : Inv A) (hn : A.n ≤ 8) (x : Int) {d : Int} (wd : -9223372036854775808 ≤ d ∧ d ≤ 9223372036854775807) : Calls Try.prog 35 #[.agg #[u0, u1, u2, u3], .int .i64 x, .int .i64 d] W fun e w' => ∃ q0 q1 q2 q3 qs, e = .returned (.tuple #[.agg #[q0, q1, q2, q3], .int .i64 (fetchA A x d).2.1, .int .i64 (fetchA A x d).2.2]) ∧ Below W.heap.size W w' ∧ Pg R w' (fetchA A x d).1 q0 q1 q2 q3 qs := by
  have hu41 := Try.underlying41
  obtain ⟨b0, c0, rfl⟩ := row_at h.r0 hi.pos
  obtain ⟨b1, c1, rfl⟩ := row_at h.r1 hi.pos
  obtain ⟨b2, c2, rfl⟩ := row_at h.r2 hi.pos
  obtain ⟨Z3, c3, rfl⟩ := h.r3.open
  have HP := Aside0.mk h
  have HI := Aside0.mk hi
  have HN8 := Aside0.mk hn
  have ONE := Aside0.mk h.one
  clear h hi hn
  have HWD := Aside0.mk wd
  clear wd
  by_cases hx : x < 0
  · have d0 : decide (x < 0) = true := decide_eq_true hx
    rw [fetch_out (A := A) (x := x) (d := d) (by omega)]
    clear hx
    go_enter Try.func35, Try.ntmps35
    go_upto_region 1 with (first
      | ((with_reducible refine gate_dst (N := 3) rfl ?_); refine box_event ?hg (N := 3) ?hd (cs := #[.slice (some ⟨b0, 0, none⟩) A.n c0, .slice (some ⟨b1, 0, none⟩) A.n c1, .slice (some ⟨b2, 0, none⟩) A.n c2, .slice Z3 A.gl.length c3]) (t := 41) ?hr ?_; (case hd => rfl); (case hg => rfl); (case hr => first | (go_simp; done) | (go_simp; rfl)); intro g1 hg w1 hbox hb; have B1 := Aside0.mk hb; have G1 := Aside0.mk hg; have X1 := Aside0.mk hbox; clear hbox hb hg)
      | ((with_reducible refine gate_dst (N := 6) rfl ?_); refine box_event ?hg (N := 6) ?hd (cs := #[.slice none 0 0, .slice none 0 0, .slice none 0 0, .slice none 0 0]) (t := 41) ?hr ?_; (case hd => rfl); (case hg => rfl); (case hr => first | (go_simp; done) | (go_simp; rfl)); intro g2 hg w2 hbox hb; have B2 := Aside0.mk hb; have G2 := Aside0.mk hg; have X2 := Aside0.mk hbox; clear hbox hb hg))
    have HJ := Aside0.mk (J.mk2 (W := W) B1.out G1.out X1.out B2.out G2.out X2.out)
    clear B1 G1 X1 B2 G2 X2
    have y0 : w2.cell? ⟨g1, 0, none⟩ = some (.slice (some ⟨b0, 0, none⟩) A.n c0) := (blk_cell HJ.out.h1 0).trans rfl
    have y1 : w2.cell? ⟨g1, 1, none⟩ = some (.slice (some ⟨b1, 0, none⟩) A.n c1) := (blk_cell HJ.out.h1 1).trans rfl
    have y2 : w2.cell? ⟨g1, 2, none⟩ = some (.slice (some ⟨b2, 0, none⟩) A.n c2) := (blk_cell HJ.out.h1 2).trans rfl
    have y3 : w2.cell? ⟨g1, 3, none⟩ = some (.slice Z3 A.gl.length c3) := (blk_cell HJ.out.h1 3).trans rfl
    go_wp2_with (first | (refine wpList_load_row rfl 41 (.tmp 3) rfl g1 rfl 41 _ (0, 0) _ HJ.out.h1 Try.underlying41 rfl info41 ?_) | (refine wpList_store_row rfl 41 (.tmp 6) (.tmp 28) rfl g2 _ rfl rfl 41 _ HJ.out.h2 info41 rfl ONE.out ?_))
    refine bodyPost_ret (results_ctt rfl _ _ g2 41 #[.slice (some ⟨b0, 0, none⟩) A.n c0, .slice (some ⟨b1, 0, none⟩) A.n c1, .slice (some ⟨b2, 0, none⟩) A.n c2, .slice Z3 A.gl.length c3] (0, 0) _ rfl (HJ.out.same HP.out).1 Try.underlying41 rfl info41) rfl (by first | exact ⟨_, _, _, _, _, rfl, (HJ.out.same HP.out).2.1, (HJ.out.same HP.out).2.2⟩ | exact ⟨_, _, _, _, rfl, (HJ.out.same HP.out).2.1, _, (HJ.out.same HP.out).2.2⟩)
  by_cases hxn : (A.n : Int) ≤ x
  · have d0 : decide (x < 0) = false := decide_eq_false hx
    have d1 : decide ((A.n : Int) ≤ x) = true := decide_eq_true hxn
    rw [fetch_out (A := A) (x := x) (d := d) (by omega)]
    clear hx hxn
    go_enter Try.func35, Try.ntmps35
    go_upto_region 1 with (first
      | ((with_reducible refine gate_dst (N := 3) rfl ?_); refine box_event ?hg (N := 3) ?hd (cs := #[.slice (some ⟨b0, 0, none⟩) A.n c0, .slice (some ⟨b1, 0, none⟩) A.n c1, .slice (some ⟨b2, 0, none⟩) A.n c2, .slice Z3 A.gl.length c3]) (t := 41) ?hr ?_; (case hd => rfl); (case hg => rfl); (case hr => first | (go_simp; done) | (go_simp; rfl)); intro g1 hg w1 hbox hb; have B1 := Aside0.mk hb; have G1 := Aside0.mk hg; have X1 := Aside0.mk hbox; clear hbox hb hg)
      | ((with_reducible refine gate_dst (N := 6) rfl ?_); refine box_event ?hg (N := 6) ?hd (cs := #[.slice none 0 0, .slice none 0 0, .slice none 0 0, .slice none 0 0]) (t := 41) ?hr ?_; (case hd => rfl); (case hg => rfl); (case hr => first | (go_simp; done) | (go_simp; rfl)); intro g2 hg w2 hbox hb; have B2 := Aside0.mk hb; have G2 := Aside0.mk hg; have X2 := Aside0.mk hbox; clear hbox hb hg))
    have HJ := Aside0.mk (J.mk2 (W := W) B1.out G1.out X1.out B2.out G2.out X2.out)
    clear B1 G1 X1 B2 G2 X2
    have y0 : w2.cell? ⟨g1, 0, none⟩ = some (.slice (some ⟨b0, 0, none⟩) A.n c0) := (blk_cell HJ.out.h1 0).trans rfl
    have y1 : w2.cell? ⟨g1, 1, none⟩ = some (.slice (some ⟨b1, 0, none⟩) A.n c1) := (blk_cell HJ.out.h1 1).trans rfl
    have y2 : w2.cell? ⟨g1, 2, none⟩ = some (.slice (some ⟨b2, 0, none⟩) A.n c2) := (blk_cell HJ.out.h1 2).trans rfl
    have y3 : w2.cell? ⟨g1, 3, none⟩ = some (.slice Z3 A.gl.length c3) := (blk_cell HJ.out.h1 3).trans rfl
    go_wp2_with (first | (refine wpList_load_row rfl 41 (.tmp 3) rfl g1 rfl 41 _ (0, 0) _ HJ.out.h1 Try.underlying41 rfl info41 ?_) | (refine wpList_store_row rfl 41 (.tmp 6) (.tmp 28) rfl g2 _ rfl rfl 41 _ HJ.out.h2 info41 rfl ONE.out ?_))
    refine bodyPost_ret (results_ctt rfl _ _ g2 41 #[.slice (some ⟨b0, 0, none⟩) A.n c0, .slice (some ⟨b1, 0, none⟩) A.n c1, .slice (some ⟨b2, 0, none⟩) A.n c2, .slice Z3 A.gl.length c3] (0, 0) _ rfl (HJ.out.same HP.out).1 Try.underlying41 rfl info41) rfl (by first | exact ⟨_, _, _, _, _, rfl, (HJ.out.same HP.out).2.1, (HJ.out.same HP.out).2.2⟩ | exact ⟨_, _, _, _, rfl, (HJ.out.same HP.out).2.1, _, (HJ.out.same HP.out).2.2⟩)
  obtain ⟨i, rfl⟩ : ∃ i : Nat, x = (i : Int) := ⟨x.toNat, by omega⟩
  have HIN := Aside0.mk (show i < A.n from by omega)
  have d0 : decide ((i : Int) < 0) = false := decide_eq_false hx
  have d1 : decide ((A.n : Int) ≤ (i : Int)) = false := decide_eq_false hxn
  have d2 : decide (A.n ≤ i) = false := decide_eq_false (by omega)
  have p1 : (0 ≤ (i : Int)) = True := eq_true (by omega)
  have p2 : ((i : Int) < (A.n : Int)) = True := eq_true (by omega)
  have p3 : (i < A.n) = True := eq_true (by omega)
  clear hx hxn
  by_cases hr : ¬ A.runs i = 0
  · have d3 : decide (0 ≤ A.runs i - 1) = true := decide_eq_true (by have := (HI.out.runs i HIN.out).1; omega)
    rw [fetch_out (A := A) (x := (i : Int)) (d := d) (fun z => hr (by have := z.2.2; rwa [Int.toNat_natCast] at this))]
    clear hr
    go_enter Try.func35, Try.ntmps35
    go_upto_region 1 with (first
      | ((with_reducible refine gate_dst (N := 3) rfl ?_); refine box_event ?hg (N := 3) ?hd (cs := #[.slice (some ⟨b0, 0, none⟩) A.n c0, .slice (some ⟨b1, 0, none⟩) A.n c1, .slice (some ⟨b2, 0, none⟩) A.n c2, .slice Z3 A.gl.length c3]) (t := 41) ?hr ?_; (case hd => rfl); (case hg => rfl); (case hr => first | (go_simp; done) | (go_simp; rfl)); intro g1 hg w1 hbox hb; have B1 := Aside0.mk hb; have G1 := Aside0.mk hg; have X1 := Aside0.mk hbox; clear hbox hb hg)
      | ((with_reducible refine gate_dst (N := 6) rfl ?_); refine box_event ?hg (N := 6) ?hd (cs := #[.slice none 0 0, .slice none 0 0, .slice none 0 0, .slice none 0 0]) (t := 41) ?hr ?_; (case hd => rfl); (case hg => rfl); (case hr => first | (go_simp; done) | (go_simp; rfl)); intro g2 hg w2 hbox hb; have B2 := Aside0.mk hb; have G2 := Aside0.mk hg; have X2 := Aside0.mk hbox; clear hbox hb hg))
    have HJ := Aside0.mk (J.mk2 (W := W) B1.out G1.out X1.out B2.out G2.out X2.out)
    clear B1 G1 X1 B2 G2 X2
    have y0 : w2.cell? ⟨g1, 0, none⟩ = some (.slice (some ⟨b0, 0, none⟩) A.n c0) := (blk_cell HJ.out.h1 0).trans rfl
    have y1 : w2.cell? ⟨g1, 1, none⟩ = some (.slice (some ⟨b1, 0, none⟩) A.n c1) := (blk_cell HJ.out.h1 1).trans rfl
    have y2 : w2.cell? ⟨g1, 2, none⟩ = some (.slice (some ⟨b2, 0, none⟩) A.n c2) := (blk_cell HJ.out.h1 2).trans rfl
    have y3 : w2.cell? ⟨g1, 3, none⟩ = some (.slice Z3 A.gl.length c3) := (blk_cell HJ.out.h1 3).trans rfl
    have y4 := ((HP.out.below HJ.out.hb).at0 HIN.out).1
    generalize A.runs i - 1 = rr at *
    go_wp2_with (first | (refine wpList_load_row rfl 41 (.tmp 3) rfl g1 (by simp [Act.eval, Act.put]) 41 _ (0, 0) _ HJ.out.h1 Try.underlying41 rfl info41 ?_) | (refine wpList_store_row rfl 41 (.tmp 6) (.tmp 28) rfl g2 #[.slice (some ⟨b0, 0, none⟩) A.n c0, .slice (some ⟨b1, 0, none⟩) A.n c1, .slice (some ⟨b2, 0, none⟩) A.n c2, .slice Z3 A.gl.length c3] (by simp [Act.eval, Act.put]) (by simp [Act.eval, Act.put]) 41 _ HJ.out.h2 info41 rfl ONE.out ?_))
    refine bodyPost_ret (results_ctt rfl _ _ g2 41 #[.slice (some ⟨b0, 0, none⟩) A.n c0, .slice (some ⟨b1, 0, none⟩) A.n c1, .slice (some ⟨b2, 0, none⟩) A.n c2, .slice Z3 A.gl.length c3] (0, 0) _ rfl (HJ.out.same HP.out).1 Try.underlying41 rfl info41) rfl (by first | exact ⟨_, _, _, _, _, rfl, (HJ.out.same HP.out).2.1, (HJ.out.same HP.out).2.2⟩ | exact ⟨_, _, _, _, rfl, (HJ.out.same HP.out).2.1, _, (HJ.out.same HP.out).2.2⟩)
  replace hr : A.runs i = 0 := Classical.byContradiction hr
  have HR0 := Aside0.mk hr
  have d3 : decide (0 ≤ A.runs i - 1) = false := decide_eq_false (by omega)
  clear hr
  go_enter Try.func35, Try.ntmps35
  go_upto_region 1 with (first
    | ((with_reducible refine gate_dst (N := 3) rfl ?_); refine box_event ?hg (N := 3) ?hd (cs := #[.slice (some ⟨b0, 0, none⟩) A.n c0, .slice (some ⟨b1, 0, none⟩) A.n c1, .slice (some ⟨b2, 0, none⟩) A.n c2, .slice Z3 A.gl.length c3]) (t := 41) ?hr ?_; (case hd => rfl); (case hg => rfl); (case hr => first | (go_simp; done) | (go_simp; rfl)); intro g1 hg w1 hbox hb; have B1 := Aside0.mk hb; have G1 := Aside0.mk hg; have X1 := Aside0.mk hbox; clear hbox hb hg)
    | ((with_reducible refine gate_dst (N := 6) rfl ?_); refine box_event ?hg (N := 6) ?hd (cs := #[.slice none 0 0, .slice none 0 0, .slice none 0 0, .slice none 0 0]) (t := 41) ?hr ?_; (case hd => rfl); (case hg => rfl); (case hr => first | (go_simp; done) | (go_simp; rfl)); intro g2 hg w2 hbox hb; have B2 := Aside0.mk hb; have G2 := Aside0.mk hg; have X2 := Aside0.mk hbox; clear hbox hb hg))
  have HJ := Aside0.mk (J.mk2 (W := W) B1.out G1.out X1.out B2.out G2.out X2.out)
  clear B1 G1 X1 B2 G2 X2
  have y0 : w2.cell? ⟨g1, 0, none⟩ = some (.slice (some ⟨b0, 0, none⟩) A.n c0) := (blk_cell HJ.out.h1 0).trans rfl
  have y1 : w2.cell? ⟨g1, 1, none⟩ = some (.slice (some ⟨b1, 0, none⟩) A.n c1) := (blk_cell HJ.out.h1 1).trans rfl
  have y2 : w2.cell? ⟨g1, 2, none⟩ = some (.slice (some ⟨b2, 0, none⟩) A.n c2) := (blk_cell HJ.out.h1 2).trans rfl
  have y3 : w2.cell? ⟨g1, 3, none⟩ = some (.slice Z3 A.gl.length c3) := (blk_cell HJ.out.h1 3).trans rfl
  have y4 := ((HP.out.below HJ.out.hb).at0 HIN.out).1
  generalize A.runs i - 1 = rr at y4 d3
  go_upto_region 3 with (fail)
  clear y0 y1 y4 d3
  obtain ⟨YI, cI, hvi⟩ := (HP.out.rows i HIN.out).open
  have HVI := Aside0.mk hvi
  obtain ⟨m, hm⟩ : ∃ m, m = (A.own i).length := ⟨_, rfl⟩
  have y5 : w2.cell? ⟨b2, i, none⟩ = some (.slice YI m cI) := ((HP.out.below HJ.out.hb).at2 HIN.out).1.trans (by rw [hvi, hm])
  have HM := Aside0.mk hm
  clear hvi hm
  by_cases hm0 : 0 < m
  · obtain ⟨v, rfl⟩ : ∃ v, m = v + 1 := ⟨m - 1, by omega⟩
    clear hm0
    obtain ⟨B, hF, hS⟩ := fetch_own HI.out HIN.out HR0.out d (by have := HM.out; omega)
    rw [show (A.own i).length - 1 = v from by have := HM.out; omega] at hF hS
    obtain ⟨t, ht⟩ : ∃ t, t = (A.own i).getD v 0 := ⟨_, rfl⟩
    rw [← ht] at hF hS
    have HF := Aside0.mk hF
    have HS := Aside0.mk hS
    have HCT := Aside0.mk (show (nums .i64 (A.own i))[v]? = some (.int .i64 t) from by rw [ht]; exact nums_get (by have := HM.out; omega))
    clear hF hS ht
    obtain ⟨bi, ci, hvi, hri⟩ := row_open (HP.out.rows i HIN.out) HM.out.symm
    have hq := HVI.out.symm.trans hvi
    rw [← HM.out] at hq
    injection hq with hq1 hq2 hq3
    subst hq1 hq3
    have HRI := Aside0.mk hri
    clear hri hvi hq2
    have d6 : decide ((0 : Int) < (v : Int) + 1) = true := decide_eq_true (by omega)
    have ew1 : IntKind.i64.wrap (v : Int) = (v : Int) := by rw [i64_w]; have := Inv.own_le HI.out HIN.out; have := HM.out; unfold wrap64; omega
    have p4 : ((v : Int) < (v : Int) + 1) = True := eq_true (by omega)
    go_upto_region 5 with (fail)
    clear y2 y3 y5 d6
    have HJD := Aside0.mk (HJ.out.below (below_drew (Below.refl _ _)))
    refine start_ (n := 18) (S := fun w' => w'.heap[g1]? = some (.cells #[.slice (some ⟨b0, 0, none⟩) A.n c0, .slice (some ⟨b1, 0, none⟩) A.n c1, .slice (some ⟨b2, 0, none⟩) A.n c2, .slice Z3 A.gl.length c3] 41 (0, 0)) ∧ w'.cell? ⟨bi, v, none⟩ = some (.int .i64 t)) (ds := []) #[false, false, false, false, false, false, false, false, false, false, false, false, false, false, false, false, false, false] (by kernel_rfl) rfl rfl ⟨HJD.out.h1, (own_cell (pw_own_below HRI.out HJD.out.hb) HCT.out).1⟩ (fun hHeld => ?_)
    refine pure_ (i := 1) (N := some 38) (v := ?_) (a' := ?_) #[false, true, false, false, false, false, false, false, false, false, false, false, false, false, false, false, false, false] rfl rfl (by kernel_rfl) (fun _ _ _ h => h) (Or.inl ⟨by rfl, ?_⟩) ?_ ?_
    rotate_left
    · intro w'
      go_simp
      with_reducible rfl
    rotate_left
    · simp only [Act.put, List.setIfInBounds_toArray, List.set_cons_zero, List.set_cons_succ, i64_w, i32_w]
      rfl
    refine pure_ (i := 2) (N := some 39) (v := ?_) (a' := ?_) #[false, true, true, false, false, false, false, false, false, false, false, false, false, false, false, false, false, false] rfl rfl (by kernel_rfl) (fun _ _ _ h => h) (Or.inl ⟨by rfl, ?_⟩) ?_ ?_
    rotate_left
    · intro w'
      go_simp
      with_reducible rfl
    rotate_left
    · simp only [Act.put, List.setIfInBounds_toArray, List.set_cons_zero, List.set_cons_succ, i64_w, i32_w]
      rfl
    refine pure_ (i := 3) (N := some 40) (v := ?_) (a' := ?_) #[false, true, true, true, false, false, false, false, false, false, false, false, false, false, false, false, false, false] rfl rfl (by kernel_rfl) (fun _ _ _ h => h) (Or.inl ⟨by rfl, ?_⟩) ?_ ?_
    rotate_left
    · intro w'
      go_simp
      with_reducible rfl
    rotate_left
    · simp only [Act.put, List.setIfInBounds_toArray, List.set_cons_zero, List.set_cons_succ, i64_w, i32_w]
      rfl
    refine pure_ (i := 4) (N := some 41) (v := ?_) (a' := ?_) #[false, true, true, true, true, false, false, false, false, false, false, false, false, false, false, false, false, false] rfl rfl (by kernel_rfl) (fun _ _ _ h => h) (Or.inl ⟨by rfl, ?_⟩) ?_ ?_
    rotate_left
    · intro w'
      go_simp
      with_reducible rfl
    rotate_left
    · simp only [Act.put, List.setIfInBounds_toArray, List.set_cons_zero, List.set_cons_succ, i64_w, i32_w]
      rfl
    refine pure_ (i := 5) (N := some 42) (v := ?_) (a' := ?_) #[false, true, true, true, true, true, false, false, false, false, false, false, false, false, false, false, false, false] rfl rfl (by kernel_rfl) (fun _ _ _ h => h) (Or.inl ⟨by rfl, ?_⟩) ?_ ?_
    rotate_left
    · intro w'
      go_simp
      with_reducible rfl
    rotate_left
    · simp only [Act.put, List.setIfInBounds_toArray, List.set_cons_zero, List.set_cons_succ, i64_w, i32_w]
      rfl
    refine pure_ (i := 6) (N := some 43) (v := ?_) (a' := ?_) #[false, true, true, true, true, true, true, false, false, false, false, false, false, false, false, false, false, false] rfl rfl (by kernel_rfl) (fun _ _ _ h => h) (Or.inl ⟨by rfl, ?_⟩) ?_ ?_
    rotate_left
    · intro w'
      go_simp
      with_reducible rfl
    rotate_left
    · simp only [Act.put, List.setIfInBounds_toArray, List.set_cons_zero, List.set_cons_succ, i64_w, i32_w]
      rfl
    refine pure_ (i := 9) (N := some 46) (v := ?_) (a' := ?_) #[false, true, true, true, true, true, true, false, false, true, false, false, false, false, false, false, false, false] rfl rfl (by kernel_rfl) (fun _ _ _ h => h) (Or.inl ⟨by rfl, ?_⟩) ?_ ?_
    rotate_left
    · intro w'
      go_simp
      with_reducible rfl
    rotate_left
    · simp only [Act.put, List.setIfInBounds_toArray, List.set_cons_zero, List.set_cons_succ, i64_w, i32_w]
      rfl
    refine pure_ (i := 10) (N := some 47) (v := ?_) (a' := ?_) #[false, true, true, true, true, true, true, false, false, true, true, false, false, false, false, false, false, false] rfl rfl (by kernel_rfl) (fun _ _ _ h => h) (Or.inl ⟨by rfl, ?_⟩) ?_ ?_
    rotate_left
    · intro w'
      go_simp
      with_reducible rfl
    rotate_left
    · simp only [Act.put, List.setIfInBounds_toArray, List.set_cons_zero, List.set_cons_succ, i64_w, i32_w]
      rfl
    refine pure_ (i := 11) (N := some 48) (v := ?_) (a' := ?_) #[false, true, true, true, true, true, true, false, false, true, true, true, false, false, false, false, false, false] rfl rfl (by kernel_rfl) (fun _ _ _ h => h) (Or.inl ⟨by rfl, ?_⟩) ?_ ?_
    rotate_left
    · intro w'
      go_simp
      with_reducible rfl
    rotate_left
    · simp only [Act.put, List.setIfInBounds_toArray, List.set_cons_zero, List.set_cons_succ, i64_w, i32_w]
      rfl
    refine pure_ (i := 12) (N := some 49) (v := ?_) (a' := ?_) #[false, true, true, true, true, true, true, false, false, true, true, true, true, false, false, false, false, false] rfl rfl (by kernel_rfl) (fun _ _ _ h => h) (Or.inl ⟨by rfl, ?_⟩) ?_ ?_
    rotate_left
    · intro w'
      go_simp
      with_reducible rfl
    rotate_left
    · simp only [Act.put, List.setIfInBounds_toArray, List.set_cons_zero, List.set_cons_succ, i64_w, i32_w]
      rfl
    refine pure_ (i := 13) (N := some 50) (v := ?_) (a' := ?_) #[false, true, true, true, true, true, true, false, false, true, true, true, true, true, false, false, false, false] rfl rfl (by kernel_rfl) (fun _ _ _ h => h) (Or.inl ⟨by rfl, ?_⟩) ?_ ?_
    rotate_left
    · intro w'
      go_simp
      with_reducible rfl
    rotate_left
    · simp only [Act.put, List.setIfInBounds_toArray, List.set_cons_zero, List.set_cons_succ, i64_w, i32_w]
      rfl
    refine take_ (i := 0) (N := some 37) (v := ?_) (a' := ?_) #[true, true, true, true, true, true, true, false, false, true, true, true, true, true, false, false, false, false] rfl rfl (by kernel_rfl) (fun _ _ _ h => h) (Or.inl ⟨by rfl, ?_⟩) hHeld ?_ ?_
    rotate_left
    · rintro w' ⟨s0, s1⟩
      (refine ex_load41 (x := .tmp 3) ?_ ?_ rfl s0 <;> rfl)
    rotate_left
    · simp only [Act.put, List.setIfInBounds_toArray, List.set_cons_zero, List.set_cons_succ, i64_w, i32_w]
      rfl
    refine take_ (i := 7) (N := some 44) (v := ?_) (a' := ?_) #[true, true, true, true, true, true, true, true, false, true, true, true, true, true, false, false, false, false] rfl rfl (by kernel_rfl) (fun _ _ _ h => h) (Or.inl ⟨by rfl, ?_⟩) hHeld ?_ ?_
    rotate_left
    · rintro w' ⟨s0, s1⟩
      go_simp
      with_reducible rfl
    rotate_left
    · simp only [Act.put, List.setIfInBounds_toArray, List.set_cons_zero, List.set_cons_succ, i64_w, i32_w]
      rfl
    refine take_ (i := 14) (N := some 51) (v := ?_) (a' := ?_) #[true, true, true, true, true, true, true, true, false, true, true, true, true, true, true, false, false, false] rfl rfl (by kernel_rfl) (fun _ _ _ h => h) (Or.inl ⟨by rfl, ?_⟩) hHeld ?_ ?_
    rotate_left
    · rintro w' ⟨s0, s1⟩
      go_simp
      with_reducible rfl
    rotate_left
    · simp only [Act.put, List.setIfInBounds_toArray, List.set_cons_zero, List.set_cons_succ, i64_w, i32_w]
      rfl
    refine one_ (i := 8) (N := some 45) #[true, true, true, true, true, true, true, true, true, true, true, true, true, true, true, false, false, false] rfl rfl (by kernel_rfl) (by decide) (fun K hK => ?_)
    refine goes_ Try.func52 (by kernel_rfl) rfl #[.agg #[.slice (some ⟨b0, 0, none⟩) A.n c0, .slice (some ⟨b1, 0, none⟩) A.n c1, .slice (some ⟨b2, 0, none⟩) A.n c2, .slice Z3 A.gl.length c3], .int .i64 (i : Int), .int .i64 t] (by rfl) rfl rfl (by simp only [List.map_toArray, List.map_cons, List.map_nil]; rfl) ?_
    with_reducible refine (ref_runs (HP.out.below HJD.out.hb) HI.out HN8.out HIN.out t).mono ?_
    rintro e w6 ⟨q0, q1, q2, q3, qs, rfl, hb, hp⟩
    refine ⟨_, rfl, ?_⟩
    have HB6 := Aside0.mk hb
    have HPQ := Aside0.mk hp
    clear hb hp
    have HJ6 := Aside0.mk (HJD.out.below HB6.out)
    refine hK.out _ _ ⟨HJ6.out.h1, (own_cell (pw_own_below HRI.out HJ6.out.hb) HCT.out).1⟩ (fun hHeld => ?_)
    clear hK K
    refine norm_ (a' := ?_) ?_ ?_
    rotate_left
    · show Act.put _ (some 45) _ = _
      simp only [Act.put, List.setIfInBounds_toArray, List.set_cons_zero, List.set_cons_succ, i64_w, i32_w]
      rfl
    refine one_ (i := 15) (N := none) #[true, true, true, true, true, true, true, true, true, true, true, true, true, true, true, true, false, false] rfl rfl (by kernel_rfl) (by decide) (fun K hK => ?_)
    refine skip_ (w1 := _) (by rfl) rfl (ex_store41 (x := .tmp 6) (y := .tmp 45) rfl (by first | (simp [Act.eval, Act.put]; done) | rfl) (by first | (simp [Act.eval, Act.put]; done) | rfl) HJ6.out.h2 ⟨HPQ.out.r0, HPQ.out.r1, HPQ.out.r2, HPQ.out.r3⟩) ?_
    refine hK.out _ _ ⟨HJ6.out.res, (own_cell (own_boxr (pw_own_below HRI.out HJ6.out.hb) HJ6.out.h2 (by decide)) HCT.out).1⟩ (fun hHeld => ?_)
    clear hK K
    refine pure_ (i := 16) (N := some 7) (v := ?_) (a' := ?_) #[true, true, true, true, true, true, true, true, true, true, true, true, true, true, true, true, true, false] rfl rfl (by kernel_rfl) (fun _ _ _ h => h) (Or.inl ⟨by rfl, ?_⟩) ?_ ?_
    rotate_left
    · intro w'
      go_simp
      with_reducible rfl
    rotate_left
    · simp only [Act.put, List.setIfInBounds_toArray, List.set_cons_zero, List.set_cons_succ, i64_w, i32_w]
      rfl
    refine pure_ (i := 17) (N := some 8) (v := ?_) (a' := ?_) #[true, true, true, true, true, true, true, true, true, true, true, true, true, true, true, true, true, true] rfl rfl (by kernel_rfl) (fun _ _ _ h => h) (Or.inl ⟨by rfl, ?_⟩) ?_ ?_
    rotate_left
    · intro w'
      go_simp
      with_reducible rfl
    rotate_left
    · simp only [Act.put, List.setIfInBounds_toArray, List.set_cons_zero, List.set_cons_succ, i64_w, i32_w]
      rfl
    refine done_ (by kernel_rfl) ?_

    go_wp2
    rw [HF.out]
    refine bodyPost_ret (results_ctt rfl _ _ g2 41 #[q0, q1, q2, q3] (0, 0) _ rfl (HJ6.out.fin HPQ.out).1 Try.underlying41 rfl info41) rfl (by first | exact ⟨_, _, _, _, _, rfl, (HJ6.out.fin HPQ.out).2.1, HS.out.pg (HJ6.out.fin HPQ.out).2.2⟩ | exact ⟨_, _, _, _, rfl, (HJ6.out.fin HPQ.out).2.1, _, HS.out.pg (HJ6.out.fin HPQ.out).2.2⟩)
  obtain rfl : m = 0 := by omega
  have d6 : decide ((0 : Int) < 0) = false := by decide
  go_upto_region 6 with (fail)
  clear d6 y5 hm0
  obtain ⟨m, hm⟩ : ∃ m, m = A.gl.length := ⟨_, rfl⟩
  rw [← hm] at y3
  have HM3 := Aside0.mk hm
  clear hm
  by_cases hm0 : 0 < m
  · obtain ⟨v, rfl⟩ : ∃ v, m = v + 1 := ⟨m - 1, by omega⟩
    clear hm0
    obtain ⟨B, hF, hS⟩ := fetch_gl HI.out HIN.out HR0.out d HM.out.symm (by have := HM3.out; omega)
    obtain ⟨t, ht⟩ : ∃ t, t = A.gl.getD 0 0 := ⟨_, rfl⟩
    rw [← ht] at hF hS
    have HF := Aside0.mk hF
    have HS := Aside0.mk hS
    have HCT := Aside0.mk (show (nums .i64 A.gl)[0]? = some (.int .i64 t) from by rw [ht]; exact nums_get (by have := HM3.out; omega))
    clear hF hS ht
    obtain ⟨bi, ci, hvi, hri⟩ := row_open HP.out.r3 HM3.out.symm
    rw [← HM3.out] at hvi
    injection hvi with hq1 hq2 hq3
    subst hq1 hq3
    have HRI := Aside0.mk hri
    clear hri hq2
    have d6 : decide ((0 : Int) < (v : Int) + 1) = true := decide_eq_true (by omega)
    go_upto_region 7 with (fail)
    clear y2 y3 d6
    have HJD := Aside0.mk (HJ.out.below (below_drew (Below.refl _ _)))
    have p4 : ((0 : Int) < (v : Int) + 1) = True := eq_true (by omega)
    refine start_ (n := 14) (S := fun w' => w'.heap[g1]? = some (.cells #[.slice (some ⟨b0, 0, none⟩) A.n c0, .slice (some ⟨b1, 0, none⟩) A.n c1, .slice (some ⟨b2, 0, none⟩) A.n c2, .slice (some ⟨bi, 0, none⟩) A.gl.length c3] 41 (0, 0)) ∧ w'.cell? ⟨g1, 3, none⟩ = some (.slice (some ⟨bi, 0, none⟩) (v + 1) c3) ∧ w'.cell? ⟨bi, 0, none⟩ = some (.int .i64 t)) (ds := []) #[false, false, false, false, false, false, false, false, false, false, false, false, false, false] (by kernel_rfl) rfl rfl ⟨HJD.out.h1, (blk_cell HJD.out.h1 3).trans (by show some (Value.slice _ A.gl.length c3) = _; rw [← HM3.out]), (own_cell (pw_own_below HRI.out HJD.out.hb) HCT.out).1⟩ (fun hHeld => ?_)
    refine pure_ (i := 1) (N := some 57) (v := ?_) (a' := ?_) #[false, true, false, false, false, false, false, false, false, false, false, false, false, false] rfl rfl (by kernel_rfl) (fun _ _ _ h => h) (Or.inl ⟨by rfl, ?_⟩) ?_ ?_
    rotate_left
    · intro w'
      go_simp
      with_reducible rfl
    rotate_left
    · simp only [Act.put, List.setIfInBounds_toArray, List.set_cons_zero, List.set_cons_succ, i64_w, i32_w]
      rfl
    refine pure_ (i := 2) (N := some 58) (v := ?_) (a' := ?_) #[false, true, true, false, false, false, false, false, false, false, false, false, false, false] rfl rfl (by kernel_rfl) (fun _ _ _ h => h) (Or.inl ⟨by rfl, ?_⟩) ?_ ?_
    rotate_left
    · intro w'
      go_simp
      with_reducible rfl
    rotate_left
    · simp only [Act.put, List.setIfInBounds_toArray, List.set_cons_zero, List.set_cons_succ, i64_w, i32_w]
      rfl
    refine pure_ (i := 7) (N := some 63) (v := ?_) (a' := ?_) #[false, true, true, false, false, false, false, true, false, false, false, false, false, false] rfl rfl (by kernel_rfl) (fun _ _ _ h => h) (Or.inl ⟨by rfl, ?_⟩) ?_ ?_
    rotate_left
    · intro w'
      go_simp
      with_reducible rfl
    rotate_left
    · simp only [Act.put, List.setIfInBounds_toArray, List.set_cons_zero, List.set_cons_succ, i64_w, i32_w]
      rfl
    refine take_ (i := 0) (N := some 56) (v := ?_) (a' := ?_) #[true, true, true, false, false, false, false, true, false, false, false, false, false, false] rfl rfl (by kernel_rfl) (fun _ _ _ h => h) (Or.inl ⟨by rfl, ?_⟩) hHeld ?_ ?_
    rotate_left
    · rintro w' ⟨s0, s1, s2⟩
      (refine ex_load41 (x := .tmp 3) ?_ ?_ rfl s0 <;> rfl)
    rotate_left
    · simp only [Act.put, List.setIfInBounds_toArray, List.set_cons_zero, List.set_cons_succ, i64_w, i32_w]
      rfl
    refine take_ (i := 3) (N := some 59) (v := ?_) (a' := ?_) #[true, true, true, true, false, false, false, true, false, false, false, false, false, false] rfl rfl (by kernel_rfl) (fun _ _ _ h => h) (Or.inl ⟨by rfl, ?_⟩) hHeld ?_ ?_
    rotate_left
    · rintro w' ⟨s0, s1, s2⟩
      go_simp
      with_reducible rfl
    rotate_left
    · simp only [Act.put, List.setIfInBounds_toArray, List.set_cons_zero, List.set_cons_succ, i64_w, i32_w]
      rfl
    refine pure_ (i := 4) (N := some 60) (v := ?_) (a' := ?_) #[true, true, true, true, true, false, false, true, false, false, false, false, false, false] rfl rfl (by kernel_rfl) (fun _ _ _ h => h) (Or.inl ⟨by rfl, ?_⟩) ?_ ?_
    rotate_left
    · intro w'
      go_simp
      with_reducible rfl
    rotate_left
    · simp only [Act.put, List.setIfInBounds_toArray, List.set_cons_zero, List.set_cons_succ, i64_w, i32_w]
      rfl
    refine take_ (i := 5) (N := some 61) (v := ?_) (a' := ?_) #[true, true, true, true, true, true, false, true, false, false, false, false, false, false] rfl rfl (by kernel_rfl) (fun _ _ _ h => h) (Or.inl ⟨by rfl, ?_⟩) hHeld ?_ ?_
    rotate_left
    · rintro w' ⟨s0, s1, s2⟩
      go_simp
      with_reducible rfl
    rotate_left
    · simp only [Act.put, List.setIfInBounds_toArray, List.set_cons_zero, List.set_cons_succ, i64_w, i32_w]
      rfl
    refine take_ (i := 8) (N := some 64) (v := ?_) (a' := ?_) #[true, true, true, true, true, true, false, true, true, false, false, false, false, false] rfl rfl (by kernel_rfl) (fun _ _ _ h => h) (Or.inl ⟨by rfl, ?_⟩) hHeld ?_ ?_
    rotate_left
    · rintro w' ⟨s0, s1, s2⟩
      go_simp
      with_reducible rfl
    rotate_left
    · simp only [Act.put, List.setIfInBounds_toArray, List.set_cons_zero, List.set_cons_succ, i64_w, i32_w]
      rfl
    refine pure_ (i := 9) (N := some 65) (v := ?_) (a' := ?_) #[true, true, true, true, true, true, false, true, true, true, false, false, false, false] rfl rfl (by kernel_rfl) (fun _ _ _ h => h) (Or.inl ⟨by rfl, ?_⟩) ?_ ?_
    rotate_left
    · intro w'
      go_simp
      with_reducible rfl
    rotate_left
    · simp only [Act.put, List.setIfInBounds_toArray, List.set_cons_zero, List.set_cons_succ, i64_w, i32_w]
      rfl
    refine take_ (i := 10) (N := some 66) (v := ?_) (a' := ?_) #[true, true, true, true, true, true, false, true, true, true, true, false, false, false] rfl rfl (by kernel_rfl) (fun _ _ _ h => h) (Or.inl ⟨by rfl, ?_⟩) hHeld ?_ ?_
    rotate_left
    · rintro w' ⟨s0, s1, s2⟩
      go_simp
      with_reducible rfl
    rotate_left
    · simp only [Act.put, List.setIfInBounds_toArray, List.set_cons_zero, List.set_cons_succ, i64_w, i32_w]
      rfl
    refine one_ (i := 6) (N := some 62) #[true, true, true, true, true, true, true, true, true, true, true, false, false, false] rfl rfl (by kernel_rfl) (by decide) (fun K hK => ?_)
    refine goes_ Try.func52 (by kernel_rfl) rfl #[.agg #[.slice (some ⟨b0, 0, none⟩) A.n c0, .slice (some ⟨b1, 0, none⟩) A.n c1, .slice (some ⟨b2, 0, none⟩) A.n c2, .slice (some ⟨bi, 0, none⟩) A.gl.length c3], .int .i64 (i : Int), .int .i64 t] (by rfl) rfl rfl (by simp only [List.map_toArray, List.map_cons, List.map_nil]; rfl) ?_
    with_reducible refine (ref_runs (HP.out.below HJD.out.hb) HI.out HN8.out HIN.out t).mono ?_
    rintro e w6 ⟨q0, q1, q2, q3, qs, rfl, hb, hp⟩
    refine ⟨_, rfl, ?_⟩
    have HB6 := Aside0.mk hb
    have HPQ := Aside0.mk hp
    clear hb hp
    have HJ6 := Aside0.mk (HJD.out.below HB6.out)
    refine hK.out _ _ ⟨HJ6.out.h1, (blk_cell HJ6.out.h1 3).trans (by show some (Value.slice _ A.gl.length c3) = _; rw [← HM3.out]), (own_cell (pw_own_below HRI.out HJ6.out.hb) HCT.out).1⟩ (fun hHeld => ?_)
    clear hK K
    refine norm_ (a' := ?_) ?_ ?_
    rotate_left
    · show Act.put _ (some 62) _ = _
      simp only [Act.put, List.setIfInBounds_toArray, List.set_cons_zero, List.set_cons_succ, i64_w, i32_w]
      rfl
    refine one_ (i := 11) (N := none) #[true, true, true, true, true, true, true, true, true, true, true, true, false, false] rfl rfl (by kernel_rfl) (by decide) (fun K hK => ?_)
    refine skip_ (w1 := _) (by rfl) rfl (ex_store41 (x := .tmp 6) (y := .tmp 62) rfl (by first | (simp [Act.eval, Act.put]; done) | rfl) (by first | (simp [Act.eval, Act.put]; done) | rfl) HJ6.out.h2 ⟨HPQ.out.r0, HPQ.out.r1, HPQ.out.r2, HPQ.out.r3⟩) ?_
    refine hK.out _ _ ⟨HJ6.out.res, (blk_cell HJ6.out.res 3).trans (by show some (Value.slice _ A.gl.length c3) = _; rw [← HM3.out]), (own_cell (own_boxr (pw_own_below HRI.out HJ6.out.hb) HJ6.out.h2 (by decide)) HCT.out).1⟩ (fun hHeld => ?_)
    clear hK K
    refine pure_ (i := 12) (N := some 7) (v := ?_) (a' := ?_) #[true, true, true, true, true, true, true, true, true, true, true, true, true, false] rfl rfl (by kernel_rfl) (fun _ _ _ h => h) (Or.inl ⟨by rfl, ?_⟩) ?_ ?_
    rotate_left
    · intro w'
      go_simp
      with_reducible rfl
    rotate_left
    · simp only [Act.put, List.setIfInBounds_toArray, List.set_cons_zero, List.set_cons_succ, i64_w, i32_w]
      rfl
    refine pure_ (i := 13) (N := some 8) (v := ?_) (a' := ?_) #[true, true, true, true, true, true, true, true, true, true, true, true, true, true] rfl rfl (by kernel_rfl) (fun _ _ _ h => h) (Or.inl ⟨by rfl, ?_⟩) ?_ ?_
    rotate_left
    · intro w'
      go_simp
      with_reducible rfl
    rotate_left
    · simp only [Act.put, List.setIfInBounds_toArray, List.set_cons_zero, List.set_cons_succ, i64_w, i32_w]
      rfl
    refine done_ (by kernel_rfl) ?_

    go_wp2
    rw [HF.out]
    refine bodyPost_ret (results_ctt rfl _ _ g2 41 #[q0, q1, q2, q3] (0, 0) _ rfl (HJ6.out.fin HPQ.out).1 Try.underlying41 rfl info41) rfl (by first | exact ⟨_, _, _, _, _, rfl, (HJ6.out.fin HPQ.out).2.1, HS.out.pg (HJ6.out.fin HPQ.out).2.2⟩ | exact ⟨_, _, _, _, rfl, (HJ6.out.fin HPQ.out).2.1, _, HS.out.pg (HJ6.out.fin HPQ.out).2.2⟩)
  obtain rfl : m = 0 := by omega
  have d6 : decide ((0 : Int) < 0) = false := by decide
  go_upto_region 8 with (fail)
  clear d6 y3 hm0
  obtain ⟨k, hk⟩ : ∃ k, k = kOf A d := ⟨_, rfl⟩
  have HKN := Aside0.mk (show k < A.n from by rw [hk]; exact Nat.mod_lt _ HI.out.pos)
  have HKK := Aside0.mk hk
  have HKD := Aside0.mk (show k = draws d % A.n from hk)
  have HNP := Aside0.mk HI.out.pos
  clear hk
  by_cases hd : d < 0
  · have d3 : decide (d < 0) = true := decide_eq_true hd
    have EM := Aside0.mk (show (-1 - d).tmod (A.n : Int) = (k : Int) from by
      rw [HKD.out]
      unfold draws
      rw [if_pos hd, Int.natCast_emod, Int.toNat_of_nonneg (by omega), Int.tmod_eq_emod_of_nonneg (by omega)])
    have ewd := Aside0.mk (show wrap64 (-1 - d) = -1 - d from by have := HWD.out; unfold wrap64; omega)
    clear hd
    go_upto_region 10 with (fail)
    clear d3
    try rw [ewd.out]
    obtain ⟨D, hD⟩ : ∃ D, D = -1 - d := ⟨_, rfl⟩
    rw [← hD] at EM
    try rw [← hD]
    clear hD
    have y0 : w2.cell? ⟨g1, 0, none⟩ = some (.slice (some ⟨b0, 0, none⟩) A.n c0) := (blk_cell HJ.out.h1 0).trans rfl
    have em := EM.out
    have hz : ((A.n : Int) == 0) = false := beq_eq_false_iff_ne.2 (by have := HNP.out; omega)
    have hz1 : (A.n = 0) = False := eq_false (by have := HNP.out; omega)
    have hz2 : (A.n == 0) = false := beq_eq_false_iff_ne.2 (by have := HNP.out; omega)
    go_upto_region 11 with (fail)
    clear y0 em hz hz1 hz2
    have p5 : (0 ≤ (k : Int)) = True := eq_true (by omega)
    have p6 : ((k : Int) < (A.n : Int)) = True := eq_true (by have := HKN.out; omega)
    by_cases e : k = i
    · have HF := Aside0.mk (fetch_nil HIN.out HR0.out d HM.out.symm HM3.out.symm (.inl (HKK.out.symm.trans e)))
      have d5 : (((k : Nat) : Int) != ((i : Nat) : Int)) = false := by rw [e]; simp
      clear e y2
      go_upto_region 13 with (fail)
      go_wp2_with (first | (refine wpList_load_row rfl 41 (.tmp 3) rfl g1 (by simp [Act.eval, Act.put]) 41 _ (0, 0) _ HJ.out.h1 Try.underlying41 rfl info41 ?_) | (refine wpList_store_row rfl 41 (.tmp 6) (.tmp 105) rfl g2 #[.slice (some ⟨b0, 0, none⟩) A.n c0, .slice (some ⟨b1, 0, none⟩) A.n c1, .slice (some ⟨b2, 0, none⟩) A.n c2, .slice Z3 A.gl.length c3] (by simp [Act.eval, Act.put]) (by simp [Act.eval, Act.put]) 41 _ HJ.out.h2 info41 rfl ONE.out ?_))
      rw [HF.out]
      refine bodyPost_ret (results_ctt rfl _ _ g2 41 #[.slice (some ⟨b0, 0, none⟩) A.n c0, .slice (some ⟨b1, 0, none⟩) A.n c1, .slice (some ⟨b2, 0, none⟩) A.n c2, .slice Z3 A.gl.length c3] (0, 0) _ rfl (HJ.out.same HP.out).1 Try.underlying41 rfl info41) rfl (by first | exact ⟨_, _, _, _, _, rfl, (HJ.out.same HP.out).2.1, (HJ.out.same HP.out).2.2⟩ | exact ⟨_, _, _, _, rfl, (HJ.out.same HP.out).2.1, _, (HJ.out.same HP.out).2.2⟩)
    · have d5 : (((k : Nat) : Int) != ((i : Nat) : Int)) = true := by rw [bne_iff_ne]; omega
      have HNE := Aside0.mk e
      clear e
      obtain ⟨YK, cK, hvk⟩ := (HP.out.rows k HKN.out).open
      have HVK0 := Aside0.mk hvk
      obtain ⟨m, hm⟩ : ∃ m, m = (A.own k).length := ⟨_, rfl⟩
      have y5 : w2.cell? ⟨b2, k, none⟩ = some (.slice YK m cK) := ((HP.out.below HJ.out.hb).at2 HKN.out).1.trans (by rw [hvk, hm])
      have HMK := Aside0.mk hm
      clear hvk hm
      by_cases hm0 : 0 < m
      · obtain ⟨v, rfl⟩ : ∃ v, m = v + 1 := ⟨m - 1, by omega⟩
        clear hm0
        obtain ⟨B, hF, hS⟩ := fetch_steal HI.out HIN.out HR0.out d HM.out.symm HM3.out.symm (by rw [← HKK.out]; exact HNE.out) (by rw [← HKK.out]; have := HMK.out; omega)
        rw [← HKK.out] at hF hS
        obtain ⟨t, ht⟩ : ∃ t, t = (A.own k).getD 0 0 := ⟨_, rfl⟩
        rw [← ht] at hF hS
        have HF := Aside0.mk hF
        have HS := Aside0.mk hS
        have HCT := Aside0.mk (show (nums .i64 (A.own k))[0]? = some (.int .i64 t) from by rw [ht]; exact nums_get (by have := HMK.out; omega))
        clear hF hS ht
        obtain ⟨bi, ci, hvi, hri⟩ := row_open (HP.out.rows k HKN.out) HMK.out.symm
        have HVK := Aside0.mk hvi
        have hq := HVK0.out.symm.trans hvi
        rw [← HMK.out] at hq
        injection hq with hq1 hq2 hq3
        subst hq1 hq3
        have HRI := Aside0.mk hri
        clear hri hvi hq2 HVK0
        have d6 : decide ((0 : Int) < (v : Int) + 1) = true := decide_eq_true (by omega)
        have p4 : ((0 : Int) < (v : Int) + 1) = True := eq_true (by omega)
        go_upto_region 12 with (fail)
        clear y2 y5 d5 d6
        have HJD := Aside0.mk (HJ.out.below (below_drew (Below.refl _ _)))
        refine start_ (n := 20) (S := fun w' => w'.heap[g1]? = some (.cells #[.slice (some ⟨b0, 0, none⟩) A.n c0, .slice (some ⟨b1, 0, none⟩) A.n c1, .slice (some ⟨b2, 0, none⟩) A.n c2, .slice Z3 A.gl.length c3] 41 (0, 0)) ∧ w'.cell? ⟨g1, 2, none⟩ = some (.slice (some ⟨b2, 0, none⟩) A.n c2) ∧ w'.cell? ⟨b2, k, none⟩ = some (.slice (some ⟨bi, 0, none⟩) (v + 1) cK) ∧ w'.cell? ⟨bi, 0, none⟩ = some (.int .i64 t)) (ds := []) #[false, false, false, false, false, false, false, false, false, false, false, false, false, false, false, false, false, false, false, false] (by kernel_rfl) rfl rfl ⟨HJD.out.h1, ((blk_cell HJD.out.h1 2).trans rfl), ((HP.out.below HJD.out.hb).at2 HKN.out).1.trans (by rw [HVK.out]), (own_cell (pw_own_below HRI.out HJD.out.hb) HCT.out).1⟩ (fun hHeld => ?_)
        refine pure_ (i := 1) (N := some 89) (v := ?_) (a' := ?_) #[false, true, false, false, false, false, false, false, false, false, false, false, false, false, false, false, false, false, false, false] rfl rfl (by kernel_rfl) (fun _ _ _ h => h) (Or.inl ⟨by rfl, ?_⟩) ?_ ?_
        rotate_left
        · intro w'
          go_simp
          with_reducible rfl
        rotate_left
        · simp only [Act.put, List.setIfInBounds_toArray, List.set_cons_zero, List.set_cons_succ, i64_w, i32_w]
          rfl
        refine pure_ (i := 2) (N := some 90) (v := ?_) (a' := ?_) #[false, true, true, false, false, false, false, false, false, false, false, false, false, false, false, false, false, false, false, false] rfl rfl (by kernel_rfl) (fun _ _ _ h => h) (Or.inl ⟨by rfl, ?_⟩) ?_ ?_
        rotate_left
        · intro w'
          go_simp
          with_reducible rfl
        rotate_left
        · simp only [Act.put, List.setIfInBounds_toArray, List.set_cons_zero, List.set_cons_succ, i64_w, i32_w]
          rfl
        refine pure_ (i := 4) (N := some 92) (v := ?_) (a' := ?_) #[false, true, true, false, true, false, false, false, false, false, false, false, false, false, false, false, false, false, false, false] rfl rfl (by kernel_rfl) (fun _ _ _ h => h) (Or.inl ⟨by rfl, ?_⟩) ?_ ?_
        rotate_left
        · intro w'
          go_simp
          with_reducible rfl
        rotate_left
        · simp only [Act.put, List.setIfInBounds_toArray, List.set_cons_zero, List.set_cons_succ, i64_w, i32_w]
          rfl
        refine pure_ (i := 10) (N := some 98) (v := ?_) (a' := ?_) #[false, true, true, false, true, false, false, false, false, false, true, false, false, false, false, false, false, false, false, false] rfl rfl (by kernel_rfl) (fun _ _ _ h => h) (Or.inl ⟨by rfl, ?_⟩) ?_ ?_
        rotate_left
        · intro w'
          go_simp
          with_reducible rfl
        rotate_left
        · simp only [Act.put, List.setIfInBounds_toArray, List.set_cons_zero, List.set_cons_succ, i64_w, i32_w]
          rfl
        refine pure_ (i := 12) (N := some 100) (v := ?_) (a' := ?_) #[false, true, true, false, true, false, false, false, false, false, true, false, true, false, false, false, false, false, false, false] rfl rfl (by kernel_rfl) (fun _ _ _ h => h) (Or.inl ⟨by rfl, ?_⟩) ?_ ?_
        rotate_left
        · intro w'
          go_simp
          with_reducible rfl
        rotate_left
        · simp only [Act.put, List.setIfInBounds_toArray, List.set_cons_zero, List.set_cons_succ, i64_w, i32_w]
          rfl
        refine take_ (i := 0) (N := some 88) (v := ?_) (a' := ?_) #[true, true, true, false, true, false, false, false, false, false, true, false, true, false, false, false, false, false, false, false] rfl rfl (by kernel_rfl) (fun _ _ _ h => h) (Or.inl ⟨by rfl, ?_⟩) hHeld ?_ ?_
        rotate_left
        · rintro w' ⟨s0, s1, s2, s3⟩
          (refine ex_load41 (x := .tmp 3) ?_ ?_ rfl s0 <;> rfl)
        rotate_left
        · simp only [Act.put, List.setIfInBounds_toArray, List.set_cons_zero, List.set_cons_succ, i64_w, i32_w]
          rfl
        refine take_ (i := 3) (N := some 91) (v := ?_) (a' := ?_) #[true, true, true, true, true, false, false, false, false, false, true, false, true, false, false, false, false, false, false, false] rfl rfl (by kernel_rfl) (fun _ _ _ h => h) (Or.inl ⟨by rfl, ?_⟩) hHeld ?_ ?_
        rotate_left
        · rintro w' ⟨s0, s1, s2, s3⟩
          go_simp
          with_reducible rfl
        rotate_left
        · simp only [Act.put, List.setIfInBounds_toArray, List.set_cons_zero, List.set_cons_succ, i64_w, i32_w]
          rfl
        refine pure_ (i := 5) (N := some 93) (v := ?_) (a' := ?_) #[true, true, true, true, true, true, false, false, false, false, true, false, true, false, false, false, false, false, false, false] rfl rfl (by kernel_rfl) (fun _ _ _ h => h) (Or.inl ⟨by rfl, ?_⟩) ?_ ?_
        rotate_left
        · intro w'
          go_simp
          with_reducible rfl
        rotate_left
        · simp only [Act.put, List.setIfInBounds_toArray, List.set_cons_zero, List.set_cons_succ, i64_w, i32_w]
          rfl
        refine take_ (i := 6) (N := some 94) (v := ?_) (a' := ?_) #[true, true, true, true, true, true, true, false, false, false, true, false, true, false, false, false, false, false, false, false] rfl rfl (by kernel_rfl) (fun _ _ _ h => h) (Or.inl ⟨by rfl, ?_⟩) hHeld ?_ ?_
        rotate_left
        · rintro w' ⟨s0, s1, s2, s3⟩
          go_simp
          with_reducible rfl
        rotate_left
        · simp only [Act.put, List.setIfInBounds_toArray, List.set_cons_zero, List.set_cons_succ, i64_w, i32_w]
          rfl
        refine pure_ (i := 7) (N := some 95) (v := ?_) (a' := ?_) #[true, true, true, true, true, true, true, true, false, false, true, false, true, false, false, false, false, false, false, false] rfl rfl (by kernel_rfl) (fun _ _ _ h => h) (Or.inl ⟨by rfl, ?_⟩) ?_ ?_
        rotate_left
        · intro w'
          go_simp
          with_reducible rfl
        rotate_left
        · simp only [Act.put, List.setIfInBounds_toArray, List.set_cons_zero, List.set_cons_succ, i64_w, i32_w]
          rfl
        refine take_ (i := 8) (N := some 96) (v := ?_) (a' := ?_) #[true, true, true, true, true, true, true, true, true, false, true, false, true, false, false, false, false, false, false, false] rfl rfl (by kernel_rfl) (fun _ _ _ h => h) (Or.inl ⟨by rfl, ?_⟩) hHeld ?_ ?_
        rotate_left
        · rintro w' ⟨s0, s1, s2, s3⟩
          go_simp
          with_reducible rfl
        rotate_left
        · simp only [Act.put, List.setIfInBounds_toArray, List.set_cons_zero, List.set_cons_succ, i64_w, i32_w]
          rfl
        refine take_ (i := 11) (N := some 99) (v := ?_) (a' := ?_) #[true, true, true, true, true, true, true, true, true, false, true, true, true, false, false, false, false, false, false, false] rfl rfl (by kernel_rfl) (fun _ _ _ h => h) (Or.inl ⟨by rfl, ?_⟩) hHeld ?_ ?_
        rotate_left
        · rintro w' ⟨s0, s1, s2, s3⟩
          go_simp
          with_reducible rfl
        rotate_left
        · simp only [Act.put, List.setIfInBounds_toArray, List.set_cons_zero, List.set_cons_succ, i64_w, i32_w]
          rfl
        refine pure_ (i := 13) (N := some 101) (v := ?_) (a' := ?_) #[true, true, true, true, true, true, true, true, true, false, true, true, true, true, false, false, false, false, false, false] rfl rfl (by kernel_rfl) (fun _ _ _ h => h) (Or.inl ⟨by rfl, ?_⟩) ?_ ?_
        rotate_left
        · intro w'
          go_simp
          with_reducible rfl
        rotate_left
        · simp only [Act.put, List.setIfInBounds_toArray, List.set_cons_zero, List.set_cons_succ, i64_w, i32_w]
          rfl
        refine take_ (i := 14) (N := some 102) (v := ?_) (a' := ?_) #[true, true, true, true, true, true, true, true, true, false, true, true, true, true, true, false, false, false, false, false] rfl rfl (by kernel_rfl) (fun _ _ _ h => h) (Or.inl ⟨by rfl, ?_⟩) hHeld ?_ ?_
        rotate_left
        · rintro w' ⟨s0, s1, s2, s3⟩
          go_simp
          with_reducible rfl
        rotate_left
        · simp only [Act.put, List.setIfInBounds_toArray, List.set_cons_zero, List.set_cons_succ, i64_w, i32_w]
          rfl
        refine pure_ (i := 15) (N := some 103) (v := ?_) (a' := ?_) #[true, true, true, true, true, true, true, true, true, false, true, true, true, true, true, true, false, false, false, false] rfl rfl (by kernel_rfl) (fun _ _ _ h => h) (Or.inl ⟨by rfl, ?_⟩) ?_ ?_
        rotate_left
        · intro w'
          go_simp
          with_reducible rfl
        rotate_left
        · simp only [Act.put, List.setIfInBounds_toArray, List.set_cons_zero, List.set_cons_succ, i64_w, i32_w]
          rfl
        refine take_ (i := 16) (N := some 104) (v := ?_) (a' := ?_) #[true, true, true, true, true, true, true, true, true, false, true, true, true, true, true, true, true, false, false, false] rfl rfl (by kernel_rfl) (fun _ _ _ h => h) (Or.inl ⟨by rfl, ?_⟩) hHeld ?_ ?_
        rotate_left
        · rintro w' ⟨s0, s1, s2, s3⟩
          go_simp
          with_reducible rfl
        rotate_left
        · simp only [Act.put, List.setIfInBounds_toArray, List.set_cons_zero, List.set_cons_succ, i64_w, i32_w]
          rfl
        refine one_ (i := 9) (N := some 97) #[true, true, true, true, true, true, true, true, true, true, true, true, true, true, true, true, true, false, false, false] rfl rfl (by kernel_rfl) (by decide) (fun K hK => ?_)
        refine goes_ Try.func52 (by kernel_rfl) rfl #[.agg #[.slice (some ⟨b0, 0, none⟩) A.n c0, .slice (some ⟨b1, 0, none⟩) A.n c1, .slice (some ⟨b2, 0, none⟩) A.n c2, .slice Z3 A.gl.length c3], .int .i64 (i : Int), .int .i64 t] (by rfl) rfl rfl (by simp only [List.map_toArray, List.map_cons, List.map_nil]; rfl) ?_
        with_reducible refine (ref_runs (HP.out.below HJD.out.hb) HI.out HN8.out HIN.out t).mono ?_
        rintro e w6 ⟨q0, q1, q2, q3, qs, rfl, hb, hp⟩
        refine ⟨_, rfl, ?_⟩
        have HB6 := Aside0.mk hb
        have HPQ := Aside0.mk hp
        clear hb hp
        have HJ6 := Aside0.mk (HJD.out.below HB6.out)
        refine hK.out _ _ ⟨HJ6.out.h1, ((blk_cell HJ6.out.h1 2).trans rfl), ((HP.out.below HJ6.out.hb).at2 HKN.out).1.trans (by rw [HVK.out]), (own_cell (pw_own_below HRI.out HJ6.out.hb) HCT.out).1⟩ (fun hHeld => ?_)
        clear hK K
        refine norm_ (a' := ?_) ?_ ?_
        rotate_left
        · show Act.put _ (some 97) _ = _
          simp only [Act.put, List.setIfInBounds_toArray, List.set_cons_zero, List.set_cons_succ, i64_w, i32_w]
          rfl
        refine one_ (i := 17) (N := none) #[true, true, true, true, true, true, true, true, true, true, true, true, true, true, true, true, true, true, false, false] rfl rfl (by kernel_rfl) (by decide) (fun K hK => ?_)
        refine skip_ (w1 := _) (by rfl) rfl (ex_store41 (x := .tmp 6) (y := .tmp 97) rfl (by first | (simp [Act.eval, Act.put]; done) | rfl) (by first | (simp [Act.eval, Act.put]; done) | rfl) HJ6.out.h2 ⟨HPQ.out.r0, HPQ.out.r1, HPQ.out.r2, HPQ.out.r3⟩) ?_
        refine hK.out _ _ ⟨HJ6.out.res, ((blk_cell HJ6.out.res 2).trans rfl), (((HP.out.below HJ6.out.hb).boxr HJ6.out.h2).at2 HKN.out).1.trans (by rw [HVK.out]), (own_cell (own_boxr (pw_own_below HRI.out HJ6.out.hb) HJ6.out.h2 (by decide)) HCT.out).1⟩ (fun hHeld => ?_)
        clear hK K
        refine pure_ (i := 18) (N := some 7) (v := ?_) (a' := ?_) #[true, true, true, true, true, true, true, true, true, true, true, true, true, true, true, true, true, true, true, false] rfl rfl (by kernel_rfl) (fun _ _ _ h => h) (Or.inl ⟨by rfl, ?_⟩) ?_ ?_
        rotate_left
        · intro w'
          go_simp
          with_reducible rfl
        rotate_left
        · simp only [Act.put, List.setIfInBounds_toArray, List.set_cons_zero, List.set_cons_succ, i64_w, i32_w]
          rfl
        refine pure_ (i := 19) (N := some 8) (v := ?_) (a' := ?_) #[true, true, true, true, true, true, true, true, true, true, true, true, true, true, true, true, true, true, true, true] rfl rfl (by kernel_rfl) (fun _ _ _ h => h) (Or.inl ⟨by rfl, ?_⟩) ?_ ?_
        rotate_left
        · intro w'
          go_simp
          with_reducible rfl
        rotate_left
        · simp only [Act.put, List.setIfInBounds_toArray, List.set_cons_zero, List.set_cons_succ, i64_w, i32_w]
          rfl
        refine done_ (by kernel_rfl) ?_

        go_wp2
        rw [HF.out]
        refine bodyPost_ret (results_ctt rfl _ _ g2 41 #[q0, q1, q2, q3] (0, 0) _ rfl (HJ6.out.fin HPQ.out).1 Try.underlying41 rfl info41) rfl (by first | exact ⟨_, _, _, _, _, rfl, (HJ6.out.fin HPQ.out).2.1, HS.out.pg (HJ6.out.fin HPQ.out).2.2⟩ | exact ⟨_, _, _, _, rfl, (HJ6.out.fin HPQ.out).2.1, _, HS.out.pg (HJ6.out.fin HPQ.out).2.2⟩)
      · obtain rfl : m = 0 := by omega
        have HF := Aside0.mk (fetch_nil HIN.out HR0.out d HM.out.symm HM3.out.symm (.inr (by rw [← HKK.out]; exact HMK.out.symm)))
        have d6 : decide ((0 : Int) < 0) = false := by decide
        clear hm0
        go_upto_region 13 with (fail)
        clear d5 d6 y2 y5
        go_wp2_with (first | (refine wpList_load_row rfl 41 (.tmp 3) rfl g1 (by simp [Act.eval, Act.put]) 41 _ (0, 0) _ HJ.out.h1 Try.underlying41 rfl info41 ?_) | (refine wpList_store_row rfl 41 (.tmp 6) (.tmp 105) rfl g2 #[.slice (some ⟨b0, 0, none⟩) A.n c0, .slice (some ⟨b1, 0, none⟩) A.n c1, .slice (some ⟨b2, 0, none⟩) A.n c2, .slice Z3 A.gl.length c3] (by simp [Act.eval, Act.put]) (by simp [Act.eval, Act.put]) 41 _ HJ.out.h2 info41 rfl ONE.out ?_))
        rw [HF.out]
        refine bodyPost_ret (results_ctt rfl _ _ g2 41 #[.slice (some ⟨b0, 0, none⟩) A.n c0, .slice (some ⟨b1, 0, none⟩) A.n c1, .slice (some ⟨b2, 0, none⟩) A.n c2, .slice Z3 A.gl.length c3] (0, 0) _ rfl (HJ.out.same HP.out).1 Try.underlying41 rfl info41) rfl (by first | exact ⟨_, _, _, _, _, rfl, (HJ.out.same HP.out).2.1, (HJ.out.same HP.out).2.2⟩ | exact ⟨_, _, _, _, rfl, (HJ.out.same HP.out).2.1, _, (HJ.out.same HP.out).2.2⟩)
  · have d3 : decide (d < 0) = false := decide_eq_false hd
    have EM := Aside0.mk (show d.tmod (A.n : Int) = (k : Int) from by
      rw [HKD.out]
      unfold draws
      rw [if_neg hd, Int.natCast_emod, Int.toNat_of_nonneg (by omega), Int.tmod_eq_emod_of_nonneg (by omega)])
    clear hd
    go_upto_region 10 with (fail)
    clear d3
    have y0 : w2.cell? ⟨g1, 0, none⟩ = some (.slice (some ⟨b0, 0, none⟩) A.n c0) := (blk_cell HJ.out.h1 0).trans rfl
    have em := EM.out
    have hz : ((A.n : Int) == 0) = false := beq_eq_false_iff_ne.2 (by have := HNP.out; omega)
    have hz1 : (A.n = 0) = False := eq_false (by have := HNP.out; omega)
    have hz2 : (A.n == 0) = false := beq_eq_false_iff_ne.2 (by have := HNP.out; omega)
    go_upto_region 11 with (fail)
    clear y0 em hz hz1 hz2
    have p5 : (0 ≤ (k : Int)) = True := eq_true (by omega)
    have p6 : ((k : Int) < (A.n : Int)) = True := eq_true (by have := HKN.out; omega)
    by_cases e : k = i
    · have HF := Aside0.mk (fetch_nil HIN.out HR0.out d HM.out.symm HM3.out.symm (.inl (HKK.out.symm.trans e)))
      have d5 : (((k : Nat) : Int) != ((i : Nat) : Int)) = false := by rw [e]; simp
      clear e y2
      go_upto_region 13 with (fail)
      go_wp2_with (first | (refine wpList_load_row rfl 41 (.tmp 3) rfl g1 (by simp [Act.eval, Act.put]) 41 _ (0, 0) _ HJ.out.h1 Try.underlying41 rfl info41 ?_) | (refine wpList_store_row rfl 41 (.tmp 6) (.tmp 105) rfl g2 #[.slice (some ⟨b0, 0, none⟩) A.n c0, .slice (some ⟨b1, 0, none⟩) A.n c1, .slice (some ⟨b2, 0, none⟩) A.n c2, .slice Z3 A.gl.length c3] (by simp [Act.eval, Act.put]) (by simp [Act.eval, Act.put]) 41 _ HJ.out.h2 info41 rfl ONE.out ?_))
      rw [HF.out]
      refine bodyPost_ret (results_ctt rfl _ _ g2 41 #[.slice (some ⟨b0, 0, none⟩) A.n c0, .slice (some ⟨b1, 0, none⟩) A.n c1, .slice (some ⟨b2, 0, none⟩) A.n c2, .slice Z3 A.gl.length c3] (0, 0) _ rfl (HJ.out.same HP.out).1 Try.underlying41 rfl info41) rfl (by first | exact ⟨_, _, _, _, _, rfl, (HJ.out.same HP.out).2.1, (HJ.out.same HP.out).2.2⟩ | exact ⟨_, _, _, _, rfl, (HJ.out.same HP.out).2.1, _, (HJ.out.same HP.out).2.2⟩)
    · have d5 : (((k : Nat) : Int) != ((i : Nat) : Int)) = true := by rw [bne_iff_ne]; omega
      have HNE := Aside0.mk e
      clear e
      obtain ⟨YK, cK, hvk⟩ := (HP.out.rows k HKN.out).open
      have HVK0 := Aside0.mk hvk
      obtain ⟨m, hm⟩ : ∃ m, m = (A.own k).length := ⟨_, rfl⟩
      have y5 : w2.cell? ⟨b2, k, none⟩ = some (.slice YK m cK) := ((HP.out.below HJ.out.hb).at2 HKN.out).1.trans (by rw [hvk, hm])
      have HMK := Aside0.mk hm
      clear hvk hm
      by_cases hm0 : 0 < m
      · obtain ⟨v, rfl⟩ : ∃ v, m = v + 1 := ⟨m - 1, by omega⟩
        clear hm0
        obtain ⟨B, hF, hS⟩ := fetch_steal HI.out HIN.out HR0.out d HM.out.symm HM3.out.symm (by rw [← HKK.out]; exact HNE.out) (by rw [← HKK.out]; have := HMK.out; omega)
        rw [← HKK.out] at hF hS
        obtain ⟨t, ht⟩ : ∃ t, t = (A.own k).getD 0 0 := ⟨_, rfl⟩
        rw [← ht] at hF hS
        have HF := Aside0.mk hF
        have HS := Aside0.mk hS
        have HCT := Aside0.mk (show (nums .i64 (A.own k))[0]? = some (.int .i64 t) from by rw [ht]; exact nums_get (by have := HMK.out; omega))
        clear hF hS ht
        obtain ⟨bi, ci, hvi, hri⟩ := row_open (HP.out.rows k HKN.out) HMK.out.symm
        have HVK := Aside0.mk hvi
        have hq := HVK0.out.symm.trans hvi
        rw [← HMK.out] at hq
        injection hq with hq1 hq2 hq3
        subst hq1 hq3
        have HRI := Aside0.mk hri
        clear hri hvi hq2 HVK0
        have d6 : decide ((0 : Int) < (v : Int) + 1) = true := decide_eq_true (by omega)
        have p4 : ((0 : Int) < (v : Int) + 1) = True := eq_true (by omega)
        go_upto_region 12 with (fail)
        clear y2 y5 d5 d6
        have HJD := Aside0.mk (HJ.out.below (below_drew (Below.refl _ _)))
        refine start_ (n := 20) (S := fun w' => w'.heap[g1]? = some (.cells #[.slice (some ⟨b0, 0, none⟩) A.n c0, .slice (some ⟨b1, 0, none⟩) A.n c1, .slice (some ⟨b2, 0, none⟩) A.n c2, .slice Z3 A.gl.length c3] 41 (0, 0)) ∧ w'.cell? ⟨g1, 2, none⟩ = some (.slice (some ⟨b2, 0, none⟩) A.n c2) ∧ w'.cell? ⟨b2, k, none⟩ = some (.slice (some ⟨bi, 0, none⟩) (v + 1) cK) ∧ w'.cell? ⟨bi, 0, none⟩ = some (.int .i64 t)) (ds := []) #[false, false, false, false, false, false, false, false, false, false, false, false, false, false, false, false, false, false, false, false] (by kernel_rfl) rfl rfl ⟨HJD.out.h1, ((blk_cell HJD.out.h1 2).trans rfl), ((HP.out.below HJD.out.hb).at2 HKN.out).1.trans (by rw [HVK.out]), (own_cell (pw_own_below HRI.out HJD.out.hb) HCT.out).1⟩ (fun hHeld => ?_)
        refine pure_ (i := 1) (N := some 89) (v := ?_) (a' := ?_) #[false, true, false, false, false, false, false, false, false, false, false, false, false, false, false, false, false, false, false, false] rfl rfl (by kernel_rfl) (fun _ _ _ h => h) (Or.inl ⟨by rfl, ?_⟩) ?_ ?_
        rotate_left
        · intro w'
          go_simp
          with_reducible rfl
        rotate_left
        · simp only [Act.put, List.setIfInBounds_toArray, List.set_cons_zero, List.set_cons_succ, i64_w, i32_w]
          rfl
        refine pure_ (i := 2) (N := some 90) (v := ?_) (a' := ?_) #[false, true, true, false, false, false, false, false, false, false, false, false, false, false, false, false, false, false, false, false] rfl rfl (by kernel_rfl) (fun _ _ _ h => h) (Or.inl ⟨by rfl, ?_⟩) ?_ ?_
        rotate_left
        · intro w'
          go_simp
          with_reducible rfl
        rotate_left
        · simp only [Act.put, List.setIfInBounds_toArray, List.set_cons_zero, List.set_cons_succ, i64_w, i32_w]
          rfl
        refine pure_ (i := 4) (N := some 92) (v := ?_) (a' := ?_) #[false, true, true, false, true, false, false, false, false, false, false, false, false, false, false, false, false, false, false, false] rfl rfl (by kernel_rfl) (fun _ _ _ h => h) (Or.inl ⟨by rfl, ?_⟩) ?_ ?_
        rotate_left
        · intro w'
          go_simp
          with_reducible rfl
        rotate_left
        · simp only [Act.put, List.setIfInBounds_toArray, List.set_cons_zero, List.set_cons_succ, i64_w, i32_w]
          rfl
        refine pure_ (i := 10) (N := some 98) (v := ?_) (a' := ?_) #[false, true, true, false, true, false, false, false, false, false, true, false, false, false, false, false, false, false, false, false] rfl rfl (by kernel_rfl) (fun _ _ _ h => h) (Or.inl ⟨by rfl, ?_⟩) ?_ ?_
        rotate_left
        · intro w'
          go_simp
          with_reducible rfl
        rotate_left
        · simp only [Act.put, List.setIfInBounds_toArray, List.set_cons_zero, List.set_cons_succ, i64_w, i32_w]
          rfl
        refine pure_ (i := 12) (N := some 100) (v := ?_) (a' := ?_) #[false, true, true, false, true, false, false, false, false, false, true, false, true, false, false, false, false, false, false, false] rfl rfl (by kernel_rfl) (fun _ _ _ h => h) (Or.inl ⟨by rfl, ?_⟩) ?_ ?_
        rotate_left
        · intro w'
          go_simp
          with_reducible rfl
        rotate_left
        · simp only [Act.put, List.setIfInBounds_toArray, List.set_cons_zero, List.set_cons_succ, i64_w, i32_w]
          rfl
        refine take_ (i := 0) (N := some 88) (v := ?_) (a' := ?_) #[true, true, true, false, true, false, false, false, false, false, true, false, true, false, false, false, false, false, false, false] rfl rfl (by kernel_rfl) (fun _ _ _ h => h) (Or.inl ⟨by rfl, ?_⟩) hHeld ?_ ?_
        rotate_left
        · rintro w' ⟨s0, s1, s2, s3⟩
          (refine ex_load41 (x := .tmp 3) ?_ ?_ rfl s0 <;> rfl)
        rotate_left
        · simp only [Act.put, List.setIfInBounds_toArray, List.set_cons_zero, List.set_cons_succ, i64_w, i32_w]
          rfl
        refine take_ (i := 3) (N := some 91) (v := ?_) (a' := ?_) #[true, true, true, true, true, false, false, false, false, false, true, false, true, false, false, false, false, false, false, false] rfl rfl (by kernel_rfl) (fun _ _ _ h => h) (Or.inl ⟨by rfl, ?_⟩) hHeld ?_ ?_
        rotate_left
        · rintro w' ⟨s0, s1, s2, s3⟩
          go_simp
          with_reducible rfl
        rotate_left
        · simp only [Act.put, List.setIfInBounds_toArray, List.set_cons_zero, List.set_cons_succ, i64_w, i32_w]
          rfl
        refine pure_ (i := 5) (N := some 93) (v := ?_) (a' := ?_) #[true, true, true, true, true, true, false, false, false, false, true, false, true, false, false, false, false, false, false, false] rfl rfl (by kernel_rfl) (fun _ _ _ h => h) (Or.inl ⟨by rfl, ?_⟩) ?_ ?_
        rotate_left
        · intro w'
          go_simp
          with_reducible rfl
        rotate_left
        · simp only [Act.put, List.setIfInBounds_toArray, List.set_cons_zero, List.set_cons_succ, i64_w, i32_w]
          rfl
        refine take_ (i := 6) (N := some 94) (v := ?_) (a' := ?_) #[true, true, true, true, true, true, true, false, false, false, true, false, true, false, false, false, false, false, false, false] rfl rfl (by kernel_rfl) (fun _ _ _ h => h) (Or.inl ⟨by rfl, ?_⟩) hHeld ?_ ?_
        rotate_left
        · rintro w' ⟨s0, s1, s2, s3⟩
          go_simp
          with_reducible rfl
        rotate_left
        · simp only [Act.put, List.setIfInBounds_toArray, List.set_cons_zero, List.set_cons_succ, i64_w, i32_w]
          rfl
        refine pure_ (i := 7) (N := some 95) (v := ?_) (a' := ?_) #[true, true, true, true, true, true, true, true, false, false, true, false, true, false, false, false, false, false, false, false] rfl rfl (by kernel_rfl) (fun _ _ _ h => h) (Or.inl ⟨by rfl, ?_⟩) ?_ ?_
        rotate_left
        · intro w'
          go_simp
          with_reducible rfl
        rotate_left
        · simp only [Act.put, List.setIfInBounds_toArray, List.set_cons_zero, List.set_cons_succ, i64_w, i32_w]
          rfl
        refine take_ (i := 8) (N := some 96) (v := ?_) (a' := ?_) #[true, true, true, true, true, true, true, true, true, false, true, false, true, false, false, false, false, false, false, false] rfl rfl (by kernel_rfl) (fun _ _ _ h => h) (Or.inl ⟨by rfl, ?_⟩) hHeld ?_ ?_
        rotate_left
        · rintro w' ⟨s0, s1, s2, s3⟩
          go_simp
          with_reducible rfl
        rotate_left
        · simp only [Act.put, List.setIfInBounds_toArray, List.set_cons_zero, List.set_cons_succ, i64_w, i32_w]
          rfl
        refine take_ (i := 11) (N := some 99) (v := ?_) (a' := ?_) #[true, true, true, true, true, true, true, true, true, false, true, true, true, false, false, false, false, false, false, false] rfl rfl (by kernel_rfl) (fun _ _ _ h => h) (Or.inl ⟨by rfl, ?_⟩) hHeld ?_ ?_
        rotate_left
        · rintro w' ⟨s0, s1, s2, s3⟩
          go_simp
          with_reducible rfl
        rotate_left
        · simp only [Act.put, List.setIfInBounds_toArray, List.set_cons_zero, List.set_cons_succ, i64_w, i32_w]
          rfl
        refine pure_ (i := 13) (N := some 101) (v := ?_) (a' := ?_) #[true, true, true, true, true, true, true, true, true, false, true, true, true, true, false, false, false, false, false, false] rfl rfl (by kernel_rfl) (fun _ _ _ h => h) (Or.inl ⟨by rfl, ?_⟩) ?_ ?_
        rotate_left
        · intro w'
          go_simp
          with_reducible rfl
        rotate_left
        · simp only [Act.put, List.setIfInBounds_toArray, List.set_cons_zero, List.set_cons_succ, i64_w, i32_w]
          rfl
        refine take_ (i := 14) (N := some 102) (v := ?_) (a' := ?_) #[true, true, true, true, true, true, true, true, true, false, true, true, true, true, true, false, false, false, false, false] rfl rfl (by kernel_rfl) (fun _ _ _ h => h) (Or.inl ⟨by rfl, ?_⟩) hHeld ?_ ?_
        rotate_left
        · rintro w' ⟨s0, s1, s2, s3⟩
          go_simp
          with_reducible rfl
        rotate_left
        · simp only [Act.put, List.setIfInBounds_toArray, List.set_cons_zero, List.set_cons_succ, i64_w, i32_w]
          rfl
        refine pure_ (i := 15) (N := some 103) (v := ?_) (a' := ?_) #[true, true, true, true, true, true, true, true, true, false, true, true, true, true, true, true, false, false, false, false] rfl rfl (by kernel_rfl) (fun _ _ _ h => h) (Or.inl ⟨by rfl, ?_⟩) ?_ ?_
        rotate_left
        · intro w'
          go_simp
          with_reducible rfl
        rotate_left
        · simp only [Act.put, List.setIfInBounds_toArray, List.set_cons_zero, List.set_cons_succ, i64_w, i32_w]
          rfl
        refine take_ (i := 16) (N := some 104) (v := ?_) (a' := ?_) #[true, true, true, true, true, true, true, true, true, false, true, true, true, true, true, true, true, false, false, false] rfl rfl (by kernel_rfl) (fun _ _ _ h => h) (Or.inl ⟨by rfl, ?_⟩) hHeld ?_ ?_
        rotate_left
        · rintro w' ⟨s0, s1, s2, s3⟩
          go_simp
          with_reducible rfl
        rotate_left
        · simp only [Act.put, List.setIfInBounds_toArray, List.set_cons_zero, List.set_cons_succ, i64_w, i32_w]
          rfl
        refine one_ (i := 9) (N := some 97) #[true, true, true, true, true, true, true, true, true, true, true, true, true, true, true, true, true, false, false, false] rfl rfl (by kernel_rfl) (by decide) (fun K hK => ?_)
        refine goes_ Try.func52 (by kernel_rfl) rfl #[.agg #[.slice (some ⟨b0, 0, none⟩) A.n c0, .slice (some ⟨b1, 0, none⟩) A.n c1, .slice (some ⟨b2, 0, none⟩) A.n c2, .slice Z3 A.gl.length c3], .int .i64 (i : Int), .int .i64 t] (by rfl) rfl rfl (by simp only [List.map_toArray, List.map_cons, List.map_nil]; rfl) ?_
        with_reducible refine (ref_runs (HP.out.below HJD.out.hb) HI.out HN8.out HIN.out t).mono ?_
        rintro e w6 ⟨q0, q1, q2, q3, qs, rfl, hb, hp⟩
        refine ⟨_, rfl, ?_⟩
        have HB6 := Aside0.mk hb
        have HPQ := Aside0.mk hp
        clear hb hp
        have HJ6 := Aside0.mk (HJD.out.below HB6.out)
        refine hK.out _ _ ⟨HJ6.out.h1, ((blk_cell HJ6.out.h1 2).trans rfl), ((HP.out.below HJ6.out.hb).at2 HKN.out).1.trans (by rw [HVK.out]), (own_cell (pw_own_below HRI.out HJ6.out.hb) HCT.out).1⟩ (fun hHeld => ?_)
        clear hK K
        refine norm_ (a' := ?_) ?_ ?_
        rotate_left
        · show Act.put _ (some 97) _ = _
          simp only [Act.put, List.setIfInBounds_toArray, List.set_cons_zero, List.set_cons_succ, i64_w, i32_w]
          rfl
        refine one_ (i := 17) (N := none) #[true, true, true, true, true, true, true, true, true, true, true, true, true, true, true, true, true, true, false, false] rfl rfl (by kernel_rfl) (by decide) (fun K hK => ?_)
        refine skip_ (w1 := _) (by rfl) rfl (ex_store41 (x := .tmp 6) (y := .tmp 97) rfl (by first | (simp [Act.eval, Act.put]; done) | rfl) (by first | (simp [Act.eval, Act.put]; done) | rfl) HJ6.out.h2 ⟨HPQ.out.r0, HPQ.out.r1, HPQ.out.r2, HPQ.out.r3⟩) ?_
        refine hK.out _ _ ⟨HJ6.out.res, ((blk_cell HJ6.out.res 2).trans rfl), (((HP.out.below HJ6.out.hb).boxr HJ6.out.h2).at2 HKN.out).1.trans (by rw [HVK.out]), (own_cell (own_boxr (pw_own_below HRI.out HJ6.out.hb) HJ6.out.h2 (by decide)) HCT.out).1⟩ (fun hHeld => ?_)
        clear hK K
        refine pure_ (i := 18) (N := some 7) (v := ?_) (a' := ?_) #[true, true, true, true, true, true, true, true, true, true, true, true, true, true, true, true, true, true, true, false] rfl rfl (by kernel_rfl) (fun _ _ _ h => h) (Or.inl ⟨by rfl, ?_⟩) ?_ ?_
        rotate_left
        · intro w'
          go_simp
          with_reducible rfl
        rotate_left
        · simp only [Act.put, List.setIfInBounds_toArray, List.set_cons_zero, List.set_cons_succ, i64_w, i32_w]
          rfl
        refine pure_ (i := 19) (N := some 8) (v := ?_) (a' := ?_) #[true, true, true, true, true, true, true, true, true, true, true, true, true, true, true, true, true, true, true, true] rfl rfl (by kernel_rfl) (fun _ _ _ h => h) (Or.inl ⟨by rfl, ?_⟩) ?_ ?_
        rotate_left
        · intro w'
          go_simp
          with_reducible rfl
        rotate_left
        · simp only [Act.put, List.setIfInBounds_toArray, List.set_cons_zero, List.set_cons_succ, i64_w, i32_w]
          rfl
        refine done_ (by kernel_rfl) ?_

        go_wp2
        rw [HF.out]
        refine bodyPost_ret (results_ctt rfl _ _ g2 41 #[q0, q1, q2, q3] (0, 0) _ rfl (HJ6.out.fin HPQ.out).1 Try.underlying41 rfl info41) rfl (by first | exact ⟨_, _, _, _, _, rfl, (HJ6.out.fin HPQ.out).2.1, HS.out.pg (HJ6.out.fin HPQ.out).2.2⟩ | exact ⟨_, _, _, _, rfl, (HJ6.out.fin HPQ.out).2.1, _, HS.out.pg (HJ6.out.fin HPQ.out).2.2⟩)
      · obtain rfl : m = 0 := by omega
        have HF := Aside0.mk (fetch_nil HIN.out HR0.out d HM.out.symm HM3.out.symm (.inr (by rw [← HKK.out]; exact HMK.out.symm)))
        have d6 : decide ((0 : Int) < 0) = false := by decide
        clear hm0
        go_upto_region 13 with (fail)
        clear d5 d6 y2 y5
        go_wp2_with (first | (refine wpList_load_row rfl 41 (.tmp 3) rfl g1 (by simp [Act.eval, Act.put]) 41 _ (0, 0) _ HJ.out.h1 Try.underlying41 rfl info41 ?_) | (refine wpList_store_row rfl 41 (.tmp 6) (.tmp 105) rfl g2 #[.slice (some ⟨b0, 0, none⟩) A.n c0, .slice (some ⟨b1, 0, none⟩) A.n c1, .slice (some ⟨b2, 0, none⟩) A.n c2, .slice Z3 A.gl.length c3] (by simp [Act.eval, Act.put]) (by simp [Act.eval, Act.put]) 41 _ HJ.out.h2 info41 rfl ONE.out ?_))
        rw [HF.out]
        refine bodyPost_ret (results_ctt rfl _ _ g2 41 #[.slice (some ⟨b0, 0, none⟩) A.n c0, .slice (some ⟨b1, 0, none⟩) A.n c1, .slice (some ⟨b2, 0, none⟩) A.n c2, .slice Z3 A.gl.length c3] (0, 0) _ rfl (HJ.out.same HP.out).1 Try.underlying41 rfl info41) rfl (by first | exact ⟨_, _, _, _, _, rfl, (HJ.out.same HP.out).2.1, (HJ.out.same HP.out).2.2⟩ | exact ⟨_, _, _, _, rfl, (HJ.out.same HP.out).2.1, _, (HJ.out.same HP.out).2.2⟩)
end
end Go.Proofs.Ytjcjhmnfknenlaa.Px
