/- The page's places: Off. Conditions: none. -/
import Derived.Test.YtjcjhmnfknenlaaPx5
namespace Go.Proofs.Ytjcjhmnfknenlaa.Px
open Go.RowKit Go.Proofs.Ytjcjhmnfknenlaa.PPlaceApart Go.Proofs.YtjcjhmnfknenlaaW.PrintWords Go.Proofs.YtjcjhmnfknenlaaW.PrintLast Go.Proofs.YtjcjhmnfknenlaaW.PrintMore
open Pl (Pa Inv Ok wher on readyA readyB putA leaveA dropA workA workN fetchA allS inB doA flagI wo A0 rg sumN)
set_option linter.unusedVariables false
set_option linter.unusedSimpArgs false

section
variable {R : Nat → Prop} {W : World} {A : Pa} {u0 u1 u2 u3 : Value} {vs : Nat → Value}
theorem put_room (h : Inv A) {i : Nat} (hi : i < A.n) (hr : 0 ≤ A.runs i - 1) : A.gl.length < 64 := by
  obtain ⟨h1, h2⟩ := h.in_runs hi hr (by omega)
  exact h.gl_room (t := (A.runs i - 1).toNat) (by have := h1.2; omega) (by rw [h2]; decide)
set_option maxHeartbeats 8000000 in
set_option maxRecDepth 100000 in
theorem ref_leave (h : Pg R W A u0 u1 u2 u3 vs) (hi : Inv A) (hn : A.n ≤ 8) (x : Int) : Calls Try.prog 36 #[.agg #[u0, u1, u2, u3], .int .i64 x, .bool false] W fun e w' => ∃ q0 q1 q2 q3 qs, e = .returned (.tuple #[.agg #[q0, q1, q2, q3], .bool (decide (0 ≤ on A x))]) ∧ Below W.heap.size W w' ∧ Pg R w' (leaveA A x) q0 q1 q2 q3 qs := by
  have hu41 := Try.underlying41
  obtain ⟨b0, c0, rfl⟩ := row_at h.r0 hi.pos
  obtain ⟨b1, c1, rfl⟩ := row_at h.r1 hi.pos
  obtain ⟨b2, c2, rfl⟩ := row_at h.r2 hi.pos
  obtain ⟨Z3, c3, rfl⟩ := h.r3.open
  have HP := Aside0.mk h
  have HI := Aside0.mk hi
  have HN8 := Aside0.mk hn
  have ONE := Aside0.mk h.one
  clear h hi hn
  by_cases hx : x < 0
  · have d0 : decide (x < 0) = true := decide_eq_true hx
    rw [decide_eq_false (show ¬ 0 ≤ on A x from by unfold on; rw [if_neg (by omega)]; decide), show leaveA A x = A from if_neg (by unfold on; rw [if_neg (by omega)]; decide)]
    clear hx
    go_enter Try.func36, Try.ntmps36
    go_upto_region 1 with (first
      | ((with_reducible refine gate_dst (N := 3) rfl ?_); refine box_event ?hg (N := 3) ?hd (cs := #[.slice (some ⟨b0, 0, none⟩) A.n c0, .slice (some ⟨b1, 0, none⟩) A.n c1, .slice (some ⟨b2, 0, none⟩) A.n c2, .slice Z3 A.gl.length c3]) (t := 41) ?hr ?_; (case hd => rfl); (case hg => rfl); (case hr => first | (go_simp; done) | (go_simp; rfl)); intro g1 hg w1 hbox hb; have B1 := Aside0.mk hb; have G1 := Aside0.mk hg; have X1 := Aside0.mk hbox; clear hbox hb hg)
      | ((with_reducible refine gate_dst (N := 6) rfl ?_); refine box_event ?hg (N := 6) ?hd (cs := #[.slice none 0 0, .slice none 0 0, .slice none 0 0, .slice none 0 0]) (t := 41) ?hr ?_; (case hd => rfl); (case hg => rfl); (case hr => first | (go_simp; done) | (go_simp; rfl)); intro g2 hg w2 hbox hb; have B2 := Aside0.mk hb; have G2 := Aside0.mk hg; have X2 := Aside0.mk hbox; clear hbox hb hg))
    have HJ := Aside0.mk (J.mk2 (W := W) B1.out G1.out X1.out B2.out G2.out X2.out)
    clear B1 G1 X1 B2 G2 X2
    have y0 : w2.cell? ⟨g1, 0, none⟩ = some (.slice (some ⟨b0, 0, none⟩) A.n c0) := (blk_cell HJ.out.h1 0).trans rfl
    have y1 : w2.cell? ⟨g1, 1, none⟩ = some (.slice (some ⟨b1, 0, none⟩) A.n c1) := (blk_cell HJ.out.h1 1).trans rfl
    have y2 : w2.cell? ⟨g1, 2, none⟩ = some (.slice (some ⟨b2, 0, none⟩) A.n c2) := (blk_cell HJ.out.h1 2).trans rfl
    have y3 : w2.cell? ⟨g1, 3, none⟩ = some (.slice Z3 A.gl.length c3) := (blk_cell HJ.out.h1 3).trans rfl
    go_wp2_with (first | (refine wpList_load_row rfl 41 (.tmp 3) rfl g1 rfl 41 _ (0, 0) _ HJ.out.h1 Try.underlying41 rfl info41 ?_) | (refine wpList_store_row rfl 41 (.tmp 6) (.tmp 26) rfl g2 _ rfl rfl 41 _ HJ.out.h2 info41 rfl ONE.out ?_))
    refine bodyPost_ret (results_ct rfl _ _ g2 41 #[.slice (some ⟨b0, 0, none⟩) A.n c0, .slice (some ⟨b1, 0, none⟩) A.n c1, .slice (some ⟨b2, 0, none⟩) A.n c2, .slice Z3 A.gl.length c3] (0, 0) _ rfl (HJ.out.same HP.out).1 Try.underlying41 rfl info41) rfl (by first | exact ⟨_, _, _, _, _, rfl, (HJ.out.same HP.out).2.1, (HJ.out.same HP.out).2.2⟩ | exact ⟨_, _, _, _, rfl, (HJ.out.same HP.out).2.1, _, (HJ.out.same HP.out).2.2⟩)
  by_cases hxn : (A.n : Int) ≤ x
  · have d0 : decide (x < 0) = false := decide_eq_false hx
    have d1 : decide ((A.n : Int) ≤ x) = true := decide_eq_true hxn
    rw [decide_eq_false (show ¬ 0 ≤ on A x from by unfold on; rw [if_neg (by omega)]; decide), show leaveA A x = A from if_neg (by unfold on; rw [if_neg (by omega)]; decide)]
    clear hx hxn
    go_enter Try.func36, Try.ntmps36
    go_upto_region 1 with (first
      | ((with_reducible refine gate_dst (N := 3) rfl ?_); refine box_event ?hg (N := 3) ?hd (cs := #[.slice (some ⟨b0, 0, none⟩) A.n c0, .slice (some ⟨b1, 0, none⟩) A.n c1, .slice (some ⟨b2, 0, none⟩) A.n c2, .slice Z3 A.gl.length c3]) (t := 41) ?hr ?_; (case hd => rfl); (case hg => rfl); (case hr => first | (go_simp; done) | (go_simp; rfl)); intro g1 hg w1 hbox hb; have B1 := Aside0.mk hb; have G1 := Aside0.mk hg; have X1 := Aside0.mk hbox; clear hbox hb hg)
      | ((with_reducible refine gate_dst (N := 6) rfl ?_); refine box_event ?hg (N := 6) ?hd (cs := #[.slice none 0 0, .slice none 0 0, .slice none 0 0, .slice none 0 0]) (t := 41) ?hr ?_; (case hd => rfl); (case hg => rfl); (case hr => first | (go_simp; done) | (go_simp; rfl)); intro g2 hg w2 hbox hb; have B2 := Aside0.mk hb; have G2 := Aside0.mk hg; have X2 := Aside0.mk hbox; clear hbox hb hg))
    have HJ := Aside0.mk (J.mk2 (W := W) B1.out G1.out X1.out B2.out G2.out X2.out)
    clear B1 G1 X1 B2 G2 X2
    have y0 : w2.cell? ⟨g1, 0, none⟩ = some (.slice (some ⟨b0, 0, none⟩) A.n c0) := (blk_cell HJ.out.h1 0).trans rfl
    have y1 : w2.cell? ⟨g1, 1, none⟩ = some (.slice (some ⟨b1, 0, none⟩) A.n c1) := (blk_cell HJ.out.h1 1).trans rfl
    have y2 : w2.cell? ⟨g1, 2, none⟩ = some (.slice (some ⟨b2, 0, none⟩) A.n c2) := (blk_cell HJ.out.h1 2).trans rfl
    have y3 : w2.cell? ⟨g1, 3, none⟩ = some (.slice Z3 A.gl.length c3) := (blk_cell HJ.out.h1 3).trans rfl
    go_wp2_with (first | (refine wpList_load_row rfl 41 (.tmp 3) rfl g1 rfl 41 _ (0, 0) _ HJ.out.h1 Try.underlying41 rfl info41 ?_) | (refine wpList_store_row rfl 41 (.tmp 6) (.tmp 26) rfl g2 _ rfl rfl 41 _ HJ.out.h2 info41 rfl ONE.out ?_))
    refine bodyPost_ret (results_ct rfl _ _ g2 41 #[.slice (some ⟨b0, 0, none⟩) A.n c0, .slice (some ⟨b1, 0, none⟩) A.n c1, .slice (some ⟨b2, 0, none⟩) A.n c2, .slice Z3 A.gl.length c3] (0, 0) _ rfl (HJ.out.same HP.out).1 Try.underlying41 rfl info41) rfl (by first | exact ⟨_, _, _, _, _, rfl, (HJ.out.same HP.out).2.1, (HJ.out.same HP.out).2.2⟩ | exact ⟨_, _, _, _, rfl, (HJ.out.same HP.out).2.1, _, (HJ.out.same HP.out).2.2⟩)
  obtain ⟨i, rfl⟩ : ∃ i : Nat, x = (i : Int) := ⟨x.toNat, by omega⟩
  have HIN := Aside0.mk (show i < A.n from by omega)
  have d0 : decide ((i : Int) < 0) = false := decide_eq_false hx
  have d1 : decide ((A.n : Int) ≤ (i : Int)) = false := decide_eq_false hxn
  have d2 : decide (A.n ≤ i) = false := decide_eq_false (by omega)
  have p1 : (0 ≤ (i : Int)) = True := eq_true (by omega)
  have p2 : ((i : Int) < (A.n : Int)) = True := eq_true (by omega)
  have p3 : (i < A.n) = True := eq_true (by omega)
  clear hx hxn
  have HON := Aside0.mk (show on A (i : Int) = A.runs i - 1 from by unfold on; rw [if_pos ⟨by omega, by have := HIN.out; omega⟩, Int.toNat_natCast])
  by_cases hr : A.runs i - 1 < 0
  · have d3 : decide (A.runs i - 1 < 0) = true := decide_eq_true hr
    rw [decide_eq_false (show ¬ 0 ≤ on A (i : Int) from by rw [HON.out]; omega), show leaveA A (i : Int) = A from if_neg (by rw [HON.out]; omega)]
    clear hr
    go_enter Try.func36, Try.ntmps36
    go_upto_region 1 with (first
      | ((with_reducible refine gate_dst (N := 3) rfl ?_); refine box_event ?hg (N := 3) ?hd (cs := #[.slice (some ⟨b0, 0, none⟩) A.n c0, .slice (some ⟨b1, 0, none⟩) A.n c1, .slice (some ⟨b2, 0, none⟩) A.n c2, .slice Z3 A.gl.length c3]) (t := 41) ?hr ?_; (case hd => rfl); (case hg => rfl); (case hr => first | (go_simp; done) | (go_simp; rfl)); intro g1 hg w1 hbox hb; have B1 := Aside0.mk hb; have G1 := Aside0.mk hg; have X1 := Aside0.mk hbox; clear hbox hb hg)
      | ((with_reducible refine gate_dst (N := 6) rfl ?_); refine box_event ?hg (N := 6) ?hd (cs := #[.slice none 0 0, .slice none 0 0, .slice none 0 0, .slice none 0 0]) (t := 41) ?hr ?_; (case hd => rfl); (case hg => rfl); (case hr => first | (go_simp; done) | (go_simp; rfl)); intro g2 hg w2 hbox hb; have B2 := Aside0.mk hb; have G2 := Aside0.mk hg; have X2 := Aside0.mk hbox; clear hbox hb hg))
    have HJ := Aside0.mk (J.mk2 (W := W) B1.out G1.out X1.out B2.out G2.out X2.out)
    clear B1 G1 X1 B2 G2 X2
    have y0 : w2.cell? ⟨g1, 0, none⟩ = some (.slice (some ⟨b0, 0, none⟩) A.n c0) := (blk_cell HJ.out.h1 0).trans rfl
    have y1 : w2.cell? ⟨g1, 1, none⟩ = some (.slice (some ⟨b1, 0, none⟩) A.n c1) := (blk_cell HJ.out.h1 1).trans rfl
    have y2 : w2.cell? ⟨g1, 2, none⟩ = some (.slice (some ⟨b2, 0, none⟩) A.n c2) := (blk_cell HJ.out.h1 2).trans rfl
    have y3 : w2.cell? ⟨g1, 3, none⟩ = some (.slice Z3 A.gl.length c3) := (blk_cell HJ.out.h1 3).trans rfl
    have y4 := ((HP.out.below HJ.out.hb).at0 HIN.out).1
    generalize A.runs i - 1 = rr at *
    go_wp2_with (first | (refine wpList_load_row rfl 41 (.tmp 3) rfl g1 rfl 41 _ (0, 0) _ HJ.out.h1 Try.underlying41 rfl info41 ?_) | (refine wpList_store_row rfl 41 (.tmp 6) (.tmp 26) rfl g2 _ rfl rfl 41 _ HJ.out.h2 info41 rfl ONE.out ?_))
    refine bodyPost_ret (results_ct rfl _ _ g2 41 #[.slice (some ⟨b0, 0, none⟩) A.n c0, .slice (some ⟨b1, 0, none⟩) A.n c1, .slice (some ⟨b2, 0, none⟩) A.n c2, .slice Z3 A.gl.length c3] (0, 0) _ rfl (HJ.out.same HP.out).1 Try.underlying41 rfl info41) rfl (by first | exact ⟨_, _, _, _, _, rfl, (HJ.out.same HP.out).2.1, (HJ.out.same HP.out).2.2⟩ | exact ⟨_, _, _, _, rfl, (HJ.out.same HP.out).2.1, _, (HJ.out.same HP.out).2.2⟩)
  · have d3 : decide (A.runs i - 1 < 0) = false := decide_eq_false hr
    have HAF := Aside0.mk (show leaveA A (i : Int) = _ from if_pos (show 0 ≤ on A (i : Int) from by rw [HON.out]; omega))
    rw [decide_eq_true (show 0 ≤ on A (i : Int) from by rw [HON.out]; omega)]
    have HR0 := Aside0.mk (show 0 ≤ A.runs i - 1 from by omega)
    clear HR0
    clear hr
    go_enter Try.func36, Try.ntmps36
    go_upto_region 1 with (first
      | ((with_reducible refine gate_dst (N := 3) rfl ?_); refine box_event ?hg (N := 3) ?hd (cs := #[.slice (some ⟨b0, 0, none⟩) A.n c0, .slice (some ⟨b1, 0, none⟩) A.n c1, .slice (some ⟨b2, 0, none⟩) A.n c2, .slice Z3 A.gl.length c3]) (t := 41) ?hr ?_; (case hd => rfl); (case hg => rfl); (case hr => first | (go_simp; done) | (go_simp; rfl)); intro g1 hg w1 hbox hb; have B1 := Aside0.mk hb; have G1 := Aside0.mk hg; have X1 := Aside0.mk hbox; clear hbox hb hg)
      | ((with_reducible refine gate_dst (N := 6) rfl ?_); refine box_event ?hg (N := 6) ?hd (cs := #[.slice none 0 0, .slice none 0 0, .slice none 0 0, .slice none 0 0]) (t := 41) ?hr ?_; (case hd => rfl); (case hg => rfl); (case hr => first | (go_simp; done) | (go_simp; rfl)); intro g2 hg w2 hbox hb; have B2 := Aside0.mk hb; have G2 := Aside0.mk hg; have X2 := Aside0.mk hbox; clear hbox hb hg))
    have HJ := Aside0.mk (J.mk2 (W := W) B1.out G1.out X1.out B2.out G2.out X2.out)
    clear B1 G1 X1 B2 G2 X2
    have y0 : w2.cell? ⟨g1, 0, none⟩ = some (.slice (some ⟨b0, 0, none⟩) A.n c0) := (blk_cell HJ.out.h1 0).trans rfl
    have y1 : w2.cell? ⟨g1, 1, none⟩ = some (.slice (some ⟨b1, 0, none⟩) A.n c1) := (blk_cell HJ.out.h1 1).trans rfl
    have y2 : w2.cell? ⟨g1, 2, none⟩ = some (.slice (some ⟨b2, 0, none⟩) A.n c2) := (blk_cell HJ.out.h1 2).trans rfl
    have y3 : w2.cell? ⟨g1, 3, none⟩ = some (.slice Z3 A.gl.length c3) := (blk_cell HJ.out.h1 3).trans rfl
    have y4 := ((HP.out.below HJ.out.hb).at0 HIN.out).1
    go_upto_region 3 with (fail)
    clear y0 y1 y2 y3 y4
    go_upto_region 4 with (first
      | (refine wpList_load_row rfl 41 (.tmp 3) rfl g1 rfl 41 _ (0, 0) _ HJ.out.h1 Try.underlying41 rfl info41 ?_)
      | (go_at_call 50; (refine (copy_pg (HP.out.below HJ.out.hb) HN8.out (Inv.gl_le HI.out)).mono ?_); rintro e w3 ⟨z0, z1, z2, z3, rfl, hb, hl⟩; obtain ⟨d0, k0, rfl⟩ := row_at hl.r0 HI.out.pos; obtain ⟨d1, k1, rfl⟩ := row_at hl.r1 HI.out.pos; obtain ⟨d2, k2, rfl⟩ := row_at hl.r2 HI.out.pos; obtain ⟨Y3, k3, rfl⟩ := hl.r3.open; have B3 := Aside0.mk hb; have L3 := Aside0.mk hl; clear hb hl)
      | ((with_reducible refine gate_dst (N := 8) rfl ?_); refine box_event ?hg (N := 8) ?hd (cs := #[.slice none 0 0, .slice none 0 0, .slice none 0 0, .slice none 0 0]) (t := 41) ?hr ?_; (case hd => rfl); (case hg => rfl); (case hr => first | (go_simp; done) | (go_simp; rfl)); intro g3 hg w4 hbox hb; have B4 := Aside0.mk hb; have G4 := Aside0.mk hg; have X4 := Aside0.mk hbox; clear hbox hb hg)
      | (refine wpList_store_row rfl 41 (.tmp 8) (.tmp 28) rfl g3 _ rfl rfl 41 _ X4.out info41 rfl L3.out.pg.one ?_))
    have HK := Aside0.mk (Kx.mk4 HP.out.up HJ.out B3.out L3.out B4.out G4.out X4.out)
    clear HJ B3 B4 G4 X4
    generalize w4.setRow g3 #[.slice (some ⟨d0, 0, none⟩) A.n k0, .slice (some ⟨d1, 0, none⟩) A.n k1, .slice (some ⟨d2, 0, none⟩) A.n k2, .slice Y3 A.gl.length k3] = w5 at *
    have HKD := Aside0.mk (HK.out.below (below_drew (Below.refl _ _)))
    have z0 : w5.cell? ⟨g3, 0, none⟩ = some (.slice (some ⟨d0, 0, none⟩) A.n k0) := (blk_cell HK.out.h3 0).trans rfl
    have zf := (HK.out.lo.pg.at0 HIN.out).2
    have zc := (HK.out.lo.pg.at0 HIN.out).1
    generalize hrr : A.runs i - 1 = rr at *
    go_upto_region 7 with (fail)
    have HK7 := Aside0.mk (HK.out.on HIN.out (-1))
    clear z0 zf zc HKD
    generalize w5.setCell ⟨d0, i, none⟩ (.int .i64 (-1)) = w6 at *
    go_wp2_with (first | (refine wpList_load_row rfl 41 (.tmp 8) rfl g3 rfl 41 _ (0, 0) _ HK7.out.h3 Try.underlying41 rfl info41 ?_) | (refine wpList_store_row rfl 41 (.tmp 6) (.tmp 43) rfl g2 _ rfl rfl 41 _ HK7.out.j.h2 info41 rfl HK7.out.lo.pg.one ?_))
    rw [HAF.out]
    refine bodyPost_ret (results_ct rfl _ _ g2 41 #[.slice (some ⟨d0, 0, none⟩) A.n k0, .slice (some ⟨d1, 0, none⟩) A.n k1, .slice (some ⟨d2, 0, none⟩) A.n k2, .slice Y3 A.gl.length k3] (0, 0) _ rfl HK7.out.done.1 Try.underlying41 rfl info41) rfl (by first | exact ⟨_, _, _, _, _, rfl, HK7.out.done.2.1, HK7.out.done.2.2.to rfl (fun j hj => by rw [Int.toNat_natCast]; rfl) (fun j hj => rfl) (fun j hj => rfl) rfl⟩ | exact ⟨_, _, _, _, rfl, HK7.out.done.2.1, _, HK7.out.done.2.2.to rfl (fun j hj => by rw [Int.toNat_natCast]; rfl) (fun j hj => rfl) (fun j hj => rfl) rfl⟩)
set_option maxHeartbeats 8000000 in
set_option maxRecDepth 100000 in
theorem ref_put (h : Pg R W A u0 u1 u2 u3 vs) (hi : Inv A) (hn : A.n ≤ 8) (x : Int) : Calls Try.prog 36 #[.agg #[u0, u1, u2, u3], .int .i64 x, .bool true] W fun e w' => ∃ q0 q1 q2 q3 qs, e = .returned (.tuple #[.agg #[q0, q1, q2, q3], .bool (decide (0 ≤ on A x))]) ∧ Below W.heap.size W w' ∧ Pg R w' (putA A x) q0 q1 q2 q3 qs := by
  have hu41 := Try.underlying41
  obtain ⟨b0, c0, rfl⟩ := row_at h.r0 hi.pos
  obtain ⟨b1, c1, rfl⟩ := row_at h.r1 hi.pos
  obtain ⟨b2, c2, rfl⟩ := row_at h.r2 hi.pos
  obtain ⟨Z3, c3, rfl⟩ := h.r3.open
  have HP := Aside0.mk h
  have HI := Aside0.mk hi
  have HN8 := Aside0.mk hn
  have ONE := Aside0.mk h.one
  clear h hi hn
  by_cases hx : x < 0
  · have d0 : decide (x < 0) = true := decide_eq_true hx
    rw [decide_eq_false (show ¬ 0 ≤ on A x from by unfold on; rw [if_neg (by omega)]; decide), show putA A x = A from if_neg (by unfold on; rw [if_neg (by omega)]; decide)]
    clear hx
    go_enter Try.func36, Try.ntmps36
    go_upto_region 1 with (first
      | ((with_reducible refine gate_dst (N := 3) rfl ?_); refine box_event ?hg (N := 3) ?hd (cs := #[.slice (some ⟨b0, 0, none⟩) A.n c0, .slice (some ⟨b1, 0, none⟩) A.n c1, .slice (some ⟨b2, 0, none⟩) A.n c2, .slice Z3 A.gl.length c3]) (t := 41) ?hr ?_; (case hd => rfl); (case hg => rfl); (case hr => first | (go_simp; done) | (go_simp; rfl)); intro g1 hg w1 hbox hb; have B1 := Aside0.mk hb; have G1 := Aside0.mk hg; have X1 := Aside0.mk hbox; clear hbox hb hg)
      | ((with_reducible refine gate_dst (N := 6) rfl ?_); refine box_event ?hg (N := 6) ?hd (cs := #[.slice none 0 0, .slice none 0 0, .slice none 0 0, .slice none 0 0]) (t := 41) ?hr ?_; (case hd => rfl); (case hg => rfl); (case hr => first | (go_simp; done) | (go_simp; rfl)); intro g2 hg w2 hbox hb; have B2 := Aside0.mk hb; have G2 := Aside0.mk hg; have X2 := Aside0.mk hbox; clear hbox hb hg))
    have HJ := Aside0.mk (J.mk2 (W := W) B1.out G1.out X1.out B2.out G2.out X2.out)
    clear B1 G1 X1 B2 G2 X2
    have y0 : w2.cell? ⟨g1, 0, none⟩ = some (.slice (some ⟨b0, 0, none⟩) A.n c0) := (blk_cell HJ.out.h1 0).trans rfl
    have y1 : w2.cell? ⟨g1, 1, none⟩ = some (.slice (some ⟨b1, 0, none⟩) A.n c1) := (blk_cell HJ.out.h1 1).trans rfl
    have y2 : w2.cell? ⟨g1, 2, none⟩ = some (.slice (some ⟨b2, 0, none⟩) A.n c2) := (blk_cell HJ.out.h1 2).trans rfl
    have y3 : w2.cell? ⟨g1, 3, none⟩ = some (.slice Z3 A.gl.length c3) := (blk_cell HJ.out.h1 3).trans rfl
    go_wp2_with (first | (refine wpList_load_row rfl 41 (.tmp 3) rfl g1 rfl 41 _ (0, 0) _ HJ.out.h1 Try.underlying41 rfl info41 ?_) | (refine wpList_store_row rfl 41 (.tmp 6) (.tmp 26) rfl g2 _ rfl rfl 41 _ HJ.out.h2 info41 rfl ONE.out ?_))
    refine bodyPost_ret (results_ct rfl _ _ g2 41 #[.slice (some ⟨b0, 0, none⟩) A.n c0, .slice (some ⟨b1, 0, none⟩) A.n c1, .slice (some ⟨b2, 0, none⟩) A.n c2, .slice Z3 A.gl.length c3] (0, 0) _ rfl (HJ.out.same HP.out).1 Try.underlying41 rfl info41) rfl (by first | exact ⟨_, _, _, _, _, rfl, (HJ.out.same HP.out).2.1, (HJ.out.same HP.out).2.2⟩ | exact ⟨_, _, _, _, rfl, (HJ.out.same HP.out).2.1, _, (HJ.out.same HP.out).2.2⟩)
  by_cases hxn : (A.n : Int) ≤ x
  · have d0 : decide (x < 0) = false := decide_eq_false hx
    have d1 : decide ((A.n : Int) ≤ x) = true := decide_eq_true hxn
    rw [decide_eq_false (show ¬ 0 ≤ on A x from by unfold on; rw [if_neg (by omega)]; decide), show putA A x = A from if_neg (by unfold on; rw [if_neg (by omega)]; decide)]
    clear hx hxn
    go_enter Try.func36, Try.ntmps36
    go_upto_region 1 with (first
      | ((with_reducible refine gate_dst (N := 3) rfl ?_); refine box_event ?hg (N := 3) ?hd (cs := #[.slice (some ⟨b0, 0, none⟩) A.n c0, .slice (some ⟨b1, 0, none⟩) A.n c1, .slice (some ⟨b2, 0, none⟩) A.n c2, .slice Z3 A.gl.length c3]) (t := 41) ?hr ?_; (case hd => rfl); (case hg => rfl); (case hr => first | (go_simp; done) | (go_simp; rfl)); intro g1 hg w1 hbox hb; have B1 := Aside0.mk hb; have G1 := Aside0.mk hg; have X1 := Aside0.mk hbox; clear hbox hb hg)
      | ((with_reducible refine gate_dst (N := 6) rfl ?_); refine box_event ?hg (N := 6) ?hd (cs := #[.slice none 0 0, .slice none 0 0, .slice none 0 0, .slice none 0 0]) (t := 41) ?hr ?_; (case hd => rfl); (case hg => rfl); (case hr => first | (go_simp; done) | (go_simp; rfl)); intro g2 hg w2 hbox hb; have B2 := Aside0.mk hb; have G2 := Aside0.mk hg; have X2 := Aside0.mk hbox; clear hbox hb hg))
    have HJ := Aside0.mk (J.mk2 (W := W) B1.out G1.out X1.out B2.out G2.out X2.out)
    clear B1 G1 X1 B2 G2 X2
    have y0 : w2.cell? ⟨g1, 0, none⟩ = some (.slice (some ⟨b0, 0, none⟩) A.n c0) := (blk_cell HJ.out.h1 0).trans rfl
    have y1 : w2.cell? ⟨g1, 1, none⟩ = some (.slice (some ⟨b1, 0, none⟩) A.n c1) := (blk_cell HJ.out.h1 1).trans rfl
    have y2 : w2.cell? ⟨g1, 2, none⟩ = some (.slice (some ⟨b2, 0, none⟩) A.n c2) := (blk_cell HJ.out.h1 2).trans rfl
    have y3 : w2.cell? ⟨g1, 3, none⟩ = some (.slice Z3 A.gl.length c3) := (blk_cell HJ.out.h1 3).trans rfl
    go_wp2_with (first | (refine wpList_load_row rfl 41 (.tmp 3) rfl g1 rfl 41 _ (0, 0) _ HJ.out.h1 Try.underlying41 rfl info41 ?_) | (refine wpList_store_row rfl 41 (.tmp 6) (.tmp 26) rfl g2 _ rfl rfl 41 _ HJ.out.h2 info41 rfl ONE.out ?_))
    refine bodyPost_ret (results_ct rfl _ _ g2 41 #[.slice (some ⟨b0, 0, none⟩) A.n c0, .slice (some ⟨b1, 0, none⟩) A.n c1, .slice (some ⟨b2, 0, none⟩) A.n c2, .slice Z3 A.gl.length c3] (0, 0) _ rfl (HJ.out.same HP.out).1 Try.underlying41 rfl info41) rfl (by first | exact ⟨_, _, _, _, _, rfl, (HJ.out.same HP.out).2.1, (HJ.out.same HP.out).2.2⟩ | exact ⟨_, _, _, _, rfl, (HJ.out.same HP.out).2.1, _, (HJ.out.same HP.out).2.2⟩)
  obtain ⟨i, rfl⟩ : ∃ i : Nat, x = (i : Int) := ⟨x.toNat, by omega⟩
  have HIN := Aside0.mk (show i < A.n from by omega)
  have d0 : decide ((i : Int) < 0) = false := decide_eq_false hx
  have d1 : decide ((A.n : Int) ≤ (i : Int)) = false := decide_eq_false hxn
  have d2 : decide (A.n ≤ i) = false := decide_eq_false (by omega)
  have p1 : (0 ≤ (i : Int)) = True := eq_true (by omega)
  have p2 : ((i : Int) < (A.n : Int)) = True := eq_true (by omega)
  have p3 : (i < A.n) = True := eq_true (by omega)
  clear hx hxn
  have HON := Aside0.mk (show on A (i : Int) = A.runs i - 1 from by unfold on; rw [if_pos ⟨by omega, by have := HIN.out; omega⟩, Int.toNat_natCast])
  by_cases hr : A.runs i - 1 < 0
  · have d3 : decide (A.runs i - 1 < 0) = true := decide_eq_true hr
    rw [decide_eq_false (show ¬ 0 ≤ on A (i : Int) from by rw [HON.out]; omega), show putA A (i : Int) = A from if_neg (by rw [HON.out]; omega)]
    clear hr
    go_enter Try.func36, Try.ntmps36
    go_upto_region 1 with (first
      | ((with_reducible refine gate_dst (N := 3) rfl ?_); refine box_event ?hg (N := 3) ?hd (cs := #[.slice (some ⟨b0, 0, none⟩) A.n c0, .slice (some ⟨b1, 0, none⟩) A.n c1, .slice (some ⟨b2, 0, none⟩) A.n c2, .slice Z3 A.gl.length c3]) (t := 41) ?hr ?_; (case hd => rfl); (case hg => rfl); (case hr => first | (go_simp; done) | (go_simp; rfl)); intro g1 hg w1 hbox hb; have B1 := Aside0.mk hb; have G1 := Aside0.mk hg; have X1 := Aside0.mk hbox; clear hbox hb hg)
      | ((with_reducible refine gate_dst (N := 6) rfl ?_); refine box_event ?hg (N := 6) ?hd (cs := #[.slice none 0 0, .slice none 0 0, .slice none 0 0, .slice none 0 0]) (t := 41) ?hr ?_; (case hd => rfl); (case hg => rfl); (case hr => first | (go_simp; done) | (go_simp; rfl)); intro g2 hg w2 hbox hb; have B2 := Aside0.mk hb; have G2 := Aside0.mk hg; have X2 := Aside0.mk hbox; clear hbox hb hg))
    have HJ := Aside0.mk (J.mk2 (W := W) B1.out G1.out X1.out B2.out G2.out X2.out)
    clear B1 G1 X1 B2 G2 X2
    have y0 : w2.cell? ⟨g1, 0, none⟩ = some (.slice (some ⟨b0, 0, none⟩) A.n c0) := (blk_cell HJ.out.h1 0).trans rfl
    have y1 : w2.cell? ⟨g1, 1, none⟩ = some (.slice (some ⟨b1, 0, none⟩) A.n c1) := (blk_cell HJ.out.h1 1).trans rfl
    have y2 : w2.cell? ⟨g1, 2, none⟩ = some (.slice (some ⟨b2, 0, none⟩) A.n c2) := (blk_cell HJ.out.h1 2).trans rfl
    have y3 : w2.cell? ⟨g1, 3, none⟩ = some (.slice Z3 A.gl.length c3) := (blk_cell HJ.out.h1 3).trans rfl
    have y4 := ((HP.out.below HJ.out.hb).at0 HIN.out).1
    generalize A.runs i - 1 = rr at *
    go_wp2_with (first | (refine wpList_load_row rfl 41 (.tmp 3) rfl g1 rfl 41 _ (0, 0) _ HJ.out.h1 Try.underlying41 rfl info41 ?_) | (refine wpList_store_row rfl 41 (.tmp 6) (.tmp 26) rfl g2 _ rfl rfl 41 _ HJ.out.h2 info41 rfl ONE.out ?_))
    refine bodyPost_ret (results_ct rfl _ _ g2 41 #[.slice (some ⟨b0, 0, none⟩) A.n c0, .slice (some ⟨b1, 0, none⟩) A.n c1, .slice (some ⟨b2, 0, none⟩) A.n c2, .slice Z3 A.gl.length c3] (0, 0) _ rfl (HJ.out.same HP.out).1 Try.underlying41 rfl info41) rfl (by first | exact ⟨_, _, _, _, _, rfl, (HJ.out.same HP.out).2.1, (HJ.out.same HP.out).2.2⟩ | exact ⟨_, _, _, _, rfl, (HJ.out.same HP.out).2.1, _, (HJ.out.same HP.out).2.2⟩)
  · have d3 : decide (A.runs i - 1 < 0) = false := decide_eq_false hr
    have HAF := Aside0.mk (show putA A (i : Int) = _ from if_pos (show 0 ≤ on A (i : Int) from by rw [HON.out]; omega))
    rw [decide_eq_true (show 0 ≤ on A (i : Int) from by rw [HON.out]; omega)]
    have HR0 := Aside0.mk (show 0 ≤ A.runs i - 1 from by omega)
    have HGL := Aside0.mk (show Pl.backGl A (on A (i : Int)) = A.gl ++ [A.runs i - 1] from by unfold Pl.backGl; rw [HON.out]; exact congrArg (fun z => z.1) (Pl.ref_room (cap := 64) _ (put_room HI.out HIN.out HR0.out)))
    clear hr
    go_enter Try.func36, Try.ntmps36
    go_upto_region 1 with (first
      | ((with_reducible refine gate_dst (N := 3) rfl ?_); refine box_event ?hg (N := 3) ?hd (cs := #[.slice (some ⟨b0, 0, none⟩) A.n c0, .slice (some ⟨b1, 0, none⟩) A.n c1, .slice (some ⟨b2, 0, none⟩) A.n c2, .slice Z3 A.gl.length c3]) (t := 41) ?hr ?_; (case hd => rfl); (case hg => rfl); (case hr => first | (go_simp; done) | (go_simp; rfl)); intro g1 hg w1 hbox hb; have B1 := Aside0.mk hb; have G1 := Aside0.mk hg; have X1 := Aside0.mk hbox; clear hbox hb hg)
      | ((with_reducible refine gate_dst (N := 6) rfl ?_); refine box_event ?hg (N := 6) ?hd (cs := #[.slice none 0 0, .slice none 0 0, .slice none 0 0, .slice none 0 0]) (t := 41) ?hr ?_; (case hd => rfl); (case hg => rfl); (case hr => first | (go_simp; done) | (go_simp; rfl)); intro g2 hg w2 hbox hb; have B2 := Aside0.mk hb; have G2 := Aside0.mk hg; have X2 := Aside0.mk hbox; clear hbox hb hg))
    have HJ := Aside0.mk (J.mk2 (W := W) B1.out G1.out X1.out B2.out G2.out X2.out)
    clear B1 G1 X1 B2 G2 X2
    have y0 : w2.cell? ⟨g1, 0, none⟩ = some (.slice (some ⟨b0, 0, none⟩) A.n c0) := (blk_cell HJ.out.h1 0).trans rfl
    have y1 : w2.cell? ⟨g1, 1, none⟩ = some (.slice (some ⟨b1, 0, none⟩) A.n c1) := (blk_cell HJ.out.h1 1).trans rfl
    have y2 : w2.cell? ⟨g1, 2, none⟩ = some (.slice (some ⟨b2, 0, none⟩) A.n c2) := (blk_cell HJ.out.h1 2).trans rfl
    have y3 : w2.cell? ⟨g1, 3, none⟩ = some (.slice Z3 A.gl.length c3) := (blk_cell HJ.out.h1 3).trans rfl
    have y4 := ((HP.out.below HJ.out.hb).at0 HIN.out).1
    go_upto_region 3 with (fail)
    clear y0 y1 y2 y3 y4
    go_upto_region 4 with (first
      | (refine wpList_load_row rfl 41 (.tmp 3) rfl g1 rfl 41 _ (0, 0) _ HJ.out.h1 Try.underlying41 rfl info41 ?_)
      | (go_at_call 50; (refine (copy_pg (HP.out.below HJ.out.hb) HN8.out (Inv.gl_le HI.out)).mono ?_); rintro e w3 ⟨z0, z1, z2, z3, rfl, hb, hl⟩; obtain ⟨d0, k0, rfl⟩ := row_at hl.r0 HI.out.pos; obtain ⟨d1, k1, rfl⟩ := row_at hl.r1 HI.out.pos; obtain ⟨d2, k2, rfl⟩ := row_at hl.r2 HI.out.pos; obtain ⟨Y3, k3, rfl⟩ := hl.r3.open; have B3 := Aside0.mk hb; have L3 := Aside0.mk hl; clear hb hl)
      | ((with_reducible refine gate_dst (N := 8) rfl ?_); refine box_event ?hg (N := 8) ?hd (cs := #[.slice none 0 0, .slice none 0 0, .slice none 0 0, .slice none 0 0]) (t := 41) ?hr ?_; (case hd => rfl); (case hg => rfl); (case hr => first | (go_simp; done) | (go_simp; rfl)); intro g3 hg w4 hbox hb; have B4 := Aside0.mk hb; have G4 := Aside0.mk hg; have X4 := Aside0.mk hbox; clear hbox hb hg)
      | (refine wpList_store_row rfl 41 (.tmp 8) (.tmp 28) rfl g3 _ rfl rfl 41 _ X4.out info41 rfl L3.out.pg.one ?_))
    have HK := Aside0.mk (Kx.mk4 HP.out.up HJ.out B3.out L3.out B4.out G4.out X4.out)
    clear HJ B3 B4 G4 X4
    generalize w4.setRow g3 #[.slice (some ⟨d0, 0, none⟩) A.n k0, .slice (some ⟨d1, 0, none⟩) A.n k1, .slice (some ⟨d2, 0, none⟩) A.n k2, .slice Y3 A.gl.length k3] = w5 at *
    have HKD := Aside0.mk (HK.out.below (below_drew (Below.refl _ _)))
    go_upto_region 5 with (fail)
    refine start_ (n := 10) (S := fun w' => w'.cell? ⟨g1, 0, none⟩ = some (.slice (some ⟨b0, 0, none⟩) A.n c0) ∧ w'.cell? ⟨g1, 3, none⟩ = some (.slice Z3 A.gl.length c3) ∧ w'.cell? ⟨b0, i, none⟩ = some (.int .i64 (A.runs i - 1))) (ds := [9]) #[false, false, false, false, false, false, false, false, false, false] (by kernel_rfl) rfl rfl ⟨((blk_cell HKD.out.j.h1 0).trans rfl), ((blk_cell HKD.out.j.h1 3).trans rfl), ((HP.out.below HKD.out.j.hb).at0 HIN.out).1⟩ (fun hHeld => ?_)
    refine pure_ (i := 0) (N := some 30) (v := ?_) (a' := ?_) #[true, false, false, false, false, false, false, false, false, false] rfl rfl (by kernel_rfl) (fun _ _ _ h => h) (Or.inl ⟨by rfl, ?_⟩) ?_ ?_
    rotate_left
    · intro w'
      go_simp
      with_reducible rfl
    rotate_left
    · simp only [Act.put, List.setIfInBounds_toArray, List.set_cons_zero, List.set_cons_succ, i64_w, i32_w]
      rfl
    refine pure_ (i := 2) (N := some 32) (v := ?_) (a' := ?_) #[true, false, true, false, false, false, false, false, false, false] rfl rfl (by kernel_rfl) (fun _ _ _ h => h) (Or.inl ⟨by rfl, ?_⟩) ?_ ?_
    rotate_left
    · intro w'
      go_simp
      with_reducible rfl
    rotate_left
    · simp only [Act.put, List.setIfInBounds_toArray, List.set_cons_zero, List.set_cons_succ, i64_w, i32_w]
      rfl
    refine pure_ (i := 4) (N := some 34) (v := ?_) (a' := ?_) #[true, false, true, false, true, false, false, false, false, false] rfl rfl (by kernel_rfl) (fun _ _ _ h => h) (Or.inl ⟨by rfl, ?_⟩) ?_ ?_
    rotate_left
    · intro w'
      go_simp
      with_reducible rfl
    rotate_left
    · simp only [Act.put, List.setIfInBounds_toArray, List.set_cons_zero, List.set_cons_succ, i64_w, i32_w]
      rfl
    refine take_ (i := 1) (N := some 31) (v := ?_) (a' := ?_) #[true, true, true, false, true, false, false, false, false, false] rfl rfl (by kernel_rfl) (fun _ _ _ h => h) (Or.inl ⟨by rfl, ?_⟩) hHeld ?_ ?_
    rotate_left
    · rintro w' ⟨s0, s1, s2⟩
      go_simp
      with_reducible rfl
    rotate_left
    · simp only [Act.put, List.setIfInBounds_toArray, List.set_cons_zero, List.set_cons_succ, i64_w, i32_w]
      rfl
    refine take_ (i := 3) (N := some 33) (v := ?_) (a' := ?_) #[true, true, true, true, true, false, false, false, false, false] rfl rfl (by kernel_rfl) (fun _ _ _ h => h) (Or.inl ⟨by rfl, ?_⟩) hHeld ?_ ?_
    rotate_left
    · rintro w' ⟨s0, s1, s2⟩
      go_simp
      with_reducible rfl
    rotate_left
    · simp only [Act.put, List.setIfInBounds_toArray, List.set_cons_zero, List.set_cons_succ, i64_w, i32_w]
      rfl
    refine pure_ (i := 5) (N := some 35) (v := ?_) (a' := ?_) #[true, true, true, true, true, true, false, false, false, false] rfl rfl (by kernel_rfl) (fun _ _ _ h => h) (Or.inl ⟨by rfl, ?_⟩) ?_ ?_
    rotate_left
    · intro w'
      go_simp
      with_reducible rfl
    rotate_left
    · simp only [Act.put, List.setIfInBounds_toArray, List.set_cons_zero, List.set_cons_succ, i64_w, i32_w]
      rfl
    refine take_ (i := 6) (N := some 36) (v := ?_) (a' := ?_) #[true, true, true, true, true, true, true, false, false, false] rfl rfl (by kernel_rfl) (fun _ _ _ h => h) (Or.inl ⟨by rfl, ?_⟩) hHeld ?_ ?_
    rotate_left
    · rintro w' ⟨s0, s1, s2⟩
      go_simp
      with_reducible rfl
    rotate_left
    · simp only [Act.put, List.setIfInBounds_toArray, List.set_cons_zero, List.set_cons_succ, i64_w, i32_w]
      rfl
    refine one_ (i := 7) (N := some 37) #[true, true, true, true, true, true, true, true, false, false] rfl rfl (by kernel_rfl) (by decide) (fun K hK => ?_)
    refine goes_ Try.func51 (by kernel_rfl) rfl #[.slice Z3 A.gl.length c3, .int .i64 (A.runs i - 1)] (by rfl) rfl rfl (by simp only [List.map_toArray, List.map_cons, List.map_nil]; rfl) ?_
    with_reducible refine (behind_any (HP.out.below HKD.out.j.hb).r3 (by have := Inv.gl_le HI.out; omega) (A.runs i - 1)).mono ?_
    rintro e w6 ⟨v6, rfl, hv, hb⟩
    refine ⟨_, rfl, ?_⟩
    have HV := Aside0.mk hv
    have HK6 := Aside0.mk (HKD.out.below hb)
    have HF6 := Aside0.mk (HKD.out.lo.fa hv)
    clear hv hb
    obtain ⟨L, hL⟩ : ∃ L, L = A.gl ++ [A.runs i - 1] := ⟨_, rfl⟩
    rw [← hL] at HV
    have HLL := Aside0.mk hL
    clear hL
    refine hK.out _ _ ⟨((blk_cell HK6.out.j.h1 0).trans rfl), ((blk_cell HK6.out.j.h1 3).trans rfl), ((HP.out.below HK6.out.j.hb).at0 HIN.out).1⟩ (fun hHeld => ?_)
    clear hK K
    refine norm_ (a' := ?_) ?_ ?_
    rotate_left
    · show Act.put _ (some 37) _ = _
      simp only [Act.put, List.setIfInBounds_toArray, List.set_cons_zero, List.set_cons_succ, i64_w, i32_w]
      rfl
    refine pure_ (i := 8) (N := some 38) (v := ?_) (a' := ?_) #[true, true, true, true, true, true, true, true, true, false] rfl rfl (by kernel_rfl) (fun _ _ _ h => h) (Or.inl ⟨by rfl, ?_⟩) ?_ ?_
    rotate_left
    · intro w'
      go_simp
      with_reducible rfl
    rotate_left
    · simp only [Act.put, List.setIfInBounds_toArray, List.set_cons_zero, List.set_cons_succ, i64_w, i32_w]
      rfl
    refine last_ (i := 9) (N := none) #[true, true, true, true, true, true, true, true, true, true] rfl rfl (by kernel_rfl) (by decide) (fun K hK => ?_)
    have fz := blk_frozen HK6.out.h3 3
    have cz : w6.cell? ⟨g3, 3, none⟩ = some (.slice Y3 A.gl.length k3) := (blk_cell HK6.out.h3 3).trans rfl
    obtain ⟨Y6, k6, rfl⟩ := own_slice HV.out
    refine skip_ (w1 := ?_) (by rfl) rfl ?_ ?_
    rotate_left
    · go_simp
      rfl
    refine hK.out _ _ ?_
    clear hK K
    refine done_ (by kernel_rfl) ?_

    have HK7 := Aside0.mk (HK6.out.gl (Rw.of HV.out) HF6.out)
    clear HK HKD HK6 HV HF6 hHeld
    generalize w6.setCell ⟨g3, 3, none⟩ (.slice Y6 L.length k6) = w7 at *
    have z0 : w7.cell? ⟨g3, 0, none⟩ = some (.slice (some ⟨d0, 0, none⟩) A.n k0) := (blk_cell HK7.out.h3 0).trans rfl
    have zf := (HK7.out.lo.pg.at0 HIN.out).2
    have zc := (HK7.out.lo.pg.at0 HIN.out).1
    generalize hrr : A.runs i - 1 = rr at *
    go_upto_region 7 with (fail)
    have HK8 := Aside0.mk (show Kx R W (w7.setCell ⟨d0, i, none⟩ (.int .i64 (-1))) _ _ _ _ _ g1 g2 g3 _ _ _ _ _ from HK7.out.on HIN.out (-1))
    clear z0 zf zc HK7
    generalize w7.setCell ⟨d0, i, none⟩ (.int .i64 (-1)) = w8 at *
    go_wp2_with (first | (refine wpList_load_row rfl 41 (.tmp 8) rfl g3 rfl 41 _ (0, 0) _ HK8.out.h3 Try.underlying41 rfl info41 ?_) | (refine wpList_store_row rfl 41 (.tmp 6) (.tmp 43) rfl g2 _ rfl rfl 41 _ HK8.out.j.h2 info41 rfl HK8.out.lo.pg.one ?_))
    rw [HAF.out]
    refine bodyPost_ret (results_ct rfl _ _ g2 41 #[.slice (some ⟨d0, 0, none⟩) A.n k0, .slice (some ⟨d1, 0, none⟩) A.n k1, .slice (some ⟨d2, 0, none⟩) A.n k2, .slice Y6 L.length k6] (0, 0) _ rfl HK8.out.done.1 Try.underlying41 rfl info41) rfl (by first | exact ⟨_, _, _, _, _, rfl, HK8.out.done.2.1, HK8.out.done.2.2.to rfl (fun j hj => by rw [Int.toNat_natCast]; rfl) (fun j hj => rfl) (fun j hj => rfl) (HGL.out.trans HLL.out.symm)⟩ | exact ⟨_, _, _, _, rfl, HK8.out.done.2.1, _, HK8.out.done.2.2.to rfl (fun j hj => by rw [Int.toNat_natCast]; rfl) (fun j hj => rfl) (fun j hj => rfl) (HGL.out.trans HLL.out.symm)⟩)
end
end Go.Proofs.Ytjcjhmnfknenlaa.Px
