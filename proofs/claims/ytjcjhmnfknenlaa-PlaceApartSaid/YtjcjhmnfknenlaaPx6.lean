/- The page's places: Work. Conditions: none. -/
import Derived.Test.YtjcjhmnfknenlaaPx5
namespace Go.Proofs.Ytjcjhmnfknenlaa.Px
open Go.RowKit Go.Proofs.Ytjcjhmnfknenlaa.PPlaceApart Go.Proofs.YtjcjhmnfknenlaaW.PrintWords Go.Proofs.YtjcjhmnfknenlaaW.PrintLast Go.Proofs.YtjcjhmnfknenlaaW.PrintMore
open Pl (Pa Inv Ok wher on readyA readyB putA leaveA dropA workA workN fetchA allS inB doA flagI wo A0 rg sumN)
set_option linter.unusedVariables false
set_option linter.unusedSimpArgs false

section
variable {R : Nat → Prop} {W : World} {A : Pa} {u0 u1 u2 u3 : Value} {vs : Nat → Value}
set_option maxHeartbeats 8000000 in
set_option maxRecDepth 100000 in
theorem ref_work (h : Pg R W A u0 u1 u2 u3 vs) (hi : Inv A) (hn : A.n ≤ 8) (hw : ∀ i, i < A.n → 0 ≤ A.work i ∧ A.work i ≤ 1000000) (x : Int) : Calls Try.prog 38 #[.agg #[u0, u1, u2, u3], .int .i64 x] W fun e w' => ∃ q0 q1 q2 q3 qs, e = .returned (.tuple #[.agg #[q0, q1, q2, q3], .int .i64 (workN A x)]) ∧ Below W.heap.size W w' ∧ Pg R w' (workA A x) q0 q1 q2 q3 qs := by
  have hu41 := Try.underlying41
  obtain ⟨b0, c0, rfl⟩ := row_at h.r0 hi.pos
  obtain ⟨b1, c1, rfl⟩ := row_at h.r1 hi.pos
  obtain ⟨b2, c2, rfl⟩ := row_at h.r2 hi.pos
  obtain ⟨Z3, c3, rfl⟩ := h.r3.open
  have HP := Aside0.mk h
  have HI := Aside0.mk hi
  have HN8 := Aside0.mk hn
  have ONE := Aside0.mk h.one
  clear h hi hn
  have HW := Aside0.mk hw
  clear hw
  by_cases hx : x < 0
  · have d0 : decide (x < 0) = true := decide_eq_true hx
    rw [show workN A x = 0 from if_neg (by unfold on; rw [if_neg (by omega)]; decide), show workA A x = A from if_neg (by unfold on; rw [if_neg (by omega)]; decide)]
    clear hx
    go_enter Try.func38, Try.ntmps38
    go_upto_region 1 with (first
      | ((with_reducible refine gate_dst (N := 2) rfl ?_); refine box_event ?hg (N := 2) ?hd (cs := #[.slice (some ⟨b0, 0, none⟩) A.n c0, .slice (some ⟨b1, 0, none⟩) A.n c1, .slice (some ⟨b2, 0, none⟩) A.n c2, .slice Z3 A.gl.length c3]) (t := 41) ?hr ?_; (case hd => rfl); (case hg => rfl); (case hr => first | (go_simp; done) | (go_simp; rfl)); intro g1 hg w1 hbox hb; have B1 := Aside0.mk hb; have G1 := Aside0.mk hg; have X1 := Aside0.mk hbox; clear hbox hb hg)
      | ((with_reducible refine gate_dst (N := 4) rfl ?_); refine box_event ?hg (N := 4) ?hd (cs := #[.slice none 0 0, .slice none 0 0, .slice none 0 0, .slice none 0 0]) (t := 41) ?hr ?_; (case hd => rfl); (case hg => rfl); (case hr => first | (go_simp; done) | (go_simp; rfl)); intro g2 hg w2 hbox hb; have B2 := Aside0.mk hb; have G2 := Aside0.mk hg; have X2 := Aside0.mk hbox; clear hbox hb hg))
    have HJ := Aside0.mk (J.mk2 (W := W) B1.out G1.out X1.out B2.out G2.out X2.out)
    clear B1 G1 X1 B2 G2 X2
    have y0 : w2.cell? ⟨g1, 0, none⟩ = some (.slice (some ⟨b0, 0, none⟩) A.n c0) := (blk_cell HJ.out.h1 0).trans rfl
    have y1 : w2.cell? ⟨g1, 1, none⟩ = some (.slice (some ⟨b1, 0, none⟩) A.n c1) := (blk_cell HJ.out.h1 1).trans rfl
    have y2 : w2.cell? ⟨g1, 2, none⟩ = some (.slice (some ⟨b2, 0, none⟩) A.n c2) := (blk_cell HJ.out.h1 2).trans rfl
    have y3 : w2.cell? ⟨g1, 3, none⟩ = some (.slice Z3 A.gl.length c3) := (blk_cell HJ.out.h1 3).trans rfl
    go_wp2_with (first | (refine wpList_load_row rfl 41 (.tmp 2) rfl g1 rfl 41 _ (0, 0) _ HJ.out.h1 Try.underlying41 rfl info41 ?_) | (refine wpList_store_row rfl 41 (.tmp 4) (.tmp 24) rfl g2 _ rfl rfl 41 _ HJ.out.h2 info41 rfl ONE.out ?_))
    refine bodyPost_ret (results_ct rfl _ _ g2 41 #[.slice (some ⟨b0, 0, none⟩) A.n c0, .slice (some ⟨b1, 0, none⟩) A.n c1, .slice (some ⟨b2, 0, none⟩) A.n c2, .slice Z3 A.gl.length c3] (0, 0) _ rfl (HJ.out.same HP.out).1 Try.underlying41 rfl info41) rfl (by first | exact ⟨_, _, _, _, _, rfl, (HJ.out.same HP.out).2.1, (HJ.out.same HP.out).2.2⟩ | exact ⟨_, _, _, _, rfl, (HJ.out.same HP.out).2.1, _, (HJ.out.same HP.out).2.2⟩)
  by_cases hxn : (A.n : Int) ≤ x
  · have d0 : decide (x < 0) = false := decide_eq_false hx
    have d1 : decide ((A.n : Int) ≤ x) = true := decide_eq_true hxn
    rw [show workN A x = 0 from if_neg (by unfold on; rw [if_neg (by omega)]; decide), show workA A x = A from if_neg (by unfold on; rw [if_neg (by omega)]; decide)]
    clear hx hxn
    go_enter Try.func38, Try.ntmps38
    go_upto_region 1 with (first
      | ((with_reducible refine gate_dst (N := 2) rfl ?_); refine box_event ?hg (N := 2) ?hd (cs := #[.slice (some ⟨b0, 0, none⟩) A.n c0, .slice (some ⟨b1, 0, none⟩) A.n c1, .slice (some ⟨b2, 0, none⟩) A.n c2, .slice Z3 A.gl.length c3]) (t := 41) ?hr ?_; (case hd => rfl); (case hg => rfl); (case hr => first | (go_simp; done) | (go_simp; rfl)); intro g1 hg w1 hbox hb; have B1 := Aside0.mk hb; have G1 := Aside0.mk hg; have X1 := Aside0.mk hbox; clear hbox hb hg)
      | ((with_reducible refine gate_dst (N := 4) rfl ?_); refine box_event ?hg (N := 4) ?hd (cs := #[.slice none 0 0, .slice none 0 0, .slice none 0 0, .slice none 0 0]) (t := 41) ?hr ?_; (case hd => rfl); (case hg => rfl); (case hr => first | (go_simp; done) | (go_simp; rfl)); intro g2 hg w2 hbox hb; have B2 := Aside0.mk hb; have G2 := Aside0.mk hg; have X2 := Aside0.mk hbox; clear hbox hb hg))
    have HJ := Aside0.mk (J.mk2 (W := W) B1.out G1.out X1.out B2.out G2.out X2.out)
    clear B1 G1 X1 B2 G2 X2
    have y0 : w2.cell? ⟨g1, 0, none⟩ = some (.slice (some ⟨b0, 0, none⟩) A.n c0) := (blk_cell HJ.out.h1 0).trans rfl
    have y1 : w2.cell? ⟨g1, 1, none⟩ = some (.slice (some ⟨b1, 0, none⟩) A.n c1) := (blk_cell HJ.out.h1 1).trans rfl
    have y2 : w2.cell? ⟨g1, 2, none⟩ = some (.slice (some ⟨b2, 0, none⟩) A.n c2) := (blk_cell HJ.out.h1 2).trans rfl
    have y3 : w2.cell? ⟨g1, 3, none⟩ = some (.slice Z3 A.gl.length c3) := (blk_cell HJ.out.h1 3).trans rfl
    go_wp2_with (first | (refine wpList_load_row rfl 41 (.tmp 2) rfl g1 rfl 41 _ (0, 0) _ HJ.out.h1 Try.underlying41 rfl info41 ?_) | (refine wpList_store_row rfl 41 (.tmp 4) (.tmp 24) rfl g2 _ rfl rfl 41 _ HJ.out.h2 info41 rfl ONE.out ?_))
    refine bodyPost_ret (results_ct rfl _ _ g2 41 #[.slice (some ⟨b0, 0, none⟩) A.n c0, .slice (some ⟨b1, 0, none⟩) A.n c1, .slice (some ⟨b2, 0, none⟩) A.n c2, .slice Z3 A.gl.length c3] (0, 0) _ rfl (HJ.out.same HP.out).1 Try.underlying41 rfl info41) rfl (by first | exact ⟨_, _, _, _, _, rfl, (HJ.out.same HP.out).2.1, (HJ.out.same HP.out).2.2⟩ | exact ⟨_, _, _, _, rfl, (HJ.out.same HP.out).2.1, _, (HJ.out.same HP.out).2.2⟩)
  obtain ⟨i, rfl⟩ : ∃ i : Nat, x = (i : Int) := ⟨x.toNat, by omega⟩
  have HIN := Aside0.mk (show i < A.n from by omega)
  have d0 : decide ((i : Int) < 0) = false := decide_eq_false hx
  have d1 : decide ((A.n : Int) ≤ (i : Int)) = false := decide_eq_false hxn
  have d2 : decide (A.n ≤ i) = false := decide_eq_false (by omega)
  have p1 : (0 ≤ (i : Int)) = True := eq_true (by omega)
  have p2 : ((i : Int) < (A.n : Int)) = True := eq_true (by omega)
  have p3 : (i < A.n) = True := eq_true (by omega)
  clear hx hxn
  have HON := Aside0.mk (show on A (i : Int) = A.runs i - 1 from by unfold on; rw [if_pos ⟨by omega, by have := HIN.out; omega⟩, Int.toNat_natCast])
  by_cases hr : A.runs i - 1 < 0
  · have d3 : decide (A.runs i - 1 < 0) = true := decide_eq_true hr
    rw [show workN A (i : Int) = 0 from if_neg (by rw [HON.out]; omega), show workA A (i : Int) = A from if_neg (by rw [HON.out]; omega)]
    clear hr
    go_enter Try.func38, Try.ntmps38
    go_upto_region 1 with (first
      | ((with_reducible refine gate_dst (N := 2) rfl ?_); refine box_event ?hg (N := 2) ?hd (cs := #[.slice (some ⟨b0, 0, none⟩) A.n c0, .slice (some ⟨b1, 0, none⟩) A.n c1, .slice (some ⟨b2, 0, none⟩) A.n c2, .slice Z3 A.gl.length c3]) (t := 41) ?hr ?_; (case hd => rfl); (case hg => rfl); (case hr => first | (go_simp; done) | (go_simp; rfl)); intro g1 hg w1 hbox hb; have B1 := Aside0.mk hb; have G1 := Aside0.mk hg; have X1 := Aside0.mk hbox; clear hbox hb hg)
      | ((with_reducible refine gate_dst (N := 4) rfl ?_); refine box_event ?hg (N := 4) ?hd (cs := #[.slice none 0 0, .slice none 0 0, .slice none 0 0, .slice none 0 0]) (t := 41) ?hr ?_; (case hd => rfl); (case hg => rfl); (case hr => first | (go_simp; done) | (go_simp; rfl)); intro g2 hg w2 hbox hb; have B2 := Aside0.mk hb; have G2 := Aside0.mk hg; have X2 := Aside0.mk hbox; clear hbox hb hg))
    have HJ := Aside0.mk (J.mk2 (W := W) B1.out G1.out X1.out B2.out G2.out X2.out)
    clear B1 G1 X1 B2 G2 X2
    have y0 : w2.cell? ⟨g1, 0, none⟩ = some (.slice (some ⟨b0, 0, none⟩) A.n c0) := (blk_cell HJ.out.h1 0).trans rfl
    have y1 : w2.cell? ⟨g1, 1, none⟩ = some (.slice (some ⟨b1, 0, none⟩) A.n c1) := (blk_cell HJ.out.h1 1).trans rfl
    have y2 : w2.cell? ⟨g1, 2, none⟩ = some (.slice (some ⟨b2, 0, none⟩) A.n c2) := (blk_cell HJ.out.h1 2).trans rfl
    have y3 : w2.cell? ⟨g1, 3, none⟩ = some (.slice Z3 A.gl.length c3) := (blk_cell HJ.out.h1 3).trans rfl
    have y4 := ((HP.out.below HJ.out.hb).at0 HIN.out).1
    generalize A.runs i - 1 = rr at *
    go_wp2_with (first | (refine wpList_load_row rfl 41 (.tmp 2) rfl g1 rfl 41 _ (0, 0) _ HJ.out.h1 Try.underlying41 rfl info41 ?_) | (refine wpList_store_row rfl 41 (.tmp 4) (.tmp 24) rfl g2 _ rfl rfl 41 _ HJ.out.h2 info41 rfl ONE.out ?_))
    refine bodyPost_ret (results_ct rfl _ _ g2 41 #[.slice (some ⟨b0, 0, none⟩) A.n c0, .slice (some ⟨b1, 0, none⟩) A.n c1, .slice (some ⟨b2, 0, none⟩) A.n c2, .slice Z3 A.gl.length c3] (0, 0) _ rfl (HJ.out.same HP.out).1 Try.underlying41 rfl info41) rfl (by first | exact ⟨_, _, _, _, _, rfl, (HJ.out.same HP.out).2.1, (HJ.out.same HP.out).2.2⟩ | exact ⟨_, _, _, _, rfl, (HJ.out.same HP.out).2.1, _, (HJ.out.same HP.out).2.2⟩)
  · have d3 : decide (A.runs i - 1 < 0) = false := decide_eq_false hr
    rw [show workN A (i : Int) = A.work i + 1 from by rw [show workN A (i : Int) = A.work (i : Int).toNat + 1 from if_pos (by rw [HON.out]; omega), Int.toNat_natCast], show workA A (i : Int) = { A with work := Pl.up A.work i (A.work i + 1) } from by rw [show workA A (i : Int) = { A with work := Pl.up A.work (i : Int).toNat (A.work (i : Int).toNat + 1) } from if_pos (by rw [HON.out]; omega), Int.toNat_natCast]]
    clear hr
    go_enter Try.func38, Try.ntmps38
    go_upto_region 1 with (first
      | ((with_reducible refine gate_dst (N := 2) rfl ?_); refine box_event ?hg (N := 2) ?hd (cs := #[.slice (some ⟨b0, 0, none⟩) A.n c0, .slice (some ⟨b1, 0, none⟩) A.n c1, .slice (some ⟨b2, 0, none⟩) A.n c2, .slice Z3 A.gl.length c3]) (t := 41) ?hr ?_; (case hd => rfl); (case hg => rfl); (case hr => first | (go_simp; done) | (go_simp; rfl)); intro g1 hg w1 hbox hb; have B1 := Aside0.mk hb; have G1 := Aside0.mk hg; have X1 := Aside0.mk hbox; clear hbox hb hg)
      | ((with_reducible refine gate_dst (N := 4) rfl ?_); refine box_event ?hg (N := 4) ?hd (cs := #[.slice none 0 0, .slice none 0 0, .slice none 0 0, .slice none 0 0]) (t := 41) ?hr ?_; (case hd => rfl); (case hg => rfl); (case hr => first | (go_simp; done) | (go_simp; rfl)); intro g2 hg w2 hbox hb; have B2 := Aside0.mk hb; have G2 := Aside0.mk hg; have X2 := Aside0.mk hbox; clear hbox hb hg))
    have HJ := Aside0.mk (J.mk2 (W := W) B1.out G1.out X1.out B2.out G2.out X2.out)
    clear B1 G1 X1 B2 G2 X2
    have y0 : w2.cell? ⟨g1, 0, none⟩ = some (.slice (some ⟨b0, 0, none⟩) A.n c0) := (blk_cell HJ.out.h1 0).trans rfl
    have y1 : w2.cell? ⟨g1, 1, none⟩ = some (.slice (some ⟨b1, 0, none⟩) A.n c1) := (blk_cell HJ.out.h1 1).trans rfl
    have y2 : w2.cell? ⟨g1, 2, none⟩ = some (.slice (some ⟨b2, 0, none⟩) A.n c2) := (blk_cell HJ.out.h1 2).trans rfl
    have y3 : w2.cell? ⟨g1, 3, none⟩ = some (.slice Z3 A.gl.length c3) := (blk_cell HJ.out.h1 3).trans rfl
    have y4 := ((HP.out.below HJ.out.hb).at0 HIN.out).1
    generalize hrr : A.runs i - 1 = rr at *
    go_upto_region 3 with (fail)
    clear y0 y1 y2 y3 y4
    go_upto_region 4 with (first
      | (refine wpList_load_row rfl 41 (.tmp 2) rfl g1 rfl 41 _ (0, 0) _ HJ.out.h1 Try.underlying41 rfl info41 ?_)
      | (go_at_call 50; (refine (copy_pg (HP.out.below HJ.out.hb) HN8.out (Inv.gl_le HI.out)).mono ?_); rintro e w3 ⟨z0, z1, z2, z3, rfl, hb, hl⟩; obtain ⟨d0, k0, rfl⟩ := row_at hl.r0 HI.out.pos; obtain ⟨d1, k1, rfl⟩ := row_at hl.r1 HI.out.pos; obtain ⟨d2, k2, rfl⟩ := row_at hl.r2 HI.out.pos; obtain ⟨Y3, k3, rfl⟩ := hl.r3.open; have B3 := Aside0.mk hb; have L3 := Aside0.mk hl; clear hb hl)
      | ((with_reducible refine gate_dst (N := 6) rfl ?_); refine box_event ?hg (N := 6) ?hd (cs := #[.slice none 0 0, .slice none 0 0, .slice none 0 0, .slice none 0 0]) (t := 41) ?hr ?_; (case hd => rfl); (case hg => rfl); (case hr => first | (go_simp; done) | (go_simp; rfl)); intro g3 hg w4 hbox hb; have B4 := Aside0.mk hb; have G4 := Aside0.mk hg; have X4 := Aside0.mk hbox; clear hbox hb hg)
      | (refine wpList_store_row rfl 41 (.tmp 6) (.tmp 26) rfl g3 _ rfl rfl 41 _ X4.out info41 rfl L3.out.pg.one ?_))
    have HK := Aside0.mk (Kx.mk4 HP.out.up HJ.out B3.out L3.out B4.out G4.out X4.out)
    clear HJ B3 B4 G4 X4
    generalize w4.setRow g3 #[.slice (some ⟨d0, 0, none⟩) A.n k0, .slice (some ⟨d1, 0, none⟩) A.n k1, .slice (some ⟨d2, 0, none⟩) A.n k2, .slice Y3 A.gl.length k3] = w5 at *
    have HKD := Aside0.mk (HK.out.below (below_drew (Below.refl _ _)))
    have fz := (HKD.out.lo.pg.at1 HIN.out).2
    refine start_ (n := 11) (S := fun w' => w'.cell? ⟨g3, 1, none⟩ = some (.slice (some ⟨d1, 0, none⟩) A.n k1) ∧ w'.cell? ⟨d1, i, none⟩ = some (.int .i64 (A.work i))) (ds := [10]) #[false, false, false, false, false, false, false, false, false, false, false] (by kernel_rfl) rfl rfl ⟨((blk_cell HKD.out.h3 1).trans rfl), (HKD.out.lo.pg.at1 HIN.out).1⟩ (fun hHeld => ?_)
    refine pure_ (i := 0) (N := some 27) (v := ?_) (a' := ?_) #[true, false, false, false, false, false, false, false, false, false, false] rfl rfl (by kernel_rfl) (fun _ _ _ h => h) (Or.inl ⟨by rfl, ?_⟩) ?_ ?_
    rotate_left
    · intro w'
      go_simp
      with_reducible rfl
    rotate_left
    · simp only [Act.put, List.setIfInBounds_toArray, List.set_cons_zero, List.set_cons_succ, i64_w, i32_w]
      rfl
    refine pure_ (i := 2) (N := some 29) (v := ?_) (a' := ?_) #[true, false, true, false, false, false, false, false, false, false, false] rfl rfl (by kernel_rfl) (fun _ _ _ h => h) (Or.inl ⟨by rfl, ?_⟩) ?_ ?_
    rotate_left
    · intro w'
      go_simp
      with_reducible rfl
    rotate_left
    · simp only [Act.put, List.setIfInBounds_toArray, List.set_cons_zero, List.set_cons_succ, i64_w, i32_w]
      rfl
    refine pure_ (i := 3) (N := some 30) (v := ?_) (a' := ?_) #[true, false, true, true, false, false, false, false, false, false, false] rfl rfl (by kernel_rfl) (fun _ _ _ h => h) (Or.inl ⟨by rfl, ?_⟩) ?_ ?_
    rotate_left
    · intro w'
      go_simp
      with_reducible rfl
    rotate_left
    · simp only [Act.put, List.setIfInBounds_toArray, List.set_cons_zero, List.set_cons_succ, i64_w, i32_w]
      rfl
    refine pure_ (i := 5) (N := some 32) (v := ?_) (a' := ?_) #[true, false, true, true, false, true, false, false, false, false, false] rfl rfl (by kernel_rfl) (fun _ _ _ h => h) (Or.inl ⟨by rfl, ?_⟩) ?_ ?_
    rotate_left
    · intro w'
      go_simp
      with_reducible rfl
    rotate_left
    · simp only [Act.put, List.setIfInBounds_toArray, List.set_cons_zero, List.set_cons_succ, i64_w, i32_w]
      rfl
    refine take_ (i := 1) (N := some 28) (v := ?_) (a' := ?_) #[true, true, true, true, false, true, false, false, false, false, false] rfl rfl (by kernel_rfl) (fun _ _ _ h => h) (Or.inl ⟨by rfl, ?_⟩) hHeld ?_ ?_
    rotate_left
    · rintro w' ⟨s0, s1⟩
      go_simp
      with_reducible rfl
    rotate_left
    · simp only [Act.put, List.setIfInBounds_toArray, List.set_cons_zero, List.set_cons_succ, i64_w, i32_w]
      rfl
    refine take_ (i := 4) (N := some 31) (v := ?_) (a' := ?_) #[true, true, true, true, true, true, false, false, false, false, false] rfl rfl (by kernel_rfl) (fun _ _ _ h => h) (Or.inl ⟨by rfl, ?_⟩) hHeld ?_ ?_
    rotate_left
    · rintro w' ⟨s0, s1⟩
      go_simp
      with_reducible rfl
    rotate_left
    · simp only [Act.put, List.setIfInBounds_toArray, List.set_cons_zero, List.set_cons_succ, i64_w, i32_w]
      rfl
    refine pure_ (i := 6) (N := some 33) (v := ?_) (a' := ?_) #[true, true, true, true, true, true, true, false, false, false, false] rfl rfl (by kernel_rfl) (fun _ _ _ h => h) (Or.inl ⟨by rfl, ?_⟩) ?_ ?_
    rotate_left
    · intro w'
      go_simp
      with_reducible rfl
    rotate_left
    · simp only [Act.put, List.setIfInBounds_toArray, List.set_cons_zero, List.set_cons_succ, i64_w, i32_w]
      rfl
    refine take_ (i := 7) (N := some 34) (v := ?_) (a' := ?_) #[true, true, true, true, true, true, true, true, false, false, false] rfl rfl (by kernel_rfl) (fun _ _ _ h => h) (Or.inl ⟨by rfl, ?_⟩) hHeld ?_ ?_
    rotate_left
    · rintro w' ⟨s0, s1⟩
      go_simp
      with_reducible rfl
    rotate_left
    · simp only [Act.put, List.setIfInBounds_toArray, List.set_cons_zero, List.set_cons_succ, i64_w, i32_w]
      rfl
    refine pure_ (i := 8) (N := some 35) (v := ?_) (a' := ?_) #[true, true, true, true, true, true, true, true, true, false, false] rfl rfl (by kernel_rfl) (fun _ _ _ h => h) (Or.inl ⟨by rfl, ?_⟩) ?_ ?_
    rotate_left
    · intro w'
      go_simp
      with_reducible rfl
    rotate_left
    · simp only [Act.put, List.setIfInBounds_toArray, List.set_cons_zero, List.set_cons_succ, i64_w, i32_w]
      rfl
    refine pure_ (i := 9) (N := some 36) (v := ?_) (a' := ?_) #[true, true, true, true, true, true, true, true, true, true, false] rfl rfl (by kernel_rfl) (fun _ _ _ h => h) (Or.inl ⟨by rfl, ?_⟩) ?_ ?_
    rotate_left
    · intro w'
      go_simp
      with_reducible rfl
    rotate_left
    · simp only [Act.put, List.setIfInBounds_toArray, List.set_cons_zero, List.set_cons_succ, i64_w, i32_w]
      rfl
    refine last_ (i := 10) (N := none) #[true, true, true, true, true, true, true, true, true, true, true] rfl rfl (by kernel_rfl) (by decide) (fun K hK => ?_)
    refine skip_ (w1 := ?_) (by rfl) rfl ?_ ?_
    rotate_left
    · go_simp
      rfl
    refine hK.out _ _ ?_
    clear hK K
    refine done_ (by kernel_rfl) ?_


    rw [show wrap64 (A.work i + 1) = A.work i + 1 from by have := HW.out i HIN.out; unfold wrap64; omega]
    have HK5 := Aside0.mk (show Kx R W (w5.setCell ⟨d1, i, none⟩ (.int .i64 (A.work i + 1))).drew _ _ _ _ _ g1 g2 g3 _ _ _ _ _ from HKD.out.cn HIN.out (A.work i + 1))
    clear HK HKD fz
    generalize (w5.setCell ⟨d1, i, none⟩ (.int .i64 (A.work i + 1))).drew = w6 at *
    go_upto_region 5 with (fail)
    have HK6 := Aside0.mk (HK5.out.below (below_drew (Below.refl _ _)))
    refine start_ (n := 8) (S := fun w' => w'.heap[g3]? = some (.cells #[.slice (some ⟨d0, 0, none⟩) A.n k0, .slice (some ⟨d1, 0, none⟩) A.n k1, .slice (some ⟨d2, 0, none⟩) A.n k2, .slice Y3 A.gl.length k3] 41 (0, 0)) ∧ w'.cell? ⟨g3, 1, none⟩ = some (.slice (some ⟨d1, 0, none⟩) A.n k1) ∧ w'.cell? ⟨d1, i, none⟩ = some (.int .i64 (A.work i + 1))) (ds := []) #[false, false, false, false, false, false, false, false] (by kernel_rfl) rfl rfl ⟨HK6.out.h3, ((blk_cell HK6.out.h3 1).trans rfl), ((HK6.out.lo.pg.at1 HIN.out).1.trans (by simp only [Pl.up_same]))⟩ (fun hHeld => ?_)
    refine pure_ (i := 1) (N := some 38) (v := ?_) (a' := ?_) #[false, true, false, false, false, false, false, false] rfl rfl (by kernel_rfl) (fun _ _ _ h => h) (Or.inl ⟨by rfl, ?_⟩) ?_ ?_
    rotate_left
    · intro w'
      go_simp
      with_reducible rfl
    rotate_left
    · simp only [Act.put, List.setIfInBounds_toArray, List.set_cons_zero, List.set_cons_succ, i64_w, i32_w]
      rfl
    refine pure_ (i := 3) (N := some 40) (v := ?_) (a' := ?_) #[false, true, false, true, false, false, false, false] rfl rfl (by kernel_rfl) (fun _ _ _ h => h) (Or.inl ⟨by rfl, ?_⟩) ?_ ?_
    rotate_left
    · intro w'
      go_simp
      with_reducible rfl
    rotate_left
    · simp only [Act.put, List.setIfInBounds_toArray, List.set_cons_zero, List.set_cons_succ, i64_w, i32_w]
      rfl
    refine take_ (i := 0) (N := some 37) (v := ?_) (a' := ?_) #[true, true, false, true, false, false, false, false] rfl rfl (by kernel_rfl) (fun _ _ _ h => h) (Or.inl ⟨by rfl, ?_⟩) hHeld ?_ ?_
    rotate_left
    · rintro w' ⟨s0, s1, s2⟩
      (refine ex_load41 (x := .tmp 6) ?_ ?_ rfl s0 <;> rfl)
    rotate_left
    · simp only [Act.put, List.setIfInBounds_toArray, List.set_cons_zero, List.set_cons_succ, i64_w, i32_w]
      rfl
    refine take_ (i := 2) (N := some 39) (v := ?_) (a' := ?_) #[true, true, true, true, false, false, false, false] rfl rfl (by kernel_rfl) (fun _ _ _ h => h) (Or.inl ⟨by rfl, ?_⟩) hHeld ?_ ?_
    rotate_left
    · rintro w' ⟨s0, s1, s2⟩
      go_simp
      with_reducible rfl
    rotate_left
    · simp only [Act.put, List.setIfInBounds_toArray, List.set_cons_zero, List.set_cons_succ, i64_w, i32_w]
      rfl
    refine pure_ (i := 4) (N := some 41) (v := ?_) (a' := ?_) #[true, true, true, true, true, false, false, false] rfl rfl (by kernel_rfl) (fun _ _ _ h => h) (Or.inl ⟨by rfl, ?_⟩) ?_ ?_
    rotate_left
    · intro w'
      go_simp
      with_reducible rfl
    rotate_left
    · simp only [Act.put, List.setIfInBounds_toArray, List.set_cons_zero, List.set_cons_succ, i64_w, i32_w]
      rfl
    refine take_ (i := 5) (N := some 42) (v := ?_) (a' := ?_) #[true, true, true, true, true, true, false, false] rfl rfl (by kernel_rfl) (fun _ _ _ h => h) (Or.inl ⟨by rfl, ?_⟩) hHeld ?_ ?_
    rotate_left
    · rintro w' ⟨s0, s1, s2⟩
      go_simp
      with_reducible rfl
    rotate_left
    · simp only [Act.put, List.setIfInBounds_toArray, List.set_cons_zero, List.set_cons_succ, i64_w, i32_w]
      rfl
    refine one_ (i := 6) (N := none) #[true, true, true, true, true, true, true, false] rfl rfl (by kernel_rfl) (by decide) (fun K hK => ?_)
    refine skip_ (w1 := _) (by rfl) rfl (ex_store41 (x := .tmp 4) (y := .tmp 37) rfl rfl rfl HK6.out.j.h2 ⟨HK6.out.lo.pg.r0, HK6.out.lo.pg.r1, HK6.out.lo.pg.r2, HK6.out.lo.r3⟩) ?_
    refine hK.out _ _ ⟨HK6.out.res, ((blk_cell HK6.out.res 1).trans rfl), ((HK6.out.done.2.2.at1 HIN.out).1.trans (by simp only [Pl.up_same]))⟩ (fun hHeld => ?_)
    clear hK K
    refine pure_ (i := 7) (N := some 5) (v := ?_) (a' := ?_) #[true, true, true, true, true, true, true, true] rfl rfl (by kernel_rfl) (fun _ _ _ h => h) (Or.inl ⟨by rfl, ?_⟩) ?_ ?_
    rotate_left
    · intro w'
      go_simp
      with_reducible rfl
    rotate_left
    · simp only [Act.put, List.setIfInBounds_toArray, List.set_cons_zero, List.set_cons_succ, i64_w, i32_w]
      rfl
    refine done_ (by kernel_rfl) ?_

    go_wp2
    refine bodyPost_ret (results_ct rfl _ _ g2 41 #[.slice (some ⟨d0, 0, none⟩) A.n k0, .slice (some ⟨d1, 0, none⟩) A.n k1, .slice (some ⟨d2, 0, none⟩) A.n k2, .slice Y3 A.gl.length k3] (0, 0) _ rfl HK6.out.done.1 Try.underlying41 rfl info41) rfl ⟨_, _, _, _, _, rfl, HK6.out.done.2.1, HK6.out.done.2.2⟩
end
end Go.Proofs.Ytjcjhmnfknenlaa.Px
