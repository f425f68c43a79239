/- The page's places: runs. Conditions: none. -/
import Derived.Test.YtjcjhmnfknenlaaPx8
namespace Go.Proofs.Ytjcjhmnfknenlaa.Px
open Go.RowKit Go.Proofs.Ytjcjhmnfknenlaa.PPlaceApart Go.Proofs.YtjcjhmnfknenlaaW.PrintWords Go.Proofs.YtjcjhmnfknenlaaW.PrintLast Go.Proofs.YtjcjhmnfknenlaaW.PrintMore
open Pl (Pa Inv Ok wher on readyA readyB putA leaveA dropA workA workN fetchA allS inB doA flagI wo A0 rg sumN)
set_option linter.unusedVariables false
set_option linter.unusedSimpArgs false

section
variable {R : Nat → Prop} {W : World} {A : Pa} {u0 u1 u2 u3 : Value} {vs : Nat → Value}
def runsA (A : Pa) (i : Nat) (t : Int) : Pa := { A with own := fun k => wo (A.own k) t, gl := wo A.gl t, runs := Pl.up A.runs i (t + 1), work := Pl.up A.work i 0 }
theorem drop2_at (A : Pa) (t : Int) (j : Nat) : (Pl.drop2 A t j).own j = A.own j := if_neg (Nat.lt_irrefl j)
set_option maxHeartbeats 8000000 in
set_option maxRecDepth 100000 in
theorem ref_runs (h : Pg R W A u0 u1 u2 u3 vs) (hi : Inv A) (hn : A.n ≤ 8) {i : Nat} (hin : i < A.n) (t : Int) : Calls Try.prog 52 #[.agg #[u0, u1, u2, u3], .int .i64 (i : Int), .int .i64 t] W fun e w' => ∃ q0 q1 q2 q3 qs, e = .returned (.agg #[q0, q1, q2, q3]) ∧ Below W.heap.size W w' ∧ Pg R w' (runsA A i t) q0 q1 q2 q3 qs := by
  have hu41 := Try.underlying41
  obtain ⟨b0, c0, rfl⟩ := row_at h.r0 hi.pos
  obtain ⟨b1, c1, rfl⟩ := row_at h.r1 hi.pos
  obtain ⟨b2, c2, rfl⟩ := row_at h.r2 hi.pos
  obtain ⟨Z3, c3, rfl⟩ := h.r3.open
  have HP := Aside0.mk h
  have HI := Aside0.mk hi
  have HN8 := Aside0.mk hn
  have ONE := Aside0.mk h.one
  clear h hi hn
  have HIN := Aside0.mk hin
  have p1 : (0 ≤ (i : Int)) = True := eq_true (by omega)
  have p2 : ((i : Int) < (A.n : Int)) = True := eq_true (by omega)
  have p3 : (i < A.n) = True := eq_true (by omega)
  clear hin
  go_enter Try.func52, Try.ntmps52
  go_upto_region 1 with (first
    | ((with_reducible refine gate_dst (N := 3) rfl ?_); refine box_event ?hg (N := 3) ?hd (cs := #[.slice (some ⟨b0, 0, none⟩) A.n c0, .slice (some ⟨b1, 0, none⟩) A.n c1, .slice (some ⟨b2, 0, none⟩) A.n c2, .slice Z3 A.gl.length c3]) (t := 41) ?hr ?_; (case hd => rfl); (case hg => rfl); (case hr => first | (go_simp; done) | (go_simp; rfl)); intro g1 hg w1 hbox hb; have B1 := Aside0.mk hb; have G1 := Aside0.mk hg; have X1 := Aside0.mk hbox; clear hbox hb hg)
    | ((with_reducible refine gate_dst (N := 6) rfl ?_); refine box_event ?hg (N := 6) ?hd (cs := #[.slice none 0 0, .slice none 0 0, .slice none 0 0, .slice none 0 0]) (t := 41) ?hr ?_; (case hd => rfl); (case hg => rfl); (case hr => first | (go_simp; done) | (go_simp; rfl)); intro g2 hg w2 hbox hb; have B2 := Aside0.mk hb; have G2 := Aside0.mk hg; have X2 := Aside0.mk hbox; clear hbox hb hg))
  have HJ := Aside0.mk (J.mk2 (W := W) B1.out G1.out X1.out B2.out G2.out X2.out)
  clear B1 G1 X1 B2 G2 X2
  go_upto_region 2 with (first
    | (refine wpList_load_row rfl 41 (.tmp 3) rfl g1 rfl 41 _ (0, 0) _ HJ.out.h1 Try.underlying41 rfl info41 ?_)
    | (go_at_call 50; (refine (copy_pg (HP.out.below HJ.out.hb) HN8.out (Inv.gl_le HI.out)).mono ?_); rintro e w3 ⟨z0, z1, z2, z3, rfl, hb, hl⟩; obtain ⟨d0, k0, rfl⟩ := row_at hl.r0 HI.out.pos; obtain ⟨d1, k1, rfl⟩ := row_at hl.r1 HI.out.pos; obtain ⟨d2, k2, rfl⟩ := row_at hl.r2 HI.out.pos; obtain ⟨Y3, k3, rfl⟩ := hl.r3.open; have B3 := Aside0.mk hb; have L3 := Aside0.mk hl; clear hb hl)
    | ((with_reducible refine gate_dst (N := 7) rfl ?_); refine box_event ?hg (N := 7) ?hd (cs := #[.slice none 0 0, .slice none 0 0, .slice none 0 0, .slice none 0 0]) (t := 41) ?hr ?_; (case hd => rfl); (case hg => rfl); (case hr => first | (go_simp; done) | (go_simp; rfl)); intro g3 hg w4 hbox hb; have B4 := Aside0.mk hb; have G4 := Aside0.mk hg; have X4 := Aside0.mk hbox; clear hbox hb hg)
    | (refine wpList_store_row rfl 41 (.tmp 7) (.tmp 10) rfl g3 _ rfl rfl 41 _ X4.out info41 rfl L3.out.pg.one ?_))
  have HK := Aside0.mk (Kx.mk4 HP.out.up HJ.out B3.out L3.out B4.out G4.out X4.out)
  clear HJ B3 B4 G4 X4
  generalize w4.setRow g3 #[.slice (some ⟨d0, 0, none⟩) A.n k0, .slice (some ⟨d1, 0, none⟩) A.n k1, .slice (some ⟨d2, 0, none⟩) A.n k2, .slice Y3 A.gl.length k3] = w5 at *
  go_upto_block 0 with (fail)
  go_wp2
  have HK0 := Aside0.mk (show Kx R W w5 (Pl.drop2 A t 0) _ _ _ _ g1 g2 g3 _ _ _ _ _ from by rw [Pl.drop2_zero]; exact HK.out)
  clear HK
  go_loopg [8] A.n (fun kq v8 w' => ∃ (j : Nat) (vs' : Nat → Value), v8 = .int .i64 (j : Int) ∧ Aside0 (j + kq = A.n) ∧ Aside0 (Kx R W w' (Pl.drop2 A t j) (.slice (some ⟨b0, 0, none⟩) A.n c0) (.slice (some ⟨b1, 0, none⟩) A.n c1) (.slice (some ⟨b2, 0, none⟩) A.n c2) (.slice Z3 A.gl.length c3) g1 g2 g3 (.slice (some ⟨d0, 0, none⟩) A.n k0) (.slice (some ⟨d1, 0, none⟩) A.n k1) (.slice (some ⟨d2, 0, none⟩) A.n k2) (.slice Y3 A.gl.length k3) vs'))
  case atStart => exact ⟨0, vs, rfl, ⟨by omega⟩, HK0⟩
  case round =>
    clear HK0
    obtain ⟨j, vs', rfl, HJK, HK⟩ := hrel
    have y2 : wr.cell? ⟨g3, 2, none⟩ = some (.slice (some ⟨d2, 0, none⟩) A.n k2) := (blk_cell HK.out.h3 2).trans rfl
    rcases gk with _ | k1
    · have HE := Aside0.mk (show j = A.n from by have := HJK.out; omega)
      have e1 : decide ((j : Int) < (A.n : Int)) = false := decide_eq_false (by have := HE.out; omega)
      have e2 : decide (j < A.n) = false := decide_eq_false (by have := HE.out; omega)
      go_upto_region 6 with (fail)
      clear y2 e1 e2
      have y3 : wr.cell? ⟨g3, 3, none⟩ = some (.slice Y3 A.gl.length k3) := (blk_cell HK.out.h3 3).trans rfl
      go_upto_region 7 with (first
        | (go_at_call 53; (refine (out_any HK.out.lo.pg.r3 (by have := Inv.gl_le HI.out; exact Nat.le_trans this (by decide)) t).mono ?_); rintro e w6 ⟨v6, rfl, hv, hb⟩; have HV := Aside0.mk hv; have HK6 := Aside0.mk (HK.out.below hb); have HF6 := Aside0.mk (HK.out.lo.fa hv); clear hv hb; obtain ⟨L, hL⟩ : ∃ L, L = wo A.gl t := ⟨_, rfl⟩; rw [show (Pl.drop2 A t j).gl = A.gl from rfl, ← hL] at HV; have HLL := Aside0.mk hL; clear hL; obtain ⟨Y6, k6, rfl⟩ := own_slice HV.out; have fz := blk_frozen HK6.out.h3 3; have cz : w6.cell? ⟨g3, 3, none⟩ = some (.slice Y3 A.gl.length k3) := (blk_cell HK6.out.h3 3).trans rfl))
      have HK7 := Aside0.mk (HK6.out.gl (Rw.of HV.out) HF6.out)
      clear HK HK6 HV HF6 fz cz y3
      generalize w6.setCell ⟨g3, 3, none⟩ (.slice Y6 L.length k6) = w7 at *
      have HKE := Aside0.mk (HK7.out.below (below_drew (Below.refl _ _)))
      refine start_ (n := 11) (S := fun w' => w'.cell? ⟨g3, 0, none⟩ = some (.slice (some ⟨d0, 0, none⟩) A.n k0) ∧ w'.cell? ⟨g3, 1, none⟩ = some (.slice (some ⟨d1, 0, none⟩) A.n k1)) (ds := [10]) #[false, false, false, false, false, false, false, false, false, false, false] (by kernel_rfl) rfl rfl ⟨((blk_cell HKE.out.h3 0).trans rfl), ((blk_cell HKE.out.h3 1).trans rfl)⟩ (fun hHeld => ?_)
      refine pure_ (i := 0) (N := some 34) (v := ?_) (a' := ?_) #[true, false, false, false, false, false, false, false, false, false, false] rfl rfl (by kernel_rfl) (fun _ _ _ h => h) (Or.inl ⟨by rfl, ?_⟩) ?_ ?_
      rotate_left
      · intro w'
        go_simp
        with_reducible rfl
      rotate_left
      · simp only [Act.put, List.setIfInBounds_toArray, List.set_cons_zero, List.set_cons_succ, i64_w, i32_w]
        rfl
      refine pure_ (i := 2) (N := some 36) (v := ?_) (a' := ?_) #[true, false, true, false, false, false, false, false, false, false, false] rfl rfl (by kernel_rfl) (fun _ _ _ h => h) (Or.inl ⟨by rfl, ?_⟩) ?_ ?_
      rotate_left
      · intro w'
        go_simp
        with_reducible rfl
      rotate_left
      · simp only [Act.put, List.setIfInBounds_toArray, List.set_cons_zero, List.set_cons_succ, i64_w, i32_w]
        rfl
      refine pure_ (i := 3) (N := some 37) (v := ?_) (a' := ?_) #[true, false, true, true, false, false, false, false, false, false, false] rfl rfl (by kernel_rfl) (fun _ _ _ h => h) (Or.inl ⟨by rfl, ?_⟩) ?_ ?_
      rotate_left
      · intro w'
        go_simp
        with_reducible rfl
      rotate_left
      · simp only [Act.put, List.setIfInBounds_toArray, List.set_cons_zero, List.set_cons_succ, i64_w, i32_w]
        rfl
      refine pure_ (i := 5) (N := some 39) (v := ?_) (a' := ?_) #[true, false, true, true, false, true, false, false, false, false, false] rfl rfl (by kernel_rfl) (fun _ _ _ h => h) (Or.inl ⟨by rfl, ?_⟩) ?_ ?_
      rotate_left
      · intro w'
        go_simp
        with_reducible rfl
      rotate_left
      · simp only [Act.put, List.setIfInBounds_toArray, List.set_cons_zero, List.set_cons_succ, i64_w, i32_w]
        rfl
      refine pure_ (i := 6) (N := some 40) (v := ?_) (a' := ?_) #[true, false, true, true, false, true, true, false, false, false, false] rfl rfl (by kernel_rfl) (fun _ _ _ h => h) (Or.inl ⟨by rfl, ?_⟩) ?_ ?_
      rotate_left
      · intro w'
        go_simp
        with_reducible rfl
      rotate_left
      · simp only [Act.put, List.setIfInBounds_toArray, List.set_cons_zero, List.set_cons_succ, i64_w, i32_w]
        rfl
      refine take_ (i := 1) (N := some 35) (v := ?_) (a' := ?_) #[true, true, true, true, false, true, true, false, false, false, false] rfl rfl (by kernel_rfl) (fun _ _ _ h => h) (Or.inl ⟨by rfl, ?_⟩) hHeld ?_ ?_
      rotate_left
      · rintro w' ⟨s0, s1⟩
        go_simp
        with_reducible rfl
      rotate_left
      · simp only [Act.put, List.setIfInBounds_toArray, List.set_cons_zero, List.set_cons_succ, i64_w, i32_w]
        rfl
      refine pure_ (i := 7) (N := some 41) (v := ?_) (a' := ?_) #[true, true, true, true, false, true, true, true, false, false, false] rfl rfl (by kernel_rfl) (fun _ _ _ h => h) (Or.inl ⟨by rfl, ?_⟩) ?_ ?_
      rotate_left
      · intro w'
        go_simp
        with_reducible rfl
      rotate_left
      · simp only [Act.put, List.setIfInBounds_toArray, List.set_cons_zero, List.set_cons_succ, i64_w, i32_w]
        rfl
      refine take_ (i := 4) (N := some 38) (v := ?_) (a' := ?_) #[true, true, true, true, true, true, true, true, false, false, false] rfl rfl (by kernel_rfl) (fun _ _ _ h => h) (Or.inl ⟨by rfl, ?_⟩) hHeld ?_ ?_
      rotate_left
      · rintro w' ⟨s0, s1⟩
        go_simp
        with_reducible rfl
      rotate_left
      · simp only [Act.put, List.setIfInBounds_toArray, List.set_cons_zero, List.set_cons_succ, i64_w, i32_w]
        rfl
      refine one_ (i := 8) (N := none) #[true, true, true, true, true, true, true, true, true, false, false] rfl rfl (by kernel_rfl) (by decide) (fun K hK => ?_)
      have fz := (HKE.out.lo.pg.at0 HIN.out).2
      have cz := (HKE.out.lo.pg.at0 HIN.out).1
      refine skip_ (w1 := ?_) (by rfl) rfl ?_ ?_
      rotate_left
      · go_simp
        rfl
      have HK8 := Aside0.mk (show Kx R W (w7.setCell ⟨d0, i, none⟩ (.int .i64 t)).drew _ _ _ _ _ g1 g2 g3 _ _ _ _ _ from HKE.out.on HIN.out t)
      clear fz cz
      refine hK.out _ _ ⟨((blk_cell HK8.out.h3 0).trans rfl), ((blk_cell HK8.out.h3 1).trans rfl)⟩ (fun hHeld => ?_)
      clear hK K
      refine pure_ (i := 9) (N := some 42) (v := ?_) (a' := ?_) #[true, true, true, true, true, true, true, true, true, true, false] rfl rfl (by kernel_rfl) (fun _ _ _ h => h) (Or.inl ⟨by rfl, ?_⟩) ?_ ?_
      rotate_left
      · intro w'
        go_simp
        with_reducible rfl
      rotate_left
      · simp only [Act.put, List.setIfInBounds_toArray, List.set_cons_zero, List.set_cons_succ, i64_w, i32_w]
        rfl
      refine last_ (i := 10) (N := none) #[true, true, true, true, true, true, true, true, true, true, true] rfl rfl (by kernel_rfl) (by decide) (fun K hK => ?_)
      have fz := (HK8.out.lo.pg.at1 HIN.out).2
      have cz := (HK8.out.lo.pg.at1 HIN.out).1
      refine skip_ (w1 := ?_) (by rfl) rfl ?_ ?_
      rotate_left
      · go_simp
        rfl
      refine hK.out _ _ ?_
      clear hK K
      refine done_ (by kernel_rfl) ?_

      have HK9 := Aside0.mk (show Kx R W ((w7.setCell ⟨d0, i, none⟩ (.int .i64 t)).setCell ⟨d1, i, none⟩ (.int .i64 0)).drew _ _ _ _ _ g1 g2 g3 _ _ _ _ _ from HK8.out.cn HIN.out 0)
      clear HK7 HKE HK8 fz cz hHeld
      generalize ((w7.setCell ⟨d0, i, none⟩ (.int .i64 t)).setCell ⟨d1, i, none⟩ (.int .i64 0)).drew = w9 at *
      go_wp2_with (first | (refine wpList_load_row rfl 41 (.tmp 7) rfl g3 rfl 41 _ (0, 0) _ HK9.out.h3 Try.underlying41 rfl info41 ?_) | (refine wpList_store_row rfl 41 (.tmp 6) (.tmp 43) rfl g2 _ rfl rfl 41 _ HK9.out.j.h2 info41 rfl HK9.out.lo.pg.one ?_))
      refine bodyPost_ret (results_cell_row rfl _ _ g2 41 #[.slice (some ⟨d0, 0, none⟩) A.n k0, .slice (some ⟨d1, 0, none⟩) A.n k1, .slice (some ⟨d2, 0, none⟩) A.n k2, .slice Y6 L.length k6] (0, 0) _ rfl HK9.out.done.1 Try.underlying41 rfl info41) rfl (by first | exact ⟨_, _, _, _, _, rfl, HK9.out.done.2.1, HK9.out.done.2.2.to (B := runsA A i t) rfl (fun q hq => rfl) (fun q hq => rfl) (fun q hq => (if_pos (show q < j by rw [HE.out]; exact hq)).symm) HLL.out.symm⟩ | exact ⟨_, _, _, _, rfl, HK9.out.done.2.1, _, HK9.out.done.2.2.to (B := runsA A i t) rfl (fun q hq => rfl) (fun q hq => rfl) (fun q hq => (if_pos (show q < j by rw [HE.out]; exact hq)).symm) HLL.out.symm⟩)
    · have HJN := Aside0.mk (show j < A.n from by have := HJK.out; omega)
      have e1 : decide ((j : Int) < (A.n : Int)) = true := decide_eq_true (by have := HJN.out; omega)
      have e2 : decide (j < A.n) = true := decide_eq_true HJN.out
      have p4 : (0 ≤ (j : Int)) = True := eq_true (by omega)
      have p5 : ((j : Int) < (A.n : Int)) = True := eq_true (by have := HJN.out; omega)
      have p6 : (j < A.n) = True := eq_true HJN.out
      have ew : Aside0 (wrap64 ((j : Int) + 1) = (j : Int) + 1) := ⟨by have h2 := HJN.out; have h3 := HN8.out; unfold wrap64; omega⟩
      have HRJ := Aside0.mk (HK.out.lo.rows j HJN.out)
      rw [drop2_at] at HRJ
      obtain ⟨YJ, cJ, hvj⟩ := HRJ.out.open
      have HVJ := Aside0.mk hvj
      rw [hvj] at HRJ
      clear hvj
      go_upto_region 5 with (fail)
      clear y2
      have HKD := Aside0.mk (HK.out.below (below_drew (Below.refl _ _)))
      replace HRJ := Aside0.mk (HRJ.out.below (below_drew (Below.refl _ _)))
      refine start_ (n := 12) (S := fun w' => w'.cell? ⟨g3, 2, none⟩ = some (.slice (some ⟨d2, 0, none⟩) A.n k2) ∧ w'.cell? ⟨d2, j, none⟩ = some (.slice YJ (A.own j).length cJ)) (ds := [11]) #[false, false, false, false, false, false, false, false, false, false, false, false] (by kernel_rfl) rfl rfl ⟨((blk_cell HKD.out.h3 2).trans rfl), ((HKD.out.lo.pg.at2 (A := Pl.drop2 A t j) HJN.out).1.trans (by rw [HVJ.out]))⟩ (fun hHeld => ?_)
      refine pure_ (i := 0) (N := some 18) (v := ?_) (a' := ?_) #[true, false, false, false, false, false, false, false, false, false, false, false] rfl rfl (by kernel_rfl) (fun _ _ _ h => h) (Or.inl ⟨by rfl, ?_⟩) ?_ ?_
      rotate_left
      · intro w'
        go_simp
        with_reducible rfl
      rotate_left
      · simp only [Act.put, List.setIfInBounds_toArray, List.set_cons_zero, List.set_cons_succ, i64_w, i32_w]
        rfl
      refine pure_ (i := 2) (N := some 20) (v := ?_) (a' := ?_) #[true, false, true, false, false, false, false, false, false, false, false, false] rfl rfl (by kernel_rfl) (fun _ _ _ h => h) (Or.inl ⟨by rfl, ?_⟩) ?_ ?_
      rotate_left
      · intro w'
        go_simp
        with_reducible rfl
      rotate_left
      · simp only [Act.put, List.setIfInBounds_toArray, List.set_cons_zero, List.set_cons_succ, i64_w, i32_w]
        rfl
      refine pure_ (i := 3) (N := some 21) (v := ?_) (a' := ?_) #[true, false, true, true, false, false, false, false, false, false, false, false] rfl rfl (by kernel_rfl) (fun _ _ _ h => h) (Or.inl ⟨by rfl, ?_⟩) ?_ ?_
      rotate_left
      · intro w'
        go_simp
        with_reducible rfl
      rotate_left
      · simp only [Act.put, List.setIfInBounds_toArray, List.set_cons_zero, List.set_cons_succ, i64_w, i32_w]
        rfl
      refine pure_ (i := 5) (N := some 23) (v := ?_) (a' := ?_) #[true, false, true, true, false, true, false, false, false, false, false, false] rfl rfl (by kernel_rfl) (fun _ _ _ h => h) (Or.inl ⟨by rfl, ?_⟩) ?_ ?_
      rotate_left
      · intro w'
        go_simp
        with_reducible rfl
      rotate_left
      · simp only [Act.put, List.setIfInBounds_toArray, List.set_cons_zero, List.set_cons_succ, i64_w, i32_w]
        rfl
      refine pure_ (i := 8) (N := some 26) (v := ?_) (a' := ?_) #[true, false, true, true, false, true, false, false, true, false, false, false] rfl rfl (by kernel_rfl) (fun _ _ _ h => h) (Or.inl ⟨by rfl, ?_⟩) ?_ ?_
      rotate_left
      · intro w'
        go_simp
        with_reducible rfl
      rotate_left
      · simp only [Act.put, List.setIfInBounds_toArray, List.set_cons_zero, List.set_cons_succ, i64_w, i32_w]
        rfl
      refine take_ (i := 1) (N := some 19) (v := ?_) (a' := ?_) #[true, true, true, true, false, true, false, false, true, false, false, false] rfl rfl (by kernel_rfl) (fun _ _ _ h => h) (Or.inl ⟨by rfl, ?_⟩) hHeld ?_ ?_
      rotate_left
      · rintro w' ⟨s0, s1⟩
        go_simp
        with_reducible rfl
      rotate_left
      · simp only [Act.put, List.setIfInBounds_toArray, List.set_cons_zero, List.set_cons_succ, i64_w, i32_w]
        rfl
      refine take_ (i := 4) (N := some 22) (v := ?_) (a' := ?_) #[true, true, true, true, true, true, false, false, true, false, false, false] rfl rfl (by kernel_rfl) (fun _ _ _ h => h) (Or.inl ⟨by rfl, ?_⟩) hHeld ?_ ?_
      rotate_left
      · rintro w' ⟨s0, s1⟩
        go_simp
        with_reducible rfl
      rotate_left
      · simp only [Act.put, List.setIfInBounds_toArray, List.set_cons_zero, List.set_cons_succ, i64_w, i32_w]
        rfl
      refine pure_ (i := 6) (N := some 24) (v := ?_) (a' := ?_) #[true, true, true, true, true, true, true, false, true, false, false, false] rfl rfl (by kernel_rfl) (fun _ _ _ h => h) (Or.inl ⟨by rfl, ?_⟩) ?_ ?_
      rotate_left
      · intro w'
        go_simp
        with_reducible rfl
      rotate_left
      · simp only [Act.put, List.setIfInBounds_toArray, List.set_cons_zero, List.set_cons_succ, i64_w, i32_w]
        rfl
      refine take_ (i := 7) (N := some 25) (v := ?_) (a' := ?_) #[true, true, true, true, true, true, true, true, true, false, false, false] rfl rfl (by kernel_rfl) (fun _ _ _ h => h) (Or.inl ⟨by rfl, ?_⟩) hHeld ?_ ?_
      rotate_left
      · rintro w' ⟨s0, s1⟩
        go_simp
        with_reducible rfl
      rotate_left
      · simp only [Act.put, List.setIfInBounds_toArray, List.set_cons_zero, List.set_cons_succ, i64_w, i32_w]
        rfl
      refine one_ (i := 9) (N := some 27) #[true, true, true, true, true, true, true, true, true, true, false, false] rfl rfl (by kernel_rfl) (by decide) (fun K hK => ?_)
      refine goes_ Try.func53 (by kernel_rfl) rfl #[.slice YJ (A.own j).length cJ, .int .i64 t] (by rfl) rfl rfl (by simp only [List.map_toArray, List.map_cons, List.map_nil]; rfl) ?_
      with_reducible refine (out_any (v := .slice YJ (A.own j).length cJ) HRJ.out (by have := Inv.own_le HI.out HJN.out; omega) t).mono ?_
      rintro e w6 ⟨v6, rfl, hv, hb⟩
      refine ⟨_, rfl, ?_⟩
      have HV := Aside0.mk hv
      have HK6 := Aside0.mk (HKD.out.below hb)
      have HF6 := Aside0.mk (HKD.out.lo.fa hv)
      clear hv hb
      obtain ⟨L, hL⟩ : ∃ L, L = wo (A.own j) t := ⟨_, rfl⟩
      rw [← hL] at HV
      have HLL := Aside0.mk hL
      clear hL
      refine hK.out _ _ ⟨((blk_cell HK6.out.h3 2).trans rfl), ((HK6.out.lo.pg.at2 (A := Pl.drop2 A t j) HJN.out).1.trans (by rw [HVJ.out]))⟩ (fun hHeld => ?_)
      clear hK K
      refine norm_ (a' := ?_) ?_ ?_
      rotate_left
      · show Act.put _ (some 27) _ = _
        simp only [Act.put, List.setIfInBounds_toArray, List.set_cons_zero, List.set_cons_succ, i64_w, i32_w]
        rfl
      refine pure_ (i := 10) (N := some 28) (v := ?_) (a' := ?_) #[true, true, true, true, true, true, true, true, true, true, true, false] rfl rfl (by kernel_rfl) (fun _ _ _ h => h) (Or.inl ⟨by rfl, ?_⟩) ?_ ?_
      rotate_left
      · intro w'
        go_simp
        with_reducible rfl
      rotate_left
      · simp only [Act.put, List.setIfInBounds_toArray, List.set_cons_zero, List.set_cons_succ, i64_w, i32_w]
        rfl
      refine last_ (i := 11) (N := none) #[true, true, true, true, true, true, true, true, true, true, true, true] rfl rfl (by kernel_rfl) (by decide) (fun K hK => ?_)
      have fz := (HK6.out.lo.pg.at2 (A := Pl.drop2 A t j) HJN.out).2
      have cz := (HK6.out.lo.pg.at2 (A := Pl.drop2 A t j) HJN.out).1
      obtain ⟨Y6, k6, rfl⟩ := own_slice HV.out
      refine skip_ (w1 := ?_) (by rfl) rfl ?_ ?_
      rotate_left
      · go_simp
        rfl
      refine hK.out _ _ ?_
      clear hK K
      refine done_ (by kernel_rfl) ?_

      have HK7 := Aside0.mk (show Kx R W (w6.setCell ⟨d2, j, none⟩ (.slice Y6 L.length k6)) (Pl.drop2 A t (j + 1)) _ _ _ _ g1 g2 g3 _ _ _ _ _ from by
        rw [← Pl.drop2_step, ← HLL.out]
        exact HK6.out.own (A := Pl.drop2 A t j) HJN.out (Rw.of HV.out) HF6.out)
      clear HK HKD HK6 HV HF6 hHeld
      generalize w6.setCell ⟨d2, j, none⟩ (.slice Y6 L.length k6) = w7 at *
      go_wp2
      go_roundg k1
      case measure => omega
      case rel => exact ⟨j + 1, _, by rw [ew.out]; simp, ⟨by have := HJK.out; omega⟩, HK7⟩
end
end Go.Proofs.Ytjcjhmnfknenlaa.Px
