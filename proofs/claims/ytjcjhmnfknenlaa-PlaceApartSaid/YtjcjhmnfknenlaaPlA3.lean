/- The page's places: same. Conditions: none. -/
import Derived.Test.YtjcjhmnfknenlaaPx14
import Derived.Test.YtjcjhmnfknenlaaPlA2
namespace Go.Proofs.Ytjcjhmnfknenlaa.Px
open Go.RowKit Go.Proofs.Ytjcjhmnfknenlaa.PPlaceApart Go.Proofs.YtjcjhmnfknenlaaW.PrintWords Go.Proofs.YtjcjhmnfknenlaaW.PrintLast Go.Proofs.YtjcjhmnfknenlaaW.PrintMore
open Pl (Pa Inv Ok wher on readyA readyB putA leaveA dropA workA workN fetchA allS inB doA flagI wo A0 rg sumN)
set_option linter.unusedVariables false
set_option linter.unusedSimpArgs false

section
variable {S R : Nat → Prop} {w W : World} {gp : Nat} {A : Pa} {u0 u1 u2 u3 : Value} {vs : Nat → Value}
theorem pl_below {W' : World} (h : Pl.Pl S W gp A) (hb : Below W.heap.size W W') : Pl.Pl S W' gp A := by
  obtain ⟨bl, cl, ex, r, q, h1⟩ := h
  exact ⟨bl, cl, ex, r, q, h1.below hb⟩
theorem sm_workers (h : Pl.Pl S W gp A) : Calls Try.prog 10 #[.pointer (some ⟨gp, 0, none⟩)] W fun e w' => e = .returned (.int .i64 (A.n : Int)) ∧ Below W.heap.size W w' := by
  obtain ⟨bl, cl, ex, r, q, h1⟩ := h
  exact (Pl.workers_any h1).mono fun e w' ⟨h3, h4⟩ => ⟨h3, by rw [h4]; exact Below.refl _ _⟩
theorem sm_all (h : Pl.Pl S W gp A) (hi : Inv A) : Calls Try.prog 9 #[.pointer (some ⟨gp, 0, none⟩)] W fun e w' => e = .returned (.int .u64 ((allS A : Nat) : Int)) ∧ Below W.heap.size W w' := by
  obtain ⟨bl, cl, ex, r, q, h1⟩ := h
  exact (Pl.all_any h1 hi.ok).mono fun e w' ⟨h3, n, h4⟩ => ⟨h3, by rw [h4]; exact pw_below_drewN (Below.refl _ _) n⟩
theorem sm_where (h : Pl.Pl S W gp A) (hi : Inv A) (t : Int) : Calls Try.prog 20 #[.pointer (some ⟨gp, 0, none⟩), .int .i64 t] W fun e w' => e = .returned (.int .i64 (wher A t)) ∧ Below W.heap.size W w' := by
  obtain ⟨bl, cl, ex, r, q, h1⟩ := h
  exact (Pl.where_any h1 hi.wh t).mono fun e w' ⟨h3, h4⟩ => ⟨h3, by rw [h4]; exact Below.refl _ _⟩
theorem sm_global (h : Pl.Pl S W gp A) : Calls Try.prog 18 #[.pointer (some ⟨gp, 0, none⟩)] W fun e w' => ∃ v, e = .returned v ∧ Below W.heap.size W w' ∧ Rw w' v A.gl := by
  obtain ⟨bl, cl, ex, r, q, h1⟩ := h
  exact (Pl.global_any h1).mono fun e w' ⟨v, h3, h4, h5⟩ => ⟨v, h3, h4, Rw.of h5⟩
theorem sm_on (h : Pl.Pl S W gp A) (hi : Inv A) (x : Int) : Calls Try.prog 11 #[.pointer (some ⟨gp, 0, none⟩), .int .i64 x] W fun e w' => e = .returned (.int .i64 (on A x)) ∧ Below W.heap.size W w' := by
  obtain ⟨bl, cl, ex, r, q, h1⟩ := h
  exact (Pl.on_any h1 hi.runs x).mono fun e w' ⟨h3, h4⟩ => ⟨h3, by rw [h4]; exact Below.refl _ _⟩
theorem sm_onn (h : Pl.Pl S W gp A) (hi : Inv A) : Calls Try.prog 11 #[.pointer (some ⟨gp, 0, none⟩), .int .i64 (A.n : Int)] W fun e w' => e = .returned (.int .i64 (-1)) ∧ Below W.heap.size W w' := by
  have e : on A (A.n : Int) = -1 := by unfold on; rw [if_neg (by omega)]
  rw [← e]
  exact sm_on h hi _
theorem sm_onj (h : Pl.Pl S W gp A) (hi : Inv A) {j : Nat} (hj : j < A.n) {rr : Int} (hr : rr = A.runs j - 1) : Calls Try.prog 11 #[.pointer (some ⟨gp, 0, none⟩), .int .i64 (j : Int)] W fun e w' => e = .returned (.int .i64 rr) ∧ Below W.heap.size W w' := by
  have e : on A (j : Int) = rr := by unfold on; rw [if_pos ⟨by omega, by omega⟩, Int.toNat_natCast, hr]
  rw [← e]
  exact sm_on h hi _
theorem sm_ownin (h : Pl.Pl S W gp A) {j : Nat} (hj : j < A.n) : Calls Try.prog 19 #[.pointer (some ⟨gp, 0, none⟩), .int .i64 (j : Int)] W fun e w' => ∃ v, e = .returned v ∧ Below W.heap.size W w' ∧ Rw w' v (A.own j) := by
  obtain ⟨bl, cl, ex, r, q, h1⟩ := h
  exact (Pl.own_in h1 hj).mono fun e w' ⟨v, h3, h4, h5⟩ => ⟨v, h3, h4, Rw.of h5⟩
theorem sm_ownout (h : Pl.Pl S W gp A) (x : Int) (hx : x < 0 ∨ (A.n : Int) ≤ x) : Calls Try.prog 19 #[.pointer (some ⟨gp, 0, none⟩), .int .i64 x] W fun e w' => e = .returned (.slice none 0 0) ∧ Below W.heap.size W w' := by
  obtain ⟨bl, cl, ex, r, q, h1⟩ := h
  exact (Pl.own_out h1 x hx).mono fun e w' ⟨h3, h4⟩ => ⟨h3, by rw [h4]; exact Below.refl _ _⟩
theorem ints_same {u v : Value} {a : List Int} (h : Rw W u a) (h2 : Rw W v a) (hl : a.length ≤ 1000) : Calls Try.prog 33 #[u, v] W fun e w' => e = .returned (.bool true) ∧ Below W.heap.size W w' := by
  have h3 := ints_any h h2 hl
  rwa [decide_eq_true rfl] at h3
set_option maxHeartbeats 16000000 in
set_option maxRecDepth 100000 in
theorem same_any (hs : Pl.Pl S W gp A) (hi : Inv A) (hn : A.n ≤ 8) (h : Pg R W A u0 u1 u2 u3 vs) (t : Int) : Calls Try.prog 16 #[.pointer (some ⟨gp, 0, none⟩), .agg #[u0, u1, u2, u3], .int .i64 t] W fun e w' => e = .returned (.bool true) ∧ Below W.heap.size W w' := by
  have hu41 := Try.underlying41
  obtain ⟨b0, c0, rfl⟩ := row_at h.r0 hi.pos
  obtain ⟨b1, c1, rfl⟩ := row_at h.r1 hi.pos
  obtain ⟨b2, c2, rfl⟩ := row_at h.r2 hi.pos
  obtain ⟨Z3, c3, rfl⟩ := h.r3.open
  have HP := Aside0.mk h
  have HI := Aside0.mk hi
  have HN8 := Aside0.mk hn
  have ONE := Aside0.mk h.one
  clear h hi hn
  have HS := Aside0.mk hs
  clear hs
  go_enter Try.func16, Try.ntmps16
  go_upto_region 1 with (first
    | ((with_reducible refine gate_dst (N := 4) rfl ?_); refine box_event ?hg (N := 4) ?hd (cs := #[.slice (some ⟨b0, 0, none⟩) A.n c0, .slice (some ⟨b1, 0, none⟩) A.n c1, .slice (some ⟨b2, 0, none⟩) A.n c2, .slice Z3 A.gl.length c3]) (t := 41) ?hr ?_; (case hd => rfl); (case hg => rfl); (case hr => first | (go_simp; done) | (go_simp; rfl)); intro g1 hg w1 hbox hb; have B1 := Aside0.mk hb; have G1 := Aside0.mk hg; have X1 := Aside0.mk hbox; clear hbox hb hg))
  have BD := Aside0.mk (show Below W.heap.size W w1.drew from below_drew B1.out)
  have XD := Aside0.mk (show w1.drew.heap[g1]? = _ from X1.out)
  clear B1 X1 G1
  refine start_ (n := 44) (S := fun w' => w'.heap[g1]? = some (.cells #[.slice (some ⟨b0, 0, none⟩) A.n c0, .slice (some ⟨b1, 0, none⟩) A.n c1, .slice (some ⟨b2, 0, none⟩) A.n c2, .slice Z3 A.gl.length c3] 41 (0, 0)) ∧ w'.cell? ⟨g1, 0, none⟩ = some (.slice (some ⟨b0, 0, none⟩) A.n c0) ∧ w'.cell? ⟨g1, 3, none⟩ = some (.slice Z3 A.gl.length c3)) (ds := []) #[false, false, false, false, false, false, false, false, false, false, false, false, false, false, false, false, false, false, false, false, false, false, false, false, false, false, false, false, false, false, false, false, false, false, false, false, false, false, false, false, false, false, false, false] (by kernel_rfl) rfl rfl ⟨XD.out, ((blk_cell XD.out 0).trans rfl), ((blk_cell XD.out 3).trans rfl)⟩ (fun hHeld => ?_)
  refine pure_ (i := 0) (N := some 8) (v := ?_) (a' := ?_) #[true, false, false, false, false, false, false, false, false, false, false, false, false, false, false, false, false, false, false, false, false, false, false, false, false, false, false, false, false, false, false, false, false, false, false, false, false, false, false, false, false, false, false, false] rfl rfl (by kernel_rfl) (fun _ _ _ h => h) (Or.inl ⟨by rfl, ?_⟩) ?_ ?_
  rotate_left
  · intro w'
    go_simp
    with_reducible rfl
  rotate_left
  · simp only [Act.put, List.setIfInBounds_toArray, List.set_cons_zero, List.set_cons_succ, i64_w, i32_w]
    rfl
  refine pure_ (i := 2) (N := some 10) (v := ?_) (a' := ?_) #[true, false, true, false, false, false, false, false, false, false, false, false, false, false, false, false, false, false, false, false, false, false, false, false, false, false, false, false, false, false, false, false, false, false, false, false, false, false, false, false, false, false, false, false] rfl rfl (by kernel_rfl) (fun _ _ _ h => h) (Or.inl ⟨by rfl, ?_⟩) ?_ ?_
  rotate_left
  · intro w'
    go_simp
    with_reducible rfl
  rotate_left
  · simp only [Act.put, List.setIfInBounds_toArray, List.set_cons_zero, List.set_cons_succ, i64_w, i32_w]
    rfl
  refine take_ (i := 3) (N := some 11) (v := ?_) (a' := ?_) #[true, false, true, true, false, false, false, false, false, false, false, false, false, false, false, false, false, false, false, false, false, false, false, false, false, false, false, false, false, false, false, false, false, false, false, false, false, false, false, false, false, false, false, false] rfl rfl (by kernel_rfl) (fun _ _ _ h => h) (Or.inl ⟨by rfl, ?_⟩) hHeld ?_ ?_
  rotate_left
  · rintro w' ⟨s0, s1, s2⟩
    go_simp
    with_reducible rfl
  rotate_left
  · simp only [Act.put, List.setIfInBounds_toArray, List.set_cons_zero, List.set_cons_succ, i64_w, i32_w]
    rfl
  refine pure_ (i := 4) (N := some 12) (v := ?_) (a' := ?_) #[true, false, true, true, true, false, false, false, false, false, false, false, false, false, false, false, false, false, false, false, false, false, false, false, false, false, false, false, false, false, false, false, false, false, false, false, false, false, false, false, false, false, false, false] rfl rfl (by kernel_rfl) (fun _ _ _ h => h) (Or.inl ⟨by rfl, ?_⟩) ?_ ?_
  rotate_left
  · intro w'
    go_simp
    with_reducible rfl
  rotate_left
  · simp only [Act.put, List.setIfInBounds_toArray, List.set_cons_zero, List.set_cons_succ, i64_w, i32_w]
    rfl
  refine one_ (i := 1) (N := some 9) #[true, true, true, true, true, false, false, false, false, false, false, false, false, false, false, false, false, false, false, false, false, false, false, false, false, false, false, false, false, false, false, false, false, false, false, false, false, false, false, false, false, false, false, false] rfl rfl (by kernel_rfl) (by decide) (fun K hK => ?_)
  refine goes_ Try.func10 (by kernel_rfl) rfl #[.pointer (some ⟨gp, 0, none⟩)] (by rfl) rfl rfl (by simp only [List.map_toArray, List.map_cons, List.map_nil]; rfl) ?_
  with_reducible refine (sm_workers (pl_below HS.out BD.out)).mono ?_
  rintro e wa ⟨rfl, hb⟩
  refine ⟨_, rfl, ?_⟩
  have Ba := Aside0.mk (below_step BD.out hb)
  have Xa := Aside0.mk (blk_below XD.out hb)
  clear hb
  refine hK.out _ _ ⟨Xa.out, ((blk_cell Xa.out 0).trans rfl), ((blk_cell Xa.out 3).trans rfl)⟩ (fun hHeld => ?_)
  clear hK K
  refine norm_ (a' := ?_) ?_ ?_
  rotate_left
  · show Act.put _ (some 9) _ = _
    simp only [Act.put, List.setIfInBounds_toArray, List.set_cons_zero, List.set_cons_succ, i64_w, i32_w]
    rfl
  refine pure_ (i := 5) (N := some 13) (v := ?_) (a' := ?_) #[true, true, true, true, true, true, false, false, false, false, false, false, false, false, false, false, false, false, false, false, false, false, false, false, false, false, false, false, false, false, false, false, false, false, false, false, false, false, false, false, false, false, false, false] rfl rfl (by kernel_rfl) (fun _ _ _ h => h) (Or.inl ⟨by rfl, ?_⟩) ?_ ?_
  rotate_left
  · intro w'
    go_simp
    with_reducible rfl
  rotate_left
  · simp only [Act.put, List.setIfInBounds_toArray, List.set_cons_zero, List.set_cons_succ, i64_w, i32_w]
    rfl
  refine pure_ (i := 6) (N := some 14) (v := ?_) (a' := ?_) #[true, true, true, true, true, true, true, false, false, false, false, false, false, false, false, false, false, false, false, false, false, false, false, false, false, false, false, false, false, false, false, false, false, false, false, false, false, false, false, false, false, false, false, false] rfl rfl (by kernel_rfl) (fun _ _ _ h => h) (Or.inl ⟨by rfl, ?_⟩) ?_ ?_
  rotate_left
  · intro w'
    go_simp
    with_reducible rfl
  rotate_left
  · simp only [Act.put, List.setIfInBounds_toArray, List.set_cons_zero, List.set_cons_succ, i64_w, i32_w]
    rfl
  refine pure_ (i := 7) (N := some 15) (v := ?_) (a' := ?_) #[true, true, true, true, true, true, true, true, false, false, false, false, false, false, false, false, false, false, false, false, false, false, false, false, false, false, false, false, false, false, false, false, false, false, false, false, false, false, false, false, false, false, false, false] rfl rfl (by kernel_rfl) (fun _ _ _ h => h) (Or.inl ⟨by rfl, ?_⟩) ?_ ?_
  rotate_left
  · intro w'
    go_simp
    with_reducible rfl
  rotate_left
  · simp only [Act.put, List.setIfInBounds_toArray, List.set_cons_zero, List.set_cons_succ, i64_w, i32_w]
    rfl
  refine take_ (i := 9) (N := some 17) (v := ?_) (a' := ?_) #[true, true, true, true, true, true, true, true, false, true, false, false, false, false, false, false, false, false, false, false, false, false, false, false, false, false, false, false, false, false, false, false, false, false, false, false, false, false, false, false, false, false, false, false] rfl rfl (by kernel_rfl) (fun _ _ _ h => h) (Or.inl ⟨by rfl, ?_⟩) hHeld ?_ ?_
  rotate_left
  · rintro w' ⟨s0, s1, s2⟩
    (refine ex_load41 (x := .tmp 4) ?_ ?_ rfl s0 <;> first | (simp [Act.eval, Act.put]; done) | rfl)
  rotate_left
  · simp only [Act.put, List.setIfInBounds_toArray, List.set_cons_zero, List.set_cons_succ, i64_w, i32_w]
    rfl
  refine one_ (i := 8) (N := some 16) #[true, true, true, true, true, true, true, true, true, true, false, false, false, false, false, false, false, false, false, false, false, false, false, false, false, false, false, false, false, false, false, false, false, false, false, false, false, false, false, false, false, false, false, false] rfl rfl (by kernel_rfl) (by decide) (fun K hK => ?_)
  refine goes_ Try.func9 (by kernel_rfl) rfl #[.pointer (some ⟨gp, 0, none⟩)] (by rfl) rfl rfl (by simp only [List.map_toArray, List.map_cons, List.map_nil]; rfl) ?_
  with_reducible refine (sm_all (pl_below HS.out Ba.out) HI.out).mono ?_
  rintro e wb ⟨rfl, hb⟩
  refine ⟨_, rfl, ?_⟩
  have Bb := Aside0.mk (below_step Ba.out hb)
  have Xb := Aside0.mk (blk_below Xa.out hb)
  clear hb
  refine hK.out _ _ ⟨Xb.out, ((blk_cell Xb.out 0).trans rfl), ((blk_cell Xb.out 3).trans rfl)⟩ (fun hHeld => ?_)
  clear hK K
  refine norm_ (a' := ?_) ?_ ?_
  rotate_left
  · show Act.put _ (some 16) _ = _
    simp only [Act.put, List.setIfInBounds_toArray, List.set_cons_zero, List.set_cons_succ, i64_w, i32_w]
    rfl
  refine one_ (i := 10) (N := some 18) #[true, true, true, true, true, true, true, true, true, true, true, false, false, false, false, false, false, false, false, false, false, false, false, false, false, false, false, false, false, false, false, false, false, false, false, false, false, false, false, false, false, false, false, false] rfl rfl (by kernel_rfl) (by decide) (fun K hK => ?_)
  refine goes_ Try.func31 (by kernel_rfl) rfl #[.agg #[.slice (some ⟨b0, 0, none⟩) A.n c0, .slice (some ⟨b1, 0, none⟩) A.n c1, .slice (some ⟨b2, 0, none⟩) A.n c2, .slice Z3 A.gl.length c3]] (by rfl) rfl rfl (by simp only [List.map_toArray, List.map_cons, List.map_nil]; rfl) ?_
  with_reducible refine (ref_all (HP.out.below Bb.out) HI.out HN8.out).mono ?_
  rintro e wc ⟨rfl, hb⟩
  refine ⟨_, rfl, ?_⟩
  have Bc := Aside0.mk (below_step Bb.out hb)
  have Xc := Aside0.mk (blk_below Xb.out hb)
  clear hb
  refine hK.out _ _ ⟨Xc.out, ((blk_cell Xc.out 0).trans rfl), ((blk_cell Xc.out 3).trans rfl)⟩ (fun hHeld => ?_)
  clear hK K
  refine norm_ (a' := ?_) ?_ ?_
  rotate_left
  · show Act.put _ (some 18) _ = _
    simp only [Act.put, List.setIfInBounds_toArray, List.set_cons_zero, List.set_cons_succ, i64_w, i32_w]
    rfl
  refine pure_ (i := 11) (N := some 19) (v := ?_) (a' := ?_) #[true, true, true, true, true, true, true, true, true, true, true, true, false, false, false, false, false, false, false, false, false, false, false, false, false, false, false, false, false, false, false, false, false, false, false, false, false, false, false, false, false, false, false, false] rfl rfl (by kernel_rfl) (fun _ _ _ h => h) (Or.inl ⟨by rfl, ?_⟩) ?_ ?_
  rotate_left
  · intro w'
    go_simp
    with_reducible rfl
  rotate_left
  · simp only [Act.put, List.setIfInBounds_toArray, List.set_cons_zero, List.set_cons_succ, i64_w, i32_w]
    rfl
  refine pure_ (i := 12) (N := some 20) (v := ?_) (a' := ?_) #[true, true, true, true, true, true, true, true, true, true, true, true, true, false, false, false, false, false, false, false, false, false, false, false, false, false, false, false, false, false, false, false, false, false, false, false, false, false, false, false, false, false, false, false] rfl rfl (by kernel_rfl) (fun _ _ _ h => h) (Or.inl ⟨by rfl, ?_⟩) ?_ ?_
  rotate_left
  · intro w'
    go_simp
    with_reducible rfl
  rotate_left
  · simp only [Act.put, List.setIfInBounds_toArray, List.set_cons_zero, List.set_cons_succ, i64_w, i32_w]
    rfl
  refine pure_ (i := 13) (N := some 21) (v := ?_) (a' := ?_) #[true, true, true, true, true, true, true, true, true, true, true, true, true, true, false, false, false, false, false, false, false, false, false, false, false, false, false, false, false, false, false, false, false, false, false, false, false, false, false, false, false, false, false, false] rfl rfl (by kernel_rfl) (fun _ _ _ h => h) (Or.inl ⟨by rfl, ?_⟩) ?_ ?_
  rotate_left
  · intro w'
    go_simp
    with_reducible rfl
  rotate_left
  · simp only [Act.put, List.setIfInBounds_toArray, List.set_cons_zero, List.set_cons_succ, i64_w, i32_w]
    rfl
  refine pure_ (i := 14) (N := some 22) (v := ?_) (a' := ?_) #[true, true, true, true, true, true, true, true, true, true, true, true, true, true, true, false, false, false, false, false, false, false, false, false, false, false, false, false, false, false, false, false, false, false, false, false, false, false, false, false, false, false, false, false] rfl rfl (by kernel_rfl) (fun _ _ _ h => h) (Or.inl ⟨by rfl, ?_⟩) ?_ ?_
  rotate_left
  · intro w'
    go_simp
    with_reducible rfl
  rotate_left
  · simp only [Act.put, List.setIfInBounds_toArray, List.set_cons_zero, List.set_cons_succ, i64_w, i32_w]
    rfl
  refine pure_ (i := 15) (N := some 23) (v := ?_) (a' := ?_) #[true, true, true, true, true, true, true, true, true, true, true, true, true, true, true, true, false, false, false, false, false, false, false, false, false, false, false, false, false, false, false, false, false, false, false, false, false, false, false, false, false, false, false, false] rfl rfl (by kernel_rfl) (fun _ _ _ h => h) (Or.inl ⟨by rfl, ?_⟩) ?_ ?_
  rotate_left
  · intro w'
    go_simp
    with_reducible rfl
  rotate_left
  · simp only [Act.put, List.setIfInBounds_toArray, List.set_cons_zero, List.set_cons_succ, i64_w, i32_w]
    rfl
  refine pure_ (i := 18) (N := some 26) (v := ?_) (a' := ?_) #[true, true, true, true, true, true, true, true, true, true, true, true, true, true, true, true, false, false, true, false, false, false, false, false, false, false, false, false, false, false, false, false, false, false, false, false, false, false, false, false, false, false, false, false] rfl rfl (by kernel_rfl) (fun _ _ _ h => h) (Or.inl ⟨by rfl, ?_⟩) ?_ ?_
  rotate_left
  · intro w'
    go_simp
    with_reducible rfl
  rotate_left
  · simp only [Act.put, List.setIfInBounds_toArray, List.set_cons_zero, List.set_cons_succ, i64_w, i32_w]
    rfl
  refine take_ (i := 17) (N := some 25) (v := ?_) (a' := ?_) #[true, true, true, true, true, true, true, true, true, true, true, true, true, true, true, true, false, true, true, false, false, false, false, false, false, false, false, false, false, false, false, false, false, false, false, false, false, false, false, false, false, false, false, false] rfl rfl (by kernel_rfl) (fun _ _ _ h => h) (Or.inl ⟨by rfl, ?_⟩) hHeld ?_ ?_
  rotate_left
  · rintro w' ⟨s0, s1, s2⟩
    (refine ex_load41 (x := .tmp 4) ?_ ?_ rfl s0 <;> first | (simp [Act.eval, Act.put]; done) | rfl)
  rotate_left
  · simp only [Act.put, List.setIfInBounds_toArray, List.set_cons_zero, List.set_cons_succ, i64_w, i32_w]
    rfl
  refine one_ (i := 16) (N := some 24) #[true, true, true, true, true, true, true, true, true, true, true, true, true, true, true, true, true, true, true, false, false, false, false, false, false, false, false, false, false, false, false, false, false, false, false, false, false, false, false, false, false, false, false, false] rfl rfl (by kernel_rfl) (by decide) (fun K hK => ?_)
  refine goes_ Try.func20 (by kernel_rfl) rfl #[.pointer (some ⟨gp, 0, none⟩), .int .i64 t] (by rfl) rfl rfl (by simp only [List.map_toArray, List.map_cons, List.map_nil]; rfl) ?_
  with_reducible refine (sm_where (pl_below HS.out Bc.out) HI.out t).mono ?_
  rintro e wd ⟨rfl, hb⟩
  refine ⟨_, rfl, ?_⟩
  have Bd := Aside0.mk (below_step Bc.out hb)
  have Xd := Aside0.mk (blk_below Xc.out hb)
  clear hb
  refine hK.out _ _ ⟨Xd.out, ((blk_cell Xd.out 0).trans rfl), ((blk_cell Xd.out 3).trans rfl)⟩ (fun hHeld => ?_)
  clear hK K
  refine norm_ (a' := ?_) ?_ ?_
  rotate_left
  · show Act.put _ (some 24) _ = _
    simp only [Act.put, List.setIfInBounds_toArray, List.set_cons_zero, List.set_cons_succ, i64_w, i32_w]
    rfl
  refine one_ (i := 19) (N := some 27) #[true, true, true, true, true, true, true, true, true, true, true, true, true, true, true, true, true, true, true, true, false, false, false, false, false, false, false, false, false, false, false, false, false, false, false, false, false, false, false, false, false, false, false, false] rfl rfl (by kernel_rfl) (by decide) (fun K hK => ?_)
  refine goes_ Try.func32 (by kernel_rfl) rfl #[.agg #[.slice (some ⟨b0, 0, none⟩) A.n c0, .slice (some ⟨b1, 0, none⟩) A.n c1, .slice (some ⟨b2, 0, none⟩) A.n c2, .slice Z3 A.gl.length c3], .int .i64 t] (by rfl) rfl rfl (by simp only [List.map_toArray, List.map_cons, List.map_nil]; rfl) ?_
  with_reducible refine (ref_where (HP.out.below Bd.out) HI.out HN8.out t).mono ?_
  rintro e we ⟨rfl, hb⟩
  refine ⟨_, rfl, ?_⟩
  have Be := Aside0.mk (below_step Bd.out hb)
  have Xe := Aside0.mk (blk_below Xd.out hb)
  clear hb
  refine hK.out _ _ ⟨Xe.out, ((blk_cell Xe.out 0).trans rfl), ((blk_cell Xe.out 3).trans rfl)⟩ (fun hHeld => ?_)
  clear hK K
  refine norm_ (a' := ?_) ?_ ?_
  rotate_left
  · show Act.put _ (some 27) _ = _
    simp only [Act.put, List.setIfInBounds_toArray, List.set_cons_zero, List.set_cons_succ, i64_w, i32_w]
    rfl
  refine pure_ (i := 20) (N := some 28) (v := ?_) (a' := ?_) #[true, true, true, true, true, true, true, true, true, true, true, true, true, true, true, true, true, true, true, true, true, false, false, false, false, false, false, false, false, false, false, false, false, false, false, false, false, false, false, false, false, false, false, false] rfl rfl (by kernel_rfl) (fun _ _ _ h => h) (Or.inl ⟨by rfl, ?_⟩) ?_ ?_
  rotate_left
  · intro w'
    go_simp
    with_reducible rfl
  rotate_left
  · simp only [Act.put, List.setIfInBounds_toArray, List.set_cons_zero, List.set_cons_succ, i64_w, i32_w]
    rfl
  refine pure_ (i := 21) (N := some 29) (v := ?_) (a' := ?_) #[true, true, true, true, true, true, true, true, true, true, true, true, true, true, true, true, true, true, true, true, true, true, false, false, false, false, false, false, false, false, false, false, false, false, false, false, false, false, false, false, false, false, false, false] rfl rfl (by kernel_rfl) (fun _ _ _ h => h) (Or.inl ⟨by rfl, ?_⟩) ?_ ?_
  rotate_left
  · intro w'
    go_simp
    with_reducible rfl
  rotate_left
  · simp only [Act.put, List.setIfInBounds_toArray, List.set_cons_zero, List.set_cons_succ, i64_w, i32_w]
    rfl
  refine pure_ (i := 22) (N := some 30) (v := ?_) (a' := ?_) #[true, true, true, true, true, true, true, true, true, true, true, true, true, true, true, true, true, true, true, true, true, true, true, false, false, false, false, false, false, false, false, false, false, false, false, false, false, false, false, false, false, false, false, false] rfl rfl (by kernel_rfl) (fun _ _ _ h => h) (Or.inl ⟨by rfl, ?_⟩) ?_ ?_
  rotate_left
  · intro w'
    go_simp
    with_reducible rfl
  rotate_left
  · simp only [Act.put, List.setIfInBounds_toArray, List.set_cons_zero, List.set_cons_succ, i64_w, i32_w]
    rfl
  refine pure_ (i := 23) (N := some 31) (v := ?_) (a' := ?_) #[true, true, true, true, true, true, true, true, true, true, true, true, true, true, true, true, true, true, true, true, true, true, true, true, false, false, false, false, false, false, false, false, false, false, false, false, false, false, false, false, false, false, false, false] rfl rfl (by kernel_rfl) (fun _ _ _ h => h) (Or.inl ⟨by rfl, ?_⟩) ?_ ?_
  rotate_left
  · intro w'
    go_simp
    with_reducible rfl
  rotate_left
  · simp only [Act.put, List.setIfInBounds_toArray, List.set_cons_zero, List.set_cons_succ, i64_w, i32_w]
    rfl
  refine pure_ (i := 25) (N := some 33) (v := ?_) (a' := ?_) #[true, true, true, true, true, true, true, true, true, true, true, true, true, true, true, true, true, true, true, true, true, true, true, true, false, true, false, false, false, false, false, false, false, false, false, false, false, false, false, false, false, false, false, false] rfl rfl (by kernel_rfl) (fun _ _ _ h => h) (Or.inl ⟨by rfl, ?_⟩) ?_ ?_
  rotate_left
  · intro w'
    go_simp
    with_reducible rfl
  rotate_left
  · simp only [Act.put, List.setIfInBounds_toArray, List.set_cons_zero, List.set_cons_succ, i64_w, i32_w]
    rfl
  refine take_ (i := 26) (N := some 34) (v := ?_) (a' := ?_) #[true, true, true, true, true, true, true, true, true, true, true, true, true, true, true, true, true, true, true, true, true, true, true, true, false, true, true, false, false, false, false, false, false, false, false, false, false, false, false, false, false, false, false, false] rfl rfl (by kernel_rfl) (fun _ _ _ h => h) (Or.inl ⟨by rfl, ?_⟩) hHeld ?_ ?_
  rotate_left
  · rintro w' ⟨s0, s1, s2⟩
    go_simp
    with_reducible rfl
  rotate_left
  · simp only [Act.put, List.setIfInBounds_toArray, List.set_cons_zero, List.set_cons_succ, i64_w, i32_w]
    rfl
  refine one_ (i := 24) (N := some 32) #[true, true, true, true, true, true, true, true, true, true, true, true, true, true, true, true, true, true, true, true, true, true, true, true, true, true, true, false, false, false, false, false, false, false, false, false, false, false, false, false, false, false, false, false] rfl rfl (by kernel_rfl) (by decide) (fun K hK => ?_)
  refine goes_ Try.func18 (by kernel_rfl) rfl #[.pointer (some ⟨gp, 0, none⟩)] (by rfl) rfl rfl (by simp only [List.map_toArray, List.map_cons, List.map_nil]; rfl) ?_
  with_reducible refine (sm_global (pl_below HS.out Be.out)).mono ?_
  rintro e wf ⟨vG, rfl, hb, hr⟩
  refine ⟨_, rfl, ?_⟩
  obtain ⟨AG, cG, rfl⟩ := hr.open
  have HG := Aside0.mk hr
  clear hr
  have Bf := Aside0.mk (below_step Be.out hb)
  have Xf := Aside0.mk (blk_below Xe.out hb)
  clear hb
  refine hK.out _ _ ⟨Xf.out, ((blk_cell Xf.out 0).trans rfl), ((blk_cell Xf.out 3).trans rfl)⟩ (fun hHeld => ?_)
  clear hK K
  refine norm_ (a' := ?_) ?_ ?_
  rotate_left
  · show Act.put _ (some 32) _ = _
    simp only [Act.put, List.setIfInBounds_toArray, List.set_cons_zero, List.set_cons_succ, i64_w, i32_w]
    rfl
  refine one_ (i := 27) (N := some 35) #[true, true, true, true, true, true, true, true, true, true, true, true, true, true, true, true, true, true, true, true, true, true, true, true, true, true, true, true, false, false, false, false, false, false, false, false, false, false, false, false, false, false, false, false] rfl rfl (by kernel_rfl) (by decide) (fun K hK => ?_)
  refine goes_ Try.func33 (by kernel_rfl) rfl #[.slice AG A.gl.length cG, .slice Z3 A.gl.length c3] (by rfl) rfl rfl (by simp only [List.map_toArray, List.map_cons, List.map_nil]; rfl) ?_
  with_reducible refine (ints_same HG.out (HP.out.below Bf.out).r3 (by have := Inv.gl_le HI.out; omega)).mono ?_
  rintro e wg ⟨rfl, hb⟩
  refine ⟨_, rfl, ?_⟩
  have Bg := Aside0.mk (below_step Bf.out hb)
  have Xg := Aside0.mk (blk_below Xf.out hb)
  clear hb
  refine hK.out _ _ ⟨Xg.out, ((blk_cell Xg.out 0).trans rfl), ((blk_cell Xg.out 3).trans rfl)⟩ (fun hHeld => ?_)
  clear hK K
  refine norm_ (a' := ?_) ?_ ?_
  rotate_left
  · show Act.put _ (some 35) _ = _
    simp only [Act.put, List.setIfInBounds_toArray, List.set_cons_zero, List.set_cons_succ, i64_w, i32_w]
    rfl
  refine pure_ (i := 28) (N := some 36) (v := ?_) (a' := ?_) #[true, true, true, true, true, true, true, true, true, true, true, true, true, true, true, true, true, true, true, true, true, true, true, true, true, true, true, true, true, false, false, false, false, false, false, false, false, false, false, false, false, false, false, false] rfl rfl (by kernel_rfl) (fun _ _ _ h => h) (Or.inl ⟨by rfl, ?_⟩) ?_ ?_
  rotate_left
  · intro w'
    go_simp
    with_reducible rfl
  rotate_left
  · simp only [Act.put, List.setIfInBounds_toArray, List.set_cons_zero, List.set_cons_succ, i64_w, i32_w]
    rfl
  refine pure_ (i := 29) (N := some 37) (v := ?_) (a' := ?_) #[true, true, true, true, true, true, true, true, true, true, true, true, true, true, true, true, true, true, true, true, true, true, true, true, true, true, true, true, true, true, false, false, false, false, false, false, false, false, false, false, false, false, false, false] rfl rfl (by kernel_rfl) (fun _ _ _ h => h) (Or.inl ⟨by rfl, ?_⟩) ?_ ?_
  rotate_left
  · intro w'
    go_simp
    with_reducible rfl
  rotate_left
  · simp only [Act.put, List.setIfInBounds_toArray, List.set_cons_zero, List.set_cons_succ, i64_w, i32_w]
    rfl
  refine pure_ (i := 30) (N := some 38) (v := ?_) (a' := ?_) #[true, true, true, true, true, true, true, true, true, true, true, true, true, true, true, true, true, true, true, true, true, true, true, true, true, true, true, true, true, true, true, false, false, false, false, false, false, false, false, false, false, false, false, false] rfl rfl (by kernel_rfl) (fun _ _ _ h => h) (Or.inl ⟨by rfl, ?_⟩) ?_ ?_
  rotate_left
  · intro w'
    go_simp
    with_reducible rfl
  rotate_left
  · simp only [Act.put, List.setIfInBounds_toArray, List.set_cons_zero, List.set_cons_succ, i64_w, i32_w]
    rfl
  refine pure_ (i := 31) (N := some 39) (v := ?_) (a' := ?_) #[true, true, true, true, true, true, true, true, true, true, true, true, true, true, true, true, true, true, true, true, true, true, true, true, true, true, true, true, true, true, true, true, false, false, false, false, false, false, false, false, false, false, false, false] rfl rfl (by kernel_rfl) (fun _ _ _ h => h) (Or.inl ⟨by rfl, ?_⟩) ?_ ?_
  rotate_left
  · intro w'
    go_simp
    with_reducible rfl
  rotate_left
  · simp only [Act.put, List.setIfInBounds_toArray, List.set_cons_zero, List.set_cons_succ, i64_w, i32_w]
    rfl
  refine pure_ (i := 32) (N := some 40) (v := ?_) (a' := ?_) #[true, true, true, true, true, true, true, true, true, true, true, true, true, true, true, true, true, true, true, true, true, true, true, true, true, true, true, true, true, true, true, true, true, false, false, false, false, false, false, false, false, false, false, false] rfl rfl (by kernel_rfl) (fun _ _ _ h => h) (Or.inl ⟨by rfl, ?_⟩) ?_ ?_
  rotate_left
  · intro w'
    go_simp
    with_reducible rfl
  rotate_left
  · simp only [Act.put, List.setIfInBounds_toArray, List.set_cons_zero, List.set_cons_succ, i64_w, i32_w]
    rfl
  refine take_ (i := 33) (N := some 41) (v := ?_) (a' := ?_) #[true, true, true, true, true, true, true, true, true, true, true, true, true, true, true, true, true, true, true, true, true, true, true, true, true, true, true, true, true, true, true, true, true, true, false, false, false, false, false, false, false, false, false, false] rfl rfl (by kernel_rfl) (fun _ _ _ h => h) (Or.inl ⟨by rfl, ?_⟩) hHeld ?_ ?_
  rotate_left
  · rintro w' ⟨s0, s1, s2⟩
    go_simp
    with_reducible rfl
  rotate_left
  · simp only [Act.put, List.setIfInBounds_toArray, List.set_cons_zero, List.set_cons_succ, i64_w, i32_w]
    rfl
  refine pure_ (i := 34) (N := some 42) (v := ?_) (a' := ?_) #[true, true, true, true, true, true, true, true, true, true, true, true, true, true, true, true, true, true, true, true, true, true, true, true, true, true, true, true, true, true, true, true, true, true, true, false, false, false, false, false, false, false, false, false] rfl rfl (by kernel_rfl) (fun _ _ _ h => h) (Or.inl ⟨by rfl, ?_⟩) ?_ ?_
  rotate_left
  · intro w'
    go_simp
    with_reducible rfl
  rotate_left
  · simp only [Act.put, List.setIfInBounds_toArray, List.set_cons_zero, List.set_cons_succ, i64_w, i32_w]
    rfl
  refine one_ (i := 35) (N := some 43) #[true, true, true, true, true, true, true, true, true, true, true, true, true, true, true, true, true, true, true, true, true, true, true, true, true, true, true, true, true, true, true, true, true, true, true, true, false, false, false, false, false, false, false, false] rfl rfl (by kernel_rfl) (by decide) (fun K hK => ?_)
  refine goes_ Try.func11 (by kernel_rfl) rfl #[.pointer (some ⟨gp, 0, none⟩), .int .i64 (A.n : Int)] (by rfl) rfl rfl (by simp only [List.map_toArray, List.map_cons, List.map_nil]; rfl) ?_
  with_reducible refine (sm_onn (pl_below HS.out Bg.out) HI.out).mono ?_
  rintro e wh ⟨rfl, hb⟩
  refine ⟨_, rfl, ?_⟩
  have Bh := Aside0.mk (below_step Bg.out hb)
  have Xh := Aside0.mk (blk_below Xg.out hb)
  clear hb
  refine hK.out _ _ ⟨Xh.out, ((blk_cell Xh.out 0).trans rfl), ((blk_cell Xh.out 3).trans rfl)⟩ (fun hHeld => ?_)
  clear hK K
  refine norm_ (a' := ?_) ?_ ?_
  rotate_left
  · show Act.put _ (some 43) _ = _
    simp only [Act.put, List.setIfInBounds_toArray, List.set_cons_zero, List.set_cons_succ, i64_w, i32_w]
    rfl
  refine pure_ (i := 36) (N := some 44) (v := ?_) (a' := ?_) #[true, true, true, true, true, true, true, true, true, true, true, true, true, true, true, true, true, true, true, true, true, true, true, true, true, true, true, true, true, true, true, true, true, true, true, true, true, false, false, false, false, false, false, false] rfl rfl (by kernel_rfl) (fun _ _ _ h => h) (Or.inl ⟨by rfl, ?_⟩) ?_ ?_
  rotate_left
  · intro w'
    go_simp
    with_reducible rfl
  rotate_left
  · simp only [Act.put, List.setIfInBounds_toArray, List.set_cons_zero, List.set_cons_succ, i64_w, i32_w]
    rfl
  refine pure_ (i := 37) (N := some 45) (v := ?_) (a' := ?_) #[true, true, true, true, true, true, true, true, true, true, true, true, true, true, true, true, true, true, true, true, true, true, true, true, true, true, true, true, true, true, true, true, true, true, true, true, true, true, false, false, false, false, false, false] rfl rfl (by kernel_rfl) (fun _ _ _ h => h) (Or.inl ⟨by rfl, ?_⟩) ?_ ?_
  rotate_left
  · intro w'
    go_simp
    with_reducible rfl
  rotate_left
  · simp only [Act.put, List.setIfInBounds_toArray, List.set_cons_zero, List.set_cons_succ, i64_w, i32_w]
    rfl
  refine pure_ (i := 38) (N := some 46) (v := ?_) (a' := ?_) #[true, true, true, true, true, true, true, true, true, true, true, true, true, true, true, true, true, true, true, true, true, true, true, true, true, true, true, true, true, true, true, true, true, true, true, true, true, true, true, false, false, false, false, false] rfl rfl (by kernel_rfl) (fun _ _ _ h => h) (Or.inl ⟨by rfl, ?_⟩) ?_ ?_
  rotate_left
  · intro w'
    go_simp
    with_reducible rfl
  rotate_left
  · simp only [Act.put, List.setIfInBounds_toArray, List.set_cons_zero, List.set_cons_succ, i64_w, i32_w]
    rfl
  refine pure_ (i := 39) (N := some 47) (v := ?_) (a' := ?_) #[true, true, true, true, true, true, true, true, true, true, true, true, true, true, true, true, true, true, true, true, true, true, true, true, true, true, true, true, true, true, true, true, true, true, true, true, true, true, true, true, false, false, false, false] rfl rfl (by kernel_rfl) (fun _ _ _ h => h) (Or.inl ⟨by rfl, ?_⟩) ?_ ?_
  rotate_left
  · intro w'
    go_simp
    with_reducible rfl
  rotate_left
  · simp only [Act.put, List.setIfInBounds_toArray, List.set_cons_zero, List.set_cons_succ, i64_w, i32_w]
    rfl
  refine one_ (i := 40) (N := some 48) #[true, true, true, true, true, true, true, true, true, true, true, true, true, true, true, true, true, true, true, true, true, true, true, true, true, true, true, true, true, true, true, true, true, true, true, true, true, true, true, true, true, false, false, false] rfl rfl (by kernel_rfl) (by decide) (fun K hK => ?_)
  refine goes_ Try.func19 (by kernel_rfl) rfl #[.pointer (some ⟨gp, 0, none⟩), .int .i64 (-1)] (by rfl) rfl rfl (by simp only [List.map_toArray, List.map_cons, List.map_nil]; rfl) ?_
  with_reducible refine (sm_ownout (pl_below HS.out Bh.out) (-1) (.inl (by decide))).mono ?_
  rintro e wi ⟨rfl, hb⟩
  refine ⟨_, rfl, ?_⟩
  have Bi := Aside0.mk (below_step Bh.out hb)
  have Xi := Aside0.mk (blk_below Xh.out hb)
  clear hb
  refine hK.out _ _ ⟨Xi.out, ((blk_cell Xi.out 0).trans rfl), ((blk_cell Xi.out 3).trans rfl)⟩ (fun hHeld => ?_)
  clear hK K
  refine norm_ (a' := ?_) ?_ ?_
  rotate_left
  · show Act.put _ (some 48) _ = _
    simp only [Act.put, List.setIfInBounds_toArray, List.set_cons_zero, List.set_cons_succ, i64_w, i32_w]
    rfl
  refine pure_ (i := 41) (N := some 49) (v := ?_) (a' := ?_) #[true, true, true, true, true, true, true, true, true, true, true, true, true, true, true, true, true, true, true, true, true, true, true, true, true, true, true, true, true, true, true, true, true, true, true, true, true, true, true, true, true, true, false, false] rfl rfl (by kernel_rfl) (fun _ _ _ h => h) (Or.inl ⟨by rfl, ?_⟩) ?_ ?_
  rotate_left
  · intro w'
    go_simp
    with_reducible rfl
  rotate_left
  · simp only [Act.put, List.setIfInBounds_toArray, List.set_cons_zero, List.set_cons_succ, i64_w, i32_w]
    rfl
  refine pure_ (i := 42) (N := some 50) (v := ?_) (a' := ?_) #[true, true, true, true, true, true, true, true, true, true, true, true, true, true, true, true, true, true, true, true, true, true, true, true, true, true, true, true, true, true, true, true, true, true, true, true, true, true, true, true, true, true, true, false] rfl rfl (by kernel_rfl) (fun _ _ _ h => h) (Or.inl ⟨by rfl, ?_⟩) ?_ ?_
  rotate_left
  · intro w'
    go_simp
    with_reducible rfl
  rotate_left
  · simp only [Act.put, List.setIfInBounds_toArray, List.set_cons_zero, List.set_cons_succ, i64_w, i32_w]
    rfl
  refine pure_ (i := 43) (N := some 51) (v := ?_) (a' := ?_) #[true, true, true, true, true, true, true, true, true, true, true, true, true, true, true, true, true, true, true, true, true, true, true, true, true, true, true, true, true, true, true, true, true, true, true, true, true, true, true, true, true, true, true, true] rfl rfl (by kernel_rfl) (fun _ _ _ h => h) (Or.inl ⟨by rfl, ?_⟩) ?_ ?_
  rotate_left
  · intro w'
    go_simp
    with_reducible rfl
  rotate_left
  · simp only [Act.put, List.setIfInBounds_toArray, List.set_cons_zero, List.set_cons_succ, i64_w, i32_w]
    rfl
  refine done_ (by kernel_rfl) ?_

  clear BD XD Ba Xa Bb Xb Bc Xc Bd Xd Be Xe Bf Xf Bg Xg Bh Xh HG
  try clear hHeld
  generalize wher A t = ww at *
  go_upto_block 0 with (fail)
  go_wp2
  go_loopg [7] A.n (fun kq v7 w' => ∃ (j : Nat), v7 = .int .i64 (j : Int) ∧ Aside0 (j + kq = A.n) ∧ Aside0 (Below W.heap.size W w') ∧ Aside0 (w'.heap[g1]? = some (.cells #[.slice (some ⟨b0, 0, none⟩) A.n c0, .slice (some ⟨b1, 0, none⟩) A.n c1, .slice (some ⟨b2, 0, none⟩) A.n c2, .slice Z3 A.gl.length c3] 41 (0, 0))))
  case atStart => exact ⟨0, rfl, ⟨by omega⟩, Bi, Xi⟩
  case round =>
    clear Bi Xi
    obtain ⟨j, rfl, HJK, HB, X2⟩ := hrel
    have y0 : wr.cell? ⟨g1, 0, none⟩ = some (.slice (some ⟨b0, 0, none⟩) A.n c0) := (blk_cell X2.out 0).trans rfl
    rcases gk with _ | k1
    · have HE := Aside0.mk (show j = A.n from by have := HJK.out; omega)
      have e1 : decide ((j : Int) < (A.n : Int)) = false := decide_eq_false (by have := HE.out; omega)
      have e2 : decide (j < A.n) = false := decide_eq_false (by have := HE.out; omega)
      go_wp2
      go_ret
      exact ⟨rfl, HB.out⟩
    · have HJN := Aside0.mk (show j < A.n from by have := HJK.out; omega)
      have e1 : decide ((j : Int) < (A.n : Int)) = true := decide_eq_true (by have := HJN.out; omega)
      have e2 : decide (j < A.n) = true := decide_eq_true HJN.out
      have p4 : (0 ≤ (j : Int)) = True := eq_true (by omega)
      have p5 : ((j : Int) < (A.n : Int)) = True := eq_true (by have := HJN.out; omega)
      have p6 : (j < A.n) = True := eq_true HJN.out
      have ew : Aside0 (wrap64 ((j : Int) + 1) = (j : Int) + 1) := ⟨by have h2 := HJN.out; have h3 := HN8.out; unfold wrap64; omega⟩
      obtain ⟨rr, hrr⟩ : ∃ rr, rr = A.runs j - 1 := ⟨_, rfl⟩
      have HRR := Aside0.mk hrr
      clear hrr
      obtain ⟨YJ, cJ, hvj⟩ := (HP.out.rows j HJN.out).open
      have HVJ := Aside0.mk hvj
      clear hvj
      go_upto_region 6 with (fail)
      clear y0 e1 e2
      have BD := Aside0.mk (show Below W.heap.size W wr.drew from below_drew HB.out)
      have XD := Aside0.mk (show wr.drew.heap[g1]? = _ from X2.out)
      refine start_ (n := 21) (S := fun w' => w'.cell? ⟨g1, 0, none⟩ = some (.slice (some ⟨b0, 0, none⟩) A.n c0) ∧ w'.cell? ⟨g1, 2, none⟩ = some (.slice (some ⟨b2, 0, none⟩) A.n c2) ∧ w'.cell? ⟨b0, j, none⟩ = some (.int .i64 rr) ∧ w'.cell? ⟨b2, j, none⟩ = some (.slice YJ (A.own j).length cJ)) (ds := []) #[false, false, false, false, false, false, false, false, false, false, false, false, false, false, false, false, false, false, false, false, false] (by kernel_rfl) rfl rfl ⟨((blk_cell XD.out 0).trans rfl), ((blk_cell XD.out 2).trans rfl), (((HP.out.below BD.out).at0 HJN.out).1.trans (by rw [HRR.out])), (((HP.out.below BD.out).at2 HJN.out).1.trans (by rw [HVJ.out]))⟩ (fun hHeld => ?_)
      refine pure_ (i := 0) (N := some 59) (v := ?_) (a' := ?_) #[true, false, false, false, false, false, false, false, false, false, false, false, false, false, false, false, false, false, false, false, false] rfl rfl (by kernel_rfl) (fun _ _ _ h => h) (Or.inl ⟨by rfl, ?_⟩) ?_ ?_
      rotate_left
      · intro w'
        go_simp
        with_reducible rfl
      rotate_left
      · simp only [Act.put, List.setIfInBounds_toArray, List.set_cons_zero, List.set_cons_succ, i64_w, i32_w]
        rfl
      refine pure_ (i := 1) (N := some 60) (v := ?_) (a' := ?_) #[true, true, false, false, false, false, false, false, false, false, false, false, false, false, false, false, false, false, false, false, false] rfl rfl (by kernel_rfl) (fun _ _ _ h => h) (Or.inl ⟨by rfl, ?_⟩) ?_ ?_
      rotate_left
      · intro w'
        go_simp
        with_reducible rfl
      rotate_left
      · simp only [Act.put, List.setIfInBounds_toArray, List.set_cons_zero, List.set_cons_succ, i64_w, i32_w]
        rfl
      refine pure_ (i := 3) (N := some 62) (v := ?_) (a' := ?_) #[true, true, false, true, false, false, false, false, false, false, false, false, false, false, false, false, false, false, false, false, false] rfl rfl (by kernel_rfl) (fun _ _ _ h => h) (Or.inl ⟨by rfl, ?_⟩) ?_ ?_
      rotate_left
      · intro w'
        go_simp
        with_reducible rfl
      rotate_left
      · simp only [Act.put, List.setIfInBounds_toArray, List.set_cons_zero, List.set_cons_succ, i64_w, i32_w]
        rfl
      refine pure_ (i := 5) (N := some 64) (v := ?_) (a' := ?_) #[true, true, false, true, false, true, false, false, false, false, false, false, false, false, false, false, false, false, false, false, false] rfl rfl (by kernel_rfl) (fun _ _ _ h => h) (Or.inl ⟨by rfl, ?_⟩) ?_ ?_
      rotate_left
      · intro w'
        go_simp
        with_reducible rfl
      rotate_left
      · simp only [Act.put, List.setIfInBounds_toArray, List.set_cons_zero, List.set_cons_succ, i64_w, i32_w]
        rfl
      refine take_ (i := 4) (N := some 63) (v := ?_) (a' := ?_) #[true, true, false, true, true, true, false, false, false, false, false, false, false, false, false, false, false, false, false, false, false] rfl rfl (by kernel_rfl) (fun _ _ _ h => h) (Or.inl ⟨by rfl, ?_⟩) hHeld ?_ ?_
      rotate_left
      · rintro w' ⟨s0, s1, s2, s3⟩
        go_simp
        with_reducible rfl
      rotate_left
      · simp only [Act.put, List.setIfInBounds_toArray, List.set_cons_zero, List.set_cons_succ, i64_w, i32_w]
        rfl
      refine pure_ (i := 6) (N := some 65) (v := ?_) (a' := ?_) #[true, true, false, true, true, true, true, false, false, false, false, false, false, false, false, false, false, false, false, false, false] rfl rfl (by kernel_rfl) (fun _ _ _ h => h) (Or.inl ⟨by rfl, ?_⟩) ?_ ?_
      rotate_left
      · intro w'
        go_simp
        with_reducible rfl
      rotate_left
      · simp only [Act.put, List.setIfInBounds_toArray, List.set_cons_zero, List.set_cons_succ, i64_w, i32_w]
        rfl
      refine take_ (i := 7) (N := some 66) (v := ?_) (a' := ?_) #[true, true, false, true, true, true, true, true, false, false, false, false, false, false, false, false, false, false, false, false, false] rfl rfl (by kernel_rfl) (fun _ _ _ h => h) (Or.inl ⟨by rfl, ?_⟩) hHeld ?_ ?_
      rotate_left
      · rintro w' ⟨s0, s1, s2, s3⟩
        go_simp
        with_reducible rfl
      rotate_left
      · simp only [Act.put, List.setIfInBounds_toArray, List.set_cons_zero, List.set_cons_succ, i64_w, i32_w]
        rfl
      refine one_ (i := 2) (N := some 61) #[true, true, true, true, true, true, true, true, false, false, false, false, false, false, false, false, false, false, false, false, false] rfl rfl (by kernel_rfl) (by decide) (fun K hK => ?_)
      refine goes_ Try.func11 (by kernel_rfl) rfl #[.pointer (some ⟨gp, 0, none⟩), .int .i64 (j : Int)] (by rfl) rfl rfl (by simp only [List.map_toArray, List.map_cons, List.map_nil]; rfl) ?_
      with_reducible refine (sm_onj (pl_below HS.out BD.out) HI.out HJN.out HRR.out).mono ?_
      rintro e wa ⟨rfl, hb⟩
      refine ⟨_, rfl, ?_⟩
      have Ba := Aside0.mk (below_step BD.out hb)
      have Xa := Aside0.mk (blk_below XD.out hb)
      clear hb
      refine hK.out _ _ ⟨((blk_cell Xa.out 0).trans rfl), ((blk_cell Xa.out 2).trans rfl), (((HP.out.below Ba.out).at0 HJN.out).1.trans (by rw [HRR.out])), (((HP.out.below Ba.out).at2 HJN.out).1.trans (by rw [HVJ.out]))⟩ (fun hHeld => ?_)
      clear hK K
      refine norm_ (a' := ?_) ?_ ?_
      rotate_left
      · show Act.put _ (some 61) _ = _
        simp only [Act.put, List.setIfInBounds_toArray, List.set_cons_zero, List.set_cons_succ, i64_w, i32_w]
        rfl
      refine pure_ (i := 8) (N := some 67) (v := ?_) (a' := ?_) #[true, true, true, true, true, true, true, true, true, false, false, false, false, false, false, false, false, false, false, false, false] rfl rfl (by kernel_rfl) (fun _ _ _ h => h) (Or.inl ⟨by rfl, ?_⟩) ?_ ?_
      rotate_left
      · intro w'
        go_simp
        with_reducible rfl
      rotate_left
      · simp only [Act.put, List.setIfInBounds_toArray, List.set_cons_zero, List.set_cons_succ, i64_w, i32_w]
        rfl
      refine pure_ (i := 9) (N := some 68) (v := ?_) (a' := ?_) #[true, true, true, true, true, true, true, true, true, true, false, false, false, false, false, false, false, false, false, false, false] rfl rfl (by kernel_rfl) (fun _ _ _ h => h) (Or.inl ⟨by rfl, ?_⟩) ?_ ?_
      rotate_left
      · intro w'
        go_simp
        with_reducible rfl
      rotate_left
      · simp only [Act.put, List.setIfInBounds_toArray, List.set_cons_zero, List.set_cons_succ, i64_w, i32_w]
        rfl
      refine pure_ (i := 10) (N := some 69) (v := ?_) (a' := ?_) #[true, true, true, true, true, true, true, true, true, true, true, false, false, false, false, false, false, false, false, false, false] rfl rfl (by kernel_rfl) (fun _ _ _ h => h) (Or.inl ⟨by rfl, ?_⟩) ?_ ?_
      rotate_left
      · intro w'
        go_simp
        with_reducible rfl
      rotate_left
      · simp only [Act.put, List.setIfInBounds_toArray, List.set_cons_zero, List.set_cons_succ, i64_w, i32_w]
        rfl
      refine pure_ (i := 11) (N := some 70) (v := ?_) (a' := ?_) #[true, true, true, true, true, true, true, true, true, true, true, true, false, false, false, false, false, false, false, false, false] rfl rfl (by kernel_rfl) (fun _ _ _ h => h) (Or.inl ⟨by rfl, ?_⟩) ?_ ?_
      rotate_left
      · intro w'
        go_simp
        with_reducible rfl
      rotate_left
      · simp only [Act.put, List.setIfInBounds_toArray, List.set_cons_zero, List.set_cons_succ, i64_w, i32_w]
        rfl
      refine pure_ (i := 13) (N := some 72) (v := ?_) (a' := ?_) #[true, true, true, true, true, true, true, true, true, true, true, true, false, true, false, false, false, false, false, false, false] rfl rfl (by kernel_rfl) (fun _ _ _ h => h) (Or.inl ⟨by rfl, ?_⟩) ?_ ?_
      rotate_left
      · intro w'
        go_simp
        with_reducible rfl
      rotate_left
      · simp only [Act.put, List.setIfInBounds_toArray, List.set_cons_zero, List.set_cons_succ, i64_w, i32_w]
        rfl
      refine pure_ (i := 15) (N := some 74) (v := ?_) (a' := ?_) #[true, true, true, true, true, true, true, true, true, true, true, true, false, true, false, true, false, false, false, false, false] rfl rfl (by kernel_rfl) (fun _ _ _ h => h) (Or.inl ⟨by rfl, ?_⟩) ?_ ?_
      rotate_left
      · intro w'
        go_simp
        with_reducible rfl
      rotate_left
      · simp only [Act.put, List.setIfInBounds_toArray, List.set_cons_zero, List.set_cons_succ, i64_w, i32_w]
        rfl
      refine take_ (i := 14) (N := some 73) (v := ?_) (a' := ?_) #[true, true, true, true, true, true, true, true, true, true, true, true, false, true, true, true, false, false, false, false, false] rfl rfl (by kernel_rfl) (fun _ _ _ h => h) (Or.inl ⟨by rfl, ?_⟩) hHeld ?_ ?_
      rotate_left
      · rintro w' ⟨s0, s1, s2, s3⟩
        go_simp
        with_reducible rfl
      rotate_left
      · simp only [Act.put, List.setIfInBounds_toArray, List.set_cons_zero, List.set_cons_succ, i64_w, i32_w]
        rfl
      refine pure_ (i := 16) (N := some 75) (v := ?_) (a' := ?_) #[true, true, true, true, true, true, true, true, true, true, true, true, false, true, true, true, true, false, false, false, false] rfl rfl (by kernel_rfl) (fun _ _ _ h => h) (Or.inl ⟨by rfl, ?_⟩) ?_ ?_
      rotate_left
      · intro w'
        go_simp
        with_reducible rfl
      rotate_left
      · simp only [Act.put, List.setIfInBounds_toArray, List.set_cons_zero, List.set_cons_succ, i64_w, i32_w]
        rfl
      refine take_ (i := 17) (N := some 76) (v := ?_) (a' := ?_) #[true, true, true, true, true, true, true, true, true, true, true, true, false, true, true, true, true, true, false, false, false] rfl rfl (by kernel_rfl) (fun _ _ _ h => h) (Or.inl ⟨by rfl, ?_⟩) hHeld ?_ ?_
      rotate_left
      · rintro w' ⟨s0, s1, s2, s3⟩
        go_simp
        with_reducible rfl
      rotate_left
      · simp only [Act.put, List.setIfInBounds_toArray, List.set_cons_zero, List.set_cons_succ, i64_w, i32_w]
        rfl
      refine one_ (i := 12) (N := some 71) #[true, true, true, true, true, true, true, true, true, true, true, true, true, true, true, true, true, true, false, false, false] rfl rfl (by kernel_rfl) (by decide) (fun K hK => ?_)
      refine goes_ Try.func19 (by kernel_rfl) rfl #[.pointer (some ⟨gp, 0, none⟩), .int .i64 (j : Int)] (by rfl) rfl rfl (by simp only [List.map_toArray, List.map_cons, List.map_nil]; rfl) ?_
      with_reducible refine (sm_ownin (pl_below HS.out Ba.out) HJN.out).mono ?_
      rintro e wb ⟨vO, rfl, hb, hr⟩
      refine ⟨_, rfl, ?_⟩
      obtain ⟨AO, cO, rfl⟩ := hr.open
      have HG := Aside0.mk hr
      clear hr
      have Bb := Aside0.mk (below_step Ba.out hb)
      have Xb := Aside0.mk (blk_below Xa.out hb)
      clear hb
      refine hK.out _ _ ⟨((blk_cell Xb.out 0).trans rfl), ((blk_cell Xb.out 2).trans rfl), (((HP.out.below Bb.out).at0 HJN.out).1.trans (by rw [HRR.out])), (((HP.out.below Bb.out).at2 HJN.out).1.trans (by rw [HVJ.out]))⟩ (fun hHeld => ?_)
      clear hK K
      refine norm_ (a' := ?_) ?_ ?_
      rotate_left
      · show Act.put _ (some 71) _ = _
        simp only [Act.put, List.setIfInBounds_toArray, List.set_cons_zero, List.set_cons_succ, i64_w, i32_w]
        rfl
      refine one_ (i := 18) (N := some 77) #[true, true, true, true, true, true, true, true, true, true, true, true, true, true, true, true, true, true, true, false, false] rfl rfl (by kernel_rfl) (by decide) (fun K hK => ?_)
      refine goes_ Try.func33 (by kernel_rfl) rfl #[.slice AO (A.own j).length cO, .slice YJ (A.own j).length cJ] (by rfl) rfl rfl (by simp only [List.map_toArray, List.map_cons, List.map_nil]; rfl) ?_
      with_reducible refine (ints_same HG.out (show Rw wb (.slice YJ (A.own j).length cJ) (A.own j) from by rw [← HVJ.out]; exact (HP.out.below Bb.out).rows j HJN.out) (by have := Inv.own_le HI.out HJN.out; omega)).mono ?_
      rintro e wc ⟨rfl, hb⟩
      refine ⟨_, rfl, ?_⟩
      have Bc := Aside0.mk (below_step Bb.out hb)
      have Xc := Aside0.mk (blk_below Xb.out hb)
      clear hb
      refine hK.out _ _ ⟨((blk_cell Xc.out 0).trans rfl), ((blk_cell Xc.out 2).trans rfl), (((HP.out.below Bc.out).at0 HJN.out).1.trans (by rw [HRR.out])), (((HP.out.below Bc.out).at2 HJN.out).1.trans (by rw [HVJ.out]))⟩ (fun hHeld => ?_)
      clear hK K
      refine norm_ (a' := ?_) ?_ ?_
      rotate_left
      · show Act.put _ (some 77) _ = _
        simp only [Act.put, List.setIfInBounds_toArray, List.set_cons_zero, List.set_cons_succ, i64_w, i32_w]
        rfl
      refine pure_ (i := 19) (N := some 78) (v := ?_) (a' := ?_) #[true, true, true, true, true, true, true, true, true, true, true, true, true, true, true, true, true, true, true, true, false] rfl rfl (by kernel_rfl) (fun _ _ _ h => h) (Or.inl ⟨by rfl, ?_⟩) ?_ ?_
      rotate_left
      · intro w'
        go_simp
        with_reducible rfl
      rotate_left
      · simp only [Act.put, List.setIfInBounds_toArray, List.set_cons_zero, List.set_cons_succ, i64_w, i32_w]
        rfl
      refine pure_ (i := 20) (N := some 79) (v := ?_) (a' := ?_) #[true, true, true, true, true, true, true, true, true, true, true, true, true, true, true, true, true, true, true, true, true] rfl rfl (by kernel_rfl) (fun _ _ _ h => h) (Or.inl ⟨by rfl, ?_⟩) ?_ ?_
      rotate_left
      · intro w'
        go_simp
        with_reducible rfl
      rotate_left
      · simp only [Act.put, List.setIfInBounds_toArray, List.set_cons_zero, List.set_cons_succ, i64_w, i32_w]
        rfl
      refine done_ (by kernel_rfl) ?_

      try go_wp2
      go_roundg k1
      case measure => omega
      case rel => exact ⟨j + 1, by rw [ew.out]; simp, ⟨by have := HJK.out; omega⟩, Bc, Xc⟩
end
end Go.Proofs.Ytjcjhmnfknenlaa.Px
namespace Go.Proofs.Ytjcjhmnfknenlaa.Px
open Go.RowKit Go.Proofs.Ytjcjhmnfknenlaa.PPlaceApart Go.Proofs.YtjcjhmnfknenlaaW.PrintWords Go.Proofs.YtjcjhmnfknenlaaW.PrintLast Go.Proofs.YtjcjhmnfknenlaaW.PrintMore
open Rg (Chg Row)
open Pl (Pa At Inv Rk)
set_option linter.unusedVariables false
set_option linter.unusedSimpArgs false

theorem pl_cut {S : Nat → Prop} {W : World} {gp : Nat} {A : Pa} (h : Pl.Pl S W gp A) : Pl.Pl (fun k => S k ∧ k < W.heap.size) W gp A := by
  obtain ⟨bl, cl, ex, r, q, h⟩ := h
  exact ⟨bl, cl, ex, r, q, h.hg, h.hl, h.own, h.glob, ⟨⟨h.s.1, blk_lt h.hg⟩, ⟨h.s.2.1, blk_lt h.hl⟩, ⟨h.s.2.2.1, h.glob.lt'.1⟩, ⟨h.s.2.2.2.1, h.glob.lt'.2⟩, fun i hi => ⟨⟨(h.s.2.2.2.2 i hi).1, (h.own i hi).lt'.1⟩, ⟨(h.s.2.2.2.2 i hi).2, (h.own i hi).lt'.2⟩⟩⟩, h.sep, h.sepq, h.n_pos, h.n_le, h.cl_le⟩
theorem pl_mono {S S' : Nat → Prop} {W : World} {gp : Nat} {A : Pa} (h : Pl.Pl S W gp A) (hs : ∀ k, S k → S' k) : Pl.Pl S' W gp A := by
  obtain ⟨bl, cl, ex, r, q, h⟩ := h
  exact ⟨bl, cl, ex, r, q, h.mono hs⟩
theorem pl_kept {S T : Nat → Prop} {W W' : World} {gp : Nat} {A : Pa} (h : Pl.Pl S W gp A) (hc : Chg T W W') (hT : ∀ k, T k → ¬ S k) : Pl.Pl S W' gp A := by
  obtain ⟨bl, cl, ex, r, q, h⟩ := h
  exact ⟨bl, cl, ex, r, q, h.kept hc hT⟩
theorem pl_n8 {S : Nat → Prop} {W : World} {gp : Nat} {A : Pa} (h : Pl.Pl S W gp A) : 0 < A.n ∧ A.n ≤ 8 := by
  obtain ⟨bl, cl, ex, r, q, h⟩ := h
  exact ⟨h.n_pos, h.n_le⟩
section
variable {S R : Nat → Prop} {w W W' w1 : World} {gp gx : Nat} {A B A' B' : Pa} {u0 u1 u2 u3 q0 q1 q2 q3 : Value} {vs qs : Nat → Value}
theorem own_chg {b n : Nat} {e : TypeId} {v : Value} {xs : List Value} (h : W.ownsRow b e 1 v n xs) (hc : Chg S W W') (hv : ∀ k, v.ownBlock = some k → ¬ S k) : W'.ownsRow b e 1 v n xs :=
  own_move h (fun k hk => hc.block k (own_lt h k hk) (hv k hk))
theorem Pg.chg (h : Pg R W B u0 u1 u2 u3 vs) (hc : Chg S W W') (hd : ∀ k, S k → ¬ R k) : Pg (fun k => (R k ∧ k < W.heap.size) ∨ W'.heap.size ≤ k) W' B u0 u1 u2 u3 vs :=
  ⟨own_chg h.r0 hc (fun k hk hs => hd k hs (h.pm.1 k hk)), own_chg h.r1 hc (fun k hk hs => hd k hs (h.pm.2.1 k hk)), own_chg h.r2 hc (fun k hk hs => hd k hs (h.pm.2.2.1 k hk)), own_chg h.r3 hc (fun k hk hs => hd k hs (h.pm.2.2.2.1 k hk)), fun i hi => own_chg (h.rows i hi) hc (fun k hk hs => hd k hs (h.pm.2.2.2.2 i hi k hk)),
    fun k hk => .inr hk, fun k hk => .inl ⟨h.pm.1 k hk, own_lt h.r0 k hk⟩, fun k hk => .inl ⟨h.pm.2.1 k hk, own_lt h.r1 k hk⟩, fun k hk => .inl ⟨h.pm.2.2.1 k hk, own_lt h.r2 k hk⟩, fun k hk => .inl ⟨h.pm.2.2.2.1 k hk, own_lt h.r3 k hk⟩, fun i hi k hk => .inl ⟨h.pm.2.2.2.2 i hi k hk, own_lt (h.rows i hi) k hk⟩⟩
theorem chg_row (W : World) (g : Nat) (cs : Array Value) : Chg (fun k => k = g) W (W.setRow g cs) := ⟨rfl, rfl, rfl, by simp [World.setRow], fun k hk hn => setRow_other W g k cs hn⟩
/-- Places, and the page's in a box, side by side. -/
structure Sd (S R : Nat → Prop) (w W : World) (gp gx : Nat) (A B : Pa) (q0 q1 q2 q3 : Value) (qs : Nat → Value) : Prop where
  pl : Pl.Pl S W gp A
  pg : Pg R W B q0 q1 q2 q3 qs
  sep : ∀ k, S k → w.heap.size ≤ k ∧ k < W.heap.size ∧ ¬ R k ∧ k ≠ gx
  box : W.heap[gx]? = some (.cells #[q0, q1, q2, q3] 41 (0, 0))
  ge : w.heap.size ≤ gx
  hb : Below w.heap.size w W
theorem Sd.below (h : Sd S R w W gp gx A B q0 q1 q2 q3 qs) (hb : Below W.heap.size W w1) : Sd S R w w1 gp gx A B q0 q1 q2 q3 qs :=
  ⟨pl_below h.pl hb, h.pg.below hb, fun k hk => ⟨(h.sep k hk).1, Nat.lt_of_lt_of_le (h.sep k hk).2.1 hb.size, (h.sep k hk).2.2⟩, blk_below h.box hb, h.ge, below_step h.hb hb⟩
theorem Sd.page (h : Sd S R w W gp gx A B u0 u1 u2 u3 vs) (hb : Below W.heap.size W w1) (hp : Pg R w1 B' q0 q1 q2 q3 qs) : Sd S R w (w1.setRow gx #[q0, q1, q2, q3]) gp gx A B' q0 q1 q2 q3 qs := by
  have h1 := h.below hb
  exact ⟨pl_kept h1.pl (chg_row _ _ _) (fun k hk hs => (h1.sep k hs).2.2.2 hk), hp.boxr h1.box, fun k hk => ⟨(h1.sep k hk).1, by simpa [World.setRow] using (h1.sep k hk).2.1, (h1.sep k hk).2.2⟩, setRow_heap _ _ _ _ _ _ h1.box, h.ge, below_row41 h1.hb h.ge _⟩
theorem Sd.prog (h : Sd S R w W gp gx A B q0 q1 q2 q3 qs) (h1 : Pl.Pl (fun k => S k ∨ W.heap.size ≤ k) w1 gp A') (h2 : Chg S W w1) :
    Sd (fun k => (S k ∨ W.heap.size ≤ k) ∧ k < w1.heap.size) (fun k => (R k ∧ k < W.heap.size) ∨ w1.heap.size ≤ k) w w1 gp gx A' B q0 q1 q2 q3 qs := by
  refine ⟨pl_cut h1, h.pg.chg h2 (fun k hk => (h.sep k hk).2.2.1), fun k hk => ?_, ?_, h.ge, Chg.below h.hb h2 h.hb.size (fun k hk => (h.sep k hk).1)⟩
  · have hs := h2.size
    have hb := h.hb.size
    have hx := blk_lt h.box
    obtain ⟨z | z, hk⟩ := hk
    · obtain ⟨z1, z2, z3, z4⟩ := h.sep k z
      exact ⟨z1, hk, fun q => by
        rcases q with q | q
        · exact z3 q.1
        · omega, z4⟩
    · exact ⟨by omega, hk, fun q => by
        rcases q with q | q
        · omega
        · omega, by omega⟩
  · exact (h2.block gx (blk_lt h.box) (fun z => (h.sep gx z).2.2.2 rfl)).trans h.box
end
end Go.Proofs.Ytjcjhmnfknenlaa.Px
namespace Go.Proofs.Ytjcjhmnfknenlaa.Px
open Go.RowKit Go.Proofs.Ytjcjhmnfknenlaa.PPlaceApart Go.Proofs.YtjcjhmnfknenlaaW.PrintWords Go.Proofs.YtjcjhmnfknenlaaW.PrintLast Go.Proofs.YtjcjhmnfknenlaaW.PrintMore
open Rg (Chg Row)
open Pl (Pa At Inv Rk)
set_option linter.unusedVariables false
set_option linter.unusedSimpArgs false

structure Tw (S Sc R : Nat → Prop) (w W : World) (gp gc gx : Nat) (A B : Pa) (q0 q1 q2 q3 : Value) (qs : Nat → Value) : Prop where
  pl : Pl.Pl S W gp A
  sd : Sd Sc R w W gc gx B B q0 q1 q2 q3 qs
  sep : ∀ k, S k → w.heap.size ≤ k ∧ k < W.heap.size ∧ ¬ Sc k ∧ ¬ R k ∧ k ≠ gx
section
variable {S Sc R : Nat → Prop} {w W w1 : World} {gp gc gx : Nat} {A A' B : Pa} {q0 q1 q2 q3 : Value} {qs : Nat → Value}
theorem tw_new {gl cl' : Nat} {ex' : List Value} {r' : Nat → Rk} {q' : Rk} (h : Sd S R w W gp gx A A q0 q1 q2 q3 qs) (hc : At (fun k => W.heap.size ≤ k) w1 gc A gl cl' ex' r' q') (hb : Below W.heap.size W w1) :
    Tw S (fun k => W.heap.size ≤ k ∧ k < w1.heap.size) (fun k => (R k ∧ k < W.heap.size) ∨ w1.heap.size ≤ k) w w1 gp gc gx A A q0 q1 q2 q3 qs := by
  have e1 := hb.size
  have e2 := h.hb.size
  have e3 := blk_lt h.box
  refine ⟨pl_below h.pl hb, ⟨pl_cut ⟨gl, cl', ex', r', q', hc⟩, h.pg.chg (S := fun _ => False) (Chg.of_below hb) (fun _ z => z.elim), fun k hk => ?_, blk_below h.box hb, h.ge, below_step h.hb hb⟩, fun k hk => ?_⟩
  · obtain ⟨z1, z2⟩ := hk
    exact ⟨by omega, z2, fun q => by rcases q with q | q <;> omega, by omega⟩
  · obtain ⟨z1, z2, z3, z4⟩ := h.sep k hk
    exact ⟨z1, by omega, fun q => by have := q.1; omega, fun q => by
      rcases q with q | q
      · exact z3 q.1
      · omega, z4⟩
theorem Tw.below (h : Tw S Sc R w W gp gc gx A B q0 q1 q2 q3 qs) (hb : Below W.heap.size W w1) : Tw S Sc R w w1 gp gc gx A B q0 q1 q2 q3 qs :=
  ⟨pl_below h.pl hb, h.sd.below hb, fun k hk => ⟨(h.sep k hk).1, Nat.lt_of_lt_of_le (h.sep k hk).2.1 hb.size, (h.sep k hk).2.2⟩⟩
theorem Tw.prog (h : Tw S Sc R w W gp gc gx A B q0 q1 q2 q3 qs) (h1 : Pl.Pl (fun k => S k ∨ W.heap.size ≤ k) w1 gp A') (h2 : Chg S W w1) :
    Tw (fun k => (S k ∨ W.heap.size ≤ k) ∧ k < w1.heap.size) Sc (fun k => (R k ∧ k < W.heap.size) ∨ w1.heap.size ≤ k) w w1 gp gc gx A' B q0 q1 q2 q3 qs := by
  have e1 := h2.size
  have e2 := h.sd.hb.size
  have e3 := blk_lt h.sd.box
  refine ⟨pl_cut h1, ⟨pl_kept h.sd.pl h2 (fun k hk => (h.sep k hk).2.2.1), h.sd.pg.chg h2 (fun k hk => (h.sep k hk).2.2.2.1), fun k hk => ?_, (h2.block gx e3 (fun z => (h.sep gx z).2.2.2.2 rfl)).trans h.sd.box, h.sd.ge, Chg.below h.sd.hb h2 h.sd.hb.size (fun k hk => (h.sep k hk).1)⟩, fun k hk => ?_⟩
  · obtain ⟨z1, z2, z3, z4⟩ := h.sd.sep k hk
    exact ⟨z1, by omega, fun q => by
      rcases q with q | q
      · exact z3 q.1
      · omega, z4⟩
  · obtain ⟨z | z, hk⟩ := hk
    · obtain ⟨z1, z2, z3, z4, z5⟩ := h.sep k z
      exact ⟨z1, hk, z3, fun q => by
        rcases q with q | q
        · exact z4 q.1
        · omega, z5⟩
    · exact ⟨by omega, hk, fun q => by have := (h.sd.sep k q).2.1; omega, fun q => by rcases q with q | q <;> omega, by omega⟩
end
end Go.Proofs.Ytjcjhmnfknenlaa.Px
