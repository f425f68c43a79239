/- Whether all is told as by the page (same). Conditions: none. -/
import Derived.Test.YtakbhnfmimnbhaaRn35
namespace Go.Proofs.Ytakbhnfmimnbhaa.Rn
open Go.RowKit Go.Proofs.YtakbhnfmimnbhaaW.PrintWords Go.Proofs.YtakbhnfmimnbhaaW.PrintLast Go.Proofs.YtakbhnfmimnbhaaW.PrintMore
set_option linter.unusedVariables false
set_option linter.unusedSimpArgs false

theorem ex_load64 {oi : Oper} {a : Act} {w : World} {g : Nat} {x : Operand} {v0 v1 v2 v3 v4 : Value} (ho : oi.op = .load 64 x) (hx : a.eval x = .pointer (some ⟨g, 0, none⟩)) (hg : w.heap[g]? = some (.cells #[v0, v1, v2, v3, v4] 64 (0, 0))) : (execOp a.eval oi).run Try.prog w = .ok (.value (.agg #[v0, v1, v2, v3, v4])) w := by
  unfold execOp
  simp only [ho, hx, Instr.loadAt, Instr.sureAddr, Sem.run_bind, Sem.run_pure, Result.andThen_ok, run_loadVar_row w g 64 64 _ (0, 0) _ hg Try.underlying64 rfl info64s]
section
variable {S : Nat → Prop} {W : World} {g : Nat} {vf vu vg : Value} {A : La}
theorem pr_rd {W : World} {b : Nat} {v : Value} {l : List (Int × Int)} (h : PR W b v l) : ∃ A c, v = .slice A l.length c ∧ RdC W A l.length 2 (pcs l) := by
  obtain ⟨A, c, rfl⟩ := own_slice h
  exact ⟨A, c, rfl, own_rdc (v := .bool true) h⟩
theorem undo_rd (h : Lg S W g vf vu vg A) {u : Nat} (hl : u ≤ 110) (hu : u = A.u.length) : Calls Try.prog 11 #[.pointer (some ⟨g, 0, none⟩)] W fun e w' => ∃ A5 c5, e = .returned (.slice A5 u c5) ∧ RdC w' A5 A.u.reverse.length 2 (pcs A.u.reverse) ∧ Below W.heap.size W w' := by
  refine (undo_any h (by omega)).mono ?_
  rintro e w' ⟨v, rfl, hp, hb⟩
  obtain ⟨A5, c5, rfl, hr⟩ := pr_rd hp
  exact ⟨A5, c5, by rw [List.length_reverse, hu], hr, hb⟩
theorem held_rd (h : Lg S W g vf vu vg A) {u : Nat} (hl : u ≤ 110) (hu : u = A.go.length) : Calls Try.prog 29 #[.pointer (some ⟨g, 0, none⟩)] W fun e w' => ∃ A5 c5, e = .returned (.slice A5 u c5) ∧ RdC w' A5 u 2 (pcs A.go) ∧ Below W.heap.size W w' := by
  refine (held_any h (by omega)).mono ?_
  rintro e w' ⟨v, rfl, hp, hb⟩
  obtain ⟨A5, c5, rfl, hr⟩ := pr_rd hp
  exact ⟨A5, c5, by rw [hu], by rw [hu]; exact hr, hb⟩
theorem rundo_rd {W : World} {vf vg : Value} {nm ab : Int} {A : Option Addr} {u c : Nat} {l : List (Int × Int)} (hr : RdC W A u 2 (pcs l)) (hl : u ≤ 110) (hn : u = l.length) : Calls Try.prog 59 #[.agg #[vf, .int .i64 nm, .int .i64 ab, .slice A u c, vg]] W fun e w' => ∃ A5 c5, e = .returned (.slice A5 u c5) ∧ RdC w' A5 l.reverse.length 2 (pcs l.reverse) ∧ Below W.heap.size W w' := by
  refine (rundo_any (l := l) (by rw [← hn]; exact hr) (by omega) hn).mono ?_
  rintro e w' ⟨v, rfl, hp, hb⟩
  obtain ⟨A5, c5, rfl⟩ := own_slice hp
  exact ⟨A5, c5, by rw [List.length_reverse, hn], hp.rd, hb⟩
theorem frames_rd (h : Lg S W g vf vu vg A) {n : Nat} {is : List Int} (hi : A.fx = nums .i64 is) (hnn : n = A.n) (hn : n ≤ 100000) (ha : 0 ≤ A.ab ∧ A.ab ≤ 1000000) : Calls Try.prog 30 #[.pointer (some ⟨g, 0, none⟩)] W fun e w' => ∃ A5 c5, e = .returned (.slice A5 n c5) ∧ RdC w' A5 n 27 (nums .i64 (if 0 < A.ab then turnI n is A.ab else is)) ∧ Below W.heap.size W w' := by
  subst hnn
  refine (frames_any h hi hn ha).mono ?_
  rintro e w' ⟨v, rfl, hp, hb⟩
  obtain ⟨A5, c5, rfl⟩ := own_slice hp
  exact ⟨A5, c5, rfl, own_rdw hp, hb⟩
set_option maxHeartbeats 16000000 in
set_option maxRecDepth 100000 in
theorem same_any {T : Nat → Prop} {i n cf cu cg : Nat} {Af Au Ag : Option Addr} {is : List Int} (hl : Lg S W g vf vu vg A) (hx : Xr T W Au Ag cu cg A) (hfr : RdC W Af n 27 (nums .i64 is)) (hfx : A.fx = nums .i64 is) (hnA : n = A.n) (hg : GI i A) (hcf : n ≤ cf) : Calls Try.prog 23 #[.pointer (some ⟨g, 0, none⟩), .agg #[.slice Af n cf, .int .i64 A.nm, .int .i64 A.ab, .slice Au A.u.length cu, .slice Ag A.go.length cg]] W fun e w' => e = .returned (.bool true) ∧ Below W.heap.size W w' := by
  have hu64 := Try.underlying64
  have HPU0 := Aside0.mk hx.pu.rd
  have HPG0 := Aside0.mk hx.pg.rd
  obtain ⟨u, hu⟩ : ∃ u, u = A.u.length := ⟨_, rfl⟩
  obtain ⟨q, hq⟩ : ∃ q, q = A.go.length := ⟨_, rfl⟩
  have HU := Aside0.mk (show u ≤ 110 from by have h1 := hg.ul; have h2 := hg.i50; omega)
  have HQ := Aside0.mk (show q ≤ 110 from by have h1 := hg.gl; have h2 := hg.i50; omega)
  have HUL := Aside0.mk hu
  have HQL := Aside0.mk hq
  rw [← hu] at HPU0
  rw [← hq] at HPG0
  rw [← hu, ← hq]
  have HQ2 : ∀ (w9 : World) (B : Option Addr), RdC w9 B q 2 (pcs A.go) → RdC w9 B A.go.length 2 (pcs A.go) := fun w9 B h => by rw [← hq]; exact h
  have HL0 := Aside0.mk hl
  have HFR0 := Aside0.mk hfr
  have HFX := Aside0.mk hfx
  have HNN := Aside0.mk hnA
  have HN := Aside0.mk (show n ≤ 100000 from by rw [hnA]; exact hg.an)
  have HCF := Aside0.mk hcf
  have HAB := Aside0.mk (show 0 ≤ A.ab ∧ A.ab ≤ 1000000 from by have h1 := hg.ab; have h2 := hg.i50; omega)
  clear hl hx hfr hfx hnA hg hcf hu hq
  go_enter Try.func23, Try.ntmps23
  go_upto_region 1 with ((with_reducible refine gate_dst (N := 3) rfl ?_); refine box_event ?hg (N := 3) ?hd (cs := #[.slice Af n cf, .int .i64 A.nm, .int .i64 A.ab, .slice Au u cu, .slice Ag q cg]) (t := 64) ?hr ?_; (case hd => rfl); (case hg => rfl); (case hr => first | (go_simp; done) | (go_simp; rfl)); intro gx hgx w1 hbox hb; have B1 := Aside0.mk hb; have X1 := Aside0.mk hbox; clear hbox hb hgx)
  have HXD := Aside0.mk (show w1.drew.heap[gx]? = some (.cells #[.slice Af n cf, .int .i64 A.nm, .int .i64 A.ab, .slice Au u cu, .slice Ag q cg] 64 (0, 0)) from X1.out)
  have BD := Aside0.mk (show Below W.heap.size W w1.drew from below_drew B1.out)
  have HLD := Aside0.mk (HL0.out.below BD.out)
  have HFR := Aside0.mk (rdc_below HFR0.out BD.out)
  have HPU := Aside0.mk (rdc_below HPU0.out BD.out)
  have HPG := Aside0.mk (rdc_below HPG0.out BD.out)
  clear HL0 HFR0 HPU0 HPG0 B1 X1
  refine start_ (n := 34) (S := fun w' => w'.heap[gx]? = some (.cells #[.slice Af n cf, .int .i64 A.nm, .int .i64 A.ab, .slice Au u cu, .slice Ag q cg] 64 (0, 0)) ∧ w'.cell? ⟨gx, 4, none⟩ = some (.slice Ag q cg) ∧ w'.cell? ⟨gx, 1, none⟩ = some (.int .i64 A.nm) ∧ w'.cell? ⟨gx, 2, none⟩ = some (.int .i64 A.ab)) (ds := []) #[false, false, false, false, false, false, false, false, false, false, false, false, false, false, false, false, false, false, false, false, false, false, false, false, false, false, false, false, false, false, false, false, false, false] (by kernel_rfl) rfl rfl ⟨(blk_below HXD.out (Below.refl _ _)), ((blk_cell (blk_below HXD.out (Below.refl _ _)) 4).trans rfl), ((blk_cell (blk_below HXD.out (Below.refl _ _)) 1).trans rfl), ((blk_cell (blk_below HXD.out (Below.refl _ _)) 2).trans rfl)⟩ (fun hHeld => ?_)
  refine pure_ (i := 0) (N := some 5) (v := ?_) (a' := ?_) #[true, false, false, false, false, false, false, false, false, false, false, false, false, false, false, false, false, false, false, false, false, false, false, false, false, false, false, false, false, false, false, false, false, false] rfl rfl (by kernel_rfl) (fun _ _ _ h => h) (Or.inl ⟨by rfl, ?_⟩) ?_ ?_
  rotate_left
  · intro w'
    go_simp
    with_reducible rfl
  rotate_left
  · simp only [Act.put, List.setIfInBounds_toArray, List.set_cons_zero, List.set_cons_succ, i64_w, i32_w]
    rfl
  refine take_ (i := 2) (N := some 7) (v := ?_) (a' := ?_) #[true, false, true, false, false, false, false, false, false, false, false, false, false, false, false, false, false, false, false, false, false, false, false, false, false, false, false, false, false, false, false, false, false, false] rfl rfl (by kernel_rfl) (fun _ _ _ h => h) (Or.inl ⟨by rfl, ?_⟩) hHeld ?_ ?_
  rotate_left
  · rintro w' ⟨s0, s1, s2, s3⟩
    (refine ex_load64 (x := .tmp 3) ?_ ?_ s0 <;> first | (simp [Act.eval, Act.put]; done) | rfl)
  rotate_left
  · simp only [Act.put, List.setIfInBounds_toArray, List.set_cons_zero, List.set_cons_succ, i64_w, i32_w]
    rfl
  refine one_ (i := 1) (N := some 6) #[true, true, true, false, false, false, false, false, false, false, false, false, false, false, false, false, false, false, false, false, false, false, false, false, false, false, false, false, false, false, false, false, false, false] rfl rfl (by kernel_rfl) (by decide) (fun K hK => ?_)
  refine goes_ Try.func11 (by kernel_rfl) rfl #[.pointer (some ⟨g, 0, none⟩)] (by rfl) rfl rfl (by simp only [List.map_toArray, List.map_cons, List.map_nil]; rfl) ?_
  with_reducible refine (undo_rd HLD.out HU.out HUL.out).mono ?_
  rintro e w2 ⟨A2, c2, rfl, hr, hb⟩
  refine ⟨_, rfl, ?_⟩
  have B2 := Aside0.mk hb
  have R2 := Aside0.mk hr
  clear hb hr
  refine hK.out _ _ ⟨(blk_below HXD.out B2.out), ((blk_cell (blk_below HXD.out B2.out) 4).trans rfl), ((blk_cell (blk_below HXD.out B2.out) 1).trans rfl), ((blk_cell (blk_below HXD.out B2.out) 2).trans rfl)⟩ (fun hHeld => ?_)
  clear hK K
  refine norm_ (a' := ?_) ?_ ?_
  rotate_left
  · show Act.put _ (some 6) _ = _
    simp only [Act.put, List.setIfInBounds_toArray, List.set_cons_zero, List.set_cons_succ, i64_w, i32_w]
    rfl
  refine one_ (i := 3) (N := some 8) #[true, true, true, true, false, false, false, false, false, false, false, false, false, false, false, false, false, false, false, false, false, false, false, false, false, false, false, false, false, false, false, false, false, false] rfl rfl (by kernel_rfl) (by decide) (fun K hK => ?_)
  refine goes_ Try.func59 (by kernel_rfl) rfl #[.agg #[.slice Af n cf, .int .i64 A.nm, .int .i64 A.ab, .slice Au u cu, .slice Ag q cg]] (by rfl) rfl rfl (by simp only [List.map_toArray, List.map_cons, List.map_nil]; rfl) ?_
  with_reducible refine (rundo_rd (rdc_below HPU.out B2.out) HU.out HUL.out).mono ?_
  rintro e w3 ⟨A3, c3, rfl, hr, hb⟩
  refine ⟨_, rfl, ?_⟩
  have hb32 := Aside0.mk hb
  have B3 := Aside0.mk (below_step B2.out hb)
  have R3 := Aside0.mk hr
  clear hb hr
  refine hK.out _ _ ⟨(blk_below HXD.out B3.out), ((blk_cell (blk_below HXD.out B3.out) 4).trans rfl), ((blk_cell (blk_below HXD.out B3.out) 1).trans rfl), ((blk_cell (blk_below HXD.out B3.out) 2).trans rfl)⟩ (fun hHeld => ?_)
  clear hK K
  refine norm_ (a' := ?_) ?_ ?_
  rotate_left
  · show Act.put _ (some 8) _ = _
    simp only [Act.put, List.setIfInBounds_toArray, List.set_cons_zero, List.set_cons_succ, i64_w, i32_w]
    rfl
  refine one_ (i := 4) (N := some 9) #[true, true, true, true, true, false, false, false, false, false, false, false, false, false, false, false, false, false, false, false, false, false, false, false, false, false, false, false, false, false, false, false, false, false] rfl rfl (by kernel_rfl) (by decide) (fun K hK => ?_)
  have hb3 := Aside0.mk hb32.out
  refine goes_ Try.func58 (by kernel_rfl) rfl #[.slice A2 u c2, .slice A3 u c3] (by rfl) rfl rfl (by simp only [List.map_toArray, List.map_cons, List.map_nil]; rfl) ?_
  with_reducible refine (like_any (rdc_below R2.out hb3.out) R3.out (by rw [List.length_reverse]; have := HU.out; have := HUL.out; omega) (by rw [List.length_reverse]; exact HUL.out)).mono ?_
  rintro e w4 ⟨rfl, hb⟩
  refine ⟨_, rfl, ?_⟩
  have B4 := Aside0.mk (below_step B3.out hb)
  clear hb 
  refine hK.out _ _ ⟨(blk_below HXD.out B4.out), ((blk_cell (blk_below HXD.out B4.out) 4).trans rfl), ((blk_cell (blk_below HXD.out B4.out) 1).trans rfl), ((blk_cell (blk_below HXD.out B4.out) 2).trans rfl)⟩ (fun hHeld => ?_)
  clear hK K
  refine norm_ (a' := ?_) ?_ ?_
  rotate_left
  · show Act.put _ (some 9) _ = _
    simp only [Act.put, List.setIfInBounds_toArray, List.set_cons_zero, List.set_cons_succ, i64_w, i32_w]
    rfl
  refine pure_ (i := 5) (N := some 10) (v := ?_) (a' := ?_) #[true, true, true, true, true, true, false, false, false, false, false, false, false, false, false, false, false, false, false, false, false, false, false, false, false, false, false, false, false, false, false, false, false, false] rfl rfl (by kernel_rfl) (fun _ _ _ h => h) (Or.inl ⟨by rfl, ?_⟩) ?_ ?_
  rotate_left
  · intro w'
    go_simp
    with_reducible rfl
  rotate_left
  · simp only [Act.put, List.setIfInBounds_toArray, List.set_cons_zero, List.set_cons_succ, i64_w, i32_w]
    rfl
  refine pure_ (i := 6) (N := some 11) (v := ?_) (a' := ?_) #[true, true, true, true, true, true, true, false, false, false, false, false, false, false, false, false, false, false, false, false, false, false, false, false, false, false, false, false, false, false, false, false, false, false] rfl rfl (by kernel_rfl) (fun _ _ _ h => h) (Or.inl ⟨by rfl, ?_⟩) ?_ ?_
  rotate_left
  · intro w'
    go_simp
    with_reducible rfl
  rotate_left
  · simp only [Act.put, List.setIfInBounds_toArray, List.set_cons_zero, List.set_cons_succ, i64_w, i32_w]
    rfl
  refine pure_ (i := 8) (N := some 13) (v := ?_) (a' := ?_) #[true, true, true, true, true, true, true, false, true, false, false, false, false, false, false, false, false, false, false, false, false, false, false, false, false, false, false, false, false, false, false, false, false, false] rfl rfl (by kernel_rfl) (fun _ _ _ h => h) (Or.inl ⟨by rfl, ?_⟩) ?_ ?_
  rotate_left
  · intro w'
    go_simp
    with_reducible rfl
  rotate_left
  · simp only [Act.put, List.setIfInBounds_toArray, List.set_cons_zero, List.set_cons_succ, i64_w, i32_w]
    rfl
  refine take_ (i := 9) (N := some 14) (v := ?_) (a' := ?_) #[true, true, true, true, true, true, true, false, true, true, false, false, false, false, false, false, false, false, false, false, false, false, false, false, false, false, false, false, false, false, false, false, false, false] rfl rfl (by kernel_rfl) (fun _ _ _ h => h) (Or.inl ⟨by rfl, ?_⟩) hHeld ?_ ?_
  rotate_left
  · rintro w' ⟨s0, s1, s2, s3⟩
    go_simp
    with_reducible rfl
  rotate_left
  · simp only [Act.put, List.setIfInBounds_toArray, List.set_cons_zero, List.set_cons_succ, i64_w, i32_w]
    rfl
  refine one_ (i := 7) (N := some 12) #[true, true, true, true, true, true, true, true, true, true, false, false, false, false, false, false, false, false, false, false, false, false, false, false, false, false, false, false, false, false, false, false, false, false] rfl rfl (by kernel_rfl) (by decide) (fun K hK => ?_)
  refine goes_ Try.func29 (by kernel_rfl) rfl #[.pointer (some ⟨g, 0, none⟩)] (by rfl) rfl rfl (by simp only [List.map_toArray, List.map_cons, List.map_nil]; rfl) ?_
  with_reducible refine (held_rd (HLD.out.below B4.out) HQ.out HQL.out).mono ?_
  rintro e w5 ⟨A5, c5, rfl, hr, hb⟩
  refine ⟨_, rfl, ?_⟩
  have B5 := Aside0.mk (below_step B4.out hb)
  have R5 := Aside0.mk hr
  clear hb hr
  refine hK.out _ _ ⟨(blk_below HXD.out B5.out), ((blk_cell (blk_below HXD.out B5.out) 4).trans rfl), ((blk_cell (blk_below HXD.out B5.out) 1).trans rfl), ((blk_cell (blk_below HXD.out B5.out) 2).trans rfl)⟩ (fun hHeld => ?_)
  clear hK K
  refine norm_ (a' := ?_) ?_ ?_
  rotate_left
  · show Act.put _ (some 12) _ = _
    simp only [Act.put, List.setIfInBounds_toArray, List.set_cons_zero, List.set_cons_succ, i64_w, i32_w]
    rfl
  refine one_ (i := 10) (N := some 15) #[true, true, true, true, true, true, true, true, true, true, true, false, false, false, false, false, false, false, false, false, false, false, false, false, false, false, false, false, false, false, false, false, false, false] rfl rfl (by kernel_rfl) (by decide) (fun K hK => ?_)
  refine goes_ Try.func58 (by kernel_rfl) rfl #[.slice A5 q c5, .slice Ag q cg] (by rfl) rfl rfl (by simp only [List.map_toArray, List.map_cons, List.map_nil]; rfl) ?_
  with_reducible refine (like_any (HQ2 _ _ R5.out) (HQ2 _ _ (rdc_below HPG.out B5.out)) (by have := HQ.out; have := HQL.out; omega) HQL.out).mono ?_
  rintro e w6 ⟨rfl, hb⟩
  refine ⟨_, rfl, ?_⟩
  have B6 := Aside0.mk (below_step B5.out hb)
  clear hb 
  refine hK.out _ _ ⟨(blk_below HXD.out B6.out), ((blk_cell (blk_below HXD.out B6.out) 4).trans rfl), ((blk_cell (blk_below HXD.out B6.out) 1).trans rfl), ((blk_cell (blk_below HXD.out B6.out) 2).trans rfl)⟩ (fun hHeld => ?_)
  clear hK K
  refine norm_ (a' := ?_) ?_ ?_
  rotate_left
  · show Act.put _ (some 15) _ = _
    simp only [Act.put, List.setIfInBounds_toArray, List.set_cons_zero, List.set_cons_succ, i64_w, i32_w]
    rfl
  refine pure_ (i := 11) (N := some 16) (v := ?_) (a' := ?_) #[true, true, true, true, true, true, true, true, true, true, true, true, false, false, false, false, false, false, false, false, false, false, false, false, false, false, false, false, false, false, false, false, false, false] rfl rfl (by kernel_rfl) (fun _ _ _ h => h) (Or.inl ⟨by rfl, ?_⟩) ?_ ?_
  rotate_left
  · intro w'
    go_simp
    with_reducible rfl
  rotate_left
  · simp only [Act.put, List.setIfInBounds_toArray, List.set_cons_zero, List.set_cons_succ, i64_w, i32_w]
    rfl
  refine pure_ (i := 12) (N := some 17) (v := ?_) (a' := ?_) #[true, true, true, true, true, true, true, true, true, true, true, true, true, false, false, false, false, false, false, false, false, false, false, false, false, false, false, false, false, false, false, false, false, false] rfl rfl (by kernel_rfl) (fun _ _ _ h => h) (Or.inl ⟨by rfl, ?_⟩) ?_ ?_
  rotate_left
  · intro w'
    go_simp
    with_reducible rfl
  rotate_left
  · simp only [Act.put, List.setIfInBounds_toArray, List.set_cons_zero, List.set_cons_succ, i64_w, i32_w]
    rfl
  refine pure_ (i := 13) (N := some 18) (v := ?_) (a' := ?_) #[true, true, true, true, true, true, true, true, true, true, true, true, true, true, false, false, false, false, false, false, false, false, false, false, false, false, false, false, false, false, false, false, false, false] rfl rfl (by kernel_rfl) (fun _ _ _ h => h) (Or.inl ⟨by rfl, ?_⟩) ?_ ?_
  rotate_left
  · intro w'
    go_simp
    with_reducible rfl
  rotate_left
  · simp only [Act.put, List.setIfInBounds_toArray, List.set_cons_zero, List.set_cons_succ, i64_w, i32_w]
    rfl
  refine take_ (i := 15) (N := some 20) (v := ?_) (a' := ?_) #[true, true, true, true, true, true, true, true, true, true, true, true, true, true, false, true, false, false, false, false, false, false, false, false, false, false, false, false, false, false, false, false, false, false] rfl rfl (by kernel_rfl) (fun _ _ _ h => h) (Or.inl ⟨by rfl, ?_⟩) hHeld ?_ ?_
  rotate_left
  · rintro w' ⟨s0, s1, s2, s3⟩
    (refine ex_load64 (x := .tmp 3) ?_ ?_ s0 <;> first | (simp [Act.eval, Act.put]; done) | rfl)
  rotate_left
  · simp only [Act.put, List.setIfInBounds_toArray, List.set_cons_zero, List.set_cons_succ, i64_w, i32_w]
    rfl
  refine one_ (i := 14) (N := some 19) #[true, true, true, true, true, true, true, true, true, true, true, true, true, true, true, true, false, false, false, false, false, false, false, false, false, false, false, false, false, false, false, false, false, false] rfl rfl (by kernel_rfl) (by decide) (fun K hK => ?_)
  refine goes_ Try.func30 (by kernel_rfl) rfl #[.pointer (some ⟨g, 0, none⟩)] (by rfl) rfl rfl (by simp only [List.map_toArray, List.map_cons, List.map_nil]; rfl) ?_
  with_reducible refine (frames_rd (HLD.out.below B6.out) HFX.out HNN.out HN.out HAB.out).mono ?_
  rintro e w7 ⟨A7, c7, rfl, hr, hb⟩
  refine ⟨_, rfl, ?_⟩
  have B7 := Aside0.mk (below_step B6.out hb)
  have R7 := Aside0.mk hr
  clear hb hr
  refine hK.out _ _ ⟨(blk_below HXD.out B7.out), ((blk_cell (blk_below HXD.out B7.out) 4).trans rfl), ((blk_cell (blk_below HXD.out B7.out) 1).trans rfl), ((blk_cell (blk_below HXD.out B7.out) 2).trans rfl)⟩ (fun hHeld => ?_)
  clear hK K
  refine norm_ (a' := ?_) ?_ ?_
  rotate_left
  · show Act.put _ (some 19) _ = _
    simp only [Act.put, List.setIfInBounds_toArray, List.set_cons_zero, List.set_cons_succ, i64_w, i32_w]
    rfl
  refine one_ (i := 16) (N := some 21) #[true, true, true, true, true, true, true, true, true, true, true, true, true, true, true, true, true, false, false, false, false, false, false, false, false, false, false, false, false, false, false, false, false, false] rfl rfl (by kernel_rfl) (by decide) (fun K hK => ?_)
  refine goes_ Try.func61 (by kernel_rfl) rfl #[.agg #[.slice Af n cf, .int .i64 A.nm, .int .i64 A.ab, .slice Au u cu, .slice Ag q cg]] (by rfl) rfl rfl (by simp only [List.map_toArray, List.map_cons, List.map_nil]; rfl) ?_
  with_reducible refine (rframes_any (rdc_below HFR.out B7.out) HN.out HCF.out HAB.out).mono ?_
  rintro e w8 ⟨A8, c8, rfl, hr, hb⟩
  refine ⟨_, rfl, ?_⟩
  have hb8 := Aside0.mk hb
  have B8 := Aside0.mk (below_step B7.out hb)
  have R8 := Aside0.mk hr
  clear hb hr
  refine hK.out _ _ ⟨(blk_below HXD.out B8.out), ((blk_cell (blk_below HXD.out B8.out) 4).trans rfl), ((blk_cell (blk_below HXD.out B8.out) 1).trans rfl), ((blk_cell (blk_below HXD.out B8.out) 2).trans rfl)⟩ (fun hHeld => ?_)
  clear hK K
  refine norm_ (a' := ?_) ?_ ?_
  rotate_left
  · show Act.put _ (some 21) _ = _
    simp only [Act.put, List.setIfInBounds_toArray, List.set_cons_zero, List.set_cons_succ, i64_w, i32_w]
    rfl
  refine one_ (i := 17) (N := some 22) #[true, true, true, true, true, true, true, true, true, true, true, true, true, true, true, true, true, true, false, false, false, false, false, false, false, false, false, false, false, false, false, false, false, false] rfl rfl (by kernel_rfl) (by decide) (fun K hK => ?_)
  refine goes_ Try.func60 (by kernel_rfl) rfl #[.slice A7 n c7, .slice A8 n c8] (by rfl) rfl rfl (by simp only [List.map_toArray, List.map_cons, List.map_nil]; rfl) ?_
  with_reducible refine (fsame_any (rdc_below R7.out hb8.out) R8.out HN.out).mono ?_
  rintro e w9 ⟨rfl, hb⟩
  refine ⟨_, rfl, ?_⟩
  have B9 := Aside0.mk (below_step B8.out hb)
  clear hb 
  refine hK.out _ _ ⟨(blk_below HXD.out B9.out), ((blk_cell (blk_below HXD.out B9.out) 4).trans rfl), ((blk_cell (blk_below HXD.out B9.out) 1).trans rfl), ((blk_cell (blk_below HXD.out B9.out) 2).trans rfl)⟩ (fun hHeld => ?_)
  clear hK K
  refine norm_ (a' := ?_) ?_ ?_
  rotate_left
  · show Act.put _ (some 22) _ = _
    simp only [Act.put, List.setIfInBounds_toArray, List.set_cons_zero, List.set_cons_succ, i64_w, i32_w]
    rfl
  refine pure_ (i := 18) (N := some 23) (v := ?_) (a' := ?_) #[true, true, true, true, true, true, true, true, true, true, true, true, true, true, true, true, true, true, true, false, false, false, false, false, false, false, false, false, false, false, false, false, false, false] rfl rfl (by kernel_rfl) (fun _ _ _ h => h) (Or.inl ⟨by rfl, ?_⟩) ?_ ?_
  rotate_left
  · intro w'
    go_simp
    with_reducible rfl
  rotate_left
  · simp only [Act.put, List.setIfInBounds_toArray, List.set_cons_zero, List.set_cons_succ, i64_w, i32_w]
    rfl
  refine pure_ (i := 19) (N := some 24) (v := ?_) (a' := ?_) #[true, true, true, true, true, true, true, true, true, true, true, true, true, true, true, true, true, true, true, true, false, false, false, false, false, false, false, false, false, false, false, false, false, false] rfl rfl (by kernel_rfl) (fun _ _ _ h => h) (Or.inl ⟨by rfl, ?_⟩) ?_ ?_
  rotate_left
  · intro w'
    go_simp
    with_reducible rfl
  rotate_left
  · simp only [Act.put, List.setIfInBounds_toArray, List.set_cons_zero, List.set_cons_succ, i64_w, i32_w]
    rfl
  refine pure_ (i := 20) (N := some 25) (v := ?_) (a' := ?_) #[true, true, true, true, true, true, true, true, true, true, true, true, true, true, true, true, true, true, true, true, true, false, false, false, false, false, false, false, false, false, false, false, false, false] rfl rfl (by kernel_rfl) (fun _ _ _ h => h) (Or.inl ⟨by rfl, ?_⟩) ?_ ?_
  rotate_left
  · intro w'
    go_simp
    with_reducible rfl
  rotate_left
  · simp only [Act.put, List.setIfInBounds_toArray, List.set_cons_zero, List.set_cons_succ, i64_w, i32_w]
    rfl
  refine pure_ (i := 22) (N := some 27) (v := ?_) (a' := ?_) #[true, true, true, true, true, true, true, true, true, true, true, true, true, true, true, true, true, true, true, true, true, false, true, false, false, false, false, false, false, false, false, false, false, false] rfl rfl (by kernel_rfl) (fun _ _ _ h => h) (Or.inl ⟨by rfl, ?_⟩) ?_ ?_
  rotate_left
  · intro w'
    go_simp
    with_reducible rfl
  rotate_left
  · simp only [Act.put, List.setIfInBounds_toArray, List.set_cons_zero, List.set_cons_succ, i64_w, i32_w]
    rfl
  refine take_ (i := 23) (N := some 28) (v := ?_) (a' := ?_) #[true, true, true, true, true, true, true, true, true, true, true, true, true, true, true, true, true, true, true, true, true, false, true, true, false, false, false, false, false, false, false, false, false, false] rfl rfl (by kernel_rfl) (fun _ _ _ h => h) (Or.inl ⟨by rfl, ?_⟩) hHeld ?_ ?_
  rotate_left
  · rintro w' ⟨s0, s1, s2, s3⟩
    go_simp
    with_reducible rfl
  rotate_left
  · simp only [Act.put, List.setIfInBounds_toArray, List.set_cons_zero, List.set_cons_succ, i64_w, i32_w]
    rfl
  refine one_ (i := 21) (N := some 26) #[true, true, true, true, true, true, true, true, true, true, true, true, true, true, true, true, true, true, true, true, true, true, true, true, false, false, false, false, false, false, false, false, false, false] rfl rfl (by kernel_rfl) (by decide) (fun K hK => ?_)
  refine goes_ Try.func31 (by kernel_rfl) rfl #[.pointer (some ⟨g, 0, none⟩)] (by rfl) rfl rfl (by simp only [List.map_toArray, List.map_cons, List.map_nil]; rfl) ?_
  with_reducible refine (number_any (HLD.out.below B9.out)).mono ?_
  rintro e w10 ⟨rfl, rfl⟩
  refine ⟨_, rfl, ?_⟩
  refine hK.out _ _ ⟨(blk_below HXD.out B9.out), ((blk_cell (blk_below HXD.out B9.out) 4).trans rfl), ((blk_cell (blk_below HXD.out B9.out) 1).trans rfl), ((blk_cell (blk_below HXD.out B9.out) 2).trans rfl)⟩ (fun hHeld => ?_)
  clear hK K
  refine norm_ (a' := ?_) ?_ ?_
  rotate_left
  · show Act.put _ (some 26) _ = _
    simp only [Act.put, List.setIfInBounds_toArray, List.set_cons_zero, List.set_cons_succ, i64_w, i32_w]
    rfl
  refine pure_ (i := 24) (N := some 29) (v := ?_) (a' := ?_) #[true, true, true, true, true, true, true, true, true, true, true, true, true, true, true, true, true, true, true, true, true, true, true, true, true, false, false, false, false, false, false, false, false, false] rfl rfl (by kernel_rfl) (fun _ _ _ h => h) (Or.inl ⟨by rfl, ?_⟩) ?_ ?_
  rotate_left
  · intro w'
    go_simp
    with_reducible rfl
  rotate_left
  · simp only [Act.put, List.setIfInBounds_toArray, List.set_cons_zero, List.set_cons_succ, i64_w, i32_w]
    rfl
  refine pure_ (i := 25) (N := some 30) (v := ?_) (a' := ?_) #[true, true, true, true, true, true, true, true, true, true, true, true, true, true, true, true, true, true, true, true, true, true, true, true, true, true, false, false, false, false, false, false, false, false] rfl rfl (by kernel_rfl) (fun _ _ _ h => h) (Or.inl ⟨by rfl, ?_⟩) ?_ ?_
  rotate_left
  · intro w'
    go_simp
    with_reducible rfl
  rotate_left
  · simp only [Act.put, List.setIfInBounds_toArray, List.set_cons_zero, List.set_cons_succ, i64_w, i32_w]
    rfl
  refine pure_ (i := 26) (N := some 31) (v := ?_) (a' := ?_) #[true, true, true, true, true, true, true, true, true, true, true, true, true, true, true, true, true, true, true, true, true, true, true, true, true, true, true, false, false, false, false, false, false, false] rfl rfl (by kernel_rfl) (fun _ _ _ h => h) (Or.inl ⟨by rfl, ?_⟩) ?_ ?_
  rotate_left
  · intro w'
    go_simp
    with_reducible rfl
  rotate_left
  · simp only [Act.put, List.setIfInBounds_toArray, List.set_cons_zero, List.set_cons_succ, i64_w, i32_w]
    rfl
  refine pure_ (i := 27) (N := some 32) (v := ?_) (a' := ?_) #[true, true, true, true, true, true, true, true, true, true, true, true, true, true, true, true, true, true, true, true, true, true, true, true, true, true, true, true, false, false, false, false, false, false] rfl rfl (by kernel_rfl) (fun _ _ _ h => h) (Or.inl ⟨by rfl, ?_⟩) ?_ ?_
  rotate_left
  · intro w'
    go_simp
    with_reducible rfl
  rotate_left
  · simp only [Act.put, List.setIfInBounds_toArray, List.set_cons_zero, List.set_cons_succ, i64_w, i32_w]
    rfl
  refine pure_ (i := 29) (N := some 34) (v := ?_) (a' := ?_) #[true, true, true, true, true, true, true, true, true, true, true, true, true, true, true, true, true, true, true, true, true, true, true, true, true, true, true, true, false, true, false, false, false, false] rfl rfl (by kernel_rfl) (fun _ _ _ h => h) (Or.inl ⟨by rfl, ?_⟩) ?_ ?_
  rotate_left
  · intro w'
    go_simp
    with_reducible rfl
  rotate_left
  · simp only [Act.put, List.setIfInBounds_toArray, List.set_cons_zero, List.set_cons_succ, i64_w, i32_w]
    rfl
  refine take_ (i := 30) (N := some 35) (v := ?_) (a' := ?_) #[true, true, true, true, true, true, true, true, true, true, true, true, true, true, true, true, true, true, true, true, true, true, true, true, true, true, true, true, false, true, true, false, false, false] rfl rfl (by kernel_rfl) (fun _ _ _ h => h) (Or.inl ⟨by rfl, ?_⟩) hHeld ?_ ?_
  rotate_left
  · rintro w' ⟨s0, s1, s2, s3⟩
    go_simp
    with_reducible rfl
  rotate_left
  · simp only [Act.put, List.setIfInBounds_toArray, List.set_cons_zero, List.set_cons_succ, i64_w, i32_w]
    rfl
  refine one_ (i := 28) (N := some 33) #[true, true, true, true, true, true, true, true, true, true, true, true, true, true, true, true, true, true, true, true, true, true, true, true, true, true, true, true, true, true, true, false, false, false] rfl rfl (by kernel_rfl) (by decide) (fun K hK => ?_)
  refine goes_ Try.func32 (by kernel_rfl) rfl #[.pointer (some ⟨g, 0, none⟩)] (by rfl) rfl rfl (by simp only [List.map_toArray, List.map_cons, List.map_nil]; rfl) ?_
  with_reducible refine (aborts_any (HLD.out.below B9.out)).mono ?_
  rintro e w11 ⟨rfl, rfl⟩
  refine ⟨_, rfl, ?_⟩
  refine hK.out _ _ ⟨(blk_below HXD.out B9.out), ((blk_cell (blk_below HXD.out B9.out) 4).trans rfl), ((blk_cell (blk_below HXD.out B9.out) 1).trans rfl), ((blk_cell (blk_below HXD.out B9.out) 2).trans rfl)⟩ (fun hHeld => ?_)
  clear hK K
  refine norm_ (a' := ?_) ?_ ?_
  rotate_left
  · show Act.put _ (some 33) _ = _
    simp only [Act.put, List.setIfInBounds_toArray, List.set_cons_zero, List.set_cons_succ, i64_w, i32_w]
    rfl
  refine pure_ (i := 31) (N := some 36) (v := ?_) (a' := ?_) #[true, true, true, true, true, true, true, true, true, true, true, true, true, true, true, true, true, true, true, true, true, true, true, true, true, true, true, true, true, true, true, true, false, false] rfl rfl (by kernel_rfl) (fun _ _ _ h => h) (Or.inl ⟨by rfl, ?_⟩) ?_ ?_
  rotate_left
  · intro w'
    go_simp
    with_reducible rfl
  rotate_left
  · simp only [Act.put, List.setIfInBounds_toArray, List.set_cons_zero, List.set_cons_succ, i64_w, i32_w]
    rfl
  refine pure_ (i := 32) (N := some 37) (v := ?_) (a' := ?_) #[true, true, true, true, true, true, true, true, true, true, true, true, true, true, true, true, true, true, true, true, true, true, true, true, true, true, true, true, true, true, true, true, true, false] rfl rfl (by kernel_rfl) (fun _ _ _ h => h) (Or.inl ⟨by rfl, ?_⟩) ?_ ?_
  rotate_left
  · intro w'
    go_simp
    with_reducible rfl
  rotate_left
  · simp only [Act.put, List.setIfInBounds_toArray, List.set_cons_zero, List.set_cons_succ, i64_w, i32_w]
    rfl
  refine pure_ (i := 33) (N := some 4) (v := ?_) (a' := ?_) #[true, true, true, true, true, true, true, true, true, true, true, true, true, true, true, true, true, true, true, true, true, true, true, true, true, true, true, true, true, true, true, true, true, true] rfl rfl (by kernel_rfl) (fun _ _ _ h => h) (Or.inl ⟨by rfl, ?_⟩) ?_ ?_
  rotate_left
  · intro w'
    go_simp
    with_reducible rfl
  rotate_left
  · simp only [Act.put, List.setIfInBounds_toArray, List.set_cons_zero, List.set_cons_succ, i64_w, i32_w]
    rfl
  refine done_ (by kernel_rfl) ?_
  go_wp2
  go_ret
  exact ⟨rfl, below_step BD.out B9.out⟩
end
end Go.Proofs.Ytakbhnfmimnbhaa.Rn
