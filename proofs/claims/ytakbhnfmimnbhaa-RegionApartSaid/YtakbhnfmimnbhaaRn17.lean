/- A log's Clone. Conditions: none. -/
import Derived.Test.YtakbhnfmimnbhaaRn10
namespace Go.Proofs.Ytakbhnfmimnbhaa.Rn
open Go.RowKit Go.Proofs.YtakbhnfmimnbhaaW.PrintWords Go.Proofs.YtakbhnfmimnbhaaW.PrintLast Go.Proofs.YtakbhnfmimnbhaaW.PrintMore
set_option linter.unusedVariables false
set_option linter.unusedSimpArgs false

theorem ex_st30 {oi : Oper} {a : Act} {w : World} {g i n c : Nat} {x y : Operand} {A : Option Addr} {cs : Array Value} (ho : oi.op = .store 30 x y) (hx : a.eval x = .pointer (some ⟨g, i, none⟩)) (hy : a.eval y = .slice A n c) (hb : w.heap[g]? = some (.cells cs 104 (0, 0))) (hi : i < cs.size) : (execOp a.eval oi).run Try.prog w = .ok .skip (w.setCell ⟨g, i, none⟩ (.slice A n c)) := by
  have hc : w.cell? ⟨g, i, none⟩ = some (cs[i]) := (blk_cell hb i).trans (Array.getElem?_eq_getElem hi)
  have hf := blk_frozen hb i
  have hu := Try.underlying30
  unfold execOp
  simp only [ho, hx, hy]
  go_simp
theorem info104s : (Try.prog.info? 104).map (·.size) = some 5 := by kernel_rfl
theorem slice_one {W : World} {b e k n : Nat} {v : Value} {xs : List Value} (h : W.ownsRow b e k v n xs) : v.oneCell' = true := by
  obtain ⟨A, c, rfl⟩ := own_slice h
  rfl
theorem row_one {vf vu vg : Value} {x y : Int} (h1 : vf.oneCell' = true) (h2 : vu.oneCell' = true) (h3 : vg.oneCell' = true) : (#[vf, .int .i64 x, .int .i64 y, vu, vg] : Array Value).all (·.oneCell') = true := by
  have h4 : (Value.int .i64 x).oneCell' = true := rfl
  have h5 : (Value.int .i64 y).oneCell' = true := rfl
  simp only [Array.all_eq_true_iff_forall_mem]
  intro v hv
  simp only [List.mem_toArray, List.mem_cons, List.not_mem_nil, or_false] at hv
  rcases hv with rfl | rfl | rfl | rfl | rfl <;> assumption
section
variable {S : Nat → Prop} {W : World} {g : Nat} {vf vu vg : Value} {A : La}
set_option maxHeartbeats 8000000 in
set_option maxRecDepth 100000 in
theorem lclone_any (h : Lg S W g vf vu vg A) (hl : A.u.length ≤ 1000 ∧ A.go.length ≤ 1000) (hn : A.n ≤ 100000) : Calls Try.prog 26 #[.pointer (some ⟨g, 0, none⟩)] W fun e w' => ∃ g', e = .returned (.pointer (some ⟨g', 0, none⟩)) ∧ Log (fun k => W.heap.size ≤ k) w' g' A ∧ Below W.heap.size W w' := by
  have hu59 := Try.underlying59
  have hu104 := Try.underlying104
  have hu30 := Try.underlying30
  have HA := Aside0.mk h
  have HL := Aside0.mk hl
  have HN := Aside0.mk hn
  clear h hl hn
  go_enter Try.func26, Try.ntmps26
  go_upto_region 4 with (first
    | (refine wpList_load_row rfl 104 (.tmp 7) rfl g rfl 104 _ (0, 0) _ HA.out.hg Try.underlying104 rfl info104s ?_)
    | ((with_reducible refine gate_dst (N := 3) rfl ?_); refine box_event ?hg (N := 3) ?hd (cs := #[.slice none 0 0, .int .i64 0, .int .i64 0, .slice none 0 0, .slice none 0 0]) (t := 104) ?hr ?_; (case hd => rfl); (case hg => rfl); (case hr => first | (go_simp; done) | (go_simp; rfl)); intro g1 hg w1 hbox hb; have B1 := Aside0.mk hb; have G0 := Aside0.mk hg; have X1 := Aside0.mk hbox; clear hbox hb hg)
    | (refine wpList_store_row rfl 104 (.tmp 3) (.tmp 8) rfl g1 _ rfl rfl 104 _ X1.out info104s rfl (row_one (slice_one HA.out.fr) (slice_one HA.out.un) (slice_one HA.out.gt)) ?_))
  have G1 := Aside0.mk (show W.heap.size ≤ g1 from by rw [G0.out]; exact Nat.le_refl _)
  have B2 := Aside0.mk (B1.out.trans (show Below W.heap.size w1 (w1.setRow g1 #[vf, .int .i64 A.nm, .int .i64 A.ab, vu, vg]) from ⟨rfl, rfl, rfl, by simp [World.setRow], fun k hk => setRow_other w1 g1 k _ (by have := G1.out; omega)⟩))
  have X2 := Aside0.mk (setRow_heap w1 g1 _ #[vf, .int .i64 A.nm, .int .i64 A.ab, vu, vg] _ _ X1.out)
  clear B1 X1 G0
  generalize w1.setRow g1 #[vf, .int .i64 A.nm, .int .i64 A.ab, vu, vg] = w2 at *
  have HA2 := Aside0.mk (HA.out.below B2.out)
  obtain ⟨Af, cf, hvf⟩ := own_slice HA.out.fr
  subst hvf
  obtain ⟨A9, c9, w9, hrn, hown, hbl⟩ := fr_copy (c := cf) (own_rdc (v := .bool true) HA2.out.fr) HA.out.f1 HN.out
  have HO := Aside0.mk hown
  have HB := Aside0.mk hbl
  have y0a : (w2.alloc (.cells #[] 110)).cell? ⟨g, 0, none⟩ = some (.slice Af A.n cf) := ((below_alloc (Below.refl w2.heap.size w2) (.cells #[] 110)).cell (blk_lt HA2.out.hg)).trans ((blk_cell HA2.out.hg 0).trans rfl)
  have hx9 := blk_below X2.out hbl
  have cz := (blk_cell hx9 0).trans rfl
  have fz := blk_frozen hx9 0
  have X9 := Aside0.mk hx9
  obtain ⟨n, hnn⟩ : ∃ n, n = A.n := ⟨_, rfl⟩
  have HNN := Aside0.mk hnn
  rw [← hnn] at hrn y0a cz HO X9
  clear hown hbl hx9 hnn
  go_upto_region 5 with (at_builtin; refine list_run rfl (.tmp 9) (.tmp 13) 59 59 rfl _ _ (.slice A9 n c9) rfl rfl hrn ?_)
  have B3 := Aside0.mk ((below_step B2.out HB.out).setCell G1.out (p := ⟨g1, 0, none⟩) (.slice A9 n c9))
  have X3 := Aside0.mk (blk_put X9.out 0 (.slice A9 n c9) rfl)
  have F3 := Aside0.mk (own_setCell (own_weaken HO.out (Nat.zero_le _)) (own_ne HO.out X9.out (by decide)) (p := ⟨g1, 0, none⟩) (.slice A9 n c9))
  have FS := Aside0.mk (fun k hk => Nat.le_trans B2.out.size (own_base HO.out k hk))
  clear hrn y0a cz fz HA2 B2 X2 HB HO X9
  generalize w9.setCell ⟨g1, 0, none⟩ (.slice A9 n c9) = w3 at *
  have BD := Aside0.mk (show Below W.heap.size W w3.drew from below_drew B3.out)
  have X3D := Aside0.mk (show w3.drew.heap[g1]? = _ from X3.out)
  refine start_ (n := 14) (S := fun w' => w'.cell? ⟨g, 3, none⟩ = some vu ∧ w'.cell? ⟨g, 4, none⟩ = some vg) (ds := [11, 13]) #[false, false, false, false, false, false, false, false, false, false, false, false, false, false] (by kernel_rfl) rfl rfl ⟨((blk_cell (HA.out.below BD.out).hg 3).trans rfl), ((blk_cell (HA.out.below BD.out).hg 4).trans rfl)⟩ (fun hHeld => ?_)
  refine pure_ (i := 0) (N := some 16) (v := ?_) (a' := ?_) #[true, false, false, false, false, false, false, false, false, false, false, false, false, false] rfl rfl (by kernel_rfl) (fun _ _ _ h => h) (Or.inl ⟨by rfl, ?_⟩) ?_ ?_
  rotate_left
  · intro w'
    go_simp
    with_reducible rfl
  rotate_left
  · simp only [Act.put, List.setIfInBounds_toArray, List.set_cons_zero, List.set_cons_succ, i64_w, i32_w]
    rfl
  refine pure_ (i := 1) (N := some 17) (v := ?_) (a' := ?_) #[true, true, false, false, false, false, false, false, false, false, false, false, false, false] rfl rfl (by kernel_rfl) (fun _ _ _ h => h) (Or.inl ⟨by rfl, ?_⟩) ?_ ?_
  rotate_left
  · intro w'
    go_simp
    with_reducible rfl
  rotate_left
  · simp only [Act.put, List.setIfInBounds_toArray, List.set_cons_zero, List.set_cons_succ, i64_w, i32_w]
    rfl
  refine pure_ (i := 2) (N := some 18) (v := ?_) (a' := ?_) #[true, true, true, false, false, false, false, false, false, false, false, false, false, false] rfl rfl (by kernel_rfl) (fun _ _ _ h => h) (Or.inl ⟨by rfl, ?_⟩) ?_ ?_
  rotate_left
  · intro w'
    go_simp
    with_reducible rfl
  rotate_left
  · simp only [Act.put, List.setIfInBounds_toArray, List.set_cons_zero, List.set_cons_succ, i64_w, i32_w]
    rfl
  refine pure_ (i := 5) (N := some 21) (v := ?_) (a' := ?_) #[true, true, true, false, false, true, false, false, false, false, false, false, false, false] rfl rfl (by kernel_rfl) (fun _ _ _ h => h) (Or.inl ⟨by rfl, ?_⟩) ?_ ?_
  rotate_left
  · intro w'
    go_simp
    with_reducible rfl
  rotate_left
  · simp only [Act.put, List.setIfInBounds_toArray, List.set_cons_zero, List.set_cons_succ, i64_w, i32_w]
    rfl
  refine pure_ (i := 6) (N := some 22) (v := ?_) (a' := ?_) #[true, true, true, false, false, true, true, false, false, false, false, false, false, false] rfl rfl (by kernel_rfl) (fun _ _ _ h => h) (Or.inl ⟨by rfl, ?_⟩) ?_ ?_
  rotate_left
  · intro w'
    go_simp
    with_reducible rfl
  rotate_left
  · simp only [Act.put, List.setIfInBounds_toArray, List.set_cons_zero, List.set_cons_succ, i64_w, i32_w]
    rfl
  refine pure_ (i := 7) (N := some 23) (v := ?_) (a' := ?_) #[true, true, true, false, false, true, true, true, false, false, false, false, false, false] rfl rfl (by kernel_rfl) (fun _ _ _ h => h) (Or.inl ⟨by rfl, ?_⟩) ?_ ?_
  rotate_left
  · intro w'
    go_simp
    with_reducible rfl
  rotate_left
  · simp only [Act.put, List.setIfInBounds_toArray, List.set_cons_zero, List.set_cons_succ, i64_w, i32_w]
    rfl
  refine take_ (i := 3) (N := some 19) (v := ?_) (a' := ?_) #[true, true, true, true, false, true, true, true, false, false, false, false, false, false] rfl rfl (by kernel_rfl) (fun _ _ _ h => h) (Or.inl ⟨by rfl, ?_⟩) hHeld ?_ ?_
  rotate_left
  · rintro w' ⟨s0, s1⟩
    go_simp
    with_reducible rfl
  rotate_left
  · simp only [Act.put, List.setIfInBounds_toArray, List.set_cons_zero, List.set_cons_succ, i64_w, i32_w]
    rfl
  refine take_ (i := 8) (N := some 24) (v := ?_) (a' := ?_) #[true, true, true, true, false, true, true, true, true, false, false, false, false, false] rfl rfl (by kernel_rfl) (fun _ _ _ h => h) (Or.inl ⟨by rfl, ?_⟩) hHeld ?_ ?_
  rotate_left
  · rintro w' ⟨s0, s1⟩
    go_simp
    with_reducible rfl
  rotate_left
  · simp only [Act.put, List.setIfInBounds_toArray, List.set_cons_zero, List.set_cons_succ, i64_w, i32_w]
    rfl
  refine one_ (i := 4) (N := some 20) #[true, true, true, true, true, true, true, true, true, false, false, false, false, false] rfl rfl (by kernel_rfl) (by decide) (fun K hK => ?_)
  refine goes_ Try.func50 (by kernel_rfl) rfl #[vu] (by rfl) rfl rfl (by simp only [List.map_toArray, List.map_cons, List.map_nil]; rfl) ?_
  with_reducible refine (clone_any (HA.out.below BD.out).un (by have := HL.out; omega)).mono ?_
  rintro e w5 ⟨v1, rfl, hp, hb⟩
  refine ⟨_, rfl, ?_⟩
  obtain ⟨a1, k1, rfl, _⟩ := hp.open
  have P5 := Aside0.mk (PR.weaken hp BD.out.size)
  have C5 := Aside0.mk hb
  have B5 := Aside0.mk (below_step BD.out hb)
  clear hp hb
  refine hK.out _ _ ⟨((blk_cell (HA.out.below B5.out).hg 3).trans rfl), ((blk_cell (HA.out.below B5.out).hg 4).trans rfl)⟩ (fun hHeld => ?_)
  clear hK K
  refine norm_ (a' := ?_) ?_ ?_
  rotate_left
  · show Act.put _ (some 20) _ = _
    simp only [Act.put, List.setIfInBounds_toArray, List.set_cons_zero, List.set_cons_succ, i64_w, i32_w]
    rfl
  refine one_ (i := 9) (N := some 25) #[true, true, true, true, true, true, true, true, true, true, false, false, false, false] rfl rfl (by kernel_rfl) (by decide) (fun K hK => ?_)
  refine goes_ Try.func50 (by kernel_rfl) rfl #[vg] (by rfl) rfl rfl (by simp only [List.map_toArray, List.map_cons, List.map_nil]; rfl) ?_
  with_reducible refine (clone_any (HA.out.below B5.out).gt (by have := HL.out; omega)).mono ?_
  rintro e w6 ⟨v2, rfl, hp, hb⟩
  refine ⟨_, rfl, ?_⟩
  obtain ⟨a2, k2, rfl, _⟩ := hp.open
  have P6 := Aside0.mk (PR.below P5.out hb)
  have Q6 := Aside0.mk hp
  have C6 := Aside0.mk hb
  have B6 := Aside0.mk (below_step B5.out hb)
  clear hp hb
  have X6 := Aside0.mk (blk_below (blk_below X3D.out C5.out) C6.out)
  refine hK.out _ _ ⟨((blk_cell (HA.out.below B6.out).hg 3).trans rfl), ((blk_cell (HA.out.below B6.out).hg 4).trans rfl)⟩ (fun hHeld => ?_)
  clear hK K
  refine norm_ (a' := ?_) ?_ ?_
  rotate_left
  · show Act.put _ (some 25) _ = _
    simp only [Act.put, List.setIfInBounds_toArray, List.set_cons_zero, List.set_cons_succ, i64_w, i32_w]
    rfl
  refine pure_ (i := 10) (N := some 26) (v := ?_) (a' := ?_) #[true, true, true, true, true, true, true, true, true, true, true, false, false, false] rfl rfl (by kernel_rfl) (fun _ _ _ h => h) (Or.inl ⟨by rfl, ?_⟩) ?_ ?_
  rotate_left
  · intro w'
    go_simp
    with_reducible rfl
  rotate_left
  · simp only [Act.put, List.setIfInBounds_toArray, List.set_cons_zero, List.set_cons_succ, i64_w, i32_w]
    rfl
  refine last_ (i := 11) (N := none) #[true, true, true, true, true, true, true, true, true, true, true, true, false, false] rfl rfl (by kernel_rfl) (by decide) (fun K hK => ?_)
  refine skip_ (w1 := _) (by rfl) rfl (ex_st30 (x := .tmp 26) (y := .tmp 20) rfl (by first | (simp [Act.eval, Act.put]; done) | rfl) (by first | (simp [Act.eval, Act.put]; done) | rfl) X6.out (by simp)) ?_
  refine hK.out _ _ ?_
  clear hK K
  refine pure_ (i := 12) (N := some 27) (v := ?_) (a' := ?_) #[true, true, true, true, true, true, true, true, true, true, true, true, true, false] rfl rfl (by kernel_rfl) (fun _ _ _ h => h) (Or.inl ⟨by rfl, ?_⟩) ?_ ?_
  rotate_left
  · intro w'
    go_simp
    with_reducible rfl
  rotate_left
  · simp only [Act.put, List.setIfInBounds_toArray, List.set_cons_zero, List.set_cons_succ, i64_w, i32_w]
    rfl
  refine last_ (i := 13) (N := none) #[true, true, true, true, true, true, true, true, true, true, true, true, true, true] rfl rfl (by kernel_rfl) (by decide) (fun K hK => ?_)
  refine skip_ (w1 := _) (by rfl) rfl (ex_st30 (x := .tmp 27) (y := .tmp 25) rfl (by first | (simp [Act.eval, Act.put]; done) | rfl) (by first | (simp [Act.eval, Act.put]; done) | rfl) (blk_put X6.out 3 _ rfl) (by simp)) ?_
  refine hK.out _ _ ?_
  clear hK K
  refine done_ (by kernel_rfl) ?_
  go_wp2
  go_ret
  have F6 := pw_own_below (pw_own_below (pw_own_below F3.out (below_drew (Below.refl _ _))) C5.out) C6.out
  rw [HNN.out] at F6
  have nf := own_ne F6 X6.out (by decide)
  have nu := own_ne P6.out X6.out (by decide)
  have ng := own_ne Q6.out X6.out (by decide)
  have e5 := B5.out.size
  refine ⟨g1, rfl, ⟨.slice A9 n c9, .slice a1 A.u.length k1, .slice a2 A.go.length k2, blk_put (blk_put X6.out 3 _ rfl) 4 _ rfl, ?_, HA.out.f1, own_setCell (own_setCell (own_weaken P6.out (Nat.zero_le _)) nu _) nu _, own_setCell (own_setCell (own_weaken Q6.out (Nat.zero_le _)) ng _) ng _, fun k hk hv => ?_, G1.out, fun k hk => own_base P6.out k hk, fun k hk => Nat.le_trans e5 (own_base Q6.out k hk), fun k hk => ?_⟩, (B6.out.setCell G1.out _).setCell G1.out _⟩
  · rw [HNN.out]
    exact own_setCell (own_setCell F6 nf _) nf _
  · have h1 := own_lt P5.out k hk
    have h2 := own_base Q6.out k hv
    omega
  · exact FS.out k hk
end
end Go.Proofs.Ytakbhnfmimnbhaa.Rn
