/- The page's Wrote. Conditions: none. -/
import Derived.Test.YtakbhnfmimnbhaaRn23
namespace Go.Proofs.Ytakbhnfmimnbhaa.Rn
open Go.RowKit Go.Proofs.YtakbhnfmimnbhaaW.PrintWords Go.Proofs.YtakbhnfmimnbhaaW.PrintLast Go.Proofs.YtakbhnfmimnbhaaW.PrintMore
set_option linter.unusedVariables false
set_option linter.unusedSimpArgs false

theorem hasB_fnd (l : List (Int × Int)) (o : Int) : hasB l o = !(fnd l o).isNone := by
  unfold hasB
  by_cases h : (fnd l o).isNone = true
  · rw [h]
    refine decide_eq_false ?_
    rintro ⟨j, hj, e⟩
    unfold fnd at h
    rw [Option.isNone_iff_eq_none, List.findIdx?_eq_none_iff] at h
    have := h (l.getD j (0, 0)) (by rw [List.getD_eq_getElem?_getD, List.getElem?_eq_getElem hj]; exact List.getElem_mem hj)
    rw [e] at this
    simp at this
  · cases hf : fnd l o with
    | none => rw [hf] at h; simp at h
    | some i => exact decide_eq_true ⟨i, fnd_lt hf⟩
theorem ps_copy {W : World} {A : Option Addr} {n c : Nat} {l : List (Int × Int)} (hr : RdC W A l.length 2 (pcs l)) (hl : l.length ≤ 100000) (hn : n = l.length) : ∃ A9 c9 w9, (Builtin.append_ #[23, 23] 23 #[.slice (some ⟨W.heap.size, 0, none⟩) 0 0, .slice A n c]).run Try.prog (W.alloc (.cells #[] 28)) = .ok (.slice A9 n c9) w9 ∧ PS w9 W.heap.size (.slice A9 n c9) l ∧ Below W.heap.size W w9 := by
  subst hn
  have hbl := below_alloc (Below.refl W.heap.size W) (.cells #[] 28)
  obtain ⟨v1, w9, hrn, hown, hg9, hat⟩ := app_any (P := Try.prog) (ty := 23) (W := W.alloc (.cells #[] 28)) W.heap.size 23 28 2 16 (.agg #[.int .i64 0, .int .i64 0]) Try.underlying23 info28 rfl (by decide) (by decide) (.slice (some ⟨W.heap.size, 0, none⟩) 0 0) 0 [] (pcs l) A l.length c (own_fresh W (Nat.le_refl _) 28 2 (by decide)) (rdc_below hr hbl) (pcs_one _) (alloc_le _ _) (by omega) (fun _ => rfl)
  obtain ⟨A9, c9, rfl⟩ := own_slice hown
  rw [Nat.zero_add, List.nil_append] at hown
  rw [Nat.zero_add] at hrn
  exact ⟨A9, c9, w9, hrn, hown, hbl.grown hg9 (alloc_le _ _) (fun k hk => by
    have : W.heap.size = k := by simpa [Value.ownBlock] using hk
    omega)⟩
set_option maxHeartbeats 8000000 in
set_option maxRecDepth 100000 in
theorem rwrote_any {W : World} {vf vg : Value} {nm ab : Int} {A : Option Addr} {n c : Nat} {l : List (Int × Int)} (h1 : vf.oneCell' = true) (h3 : vg.oneCell' = true) (hr : RdC W A l.length 2 (pcs l)) (hl : l.length ≤ 1000) (hn : n = l.length) (o x : Int) : Calls Try.prog 62 #[.agg #[vf, .int .i64 nm, .int .i64 ab, .slice A n c, vg], .int .i64 o, .int .i64 x] W fun e w' => ∃ A' c', e = .returned (.agg #[vf, .int .i64 nm, .int .i64 ab, .slice A' (if hasB l o then l else l ++ [(o, x)]).length c', vg]) ∧ ((A' = A ∧ c' = c ∧ hasB l o = true) ∨ PS w' W.heap.size (.slice A' (if hasB l o then l else l ++ [(o, x)]).length c') (if hasB l o then l else l ++ [(o, x)])) ∧ Below W.heap.size W w' := by
  have hu64 := Try.underlying64
  have hu23 := Try.underlying23
  have hu28 := Try.underlying28
  have HR := Aside0.mk hr
  have HL := Aside0.mk hl
  have HN := Aside0.mk hn
  have H1 := Aside0.mk h1
  have H3 := Aside0.mk h3
  clear hr hl hn h1 h3
  obtain ⟨bb, hbb⟩ : ∃ bb, bb = hasB l o := ⟨_, rfl⟩
  have HBB := Aside0.mk hbb
  rw [← hbb]
  go_enter Try.func62, Try.ntmps62
  go_upto_region 1 with (first
    | ((with_reducible refine gate_dst (N := 3) rfl ?_); refine box_event ?hg (N := 3) ?hd (cs := #[vf, .int .i64 nm, .int .i64 ab, .slice A n c, vg]) (t := 64) ?hr ?_; (case hd => rfl); (case hg => rfl); (case hr => first | (go_simp; done) | (go_simp; rfl)); intro g1 hg1 w1 hbox hb; have B1 := Aside0.mk hb; have X1 := Aside0.mk hbox; have G1 := Aside0.mk hg1; clear hbox hb hg1)
    | ((with_reducible refine gate_dst (N := 6) rfl ?_); refine box_event ?hg (N := 6) ?hd (cs := #[.slice none 0 0, .int .i64 0, .int .i64 0, .slice none 0 0, .slice none 0 0]) (t := 64) ?hr ?_; (case hd => rfl); (case hg => rfl); (case hr => first | (go_simp; done) | (go_simp; rfl)); intro g2 hg2 w2 hbox hb; have B2 := Aside0.mk hb; have X2 := Aside0.mk hbox; have G2 := Aside0.mk hg2; clear hbox hb hg2))
  have X3 := Aside0.mk (blk_below X1.out B2.out)
  have B3 := Aside0.mk (below_step B1.out B2.out)
  have GE := Aside0.mk (show W.heap.size ≤ g1 ∧ W.heap.size ≤ g2 ∧ g1 ≠ g2 from ⟨by rw [G1.out]; exact Nat.le_refl _, by rw [G2.out]; exact B1.out.size, fun q => by have := blk_lt X1.out; have := G2.out; omega⟩)
  have HR2 := Aside0.mk (rdc_below HR.out B3.out)
  have x3 : w2.cell? ⟨g1, 3, none⟩ = some (.slice A n c) := (blk_cell X3.out 3).trans rfl
  clear B1 B2 X1 G1 G2 hbb
  have HHA := Aside0.mk (show Calls Try.prog 89 #[.slice A n c, .int .i64 o] w2 fun e w' => e = .returned (.bool bb) ∧ w' = w2 from by rw [HBB.out]; exact has_any HR2.out (by have := HL.out; omega) HN.out o)
  cases bb with
  | true =>
    go_wp2_with (first
      | (go_at_call 89; (refine HHA.out.mono ?_); rintro e w3 ⟨rfl, rfl⟩)
      | (refine wpList_load_row rfl 64 (.tmp 3) rfl g1 rfl 64 _ (0, 0) _ X3.out Try.underlying64 rfl info64s ?_)
      | (refine wpList_store_row rfl 64 (.tmp 6) (.tmp 22) rfl g2 _ rfl rfl 64 _ X2.out info64s rfl (row64_one H1.out rfl H3.out) ?_))
    refine bodyPost_ret (results_cell_row rfl _ _ g2 64 #[vf, .int .i64 nm, .int .i64 ab, .slice A n c, vg] (0, 0) _ rfl (setRow_heap _ _ _ _ _ _ X2.out) Try.underlying64 rfl info64s) rfl ?_
    refine ⟨A, c, ?_, Or.inl (by simp), below_row B3.out GE.out.2.1 _⟩
    rw [HN.out]
  | false =>
    obtain ⟨A9, c9, w9, hrn, hps, hb9⟩ := ps_copy (c := c) HR2.out (by have := HL.out; omega) HN.out
    obtain ⟨A8, c8, w8, hrn8, hps8, hb8, hkp⟩ := ps_snoc hps hb9.size (by have := HL.out; omega) o x
    have P8 := Aside0.mk (show PS w8 W.heap.size (.slice A8 (l.length + 1) c8) (l ++ [(o, x)]) from own_weaken hps8 B3.out.size)
    have B8 := Aside0.mk (show Below w2.heap.size w2 w8 from hb9.trans hb8)
    have X8 := Aside0.mk (blk_below X3.out B8.out)
    have Y8 := Aside0.mk (blk_below X2.out B8.out)
    obtain ⟨m, hm⟩ : ∃ m, m = l.length + 1 := ⟨_, rfl⟩
    have HM := Aside0.mk hm
    rw [← hm] at hrn8 P8
    have x3a : (w2.alloc (.cells #[] 28)).cell? ⟨g1, 3, none⟩ = some (.slice A n c) := ((below_alloc (Below.refl _ _) _).cell (World.block_lt_of_cell? _ _ x3)).trans x3
    have c3 : w8.cell? ⟨g1, 3, none⟩ = some (.slice A n c) := (blk_cell X8.out 3).trans rfl
    have f3 := blk_frozen X8.out 3
    clear hps hb9 hps8 hb8 hkp hm
    go_upto_region 3 with (first
      | (go_at_call 89; (refine HHA.out.mono ?_); rintro e w3 ⟨rfl, rfl⟩)
      | (at_builtin; refine list_run rfl (.tmp 12) (.tmp 14) 23 23 rfl _ _ (.slice A9 n c9) rfl rfl hrn ?_)
      | (at_builtin; refine list_run rfl (.tmp 15) (.tmp 19) 23 23 rfl _ _ (.slice A8 m c8) rfl rfl hrn8 ?_))
    have X9 := Aside0.mk (blk_put X8.out 3 (.slice A8 m c8) rfl)
    have Y9 := Aside0.mk (blk_far Y8.out (p := ⟨g1, 3, none⟩) (fun q => GE.out.2.2 (by first | exact q | exact q.symm)) (.slice A8 m c8))
    have P9 := Aside0.mk (show PS (w8.setCell ⟨g1, 3, none⟩ (.slice A8 m c8)) W.heap.size (.slice A8 m c8) (l ++ [(o, x)]) from own_setCell (p := ⟨g1, 3, none⟩) P8.out (own_ne P8.out X8.out (by decide)) _)
    have B9 := Aside0.mk (show Below W.heap.size W (w8.setCell ⟨g1, 3, none⟩ (.slice A8 m c8)) from (below_step B3.out B8.out).setCell GE.out.1 _)
    clear P8 B8 X8 Y8 x3 x3a c3 f3 hrn hrn8
    generalize w8.setCell ⟨g1, 3, none⟩ (.slice A8 m c8) = wA at *
    go_wp2_with (first
      | (refine wpList_load_row rfl 64 (.tmp 3) rfl g1 rfl 64 _ (0, 0) _ X9.out Try.underlying64 rfl info64s ?_)
      | (refine wpList_store_row rfl 64 (.tmp 6) (.tmp 22) rfl g2 _ rfl rfl 64 _ Y9.out info64s rfl (row64_one H1.out rfl H3.out) ?_))
    refine bodyPost_ret (results_cell_row rfl _ _ g2 64 #[vf, .int .i64 nm, .int .i64 ab, .slice A8 m c8, vg] (0, 0) _ rfl (setRow_heap _ _ _ _ _ _ Y9.out) Try.underlying64 rfl info64s) rfl ?_
    refine ⟨A8, c8, ?_, ?_, below_row B9.out GE.out.2.1 _⟩
    · rw [HM.out]
    · rw [← HM.out]
      have h9 := P9.out
      exact own_move h9 (fun k hk => setRow_other _ _ _ _ (fun q => own_ne h9 Y9.out (by decide) (by rw [hk, q])))
end Go.Proofs.Ytakbhnfmimnbhaa.Rn
