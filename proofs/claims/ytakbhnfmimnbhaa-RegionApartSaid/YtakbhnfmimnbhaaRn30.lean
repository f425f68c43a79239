/- The page's Do. Conditions: none. -/
import Derived.Test.YtakbhnfmimnbhaaRn19
import Derived.Test.YtakbhnfmimnbhaaRn29
namespace Go.Proofs.Ytakbhnfmimnbhaa.Rn
open Go.RowKit Go.Proofs.YtakbhnfmimnbhaaW.PrintWords Go.Proofs.YtakbhnfmimnbhaaW.PrintLast Go.Proofs.YtakbhnfmimnbhaaW.PrintMore
set_option linter.unusedVariables false
set_option linter.unusedSimpArgs false

/-- The page's value of a region: frames vf, rows told apart by T. -/
structure Xr (T : Nat → Prop) (W : World) (Au Ag : Option Addr) (cu cg : Nat) (A : La) : Prop where
  pu : PS W 0 (.slice Au A.u.length cu) A.u
  pg : PS W 0 (.slice Ag A.go.length cg) A.go
  tu : Ow T (.slice Au A.u.length cu)
  tg : Ow T (.slice Ag A.go.length cg)
def Xv (T : Nat → Prop) (W : World) (vf x : Value) (A : La) : Prop := ∃ Au Ag cu cg, x = .agg #[vf, .int .i64 A.nm, .int .i64 A.ab, .slice Au A.u.length cu, .slice Ag A.go.length cg] ∧ Xr T W Au Ag cu cg A
theorem ow_new {T : Nat → Prop} {W w : World} {v : Value} {l : List (Int × Int)} (h : PS w W.heap.size v l) (hT : ∀ j, W.heap.size ≤ j → T j) : Ow T v := fun k hk => hT k (own_base h k hk)
theorem ow_none {T : Nat → Prop} (n c : Nat) : Ow T (.slice none n c) := fun k hk => by simp [Value.ownBlock] at hk
theorem ps_nil (W : World) : PS W 0 (.slice none 0 0) [] := ⟨rfl, .inl ⟨rfl, rfl⟩⟩
theorem Xr.below {T : Nat → Prop} {W W' : World} {Au Ag : Option Addr} {cu cg : Nat} {A : La} (h : Xr T W Au Ag cu cg A) (hb : Below W.heap.size W W') : Xr T W' Au Ag cu cg A := ⟨h.pu.below hb, h.pg.below hb, h.tu, h.tg⟩
theorem ps_row {W : World} {b g : Nat} {v : Value} {l : List (Int × Int)} {cs : Array Value} {t : TypeId} (h : PS W b v l) (hg : W.heap[g]? = some (.cells cs t (0, 0))) (hne : 28 ≠ t) (c9 : Array Value) : PS (W.setRow g c9) b v l := ps_rowM h (own_ne h hg hne) c9
theorem sl_one (A : Option Addr) (n c : Nat) : (Value.slice A n c).oneCell' = true := rfl
set_option maxHeartbeats 16000000 in
set_option maxRecDepth 100000 in
theorem rdo_any {T : Nat → Prop} {W : World} {x : Value} {A : La} {i n cf : Nat} {Af : Option Addr} (hx : Xv T W (.slice Af n cf) x A) (hg : GI i A) (hp : Pos A.go) (hT : ∀ j, W.heap.size ≤ j → T j) {k o m : Int} (hm : -1099511627776 ≤ m ∧ m ≤ 1099511627776) : Calls Try.prog 25 #[x, .agg #[.int .i64 k, .int .i64 o, .int .i64 m]] W fun e w' => ∃ x', e = .returned x' ∧ Xv T w' (.slice Af n cf) x' (doL A k o m) ∧ Below W.heap.size W w' := by
  obtain ⟨Au, Ag, cu, cg, rfl, hx⟩ := hx
  have hu69 := Try.underlying69
  have hu64 := Try.underlying64
  have HX0 := Aside0.mk hx
  have HG := Aside0.mk hg
  have HP := Aside0.mk hp
  have HT := Aside0.mk hT
  have HM := Aside0.mk hm
  clear hx hg hp hT hm
  obtain ⟨A9, hA9⟩ : ∃ A9, A9 = doL A k o m := ⟨_, rfl⟩
  rw [← hA9]
  have HD := Aside0.mk hA9
  clear hA9
  go_enter Try.func25, Try.ntmps25
  go_upto_region 1 with (first
    | ((with_reducible refine gate_dst (N := 2) rfl ?_); refine box_event ?hg (N := 2) ?hd (cs := #[.slice Af n cf, .int .i64 A.nm, .int .i64 A.ab, .slice Au A.u.length cu, .slice Ag A.go.length cg]) (t := 64) ?hr ?_; (case hd => rfl); (case hg => rfl); (case hr => first | (go_simp; done) | (go_simp; rfl)); intro g2 hgg w1 hbox hb; have B1 := Aside0.mk hb; have X1 := Aside0.mk hbox; have G1 := Aside0.mk hgg; clear hbox hb hgg)
    | ((with_reducible refine gate_dst (N := 3) rfl ?_); refine box_event ?hg (N := 3) ?hd (cs := #[.int .i64 k, .int .i64 o, .int .i64 m]) (t := 69) ?hr ?_; (case hd => rfl); (case hg => rfl); (case hr => first | (go_simp; done) | (go_simp; rfl)); intro g3 hgg w2 hbox hb; have B2 := Aside0.mk hb; have X2 := Aside0.mk hbox; have G2 := Aside0.mk hgg; clear hbox hb hgg)
    | ((with_reducible refine gate_dst (N := 4) rfl ?_); refine box_event ?hg (N := 4) ?hd (cs := #[.slice none 0 0, .int .i64 0, .int .i64 0, .slice none 0 0, .slice none 0 0]) (t := 64) ?hr ?_; (case hd => rfl); (case hg => rfl); (case hr => first | (go_simp; done) | (go_simp; rfl)); intro g4 hgg w3 hbox hb; have B3 := Aside0.mk hb; have X3 := Aside0.mk hbox; have G3 := Aside0.mk hgg; clear hbox hb hgg))
  have x0 : w3.cell? ⟨g3, 0, none⟩ = some (.int .i64 k) := (blk_cell (blk_below X2.out B3.out) 0).trans rfl
  have x1 : w3.cell? ⟨g3, 1, none⟩ = some (.int .i64 o) := (blk_cell (blk_below X2.out B3.out) 1).trans rfl
  have x2 : w3.cell? ⟨g3, 2, none⟩ = some (.int .i64 m) := (blk_cell (blk_below X2.out B3.out) 2).trans rfl
  have R1 := Aside0.mk (blk_below X1.out (below_step B2.out B3.out))
  have R2 := Aside0.mk (blk_below X2.out B3.out)
  have HB := Aside0.mk (below_step (below_step B1.out B2.out) B3.out)
  have HX := Aside0.mk (HX0.out.below HB.out)
  have GE := Aside0.mk (show W.heap.size ≤ g2 ∧ W.heap.size ≤ g3 ∧ W.heap.size ≤ g4 ∧ g2 ≠ g4 ∧ g2 ≠ g3 ∧ g3 ≠ g4 from by
    have h1 := G1.out
    have h2 := G2.out
    have h3 := G3.out
    have h4 := blk_lt X1.out
    have h5 := blk_lt X2.out
    have h6 := B1.out.size
    have h7 := B2.out.size
    refine ⟨?_, ?_, ?_, ?_, ?_, ?_⟩ <;> omega)
  clear B1 B2 B3 X1 X2 G1 G2 G3 HX0
  unfold doL at HD
  by_cases c0 : k = 0
  · rw [if_pos c0] at HD
    have e0 : (k == 0) = true := beq_iff_eq.2 c0
    clear c0
    have HWR := Aside0.mk (rwrote_any (W := w3) (nm := A.nm) (ab := A.ab) (vf := .slice Af n cf) (vg := .slice Ag A.go.length cg) (c := cu) (sl_one _ _ _) (sl_one _ _ _) HX.out.pu.rd (by have h1 := HG.out.ul; have h2 := HG.out.i50; omega) rfl o m)
    obtain ⟨U, hU⟩ : ∃ U, U = (if hasB A.u o then A.u else A.u ++ [(o, m)]) := ⟨_, rfl⟩
    rw [← hU] at HWR
    have HU := Aside0.mk hU
    clear hU
    go_wp2_with (first
      | (refine wpList_load_row rfl 64 (.tmp 2) rfl g2 rfl 64 _ (0, 0) _ R1.out Try.underlying64 rfl info64s ?_)
      | (go_at_call 62; (refine HWR.out.mono ?_); rintro e w4 ⟨A4, c4, rfl, hor, hb⟩; have O4 := Aside0.mk hor; have B4 := Aside0.mk hb; have X4 := Aside0.mk (blk_below X3.out hb); clear hor hb)
      | (refine wpList_store_row rfl 64 (.tmp 4) (.tmp 14) rfl g4 _ rfl rfl 64 _ X4.out info64s rfl (row64_one rfl rfl rfl) ?_))
    refine bodyPost_ret (results_cell_row rfl _ _ g4 64 #[.slice Af n cf, .int .i64 A.nm, .int .i64 A.ab, .slice A4 U.length c4, .slice Ag A.go.length cg] (0, 0) _ rfl (setRow_heap _ _ _ _ _ _ X4.out) Try.underlying64 rfl info64s) rfl ?_
    have hul : (wrA A o m).u = U := by
      rw [HU.out]
      show (if (fnd A.u o).isNone = true then A.u ++ [(o, m)] else A.u) = _
      rw [hasB_fnd]
      cases (fnd A.u o).isNone <;> rfl
    refine ⟨_, rfl, ⟨A4, Ag, c4, cg, ?_, ?_⟩, below_row (HB.out.trans (B4.out.mono HB.out.size)) GE.out.2.2.1 _⟩
    · rw [HD.out, hul]
      rfl
    · have hpu : PS w4 0 (.slice A4 U.length c4) U ∧ Ow T (.slice A4 U.length c4) := by
        rcases O4.out with ⟨ea, ec, hh⟩ | h
        · have hu : U = A.u := by rw [HU.out, if_pos hh]
          rw [ea, ec, hu]
          exact ⟨HX.out.pu.below B4.out, HX.out.tu⟩
        · exact ⟨own_weaken h (Nat.zero_le _), ow_new h (fun j hj => HT.out j (Nat.le_trans HB.out.size hj))⟩
      rw [HD.out]
      refine ⟨?_, ?_, ?_, HX.out.tg⟩
      · rw [hul]
        exact ps_row hpu.1 X4.out (by decide) _
      · exact ps_row (HX.out.pg.below B4.out) X4.out (by decide) _
      · rw [hul]
        exact hpu.2
  · rw [if_neg c0] at HD
    have e0 : (k == 0) = false := beq_eq_false_iff_ne.2 c0
    by_cases c1 : k = 1
    · rw [if_pos c1] at HD
      have e1 : (k == 1) = true := beq_iff_eq.2 c1
      clear c0 c1
      by_cases hn : 0 < m
      · have d1 : decide (0 < m) = true := decide_eq_true hn
        have d2 : decide (m < 1) = false := decide_eq_false (by omega)
        rw [if_neg (show ¬ m < 1 by omega)] at HD

        have HAD := Aside0.mk (add_any (W := w3) (c := cg) HX.out.pg.rd (by have h1 := HG.out.gl; have h2 := HG.out.i50; omega) rfl o m (by
          intro j hj
          have h1 := HG.out.vl j hj
          have h2 := HG.out.i50
          have h3 := HM.out
          have h4 : ((i : Nat) : Int) * 1099511627776 ≤ 110 * 1099511627776 := by omega
    
          unfold wrap64
          omega))
        rw [addR_got HP.out hn] at HAD
        have y4 : w3.cell? ⟨g2, 4, none⟩ = some (.slice Ag A.go.length cg) := (blk_cell R1.out 4).trans rfl
        clear hn
        go_upto_region 7 with (go_at_call 63; (refine HAD.out.mono ?_); rintro e w4 ⟨v4, rfl, hps, hb⟩; obtain ⟨A4, c4, rfl⟩ := own_slice hps; have P4 := Aside0.mk hps; have B4 := Aside0.mk hb; have f4 := blk_frozen (blk_below R1.out hb) 4; have z4 := (blk_cell (blk_below R1.out hb) 4).trans rfl; clear hps hb)
        clear y4 f4 z4
        have R4 := Aside0.mk (show (w4.setCell ⟨g2, 4, none⟩ (.slice A4 (gotR A.go o m).length c4)).heap[g2]? = some (.cells #[.slice Af n cf, .int .i64 A.nm, .int .i64 A.ab, .slice Au A.u.length cu, .slice A4 (gotR A.go o m).length c4] 64 (0, 0)) from blk_put (blk_below R1.out B4.out) 4 _ rfl)
        have X4 := Aside0.mk (blk_far (blk_below X3.out B4.out) (p := ⟨g2, 4, none⟩) (fun q => GE.out.2.2.2.1 (by first | exact q | exact q.symm)) (.slice A4 (gotR A.go o m).length c4))
        have B5 := Aside0.mk (show Below W.heap.size W (w4.setCell ⟨g2, 4, none⟩ (.slice A4 (gotR A.go o m).length c4)) from (HB.out.trans (B4.out.mono HB.out.size)).setCell GE.out.1 _)
        have P5 := Aside0.mk (show PS (w4.setCell ⟨g2, 4, none⟩ (.slice A4 (gotR A.go o m).length c4)) w3.heap.size (.slice A4 (gotR A.go o m).length c4) (gotR A.go o m) from own_setCell P4.out (own_ne P4.out (blk_below R1.out B4.out) (by decide)) _)
        have U5 := Aside0.mk (show PS (w4.setCell ⟨g2, 4, none⟩ (.slice A4 (gotR A.go o m).length c4)) 0 (.slice Au A.u.length cu) A.u from own_setCell (HX.out.pu.below B4.out) (own_ne (HX.out.pu.below B4.out) (blk_below R1.out B4.out) (by decide)) _)
        clear P4 B4 R1
        generalize w4.setCell ⟨g2, 4, none⟩ (.slice A4 (gotR A.go o m).length c4) = w5 at *
        go_wp2_with (first
          | (refine wpList_load_row rfl 64 (.tmp 2) rfl g2 rfl 64 _ (0, 0) _ R4.out Try.underlying64 rfl info64s ?_)
          | (refine wpList_store_row rfl 64 (.tmp 4) (.tmp 28) rfl g4 _ rfl rfl 64 _ X4.out info64s rfl (row64_one rfl rfl rfl) ?_))
        refine bodyPost_ret (results_cell_row rfl _ _ g4 64 #[.slice Af n cf, .int .i64 A.nm, .int .i64 A.ab, .slice Au A.u.length cu, .slice A4 (gotR A.go o m).length c4] (0, 0) _ rfl (setRow_heap _ _ _ _ _ _ X4.out) Try.underlying64 rfl info64s) rfl ?_
        rw [HD.out]
        exact ⟨_, rfl, ⟨Au, A4, cu, c4, rfl, ⟨ps_row U5.out X4.out (by decide) _, ps_row (own_weaken P5.out (Nat.zero_le _)) X4.out (by decide) _, HX.out.tu, ow_new P5.out (fun j hj => HT.out j (Nat.le_trans HB.out.size hj))⟩⟩, below_row B5.out GE.out.2.2.1 _⟩
      · have d1 : decide (0 < m) = false := decide_eq_false hn
        have d2 : decide (m < 1) = true := decide_eq_true (by omega)
        rw [if_pos (show m < 1 by omega)] at HD
        clear hn
        go_wp2_with (first
          | (refine wpList_load_row rfl 64 (.tmp 2) rfl g2 rfl 64 _ (0, 0) _ R1.out Try.underlying64 rfl info64s ?_)
          | (refine wpList_store_row rfl 64 (.tmp 4) (.tmp 28) rfl g4 _ rfl rfl 64 _ X3.out info64s rfl (row64_one rfl rfl rfl) ?_))
        refine bodyPost_ret (results_cell_row rfl _ _ g4 64 #[.slice Af n cf, .int .i64 A.nm, .int .i64 A.ab, .slice Au A.u.length cu, .slice Ag A.go.length cg] (0, 0) _ rfl (setRow_heap _ _ _ _ _ _ X3.out) Try.underlying64 rfl info64s) rfl ?_
        rw [HD.out]
        exact ⟨_, rfl, ⟨Au, Ag, cu, cg, rfl, ⟨ps_row HX.out.pu X3.out (by decide) _, ps_row HX.out.pg X3.out (by decide) _, HX.out.tu, HX.out.tg⟩⟩, below_row HB.out GE.out.2.2.1 _⟩
    · rw [if_neg c1] at HD
      have e1 : (k == 1) = false := beq_eq_false_iff_ne.2 c1
      by_cases c2 : k = 2
      · rw [if_pos c2] at HD
        have e2 : (k == 2) = true := beq_iff_eq.2 c2
        clear c0 c1 c2
        by_cases hn : 0 < m
        · have d1 : decide (0 < m) = true := decide_eq_true hn
          have d2 : decide (m < 1) = false := decide_eq_false (by omega)
          rw [if_neg (show ¬ m < 1 by omega)] at HD
          have ewn : IntKind.i64.wrap (-m) = -m := by rw [IntKind.wrap_i64]; have := HM.out; omega
          have ewn2 : wrap64 (-m) = -m := by have := HM.out; unfold wrap64; omega
          have HAD := Aside0.mk (add_any (W := w3) (c := cg) HX.out.pg.rd (by have h1 := HG.out.gl; have h2 := HG.out.i50; omega) rfl o (-m) (by
            intro j hj
            have h1 := HG.out.vl j hj
            have h2 := HG.out.i50
            have h3 := HM.out
            have h4 : ((i : Nat) : Int) * 1099511627776 ≤ 110 * 1099511627776 := by omega
    
            unfold wrap64
            omega))
          rw [addR_lost HP.out ((srt_iff _).1 HG.out.sr) hn] at HAD
          have y4 : w3.cell? ⟨g2, 4, none⟩ = some (.slice Ag A.go.length cg) := (blk_cell R1.out 4).trans rfl
          clear hn
          go_upto_region 11 with (go_at_call 63; (refine HAD.out.mono ?_); rintro e w4 ⟨v4, rfl, hps, hb⟩; obtain ⟨A4, c4, rfl⟩ := own_slice hps; have P4 := Aside0.mk hps; have B4 := Aside0.mk hb; have f4 := blk_frozen (blk_below R1.out hb) 4; have z4 := (blk_cell (blk_below R1.out hb) 4).trans rfl; clear hps hb)
          clear y4 f4 z4
          have R4 := Aside0.mk (show (w4.setCell ⟨g2, 4, none⟩ (.slice A4 (lostR A.go o m).length c4)).heap[g2]? = some (.cells #[.slice Af n cf, .int .i64 A.nm, .int .i64 A.ab, .slice Au A.u.length cu, .slice A4 (lostR A.go o m).length c4] 64 (0, 0)) from blk_put (blk_below R1.out B4.out) 4 _ rfl)
          have X4 := Aside0.mk (blk_far (blk_below X3.out B4.out) (p := ⟨g2, 4, none⟩) (fun q => GE.out.2.2.2.1 (by first | exact q | exact q.symm)) (.slice A4 (lostR A.go o m).length c4))
          have B5 := Aside0.mk (show Below W.heap.size W (w4.setCell ⟨g2, 4, none⟩ (.slice A4 (lostR A.go o m).length c4)) from (HB.out.trans (B4.out.mono HB.out.size)).setCell GE.out.1 _)
          have P5 := Aside0.mk (show PS (w4.setCell ⟨g2, 4, none⟩ (.slice A4 (lostR A.go o m).length c4)) w3.heap.size (.slice A4 (lostR A.go o m).length c4) (lostR A.go o m) from own_setCell P4.out (own_ne P4.out (blk_below R1.out B4.out) (by decide)) _)
          have U5 := Aside0.mk (show PS (w4.setCell ⟨g2, 4, none⟩ (.slice A4 (lostR A.go o m).length c4)) 0 (.slice Au A.u.length cu) A.u from own_setCell (HX.out.pu.below B4.out) (own_ne (HX.out.pu.below B4.out) (blk_below R1.out B4.out) (by decide)) _)
          clear P4 B4 R1
          generalize w4.setCell ⟨g2, 4, none⟩ (.slice A4 (lostR A.go o m).length c4) = w5 at *
          go_wp2_with (first
            | (refine wpList_load_row rfl 64 (.tmp 2) rfl g2 rfl 64 _ (0, 0) _ R4.out Try.underlying64 rfl info64s ?_)
            | (refine wpList_store_row rfl 64 (.tmp 4) (.tmp 43) rfl g4 _ rfl rfl 64 _ X4.out info64s rfl (row64_one rfl rfl rfl) ?_))
          refine bodyPost_ret (results_cell_row rfl _ _ g4 64 #[.slice Af n cf, .int .i64 A.nm, .int .i64 A.ab, .slice Au A.u.length cu, .slice A4 (lostR A.go o m).length c4] (0, 0) _ rfl (setRow_heap _ _ _ _ _ _ X4.out) Try.underlying64 rfl info64s) rfl ?_
          rw [HD.out]
          exact ⟨_, rfl, ⟨Au, A4, cu, c4, rfl, ⟨ps_row U5.out X4.out (by decide) _, ps_row (own_weaken P5.out (Nat.zero_le _)) X4.out (by decide) _, HX.out.tu, ow_new P5.out (fun j hj => HT.out j (Nat.le_trans HB.out.size hj))⟩⟩, below_row B5.out GE.out.2.2.1 _⟩
        · have d1 : decide (0 < m) = false := decide_eq_false hn
          have d2 : decide (m < 1) = true := decide_eq_true (by omega)
          rw [if_pos (show m < 1 by omega)] at HD
          clear hn
          go_wp2_with (first
            | (refine wpList_load_row rfl 64 (.tmp 2) rfl g2 rfl 64 _ (0, 0) _ R1.out Try.underlying64 rfl info64s ?_)
            | (refine wpList_store_row rfl 64 (.tmp 4) (.tmp 43) rfl g4 _ rfl rfl 64 _ X3.out info64s rfl (row64_one rfl rfl rfl) ?_))
          refine bodyPost_ret (results_cell_row rfl _ _ g4 64 #[.slice Af n cf, .int .i64 A.nm, .int .i64 A.ab, .slice Au A.u.length cu, .slice Ag A.go.length cg] (0, 0) _ rfl (setRow_heap _ _ _ _ _ _ X3.out) Try.underlying64 rfl info64s) rfl ?_
          rw [HD.out]
          exact ⟨_, rfl, ⟨Au, Ag, cu, cg, rfl, ⟨ps_row HX.out.pu X3.out (by decide) _, ps_row HX.out.pg X3.out (by decide) _, HX.out.tu, HX.out.tg⟩⟩, below_row HB.out GE.out.2.2.1 _⟩
      · rw [if_neg c2] at HD
        have e2 : (k == 2) = false := beq_eq_false_iff_ne.2 c2
        clear c0 c1 c2
        have HAG := Aside0.mk (ragain_any w3 Af n cf (.slice Au A.u.length cu) (.slice Ag A.go.length cg) A.nm A.ab m (by have h1 := HG.out.ab; have h2 := HG.out.i50; omega))
        go_wp2_with (first
          | (refine wpList_load_row rfl 64 (.tmp 2) rfl g2 rfl 64 _ (0, 0) _ R1.out Try.underlying64 rfl info64s ?_)
          | (go_at_call 64; (refine HAG.out.mono ?_); rintro e w4 ⟨rfl, hb⟩; have B4 := Aside0.mk hb; have X4 := Aside0.mk (blk_below X3.out hb); clear hb)
          | (refine wpList_store_row rfl 64 (.tmp 4) (.tmp 47) rfl g4 _ rfl rfl 64 _ X4.out info64s rfl (row64_one rfl rfl rfl) ?_))
        refine bodyPost_ret (results_cell_row rfl _ _ g4 64 #[.slice Af n cf, .int .i64 m, .int .i64 (A.ab + 1), .slice none 0 0, .slice none 0 0] (0, 0) _ rfl (setRow_heap _ _ _ _ _ _ X4.out) Try.underlying64 rfl info64s) rfl ?_
        rw [HD.out]
        exact ⟨_, rfl, ⟨none, none, 0, 0, rfl, ⟨ps_nil _, ps_nil _, ow_none _ _, ow_none _ _⟩⟩, below_row (HB.out.trans (B4.out.mono HB.out.size)) GE.out.2.2.1 _⟩
end Go.Proofs.Ytakbhnfmimnbhaa.Rn
