/- The page's Low, and Pop of one value. Conditions: none. -/
import Derived.Test.YtakbhnfmimnbhaaRn31
import Derived.OwnWalk
namespace Go.Proofs.Ytakbhnfmimnbhaa.Rn
open Go.RowKit Go.Proofs.YtakbhnfmimnbhaaW.PrintWords Go.Proofs.YtakbhnfmimnbhaaW.PrintLast Go.Proofs.YtakbhnfmimnbhaaW.PrintMore
set_option linter.unusedVariables false
set_option linter.unusedSimpArgs false

theorem rlow_any (W : World) (v : Int) (hv : 0 ≤ v ∧ v ≤ 1000000) : Calls Try.prog 109 #[.int .i64 v] W fun e w' => e = .returned (.int .i64 v) ∧ w' = W := by
  have e1 : Int.tmod v 4294967296 = v := Int.tmod_eq_of_lt hv.1 (by omega)
  have e3 : IntKind.i64.wrap v = v := by rw [IntKind.wrap_i64]; omega
  have e5 : wrap64 v = v := by unfold wrap64; omega
  have d1 : decide (2147483648 ≤ v) = false := decide_eq_false (by omega)
  have d2 : decide (v < -2147483648) = false := decide_eq_false (by omega)
  clear hv
  go_enter Try.func109, Try.ntmps109
  go_wp2
  go_ret
  first | exact ⟨rfl, rfl⟩ | simp [e1, e3, e5]
theorem nums_put {w : World} {g j : Nat} {r : List Int} {t : TypeId} (h : w.heap[g]? = some (.cells (nums .i64 r).toArray t (0, 0))) (v : Int) : (w.setCell ⟨g, j, none⟩ (.int .i64 v)).heap[g]? = some (.cells (nums .i64 (r.set j v)).toArray t (0, 0)) := blk_put h j _ (by rw [List.setIfInBounds_toArray, nums_set])
theorem blk_num {w : World} {g j : Nat} {r : List Int} {t : TypeId} (h : w.heap[g]? = some (.cells (nums .i64 r).toArray t (0, 0))) (hj : j < r.length) : w.cell? ⟨g, j, none⟩ = some (.int .i64 (r.getD j 0)) := by
  rw [blk_cell h, List.getElem?_toArray]
  exact nums_at hj
theorem info3z : (Try.prog.info? 3).map (fun i => (i.zero, i.size, i.bytes)) = some (some (.int .i64 0), 1, 8) := by kernel_rfl
theorem own_cap {W : World} {b e k n c : Nat} {A : Option Addr} {xs : List Value} (h : W.ownsRow b e k (.slice A n c) n xs) : n ≤ c := by
  rcases h.2 with ⟨hv, hz⟩ | ⟨g, cap, cur, hv, _, _, hle, _⟩
  · injection hv with _ h1 h2
    omega
  · injection hv with _ h1 h2
    omega
/-- append(out, x) of whole numbers, out an empty row of its own. -/
theorem ints_one {W : World} {b g : Nat} {z : Int} (hv : W.ownsRow b 3 1 (.slice (some ⟨g, 0, none⟩) 0 0) 0 []) (hb : b ≤ W.heap.size) : ∃ v9 w9, (Builtin.append_ #[85, 85] 85 #[.slice (some ⟨g, 0, none⟩) 0 0, .slice (some ⟨W.heap.size, 0, none⟩) 1 1]).run Try.prog (W.alloc (.cells #[.int .i64 z] 3)) = .ok v9 w9 ∧ Below b W w9 ∧ ∀ k o, W.heap[k]? = some o → k ≠ g → w9.heap[k]? = some o := by
  obtain ⟨v1, w9, hrn, hown, hg9, hat⟩ := app_any (P := Try.prog) (ty := 85) (W := W.alloc (.cells #[.int .i64 z] 3)) b 85 3 1 8 (.int .i64 0) Try.underlying85 info3z rfl (by decide) (by decide) (.slice (some ⟨g, 0, none⟩) 0 0) 0 [] [.int .i64 z] (some ⟨W.heap.size, 0, none⟩) 1 1 (own_alloc hv _) ⟨rfl, fun _ => ⟨_, rfl, fun j q hj => by rw [add_plain]; exact (blk_cell (blk_new W _) j).trans (by rw [List.getElem?_toArray]; exact hj)⟩⟩ (fun x hx => by simp at hx; rw [hx]; rfl) (Nat.le_trans hb (alloc_le _ _)) (by decide) (fun _ => rfl)
  exact ⟨v1, w9, hrn, ((Below.refl b W).alloc hb _).grown hg9 (Nat.le_trans hb (alloc_le _ _)) (fun k hk => own_base hv k hk), fun k o ho hne => blk_grown (al_blk ho _) hg9 (fun q => hne (by simpa [Value.ownBlock] using q))⟩
def z27 : List Int := [0, 0, 0, 0, 0, 0, 0, 0, 0, 0, 0, 0, 0, 0, 0, 0, 0, 0, 0, 0, 0, 0, 0, 0, 0, 0, 0]
theorem ex_alloc110 {oi : Oper} {a : Act} {w : World} (ho : oi.op = .alloc 110) : (execOp a.eval oi).run Try.prog w = .ok (.value (.pointer (some ⟨w.heap.size, 0, none⟩))) (w.alloc (.cells (nums .i64 z27).toArray 110)) := by
  unfold execOp
  simp only [ho]
  go_simp
  rfl
set_option maxHeartbeats 4000000 in
set_option maxRecDepth 100000 in
theorem rpop_no {W : World} {A : Option Addr} {n c : Nat} {is : List Int} (hr : RdC W A n 27 (nums .i64 is)) (hn : n ≤ 100000) (hno : ¬ (0 < n ∧ 1 ≤ topN n is ∧ topN n is ≤ 16)) : Calls Try.prog 101 #[.slice A n c, .int .i64 1] W fun e w' => e = .returned (.tuple #[.slice none 0 0, .slice none 0 0, .bool false]) ∧ w' = W := by
  have hu59 := Try.underlying59
  have hu110 := Try.underlying110
  by_cases h0 : 0 < n
  · obtain ⟨m, rfl⟩ : ∃ m, n = m + 1 := ⟨n - 1, by omega⟩
    obtain ⟨ad, rfl, _, y2⟩ := rd_row hr (i := m) (by omega)
    obtain ⟨t, ht⟩ : ∃ t, t = is.getD (m * 27 + 2) 0 := ⟨_, rfl⟩
    have ht2 : topN (m + 1) is = t := by rw [ht]; rfl
    rw [ht2] at hno
    rw [← ht] at y2
    obtain ⟨n, hnn⟩ : ∃ n, n = m + 1 := ⟨_, rfl⟩
    rw [← hnn] at hn h0 hno ⊢
    have ew : IntKind.i64.wrap ((n : Int) - 1) = (m : Int) := by rw [IntKind.wrap_i64]; omega
    have p1 : (0 ≤ (m : Int)) = True := eq_true (by omega)
    have p2 : ((m : Int) < (n : Int)) = True := eq_true (by omega)
    have d1 : ((n : Int) == 0) = false := beq_eq_false_iff_ne.2 (by omega)
    have d2 : (n == 0) = false := beq_eq_false_iff_ne.2 (by omega)
    have d3 : (n = 0) = False := eq_false (by omega)
    by_cases h1 : t < 1
    · have d4 : decide (t < 1) = true := decide_eq_true h1
      clear hr hn h0 hno ht ht2 hnn h1
      go_enter Try.func101, Try.ntmps101
      go_wp2
      go_ret3
      exact ⟨rfl, rfl⟩
    · have d4 : decide (t < 1) = false := decide_eq_false h1
      have d5 : decide (16 < t) = true := decide_eq_true (by omega)
      clear hr hn h0 hno ht ht2 hnn h1
      go_enter Try.func101, Try.ntmps101
      go_wp2
      go_ret3
      exact ⟨rfl, rfl⟩
  · obtain rfl : n = 0 := by omega
    clear hr hn h0 hno
    go_enter Try.func101, Try.ntmps101
    go_wp2
    go_ret3
    exact ⟨rfl, rfl⟩
end Go.Proofs.Ytakbhnfmimnbhaa.Rn
namespace Go.Proofs.Ytakbhnfmimnbhaa.Rn
open Go.RowKit Go.Proofs.YtakbhnfmimnbhaaW.PrintWords Go.Proofs.YtakbhnfmimnbhaaW.PrintLast Go.Proofs.YtakbhnfmimnbhaaW.PrintMore
set_option linter.unusedVariables false
set_option linter.unusedSimpArgs false

theorem own_rowN {W : World} {base e k g n : Nat} {t : TypeId} {v : Value} {xs : List Value} {x cs : Array Value} (h : W.ownsRow base e k v n xs) (hg : W.heap[g]? = some (.cells x t (0, 0))) (hne : e ≠ t) : (W.setRow g cs).ownsRow base e k v n xs :=
  own_move h (fun q hk => setRow_other W g q cs (fun z => own_ne h hg hne (by rw [hk, z])))
theorem list_store110 {ops : Array Oper} {rest : List Oper} {o : Oper} {a : Act} {w : World} {Q : Exit → Act → World → Prop} {g : Nat} {r0 r : List Int} (hg : o.guard = none) (x y : Operand) (ho : o.op = .store 110 x y) (hx : a.eval x = .pointer (some ⟨g, 0, none⟩)) (hy : a.eval y = .agg (nums .i64 r).toArray) (h0 : r0.length = 27) (h27 : r.length = 27) (hb : w.heap[g]? = some (.cells (nums .i64 r0).toArray 110 (0, 0))) (h : wpList Try.prog ops Q rest (a.put o.dst undef) (w.setRow g (nums .i64 r).toArray)) : wpList Try.prog ops Q (o :: rest) a w :=
  wpList_store_row hg 110 x y ho g (nums .i64 r).toArray hx hy 110 (nums .i64 r0).toArray hb (by rw [nums_sz h27]; exact info110s) (by rw [nums_sz h27, nums_sz h0]) (nums_all r) h
theorem list_load110b {ops : Array Oper} {rest : List Oper} {o : Oper} {a : Act} {w : World} {Q : Exit → Act → World → Prop} {g : Nat} {r : List Int} (hg : o.guard = none) (x : Operand) (ho : o.op = .load 110 x) (hx : a.eval x = .pointer (some ⟨g, 0, none⟩)) (h27 : r.length = 27) (hb : w.heap[g]? = some (.cells (nums .i64 r).toArray 110 (0, 0))) (h : wpList Try.prog ops Q rest (a.put o.dst (.agg (nums .i64 r).toArray)) w) : wpList Try.prog ops Q (o :: rest) a w := list_load110 hg x ho hx h27 (blk_cells hb) h
set_option maxHeartbeats 16000000 in
set_option maxRecDepth 100000 in
theorem rpop_yes {W : World} {A : Option Addr} {m c I : Nat} {is : List Int} (hr : RdC W A (m + 1) 27 (nums .i64 is)) (hn : m + 1 ≤ 100000) (hc : m + 1 ≤ c) (hi : I < 16) (ht : is.getD (m * 27 + 2) 0 = ((I + 1 : Nat) : Int)) : Calls Try.prog 101 #[.slice A (m + 1) c, .int .i64 1] W fun e w' => ∃ A9 c9 v, e = .returned (.tuple #[.slice A9 (m + 1) c9, v, .bool true]) ∧ w'.ownsRow W.heap.size 110 27 (.slice A9 (m + 1) c9) (m + 1) (nums .i64 (is.take (m * 27) ++ ((rowI is m).set (11 + I) 0).set 2 (I : Int))) ∧ Below W.heap.size W w' := by
  have hu59 := Try.underlying59
  have hu110 := Try.underlying110
  have hu108 := Try.underlying108
  have hu85 := Try.underlying85
  have HR := Aside0.mk hr
  obtain ⟨ad, rfl, hrow, y2⟩ := rd_row hr (i := m) (by omega)
  have HROW := Aside0.mk hrow
  have H27 := Aside0.mk (rowI_len (i := m) (fr_len hr) (by omega))
  have HRT := Aside0.mk (show (rowI is m).getD 2 0 = ((I + 1 : Nat) : Int) from by rw [rowI_at (by decide)]; exact ht)
  rw [ht] at y2
  obtain ⟨n, hnn⟩ : ∃ n, n = m + 1 := ⟨_, rfl⟩
  obtain ⟨tp, htp⟩ : ∃ tp, tp = I + 1 := ⟨_, rfl⟩
  obtain ⟨r, hrr⟩ : ∃ r, r = rowI is m := ⟨_, rfl⟩
  rw [← hrr] at HROW H27 HRT ⊢
  rw [← htp] at y2 HRT
  have HWI := Aside0.mk (fun (w9 : World) (r9 : List Int) (h9 : RdC w9 (some ad) (m + 1) 27 (nums .i64 is)) (h : r9.length = 27) => with_any (r := r9) h9 hn (Nat.succ_pos m) hc h)
  rw [← hnn] at hn HWI HR ⊢
  have ew : IntKind.i64.wrap ((n : Int) - 1) = (m : Int) := by rw [IntKind.wrap_i64]; omega
  have ewt : IntKind.i64.wrap ((tp : Int) - 1) = (I : Int) := by rw [IntKind.wrap_i64]; omega
  have p1 : (0 ≤ (m : Int)) = True := eq_true (by omega)
  have p2 : ((m : Int) < (n : Int)) = True := eq_true (by omega)
  have d1 : ((n : Int) == 0) = false := beq_eq_false_iff_ne.2 (by omega)
  have d2 : (n == 0) = false := beq_eq_false_iff_ne.2 (by omega)
  have d3 : (n = 0) = False := eq_false (by omega)
  have d4 : decide ((tp : Int) < 1) = false := decide_eq_false (by omega)
  have d4' : decide (tp < 1) = false := decide_eq_false (by omega)
  have d5 : decide (16 < (tp : Int)) = false := decide_eq_false (by omega)
  have d5' : decide (16 < tp) = false := decide_eq_false (by omega)
  have HI := Aside0.mk hi
  have HTP := Aside0.mk htp
  have HNN := Aside0.mk hnn
  clear hr hn hc hi ht hrow hnn htp hrr
  go_enter Try.func101, Try.ntmps101
  go_upto_region 4 with (first
    | (refine list_load110 rfl (.tmp 42) rfl rfl H27.out HROW.out ?_)
    | ((with_reducible refine gate_dst (N := 7) rfl ?_); refine box_event ?hg (N := 7) ?hd (cs := (nums .i64 z27).toArray) (t := 110) ?hr ?_; (case hd => rfl); (case hg => rfl); (case hr => exact ex_alloc110 rfl); intro gx hg w1 hbox hb; have G1 := Aside0.mk hg; have B1 := Aside0.mk hb; have X1 := Aside0.mk hbox; clear hbox hb hg)
    | (refine list_store110 (r0 := z27) rfl (.tmp 7) (.tmp 43) rfl rfl rfl rfl H27.out X1.out ?_))
  have GE := Aside0.mk (show W.heap.size ≤ gx ∧ gx ≠ W.heap.size from by
    have h1 := G1.out
    have h2 := lt_alloc W (.cells #[] 3)
    omega)
  have X2 := Aside0.mk (setRow_heap w1 gx _ (nums .i64 r).toArray _ _ X1.out)
  have B2 := Aside0.mk (show Below W.heap.size W (w1.setRow gx (nums .i64 r).toArray) from below_row ((below_alloc (Below.refl _ _) _).trans (B1.out.mono (alloc_le _ _))) GE.out.1 _)
  have O2 := Aside0.mk (show (w1.setRow gx (nums .i64 r).toArray).ownsRow W.heap.size 3 1 (.slice (some ⟨W.heap.size, 0, none⟩) 0 0) 0 [] from own_rowN (pw_own_below (own_fresh W (Nat.le_refl _) 3 1 (by decide)) B1.out) X1.out (by decide))
  clear G1 B1 X1 y2 d1 d2 d3 d4 d4' d5 d5' p1 p2 HROW
  generalize w1.setRow gx (nums .i64 r).toArray = w2 at *
  have y2 : w2.cell? ⟨gx, 2, none⟩ = some (.int .i64 (tp : Int)) := (blk_num X2.out (by rw [H27.out]; decide)).trans (by rw [HRT.out])
  go_upto_block 0 with (fail)
  clear y2
  obtain ⟨gE, hgE⟩ : ∃ gE, gE = W.heap.size := ⟨_, rfl⟩
  have HGE := Aside0.mk hgE
  rw [← hgE] at O2 GE ⊢
  obtain ⟨v0, hv0⟩ : ∃ v0, v0 = Value.slice (some ⟨gE, 0, none⟩) 0 0 := ⟨_, rfl⟩
  rw [← hv0]
  have HV0 := Aside0.mk hv0
  clear hgE hv0
  go_wp2
  go_loopg [8, 9] 1 (fun kq v8 v9 w' => ∃ (j : Nat) (r9 : List Int), v9 = .int .i64 (j : Int) ∧ Aside0 (j + kq = tp) ∧ Aside0 ((kq = 1 ∧ r9 = r ∧ v8 = v0 ∧ w'.ownsRow gE 3 1 v0 0 []) ∨ (kq = 0 ∧ r9 = r.set (11 + I) 0)) ∧ Aside0 (w'.heap[gx]? = some (.cells (nums .i64 r9).toArray 110 (0, 0))) ∧ Aside0 (Below W.heap.size W w'))
  case atStart => exact ⟨I, r, rfl, ⟨by rw [HTP.out]⟩, ⟨.inl ⟨rfl, rfl, rfl, by rw [HV0.out]; exact O2.out⟩⟩, X2, B2⟩
  case round =>
    clear X2 B2 O2
    obtain ⟨j, r9, rfl, HK, HQ, HX, HB⟩ := hrel
    have HL9 := Aside0.mk (show r9.length = 27 ∧ r9.getD 2 0 = (tp : Int) from by
      rcases HQ.out with ⟨_, h, _⟩ | ⟨_, h⟩
      · rw [h]; exact ⟨H27.out, HRT.out⟩
      · rw [h]; exact ⟨by rw [List.length_set]; exact H27.out, by rw [getD_set_i _ _ _ _ (by rw [H27.out]; have := HI.out; omega), if_neg (by omega)]; exact HRT.out⟩)
    have y2 : wr.cell? ⟨gx, 2, none⟩ = some (.int .i64 (tp : Int)) := (blk_num HX.out (by rw [HL9.out.1]; decide)).trans (by rw [HL9.out.2])
    rcases gk with _ | k1
    · have hj : j = tp := by have := HK.out; omega
      subst hj
      have hr9 : r9 = r.set (11 + I) 0 := by
        rcases HQ.out with ⟨h, _⟩ | ⟨_, h⟩
        · exact absurd h (by decide)
        · exact h
      have HR9 := Aside0.mk hr9
      have d1 : decide ((j : Int) < (j : Int)) = false := decide_eq_false (by omega)
      have d2 : decide (j < j) = false := decide_eq_false (by omega)
      clear hr9
      have fz := blk_frozen HX.out 2
      go_upto_region 9 with (fail)
      have X3 := Aside0.mk (nums_put HX.out (j := 2) (I : Int))
      have B3 := Aside0.mk (show Below W.heap.size W (wr.setCell ⟨gx, 2, none⟩ (.int .i64 (I : Int))) from HB.out.setCell (by rw [← HGE.out]; exact GE.out.1) _)
      have HW3 := Aside0.mk (HWI.out (wr.setCell ⟨gx, 2, none⟩ (.int .i64 (I : Int))) (r9.set 2 (I : Int)) (rdc_below HR.out B3.out) (by rw [List.length_set]; exact HL9.out.1))
      have HL3 := Aside0.mk (show (r9.set 2 (I : Int)).length = 27 from by rw [List.length_set]; exact HL9.out.1)
      clear y2 d1 d2 fz HX HB
      generalize wr.setCell ⟨gx, 2, none⟩ (.int .i64 (I : Int)) = w3 at *
      go_wp2_with (first
        | (refine list_load110b rfl (.tmp 7) rfl rfl HL3.out X3.out ?_)
        | (go_at_call 108; (refine HW3.out.mono ?_); rintro e w4 ⟨A9, c9, rfl, ho, hb⟩; have O4 := Aside0.mk ho; have B4 := Aside0.mk hb; clear ho hb))
      go_ret3
      refine ⟨A9, c9, _, rfl, ?_, B3.out.trans (B4.out.mono B3.out.size)⟩
      rw [← HR9.out]
      have h4 := O4.out
      rw [show n - 1 = m by have := HNN.out; omega] at h4
      exact own_weaken h4 B3.out.size
    · have hq : k1 = 0 ∧ r9 = r ∧ u8 = v0 ∧ wr.ownsRow gE 3 1 v0 0 [] := by
        rcases HQ.out with ⟨h1, h2, h3, h4⟩ | ⟨h1, _⟩
        · exact ⟨by omega, h2, h3, h4⟩
        · omega
      obtain ⟨rfl, rfl, rfl, hown⟩ := hq
      have hj : j = I := by have := HK.out; have := HTP.out; omega
      subst hj
      have HOW := Aside0.mk hown
      clear hown
      have d1 : decide ((j : Int) < (tp : Int)) = true := decide_eq_true (by have := HTP.out; omega)
      have d2 : decide (j < tp) = true := decide_eq_true (by have := HTP.out; omega)
      have p1 : (0 ≤ (j : Int)) = True := eq_true (by omega)
      have p2 : ((j : Int) < 16) = True := eq_true (by have := HI.out; omega)
      have p3 : (j < 16) = True := eq_true HI.out
      obtain ⟨z, hz⟩ : ∃ z, z = r9.getD (11 + j) 0 := ⟨_, rfl⟩
      have yI : wr.cell? ⟨gx, 11 + j, none⟩ = some (.int .i64 z) := by rw [hz]; exact blk_num HX.out (by rw [HL9.out.1]; have := HI.out; omega)
      clear hz
      have hown := HOW.out
      rw [HV0.out] at hown
      obtain ⟨v9, w9, hrn, hb9, hkp⟩ := ints_one (z := z) hown (by rw [HGE.out]; exact HB.out.size)
      rw [← HV0.out] at hrn
      have HB9 := Aside0.mk (show Below W.heap.size W w9 from HB.out.trans (by rw [← HGE.out]; exact hb9))
      have HX9 := Aside0.mk (hkp gx _ HX.out GE.out.2)
      have fz := blk_frozen HX9.out (11 + j)
      have cz := (blk_num HX9.out (j := 11 + j) (by rw [HL9.out.1]; have := HI.out; omega))
      have ewj : IntKind.i64.wrap ((j : Int) + 1) = (tp : Int) := by rw [IntKind.wrap_i64]; have := HI.out; have := HTP.out; omega
      clear hown hb9 hkp
      go_wp2_with (at_builtin; refine list_run rfl (.tmp 56) (.tmp 61) 85 85 rfl _ _ v9 rfl rfl hrn ?_)
      go_roundg 0
      case measure => omega
      case rel => exact ⟨tp, _, by first | rfl | rw [ewj], ⟨by omega⟩, ⟨.inr ⟨rfl, rfl⟩⟩, ⟨nums_put HX9.out 0⟩, ⟨HB9.out.setCell (by rw [← HGE.out]; exact GE.out.1) _⟩⟩
end Go.Proofs.Ytakbhnfmimnbhaa.Rn
