/- The page's Add: the walk. Conditions: none. -/
import Derived.Test.YtakbhnfmimnbhaaRn28
namespace Go.Proofs.Ytakbhnfmimnbhaa.Rn
open Go.RowKit Go.Proofs.YtakbhnfmimnbhaaW.PrintWords Go.Proofs.YtakbhnfmimnbhaaW.PrintLast Go.Proofs.YtakbhnfmimnbhaaW.PrintMore
set_option linter.unusedVariables false
set_option linter.unusedSimpArgs false

theorem info28s : (Try.prog.info? 28).map (·.size) = some 2 := by kernel_rfl
theorem row2_one (x y : Int) : (#[.int .i64 x, .int .i64 y] : Array Value).all (·.oneCell') = true := by simp [Value.oneCell']
theorem ps_rowM {W : World} {b g : Nat} {v : Value} {l : List (Int × Int)} (h : PS W b v l) (hne : some g ≠ v.ownBlock) (cs : Array Value) : PS (W.setRow g cs) b v l := by
  obtain ⟨hn, ht | ⟨gx, cap, cur, hv, hb, hh, hc⟩⟩ := h
  · exact ⟨hn, .inl ht⟩
  · refine ⟨hn, .inr ⟨gx, cap, cur, hv, hb, ?_, hc⟩⟩
    rw [setRow_other W g gx _ (fun q => hne (by rw [hv, ← q]; rfl))]
    exact hh
set_option maxHeartbeats 16000000 in
set_option maxRecDepth 100000 in
theorem add_any {W : World} {A : Option Addr} {n c : Nat} {l : List (Int × Int)} (hr : RdC W A l.length 2 (pcs l)) (hl : l.length ≤ 1000) (hn : n = l.length) (o m : Int) (hw : ∀ j, j < l.length → wrap64 ((l.getD j (0, 0)).2 + m) = (l.getD j (0, 0)).2 + m) : Calls Try.prog 63 #[.slice A n c, .int .i64 o, .int .i64 m] W fun e w' => ∃ v, e = .returned v ∧ PS w' W.heap.size v (addR l o m) ∧ Below W.heap.size W w' := by
  have hu23 := Try.underlying23
  have hu28 := Try.underlying28
  have HR := Aside0.mk hr
  have HL := Aside0.mk hl
  have HN := Aside0.mk hn
  have HW := Aside0.mk hw
  clear hr hl hn hw
  go_enter Try.func63, Try.ntmps63
  go_upto_region 2 with (fail)
  have P0 := Aside0.mk (show PS (W.alloc (.cells #[] 28)) W.heap.size (.slice (some ⟨W.heap.size, 0, none⟩) 0 0) [] from own_fresh W (Nat.le_refl _) 28 2 (by decide))
  have B0 := Aside0.mk (show Below W.heap.size W (W.alloc (.cells #[] 28)) from below_alloc (Below.refl _ _) _)
  generalize W.alloc (.cells #[] 28) = w2 at *
  generalize Value.slice (some ⟨W.heap.size, 0, none⟩) 0 0 = v0 at *
  go_upto_block 0 with (fail)
  go_wp2
  go_loopg [7, 8, 9] n (fun kq v7 v8 v9 w' => ∃ (i : Nat) (L : List (Int × Int)) (b : Bool), v8 = .bool b ∧ v9 = .int .i64 (i : Int) ∧ Aside0 (i + kq = n) ∧ Aside0 (addI l o m i = (L, b)) ∧ Aside0 (PS w' W.heap.size v7 L) ∧ Aside0 (Below W.heap.size W w'))
  case atStart => exact ⟨0, [], false, rfl, rfl, ⟨by omega⟩, ⟨rfl⟩, P0, B0⟩
  case round =>
    clear P0 B0
    obtain ⟨i, L, b, rfl, rfl, HK, HS, HP, HB⟩ := hrel
    by_cases hi : i < n
    · rcases gk with _ | k1
      · exact absurd hi (by have := HK.out; omega)
      have d1 : decide ((i : Int) < (n : Int)) = true := decide_eq_true (by omega)
      have d2 : decide (i < n) = true := decide_eq_true hi
      have p1 : (0 ≤ (i : Int)) = True := eq_true (by omega)
      have p2 : ((i : Int) < (n : Int)) = True := eq_true (by omega)
      obtain ⟨ad, hA, y0, y1⟩ := rd_pair (rdc_below HR.out HB.out) (i := i) (by rw [← HN.out]; exact hi)
      subst hA
      have HI := Aside0.mk (show i < l.length from by rw [← HN.out]; exact hi)
      have ew : Aside0 (wrap64 ((i : Int) + 1) = (i : Int) + 1) := ⟨by have h3 := HL.out; have h4 := HI.out; unfold wrap64; omega⟩
      have HBS := Aside0.mk HB.out.size
      have HT := Aside0.mk (addI_step l o m HI.out)
      rw [HS.out] at HT
      have HLN := Aside0.mk (show L.length ≤ 1001 from by have h1 := addI_len l o m i; rw [HS.out] at h1; have h2 := HL.out; have h3 := HI.out; dsimp only at h1; omega)
      have HQ := Aside0.mk (HW.out i HI.out)
      obtain ⟨X, Y, hXY⟩ : ∃ X Y, l.getD i (0, 0) = (X, Y) := ⟨_, _, rfl⟩
      rw [hXY] at y0 y1 HT HQ
      clear hi hXY
      go_upto_region 6 with (first
        | ((with_reducible refine gate_dst (N := 10) rfl ?_); refine box_event ?hg (N := 10) ?hd (cs := #[.int .i64 0, .int .i64 0]) (t := 28) ?hr ?_; (case hd => rfl); (case hg => rfl); (case hr => first | (go_simp; done) | (go_simp; rfl)); intro gx hgx w1 hbox hb; have B1 := Aside0.mk hb; have G1 := Aside0.mk hgx; have X1 := Aside0.mk hbox; clear hbox hb hgx)
        | (refine wpList_store_row rfl 28 (.tmp 10) (.tmp 21) rfl gx _ rfl rfl 28 _ X1.out info28s rfl (row2_one X Y) ?_))
      have HB5 := Aside0.mk (show Below W.heap.size W (w1.setRow gx #[.int .i64 X, .int .i64 Y]) from HB.out.trans ((B1.out.mono HB.out.size).trans (below_row (Below.refl W.heap.size w1) (by have := G1.out; have := HB.out.size; omega) #[.int .i64 X, .int .i64 Y])))
      have HX5 := Aside0.mk (setRow_heap w1 gx _ #[.int .i64 X, .int .i64 Y] _ _ X1.out)
      have HG5 := Aside0.mk (show some gx ≠ Value.ownBlock u7 from fun q => by have h1 := own_lt HP.out gx q.symm; have := G1.out; omega)
      have HP5 := Aside0.mk (show PS (w1.setRow gx #[.int .i64 X, .int .i64 Y]) W.heap.size u7 L from ps_rowM (pw_own_below HP.out B1.out) HG5.out _)
      clear HP HB B1 X1 d1 d2 p1 p2 y0 y1
      generalize w1.setRow gx #[.int .i64 X, .int .i64 Y] = w5 at *
      have HGE := Aside0.mk (show W.heap.size ≤ gx from by rw [G1.out]; exact HBS.out)
      clear G1 HBS
      cases b
      · by_cases h1 : o ≤ X
        · have a1 : decide (o ≤ X) = true := decide_eq_true h1
          by_cases h2 : X = o
          · have a2 : (X == o) = true := beq_iff_eq.2 h2
            obtain ⟨Q, hQ⟩ : ∃ Q, Q = Y + m := ⟨_, rfl⟩
            have a3 : IntKind.i64.wrap (Y + m) = Q := by rw [i64_w, hQ]; exact HQ.out
            have HZ5 := Aside0.mk (HT.out.trans (show addS o m (L, false) (X, Y) = (if 0 < Q then L ++ [(X, Q)] else L, true) from by rw [hQ]; simp [addS, h1, h2]))
            clear hQ h1 h2
            have x0 := (blk_cell HX5.out 0).trans rfl
            have x1 := (blk_cell HX5.out 1).trans rfl
            have fz := blk_frozen HX5.out 1
            go_upto_region 11 with (fail)
            clear x0 x1 fz
            have HX6 := Aside0.mk (show (w5.setCell ⟨gx, 1, none⟩ (.int .i64 Q)).heap[gx]? = some (.cells #[.int .i64 X, .int .i64 Q] 28 (0, 0)) from blk_put HX5.out 1 (.int .i64 Q) rfl)
            have HP6 := Aside0.mk (show PS (w5.setCell ⟨gx, 1, none⟩ (.int .i64 Q)) W.heap.size u7 L from own_setCell HP5.out HG5.out _)
            have HB6 := Aside0.mk (show Below W.heap.size W (w5.setCell ⟨gx, 1, none⟩ (.int .i64 Q)) from HB5.out.setCell HGE.out _)
            clear HX5 HP5 HB5 a1 a2 a3
            generalize w5.setCell ⟨gx, 1, none⟩ (.int .i64 Q) = w6 at *
            have x0 := (blk_cell HX6.out 0).trans rfl
            have x1 := (blk_cell HX6.out 1).trans rfl
            by_cases hq : 0 < Q
            · have b1 : decide (0 < Q) = true := decide_eq_true hq
              have HZ6 := Aside0.mk (HZ5.out.trans (congrArg (·, true) (if_pos hq)))
              clear hq HZ5
              obtain ⟨A9, c9, w9, hrn, hps, hbl, hkp⟩ := ps_snoc HP6.out HB6.out.size (by have h1 := HLN.out; omega) X Q
              have HB9 := Aside0.mk (show Below W.heap.size W w9 from HB6.out.trans hbl)
              obtain ⟨v9, hv9⟩ : ∃ v9, v9 = Value.slice A9 (L.length + 1) c9 := ⟨_, rfl⟩
              rw [← hv9] at hrn hps
              have HP9 := Aside0.mk hps
              clear hv9 hps hbl hkp
              go_wp2_with (at_builtin; refine list_run rfl (.tmp 50) (.tmp 52) 23 23 rfl _ _ v9 rfl rfl hrn ?_)
              go_roundg k1
              case measure => omega
              case rel => exact ⟨i + 1, _, true, rfl, by rw [ew.out]; simp, ⟨by have := HK.out; omega⟩, HZ6, HP9, HB9⟩
            · have b1 : decide (0 < Q) = false := decide_eq_false hq
              have HZ6 := Aside0.mk (HZ5.out.trans (congrArg (·, true) (if_neg hq)))
              clear hq HZ5
              go_wp2
              go_roundg k1
              case measure => omega
              case rel => exact ⟨i + 1, _, true, rfl, by rw [ew.out]; simp, ⟨by have := HK.out; omega⟩, HZ6, HP6, HB6⟩
          · have a2 : (X == o) = false := beq_eq_false_iff_ne.2 h2
            by_cases h3 : 0 < m
            · have a3 : decide (0 < m) = true := decide_eq_true h3
              have HZ5 := Aside0.mk (HT.out.trans (show addS o m (L, false) (X, Y) = (if 0 < Y then (L ++ [(o, m)]) ++ [(X, Y)] else L ++ [(o, m)], true) from by simp [addS, h1, h2, h3]))
              clear h1 h2 h3
              have x0 := (blk_cell HX5.out 0).trans rfl
              obtain ⟨A6, c6, w6, hrn, hps, hbl, hkp⟩ := ps_snoc HP5.out HB5.out.size (by have h1 := HLN.out; omega) o m
              have HX6 := Aside0.mk (hkp gx _ HX5.out HG5.out)
              have HB6 := Aside0.mk (show Below W.heap.size W w6 from HB5.out.trans hbl)
              have HLN6 := Aside0.mk (show (L ++ [(o, m)]).length ≤ 1002 from by rw [List.length_append]; have h1 := HLN.out; simp only [List.length_cons, List.length_nil]; omega)
              obtain ⟨v6, hv6⟩ : ∃ v6, v6 = Value.slice A6 (L.length + 1) c6 := ⟨_, rfl⟩
              rw [← hv6] at hrn hps
              have HP6 := Aside0.mk hps
              clear hv6 hps hbl hkp
              go_upto_region 11 with (at_builtin; refine list_run rfl (.tmp 41) (.tmp 45) 23 23 rfl _ _ v6 rfl rfl hrn ?_)
              clear x0 hrn HX5 HP5 HB5 HG5 HLN a1 a2 a3
              have x0 := (blk_cell HX6.out 0).trans rfl
              have x1 := (blk_cell HX6.out 1).trans rfl
              by_cases hq : 0 < Y
              · have b1 : decide (0 < Y) = true := decide_eq_true hq
                have HZ6 := Aside0.mk (HZ5.out.trans (congrArg (·, true) (if_pos hq)))
                clear hq HZ5
                obtain ⟨A9, c9, w9, hrn, hps, hbl, hkp⟩ := ps_snoc HP6.out HB6.out.size (by have h1 := HLN6.out; omega) X Y
                have HB9 := Aside0.mk (show Below W.heap.size W w9 from HB6.out.trans hbl)
                obtain ⟨v9, hv9⟩ : ∃ v9, v9 = Value.slice A9 ((L ++ [(o, m)]).length + 1) c9 := ⟨_, rfl⟩
                rw [← hv9] at hrn hps
                have HP9 := Aside0.mk hps
                clear hv9 hps hbl hkp
                go_wp2_with (at_builtin; refine list_run rfl (.tmp 50) (.tmp 52) 23 23 rfl _ _ v9 rfl rfl hrn ?_)
                go_roundg k1
                case measure => omega
                case rel => exact ⟨i + 1, _, true, rfl, by rw [ew.out]; simp, ⟨by have := HK.out; omega⟩, HZ6, HP9, HB9⟩
              · have b1 : decide (0 < Y) = false := decide_eq_false hq
                have HZ6 := Aside0.mk (HZ5.out.trans (congrArg (·, true) (if_neg hq)))
                clear hq HZ5
                go_wp2
                go_roundg k1
                case measure => omega
                case rel => exact ⟨i + 1, _, true, rfl, by rw [ew.out]; simp, ⟨by have := HK.out; omega⟩, HZ6, HP6, HB6⟩
            · have a3 : decide (0 < m) = false := decide_eq_false h3
              have HZ5 := Aside0.mk (HT.out.trans (show addS o m (L, false) (X, Y) = (if 0 < Y then L ++ [(X, Y)] else L, true) from by simp [addS, h1, h2, h3]))
              clear h1 h2 h3
              have x0 := (blk_cell HX5.out 0).trans rfl
              go_upto_region 11 with (fail)
              clear x0 a1 a2 a3
              have x0 := (blk_cell HX5.out 0).trans rfl
              have x1 := (blk_cell HX5.out 1).trans rfl
              by_cases hq : 0 < Y
              · have b1 : decide (0 < Y) = true := decide_eq_true hq
                have HZ6 := Aside0.mk (HZ5.out.trans (congrArg (·, true) (if_pos hq)))
                clear hq HZ5
                obtain ⟨A9, c9, w9, hrn, hps, hbl, hkp⟩ := ps_snoc HP5.out HB5.out.size (by have h1 := HLN.out; omega) X Y
                have HB9 := Aside0.mk (show Below W.heap.size W w9 from HB5.out.trans hbl)
                obtain ⟨v9, hv9⟩ : ∃ v9, v9 = Value.slice A9 (L.length + 1) c9 := ⟨_, rfl⟩
                rw [← hv9] at hrn hps
                have HP9 := Aside0.mk hps
                clear hv9 hps hbl hkp
                go_wp2_with (at_builtin; refine list_run rfl (.tmp 50) (.tmp 52) 23 23 rfl _ _ v9 rfl rfl hrn ?_)
                go_roundg k1
                case measure => omega
                case rel => exact ⟨i + 1, _, true, rfl, by rw [ew.out]; simp, ⟨by have := HK.out; omega⟩, HZ6, HP9, HB9⟩
              · have b1 : decide (0 < Y) = false := decide_eq_false hq
                have HZ6 := Aside0.mk (HZ5.out.trans (congrArg (·, true) (if_neg hq)))
                clear hq HZ5
                go_wp2
                go_roundg k1
                case measure => omega
                case rel => exact ⟨i + 1, _, true, rfl, by rw [ew.out]; simp, ⟨by have := HK.out; omega⟩, HZ6, HP5, HB5⟩
        · have a1 : decide (o ≤ X) = false := decide_eq_false h1
          have HZ5 := Aside0.mk (HT.out.trans (show addS o m (L, false) (X, Y) = (if 0 < Y then L ++ [(X, Y)] else L, false) from by simp [addS, h1]))
          clear h1
          have x0 := (blk_cell HX5.out 0).trans rfl
          go_upto_region 12 with (fail)
          clear x0 a1
          have x0 := (blk_cell HX5.out 0).trans rfl
          have x1 := (blk_cell HX5.out 1).trans rfl
          by_cases hq : 0 < Y
          · have b1 : decide (0 < Y) = true := decide_eq_true hq
            have HZ6 := Aside0.mk (HZ5.out.trans (congrArg (·, false) (if_pos hq)))
            clear hq HZ5
            obtain ⟨A9, c9, w9, hrn, hps, hbl, hkp⟩ := ps_snoc HP5.out HB5.out.size (by have h1 := HLN.out; omega) X Y
            have HB9 := Aside0.mk (show Below W.heap.size W w9 from HB5.out.trans hbl)
            obtain ⟨v9, hv9⟩ : ∃ v9, v9 = Value.slice A9 (L.length + 1) c9 := ⟨_, rfl⟩
            rw [← hv9] at hrn hps
            have HP9 := Aside0.mk hps
            clear hv9 hps hbl hkp
            go_wp2_with (at_builtin; refine list_run rfl (.tmp 50) (.tmp 52) 23 23 rfl _ _ v9 rfl rfl hrn ?_)
            go_roundg k1
            case measure => omega
            case rel => exact ⟨i + 1, _, false, rfl, by rw [ew.out]; simp, ⟨by have := HK.out; omega⟩, HZ6, HP9, HB9⟩
          · have b1 : decide (0 < Y) = false := decide_eq_false hq
            have HZ6 := Aside0.mk (HZ5.out.trans (congrArg (·, false) (if_neg hq)))
            clear hq HZ5
            go_wp2
            go_roundg k1
            case measure => omega
            case rel => exact ⟨i + 1, _, false, rfl, by rw [ew.out]; simp, ⟨by have := HK.out; omega⟩, HZ6, HP5, HB5⟩
      · have HZ5 := Aside0.mk (HT.out.trans (show addS o m (L, true) (X, Y) = (if 0 < Y then L ++ [(X, Y)] else L, true) from by simp [addS]))
        go_upto_region 12 with (fail)
        have x0 := (blk_cell HX5.out 0).trans rfl
        have x1 := (blk_cell HX5.out 1).trans rfl
        by_cases hq : 0 < Y
        · have b1 : decide (0 < Y) = true := decide_eq_true hq
          have HZ6 := Aside0.mk (HZ5.out.trans (congrArg (·, true) (if_pos hq)))
          clear hq HZ5
          obtain ⟨A9, c9, w9, hrn, hps, hbl, hkp⟩ := ps_snoc HP5.out HB5.out.size (by have h1 := HLN.out; omega) X Y
          have HB9 := Aside0.mk (show Below W.heap.size W w9 from HB5.out.trans hbl)
          obtain ⟨v9, hv9⟩ : ∃ v9, v9 = Value.slice A9 (L.length + 1) c9 := ⟨_, rfl⟩
          rw [← hv9] at hrn hps
          have HP9 := Aside0.mk hps
          clear hv9 hps hbl hkp
          go_wp2_with (at_builtin; refine list_run rfl (.tmp 50) (.tmp 52) 23 23 rfl _ _ v9 rfl rfl hrn ?_)
          go_roundg k1
          case measure => omega
          case rel => exact ⟨i + 1, _, true, rfl, by rw [ew.out]; simp, ⟨by have := HK.out; omega⟩, HZ6, HP9, HB9⟩
        · have b1 : decide (0 < Y) = false := decide_eq_false hq
          have HZ6 := Aside0.mk (HZ5.out.trans (congrArg (·, true) (if_neg hq)))
          clear hq HZ5
          go_wp2
          go_roundg k1
          case measure => omega
          case rel => exact ⟨i + 1, _, true, rfl, by rw [ew.out]; simp, ⟨by have := HK.out; omega⟩, HZ6, HP5, HB5⟩
    · have d1 : decide ((i : Int) < (n : Int)) = false := decide_eq_false (by omega)
      have d2 : decide (i < n) = false := decide_eq_false hi
      have HE := Aside0.mk (addI_all l o m (i := i) (by rw [← HN.out]; omega))
      have HLN := Aside0.mk (show L.length ≤ n + 2 from by have h1 := addI_len l o m i; rw [HS.out] at h1; have h3 := HK.out; dsimp only at h1; omega)
      rw [HS.out] at HE
      clear hi
      cases b
      · by_cases h3 : 0 < m
        · have a3 : decide (0 < m) = true := decide_eq_true h3
          have HE2 := Aside0.mk (HE.out.trans (if_pos ⟨rfl, h3⟩))
          clear h3
          obtain ⟨A6, c6, w6, hrn, hps, hbl, hkp⟩ := ps_snoc HP.out HB.out.size (by have h1 := HLN.out; have h2 := HL.out; have h3 := HN.out; omega) o m
          have HB6 := Aside0.mk (show Below W.heap.size W w6 from HB.out.trans hbl)
          obtain ⟨v6, hv6⟩ : ∃ v6, v6 = Value.slice A6 (L.length + 1) c6 := ⟨_, rfl⟩
          rw [← hv6] at hrn hps
          have HP6 := Aside0.mk hps
          clear hv6 hps hbl hkp
          go_wp2_with (at_builtin; refine list_run rfl (.tmp 60) (.tmp 64) 23 23 rfl _ _ v6 rfl rfl hrn ?_)
          go_ret
          exact ⟨_, rfl, by rw [HE2.out]; exact HP6.out, HB6.out⟩
        · have a3 : decide (0 < m) = false := decide_eq_false h3
          have HE2 := Aside0.mk (HE.out.trans (if_neg (fun q => h3 q.2)))
          clear h3
          go_wp2
          go_ret
          exact ⟨_, rfl, by rw [HE2.out]; exact HP.out, HB.out⟩
      · have HE2 := Aside0.mk (HE.out.trans (if_neg (fun q => Bool.noConfusion q.1)))
        go_wp2
        go_ret
        exact ⟨_, rfl, by rw [HE2.out]; exact HP.out, HB.out⟩
end Go.Proofs.Ytakbhnfmimnbhaa.Rn
