/- RingApart, walked: for every input it answers true. Conditions: none. -/
import Derived.Test.YtbnkanlfepdlkaaOkRingApart
import Derived.Test.YtbnkanlfepdlkaaRing9
namespace Go.Proofs.Ytbnkanlfepdlkaa.ringApartW
open Go.RowKit Go.Proofs.Ytbnkanlfepdlkaa.PRingApart Go.Proofs.YtbnkanlfepdlkaaW.PrintWords Go.Proofs.YtbnkanlfepdlkaaW.PrintLast Go.Proofs.YtbnkanlfepdlkaaW.PrintMore Ap Rg
set_option linter.unusedSimpArgs false
set_option linter.unusedVariables false

set_option maxHeartbeats 3000000 in
set_option maxRecDepth 100000 in
theorem walk (a0_0 : Int) (A0_1 : Option Addr) (c0_1 : Nat) (l0_1 : List (S48)) (A0_2 : Option Addr) (c0_2 : Nat) (l0_2 : List (S48)) (A0_3 : Option Addr) (c0_3 : Nat) (l0_3 : List (S48)) (w : World) (hr0_1 : Kd.C k48 w A0_1 l0_1.length l0_1) (hc0_1 : l0_1.length ≤ c0_1) (hr0_2 : Kd.C k48 w A0_2 l0_2.length l0_2) (hc0_2 : l0_2.length ≤ c0_2) (hr0_3 : Kd.C k48 w A0_3 l0_3.length l0_3) (hc0_3 : l0_3.length ≤ c0_3) (w0_0 : (fun x => (Lit.int .u8 x).wf = true) a0_0) (w0_1 : (fun l => (∀ a ∈ l, (ok48) a) ∧ l.length * 16 ≤ 140737488351232) l0_1) (w0_2 : (fun l => (∀ a ∈ l, (ok48) a) ∧ l.length * 16 ≤ 140737488351232) l0_2) (w0_3 : (fun l => (∀ a ∈ l, (ok48) a) ∧ l.length * 16 ≤ 140737488351232) l0_3) :
    Calls Try.prog 8 #[.agg #[.int .u8 a0_0, .slice A0_1 l0_1.length c0_1, .slice A0_2 l0_2.length c0_2, .slice A0_3 l0_3.length c0_3]] w fun e w' => e = .returned (.bool true) ∧ Below w.heap.size w w' := by
  have hu := u8_range w0_0
  have hm0 : 0 ≤ a0_0 % 12 ∧ a0_0 % 12 < 12 := ⟨Int.emod_nonneg _ (by decide), Int.emod_lt_of_pos _ (by decide)⟩
  obtain ⟨c, hc⟩ : ∃ c : Nat, (c : Int) = a0_0 % 12 := ⟨(a0_0 % 12).toNat, by omega⟩
  have hc2 : (c : Int) = min (max (c : Int) 0) 4096 := by omega
  have hX : (w.alloc (.cells #[.int .u8 a0_0, .slice A0_1 l0_1.length c0_1, .slice A0_2 l0_2.length c0_2, .slice A0_3 l0_3.length c0_3] 56)).heap[w.heap.size]? = some (.cells #[.int .u8 a0_0, .slice A0_1 l0_1.length c0_1, .slice A0_2 l0_2.length c0_2, .slice A0_3 l0_3.length c0_3] 56 (0, 0)) := heap_alloc_new w _
  have hB : Below w.heap.size w (w.alloc (.cells #[.int .u8 a0_0, .slice A0_1 l0_1.length c0_1, .slice A0_2 l0_2.length c0_2, .slice A0_3 l0_3.length c0_3] 56)) := below_alloc (Below.refl _ _) _
  generalize hW : w.alloc (.cells #[.int .u8 a0_0, .slice A0_1 l0_1.length c0_1, .slice A0_2 l0_2.length c0_2, .slice A0_3 l0_3.length c0_3] 56) = W1 at hX hB
  have q0 : W1.cell? ⟨w.heap.size, 0, none⟩ = some (.int .u8 a0_0) := (blk_cell hX 0).trans rfl
  have q1 : W1.cell? ⟨w.heap.size, 1, none⟩ = some (.slice A0_1 l0_1.length c0_1) := (blk_cell hX 1).trans rfl
  have q2 : W1.cell? ⟨w.heap.size, 2, none⟩ = some (.slice A0_2 l0_2.length c0_2) := (blk_cell hX 2).trans rfl
  have q3 : W1.cell? ⟨w.heap.size, 3, none⟩ = some (.slice A0_3 l0_3.length c0_3) := (blk_cell hX 3).trans rfl
  have hN := fun W => row_new W (c : Int) c hc2
  have t3 : a0_0 % 12 = (c : Int) := hc.symm
  have t2 : a0_0.tmod 12 = (c : Int) := by rw [hc, Int.tmod_eq_emod_of_nonneg hu.1]
  have hcr : (c : Int) ≤ 11 := by omega
  clear hc hc2 hm0
  go_enter Try.func8, Try.ntmps8
  go_wp2
  clear hW
  go_quiet (fail)
  go_wp2_with (go_at_call 24; refine (hN _).mono ?_; rintro e wa ⟨g, b, rfl, hB0', hR0, hg', hb'⟩; have hB0 := Below.trans (pw_below_drewN hB nq) (below_mono hB0' hB.size); have hg := Nat.le_trans hB.size hg'; have hb := Nat.le_trans hB.size hb')
  go_loopg [8, 9] 30 (fun d v8 v9 w' => ∃ (i : Nat) (l : List Int), d + i = 30 ∧ v9 = .int .i64 (i : Int) ∧ Below w.heap.size w w' ∧ Row w' g b c [] c l ∧ Own w' v8 l ∧ (∀ k, v8.ownBlock = some k → ¬ two g b k) ∧ l.length ≤ i)
  case atStart =>
    obtain ⟨l1', l2'⟩ := hR0.lt
    refine ⟨0, [], by omega, rfl, below_alloc hB0 _, hR0.below (below_alloc (Below.refl _ _) _), own_zero (own_new wa wa.heap.size 3 .i64 (Nat.le_refl _)) rfl, ?_, by simp⟩
    intro k hk
    have hk : wa.heap.size = k := by simpa [Value.ownBlock] using hk
    rintro (q | q) <;> omega
  case round =>
    obtain ⟨i, l, hd, rfl, HB, HR, HO, hap, hli⟩ := hrel
    have hl8 : l.length ≤ 8192 := by omega
    by_cases c1 : i < l0_1.length ∧ i < 30
    · skip
      have d1 : decide ((i : Int) < (l0_1.length : Int)) = true := decide_eq_true (by omega)
      have d2 : decide ((i : Int) < 30) = true := decide_eq_true (by omega)
      obtain ⟨ad, rfl, y0, y1⟩ := at_T48 hr0_1 (i : Int) (by omega) (by omega)
      have p1 : (0 ≤ (i : Int)) = True := eq_true (by omega)
      have p2 : ((i : Int) < (l0_1.length : Int)) = True := eq_true (by omega)
      have ht : (i : Int).toNat = i := rfl
      rw [ht] at y0 y1
      have b0 := World.block_lt_of_cell? _ _ y0
      have b1 := World.block_lt_of_cell? _ _ y1
      generalize rd_T48 l0_1 (i : Int) = x at y0 y1
      obtain ⟨kd, x⟩ := x
      have x0 := (HB.cell b0).trans y0
      have x1 := (HB.cell b1).trans y1
      have hD := do_any HR kd x
      have hF := fun W (h : Own W u8 l) => refdo_any (W := W) (l := l) h hl8 (c : Int) kd x
      have hlen := refDo_len l (c : Int) kd x
      generalize refDo l (c : Int) kd x = r at hD hF hlen
      obtain ⟨l', y, ok⟩ := r
      go_wp2_with (first
        | (go_at_call 31; refine hD.mono ?_; rintro e w2 ⟨rfl, hC, hR2⟩; have hB2 := chg_below HB hC hg hb; have hO2 := HO.kept hC (fun k hk q => hap k hk (id q)); have z0 := (hB2.cell b0).trans y0; have z1 := (hB2.cell b1).trans y1)
        | (go_at_call 32; refine (hF _ hO2).mono ?_; rintro e w3 ⟨v3, rfl, hB3, hO3, hap3⟩))
      cases gk with
      | zero => omega
      | succ d =>
        go_roundg d
        case measure => omega
        case rel =>
          obtain ⟨lg, lb⟩ := hR2.lt
          refine ⟨i + 1, l', by omega, by simp, Below.trans hB2 (below_mono hB3 hB2.size), hR2.below hB3, hO3, ?_, by omega⟩
          intro k hk
          rcases hap3 with q | q
          · exact hap k (by rw [← q]; exact hk)
          · have q := q k hk
            rintro (q' | q') <;> omega
    · have hcond : (decide ((i : Int) < (l0_1.length : Int)) = false ∧ decide (i < l0_1.length) = false ∧ ¬ i < l0_1.length) ∨ decide ((i : Int) < (l0_1.length : Int)) = true ∧ decide (i < l0_1.length) = true ∧ i < l0_1.length ∧ decide ((i : Int) < 30) = false ∧ decide (i < 30) = false := by
        by_cases q : i < l0_1.length
        · exact .inr ⟨decide_eq_true (by omega), decide_eq_true q, q, decide_eq_false (by omega), decide_eq_false (by omega)⟩
        · exact .inl ⟨decide_eq_false (by omega), decide_eq_false q, q⟩
      have hK := row_clone HR
      have hli0 : l.length ≤ 30 := by omega
      generalize hlp : l = lp at hK HR HO hli0
      generalize u8 = mv at *
      rcases hcond with ⟨d1, d3, d5⟩ | ⟨d1, d3, d5, d2, d4⟩
      all_goals
        go_wp2_with (first
          | (go_at_call 36; refine hK.mono ?_; rintro e wc ⟨g', b', c', ex', rfl, hBc, hRc, hgc, hbc⟩))
        all_goals first | (exfalso; omega) | skip
        obtain ⟨k1, k2⟩ := HR.lt
        have hB1' := Below.trans HB (below_mono hBc HB.size)
        have HR1' := HR.below hBc
        have HO1' := HO.below hBc
        have hg1 := Nat.le_trans HB.size hgc
        have hb1 := Nat.le_trans HB.size hbc
        have hapc : ∀ k, mv.ownBlock = some k → ¬ (two g b k ∨ two g' b' k) := by
          intro k hk
          have hlt := own_lt HO k hk
          rintro (q | q | q)
          · exact hap k hk q
          · omega
          · omega
        have hapc0 := hapc
        have hnb : ¬ two g b g' ∧ ¬ two g b b' := ⟨by rintro (q | q) <;> omega, by rintro (q | q) <;> omega⟩
        have hnc : ¬ two g' b' g ∧ ¬ two g' b' b := ⟨by rintro (q | q) <;> omega, by rintro (q | q) <;> omega⟩
        clear hap hK hd hli hl8 c1
        go_loopg [8, 15] 30 (fun d v8 v15 w' => ∃ (i : Nat) (l : List Int), d + i = 30 ∧ v15 = .int .i64 (i : Int) ∧ Below w.heap.size w w' ∧ Row w' g b c [] c l ∧ Own w' v8 l ∧ (∀ k, v8.ownBlock = some k → ¬ (two g b k ∨ two g' b' k)) ∧ l.length ≤ i + 30 ∧ Row w' g' b' c' ex' c lp ∧ Own w' mv lp)
        case atStart => exact ⟨0, lp, by omega, rfl, hB1', HR1', HO1', hapc, by omega, hRc, HO1'⟩
        case round =>
          clear HB HR HO hBc hRc hB1' HR1' HO1' hapc
          obtain ⟨i, l, hd, rfl, HB, HR, HO, hap, hli, HRp, HOp⟩ := hrel
          have hl8 : l.length ≤ 8192 := by omega
          have hapc := hapc0
          by_cases c1 : i < l0_2.length ∧ i < 30
          · skip
            have d1 : decide ((i : Int) < (l0_2.length : Int)) = true := decide_eq_true (by omega)
            have d2 : decide ((i : Int) < 30) = true := decide_eq_true (by omega)
            obtain ⟨ad, rfl, y0, y1⟩ := at_T48 hr0_2 (i : Int) (by omega) (by omega)
            have p1 : (0 ≤ (i : Int)) = True := eq_true (by omega)
            have p2 : ((i : Int) < (l0_2.length : Int)) = True := eq_true (by omega)
            have ht : (i : Int).toNat = i := rfl
            rw [ht] at y0 y1
            have b0 := World.block_lt_of_cell? _ _ y0
            have b1 := World.block_lt_of_cell? _ _ y1
            generalize rd_T48 l0_2 (i : Int) = x at y0 y1
            obtain ⟨kd, x⟩ := x
            have x0 := (HB.cell b0).trans y0
            have x1 := (HB.cell b1).trans y1
            have hD := do_any HR kd x
            have hF := fun W (h : Own W u8 l) => refdo_any (W := W) (l := l) h hl8 (c : Int) kd x
            have hlen := refDo_len l (c : Int) kd x
            generalize refDo l (c : Int) kd x = r at hD hF hlen
            obtain ⟨l', y, ok⟩ := r
            go_wp2_with (first
              | (go_at_call 31; refine hD.mono ?_; rintro e w2 ⟨rfl, hC, hR2⟩; have hB2 := chg_below HB hC hg hb; have hO2 := HO.kept hC (fun k hk q => hap k hk (.inl q)); have z0 := (hB2.cell b0).trans y0; have z1 := (hB2.cell b1).trans y1)
              | (go_at_call 32; refine (hF _ hO2).mono ?_; rintro e w3 ⟨v3, rfl, hB3, hO3, hap3⟩))
            cases gk with
            | zero => omega
            | succ d =>
              go_roundg d
              case measure => omega
              case rel =>
                obtain ⟨lg, lb⟩ := hR2.lt
                have hsz := hC.size
                refine ⟨i + 1, l', by omega, by simp, Below.trans hB2 (below_mono hB3 hB2.size), hR2.below hB3, hO3, ?_, by omega, (HRp.kept hC (fun q => hnb.1 q) (fun q => hnb.2 q)).below hB3, (HOp.kept hC (fun k hk q => hapc k hk (.inl q))).below hB3⟩
                intro k hk
                rcases hap3 with q | q
                · exact hap k (by rw [← q]; exact hk)
                · have q := q k hk
                  obtain ⟨m1, m2⟩ := HRp.lt
                  rintro ((q' | q') | (q' | q')) <;> omega
          · have hcond : (decide ((i : Int) < (l0_2.length : Int)) = false ∧ decide (i < l0_2.length) = false ∧ ¬ i < l0_2.length) ∨ decide ((i : Int) < (l0_2.length : Int)) = true ∧ decide (i < l0_2.length) = true ∧ i < l0_2.length ∧ decide ((i : Int) < 30) = false ∧ decide (i < 30) = false := by
              by_cases q : i < l0_2.length
              · exact .inr ⟨decide_eq_true (by omega), decide_eq_true q, q, decide_eq_false (by omega), decide_eq_false (by omega)⟩
              · exact .inl ⟨decide_eq_false (by omega), decide_eq_false q, q⟩
            have hlm0 : l.length ≤ 60 := by omega
            generalize hlm : l = lm at HR HO hlm0
            generalize u8 = mb at *
            rcases hcond with ⟨d1, d3, d5⟩ | ⟨d1, d3, d5, d2, d4⟩
            all_goals
              go_wp2
              all_goals first | (exfalso; omega) | skip
              clear hd hli hl8 c1
              go_loopg [14, 19] 30 (fun d v14 v19 w' => ∃ (i : Nat) (l : List Int), d + i = 30 ∧ v19 = .int .i64 (i : Int) ∧ Below w.heap.size w w' ∧ Row w' g' b' c' ex' c l ∧ Own w' v14 l ∧ (∀ k, v14.ownBlock = some k → ¬ (two g b k ∨ two g' b' k)) ∧ l.length ≤ i + 30 ∧ Row w' g b c [] c lm ∧ Own w' mb lm)
              case atStart => exact ⟨0, lp, by omega, rfl, HB, HRp, HOp, hapc, by omega, HR, HO⟩
              case round =>
                clear HB HR HO HRp HOp
                have hapm := hap
                obtain ⟨i, l, hd, rfl, HB, HR, HO, hap, hli, HRm, HOm⟩ := hrel
                have hl8 : l.length ≤ 8192 := by omega
                by_cases c1 : i < l0_3.length ∧ i < 30
                · skip
                  have d1 : decide ((i : Int) < (l0_3.length : Int)) = true := decide_eq_true (by omega)
                  have d2 : decide ((i : Int) < 30) = true := decide_eq_true (by omega)
                  obtain ⟨ad, rfl, y0, y1⟩ := at_T48 hr0_3 (i : Int) (by omega) (by omega)
                  have p1 : (0 ≤ (i : Int)) = True := eq_true (by omega)
                  have p2 : ((i : Int) < (l0_3.length : Int)) = True := eq_true (by omega)
                  have ht : (i : Int).toNat = i := rfl
                  rw [ht] at y0 y1
                  have b0 := World.block_lt_of_cell? _ _ y0
                  have b1 := World.block_lt_of_cell? _ _ y1
                  generalize rd_T48 l0_3 (i : Int) = x at y0 y1
                  obtain ⟨kd, x⟩ := x
                  have x0 := (HB.cell b0).trans y0
                  have x1 := (HB.cell b1).trans y1
                  have hD := do_any HR kd x
                  have hF := fun W (h : Own W u14 l) => refdo_any (W := W) (l := l) h hl8 (c : Int) kd x
                  have hlen := refDo_len l (c : Int) kd x
                  generalize refDo l (c : Int) kd x = r at hD hF hlen
                  obtain ⟨l', y, ok⟩ := r
                  go_wp2_with (first
                    | (go_at_call 31; refine hD.mono ?_; rintro e w2 ⟨rfl, hC, hR2⟩; have hB2 := chg_below HB hC hg1 hb1; have hO2 := HO.kept hC (fun k hk q => hap k hk (.inr q)); have z0 := (hB2.cell b0).trans y0; have z1 := (hB2.cell b1).trans y1)
                    | (go_at_call 32; refine (hF _ hO2).mono ?_; rintro e w3 ⟨v3, rfl, hB3, hO3, hap3⟩))
                  cases gk with
                  | zero => omega
                  | succ d =>
                    go_roundg d
                    case measure => omega
                    case rel =>
                      obtain ⟨lg, lb⟩ := hR2.lt
                      have hsz := hC.size
                      refine ⟨i + 1, l', by omega, by simp, Below.trans hB2 (below_mono hB3 hB2.size), hR2.below hB3, hO3, ?_, by omega, (HRm.kept hC (fun q => hnc.1 q) (fun q => hnc.2 q)).below hB3, (HOm.kept hC (fun k hk q => hapm k hk (.inr q))).below hB3⟩
                      intro k hk
                      rcases hap3 with q | q
                      · exact hap k (by rw [← q]; exact hk)
                      · have q := q k hk
                        obtain ⟨m1, m2⟩ := HRm.lt
                        rintro ((q' | q') | (q' | q')) <;> omega
                · have hcond : (decide ((i : Int) < (l0_3.length : Int)) = false ∧ decide (i < l0_3.length) = false ∧ ¬ i < l0_3.length) ∨ decide ((i : Int) < (l0_3.length : Int)) = true ∧ decide (i < l0_3.length) = true ∧ i < l0_3.length ∧ decide ((i : Int) < 30) = false ∧ decide (i < 30) = false := by
                    by_cases q : i < l0_3.length
                    · exact .inr ⟨decide_eq_true (by omega), decide_eq_true q, q, decide_eq_false (by omega), decide_eq_false (by omega)⟩
                    · exact .inl ⟨decide_eq_false (by omega), decide_eq_false q, q⟩
                  have e1 : ∀ w' : World, Below w.heap.size w w' → Calls Try.prog 30 #[] w' fun e w'' => e = .returned (.bool true) ∧ Below w.heap.size w w'' := fun w' h => (lives_any w').mono fun e w'' ⟨q1, q2⟩ => ⟨q1, Below.trans h (below_mono q2 h.size)⟩
                  obtain ⟨Am, cm, rfl, hRm⟩ := own_reads HOm
                  obtain ⟨Ap, cp, rfl, hRp⟩ := own_reads HO
                  rcases hcond with ⟨d1, d3, d5⟩ | ⟨d1, d3, d5, d2, d4⟩
                  all_goals
                    go_wp2_with (first
                      | (go_at_call 35; with_reducible refine (row_all HRm).mono ?_; rintro e w5 ⟨v5, rfl, hB5, hO5⟩; obtain ⟨A5, c5, rfl, hRd5⟩ := own_reads hO5; have hRm5 := hRm.below hB5; have hRp5 := hRp.below hB5; have HR5 := HR.below hB5; have hC5 := Below.trans HB (below_mono hB5 HB.size); clear HRm)
                      | (go_at_call 34; with_reducible refine (same_any hRd5 hRm5).mono ?_; rintro e w' ⟨rfl, k6, rfl⟩; clear hRm5)
                      | (go_at_call 35; with_reducible refine (row_all (HR5.drewN k6)).mono ?_; rintro e w7 ⟨v7, rfl, hB7, hO7⟩; obtain ⟨A7, c7, rfl, hRd7⟩ := own_reads hO7; have hRp7 := (hRp5.drewN k6).below hB7; have hC7 := Below.trans (pw_below_drewN hC5 k6) (below_mono hB7 (pw_below_drewN hC5 k6).size))
                      | (go_at_call 34; with_reducible refine (same_any hRd7 hRp7).mono ?_; rintro e w' ⟨rfl, k8, rfl⟩)
                      | (go_at_call 30; with_reducible refine (e1 _ (pw_below_drewN hC7 k8)).mono ?_; rintro e w' ⟨rfl, hB9⟩))
                    all_goals first | (exfalso; omega) | skip
                    all_goals go_ret
                    all_goals exact ⟨rfl, hB9⟩
end Go.Proofs.Ytbnkanlfepdlkaa.ringApartW
