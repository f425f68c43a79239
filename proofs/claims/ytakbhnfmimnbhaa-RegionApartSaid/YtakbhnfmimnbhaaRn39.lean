/- RegionPlays: the walk. Conditions: none. -/
import Derived.Test.YtakbhnfmimnbhaaRn38
import Derived.Test.YtakbhnfmimnbhaaRn18
import Derived.Test.YtakbhnfmimnbhaaRn11
namespace Go.Proofs.Ytakbhnfmimnbhaa.Rn
open Go.RowKit Go.Proofs.YtakbhnfmimnbhaaW.PrintWords Go.Proofs.YtakbhnfmimnbhaaW.PrintLast Go.Proofs.YtakbhnfmimnbhaaW.PrintMore
set_option linter.unusedVariables false
set_option linter.unusedSimpArgs false

theorem cellB3 {w W : World} {b n c i : Nat} {ad : Addr} {l : List (Int × Int × Int)} {k o m : Int} (hb : Below w.heap.size w W) (h : T3 w b (.slice (some ad) n c) l) (hi : l[i]? = some (k, o, m)) : W.cell? (ad.add (i * 3)) = some (.int .i64 k) ∧ W.cell? ⟨(ad.add (i * 3)).block, (ad.add (i * 3)).off + 1, none⟩ = some (.int .i64 o) ∧ W.cell? ⟨(ad.add (i * 3)).block, (ad.add (i * 3)).off + 2, none⟩ = some (.int .i64 m) := by
  obtain ⟨ad', e, h1, h2, h3⟩ := t3_at (h.below hb) hi
  injection e with e
  subst e
  exact ⟨h1, h2, h3⟩
theorem same_pd {w W : World} {R : Nat → Prop} {g gx i n cf cu cg : Nat} {A : La} {Af Au Ag : Option Addr} {is : List Int} (hs : Sx w W R g A) (hp : Pd W R gx (.slice Af n cf) Au Ag cu cg A) (hfr : RdC W Af n 27 (nums .i64 is)) (hf : A.fx = nums .i64 is ∧ A.n = n) (hg : GI i A) (hcf : n ≤ cf) : Calls Try.prog 23 #[.pointer (some ⟨g, 0, none⟩), .agg #[.slice Af n cf, .int .i64 A.nm, .int .i64 A.ab, .slice Au A.u.length cu, .slice Ag A.go.length cg]] W fun e w' => e = .returned (.bool true) ∧ Below W.heap.size W w' := by
  obtain ⟨S, vf, vu, vg, hl⟩ := hs.lg
  exact same_any hl hp.xr hfr hf.1 hf.2.symm hg hcf
set_option maxHeartbeats 16000000 in
set_option maxRecDepth 100000 in
theorem plays_any {W : World} {A1 A2 : Option Addr} {n c1 c2 : Nat} {is : List Int} (nm : Int) {l1 : List S69} (hr : RdC W A1 n 27 (nums .i64 is)) (hn : n ≤ 1000000000000) (hc : n ≤ c1) (hr2 : Kd.C k69 W A2 l1.length l1) (hl1 : l1.length ≤ 10000000000000) : Calls Try.prog 5 #[.slice A1 n c1, .int .i64 nm, .slice A2 l1.length c2] W fun e w' => e = .returned (.bool true) ∧ Below W.heap.size W w' := by
  have hu59 := Try.underlying59
  have hu60 := Try.underlying60
  have hu64 := Try.underlying64
  have hu69 := Try.underlying69
  have hu24 := Try.underlying24
  have HGD := Aside0.mk (good_any (c := c1) hr hn)
  by_cases hgo : goodB n is = true
  · have hn100 : n ≤ 100 := by
      unfold goodB at hgo
      simp only [Bool.and_eq_true, decide_eq_true_eq] at hgo
      exact hgo.2
    rw [hgo] at HGD
    have HR0 := Aside0.mk hr
    have HC1 := Aside0.mk hc
    have HN := Aside0.mk (show n ≤ 100000 by omega)
    have HFEW := Aside0.mk (few_any (c := c2) hr2 hl1)
    clear hr hn hc hr2 hl1 hgo hn100
    go_enter Try.func5, Try.ntmps5
    go_upto_region 4 with (first
      | (go_at_call 20; (refine HGD.out.mono ?_); rintro e w0 ⟨rfl, rfl⟩)
      | (go_at_call 21; (refine HFEW.out.mono ?_); rintro e w1 ⟨A2, c2, l, rfl, h1, h2, h3, h4⟩; have HT3 := Aside0.mk h1; have HL50 := Aside0.mk h2; have HOKS := Aside0.mk h3; have B1 := Aside0.mk h4; clear h1 h2 h3 h4))
    have HFR := Aside0.mk (rdc_below HR0.out B1.out)
    obtain ⟨m, hm⟩ : ∃ m, m = l.length := ⟨_, rfl⟩
    rw [← hm] at HT3 HL50 ⊢
    have HM := Aside0.mk hm
    clear hm HFEW HGD
    obtain ⟨A9, c9, w9, hrn, hown, hbl⟩ := fr_copy (c := c1) HFR.out (nums_one _) HN.out
    have O9 := Aside0.mk hown
    have B9 := Aside0.mk hbl
    clear hown hbl
    have HBG := Aside0.mk (begin_any (c := c9) (own_rdw O9.out) (nums_one _) HN.out nm)
    go_upto_region 5 with (first
      | (at_builtin; refine list_run rfl (.tmp 16) (.tmp 17) 59 59 rfl _ _ (.slice A9 n c9) rfl rfl hrn ?_)
      | (go_at_call 9; (refine HBG.out.mono ?_); rintro e w2 ⟨g, rfl, h1, h2⟩; have L2 := Aside0.mk h1; have B2 := Aside0.mk h2; clear h1 h2)
      | (go_at_call 22; (refine (rbegin_any w2 A1 n c1 nm).mono ?_); rintro e w3 ⟨rfl, h1⟩; have B3 := Aside0.mk h1; clear h1)
      | ((with_reducible refine gate_dst (N := 8) rfl ?_); refine box_event ?hg (N := 8) ?hd (cs := #[.slice none 0 0, .int .i64 0, .int .i64 0, .slice none 0 0, .slice none 0 0]) (t := 64) ?hr ?_; (case hd => rfl); (case hg => rfl); (case hr => first | (go_simp; done) | (go_simp; rfl)); intro gx hg4 w4 hbox hb; have B4 := Aside0.mk hb; have X4 := Aside0.mk hbox; have G4 := Aside0.mk hg4; clear hbox hb hg4)
      | (refine wpList_store_row rfl 64 (.tmp 8) (.tmp 23) rfl gx _ rfl rfl 64 _ X4.out info64s rfl (row64_one rfl rfl rfl) ?_))
    obtain ⟨A, hA⟩ : ∃ A : La, A = ⟨n, nums .i64 is, nm, 0, [], []⟩ := ⟨_, rfl⟩
    have HB24 := Aside0.mk (below_step B3.out B4.out)
    have HGX := Aside0.mk (show w2.heap.size ≤ gx from by rw [G4.out]; exact B3.out.size)
    have HS0 : Sx w1 w2 (fun k => k = gx) g A := by
      rw [hA]
      exact sx_new L2.out B9.out.size (fun k q hk => absurd hk (by rw [q]; have := HGX.out; omega))
    have HB2 := Aside0.mk (B9.out.trans (B2.out.mono B9.out.size))
    have HSD := Aside0.mk (show Sx w1 (w4.setRow gx #[.slice A1 n c1, .int .i64 nm, .int .i64 0, .slice none 0 0, .slice none 0 0]) (fun k => k = gx) g A from HS0.below (below_row HB24.out HGX.out _))
    have HBD := Aside0.mk (show Below w1.heap.size w1 (w4.setRow gx #[.slice A1 n c1, .int .i64 nm, .int .i64 0, .slice none 0 0, .slice none 0 0]) from HB2.out.trans ((below_row HB24.out HGX.out _).mono HB2.out.size))
    have HPD := Aside0.mk (show Pd (w4.setRow gx #[.slice A1 n c1, .int .i64 nm, .int .i64 0, .slice none 0 0, .slice none 0 0]) (fun k => k = gx) gx (.slice A1 n c1) none none 0 0 A from by
      rw [hA]
      exact ⟨setRow_heap _ _ _ _ _ _ X4.out, rfl, xr_new _ _ _ _ _, fun k hk => by
        rw [hk, show (w4.setRow gx #[.slice A1 n c1, .int .i64 nm, .int .i64 0, .slice none 0 0, .slice none 0 0]).heap.size = w4.heap.size by simp [World.setRow]]
        exact blk_lt X4.out⟩)
    have HG := Aside0.mk (show GI 0 A from by rw [hA]; exact gi_new _ _ _ HN.out)
    have HPO := Aside0.mk (show Pos A.go from by rw [hA]; exact fun q hq => by cases hq)
    have HFX := Aside0.mk (show A.fx = nums .i64 is ∧ A.n = n from by rw [hA]; exact ⟨rfl, rfl⟩)
    have HGX1 := Aside0.mk (show w1.heap.size ≤ gx from Nat.le_trans HB2.out.size HGX.out)
    clear hA L2 B2 B3 B4 X4 G4 HB24 HGX HS0 HB2 O9 B9 HBG hrn
    generalize w4.setRow gx #[.slice A1 n c1, .int .i64 nm, .int .i64 0, .slice none 0 0, .slice none 0 0] = w5 at *
    have HSM := Aside0.mk (same_pd HSD.out HPD.out (rdc_below HFR.out HBD.out) HFX.out HG.out HC1.out)
    have c0 := (blk_cell HPD.out.row 0).trans rfl
    have c1' := (blk_cell HPD.out.row 1).trans rfl
    have c2' := (blk_cell HPD.out.row 2).trans rfl
    have c3' := (blk_cell HPD.out.row 3).trans rfl
    have c4' := (blk_cell HPD.out.row 4).trans rfl
    go_upto_block 0 with (go_at_call 23; (refine HSM.out.mono ?_); rintro e w6 ⟨rfl, h⟩; have B6 := Aside0.mk h; clear h)
    have S6 := Aside0.mk (HSD.out.below B6.out)
    have P6 := Aside0.mk (HPD.out.below B6.out)
    have B7 := Aside0.mk (HBD.out.trans (B6.out.mono HBD.out.size))
    clear c0 c1' c2' c3' c4' HSM HSD HBD HPD B6
    go_wp2
    go_loopg [7, 9] m (fun kq v7 v9 w' => ∃ (i g : Nat) (A : La) (Au Ag : Option Addr) (cu cg : Nat) (R : Nat → Prop), v7 = .pointer (some ⟨g, 0, none⟩) ∧ v9 = .int .i64 (i : Int) ∧ Aside0 (i + kq = m) ∧ Aside0 (Sx w1 w' R g A) ∧ Aside0 (Below w1.heap.size w1 w') ∧ Aside0 (Pd w' R gx (.slice A1 n c1) Au Ag cu cg A) ∧ Aside0 (GI i A) ∧ Aside0 (Pos A.go) ∧ Aside0 (A.fx = nums .i64 is ∧ A.n = n))
    case atStart => exact ⟨0, g, A, none, none, 0, 0, _, rfl, rfl, ⟨by omega⟩, S6, B7, P6, HG, HPO, HFX⟩
    case round =>
      clear S6 P6 B7 HG HPO HFX
      obtain ⟨i, g, A, Au, Ag, cu, cg, R, rfl, rfl, HK, HSD, HBD, HPD, HG, HPO, HFX⟩ := hrel
      by_cases hi : i < m
      · rcases gk with _ | k1
        · exact absurd hi (by have := HK.out; omega)
        have d1 : decide ((i : Int) < (m : Int)) = true := decide_eq_true (by omega)
        have d2 : decide (i < m) = true := decide_eq_true hi
        have p1 : (0 ≤ (i : Int)) = True := eq_true (by omega)
        have p2 : ((i : Int) < (m : Int)) = True := eq_true (by omega)
        obtain ⟨⟨KK, O, N⟩, ht⟩ : ∃ t, l[i]? = some t := ⟨_, List.getElem?_eq_getElem (by rw [← HM.out]; exact hi)⟩
        have HTI := Aside0.mk ht
        have HOK := Aside0.mk (show (-1099511627776 ≤ O ∧ O ≤ 1099511627776) ∧ (-1099511627776 ≤ N ∧ N ≤ 1099511627776) from HOKS.out _ (List.mem_of_getElem? ht))
        have HI50 := Aside0.mk (show i < 50 from by have := HL50.out; have := HM.out; omega)
        obtain ⟨ad, ea, _⟩ := t3_at HT3.out ht
        subst ea
        have ew : Aside0 (wrap64 ((i : Int) + 1) = (i : Int) + 1) := ⟨by have h2 := HI50.out; unfold wrap64; omega⟩
        clear hi ht
        go_upto_region 10 with (fail)
        have HSDd := Aside0.mk (show Sx w1 wr.drew R g A from HSD.out.below (below_drew (Below.refl _ _)))
        have HBDd := Aside0.mk (show Below w1.heap.size w1 wr.drew from below_drew HBD.out)
        have HPDd := Aside0.mk (show Pd wr.drew R gx (.slice A1 n c1) Au Ag cu cg A from HPD.out.below (below_drew (Below.refl _ _)))
        refine start_ (n := 14) (S := fun w' => w'.cell? (ad.add (i * 3)) = some (.int .i64 KK) ∧ w'.cell? ⟨(ad.add (i * 3)).block, (ad.add (i * 3)).off + 1, none⟩ = some (.int .i64 O) ∧ w'.cell? ⟨(ad.add (i * 3)).block, (ad.add (i * 3)).off + 2, none⟩ = some (.int .i64 N) ∧ w'.heap[gx]? = some (.cells #[.slice A1 n c1, .int .i64 A.nm, .int .i64 A.ab, .slice Au A.u.length cu, .slice Ag A.go.length cg] 64 (0, 0))) (ds := [13]) #[false, false, false, false, false, false, false, false, false, false, false, false, false, false] (by kernel_rfl) rfl rfl ⟨(cellB3 HBDd.out HT3.out HTI.out).1, (cellB3 HBDd.out HT3.out HTI.out).2.1, (cellB3 HBDd.out HT3.out HTI.out).2.2, HPDd.out.row⟩ (fun hHeld => ?_)
        refine pure_ (i := 0) (N := some 38) (v := ?_) (a' := ?_) #[true, false, false, false, false, false, false, false, false, false, false, false, false, false] rfl rfl (by kernel_rfl) (fun _ _ _ h => h) (Or.inl ⟨by rfl, ?_⟩) ?_ ?_
        rotate_left
        · intro w'
          go_simp
          with_reducible rfl
        rotate_left
        · simp only [Act.put, List.setIfInBounds_toArray, List.set_cons_zero, List.set_cons_succ, i64_w, i32_w]
          rfl
        refine pure_ (i := 1) (N := some 39) (v := ?_) (a' := ?_) #[true, true, false, false, false, false, false, false, false, false, false, false, false, false] rfl rfl (by kernel_rfl) (fun _ _ _ h => h) (Or.inl ⟨by rfl, ?_⟩) ?_ ?_
        rotate_left
        · intro w'
          go_simp
          with_reducible rfl
        rotate_left
        · simp only [Act.put, List.setIfInBounds_toArray, List.set_cons_zero, List.set_cons_succ, i64_w, i32_w]
          rfl
        refine pure_ (i := 2) (N := some 40) (v := ?_) (a' := ?_) #[true, true, true, false, false, false, false, false, false, false, false, false, false, false] rfl rfl (by kernel_rfl) (fun _ _ _ h => h) (Or.inl ⟨by rfl, ?_⟩) ?_ ?_
        rotate_left
        · intro w'
          go_simp
          with_reducible rfl
        rotate_left
        · simp only [Act.put, List.setIfInBounds_toArray, List.set_cons_zero, List.set_cons_succ, i64_w, i32_w]
          rfl
        refine pure_ (i := 3) (N := some 41) (v := ?_) (a' := ?_) #[true, true, true, true, false, false, false, false, false, false, false, false, false, false] rfl rfl (by kernel_rfl) (fun _ _ _ h => h) (Or.inl ⟨by rfl, ?_⟩) ?_ ?_
        rotate_left
        · intro w'
          go_simp
          with_reducible rfl
        rotate_left
        · simp only [Act.put, List.setIfInBounds_toArray, List.set_cons_zero, List.set_cons_succ, i64_w, i32_w]
          rfl
        refine pure_ (i := 7) (N := some 45) (v := ?_) (a' := ?_) #[true, true, true, true, false, false, false, true, false, false, false, false, false, false] rfl rfl (by kernel_rfl) (fun _ _ _ h => h) (Or.inl ⟨by rfl, ?_⟩) ?_ ?_
        rotate_left
        · intro w'
          go_simp
          with_reducible rfl
        rotate_left
        · simp only [Act.put, List.setIfInBounds_toArray, List.set_cons_zero, List.set_cons_succ, i64_w, i32_w]
          rfl
        refine pure_ (i := 8) (N := some 46) (v := ?_) (a' := ?_) #[true, true, true, true, false, false, false, true, true, false, false, false, false, false] rfl rfl (by kernel_rfl) (fun _ _ _ h => h) (Or.inl ⟨by rfl, ?_⟩) ?_ ?_
        rotate_left
        · intro w'
          go_simp
          with_reducible rfl
        rotate_left
        · simp only [Act.put, List.setIfInBounds_toArray, List.set_cons_zero, List.set_cons_succ, i64_w, i32_w]
          rfl
        refine pure_ (i := 9) (N := some 47) (v := ?_) (a' := ?_) #[true, true, true, true, false, false, false, true, true, true, false, false, false, false] rfl rfl (by kernel_rfl) (fun _ _ _ h => h) (Or.inl ⟨by rfl, ?_⟩) ?_ ?_
        rotate_left
        · intro w'
          go_simp
          with_reducible rfl
        rotate_left
        · simp only [Act.put, List.setIfInBounds_toArray, List.set_cons_zero, List.set_cons_succ, i64_w, i32_w]
          rfl
        refine take_ (i := 4) (N := some 42) (v := ?_) (a' := ?_) #[true, true, true, true, true, false, false, true, true, true, false, false, false, false] rfl rfl (by kernel_rfl) (fun _ _ _ h => h) (Or.inl ⟨by rfl, ?_⟩) hHeld ?_ ?_
        rotate_left
        · rintro w' ⟨s0, s1, s2, s3⟩
          go_simp
          with_reducible rfl
        rotate_left
        · simp only [Act.put, List.setIfInBounds_toArray, List.set_cons_zero, List.set_cons_succ, i64_w, i32_w]
          rfl
        refine take_ (i := 6) (N := some 44) (v := ?_) (a' := ?_) #[true, true, true, true, true, false, true, true, true, true, false, false, false, false] rfl rfl (by kernel_rfl) (fun _ _ _ h => h) (Or.inl ⟨by rfl, ?_⟩) hHeld ?_ ?_
        rotate_left
        · rintro w' ⟨s0, s1, s2, s3⟩
          (refine ex_load64 (x := .tmp 8) ?_ ?_ s3 <;> first | (simp [Act.eval, Act.put]; done) | rfl)
        rotate_left
        · simp only [Act.put, List.setIfInBounds_toArray, List.set_cons_zero, List.set_cons_succ, i64_w, i32_w]
          rfl
        refine take_ (i := 10) (N := some 48) (v := ?_) (a' := ?_) #[true, true, true, true, true, false, true, true, true, true, true, false, false, false] rfl rfl (by kernel_rfl) (fun _ _ _ h => h) (Or.inl ⟨by rfl, ?_⟩) hHeld ?_ ?_
        rotate_left
        · rintro w' ⟨s0, s1, s2, s3⟩
          go_simp
          with_reducible rfl
        rotate_left
        · simp only [Act.put, List.setIfInBounds_toArray, List.set_cons_zero, List.set_cons_succ, i64_w, i32_w]
          rfl
        refine one_ (i := 5) (N := some 43) #[true, true, true, true, true, true, true, true, true, true, true, false, false, false] rfl rfl (by kernel_rfl) (by decide) (fun K hK => ?_)
        refine goes_ Try.func24 (by kernel_rfl) rfl #[.pointer (some ⟨g, 0, none⟩), .agg #[.int .i64 KK, .int .i64 O, .int .i64 N]] (by rfl) rfl rfl (by simp only [List.map_toArray, List.map_cons, List.map_nil]; rfl) ?_
        with_reducible refine (sx_do HSDd.out HBDd.out HPDd.out.lt HG.out HOK.out.1 HOK.out.2.2).mono ?_
        rintro e w5 ⟨g5, rfl, h1, h2, h3, h4⟩
        refine ⟨_, rfl, ?_⟩
        have S5 := Aside0.mk h1
        have B5 := Aside0.mk h2
        have P5 := Aside0.mk (HPDd.out.kept h3 h4)
        have HXV := Aside0.mk (show Xv (fun k => R k ∨ w5.heap.size ≤ k) w5 (.slice A1 n c1) (.agg #[.slice A1 n c1, .int .i64 A.nm, .int .i64 A.ab, .slice Au A.u.length cu, .slice Ag A.go.length cg]) A from ⟨Au, Ag, cu, cg, rfl, ⟨P5.out.xr.pu, P5.out.xr.pg, fun k hk => .inl (P5.out.xr.tu k hk), fun k hk => .inl (P5.out.xr.tg k hk)⟩⟩)
        clear h1 h2 h3 h4
        refine hK.out _ _ ⟨(cellB3 B5.out HT3.out HTI.out).1, (cellB3 B5.out HT3.out HTI.out).2.1, (cellB3 B5.out HT3.out HTI.out).2.2, P5.out.row⟩ (fun hHeld => ?_)
        clear hK K
        refine norm_ (a' := ?_) ?_ ?_
        rotate_left
        · show Act.put _ (some 43) _ = _
          simp only [Act.put, List.setIfInBounds_toArray, List.set_cons_zero, List.set_cons_succ, i64_w, i32_w]
          rfl
        refine one_ (i := 11) (N := some 49) #[true, true, true, true, true, true, true, true, true, true, true, true, false, false] rfl rfl (by kernel_rfl) (by decide) (fun K hK => ?_)
        refine goes_ Try.func25 (by kernel_rfl) rfl #[.agg #[.slice A1 n c1, .int .i64 A.nm, .int .i64 A.ab, .slice Au A.u.length cu, .slice Ag A.go.length cg], .agg #[.int .i64 KK, .int .i64 O, .int .i64 N]] (by rfl) rfl rfl (by simp only [List.map_toArray, List.map_cons, List.map_nil]; rfl) ?_
        with_reducible refine (rdo_any HXV.out HG.out HPO.out (fun j hj => .inr hj) HOK.out.2).mono ?_
        rintro e w6 ⟨x6, rfl, ⟨Au6, Ag6, cu6, cg6, rfl, h1⟩, h2⟩
        refine ⟨_, rfl, ?_⟩
        have X6 := Aside0.mk h1
        have B6 := Aside0.mk h2
        have P6 := Aside0.mk (P5.out.below h2)
        clear h1 h2
        refine hK.out _ _ ⟨(cellB3 (B5.out.trans (B6.out.mono B5.out.size)) HT3.out HTI.out).1, (cellB3 (B5.out.trans (B6.out.mono B5.out.size)) HT3.out HTI.out).2.1, (cellB3 (B5.out.trans (B6.out.mono B5.out.size)) HT3.out HTI.out).2.2, P6.out.row⟩ (fun hHeld => ?_)
        clear hK K
        refine norm_ (a' := ?_) ?_ ?_
        rotate_left
        · show Act.put _ (some 49) _ = _
          simp only [Act.put, List.setIfInBounds_toArray, List.set_cons_zero, List.set_cons_succ, i64_w, i32_w]
          rfl
        refine pure_ (i := 12) (N := some 7) (v := ?_) (a' := ?_) #[true, true, true, true, true, true, true, true, true, true, true, true, true, false] rfl rfl (by kernel_rfl) (fun _ _ _ h => h) (Or.inl ⟨by rfl, ?_⟩) ?_ ?_
        rotate_left
        · intro w'
          go_simp
          with_reducible rfl
        rotate_left
        · simp only [Act.put, List.setIfInBounds_toArray, List.set_cons_zero, List.set_cons_succ, i64_w, i32_w]
          rfl
        refine last_ (i := 13) (N := none) #[true, true, true, true, true, true, true, true, true, true, true, true, true, true] rfl rfl (by kernel_rfl) (by decide) (fun K hK => ?_)
        refine skip_ (w1 := _) (by rfl) rfl (ex_store64 (u0 := .slice A1 n c1) (u1 := (doL A KK O N).nm) (u2 := (doL A KK O N).ab) (u3 := .slice Au6 (doL A KK O N).u.length cu6) (u4 := .slice Ag6 (doL A KK O N).go.length cg6) (x := .tmp 8) (y := .tmp 49) rfl (by simp [Act.eval, Act.put]) (by simp [Act.eval, Act.put]) P6.out.row rfl rfl rfl) ?_
        refine hK.out _ _ ?_
        clear hK K
        refine done_ (by kernel_rfl) ?_
        clear d1 d2 p1 p2
        have S7 := Aside0.mk (show Sx w1 (w6.setRow gx #[.slice A1 n c1, .int .i64 (doL A KK O N).nm, .int .i64 (doL A KK O N).ab, .slice Au6 (doL A KK O N).u.length cu6, .slice Ag6 (doL A KK O N).go.length cg6]) (fun k => (R k ∨ w5.heap.size ≤ k) ∧ k < w6.heap.size) g5 (doL A KK O N) from S5.out.next P5.out.rx B6.out)
        have P7 := Aside0.mk (show Pd (w6.setRow gx #[.slice A1 n c1, .int .i64 (doL A KK O N).nm, .int .i64 (doL A KK O N).ab, .slice Au6 (doL A KK O N).u.length cu6, .slice Ag6 (doL A KK O N).go.length cg6]) (fun k => (R k ∨ w5.heap.size ≤ k) ∧ k < w6.heap.size) gx (.slice A1 n c1) Au6 Ag6 cu6 cg6 (doL A KK O N) from P5.out.next B6.out X6.out)
        have B7 := Aside0.mk (show Below w1.heap.size w1 (w6.setRow gx #[.slice A1 n c1, .int .i64 (doL A KK O N).nm, .int .i64 (doL A KK O N).ab, .slice Au6 (doL A KK O N).u.length cu6, .slice Ag6 (doL A KK O N).go.length cg6]) from below_row (B5.out.trans (B6.out.mono B5.out.size)) HGX1.out _)
        have G7 := Aside0.mk (HG.out.step (k := KK) (by have := HI50.out; omega) HOK.out.1 HOK.out.2)
        have PO7 := Aside0.mk (pos_do HG.out HPO.out KK O N)
        have FX7 := Aside0.mk (show (doL A KK O N).fx = nums .i64 is ∧ (doL A KK O N).n = n from ⟨(fx_do KK O N).1.trans HFX.out.1, (fx_do KK O N).2.trans HFX.out.2⟩)
        clear HSD HBD HPD HSDd HBDd HPDd HG HPO HFX S5 B5 P5 X6 B6 P6 HTI HOK
        generalize w6.setRow gx #[.slice A1 n c1, .int .i64 (doL A KK O N).nm, .int .i64 (doL A KK O N).ab, .slice Au6 (doL A KK O N).u.length cu6, .slice Ag6 (doL A KK O N).go.length cg6] = w7 at *
        generalize doL A KK O N = A7 at *
        have HSM := Aside0.mk (same_pd S7.out P7.out (rdc_below HFR.out B7.out) FX7.out G7.out HC1.out)
        have c0 := (blk_cell P7.out.row 0).trans rfl
        have c1' := (blk_cell P7.out.row 1).trans rfl
        have c2' := (blk_cell P7.out.row 2).trans rfl
        have c3' := (blk_cell P7.out.row 3).trans rfl
        have c4' := (blk_cell P7.out.row 4).trans rfl
        go_wp2_with (go_at_call 23; (refine HSM.out.mono ?_); rintro e w8 ⟨rfl, h⟩; have B8 := Aside0.mk h; clear h)
        go_roundg k1
        case measure => omega
        case rel => exact ⟨i + 1, g5, A7, Au6, Ag6, cu6, cg6, _, rfl, by rw [ew.out]; simp, ⟨by have := HK.out; omega⟩, ⟨S7.out.below B8.out⟩, ⟨B7.out.trans (B8.out.mono B7.out.size)⟩, ⟨P7.out.below B8.out⟩, G7, PO7, FX7⟩
      · have d1 : decide ((i : Int) < (m : Int)) = false := decide_eq_false (by omega)
        have d2 : decide (i < m) = false := decide_eq_false hi
        have HBF := Aside0.mk (below_step B1.out HBD.out)
        clear hi
        go_wp2_with (go_at_call 12; (refine (lives_any _).mono ?_); rintro e w9 ⟨rfl, h1⟩; have B9 := Aside0.mk h1; clear h1)
        go_ret
        exact ⟨rfl, below_step HBF.out B9.out⟩
  · rw [Bool.not_eq_true] at hgo
    rw [hgo] at HGD
    clear hr hn hc hr2 hl1 hgo
    go_enter Try.func5, Try.ntmps5
    go_wp2_with (first
      | (go_at_call 20; (refine HGD.out.mono ?_); rintro e w0 ⟨rfl, rfl⟩)
      | (go_at_call 12; (refine (lives_any _).mono ?_); rintro e w1 ⟨rfl, h1⟩; have B1 := Aside0.mk h1; clear h1))
    go_ret
    exact ⟨rfl, B1.out⟩
end Go.Proofs.Ytakbhnfmimnbhaa.Rn
