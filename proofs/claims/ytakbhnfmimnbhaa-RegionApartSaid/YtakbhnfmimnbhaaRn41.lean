/- Calls on a log that is not there; a clone kept apart. Conditions: none. -/
import Derived.Test.YtakbhnfmimnbhaaRn39
namespace Go.Proofs.Ytakbhnfmimnbhaa.Rn
open Go.RowKit Go.Proofs.YtakbhnfmimnbhaaW.PrintWords Go.Proofs.YtakbhnfmimnbhaaW.PrintLast Go.Proofs.YtakbhnfmimnbhaaW.PrintMore
set_option linter.unusedVariables false
set_option linter.unusedSimpArgs false

theorem wrote_nil (W : World) : Calls Try.prog 10 #[.pointer none, .int .i64 1, .int .i64 1] W fun e w' => e = .returned (.tuple #[]) ∧ w' = W := by
  go_enter Try.func10, Try.ntmps10
  go_wp2
  refine bodyPost_end (results_none rfl _ _ _) rfl ?_
  exact ⟨rfl, rfl⟩
theorem got_nil (W : World) : Calls Try.prog 27 #[.pointer none, .int .i64 1, .int .i64 1] W fun e w' => e = .returned (.tuple #[]) ∧ w' = W := by
  go_enter Try.func27, Try.ntmps27
  go_wp2
  refine bodyPost_ret (results_none rfl _ _ _) rfl ?_
  exact ⟨rfl, rfl⟩
theorem lost_nil_ (W : World) : Calls Try.prog 28 #[.pointer none, .int .i64 1, .int .i64 1] W fun e w' => e = .returned (.tuple #[]) ∧ w' = W := by
  go_enter Try.func28, Try.ntmps28
  go_wp2
  refine bodyPost_ret (results_none rfl _ _ _) rfl ?_
  exact ⟨rfl, rfl⟩
theorem undo_nil (W : World) : Calls Try.prog 11 #[.pointer none] W fun e w' => e = .returned (.slice none 0 0) ∧ w' = W := by
  go_enter Try.func11, Try.ntmps11
  go_wp2
  go_ret
  exact ⟨rfl, rfl⟩
theorem held_nil (W : World) : Calls Try.prog 29 #[.pointer none] W fun e w' => e = .returned (.slice none 0 0) ∧ w' = W := by
  go_enter Try.func29, Try.ntmps29
  go_wp2
  go_ret
  exact ⟨rfl, rfl⟩
theorem frames_nil (W : World) : Calls Try.prog 30 #[.pointer none] W fun e w' => e = .returned (.slice none 0 0) ∧ w' = W := by
  go_enter Try.func30, Try.ntmps30
  go_wp2
  go_ret
  exact ⟨rfl, rfl⟩
theorem number_nil (W : World) : Calls Try.prog 31 #[.pointer none] W fun e w' => e = .returned (.int .i64 0) ∧ w' = W := by
  go_enter Try.func31, Try.ntmps31
  go_wp2
  go_ret
  exact ⟨rfl, rfl⟩
theorem aborts_nil (W : World) : Calls Try.prog 32 #[.pointer none] W fun e w' => e = .returned (.int .i64 0) ∧ w' = W := by
  go_enter Try.func32, Try.ntmps32
  go_wp2
  go_ret
  exact ⟨rfl, rfl⟩
theorem again_nil (W : World) : Calls Try.prog 33 #[.pointer none, .int .i64 1] W fun e w' => e = .returned (.pointer none) ∧ w' = W := by
  go_enter Try.func33, Try.ntmps33
  go_wp2
  go_ret
  exact ⟨rfl, rfl⟩
theorem lclone_nil (W : World) : Calls Try.prog 26 #[.pointer none] W fun e w' => e = .returned (.pointer none) ∧ w' = W := by
  go_enter Try.func26, Try.ntmps26
  go_wp2
  go_ret
  exact ⟨rfl, rfl⟩
section
variable {w W W' : World} {R R' : Nat → Prop} {g gx : Nat} {A Ax : La} {Au Ag : Option Addr} {cu cg : Nat} {vf : Value}
theorem log_move {S : Nat → Prop} (h : Log S W g A) (hm : ∀ k, S k → W'.heap[k]? = W.heap[k]?) : Log S W' g A := by
  obtain ⟨vf, vu, vg, hl⟩ := h
  exact ⟨vf, vu, vg, (hm g hl.s.1).trans hl.hg, own_move hl.fr (fun k hk => hm k (hl.s.2.2.2 k hk)), hl.f1, own_move hl.un (fun k hk => hm k (hl.s.2.1 k hk)), own_move hl.gt (fun k hk => hm k (hl.s.2.2.1 k hk)), hl.ap, hl.s⟩
theorem Sx.more {w2 : World} (h : Sx w W R g A) (hb : Below W.heap.size W w2) : Sx w w2 (fun k => (R k ∨ W.heap.size ≤ k) ∧ k < w2.heap.size) g A := by
  obtain ⟨S, hl, hs⟩ := h
  refine ⟨S, hl.below hb, fun k hk => ⟨(hs k hk).1, Nat.lt_of_lt_of_le (hs k hk).2.1 hb.size, ?_⟩⟩
  rintro ⟨q | q, _⟩
  · exact (hs k hk).2.2 q
  · have := (hs k hk).2.1
    omega
theorem Pd.more {w2 : World} (h : Pd W R gx vf Au Ag cu cg A) (hb : Below W.heap.size W w2) : Pd w2 (fun k => (R k ∨ W.heap.size ≤ k) ∧ k < w2.heap.size) gx vf Au Ag cu cg A := by
  have h2 := h.below hb
  exact ⟨h2.row, ⟨.inl h2.rx, h2.lt gx h2.rx⟩, ⟨h2.xr.pu, h2.xr.pg, fun k hk => ⟨.inl (h2.xr.tu k hk), h2.lt k (h2.xr.tu k hk)⟩, fun k hk => ⟨.inl (h2.xr.tg k hk), h2.lt k (h2.xr.tg k hk)⟩⟩, fun k hk => hk.2⟩
/-- The clone's log: its blocks are among R. -/
theorem log_more {w2 : World} (h : Log (fun k => W.heap.size ≤ k) w2 g A) : Log (fun k => (R k ∨ W.heap.size ≤ k) ∧ k < w2.heap.size) w2 g A := by
  obtain ⟨vf, vu, vg, hl⟩ := h
  exact ⟨vf, vu, vg, hl.cut.mono fun k hk => ⟨.inr hk.1, hk.2⟩⟩
theorem same_log {S : Nat → Prop} {i n cf : Nat} {Af : Option Addr} {is : List Int} (hl : Log S W g A) (hp : Pd W R gx (.slice Af n cf) Au Ag cu cg A) (hfr : RdC W Af n 27 (nums .i64 is)) (hf : A.fx = nums .i64 is ∧ A.n = n) (hg : GI i A) (hcf : n ≤ cf) : Calls Try.prog 23 #[.pointer (some ⟨g, 0, none⟩), .agg #[.slice Af n cf, .int .i64 A.nm, .int .i64 A.ab, .slice Au A.u.length cu, .slice Ag A.go.length cg]] W fun e w' => e = .returned (.bool true) ∧ Below W.heap.size W w' := by
  obtain ⟨vf, vu, vg, hl⟩ := hl
  exact same_any hl hp.xr hfr hf.1 hf.2.symm hg hcf
theorem Sx.clone {i : Nat} (h : Sx w W R g A) (hg : GI i A) : Calls Try.prog 26 #[.pointer (some ⟨g, 0, none⟩)] W fun e w' => ∃ g', e = .returned (.pointer (some ⟨g', 0, none⟩)) ∧ Log (fun k => W.heap.size ≤ k) w' g' A ∧ Below W.heap.size W w' := by
  obtain ⟨S, vf, vu, vg, hl⟩ := h.lg
  exact lclone_any hl ⟨by have h1 := hg.ul; have h2 := hg.i50; omega, by have h1 := hg.gl; have h2 := hg.i50; omega⟩ hg.an
end
end Go.Proofs.Ytakbhnfmimnbhaa.Rn
namespace Go.Proofs.Ytakbhnfmimnbhaa.Rn
open Go.RowKit Go.Proofs.YtakbhnfmimnbhaaW.PrintWords Go.Proofs.YtakbhnfmimnbhaaW.PrintLast Go.Proofs.YtakbhnfmimnbhaaW.PrintMore
set_option linter.unusedVariables false
set_option linter.unusedSimpArgs false

set_option maxHeartbeats 16000000 in
set_option maxRecDepth 100000 in
theorem apart_any {W : World} {A1 Aa Ab : Option Addr} {n c1 ca cb : Nat} {is : List Int} {la lb : List S69} (hr : RdC W A1 n 27 (nums .i64 is)) (hn : n ≤ 1000000000000) (hc : n ≤ c1) (hra : Kd.C k69 W Aa la.length la) (hla : la.length ≤ 10000000000000) (hrb : Kd.C k69 W Ab lb.length lb) (hlb : lb.length ≤ 10000000000000) : Calls Try.prog 6 #[.slice A1 n c1, .slice Aa la.length ca, .slice Ab lb.length cb] W fun e w' => e = .returned (.bool true) ∧ Below W.heap.size W w' := by
  have hu59 := Try.underlying59
  have hu60 := Try.underlying60
  have hu64 := Try.underlying64
  have hu69 := Try.underlying69
  have hu24 := Try.underlying24
  have HGD := Aside0.mk (good_any (c := c1) hr hn)
  by_cases hgo : goodB n is = true
  · have hn100 : n ≤ 100 := by
      unfold goodB at hgo
      simp only [Bool.and_eq_true, decide_eq_true_eq] at hgo
      exact hgo.2
    rw [hgo] at HGD
    have HR0 := Aside0.mk hr
    have HC1 := Aside0.mk hc
    have HN := Aside0.mk (show n ≤ 100000 by omega)
    have HFEW := Aside0.mk (few_any (c := ca) hra hla)
    have HRB := Aside0.mk hrb
    have HLB := Aside0.mk hlb
    clear hr hn hc hra hla hrb hlb hgo hn100
    go_enter Try.func6, Try.ntmps6
    go_upto_region 4 with (first
      | (go_at_call 20; (refine HGD.out.mono ?_); rintro e w0 ⟨rfl, rfl⟩)
      | (go_at_call 21; (with_reducible refine HFEW.out.mono ?_); rintro e wq ⟨A2, c2, l, rfl, h1, h2, h3, h4⟩; have HT0 := Aside0.mk h1; have HL50 := Aside0.mk h2; have HOKS := Aside0.mk h3; have B0 := Aside0.mk h4; have HFB := Aside0.mk (few_any (c := cb) (Kd.C_below HRB.out h4) HLB.out); clear h1 h2 h3 h4)
      | (go_at_call 21; (with_reducible refine HFB.out.mono ?_); rintro e w1 ⟨A3, c3, lz, rfl, h1, h2, h3, h4⟩; have HT3 := Aside0.mk (HT0.out.below h4); have HTZ := Aside0.mk h1; have HZ50 := Aside0.mk h2; have HOKZ := Aside0.mk h3; have B1 := Aside0.mk (below_step B0.out h4); clear h1 h2 h3 h4))
    have HFR := Aside0.mk (rdc_below HR0.out B1.out)
    obtain ⟨m, hm⟩ : ∃ m, m = l.length := ⟨_, rfl⟩
    rw [← hm] at HT3 HL50 ⊢
    have HM := Aside0.mk hm
    obtain ⟨mz, hmz⟩ : ∃ mz, mz = lz.length := ⟨_, rfl⟩
    rw [← hmz] at HTZ HZ50 ⊢
    have HMZ := Aside0.mk hmz
    clear hm hmz HFEW HGD HT0 B0 HFB HRB HLB
    obtain ⟨A9, c9, w9, hrn, hown, hbl⟩ := fr_copy (c := c1) HFR.out (nums_one _) HN.out
    have O9 := Aside0.mk hown
    have B9 := Aside0.mk hbl
    clear hown hbl
    have HBG := Aside0.mk (begin_any (c := c9) (own_rdw O9.out) (nums_one _) HN.out 9)
    go_upto_region 5 with (first
      | (at_builtin; refine list_run rfl (.tmp 21) (.tmp 22) 59 59 rfl _ _ (.slice A9 n c9) rfl rfl hrn ?_)
      | (go_at_call 9; (refine HBG.out.mono ?_); rintro e w2 ⟨g, rfl, h1, h2⟩; have L2 := Aside0.mk h1; have B2 := Aside0.mk h2; clear h1 h2)
      | (go_at_call 22; (refine (rbegin_any w2 A1 n c1 9).mono ?_); rintro e w3 ⟨rfl, h1⟩; have B3 := Aside0.mk h1; clear h1)
      | ((with_reducible refine gate_dst (N := 8) rfl ?_); refine box_event ?hg (N := 8) ?hd (cs := #[.slice none 0 0, .int .i64 0, .int .i64 0, .slice none 0 0, .slice none 0 0]) (t := 64) ?hr ?_; (case hd => rfl); (case hg => rfl); (case hr => first | (go_simp; done) | (go_simp; rfl)); intro gx hg4 w4 hbox hb; have B4 := Aside0.mk hb; have X4 := Aside0.mk hbox; have G4 := Aside0.mk hg4; clear hbox hb hg4)
      | (refine wpList_store_row rfl 64 (.tmp 8) (.tmp 26) rfl gx _ rfl rfl 64 _ X4.out info64s rfl (row64_one rfl rfl rfl) ?_))
    obtain ⟨A, hA⟩ : ∃ A : La, A = ⟨n, nums .i64 is, 9, 0, [], []⟩ := ⟨_, rfl⟩
    have HB24 := Aside0.mk (below_step B3.out B4.out)
    have HGX := Aside0.mk (show w2.heap.size ≤ gx from by rw [G4.out]; exact B3.out.size)
    have HS0 : Sx w1 w2 (fun k => k = gx) g A := by
      rw [hA]
      exact sx_new L2.out B9.out.size (fun k q hk => absurd hk (by rw [q]; have := HGX.out; omega))
    have HB2 := Aside0.mk (B9.out.trans (B2.out.mono B9.out.size))
    have HSD := Aside0.mk (show Sx w1 (w4.setRow gx #[.slice A1 n c1, .int .i64 9, .int .i64 0, .slice none 0 0, .slice none 0 0]) (fun k => k = gx) g A from HS0.below (below_row HB24.out HGX.out _))
    have HBD := Aside0.mk (show Below w1.heap.size w1 (w4.setRow gx #[.slice A1 n c1, .int .i64 9, .int .i64 0, .slice none 0 0, .slice none 0 0]) from HB2.out.trans ((below_row HB24.out HGX.out _).mono HB2.out.size))
    have HPD := Aside0.mk (show Pd (w4.setRow gx #[.slice A1 n c1, .int .i64 9, .int .i64 0, .slice none 0 0, .slice none 0 0]) (fun k => k = gx) gx (.slice A1 n c1) none none 0 0 A from by
      rw [hA]
      exact ⟨setRow_heap _ _ _ _ _ _ X4.out, rfl, xr_new _ _ _ _ _, fun k hk => by
        rw [hk, show (w4.setRow gx #[.slice A1 n c1, .int .i64 9, .int .i64 0, .slice none 0 0, .slice none 0 0]).heap.size = w4.heap.size by simp [World.setRow]]
        exact blk_lt X4.out⟩)
    have HG := Aside0.mk (show GI 0 A from by rw [hA]; exact gi_new _ _ _ HN.out)
    have HPO := Aside0.mk (show Pos A.go from by rw [hA]; exact fun q hq => by cases hq)
    have HFX := Aside0.mk (show A.fx = nums .i64 is ∧ A.n = n from by rw [hA]; exact ⟨rfl, rfl⟩)
    have HGX1 := Aside0.mk (show w1.heap.size ≤ gx from Nat.le_trans HB2.out.size HGX.out)
    clear hA L2 B2 B3 B4 X4 G4 HB24 HGX HS0 HB2 O9 B9 HBG hrn
    generalize w4.setRow gx #[.slice A1 n c1, .int .i64 9, .int .i64 0, .slice none 0 0, .slice none 0 0] = w5 at *
    go_wp2
    go_loopg [7, 9] m (fun kq v7 v9 w' => ∃ (i g : Nat) (A : La) (Au Ag : Option Addr) (cu cg : Nat) (R : Nat → Prop), v7 = .pointer (some ⟨g, 0, none⟩) ∧ v9 = .int .i64 (i : Int) ∧ Aside0 (i + kq = m) ∧ Aside0 (Sx w1 w' R g A) ∧ Aside0 (Below w1.heap.size w1 w') ∧ Aside0 (Pd w' R gx (.slice A1 n c1) Au Ag cu cg A) ∧ Aside0 (GI i A) ∧ Aside0 (Pos A.go) ∧ Aside0 (A.fx = nums .i64 is ∧ A.n = n))
    case atStart => exact ⟨0, g, A, none, none, 0, 0, _, rfl, rfl, ⟨by omega⟩, HSD, HBD, HPD, HG, HPO, HFX⟩
    case round =>
      clear HSD HBD HPD HG HPO HFX
      obtain ⟨i, g, A, Au, Ag, cu, cg, R, rfl, rfl, HK, HSD, HBD, HPD, HG, HPO, HFX⟩ := hrel
      by_cases hi : i < m
      · rcases gk with _ | k1
        · exact absurd hi (by have := HK.out; omega)
        have d1 : decide ((i : Int) < (m : Int)) = true := decide_eq_true (by omega)
        have d2 : decide (i < m) = true := decide_eq_true hi
        have p1 : (0 ≤ (i : Int)) = True := eq_true (by omega)
        have p2 : ((i : Int) < (m : Int)) = True := eq_true (by omega)
        obtain ⟨⟨KK, O, N⟩, ht⟩ : ∃ t, l[i]? = some t := ⟨_, List.getElem?_eq_getElem (by rw [← HM.out]; exact hi)⟩
        have HTI := Aside0.mk ht
        have HOK := Aside0.mk (show (-1099511627776 ≤ O ∧ O ≤ 1099511627776) ∧ (-1099511627776 ≤ N ∧ N ≤ 1099511627776) from HOKS.out _ (List.mem_of_getElem? ht))
        have HI50 := Aside0.mk (show i < 50 from by have := HL50.out; have := HM.out; omega)
        obtain ⟨ad, ea, _⟩ := t3_at HT3.out ht
        subst ea
        have ew : Aside0 (wrap64 ((i : Int) + 1) = (i : Int) + 1) := ⟨by have h2 := HI50.out; unfold wrap64; omega⟩
        clear hi ht
        go_upto_region 8 with (fail)
        have HSDd := Aside0.mk (show Sx w1 wr.drew R g A from HSD.out.below (below_drew (Below.refl _ _)))
        have HBDd := Aside0.mk (show Below w1.heap.size w1 wr.drew from below_drew HBD.out)
        have HPDd := Aside0.mk (show Pd wr.drew R gx (.slice A1 n c1) Au Ag cu cg A from HPD.out.below (below_drew (Below.refl _ _)))
        refine start_ (n := 14) (S := fun w' => w'.cell? (ad.add (i * 3)) = some (.int .i64 KK) ∧ w'.cell? ⟨(ad.add (i * 3)).block, (ad.add (i * 3)).off + 1, none⟩ = some (.int .i64 O) ∧ w'.cell? ⟨(ad.add (i * 3)).block, (ad.add (i * 3)).off + 2, none⟩ = some (.int .i64 N) ∧ w'.heap[gx]? = some (.cells #[.slice A1 n c1, .int .i64 A.nm, .int .i64 A.ab, .slice Au A.u.length cu, .slice Ag A.go.length cg] 64 (0, 0))) (ds := [13]) #[false, false, false, false, false, false, false, false, false, false, false, false, false, false] (by kernel_rfl) rfl rfl ⟨(cellB3 HBDd.out HT3.out HTI.out).1, (cellB3 HBDd.out HT3.out HTI.out).2.1, (cellB3 HBDd.out HT3.out HTI.out).2.2, HPDd.out.row⟩ (fun hHeld => ?_)
        refine pure_ (i := 0) (N := some 33) (v := ?_) (a' := ?_) #[true, false, false, false, false, false, false, false, false, false, false, false, false, false] rfl rfl (by kernel_rfl) (fun _ _ _ h => h) (Or.inl ⟨by rfl, ?_⟩) ?_ ?_
        rotate_left
        · intro w'
          go_simp
          with_reducible rfl
        rotate_left
        · simp only [Act.put, List.setIfInBounds_toArray, List.set_cons_zero, List.set_cons_succ, i64_w, i32_w]
          rfl
        refine pure_ (i := 1) (N := some 34) (v := ?_) (a' := ?_) #[true, true, false, false, false, false, false, false, false, false, false, false, false, false] rfl rfl (by kernel_rfl) (fun _ _ _ h => h) (Or.inl ⟨by rfl, ?_⟩) ?_ ?_
        rotate_left
        · intro w'
          go_simp
          with_reducible rfl
        rotate_left
        · simp only [Act.put, List.setIfInBounds_toArray, List.set_cons_zero, List.set_cons_succ, i64_w, i32_w]
          rfl
        refine pure_ (i := 2) (N := some 35) (v := ?_) (a' := ?_) #[true, true, true, false, false, false, false, false, false, false, false, false, false, false] rfl rfl (by kernel_rfl) (fun _ _ _ h => h) (Or.inl ⟨by rfl, ?_⟩) ?_ ?_
        rotate_left
        · intro w'
          go_simp
          with_reducible rfl
        rotate_left
        · simp only [Act.put, List.setIfInBounds_toArray, List.set_cons_zero, List.set_cons_succ, i64_w, i32_w]
          rfl
        refine pure_ (i := 3) (N := some 36) (v := ?_) (a' := ?_) #[true, true, true, true, false, false, false, false, false, false, false, false, false, false] rfl rfl (by kernel_rfl) (fun _ _ _ h => h) (Or.inl ⟨by rfl, ?_⟩) ?_ ?_
        rotate_left
        · intro w'
          go_simp
          with_reducible rfl
        rotate_left
        · simp only [Act.put, List.setIfInBounds_toArray, List.set_cons_zero, List.set_cons_succ, i64_w, i32_w]
          rfl
        refine pure_ (i := 7) (N := some 40) (v := ?_) (a' := ?_) #[true, true, true, true, false, false, false, true, false, false, false, false, false, false] rfl rfl (by kernel_rfl) (fun _ _ _ h => h) (Or.inl ⟨by rfl, ?_⟩) ?_ ?_
        rotate_left
        · intro w'
          go_simp
          with_reducible rfl
        rotate_left
        · simp only [Act.put, List.setIfInBounds_toArray, List.set_cons_zero, List.set_cons_succ, i64_w, i32_w]
          rfl
        refine pure_ (i := 8) (N := some 41) (v := ?_) (a' := ?_) #[true, true, true, true, false, false, false, true, true, false, false, false, false, false] rfl rfl (by kernel_rfl) (fun _ _ _ h => h) (Or.inl ⟨by rfl, ?_⟩) ?_ ?_
        rotate_left
        · intro w'
          go_simp
          with_reducible rfl
        rotate_left
        · simp only [Act.put, List.setIfInBounds_toArray, List.set_cons_zero, List.set_cons_succ, i64_w, i32_w]
          rfl
        refine pure_ (i := 9) (N := some 42) (v := ?_) (a' := ?_) #[true, true, true, true, false, false, false, true, true, true, false, false, false, false] rfl rfl (by kernel_rfl) (fun _ _ _ h => h) (Or.inl ⟨by rfl, ?_⟩) ?_ ?_
        rotate_left
        · intro w'
          go_simp
          with_reducible rfl
        rotate_left
        · simp only [Act.put, List.setIfInBounds_toArray, List.set_cons_zero, List.set_cons_succ, i64_w, i32_w]
          rfl
        refine take_ (i := 4) (N := some 37) (v := ?_) (a' := ?_) #[true, true, true, true, true, false, false, true, true, true, false, false, false, false] rfl rfl (by kernel_rfl) (fun _ _ _ h => h) (Or.inl ⟨by rfl, ?_⟩) hHeld ?_ ?_
        rotate_left
        · rintro w' ⟨s0, s1, s2, s3⟩
          go_simp
          with_reducible rfl
        rotate_left
        · simp only [Act.put, List.setIfInBounds_toArray, List.set_cons_zero, List.set_cons_succ, i64_w, i32_w]
          rfl
        refine take_ (i := 6) (N := some 39) (v := ?_) (a' := ?_) #[true, true, true, true, true, false, true, true, true, true, false, false, false, false] rfl rfl (by kernel_rfl) (fun _ _ _ h => h) (Or.inl ⟨by rfl, ?_⟩) hHeld ?_ ?_
        rotate_left
        · rintro w' ⟨s0, s1, s2, s3⟩
          (refine ex_load64 (x := .tmp 8) ?_ ?_ s3 <;> first | (simp [Act.eval, Act.put]; done) | rfl)
        rotate_left
        · simp only [Act.put, List.setIfInBounds_toArray, List.set_cons_zero, List.set_cons_succ, i64_w, i32_w]
          rfl
        refine take_ (i := 10) (N := some 43) (v := ?_) (a' := ?_) #[true, true, true, true, true, false, true, true, true, true, true, false, false, false] rfl rfl (by kernel_rfl) (fun _ _ _ h => h) (Or.inl ⟨by rfl, ?_⟩) hHeld ?_ ?_
        rotate_left
        · rintro w' ⟨s0, s1, s2, s3⟩
          go_simp
          with_reducible rfl
        rotate_left
        · simp only [Act.put, List.setIfInBounds_toArray, List.set_cons_zero, List.set_cons_succ, i64_w, i32_w]
          rfl
        refine one_ (i := 5) (N := some 38) #[true, true, true, true, true, true, true, true, true, true, true, false, false, false] rfl rfl (by kernel_rfl) (by decide) (fun K hK => ?_)
        refine goes_ Try.func24 (by kernel_rfl) rfl #[.pointer (some ⟨g, 0, none⟩), .agg #[.int .i64 KK, .int .i64 O, .int .i64 N]] (by rfl) rfl rfl (by simp only [List.map_toArray, List.map_cons, List.map_nil]; rfl) ?_
        with_reducible refine (sx_do HSDd.out HBDd.out HPDd.out.lt HG.out HOK.out.1 HOK.out.2.2).mono ?_
        rintro e w5 ⟨g5, rfl, h1, h2, h3, h4⟩
        refine ⟨_, rfl, ?_⟩
        have S5 := Aside0.mk h1
        have B5 := Aside0.mk h2
        have P5 := Aside0.mk (HPDd.out.kept h3 h4)
        have HXV := Aside0.mk (show Xv (fun k => R k ∨ w5.heap.size ≤ k) w5 (.slice A1 n c1) (.agg #[.slice A1 n c1, .int .i64 A.nm, .int .i64 A.ab, .slice Au A.u.length cu, .slice Ag A.go.length cg]) A from ⟨Au, Ag, cu, cg, rfl, ⟨P5.out.xr.pu, P5.out.xr.pg, fun k hk => .inl (P5.out.xr.tu k hk), fun k hk => .inl (P5.out.xr.tg k hk)⟩⟩)
        clear h1 h2 h3 h4
        refine hK.out _ _ ⟨(cellB3 B5.out HT3.out HTI.out).1, (cellB3 B5.out HT3.out HTI.out).2.1, (cellB3 B5.out HT3.out HTI.out).2.2, P5.out.row⟩ (fun hHeld => ?_)
        clear hK K
        refine norm_ (a' := ?_) ?_ ?_
        rotate_left
        · show Act.put _ (some 38) _ = _
          simp only [Act.put, List.setIfInBounds_toArray, List.set_cons_zero, List.set_cons_succ, i64_w, i32_w]
          rfl
        refine one_ (i := 11) (N := some 44) #[true, true, true, true, true, true, true, true, true, true, true, true, false, false] rfl rfl (by kernel_rfl) (by decide) (fun K hK => ?_)
        refine goes_ Try.func25 (by kernel_rfl) rfl #[.agg #[.slice A1 n c1, .int .i64 A.nm, .int .i64 A.ab, .slice Au A.u.length cu, .slice Ag A.go.length cg], .agg #[.int .i64 KK, .int .i64 O, .int .i64 N]] (by rfl) rfl rfl (by simp only [List.map_toArray, List.map_cons, List.map_nil]; rfl) ?_
        with_reducible refine (rdo_any HXV.out HG.out HPO.out (fun j hj => .inr hj) HOK.out.2).mono ?_
        rintro e w6 ⟨x6, rfl, ⟨Au6, Ag6, cu6, cg6, rfl, h1⟩, h2⟩
        refine ⟨_, rfl, ?_⟩
        have X6 := Aside0.mk h1
        have B6 := Aside0.mk h2
        have P6 := Aside0.mk (P5.out.below h2)
        clear h1 h2
        refine hK.out _ _ ⟨(cellB3 (B5.out.trans (B6.out.mono B5.out.size)) HT3.out HTI.out).1, (cellB3 (B5.out.trans (B6.out.mono B5.out.size)) HT3.out HTI.out).2.1, (cellB3 (B5.out.trans (B6.out.mono B5.out.size)) HT3.out HTI.out).2.2, P6.out.row⟩ (fun hHeld => ?_)
        clear hK K
        refine norm_ (a' := ?_) ?_ ?_
        rotate_left
        · show Act.put _ (some 44) _ = _
          simp only [Act.put, List.setIfInBounds_toArray, List.set_cons_zero, List.set_cons_succ, i64_w, i32_w]
          rfl
        refine pure_ (i := 12) (N := some 7) (v := ?_) (a' := ?_) #[true, true, true, true, true, true, true, true, true, true, true, true, true, false] rfl rfl (by kernel_rfl) (fun _ _ _ h => h) (Or.inl ⟨by rfl, ?_⟩) ?_ ?_
        rotate_left
        · intro w'
          go_simp
          with_reducible rfl
        rotate_left
        · simp only [Act.put, List.setIfInBounds_toArray, List.set_cons_zero, List.set_cons_succ, i64_w, i32_w]
          rfl
        refine last_ (i := 13) (N := none) #[true, true, true, true, true, true, true, true, true, true, true, true, true, true] rfl rfl (by kernel_rfl) (by decide) (fun K hK => ?_)
        refine skip_ (w1 := _) (by rfl) rfl (ex_store64 (u0 := .slice A1 n c1) (u1 := (doL A KK O N).nm) (u2 := (doL A KK O N).ab) (u3 := .slice Au6 (doL A KK O N).u.length cu6) (u4 := .slice Ag6 (doL A KK O N).go.length cg6) (x := .tmp 8) (y := .tmp 44) rfl (by simp [Act.eval, Act.put]) (by simp [Act.eval, Act.put]) P6.out.row rfl rfl rfl) ?_
        refine hK.out _ _ ?_
        clear hK K
        refine done_ (by kernel_rfl) ?_
        clear d1 d2 p1 p2
        have S7 := Aside0.mk (show Sx w1 (w6.setRow gx #[.slice A1 n c1, .int .i64 (doL A KK O N).nm, .int .i64 (doL A KK O N).ab, .slice Au6 (doL A KK O N).u.length cu6, .slice Ag6 (doL A KK O N).go.length cg6]) (fun k => (R k ∨ w5.heap.size ≤ k) ∧ k < w6.heap.size) g5 (doL A KK O N) from S5.out.next P5.out.rx B6.out)
        have P7 := Aside0.mk (show Pd (w6.setRow gx #[.slice A1 n c1, .int .i64 (doL A KK O N).nm, .int .i64 (doL A KK O N).ab, .slice Au6 (doL A KK O N).u.length cu6, .slice Ag6 (doL A KK O N).go.length cg6]) (fun k => (R k ∨ w5.heap.size ≤ k) ∧ k < w6.heap.size) gx (.slice A1 n c1) Au6 Ag6 cu6 cg6 (doL A KK O N) from P5.out.next B6.out X6.out)
        have B7 := Aside0.mk (show Below w1.heap.size w1 (w6.setRow gx #[.slice A1 n c1, .int .i64 (doL A KK O N).nm, .int .i64 (doL A KK O N).ab, .slice Au6 (doL A KK O N).u.length cu6, .slice Ag6 (doL A KK O N).go.length cg6]) from below_row (B5.out.trans (B6.out.mono B5.out.size)) HGX1.out _)
        have G7 := Aside0.mk (HG.out.step (k := KK) (by have := HI50.out; omega) HOK.out.1 HOK.out.2)
        have PO7 := Aside0.mk (pos_do HG.out HPO.out KK O N)
        have FX7 := Aside0.mk (show (doL A KK O N).fx = nums .i64 is ∧ (doL A KK O N).n = n from ⟨(fx_do KK O N).1.trans HFX.out.1, (fx_do KK O N).2.trans HFX.out.2⟩)
        clear HSD HBD HPD HSDd HBDd HPDd HG HPO HFX S5 B5 P5 X6 B6 P6 HTI HOK
        generalize w6.setRow gx #[.slice A1 n c1, .int .i64 (doL A KK O N).nm, .int .i64 (doL A KK O N).ab, .slice Au6 (doL A KK O N).u.length cu6, .slice Ag6 (doL A KK O N).go.length cg6] = w7 at *
        generalize doL A KK O N = A7 at *
        go_wp2
        go_roundg k1
        case measure => omega
        case rel => exact ⟨i + 1, g5, A7, Au6, Ag6, cu6, cg6, _, rfl, by rw [ew.out]; simp, ⟨by have := HK.out; omega⟩, S7, B7, P7, G7, PO7, FX7⟩
      · have d1 : decide ((i : Int) < (m : Int)) = false := decide_eq_false (by omega)
        have d2 : decide (i < m) = false := decide_eq_false hi
        have HIM := Aside0.mk (show i ≤ 50 from by have h1 := HK.out; have h2 := HL50.out; have h3 := HM.out; omega)
        clear hi
        have HCL := Aside0.mk (HSD.out.clone HG.out)
        go_upto_block 2 with (go_at_call 26; (refine HCL.out.mono ?_); rintro e wc ⟨gc, rfl, h1, h2⟩; have LC := Aside0.mk h1; have BC := Aside0.mk h2; clear h1 h2)
        have SC := Aside0.mk (HSD.out.more BC.out)
        have PC := Aside0.mk (HPD.out.more BC.out)
        have LD := Aside0.mk (log_more (R := R) LC.out)
        have BD := Aside0.mk (HBD.out.trans (BC.out.mono HBD.out.size))
        generalize (fun k => (R k ∨ wr.heap.size ≤ k) ∧ k < wc.heap.size) = R2 at *
        have HGC := HG
        have HFC := HFX
        obtain ⟨AC, hAC⟩ : ∃ AC, AC = A := ⟨_, rfl⟩
        rw [← hAC] at PC LD HGC HFC
        clear hAC LC BC HSD HBD HPD HCL d1 d2
        go_wp2
        go_loopg [7, 11] mz (fun kz v7 v11 w' => ∃ (j g : Nat) (A : La), v7 = .pointer (some ⟨g, 0, none⟩) ∧ v11 = .int .i64 (j : Int) ∧ Aside0 (j + kz = mz) ∧ Aside0 (Sx w1 w' R2 g A) ∧ Aside0 (Below w1.heap.size w1 w') ∧ Aside0 (Pd w' R2 gx (.slice A1 n c1) Au Ag cu cg AC) ∧ Aside0 (Log R2 w' gc AC) ∧ Aside0 (GI (i + j) A))
        case atStart => exact ⟨0, g, A, rfl, rfl, ⟨by omega⟩, SC, BD, PC, LD, HG⟩
        case round =>
          clear SC BD PC LD HG HPO HFX
          obtain ⟨j, g, A, rfl, rfl, HKZ, HSD, HBD, HPD, HLD, HG⟩ := hrel
          by_cases hj : j < mz
          · rcases gk with _ | k2
            · exact absurd hj (by have := HKZ.out; omega)
            have d1 : decide ((j : Int) < (mz : Int)) = true := decide_eq_true (by omega)
            have d2 : decide (j < mz) = true := decide_eq_true hj
            have p1 : (0 ≤ (j : Int)) = True := eq_true (by omega)
            have p2 : ((j : Int) < (mz : Int)) = True := eq_true (by omega)
            obtain ⟨⟨KK, O, N⟩, ht⟩ : ∃ t, lz[j]? = some t := ⟨_, List.getElem?_eq_getElem (by rw [← HMZ.out]; exact hj)⟩
            have HOK := Aside0.mk (show (-1099511627776 ≤ O ∧ O ≤ 1099511627776) ∧ (-1099511627776 ≤ N ∧ N ≤ 1099511627776) from HOKZ.out _ (List.mem_of_getElem? ht))
            have HI50 := Aside0.mk (show j < 50 from by have := HZ50.out; have := HMZ.out; omega)
            obtain ⟨ad, ea, y0, y1, y2⟩ := t3_at (HTZ.out.below HBD.out) ht
            subst ea
            have ew : Aside0 (wrap64 ((j : Int) + 1) = (j : Int) + 1) := ⟨by have h2 := HI50.out; unfold wrap64; omega⟩
            dsimp only at y0 y1 y2
            clear hj ht
            have HDO := Aside0.mk (sx_do (k := KK) HSD.out HBD.out HPD.out.lt HG.out HOK.out.1 HOK.out.2.2)
            go_wp2_with (go_at_call 24; (refine HDO.out.mono ?_); rintro e w5 ⟨g5, rfl, h1, h2, h3, h4⟩; have S5 := Aside0.mk h1; have B5 := Aside0.mk h2; have K5 := Aside0.mk h3; have Z5 := Aside0.mk h4; clear h1 h2 h3 h4)
            go_roundg k2
            case measure => omega
            case rel => exact ⟨j + 1, g5, doL A KK O N, rfl, by rw [ew.out]; simp, ⟨by have := HKZ.out; omega⟩, S5, B5, ⟨HPD.out.kept K5.out Z5.out⟩, ⟨log_move HLD.out K5.out⟩, ⟨HG.out.step (by have := HI50.out; have := HIM.out; omega) HOK.out.1 HOK.out.2⟩⟩
          · have d1 : decide ((j : Int) < (mz : Int)) = false := decide_eq_false (by omega)
            have d2 : decide (j < mz) = false := decide_eq_false hj
            have HBF := Aside0.mk (below_step B1.out HBD.out)
            clear hj
            have HSM := Aside0.mk (same_log HLD.out HPD.out (rdc_below HFR.out HBD.out) HFC.out HGC.out HC1.out)
            have c0 := (blk_cell HPD.out.row 0).trans rfl
            have c1' := (blk_cell HPD.out.row 1).trans rfl
            have c2' := (blk_cell HPD.out.row 2).trans rfl
            have c3' := (blk_cell HPD.out.row 3).trans rfl
            have c4' := (blk_cell HPD.out.row 4).trans rfl
            go_wp2_with (first
              | (go_at_call 10; (refine (wrote_nil _).mono ?_); rintro e wn ⟨rfl, rfl⟩)
              | (go_at_call 27; (refine (got_nil _).mono ?_); rintro e wn ⟨rfl, rfl⟩)
              | (go_at_call 28; (refine (lost_nil_ _).mono ?_); rintro e wn ⟨rfl, rfl⟩)
              | (go_at_call 23; (refine HSM.out.mono ?_); rintro e w8 ⟨rfl, h⟩; have B8 := Aside0.mk h; clear h)
              | (go_at_call 11; (refine (undo_nil _).mono ?_); rintro e wn ⟨rfl, rfl⟩)
              | (go_at_call 29; (refine (held_nil _).mono ?_); rintro e wn ⟨rfl, rfl⟩)
              | (go_at_call 30; (refine (frames_nil _).mono ?_); rintro e wn ⟨rfl, rfl⟩)
              | (go_at_call 31; (refine (number_nil _).mono ?_); rintro e wn ⟨rfl, rfl⟩)
              | (go_at_call 32; (refine (aborts_nil _).mono ?_); rintro e wn ⟨rfl, rfl⟩)
              | (go_at_call 33; (refine (again_nil _).mono ?_); rintro e wn ⟨rfl, rfl⟩)
              | (go_at_call 26; (refine (lclone_nil _).mono ?_); rintro e wn ⟨rfl, rfl⟩)
              | (go_at_call 12; (refine (lives_any _).mono ?_); rintro e w9 ⟨rfl, h1⟩; have B9 := Aside0.mk h1; clear h1))
            go_ret
            exact ⟨rfl, below_step HBF.out (below_step B8.out B9.out)⟩
  · rw [Bool.not_eq_true] at hgo
    rw [hgo] at HGD
    clear hr hn hc hra hla hrb hlb hgo
    go_enter Try.func6, Try.ntmps6
    go_wp2_with (first
      | (go_at_call 20; (refine HGD.out.mono ?_); rintro e w0 ⟨rfl, rfl⟩)
      | (go_at_call 12; (refine (lives_any _).mono ?_); rintro e w1 ⟨rfl, h1⟩; have B1 := Aside0.mk h1; clear h1))
    go_ret
    exact ⟨rfl, B1.out⟩
end Go.Proofs.Ytakbhnfmimnbhaa.Rn
