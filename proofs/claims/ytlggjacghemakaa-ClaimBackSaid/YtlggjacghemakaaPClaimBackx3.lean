/- Go functions as plain Lean functions, and that the calls come to them. Conditions: none. (Written by a program of this session.) -/
import Derived.Test.YtlggjacghemakaaPClaimBackx0
import Derived.Test.YtlggjacghemakaaPClaimBackx1
namespace Go.Proofs.Ytlggjacghemakaa.PClaimBack
open Go.RowKit Go.Proofs.YtlggjacghemakaaW.PrintWords Go.Proofs.YtlggjacghemakaaW.PrintLast Go.Proofs.YtlggjacghemakaaW.PrintMore
attribute [local go_sem] max2_int min2_int max_two min_two max_three min_three max_four min_four   -- for this text's walks alone
set_option linter.unusedVariables false
set_option linter.unusedSimpArgs false

/-! ### logjamlaw25_own: function 26 -/
def logjamlaw25_own.f (k : Nat) (l0_0 : List Int) (l0_1 : List (List Int)) (l0_2 : List (List Int)) : Option (List Int × (List (List Int)) × (List (List Int))) := (some (([] : List Int) : List Int)).bind fun y154 => (if y154.length + l0_0.length < 17592186044416 then ((logjamlaw25_rows.f k l0_1).bind fun t160 => ((logjamlaw25_rows.f k l0_2).bind fun t163 => (some ((y154 ++ l0_0), t160, t163)))) else (none))
theorem logjamlaw25_own.mono : ∀ a0 a1 a2 k, LeO (logjamlaw25_own.f k a0 a1 a2) (logjamlaw25_own.f (k + 1) a0 a1 a2) := by
  intro a0 a1 a2 k
  unfold logjamlaw25_own.f
  repeat' first
      | (with_reducible exact logjamlaw25_rows.mono _ _)
      | (with_reducible exact LeO.refl _)
      | (with_reducible exact LeO.none _)
      | (with_reducible refine LeO.ite ?_ ?_)
      | (with_reducible refine LeO.bind ?_ (fun _=>?_))
      | exact logjamlaw25_rows.mono _ _
      | exact LeO.none _
      | refine LeO.ite ?_ ?_
      | refine LeO.bind ?_ (fun _=>?_)
def logjamlaw25_own.T1 : Bool × List (List Nat × List Nat) := (true, [([], []), ([], []), ([1], [1]), ([0, 2], [0, 2]), ([], []), ([4], [4]), ([5, 3], [5]), ([], []), ([7], [7]), ([8, 6], [8]), ([3, 6, 9], [3, 6, 9]), ([10, 9, 0, 1, 2, 3, 4, 5, 6, 7, 8, 9, 10], [10])])
def logjamlaw25_own.B1 : List Nat := [0, 0, 2, 7, 0, 16, 63, 0, 128, 511, 1023, 2047]
theorem logjamlaw25_own.tab1 : rtab .any (opsOf Try.f26 1) = logjamlaw25_own.T1 := by kernel_rfl
theorem logjamlaw25_own.bits1 : waitsOk logjamlaw25_own.T1.2 logjamlaw25_own.B1 = true := by kernel_rfl
set_option maxHeartbeats 8000000 in
set_option maxRecDepth 100000 in
theorem logjamlaw25_own.calls (k : Nat) (A0_0 : Option Addr) (c0_0 : Nat) (l0_0 : List Int) (A0_1 : Option Addr) (c0_1 : Nat) (l0_1 : List (List Int)) (A0_2 : Option Addr) (c0_2 : Nat) (l0_2 : List (List Int)) (r1 : List Int) (r2 : List (List Int)) (r3 : List (List Int)) (w : World) (hr0_0 : Kd.C (Kd.int .i64) w A0_0 l0_0.length l0_0) (hc0_0 : l0_0.length ≤ c0_0) (hr0_1 : Kd.C (Kd.slice 3 (Kd.int .i64)) w A0_1 l0_1.length l0_1) (hc0_1 : l0_1.length ≤ c0_1) (hr0_2 : Kd.C (Kd.slice 3 (Kd.int .i64)) w A0_2 l0_2.length l0_2) (hc0_2 : l0_2.length ≤ c0_2) (h : logjamlaw25_own.f k l0_0 l0_1 l0_2 = some (r1, r2, r3)) :
    Calls Try.prog 26 #[.agg #[.slice A0_0 l0_0.length c0_0,.slice A0_1 l0_1.length c0_1,.slice A0_2 l0_2.length c0_2]] w fun e w'=>∃ (n_ : Nat) (v0_ v1_ v2_ : Value),e = .returned (.agg #[v0_,v1_,v2_]) ∧ Kd.R (Kd.int .i64) 3 w' w.heap.size (fun _=>True) v0_ r1 ∧ Kd.S (Kd.slice 3 (Kd.int .i64)) 23 w' w.heap.size (fun k_=>some k_ ≠ (v0_ : Value).ownBlock ∧ k_ < n_) v1_ r2 ∧ Kd.S (Kd.slice 3 (Kd.int .i64)) 23 w' n_ (fun k_=>some k_ ≠ (v0_ : Value).ownBlock) v2_ r3 ∧ Below w.heap.size w w':=by
  have hu55:=Try.underlying55;have hu60:=Try.underlying60;have HR0_0:=A0_ hr0_0;have HC0_0:=A0_ hc0_0;clear hr0_0 hc0_0;have HR0_1:=A0_ hr0_1;have HC0_1:=A0_ hc0_1;clear hr0_1 hc0_1;have HR0_2:=A0_ hr0_2;have HC0_2:=A0_ hc0_2;clear hr0_2 hc0_2;have HB:=A0_ (Below.refl w.heap.size w);have H : ((some (([] : List Int) : List Int)).bind fun y154=>(if y154.length + l0_0.length < 17592186044416 then ((logjamlaw25_rows.f k l0_1).bind fun t160=>((logjamlaw25_rows.f k l0_2).bind fun t163=>(some ((y154 ++ l0_0),t160,t163)))) else (none))) = some (r1,r2,r3):=h;clear h;obtain ⟨y154,hy154⟩ : ∃ y_ : List Int,y_ = (([] : List Int)):=⟨_,rfl⟩;replace H : (if y154.length + l0_0.length < 17592186044416 then ((logjamlaw25_rows.f k l0_1).bind fun t160=>((logjamlaw25_rows.f k l0_2).bind fun t163=>(some ((y154 ++ l0_0),t160,t163)))) else (none)) = some (r1,r2,r3):=by first|(rw [hy154];with_reducible exact H)|(have H2_:=(Option.bind_some _ _).symm.trans H;rw [hy154];with_reducible exact H2_)|(have H2_:=(Option.bind_some _ _).symm.trans H;with_reducible exact H2_)|with_reducible exact H|(rw [hy154];exact H)|exact H
  have Ny154:=A0_ hy154;clear hy154;by_cases c2 : y154.length + l0_0.length < 17592186044416;rotate_left
  · rw [if_neg c2] at H
    exact absurd H (by simp)

  rw [if_pos c2] at H;have LMc2:=A0_ c2;clear c2;obtain ⟨y157,hy157⟩ : ∃ y_ : List Int,y_ = (y154 ++ l0_0):=⟨_,rfl⟩;replace H : ((logjamlaw25_rows.f k l0_1).bind fun t160=>((logjamlaw25_rows.f k l0_2).bind fun t163=>(some (y157,t160,t163)))) = some (r1,r2,r3):=by first|(rw [hy157];with_reducible exact H)|(have H2_:=(Option.bind_some _ _).symm.trans H;rw [hy157];with_reducible exact H2_)|(have H2_:=(Option.bind_some _ _).symm.trans H;with_reducible exact H2_)|with_reducible exact H|(rw [hy157];exact H)|exact H
  have Ny157:=A0_ hy157;clear hy157;replace H:=bm_ H;obtain ⟨t160,A30,H⟩:=H;replace H : ((logjamlaw25_rows.f k l0_2).bind fun t163=>(some (y157,t160,t163))) = some (r1,r2,r3):=H;have A3:=A0_ A30;clear A30;replace H:=bm_ H;obtain ⟨t163,A40,H⟩:=H;replace H : (some (y157,t160,t163)) = some (r1,r2,r3):=H;have A4:=A0_ A40;clear A40;simp only [Option.some.injEq,Prod.mk.injEq] at H;obtain ⟨rfl,rfl,rfl⟩:=H;go_enter Try.func26,Try.ntmps26
  try go_wp2_with (first|((with_reducible refine gate_dst (N:=1) rfl ?_);refine box_event ?hg (N:=1) ?hd (cs:=#[.slice A0_0 l0_0.length c0_0,.slice A0_1 l0_1.length c0_1,.slice A0_2 l0_2.length c0_2]) (t:=55) ?hr ?_;(case hd=>rfl);(case hg=>rfl);(case hr=>first|(go_simp;done)|(go_simp;rfl));intro gb152 hg w5 hbox hb;have n0_:=A0_ (below_step (by repeat (first|(with_reducible first|exact HB.out|apply ba_|apply pN_|apply b1_)|exact HB.out)) hb);have n1_:=A0_ (hbox);have n2_:=A0_ ((by rw [hg];exact (below_size (by repeat (first|(with_reducible first|exact HB.out|apply ba_|apply pN_|apply b1_)|exact HB.out))) : w.heap.size ≤ gb152));have n3_:=A0_ ((by rw [hg];exact (below_size (by repeat (first|(with_reducible first|exact HB.out|apply ba_|apply pN_|apply b1_)|exact HB.out))) : w.heap.size ≤ gb152));clear HB;have HB:=n0_;have BK152:=n1_;have GW152:=n2_;have GE152:=n3_;clear n0_ n1_ n2_ n3_;clear hb hbox hg)|((with_reducible refine gate_dst (N:=2) rfl ?_);refine box_event ?hg (N:=2) ?hd (cs:=#[.slice none 0 0,.slice none 0 0,.slice none 0 0]) (t:=60) ?hr ?_;(case hd=>rfl);(case hg=>rfl);(case hr=>first|(go_simp;done)|(go_simp;rfl));intro gb153 hg w6 hbox hb;have n0_:=A0_ (blk_below (g:=gb152) (o:=.cells #[.slice A0_0 l0_0.length c0_0,.slice A0_1 l0_1.length c0_1,.slice A0_2 l0_2.length c0_2] 55 (0,0)) (by (with_reducible repeat first|refine bN_ ?_ _|refine bD_ ?_|refine bA_ ?_ _);exact BK152.out) hb);have n1_:=A0_ (below_step (by repeat (first|(with_reducible first|exact HB.out|apply ba_|apply pN_|apply b1_|refine bs_ ?_ GE152.out)|exact HB.out)) hb);have n2_:=A0_ (hbox);have n3_:=A0_ ((by rw [hg];exact (below_size (by repeat (first|(with_reducible first|exact HB.out|apply ba_|apply pN_|apply b1_|refine bs_ ?_ GE152.out)|exact HB.out))) : w.heap.size ≤ gb153));have n4_:=A0_ ((by rw [hg];exact (below_size (by repeat (first|(with_reducible first|exact HB.out|apply ba_|apply pN_|apply b1_|refine bs_ ?_ GE152.out)|exact HB.out))) : w.heap.size ≤ gb153));have n5_:=A0_ ((by rw [hg];exact Nat.ne_of_lt (blk_lt (g:=gb152) (o:=.cells #[.slice A0_0 l0_0.length c0_0,.slice A0_1 l0_1.length c0_1,.slice A0_2 l0_2.length c0_2] 55 (0,0)) (by (with_reducible repeat first|refine bN_ ?_ _|refine bD_ ?_|refine bA_ ?_ _);exact BK152.out)) : gb152 ≠ gb153));have n6_:=A0_ ((by rw [hg];exact Nat.ne_of_gt (blk_lt (g:=gb152) (o:=.cells #[.slice A0_0 l0_0.length c0_0,.slice A0_1 l0_1.length c0_1,.slice A0_2 l0_2.length c0_2] 55 (0,0)) (by (with_reducible repeat first|refine bN_ ?_ _|refine bD_ ?_|refine bA_ ?_ _);exact BK152.out)) : gb153 ≠ gb152));clear BK152;clear HB;have BK152:=n0_;have HB:=n1_;have BK153:=n2_;have GW153:=n3_;have GE153:=n4_;have NB152_153:=n5_;have NB153_152:=n6_;clear n0_ n1_ n2_ n3_ n4_ n5_ n6_;clear hb hbox hg))
  have n0_:=A0_ (blk_drew BK152.out);have n1_:=A0_ (blk_drew BK153.out);have n2_:=A0_ (b1_ HB.out);clear BK152;clear BK153;clear HB;have BK152:=n0_;have BK153:=n1_;have HB:=n2_;clear n0_ n1_ n2_;refine start_ (n:=12) (S:=fun w'=>w'.cell? ⟨gb152,0,none⟩ = some (.slice A0_0 l0_0.length c0_0) ∧ w'.cell? ⟨gb152,1,none⟩ = some (.slice A0_1 l0_1.length c0_1) ∧ w'.cell? ⟨gb152,2,none⟩ = some (.slice A0_2 l0_2.length c0_2)) (ds:=[]) #[false,false,false,false,false,false,false,false,false,false,false,false] (by kernel_rfl) rfl rfl ⟨(blk_cell BK152.out 0).trans rfl,(blk_cell BK152.out 1).trans rfl,(blk_cell BK152.out 2).trans rfl⟩ (fun hHeld=>?_);refine with_tabW logjamlaw25_own.tab1 logjamlaw25_own.bits1 (fun HT_ HW_=>?_)
  generalize w6.drew = w7 at BK152 BK153 HB hHeld ⊢
  refine pure_ (i:=1) (N:=some 4) (v:=?_) (a':=?_) #[false,true,false,false,false,false,false,false,false,false,false,false] rfl rfl (any_of HT_.out (by kernel_rfl)) (fun _ _ _ h=>h) (Or.inl ⟨by rfl,?_⟩) ?_ ?_;rotate_left
  · intro w'
    go_simp
    with_reducible rfl
  rotate_left
  · simp only [Act.put,sA_,sZ_,sS_,i64_w,i32_w]
    rfl
  refine pure_ (i:=4) (N:=some 7) (v:=?_) (a':=?_) #[false,true,false,false,true,false,false,false,false,false,false,false] rfl rfl (any_of HT_.out (by kernel_rfl)) (fun _ _ _ h=>h) (Or.inl ⟨by rfl,?_⟩) ?_ ?_;rotate_left
  · intro w'
    go_simp
    with_reducible rfl
  rotate_left
  · simp only [Act.put,sA_,sZ_,sS_,i64_w,i32_w]
    rfl
  refine pure_ (i:=7) (N:=some 10) (v:=?_) (a':=?_) #[false,true,false,false,true,false,false,true,false,false,false,false] rfl rfl (any_of HT_.out (by kernel_rfl)) (fun _ _ _ h=>h) (Or.inl ⟨by rfl,?_⟩) ?_ ?_;rotate_left
  · intro w'
    go_simp
    with_reducible rfl
  rotate_left
  · simp only [Act.put,sA_,sZ_,sS_,i64_w,i32_w]
    rfl
  refine take_ (i:=2) (N:=some 5) (v:=?_) (a':=?_) #[false,true,true,false,true,false,false,true,false,false,false,false] rfl rfl (take_ofW HT_.out HW_.out (by kernel_rfl)) (fun _ _ _ h=>h) (Or.inl ⟨by rfl,?_⟩) hHeld ?_ ?_;rotate_left
  · rintro w' ⟨s0,s1,s2⟩
    go_simp
    with_reducible rfl
  rotate_left
  · simp only [Act.put,sA_,sZ_,sS_,i64_w,i32_w]
    rfl
  refine take_ (i:=5) (N:=some 8) (v:=?_) (a':=?_) #[false,true,true,false,true,true,false,true,false,false,false,false] rfl rfl (take_ofW HT_.out HW_.out (by kernel_rfl)) (fun _ _ _ h=>h) (Or.inl ⟨by rfl,?_⟩) hHeld ?_ ?_;rotate_left
  · rintro w' ⟨s0,s1,s2⟩
    go_simp
    with_reducible rfl
  rotate_left
  · simp only [Act.put,sA_,sZ_,sS_,i64_w,i32_w]
    rfl
  refine take_ (i:=8) (N:=some 11) (v:=?_) (a':=?_) #[false,true,true,false,true,true,false,true,true,false,false,false] rfl rfl (take_ofW HT_.out HW_.out (by kernel_rfl)) (fun _ _ _ h=>h) (Or.inl ⟨by rfl,?_⟩) hHeld ?_ ?_;rotate_left
  · rintro w' ⟨s0,s1,s2⟩
    go_simp
    with_reducible rfl
  rotate_left
  · simp only [Act.put,sA_,sZ_,sS_,i64_w,i32_w]
    rfl
  refine one_ (i:=0) (N:=some 3) #[true,true,true,false,true,true,false,true,true,false,false,false] rfl rfl (one_of HT_.out (by kernel_rfl)) (by decide) (fun K hK=>?_);refine Kd.R_lit_step (Kd.int .i64) _ 3 ?hg (N:=3) ?hd (xs:=([] : List Int)) (inner:=[]) (ok:=fun _=>True) (okp:=fun _=>True) ?hr ?hp (fun _ hk=>hk) trivial (Below.refl _ _) (Nat.le_refl _) (by simp) ?_;(case hd=>rfl);(case hg=>rfl);(case hr=>first|(go_simp;done)|(go_simp;rfl));(case hp=>exact (Reps.none _ _))
  intro v155 w8 ho9 hb hg_ hnew_
  clear hg_ hnew_
  (first|rw [← Ny154.out] at ho9|(simp only [Int.reduceToNat] at ho9;rw [← Ny154.out] at ho9))
  have n0_:=A0_ (Kd.R_lower ho9 (below_size (by repeat (first|(with_reducible first|exact HB.out|apply ba_|apply pN_|apply b1_|refine bs_ ?_ GE152.out|refine bs_ ?_ GE153.out)|exact HB.out))));have n1_:=A0_ (blk_below (g:=gb152) (o:=.cells #[.slice A0_0 l0_0.length c0_0,.slice A0_1 l0_1.length c0_1,.slice A0_2 l0_2.length c0_2] 55 (0,0)) (by (with_reducible repeat first|refine bN_ ?_ _|refine bD_ ?_|refine bA_ ?_ _);exact BK152.out) hb);have n2_:=A0_ (blk_below (g:=gb153) (o:=.cells #[.slice none 0 0,.slice none 0 0,.slice none 0 0] 60 (0,0)) (by (with_reducible repeat first|refine bN_ ?_ _|refine bD_ ?_|refine bA_ ?_ _);exact BK153.out) hb);have n3_:=A0_ (below_step (by repeat (first|(with_reducible first|exact HB.out|apply ba_|apply pN_|apply b1_|refine bs_ ?_ GE152.out|refine bs_ ?_ GE153.out)|exact HB.out)) hb);clear BK152;clear BK153;clear HB;have HO156:=n0_;have BK152:=n1_;have BK153:=n2_;have HB:=n3_;clear n0_ n1_ n2_ n3_;clear hb ho9;refine hK.out _ _ ⟨(blk_cell BK152.out 0).trans rfl,(blk_cell BK152.out 1).trans rfl,(blk_cell BK152.out 2).trans rfl⟩ (fun hHeld=>?_);clear hK K;refine norm_ (a':=?_) ?_ ?_;rotate_left
  · show Act.put _ (some 3) _ = _
    simp only [Act.put,sA_,sZ_,sS_,i64_w,i32_w]
    rfl
  refine one_ (i:=3) (N:=some 6) #[true,true,true,true,true,true,false,true,true,false,false,false] rfl rfl (one_of HT_.out (by kernel_rfl)) (by decide) (fun K hK=>?_);refine Kd.R_append_rows_step (Kd.int .i64) (w0:=w) w.heap.size (by rfl) (.tmp 3) (.tmp 5) 23 3 (.int .i64 0) 8 rfl Try.underlying23 info3 rfl (by decide) (by omega) v155 y154 l0_0 _ _ _ (fun _=>True) (fun _=>False) rfl rfl ?aO ?aR (fun _ _ h=>h) (fun _ h=>h.elim) ?aF ?aB ?aS ?aL ?_
  (case aR=>repeat (first|exact (Kd.C_below HR0_0.out HB.out)|(with_reducible first|refine Ca_ ?_ _|refine Cn_ ?_ _|refine Cd_ ?_)))
  (case aB=>exact (by repeat (first|(with_reducible first|exact HB.out|apply ba_|apply pN_|apply b1_|refine bs_ ?_ GE152.out|refine bs_ ?_ GE153.out)|exact HB.out)))
  (case aF=>exact (fun _ _=>trivial))
  (case aO=>exact (by (with_reducible repeat first|apply Ra_|apply Rn_|apply Rd_);exact HO156.out))
  (case aS=>exact (below_size (by repeat (first|(with_reducible first|exact HB.out|apply ba_|apply pN_|apply b1_|refine bs_ ?_ GE152.out|refine bs_ ?_ GE153.out)|exact HB.out))))
  (case aL=>have:=LMc2.out;omega)
  intro v158 w10 ho hb hg hat
  rw [← Ny157.out] at ho;have n0_:=A0_ (blk_grown (g:=gb152) (o:=.cells #[.slice A0_0 l0_0.length c0_0,.slice A0_1 l0_1.length c0_1,.slice A0_2 l0_2.length c0_2] 55 (0,0)) (by (with_reducible repeat first|refine bN_ ?_ _|refine bD_ ?_|refine bA_ ?_ _);exact BK152.out) hg (Kd.R_ne HO156.out BK152.out (by decide)));have n1_:=A0_ (blk_grown (g:=gb153) (o:=.cells #[.slice none 0 0,.slice none 0 0,.slice none 0 0] 60 (0,0)) (by (with_reducible repeat first|refine bN_ ?_ _|refine bD_ ?_|refine bA_ ?_ _);exact BK153.out) hg (Kd.R_ne HO156.out BK153.out (by decide)));have n2_:=A0_ (hb);have n3_:=A0_ (ho);clear BK152;clear BK153;clear HB;clear HO156;have BK152:=n0_;have BK153:=n1_;have HB:=n2_;have HO159:=n3_;clear n0_ n1_ n2_ n3_;clear ho hb hg hat;refine hK.out _ _ ⟨(blk_cell BK152.out 0).trans rfl,(blk_cell BK152.out 1).trans rfl,(blk_cell BK152.out 2).trans rfl⟩ (fun hHeld=>?_);clear hK K;refine norm_ (a':=?_) ?_ ?_;rotate_left
  · show Act.put _ (some 6) _ = _
    simp only [Act.put,sA_,sZ_,sS_,i64_w,i32_w]
    rfl
  refine one_ (i:=6) (N:=some 9) #[true,true,true,true,true,true,true,true,true,false,false,false] rfl rfl (one_of HT_.out (by kernel_rfl)) (by decide) (fun K hK=>?_);refine goes_ Try.func43 (by kernel_rfl) rfl #[.slice A0_1 l0_1.length c0_1] (by rfl) rfl rfl (by first|(simp only [List.map_toArray,List.map_cons,List.map_nil] <;> rfl)|rfl|(simp only [List.length_drop,List.length_take];rfl)) ?_
  with_reducible refine (logjamlaw25_rows.calls k _ _ l0_1 t160 _ ?side1 ?side2 A3.out).mono ?_
  (case side1=>repeat (first|exact (Kd.C_below HR0_1.out HB.out)|(with_reducible first|refine Ca_ ?_ _|refine Cn_ ?_ _|refine Cd_ ?_)))
  (case side2=>exact HC0_1.out)
  rintro e w11 ⟨v161,rfl,ho0,hb⟩
  refine ⟨_,rfl,?_⟩;have n0_:=A0_ (Kd.R_below (by (with_reducible repeat first|apply Ra_|apply Rn_|apply Rd_);exact HO159.out) hb);have n1_:=A0_ (Kd.S_lower (Kd.S_new' ho0 (Kd.R_lt (by (with_reducible repeat first|apply Ra_|apply Rn_|apply Rd_);exact HO159.out))) (below_size (by repeat (first|(with_reducible first|exact HB.out|apply ba_|apply pN_|apply b1_|refine bs_ ?_ GE152.out|refine bs_ ?_ GE153.out)|exact HB.out))));have n2_:=A0_ (blk_below (g:=gb152) (o:=.cells #[.slice A0_0 l0_0.length c0_0,.slice A0_1 l0_1.length c0_1,.slice A0_2 l0_2.length c0_2] 55 (0,0)) (by (with_reducible repeat first|refine bN_ ?_ _|refine bD_ ?_|refine bA_ ?_ _);exact BK152.out) hb);have n3_:=A0_ (blk_below (g:=gb153) (o:=.cells #[.slice none 0 0,.slice none 0 0,.slice none 0 0] 60 (0,0)) (by (with_reducible repeat first|refine bN_ ?_ _|refine bD_ ?_|refine bA_ ?_ _);exact BK153.out) hb);have n4_:=A0_ (below_step (by repeat (first|(with_reducible first|exact HB.out|apply ba_|apply pN_|apply b1_|refine bs_ ?_ GE152.out|refine bs_ ?_ GE153.out)|exact HB.out)) hb);clear HO159;clear BK152;clear BK153;clear HB;have HO159:=n0_;have HO162:=n1_;have BK152:=n2_;have BK153:=n3_;have HB:=n4_;clear n0_ n1_ n2_ n3_ n4_;(try clear hb);(try clear hb2);(try clear hk);(try clear hi);(try clear ho0);refine hK.out _ _ ⟨(blk_cell BK152.out 0).trans rfl,(blk_cell BK152.out 1).trans rfl,(blk_cell BK152.out 2).trans rfl⟩ (fun hHeld=>?_);clear hK K;refine norm_ (a':=?_) ?_ ?_;rotate_left
  · show Act.put _ (some 9) _ = _
    simp only [Act.put,sA_,sZ_,sS_,i64_w,i32_w]
    rfl
  refine one_ (i:=9) (N:=some 12) #[true,true,true,true,true,true,true,true,true,true,false,false] rfl rfl (one_of HT_.out (by kernel_rfl)) (by decide) (fun K hK=>?_);refine goes_ Try.func43 (by kernel_rfl) rfl #[.slice A0_2 l0_2.length c0_2] (by rfl) rfl rfl (by first|(simp only [List.map_toArray,List.map_cons,List.map_nil] <;> rfl)|rfl|(simp only [List.length_drop,List.length_take];rfl)) ?_
  with_reducible refine (logjamlaw25_rows.calls k _ _ l0_2 t163 _ ?side1 ?side2 A4.out).mono ?_
  (case side1=>repeat (first|exact (Kd.C_below HR0_2.out HB.out)|(with_reducible first|refine Ca_ ?_ _|refine Cn_ ?_ _|refine Cd_ ?_)))
  (case side2=>exact HC0_2.out)
  rintro e w12 ⟨v164,rfl,ho0,hb⟩
  refine ⟨_,rfl,?_⟩;have n0_:=A0_ (Kd.R_below (by (with_reducible repeat first|apply Ra_|apply Rn_|apply Rd_);exact HO159.out) hb);have n1_:=A0_ (Kd.S_old (by (with_reducible repeat first|apply Sa_|apply Sn_|apply Sd_);exact HO162.out) hb);have n2_:=A0_ (Kd.S_new' ho0 (Kd.R_lt (by (with_reducible repeat first|apply Ra_|apply Rn_|apply Rd_);exact HO159.out)));have n3_:=A0_ (blk_below (g:=gb152) (o:=.cells #[.slice A0_0 l0_0.length c0_0,.slice A0_1 l0_1.length c0_1,.slice A0_2 l0_2.length c0_2] 55 (0,0)) (by (with_reducible repeat first|refine bN_ ?_ _|refine bD_ ?_|refine bA_ ?_ _);exact BK152.out) hb);have n4_:=A0_ (blk_below (g:=gb153) (o:=.cells #[.slice none 0 0,.slice none 0 0,.slice none 0 0] 60 (0,0)) (by (with_reducible repeat first|refine bN_ ?_ _|refine bD_ ?_|refine bA_ ?_ _);exact BK153.out) hb);have n5_:=A0_ (below_step (by repeat (first|(with_reducible first|exact HB.out|apply ba_|apply pN_|apply b1_|refine bs_ ?_ GE152.out|refine bs_ ?_ GE153.out)|exact HB.out)) hb);clear HO159;clear HO162;clear BK152;clear BK153;clear HB;have HO159:=n0_;have HO162:=n1_;have HO165:=n2_;have BK152:=n3_;have BK153:=n4_;have HB:=n5_;clear n0_ n1_ n2_ n3_ n4_ n5_;(try clear hb);(try clear hb2);(try clear hk);(try clear hi);(try clear ho0);obtain ⟨Ao13,co13,eo13⟩:=Kd.S_slice HO165.out
  (first|subst eo13|(injection eo13 with f1_ f2_ f3_;have f4_:=f1_.symm;have f5_:=f3_.symm;clear f1_ f2_ f3_;subst f4_;subst f5_))
  obtain ⟨Ao14,co14,eo14⟩:=Kd.S_slice HO162.out
  (first|subst eo14|(injection eo14 with f1_ f2_ f3_;have f4_:=f1_.symm;have f5_:=f3_.symm;clear f1_ f2_ f3_;subst f4_;subst f5_))
  obtain ⟨Ao15,co15,eo15⟩:=Kd.R_slice HO159.out
  (first|subst eo15|(injection eo15 with f1_ f2_ f3_;have f4_:=f1_.symm;have f5_:=f3_.symm;clear f1_ f2_ f3_;subst f4_;subst f5_))
  refine hK.out _ _ ⟨(blk_cell BK152.out 0).trans rfl,(blk_cell BK152.out 1).trans rfl,(blk_cell BK152.out 2).trans rfl⟩ (fun hHeld=>?_);clear hK K;refine norm_ (a':=?_) ?_ ?_;rotate_left
  · show Act.put _ (some 12) _ = _
    simp only [Act.put,sA_,sZ_,sS_,i64_w,i32_w]
    rfl
  refine pure_ (i:=10) (N:=some 13) (v:=?_) (a':=?_) #[true,true,true,true,true,true,true,true,true,true,true,false] rfl rfl (any_of HT_.out (by kernel_rfl)) (fun _ _ _ h=>h) (Or.inl ⟨by rfl,?_⟩) ?_ ?_;rotate_left
  · intro w'
    go_simp
    with_reducible rfl
  rotate_left
  · simp only [Act.put,sA_,sZ_,sS_,i64_w,i32_w]
    rfl
  refine one_ (i:=11) (N:=none) #[true,true,true,true,true,true,true,true,true,true,true,true] rfl rfl (one_of HT_.out (by kernel_rfl)) (by decide) (fun K hK=>?_);have hs16 : w12.cell? ⟨gb153,0,none⟩ = some (.slice none 0 0):=(blk_cell BK153.out 0).trans rfl;have hfs16:=blk_frozen BK153.out 0;have hns16_0:=NB152_153.out;have hms16_0:=NB153_152.out;have hs17 : w12.cell? ⟨gb153,1,none⟩ = some (.slice none 0 0):=(blk_cell BK153.out 1).trans rfl;have hfs17:=blk_frozen BK153.out 1;have hns17_0:=NB152_153.out;have hms17_0:=NB153_152.out;have hs18 : w12.cell? ⟨gb153,2,none⟩ = some (.slice none 0 0):=(blk_cell BK153.out 2).trans rfl;have hfs18:=blk_frozen BK153.out 2;have hns18_0:=NB152_153.out;have hms18_0:=NB153_152.out;refine skip_ (w1:=?_) (by rfl) rfl ?_ ?_;rotate_left
  · go_simp
    rfl
  refine hK.out _ _ ⟨((cell_far (p:=⟨gb153,_,none⟩) NB152_153.out _).trans (((cell_far (p:=⟨gb153,_,none⟩) NB152_153.out _).trans (((cell_far (p:=⟨gb153,_,none⟩) NB152_153.out _).trans (hHeld.1)))))),((cell_far (p:=⟨gb153,_,none⟩) NB152_153.out _).trans (((cell_far (p:=⟨gb153,_,none⟩) NB152_153.out _).trans (((cell_far (p:=⟨gb153,_,none⟩) NB152_153.out _).trans (hHeld.2.1)))))),((cell_far (p:=⟨gb153,_,none⟩) NB152_153.out _).trans (((cell_far (p:=⟨gb153,_,none⟩) NB152_153.out _).trans (((cell_far (p:=⟨gb153,_,none⟩) NB152_153.out _).trans (hHeld.2.2))))))⟩ (fun hHeld=>?_);clear hK K;refine done_ (done_of HT_.out (by kernel_rfl)) ?_
  try go_wp2
  refine bodyPost_ret (results_cell_row rfl _ _ gb153 60 #[.slice Ao15 y157.length co15,.slice Ao14 t160.length co14,.slice Ao13 t163.length co13] (0,0) _ rfl (by (with_reducible repeat first|refine bN_ ?_ _|refine bD_ ?_|refine bA_ ?_ _);refine blk_put (cs:=#[.slice Ao15 y157.length co15,.slice Ao14 t160.length co14,.slice none 0 0]) ?_ 2 _ rfl;(with_reducible repeat first|refine bN_ ?_ _|refine bD_ ?_|refine bA_ ?_ _);refine blk_put (cs:=#[.slice Ao15 y157.length co15,.slice none 0 0,.slice none 0 0]) ?_ 1 _ rfl;(with_reducible repeat first|refine bN_ ?_ _|refine bD_ ?_|refine bA_ ?_ _);refine blk_put (cs:=#[.slice none 0 0,.slice none 0 0,.slice none 0 0]) ?_ 0 _ rfl;(with_reducible repeat first|refine bN_ ?_ _|refine bD_ ?_|refine bA_ ?_ _);exact BK153.out) Try.underlying60 rfl (by kernel_rfl)) rfl ?_;exact ⟨_,_,_,_,by first|rfl|(simp [errW_none,errW_some] <;> rfl)|(simp [*,errW_none,errW_some] <;> rfl),by (with_reducible repeat first|apply Ra_|apply Rn_|apply Rd_);exact Kd.R_mono (Kd.R_far (p:=⟨gb153,2,none⟩) (Kd.R_far (p:=⟨gb153,1,none⟩) (Kd.R_far (p:=⟨gb153,0,none⟩) (Kd.R_types HO159.out BK153.out (by decide)) (fun _ hk=>hk.2) (.slice Ao15 y157.length co15)) (fun _ hk=>hk.2) (.slice Ao14 t160.length co14)) (fun _ hk=>hk.2) (.slice Ao13 t163.length co13)) (fun _ hk=>trivial),by (with_reducible repeat first|apply Sa_|apply Sn_|apply Sd_);exact Kd.S_mono (Kd.S_far (p:=⟨gb153,2,none⟩) (Kd.S_far (p:=⟨gb153,1,none⟩) (Kd.S_far (p:=⟨gb153,0,none⟩) (Kd.S_types HO162.out BK153.out (by decide)) (fun _ hk=>hk.2) (.slice Ao15 y157.length co15)) (fun _ hk=>hk.2) (.slice Ao14 t160.length co14)) (fun _ hk=>hk.2) (.slice Ao13 t163.length co13)) (fun _ hk=>⟨hk.1.1.2,hk.1.2⟩),by (with_reducible repeat first|apply Sa_|apply Sn_|apply Sd_);exact Kd.S_mono (Kd.S_far (p:=⟨gb153,2,none⟩) (Kd.S_far (p:=⟨gb153,1,none⟩) (Kd.S_far (p:=⟨gb153,0,none⟩) (Kd.S_types HO165.out BK153.out (by decide)) (fun _ hk=>hk.2) (.slice Ao15 y157.length co15)) (fun _ hk=>hk.2) (.slice Ao14 t160.length co14)) (fun _ hk=>hk.2) (.slice Ao13 t163.length co13)) (fun _ hk=>hk.1.2),by repeat (first|(with_reducible first|exact HB.out|apply ba_|apply pN_|apply b1_|refine bs_ ?_ GE152.out|refine bs_ ?_ GE153.out)|exact HB.out)⟩
/-! ### claim_units: function 45 -/
def claim_units.l0 : Nat → List Int → Int → Int → Option (Bool)
  | 0,_,_,_=>none
  | k + 1,x5,x6,x7=>if x7 < x6 then (if 0 ≤ x7 then (if x7 < (x5.length : Int) then (if (rd x5 x7) < 0 then (some false) else (if (rd x5 x7) > 1000 then (some false) else (claim_units.l0 k x5 x6 (wrap64 (x7 + 1))))) else (none)) else (none)) else (some true)
def claim_units.f (k : Nat) (l0 : List Int) : Option (Bool) := claim_units.l0 k l0 (l0.length : Int) 0
theorem claim_units.mono_l : ∀ k, (∀ y0 y1 y2, LeO (claim_units.l0 k y0 y1 y2) (claim_units.l0 (k + 1) y0 y1 y2))
  | 0=>fun _ _ _ r h=>by simp [claim_units.l0] at h
  | k + 1=>by
    have ih0:=claim_units.mono_l k
    · intro y0 y1 y2
      unfold claim_units.l0
      repeat' first
      | (with_reducible exact ih0 _ _ _)
      | (with_reducible exact LeO.refl _)
      | (with_reducible exact LeO.none _)
      | (with_reducible refine LeO.ite ?_ ?_)
      | (with_reducible refine LeO.bind ?_ (fun _=>?_))
      | exact ih0 _ _ _
      | exact LeO.none _
      | refine LeO.ite ?_ ?_
      | refine LeO.bind ?_ (fun _=>?_)
theorem claim_units.mono : ∀ a0 k, LeO (claim_units.f k a0) (claim_units.f (k + 1) a0) := by
  intro a0 k
  have ih0:=claim_units.mono_l k;unfold claim_units.f
  repeat' first
      | (with_reducible exact ih0 _ _ _)
      | (with_reducible exact LeO.refl _)
      | (with_reducible exact LeO.none _)
      | (with_reducible refine LeO.ite ?_ ?_)
      | (with_reducible refine LeO.bind ?_ (fun _=>?_))
      | exact ih0 _ _ _
      | exact LeO.none _
      | refine LeO.ite ?_ ?_
      | refine LeO.bind ?_ (fun _=>?_)
set_option maxHeartbeats 8000000 in
set_option maxRecDepth 100000 in
theorem claim_units.calls (k : Nat) (A0 : Option Addr) (c0 : Nat) (l0 : List Int) (r : Bool) (w : World) (hr0 : Kd.C (Kd.int .i64) w A0 l0.length l0) (hc0 : l0.length ≤ c0) (h : claim_units.f k l0 = some r) :
    Calls Try.prog 45 #[.slice A0 l0.length c0] w fun e w'=>e = .returned (.bool r) ∧ Drawn0 w w':=by
  have HR0:=A0_ hr0;have HC0:=A0_ hc0;clear hr0 hc0;have H : (claim_units.l0 k l0 (l0.length : Int) 0) = some r:=h;clear h;have H':=A0_ H;clear H;go_enter Try.func45,Try.ntmps45;go_wp2
  go_loopg [7] k (fun kq v7 w'=>∃ (x7_1 : Int),v7 = .int .i64 x7_1 ∧ Aside0 (claim_units.l0 kq l0 (l0.length : Int) x7_1 = some r) ∧ Aside0 (kq ≤ k) ∧ Drawn0 w w')
  case atStart=>exact ⟨(0),(by first|rfl|(simp;done)|(simp [*];done)),H',⟨Nat.le_refl _⟩,by repeat (first|exact Drawn0.refl _|apply Drawn0.step)⟩
  case round =>
    clear H';obtain ⟨x7_1,rfl,HA,HK1,⟨m1,rfl⟩⟩:=hrel
    cases gk with
    | zero=>exact absurd HA.out (by simp [claim_units.l0])
    | succ k1 =>
      have H:=HA.out;clear HA;simp only [claim_units.l0] at H;by_cases c2 : x7_1 < (l0.length : Int);rotate_left
      · rw [if_neg c2] at H
        have c2b0 : decide (x7_1 < (l0.length : Int)) = false:=decide_eq_false c2;clear c2;obtain rfl:=Option.some.inj H;go_wp2;go_ret;exact ⟨by first|rfl|(simp;done)|(simp [*];done),by repeat (first|exact Drawn0.refl _|apply Drawn0.step)⟩

      rw [if_pos c2] at H;have c2b0 : decide (x7_1 < (l0.length : Int)) = true:=decide_eq_true c2;clear c2;by_cases c3 : 0 ≤ x7_1;rotate_left
      · rw [if_neg c3] at H
        exact absurd H (by simp)
      rw [if_pos c3] at H;have c3b0 : decide (0 ≤ x7_1) = true:=decide_eq_true c3;clear c3;by_cases c4 : x7_1 < (l0.length : Int);rotate_left
      · rw [if_neg c4] at H
        exact absurd H (by simp)
      rw [if_pos c4] at H;have c4b0 : decide (x7_1 < (l0.length : Int)) = true:=decide_eq_true c4;clear c4;by_cases c5 : (rd l0 x7_1) < 0
      · rw [if_pos c5] at H
        have c5b0 : decide ((rd l0 x7_1) < 0) = true:=decide_eq_true c5;clear c5;obtain rfl:=Option.some.inj H;have p166 : 0 ≤ (x7_1 : Int):=of_decide_eq_true (by first|(with_reducible assumption)|assumption);have q166 : x7_1 < (l0.length : Int):=of_decide_eq_true (by first|(with_reducible assumption)|assumption);obtain ⟨ad166,e166,hx166_0⟩:=Kd.at_int HR0.out x7_1 p166 q166;cases e166;replace p166:=eq_true p166;replace q166:=eq_true q166;go_wp2;go_ret;exact ⟨by first|rfl|(simp;done)|(simp [*];done),by repeat (first|exact Drawn0.refl _|apply Drawn0.step)⟩
      rw [if_neg c5] at H;have c5b0 : decide ((rd l0 x7_1) < 0) = false:=decide_eq_false c5;clear c5;by_cases c6 : (rd l0 x7_1) > 1000
      · rw [if_pos c6] at H
        have c6b0 : decide (1000 < (rd l0 x7_1)) = true:=decide_eq_true c6;clear c6;obtain rfl:=Option.some.inj H;have p166 : 0 ≤ (x7_1 : Int):=of_decide_eq_true (by first|(with_reducible assumption)|assumption);have q166 : x7_1 < (l0.length : Int):=of_decide_eq_true (by first|(with_reducible assumption)|assumption);obtain ⟨ad166,e166,hx166_0⟩:=Kd.at_int HR0.out x7_1 p166 q166;cases e166;replace p166:=eq_true p166;replace q166:=eq_true q166;go_wp2;go_ret;exact ⟨by first|rfl|(simp;done)|(simp [*];done),by repeat (first|exact Drawn0.refl _|apply Drawn0.step)⟩
      rw [if_neg c6] at H;have c6b0 : decide (1000 < (rd l0 x7_1)) = false:=decide_eq_false c6;clear c6;have H':=A0_ H;clear H;have p166 : 0 ≤ (x7_1 : Int):=of_decide_eq_true (by first|(with_reducible assumption)|assumption);have q166 : x7_1 < (l0.length : Int):=of_decide_eq_true (by first|(with_reducible assumption)|assumption);obtain ⟨ad166,e166,hx166_0⟩:=Kd.at_int HR0.out x7_1 p166 q166;cases e166;replace p166:=eq_true p166;replace q166:=eq_true q166;go_wp2
      go_roundg k1
      case measure=>have:=HK1.out;omega
      case rel=>exact ⟨(wrap64 (x7_1 + 1)),(by first|rfl|(simp;done)|(simp [*];done)),H',⟨by have:=HK1.out;omega⟩,by repeat (first|exact Drawn0.refl _|apply Drawn0.step)⟩
end Go.Proofs.Ytlggjacghemakaa.PClaimBack
