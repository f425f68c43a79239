/- Go functions as plain Lean functions, and that the calls come to them. Conditions: none. (Written by a program of this session.) -/
import Derived.Test.YtlggjacghemakaaPClaimBackx0
namespace Go.Proofs.Ytlggjacghemakaa.PClaimBack
open Go.RowKit Go.Proofs.YtlggjacghemakaaW.PrintWords Go.Proofs.YtlggjacghemakaaW.PrintLast Go.Proofs.YtlggjacghemakaaW.PrintMore
attribute [local go_sem] max2_int min2_int max_two min_two max_three min_three max_four min_four   -- for this text's walks alone
set_option linter.unusedVariables false
set_option linter.unusedSimpArgs false

/-! ### logjamref25_Left: function 35 -/
def logjamref25_Left.l0 : Nat → Int → List Int → Int → List Int → List (List Int) → List (List Int) → Option (List Int)
  | 0,_,_,_,_,_,_=>none
  | k + 1,x1,x5,x6,x296000,x296001,x296002=>if x6 < (x296000.length : Int) then (if 0 ≤ x1 then (if x1 < (x296002.length : Int) then (if 0 ≤ x6 then (if x6 < ((rd_L1 x296002 x1).length : Int) then (if x1 < (x296001.length : Int) then (if x6 < ((rd_L1 x296001 x1).length : Int) then (if x5.length < 17592186044416 then (logjamref25_Left.l0 k x1 (x5 ++ [wrap64 ((rd (rd_L1 x296002 x1) x6) - (rd (rd_L1 x296001 x1) x6))]) (wrap64 (x6 + 1)) x296000 x296001 x296002) else (none)) else (none)) else (none)) else (none)) else (none)) else (none)) else (none)) else (some x5)
def logjamref25_Left.f (k : Nat) (l0_0 : List Int) (l0_1 : List (List Int)) (l0_2 : List (List Int)) (a1 : Int) : Option (List Int) := logjamref25_Left.l0 k a1 (([] : List Int)) 0 l0_0 l0_1 l0_2
theorem logjamref25_Left.mono_l : ∀ k, (∀ y0 y1 y2 y3 y4 y5, LeO (logjamref25_Left.l0 k y0 y1 y2 y3 y4 y5) (logjamref25_Left.l0 (k + 1) y0 y1 y2 y3 y4 y5))
  | 0=>fun _ _ _ _ _ _ r h=>by simp [logjamref25_Left.l0] at h
  | k + 1=>by
    have ih0:=logjamref25_Left.mono_l k
    · intro y0 y1 y2 y3 y4 y5
      unfold logjamref25_Left.l0
      repeat' first
      | (with_reducible exact ih0 _ _ _ _ _ _)
      | (with_reducible exact LeO.refl _)
      | (with_reducible exact LeO.none _)
      | (with_reducible refine LeO.ite ?_ ?_)
      | (with_reducible refine LeO.bind ?_ (fun _=>?_))
      | exact ih0 _ _ _ _ _ _
      | exact LeO.none _
      | refine LeO.ite ?_ ?_
      | refine LeO.bind ?_ (fun _=>?_)
theorem logjamref25_Left.mono : ∀ a0 a1 a2 a3 k, LeO (logjamref25_Left.f k a0 a1 a2 a3) (logjamref25_Left.f (k + 1) a0 a1 a2 a3) := by
  intro a0 a1 a2 a3 k
  have ih0:=logjamref25_Left.mono_l k;unfold logjamref25_Left.f
  repeat' first
      | (with_reducible exact ih0 _ _ _ _ _ _)
      | (with_reducible exact LeO.refl _)
      | (with_reducible exact LeO.none _)
      | (with_reducible refine LeO.ite ?_ ?_)
      | (with_reducible refine LeO.bind ?_ (fun _=>?_))
      | exact ih0 _ _ _ _ _ _
      | exact LeO.none _
      | refine LeO.ite ?_ ?_
      | refine LeO.bind ?_ (fun _=>?_)
def logjamref25_Left.T5 : Bool × List (List Nat × List Nat) := (true, [([], []), ([], []), ([1], [1]), ([], []), ([2, 3], [2, 3]), ([4], [4]), ([], []), ([5, 6], [5, 6]), ([7], [7]), ([], []), ([9], [9]), ([], []), ([10, 11], [10, 11]), ([12], [12]), ([], []), ([13, 14], [13, 14]), ([15], [15]), ([8, 16], [8, 16]), ([17], [17]), ([0, 18], [0, 18]), ([19, 19, 0, 1, 2, 3, 4, 5, 6, 7, 8, 9, 10, 11, 12, 13, 14, 15, 16, 17, 18, 19], [0, 19])])
def logjamref25_Left.B5 : List Nat := [0, 0, 2, 0, 14, 30, 0, 126, 254, 0, 512, 0, 3584, 7680, 0, 32256, 65024, 131070, 262142, 524287, 1048575]
theorem logjamref25_Left.tab5 : rtab .any (opsOf Try.f35 5) = logjamref25_Left.T5 := by kernel_rfl
theorem logjamref25_Left.bits5 : waitsOk logjamref25_Left.T5.2 logjamref25_Left.B5 = true := by kernel_rfl
set_option maxHeartbeats 8000000 in
set_option maxRecDepth 100000 in
theorem logjamref25_Left.calls (k : Nat) (A0_0 : Option Addr) (c0_0 : Nat) (l0_0 : List Int) (A0_1 : Option Addr) (c0_1 : Nat) (l0_1 : List (List Int)) (A0_2 : Option Addr) (c0_2 : Nat) (l0_2 : List (List Int)) (a1 : Int) (r : List Int) (w : World) (hr0_0 : Kd.C (Kd.int .i64) w A0_0 l0_0.length l0_0) (hc0_0 : l0_0.length ≤ c0_0) (hr0_1 : Kd.C (Kd.slice 3 (Kd.int .i64)) w A0_1 l0_1.length l0_1) (hc0_1 : l0_1.length ≤ c0_1) (hr0_2 : Kd.C (Kd.slice 3 (Kd.int .i64)) w A0_2 l0_2.length l0_2) (hc0_2 : l0_2.length ≤ c0_2) (h : logjamref25_Left.f k l0_0 l0_1 l0_2 a1 = some r) :
    Calls Try.prog 35 #[.agg #[.slice A0_0 l0_0.length c0_0,.slice A0_1 l0_1.length c0_1,.slice A0_2 l0_2.length c0_2],.int .i64 a1] w fun e w'=>∃ v0_ : Value,e = .returned (v0_) ∧ Kd.R (Kd.int .i64) 3 w' w.heap.size (fun _=>True) v0_ r ∧ Below w.heap.size w w':=by
  have hu55:=Try.underlying55;have HR0_0:=A0_ hr0_0;have HC0_0:=A0_ hc0_0;clear hr0_0 hc0_0;have HR0_1:=A0_ hr0_1;have HC0_1:=A0_ hc0_1;clear hr0_1 hc0_1;have HR0_2:=A0_ hr0_2;have HC0_2:=A0_ hc0_2;clear hr0_2 hc0_2;have HB:=A0_ (Below.refl w.heap.size w);have H : (logjamref25_Left.l0 k a1 (([] : List Int)) 0 l0_0 l0_1 l0_2) = some r:=h;clear h;obtain ⟨y296,hy296⟩ : ∃ y_ : List Int,y_ = (([] : List Int)):=⟨_,rfl⟩;replace H : (logjamref25_Left.l0 k a1 y296 0 l0_0 l0_1 l0_2) = some r:=by first|(rw [hy296];with_reducible exact H)|(have H2_:=(Option.bind_some _ _).symm.trans H;rw [hy296];with_reducible exact H2_)|(have H2_:=(Option.bind_some _ _).symm.trans H;with_reducible exact H2_)|with_reducible exact H|(rw [hy296];exact H)|exact H
  have Ny296:=A0_ hy296;clear hy296;have H':=A0_ H;clear H;go_enter Try.func35,Try.ntmps35;go_wp2_with (first|((with_reducible refine gate_dst (N:=2) rfl ?_);refine box_event ?hg (N:=2) ?hd (cs:=#[.slice A0_0 l0_0.length c0_0,.slice A0_1 l0_1.length c0_1,.slice A0_2 l0_2.length c0_2]) (t:=55) ?hr ?_;(case hd=>rfl);(case hg=>rfl);(case hr=>first|(go_simp;done)|(go_simp;rfl));intro gb295 hg w3 hbox hb;have n0_:=A0_ (below_step (by repeat (first|(with_reducible first|exact HB.out|apply ba_|apply pN_|apply b1_)|exact HB.out)) hb);have n1_:=A0_ (hbox);have n2_:=A0_ ((by rw [hg];exact (below_size (by repeat (first|(with_reducible first|exact HB.out|apply ba_|apply pN_|apply b1_)|exact HB.out))) : w.heap.size ≤ gb295));have n3_:=A0_ ((by rw [hg];exact (below_size (by repeat (first|(with_reducible first|exact HB.out|apply ba_|apply pN_|apply b1_)|exact HB.out))) : w.heap.size ≤ gb295));clear HB;have HB:=n0_;have BK295:=n1_;have GW295:=n2_;have GE295:=n3_;clear n0_ n1_ n2_ n3_;clear hb hbox hg)|((with_reducible refine gate_dst (N:=7) rfl ?_);refine Kd.R_lit (Kd.int .i64) _ 3 ?hg (N:=7) ?hd (xs:=([] : List Int)) (inner:=[]) (ok:=fun _=>True) (okp:=fun _=>True) ?hr ?hp (fun _ hk=>hk) trivial (Below.refl _ _) (Nat.le_refl _) (by simp) ?_;(case hd=>rfl);(case hg=>rfl);(case hr=>first|(go_simp;done)|(go_simp;rfl));(case hp=>exact (Reps.none _ _));intro v297 w4 ho5 hb hg_ hnew_;clear hg_ hnew_;(first|rw [← Ny296.out] at ho5|(simp only [Int.reduceToNat] at ho5;rw [← Ny296.out] at ho5));have n0_:=A0_ (Kd.R_lower ho5 (below_size (by repeat (first|(with_reducible first|exact HB.out|apply ba_|apply pN_|apply b1_|refine bs_ ?_ GE295.out)|exact HB.out))));have n1_:=A0_ (blk_below (g:=gb295) (o:=.cells #[.slice A0_0 l0_0.length c0_0,.slice A0_1 l0_1.length c0_1,.slice A0_2 l0_2.length c0_2] 55 (0,0)) (by (with_reducible repeat first|refine bN_ ?_ _|refine bD_ ?_|refine bA_ ?_ _);exact BK295.out) hb);have n2_:=A0_ (below_step (by repeat (first|(with_reducible first|exact HB.out|apply ba_|apply pN_|apply b1_|refine bs_ ?_ GE295.out)|exact HB.out)) hb);clear BK295;clear HB;have HO298:=n0_;have BK295:=n1_;have HB:=n2_;clear n0_ n1_ n2_;clear hb ho5))
  go_loopg [5,6] k (fun kq v5 v6 w'=>∃ (x5_1 : List Int) (x6_1 : Int),v6 = .int .i64 x6_1 ∧ Aside0 (logjamref25_Left.l0 kq a1 x5_1 x6_1 l0_0 l0_1 l0_2 = some r) ∧ Aside0 (kq ≤ k) ∧ Aside0 (Kd.R (Kd.int .i64) 3 w' w.heap.size (fun _=>True) v5 x5_1) ∧ Aside0 (w'.heap[gb295]? = some (.cells #[(.slice A0_0 l0_0.length c0_0),(.slice A0_1 l0_1.length c0_1),(.slice A0_2 l0_2.length c0_2)] 55 (0,0))) ∧ Aside0 (Below w.heap.size w w'))
  case atStart=>exact ⟨(y296),(0),(by first|rfl|(simp;done)|(simp [*];done)),H',⟨Nat.le_refl _⟩,⟨by (with_reducible repeat first|apply Ra_|apply Rn_|apply Rd_);exact HO298.out⟩,⟨by (with_reducible repeat first|refine bN_ ?_ _|refine bD_ ?_|refine bA_ ?_ _);exact BK295.out⟩,⟨by repeat (first|(with_reducible first|exact HB.out|apply ba_|apply pN_|apply b1_|refine bs_ ?_ GE295.out)|exact HB.out)⟩⟩
  case round =>
    clear H';(try clear p2);(try clear c3);obtain ⟨x5_1,x6_1,rfl,HA,HK1,HO_5,BK295,HB⟩:=hrel
    cases gk with
    | zero=>exact absurd HA.out (by simp [logjamref25_Left.l0])
    | succ k1 =>
      have H:=HA.out;clear HA;simp only [logjamref25_Left.l0] at H;by_cases c6 : x6_1 < (l0_0.length : Int);rotate_left
      · rw [if_neg c6] at H
        have c6b0 : decide (x6_1 < (l0_0.length : Int)) = false:=decide_eq_false c6;clear c6;obtain rfl:=Option.some.inj H;obtain ⟨hcz17_0,hcz17_1,hcz17_2,hfz17_0,hfz17_1,hfz17_2⟩:=cz3_ (w:=wr) BK295.out;go_wp2;go_ret;exact ⟨_,by first|rfl|(simp [errW_none,errW_some] <;> rfl)|(simp [*,errW_none,errW_some] <;> rfl),by (with_reducible repeat first|apply Ra_|apply Rn_|apply Rd_);exact HO_5.out,by repeat (first|(with_reducible first|exact HB.out|apply ba_|apply pN_|apply b1_|refine bs_ ?_ GE295.out)|exact HB.out)⟩

      rw [if_pos c6] at H;have c6b0 : decide (x6_1 < (l0_0.length : Int)) = true:=decide_eq_true c6;clear c6;by_cases c7 : 0 ≤ a1;rotate_left
      · rw [if_neg c7] at H
        exact absurd H (by simp)
      rw [if_pos c7] at H;have c7b0 : decide (0 ≤ a1) = true:=decide_eq_true c7;clear c7;by_cases c8 : a1 < (l0_2.length : Int);rotate_left
      · rw [if_neg c8] at H
        exact absurd H (by simp)
      rw [if_pos c8] at H;have c8b0 : decide (a1 < (l0_2.length : Int)) = true:=decide_eq_true c8;clear c8;by_cases c9 : 0 ≤ x6_1;rotate_left
      · rw [if_neg c9] at H
        exact absurd H (by simp)
      rw [if_pos c9] at H;have c9b0 : decide (0 ≤ x6_1) = true:=decide_eq_true c9;clear c9;by_cases c10 : x6_1 < ((rd_L1 l0_2 a1).length : Int);rotate_left
      · rw [if_neg c10] at H
        exact absurd H (by simp)
      rw [if_pos c10] at H;have c10b0 : decide (x6_1 < ((rd_L1 l0_2 a1).length : Int)) = true:=decide_eq_true c10;clear c10;by_cases c11 : a1 < (l0_1.length : Int);rotate_left
      · rw [if_neg c11] at H
        exact absurd H (by simp)
      rw [if_pos c11] at H;have c11b0 : decide (a1 < (l0_1.length : Int)) = true:=decide_eq_true c11;clear c11;by_cases c12 : x6_1 < ((rd_L1 l0_1 a1).length : Int);rotate_left
      · rw [if_neg c12] at H
        exact absurd H (by simp)
      rw [if_pos c12] at H;have c12b0 : decide (x6_1 < ((rd_L1 l0_1 a1).length : Int)) = true:=decide_eq_true c12;clear c12;by_cases c13 : x5_1.length < 17592186044416;rotate_left
      · rw [if_neg c13] at H
        exact absurd H (by simp)
      rw [if_pos c13] at H;have LMc13:=A0_ c13;clear c13;obtain ⟨y303,hy303⟩ : ∃ y_ : List Int,y_ = (x5_1 ++ [wrap64 ((rd (rd_L1 l0_2 a1) x6_1) - (rd (rd_L1 l0_1 a1) x6_1))]):=⟨_,rfl⟩;replace H : (logjamref25_Left.l0 k1 a1 y303 (wrap64 (x6_1 + 1)) l0_0 l0_1 l0_2) = some r:=by first|(rw [hy303];with_reducible exact H)|(have H2_:=(Option.bind_some _ _).symm.trans H;rw [hy303];with_reducible exact H2_)|(have H2_:=(Option.bind_some _ _).symm.trans H;with_reducible exact H2_)|with_reducible exact H|(rw [hy303];exact H)|exact H
      have Ny303:=A0_ hy303;clear hy303;have H':=A0_ H;clear H;obtain ⟨hcz14_0,hcz14_1,hcz14_2,hfz14_0,hfz14_1,hfz14_2⟩:=cz3_ (w:=wr) BK295.out
      try go_wp2
      have n0_:=A0_ (Kd.R_drew HO_5.out);have n1_:=A0_ (blk_drew BK295.out);have n2_:=A0_ (b1_ HB.out);clear HO_5;clear BK295;clear HB;have HO_5:=n0_;have BK295:=n1_;have HB:=n2_;clear n0_ n1_ n2_;have p299 : 0 ≤ (a1 : Int):=of_decide_eq_true (by first|(with_reducible assumption)|assumption);have q299 : a1 < (l0_2.length : Int):=of_decide_eq_true (by first|(with_reducible assumption)|assumption);obtain ⟨ad299,A299_0,c299_0,e299,hx299_0,hl299_0,hi299_0⟩:=at_L1 HR0_2.out a1 p299 q299;have hw299_0:=hx299_0;cases e299;replace hx299_0:=(HB.out.cell (bl_ w _ hx299_0)).trans hx299_0;have HR299_0:=A0_ hi299_0;have HC299_0:=A0_ hl299_0;clear hi299_0 hl299_0;replace p299:=eq_true p299;replace q299:=eq_true q299;have p300 : 0 ≤ (x6_1 : Int):=of_decide_eq_true (by first|(with_reducible assumption)|assumption);have q300 : x6_1 < ((rd_L1 l0_2 a1).length : Int):=of_decide_eq_true (by first|(with_reducible assumption)|assumption);obtain ⟨ad300,e300,hx300_0⟩:=Kd.at_int HR299_0.out x6_1 p300 q300;have hw300_0:=hx300_0;cases e300;replace hx300_0:=(HB.out.cell (bl_ w _ hx300_0)).trans hx300_0;replace p300:=eq_true p300;replace q300:=eq_true q300;have p301 : 0 ≤ (a1 : Int):=of_decide_eq_true (by first|(with_reducible assumption)|assumption);have q301 : a1 < (l0_1.length : Int):=of_decide_eq_true (by first|(with_reducible assumption)|assumption);obtain ⟨ad301,A301_0,c301_0,e301,hx301_0,hl301_0,hi301_0⟩:=at_L1 HR0_1.out a1 p301 q301;have hw301_0:=hx301_0;cases e301;replace hx301_0:=(HB.out.cell (bl_ w _ hx301_0)).trans hx301_0;have HR301_0:=A0_ hi301_0;have HC301_0:=A0_ hl301_0;clear hi301_0 hl301_0;replace p301:=eq_true p301;replace q301:=eq_true q301;have p302 : 0 ≤ (x6_1 : Int):=of_decide_eq_true (by first|(with_reducible assumption)|assumption);have q302 : x6_1 < ((rd_L1 l0_1 a1).length : Int):=of_decide_eq_true (by first|(with_reducible assumption)|assumption);obtain ⟨ad302,e302,hx302_0⟩:=Kd.at_int HR301_0.out x6_1 p302 q302;have hw302_0:=hx302_0;cases e302;replace hx302_0:=(HB.out.cell (bl_ w _ hx302_0)).trans hx302_0;replace p302:=eq_true p302;replace q302:=eq_true q302;refine start_ (n:=21) (S:=fun w'=>w'.cell? ⟨gb295,0,none⟩ = some (.slice A0_0 l0_0.length c0_0) ∧ w'.cell? ⟨gb295,1,none⟩ = some (.slice (some ad301) l0_1.length c0_1) ∧ w'.cell? ⟨gb295,2,none⟩ = some (.slice (some ad299) l0_2.length c0_2) ∧ w'.cell? (ad299.add (a1).toNat) = some (.slice (some ad300) (rd_L1 l0_2 a1).length c299_0) ∧ w'.cell? (ad300.add (x6_1).toNat) = some (.int .i64 (rd (rd_L1 l0_2 a1) x6_1)) ∧ w'.cell? (ad301.add (a1).toNat) = some (.slice (some ad302) (rd_L1 l0_1 a1).length c301_0) ∧ w'.cell? (ad302.add (x6_1).toNat) = some (.int .i64 (rd (rd_L1 l0_1 a1) x6_1))) (ds:=[]) #[false,false,false,false,false,false,false,false,false,false,false,false,false,false,false,false,false,false,false,false,false] (by kernel_rfl) rfl rfl ⟨(blk_cell BK295.out 0).trans rfl,(blk_cell BK295.out 1).trans rfl,(blk_cell BK295.out 2).trans rfl,((HB.out.cell (bl_ w _ hw299_0)).trans hw299_0),((HB.out.cell (bl_ w _ hw300_0)).trans hw300_0),((HB.out.cell (bl_ w _ hw301_0)).trans hw301_0),((HB.out.cell (bl_ w _ hw302_0)).trans hw302_0)⟩ (fun hHeld=>?_);refine with_tabW logjamref25_Left.tab5 logjamref25_Left.bits5 (fun HT_ HW_=>?_)
      generalize wr.drew = w15 at HO_5 BK295 HB HR299_0 HR301_0 hx299_0 hx300_0 hx301_0 hx302_0 hHeld ⊢
      refine pure_ (i:=0) (N:=some 15) (v:=?_) (a':=?_) #[true,false,false,false,false,false,false,false,false,false,false,false,false,false,false,false,false,false,false,false,false] rfl rfl (any_of HT_.out (by kernel_rfl)) (fun _ _ _ h=>h) (Or.inl ⟨by rfl,?_⟩) ?_ ?_;rotate_left
      · intro w'
        go_simp
        with_reducible rfl
      rotate_left
      · simp only [Act.put,sA_,sZ_,sS_,i64_w,i32_w]
        rfl
      refine pure_ (i:=1) (N:=some 16) (v:=?_) (a':=?_) #[true,true,false,false,false,false,false,false,false,false,false,false,false,false,false,false,false,false,false,false,false] rfl rfl (any_of HT_.out (by kernel_rfl)) (fun _ _ _ h=>h) (Or.inl ⟨by rfl,?_⟩) ?_ ?_;rotate_left
      · intro w'
        go_simp
        with_reducible rfl
      rotate_left
      · simp only [Act.put,sA_,sZ_,sS_,i64_w,i32_w]
        rfl
      refine pure_ (i:=3) (N:=some 18) (v:=?_) (a':=?_) #[true,true,false,true,false,false,false,false,false,false,false,false,false,false,false,false,false,false,false,false,false] rfl rfl (any_of HT_.out (by kernel_rfl)) (fun _ _ _ h=>h) (Or.inl ⟨by rfl,?_⟩) ?_ ?_;rotate_left
      · intro w'
        go_simp
        with_reducible rfl
      rotate_left
      · simp only [Act.put,sA_,sZ_,sS_,i64_w,i32_w]
        rfl
      refine pure_ (i:=6) (N:=some 21) (v:=?_) (a':=?_) #[true,true,false,true,false,false,true,false,false,false,false,false,false,false,false,false,false,false,false,false,false] rfl rfl (any_of HT_.out (by kernel_rfl)) (fun _ _ _ h=>h) (Or.inl ⟨by rfl,?_⟩) ?_ ?_;rotate_left
      · intro w'
        go_simp
        with_reducible rfl
      rotate_left
      · simp only [Act.put,sA_,sZ_,sS_,i64_w,i32_w]
        rfl
      refine pure_ (i:=9) (N:=some 24) (v:=?_) (a':=?_) #[true,true,false,true,false,false,true,false,false,true,false,false,false,false,false,false,false,false,false,false,false] rfl rfl (any_of HT_.out (by kernel_rfl)) (fun _ _ _ h=>h) (Or.inl ⟨by rfl,?_⟩) ?_ ?_;rotate_left
      · intro w'
        go_simp
        with_reducible rfl
      rotate_left
      · simp only [Act.put,sA_,sZ_,sS_,i64_w,i32_w]
        rfl
      refine pure_ (i:=11) (N:=some 26) (v:=?_) (a':=?_) #[true,true,false,true,false,false,true,false,false,true,false,true,false,false,false,false,false,false,false,false,false] rfl rfl (any_of HT_.out (by kernel_rfl)) (fun _ _ _ h=>h) (Or.inl ⟨by rfl,?_⟩) ?_ ?_;rotate_left
      · intro w'
        go_simp
        with_reducible rfl
      rotate_left
      · simp only [Act.put,sA_,sZ_,sS_,i64_w,i32_w]
        rfl
      refine pure_ (i:=14) (N:=some 29) (v:=?_) (a':=?_) #[true,true,false,true,false,false,true,false,false,true,false,true,false,false,true,false,false,false,false,false,false] rfl rfl (any_of HT_.out (by kernel_rfl)) (fun _ _ _ h=>h) (Or.inl ⟨by rfl,?_⟩) ?_ ?_;rotate_left
      · intro w'
        go_simp
        with_reducible rfl
      rotate_left
      · simp only [Act.put,sA_,sZ_,sS_,i64_w,i32_w]
        rfl
      refine take_ (i:=2) (N:=some 17) (v:=?_) (a':=?_) #[true,true,true,true,false,false,true,false,false,true,false,true,false,false,true,false,false,false,false,false,false] rfl rfl (take_ofW HT_.out HW_.out (by kernel_rfl)) (fun _ _ _ h=>h) (Or.inl ⟨by rfl,?_⟩) hHeld ?_ ?_;rotate_left
      · rintro w' ⟨s0,s1,s2,s3,s4,s5,s6⟩
        go_simp
        with_reducible rfl
      rotate_left
      · simp only [Act.put,sA_,sZ_,sS_,i64_w,i32_w]
        rfl
      refine pure_ (i:=4) (N:=some 19) (v:=?_) (a':=?_) #[true,true,true,true,true,false,true,false,false,true,false,true,false,false,true,false,false,false,false,false,false] rfl rfl (any_of HT_.out (by kernel_rfl)) (fun _ _ _ h=>h) (Or.inl ⟨by rfl,?_⟩) ?_ ?_;rotate_left
      · intro w'
        go_simp
        with_reducible rfl
      rotate_left
      · simp only [Act.put,sA_,sZ_,sS_,i64_w,i32_w]
        rfl
      refine take_ (i:=5) (N:=some 20) (v:=?_) (a':=?_) #[true,true,true,true,true,true,true,false,false,true,false,true,false,false,true,false,false,false,false,false,false] rfl rfl (take_ofW HT_.out HW_.out (by kernel_rfl)) (fun _ _ _ h=>h) (Or.inl ⟨by rfl,?_⟩) hHeld ?_ ?_;rotate_left
      · rintro w' ⟨s0,s1,s2,s3,s4,s5,s6⟩
        go_simp
        with_reducible rfl
      rotate_left
      · simp only [Act.put,sA_,sZ_,sS_,i64_w,i32_w]
        rfl
      refine pure_ (i:=7) (N:=some 22) (v:=?_) (a':=?_) #[true,true,true,true,true,true,true,true,false,true,false,true,false,false,true,false,false,false,false,false,false] rfl rfl (any_of HT_.out (by kernel_rfl)) (fun _ _ _ h=>h) (Or.inl ⟨by rfl,?_⟩) ?_ ?_;rotate_left
      · intro w'
        go_simp
        with_reducible rfl
      rotate_left
      · simp only [Act.put,sA_,sZ_,sS_,i64_w,i32_w]
        rfl
      refine take_ (i:=8) (N:=some 23) (v:=?_) (a':=?_) #[true,true,true,true,true,true,true,true,true,true,false,true,false,false,true,false,false,false,false,false,false] rfl rfl (take_ofW HT_.out HW_.out (by kernel_rfl)) (fun _ _ _ h=>h) (Or.inl ⟨by rfl,?_⟩) hHeld ?_ ?_;rotate_left
      · rintro w' ⟨s0,s1,s2,s3,s4,s5,s6⟩
        go_simp
        with_reducible rfl
      rotate_left
      · simp only [Act.put,sA_,sZ_,sS_,i64_w,i32_w]
        rfl
      refine take_ (i:=10) (N:=some 25) (v:=?_) (a':=?_) #[true,true,true,true,true,true,true,true,true,true,true,true,false,false,true,false,false,false,false,false,false] rfl rfl (take_ofW HT_.out HW_.out (by kernel_rfl)) (fun _ _ _ h=>h) (Or.inl ⟨by rfl,?_⟩) hHeld ?_ ?_;rotate_left
      · rintro w' ⟨s0,s1,s2,s3,s4,s5,s6⟩
        go_simp
        with_reducible rfl
      rotate_left
      · simp only [Act.put,sA_,sZ_,sS_,i64_w,i32_w]
        rfl
      refine pure_ (i:=12) (N:=some 27) (v:=?_) (a':=?_) #[true,true,true,true,true,true,true,true,true,true,true,true,true,false,true,false,false,false,false,false,false] rfl rfl (any_of HT_.out (by kernel_rfl)) (fun _ _ _ h=>h) (Or.inl ⟨by rfl,?_⟩) ?_ ?_;rotate_left
      · intro w'
        go_simp
        with_reducible rfl
      rotate_left
      · simp only [Act.put,sA_,sZ_,sS_,i64_w,i32_w]
        rfl
      refine take_ (i:=13) (N:=some 28) (v:=?_) (a':=?_) #[true,true,true,true,true,true,true,true,true,true,true,true,true,true,true,false,false,false,false,false,false] rfl rfl (take_ofW HT_.out HW_.out (by kernel_rfl)) (fun _ _ _ h=>h) (Or.inl ⟨by rfl,?_⟩) hHeld ?_ ?_;rotate_left
      · rintro w' ⟨s0,s1,s2,s3,s4,s5,s6⟩
        go_simp
        with_reducible rfl
      rotate_left
      · simp only [Act.put,sA_,sZ_,sS_,i64_w,i32_w]
        rfl
      refine pure_ (i:=15) (N:=some 30) (v:=?_) (a':=?_) #[true,true,true,true,true,true,true,true,true,true,true,true,true,true,true,true,false,false,false,false,false] rfl rfl (any_of HT_.out (by kernel_rfl)) (fun _ _ _ h=>h) (Or.inl ⟨by rfl,?_⟩) ?_ ?_;rotate_left
      · intro w'
        go_simp
        with_reducible rfl
      rotate_left
      · simp only [Act.put,sA_,sZ_,sS_,i64_w,i32_w]
        rfl
      refine take_ (i:=16) (N:=some 31) (v:=?_) (a':=?_) #[true,true,true,true,true,true,true,true,true,true,true,true,true,true,true,true,true,false,false,false,false] rfl rfl (take_ofW HT_.out HW_.out (by kernel_rfl)) (fun _ _ _ h=>h) (Or.inl ⟨by rfl,?_⟩) hHeld ?_ ?_;rotate_left
      · rintro w' ⟨s0,s1,s2,s3,s4,s5,s6⟩
        go_simp
        with_reducible rfl
      rotate_left
      · simp only [Act.put,sA_,sZ_,sS_,i64_w,i32_w]
        rfl
      refine pure_ (i:=17) (N:=some 32) (v:=?_) (a':=?_) #[true,true,true,true,true,true,true,true,true,true,true,true,true,true,true,true,true,true,false,false,false] rfl rfl (any_of HT_.out (by kernel_rfl)) (fun _ _ _ h=>h) (Or.inl ⟨by rfl,?_⟩) ?_ ?_;rotate_left
      · intro w'
        go_simp
        with_reducible rfl
      rotate_left
      · simp only [Act.put,sA_,sZ_,sS_,i64_w,i32_w]
        rfl
      refine one_ (i:=18) (N:=some 33) #[true,true,true,true,true,true,true,true,true,true,true,true,true,true,true,true,true,true,true,false,false] rfl rfl (one_of HT_.out (by kernel_rfl)) (by decide) (fun K hK=>?_);refine value_ (w1:=?_) (v:=?_) (by rfl) rfl ?_ ?_;rotate_left 2
      · go_simp
        constructor
        · rfl
        · rfl
      refine hK.out _ _ ⟨(blk_cell (blk_alloc BK295.out _) 0).trans rfl,(blk_cell (blk_alloc BK295.out _) 1).trans rfl,(blk_cell (blk_alloc BK295.out _) 2).trans rfl,(World.cell?_alloc_lt _ _ _ (bl_ _ _ (((HB.out.cell (bl_ w _ hw299_0)).trans hw299_0)))).trans (((HB.out.cell (bl_ w _ hw299_0)).trans hw299_0)),(World.cell?_alloc_lt _ _ _ (bl_ _ _ (((HB.out.cell (bl_ w _ hw300_0)).trans hw300_0)))).trans (((HB.out.cell (bl_ w _ hw300_0)).trans hw300_0)),(World.cell?_alloc_lt _ _ _ (bl_ _ _ (((HB.out.cell (bl_ w _ hw301_0)).trans hw301_0)))).trans (((HB.out.cell (bl_ w _ hw301_0)).trans hw301_0)),(World.cell?_alloc_lt _ _ _ (bl_ _ _ (((HB.out.cell (bl_ w _ hw302_0)).trans hw302_0)))).trans (((HB.out.cell (bl_ w _ hw302_0)).trans hw302_0))⟩ (fun hHeld=>?_);clear hK K;refine norm_ (a':=?_) ?_ ?_;rotate_left
      · show Act.put _ (some 33) _ = _
        simp only [Act.put,sA_,sZ_,sS_,i64_w,i32_w]
        rfl
      refine one_ (i:=19) (N:=some 34) #[true,true,true,true,true,true,true,true,true,true,true,true,true,true,true,true,true,true,true,true,false] rfl rfl (one_of HT_.out (by kernel_rfl)) (by decide) (fun K hK=>?_);refine Kd.R_append_step (Kd.int .i64) (w0:=w) w.heap.size (by rfl) (.tmp 15) (.tmp 33) 23 3 (.int .i64 0) 8 rfl Try.underlying23 info3 rfl (by decide) (by omega) u5 x5_1 (wrap64 ((rd (rd_L1 l0_2 a1) x6_1) - (rd (rd_L1 l0_1 a1) x6_1))) [.int .i64 (wrap64 ((rd (rd_L1 l0_2 a1) x6_1) - (rd (rd_L1 l0_1 a1) x6_1)))] (fun _=>True) (fun _=>False) rfl rfl ?aP (fun _ hk=>hk.elim) ?aF ?aO ?aB ?aS ?aL ?_
      (case aP=>exact rfl)
      (case aB=>exact (by repeat (first|(with_reducible first|exact HB.out|apply ba_|apply pN_|apply b1_|refine bs_ ?_ GE295.out)|exact HB.out)))
      (case aF=>exact (fun _ _=>trivial))
      (case aO=>exact (by (with_reducible repeat first|apply Ra_|apply Rn_|apply Rd_);exact HO_5.out))
      (case aS=>exact (below_size (by repeat (first|(with_reducible first|exact HB.out|apply ba_|apply pN_|apply b1_|refine bs_ ?_ GE295.out)|exact HB.out))))
      (case aL=>have:=LMc13.out;omega)
      intro v304 w16 ho hb hg hat
      rw [← Ny303.out] at ho;have n0_:=A0_ (blk_grown (g:=gb295) (o:=.cells #[.slice A0_0 l0_0.length c0_0,.slice (some ad301) l0_1.length c0_1,.slice (some ad299) l0_2.length c0_2] 55 (0,0)) (by (with_reducible repeat first|refine bN_ ?_ _|refine bD_ ?_|refine bA_ ?_ _);exact BK295.out) hg (Kd.R_ne HO_5.out BK295.out (by decide)));have n1_:=A0_ (hb);have n2_:=A0_ (ho);clear BK295;clear HB;clear HO_5;have BK295:=n0_;have HB:=n1_;have HO305:=n2_;clear n0_ n1_ n2_;clear ho hb hg hat;refine hK.out _ _ ⟨(blk_cell BK295.out 0).trans rfl,(blk_cell BK295.out 1).trans rfl,(blk_cell BK295.out 2).trans rfl,((HB.out.cell (bl_ w _ hw299_0)).trans hw299_0),((HB.out.cell (bl_ w _ hw300_0)).trans hw300_0),((HB.out.cell (bl_ w _ hw301_0)).trans hw301_0),((HB.out.cell (bl_ w _ hw302_0)).trans hw302_0)⟩ (fun hHeld=>?_);clear hK K;refine norm_ (a':=?_) ?_ ?_;rotate_left
      · show Act.put _ (some 34) _ = _
        simp only [Act.put,sA_,sZ_,sS_,i64_w,i32_w]
        rfl
      refine pure_ (i:=20) (N:=some 5) (v:=?_) (a':=?_) #[true,true,true,true,true,true,true,true,true,true,true,true,true,true,true,true,true,true,true,true,true] rfl rfl (any_of HT_.out (by kernel_rfl)) (fun _ _ _ h=>h) (Or.inl ⟨by rfl,?_⟩) ?_ ?_;rotate_left
      · intro w'
        go_simp
        with_reducible rfl
      rotate_left
      · simp only [Act.put,sA_,sZ_,sS_,i64_w,i32_w]
        rfl
      refine done_ (done_of HT_.out (by kernel_rfl)) ?_
      try go_wp2
      go_roundg k1
      case measure=>have:=HK1.out;omega
      case rel=>exact ⟨(y303),(wrap64 (x6_1 + 1)),(by first|rfl|(simp;done)|(simp [*];done)),H',⟨by have:=HK1.out;omega⟩,⟨by (with_reducible repeat first|apply Ra_|apply Rn_|apply Rd_);exact HO305.out⟩,⟨by (with_reducible repeat first|refine bN_ ?_ _|refine bD_ ?_|refine bA_ ?_ _);exact BK295.out⟩,⟨by repeat (first|(with_reducible first|exact HB.out|apply ba_|apply pN_|apply b1_|refine bs_ ?_ GE295.out)|exact HB.out)⟩⟩
/-! ### logjamref25_sum: function 52 -/
def logjamref25_sum.l0 : Nat → List Int → List Int → List Int → Int → Option (List Int)
  | 0,_,_,_,_=>none
  | k + 1,x0,x1,x5,x6=>if x6 < (x0.length : Int) then (if 0 ≤ x6 then (if x6 < (x1.length : Int) then (if x5.length < 17592186044416 then (logjamref25_sum.l0 k x0 x1 (x5 ++ [wrap64 ((rd x0 x6) + (rd x1 x6))]) (wrap64 (x6 + 1))) else (none)) else (none)) else (none)) else (some x5)
def logjamref25_sum.f (k : Nat) (l0 : List Int) (l1 : List Int) : Option (List Int) := logjamref25_sum.l0 k l0 l1 (([] : List Int)) 0
theorem logjamref25_sum.mono_l : ∀ k, (∀ y0 y1 y2 y3, LeO (logjamref25_sum.l0 k y0 y1 y2 y3) (logjamref25_sum.l0 (k + 1) y0 y1 y2 y3))
  | 0=>fun _ _ _ _ r h=>by simp [logjamref25_sum.l0] at h
  | k + 1=>by
    have ih0:=logjamref25_sum.mono_l k
    · intro y0 y1 y2 y3
      unfold logjamref25_sum.l0
      repeat' first
      | (with_reducible exact ih0 _ _ _ _)
      | (with_reducible exact LeO.refl _)
      | (with_reducible exact LeO.none _)
      | (with_reducible refine LeO.ite ?_ ?_)
      | (with_reducible refine LeO.bind ?_ (fun _=>?_))
      | exact ih0 _ _ _ _
      | exact LeO.none _
      | refine LeO.ite ?_ ?_
      | refine LeO.bind ?_ (fun _=>?_)
theorem logjamref25_sum.mono : ∀ a0 a1 k, LeO (logjamref25_sum.f k a0 a1) (logjamref25_sum.f (k + 1) a0 a1) := by
  intro a0 a1 k
  have ih0:=logjamref25_sum.mono_l k;unfold logjamref25_sum.f
  repeat' first
      | (with_reducible exact ih0 _ _ _ _)
      | (with_reducible exact LeO.refl _)
      | (with_reducible exact LeO.none _)
      | (with_reducible refine LeO.ite ?_ ?_)
      | (with_reducible refine LeO.bind ?_ (fun _=>?_))
      | exact ih0 _ _ _ _
      | exact LeO.none _
      | refine LeO.ite ?_ ?_
      | refine LeO.bind ?_ (fun _=>?_)
def logjamref25_sum.T5 : Bool × List (List Nat × List Nat) := (true, [([], []), ([], []), ([], []), ([1, 2], [1, 2]), ([3], [3]), ([], []), ([], []), ([5, 6], [5, 6]), ([7], [7]), ([4, 8], [4, 8]), ([9], [9]), ([0, 10], [0, 10]), ([11, 11, 0, 1, 2, 3, 4, 5, 6, 7, 8, 9, 10, 11], [0, 11])])
def logjamref25_sum.B5 : List Nat := [0, 0, 0, 6, 14, 0, 0, 96, 224, 510, 1022, 2047, 4095]
theorem logjamref25_sum.tab5 : rtab .any (opsOf Try.f52 5) = logjamref25_sum.T5 := by kernel_rfl
theorem logjamref25_sum.bits5 : waitsOk logjamref25_sum.T5.2 logjamref25_sum.B5 = true := by kernel_rfl
set_option maxHeartbeats 8000000 in
set_option maxRecDepth 100000 in
theorem logjamref25_sum.calls (k : Nat) (A0 : Option Addr) (c0 : Nat) (l0 : List Int) (A1 : Option Addr) (c1 : Nat) (l1 : List Int) (r : List Int) (w : World) (hr0 : Kd.C (Kd.int .i64) w A0 l0.length l0) (hc0 : l0.length ≤ c0) (hr1 : Kd.C (Kd.int .i64) w A1 l1.length l1) (hc1 : l1.length ≤ c1) (h : logjamref25_sum.f k l0 l1 = some r) :
    Calls Try.prog 52 #[.slice A0 l0.length c0,.slice A1 l1.length c1] w fun e w'=>∃ v0_ : Value,e = .returned (v0_) ∧ Kd.R (Kd.int .i64) 3 w' w.heap.size (fun _=>True) v0_ r ∧ Below w.heap.size w w':=by
  have HR0:=A0_ hr0;have HC0:=A0_ hc0;clear hr0 hc0;have HR1:=A0_ hr1;have HC1:=A0_ hc1;clear hr1 hc1;have HB:=A0_ (Below.refl w.heap.size w);have H : (logjamref25_sum.l0 k l0 l1 (([] : List Int)) 0) = some r:=h;clear h;obtain ⟨y306,hy306⟩ : ∃ y_ : List Int,y_ = (([] : List Int)):=⟨_,rfl⟩;replace H : (logjamref25_sum.l0 k l0 l1 y306 0) = some r:=by first|(rw [hy306];with_reducible exact H)|(have H2_:=(Option.bind_some _ _).symm.trans H;rw [hy306];with_reducible exact H2_)|(have H2_:=(Option.bind_some _ _).symm.trans H;with_reducible exact H2_)|with_reducible exact H|(rw [hy306];exact H)|exact H
  have Ny306:=A0_ hy306;clear hy306;have H':=A0_ H;clear H;go_enter Try.func52,Try.ntmps52;go_wp2_with (first|((with_reducible refine gate_dst (N:=7) rfl ?_);refine Kd.R_lit (Kd.int .i64) _ 3 ?hg (N:=7) ?hd (xs:=([] : List Int)) (inner:=[]) (ok:=fun _=>True) (okp:=fun _=>True) ?hr ?hp (fun _ hk=>hk) trivial (Below.refl _ _) (Nat.le_refl _) (by simp) ?_;(case hd=>rfl);(case hg=>rfl);(case hr=>first|(go_simp;done)|(go_simp;rfl));(case hp=>exact (Reps.none _ _));intro v307 w3 ho4 hb hg_ hnew_;clear hg_ hnew_;(first|rw [← Ny306.out] at ho4|(simp only [Int.reduceToNat] at ho4;rw [← Ny306.out] at ho4));have n0_:=A0_ (Kd.R_lower ho4 (below_size (by repeat (first|(with_reducible first|exact HB.out|apply ba_|apply pN_|apply b1_)|exact HB.out))));have n1_:=A0_ (below_step (by repeat (first|(with_reducible first|exact HB.out|apply ba_|apply pN_|apply b1_)|exact HB.out)) hb);clear HB;have HO308:=n0_;have HB:=n1_;clear n0_ n1_;clear hb ho4))
  go_loopg [5,6] k (fun kq v5 v6 w'=>∃ (x5_1 : List Int) (x6_1 : Int),v6 = .int .i64 x6_1 ∧ Aside0 (logjamref25_sum.l0 kq l0 l1 x5_1 x6_1 = some r) ∧ Aside0 (kq ≤ k) ∧ Aside0 (Kd.R (Kd.int .i64) 3 w' w.heap.size (fun _=>True) v5 x5_1) ∧ Aside0 (Below w.heap.size w w'))
  case atStart=>exact ⟨(y306),(0),(by first|rfl|(simp;done)|(simp [*];done)),H',⟨Nat.le_refl _⟩,⟨by (with_reducible repeat first|apply Ra_|apply Rn_|apply Rd_);exact HO308.out⟩,⟨by repeat (first|(with_reducible first|exact HB.out|apply ba_|apply pN_|apply b1_)|exact HB.out)⟩⟩
  case round =>
    clear H';(try clear c1);(try clear p2);obtain ⟨x5_1,x6_1,rfl,HA,HK1,HO_5,HB⟩:=hrel
    cases gk with
    | zero=>exact absurd HA.out (by simp [logjamref25_sum.l0])
    | succ k1 =>
      have H:=HA.out;clear HA;simp only [logjamref25_sum.l0] at H;by_cases c5 : x6_1 < (l0.length : Int);rotate_left
      · rw [if_neg c5] at H
        have c5b0 : decide (x6_1 < (l0.length : Int)) = false:=decide_eq_false c5;clear c5;obtain rfl:=Option.some.inj H;go_wp2;go_ret;exact ⟨_,by first|rfl|(simp [errW_none,errW_some] <;> rfl)|(simp [*,errW_none,errW_some] <;> rfl),by (with_reducible repeat first|apply Ra_|apply Rn_|apply Rd_);exact HO_5.out,by repeat (first|(with_reducible first|exact HB.out|apply ba_|apply pN_|apply b1_)|exact HB.out)⟩

      rw [if_pos c5] at H;have c5b0 : decide (x6_1 < (l0.length : Int)) = true:=decide_eq_true c5;clear c5;by_cases c6 : 0 ≤ x6_1;rotate_left
      · rw [if_neg c6] at H
        exact absurd H (by simp)
      rw [if_pos c6] at H;have c6b0 : decide (0 ≤ x6_1) = true:=decide_eq_true c6;clear c6;by_cases c7 : x6_1 < (l1.length : Int);rotate_left
      · rw [if_neg c7] at H
        exact absurd H (by simp)
      rw [if_pos c7] at H;have c7b0 : decide (x6_1 < (l1.length : Int)) = true:=decide_eq_true c7;clear c7;by_cases c8 : x5_1.length < 17592186044416;rotate_left
      · rw [if_neg c8] at H
        exact absurd H (by simp)
      rw [if_pos c8] at H;have LMc8:=A0_ c8;clear c8;obtain ⟨y311,hy311⟩ : ∃ y_ : List Int,y_ = (x5_1 ++ [wrap64 ((rd l0 x6_1) + (rd l1 x6_1))]):=⟨_,rfl⟩;replace H : (logjamref25_sum.l0 k1 l0 l1 y311 (wrap64 (x6_1 + 1))) = some r:=by first|(rw [hy311];with_reducible exact H)|(have H2_:=(Option.bind_some _ _).symm.trans H;rw [hy311];with_reducible exact H2_)|(have H2_:=(Option.bind_some _ _).symm.trans H;with_reducible exact H2_)|with_reducible exact H|(rw [hy311];exact H)|exact H
      have Ny311:=A0_ hy311;clear hy311;have H':=A0_ H;clear H
      try go_wp2
      have n0_:=A0_ (Kd.R_drew HO_5.out);have n1_:=A0_ (b1_ HB.out);clear HO_5;clear HB;have HO_5:=n0_;have HB:=n1_;clear n0_ n1_;have p309 : 0 ≤ (x6_1 : Int):=of_decide_eq_true (by first|(with_reducible assumption)|assumption);have q309 : x6_1 < (l0.length : Int):=of_decide_eq_true (by first|(with_reducible assumption)|assumption);obtain ⟨ad309,e309,hx309_0⟩:=Kd.at_int HR0.out x6_1 p309 q309;have hw309_0:=hx309_0;cases e309;replace hx309_0:=(HB.out.cell (bl_ w _ hx309_0)).trans hx309_0;replace p309:=eq_true p309;replace q309:=eq_true q309;have p310 : 0 ≤ (x6_1 : Int):=of_decide_eq_true (by first|(with_reducible assumption)|assumption);have q310 : x6_1 < (l1.length : Int):=of_decide_eq_true (by first|(with_reducible assumption)|assumption);obtain ⟨ad310,e310,hx310_0⟩:=Kd.at_int HR1.out x6_1 p310 q310;have hw310_0:=hx310_0;cases e310;replace hx310_0:=(HB.out.cell (bl_ w _ hx310_0)).trans hx310_0;replace p310:=eq_true p310;replace q310:=eq_true q310;refine start_ (n:=13) (S:=fun w'=>w'.cell? (ad309.add (x6_1).toNat) = some (.int .i64 (rd l0 x6_1)) ∧ w'.cell? (ad310.add (x6_1).toNat) = some (.int .i64 (rd l1 x6_1))) (ds:=[]) #[false,false,false,false,false,false,false,false,false,false,false,false,false] (by kernel_rfl) rfl rfl ⟨((HB.out.cell (bl_ w _ hw309_0)).trans hw309_0),((HB.out.cell (bl_ w _ hw310_0)).trans hw310_0)⟩ (fun hHeld=>?_);refine with_tabW logjamref25_sum.tab5 logjamref25_sum.bits5 (fun HT_ HW_=>?_)
      generalize wr.drew = w9 at HO_5 HB hx309_0 hx310_0 hHeld ⊢
      refine pure_ (i:=0) (N:=some 14) (v:=?_) (a':=?_) #[true,false,false,false,false,false,false,false,false,false,false,false,false] rfl rfl (any_of HT_.out (by kernel_rfl)) (fun _ _ _ h=>h) (Or.inl ⟨by rfl,?_⟩) ?_ ?_;rotate_left
      · intro w'
        go_simp
        with_reducible rfl
      rotate_left
      · simp only [Act.put,sA_,sZ_,sS_,i64_w,i32_w]
        rfl
      refine pure_ (i:=1) (N:=some 15) (v:=?_) (a':=?_) #[true,true,false,false,false,false,false,false,false,false,false,false,false] rfl rfl (any_of HT_.out (by kernel_rfl)) (fun _ _ _ h=>h) (Or.inl ⟨by rfl,?_⟩) ?_ ?_;rotate_left
      · intro w'
        go_simp
        with_reducible rfl
      rotate_left
      · simp only [Act.put,sA_,sZ_,sS_,i64_w,i32_w]
        rfl
      refine pure_ (i:=2) (N:=some 16) (v:=?_) (a':=?_) #[true,true,true,false,false,false,false,false,false,false,false,false,false] rfl rfl (any_of HT_.out (by kernel_rfl)) (fun _ _ _ h=>h) (Or.inl ⟨by rfl,?_⟩) ?_ ?_;rotate_left
      · intro w'
        go_simp
        with_reducible rfl
      rotate_left
      · simp only [Act.put,sA_,sZ_,sS_,i64_w,i32_w]
        rfl
      refine pure_ (i:=3) (N:=some 17) (v:=?_) (a':=?_) #[true,true,true,true,false,false,false,false,false,false,false,false,false] rfl rfl (any_of HT_.out (by kernel_rfl)) (fun _ _ _ h=>h) (Or.inl ⟨by rfl,?_⟩) ?_ ?_;rotate_left
      · intro w'
        go_simp
        with_reducible rfl
      rotate_left
      · simp only [Act.put,sA_,sZ_,sS_,i64_w,i32_w]
        rfl
      refine pure_ (i:=5) (N:=some 19) (v:=?_) (a':=?_) #[true,true,true,true,false,true,false,false,false,false,false,false,false] rfl rfl (any_of HT_.out (by kernel_rfl)) (fun _ _ _ h=>h) (Or.inl ⟨by rfl,?_⟩) ?_ ?_;rotate_left
      · intro w'
        go_simp
        with_reducible rfl
      rotate_left
      · simp only [Act.put,sA_,sZ_,sS_,i64_w,i32_w]
        rfl
      refine pure_ (i:=6) (N:=some 20) (v:=?_) (a':=?_) #[true,true,true,true,false,true,true,false,false,false,false,false,false] rfl rfl (any_of HT_.out (by kernel_rfl)) (fun _ _ _ h=>h) (Or.inl ⟨by rfl,?_⟩) ?_ ?_;rotate_left
      · intro w'
        go_simp
        with_reducible rfl
      rotate_left
      · simp only [Act.put,sA_,sZ_,sS_,i64_w,i32_w]
        rfl
      refine pure_ (i:=7) (N:=some 21) (v:=?_) (a':=?_) #[true,true,true,true,false,true,true,true,false,false,false,false,false] rfl rfl (any_of HT_.out (by kernel_rfl)) (fun _ _ _ h=>h) (Or.inl ⟨by rfl,?_⟩) ?_ ?_;rotate_left
      · intro w'
        go_simp
        with_reducible rfl
      rotate_left
      · simp only [Act.put,sA_,sZ_,sS_,i64_w,i32_w]
        rfl
      refine take_ (i:=4) (N:=some 18) (v:=?_) (a':=?_) #[true,true,true,true,true,true,true,true,false,false,false,false,false] rfl rfl (take_ofW HT_.out HW_.out (by kernel_rfl)) (fun _ _ _ h=>h) (Or.inl ⟨by rfl,?_⟩) hHeld ?_ ?_;rotate_left
      · rintro w' ⟨s0,s1⟩
        go_simp
        with_reducible rfl
      rotate_left
      · simp only [Act.put,sA_,sZ_,sS_,i64_w,i32_w]
        rfl
      refine take_ (i:=8) (N:=some 22) (v:=?_) (a':=?_) #[true,true,true,true,true,true,true,true,true,false,false,false,false] rfl rfl (take_ofW HT_.out HW_.out (by kernel_rfl)) (fun _ _ _ h=>h) (Or.inl ⟨by rfl,?_⟩) hHeld ?_ ?_;rotate_left
      · rintro w' ⟨s0,s1⟩
        go_simp
        with_reducible rfl
      rotate_left
      · simp only [Act.put,sA_,sZ_,sS_,i64_w,i32_w]
        rfl
      refine pure_ (i:=9) (N:=some 23) (v:=?_) (a':=?_) #[true,true,true,true,true,true,true,true,true,true,false,false,false] rfl rfl (any_of HT_.out (by kernel_rfl)) (fun _ _ _ h=>h) (Or.inl ⟨by rfl,?_⟩) ?_ ?_;rotate_left
      · intro w'
        go_simp
        with_reducible rfl
      rotate_left
      · simp only [Act.put,sA_,sZ_,sS_,i64_w,i32_w]
        rfl
      refine one_ (i:=10) (N:=some 24) #[true,true,true,true,true,true,true,true,true,true,true,false,false] rfl rfl (one_of HT_.out (by kernel_rfl)) (by decide) (fun K hK=>?_);refine value_ (w1:=?_) (v:=?_) (by rfl) rfl ?_ ?_;rotate_left 2
      · go_simp
        constructor
        · rfl
        · rfl
      refine hK.out _ _ ⟨(World.cell?_alloc_lt _ _ _ (bl_ _ _ (((HB.out.cell (bl_ w _ hw309_0)).trans hw309_0)))).trans (((HB.out.cell (bl_ w _ hw309_0)).trans hw309_0)),(World.cell?_alloc_lt _ _ _ (bl_ _ _ (((HB.out.cell (bl_ w _ hw310_0)).trans hw310_0)))).trans (((HB.out.cell (bl_ w _ hw310_0)).trans hw310_0))⟩ (fun hHeld=>?_);clear hK K;refine norm_ (a':=?_) ?_ ?_;rotate_left
      · show Act.put _ (some 24) _ = _
        simp only [Act.put,sA_,sZ_,sS_,i64_w,i32_w]
        rfl
      refine one_ (i:=11) (N:=some 25) #[true,true,true,true,true,true,true,true,true,true,true,true,false] rfl rfl (one_of HT_.out (by kernel_rfl)) (by decide) (fun K hK=>?_);refine Kd.R_append_step (Kd.int .i64) (w0:=w) w.heap.size (by rfl) (.tmp 14) (.tmp 24) 23 3 (.int .i64 0) 8 rfl Try.underlying23 info3 rfl (by decide) (by omega) u5 x5_1 (wrap64 ((rd l0 x6_1) + (rd l1 x6_1))) [.int .i64 (wrap64 ((rd l0 x6_1) + (rd l1 x6_1)))] (fun _=>True) (fun _=>False) rfl rfl ?aP (fun _ hk=>hk.elim) ?aF ?aO ?aB ?aS ?aL ?_
      (case aP=>exact rfl)
      (case aB=>exact (by repeat (first|(with_reducible first|exact HB.out|apply ba_|apply pN_|apply b1_)|exact HB.out)))
      (case aF=>exact (fun _ _=>trivial))
      (case aO=>exact (by (with_reducible repeat first|apply Ra_|apply Rn_|apply Rd_);exact HO_5.out))
      (case aS=>exact (below_size (by repeat (first|(with_reducible first|exact HB.out|apply ba_|apply pN_|apply b1_)|exact HB.out))))
      (case aL=>have:=LMc8.out;omega)
      intro v312 w10 ho hb hg hat
      rw [← Ny311.out] at ho;have n0_:=A0_ (hb);have n1_:=A0_ (ho);clear HB;clear HO_5;have HB:=n0_;have HO313:=n1_;clear n0_ n1_;clear ho hb hg hat;refine hK.out _ _ ⟨((HB.out.cell (bl_ w _ hw309_0)).trans hw309_0),((HB.out.cell (bl_ w _ hw310_0)).trans hw310_0)⟩ (fun hHeld=>?_);clear hK K;refine norm_ (a':=?_) ?_ ?_;rotate_left
      · show Act.put _ (some 25) _ = _
        simp only [Act.put,sA_,sZ_,sS_,i64_w,i32_w]
        rfl
      refine pure_ (i:=12) (N:=some 5) (v:=?_) (a':=?_) #[true,true,true,true,true,true,true,true,true,true,true,true,true] rfl rfl (any_of HT_.out (by kernel_rfl)) (fun _ _ _ h=>h) (Or.inl ⟨by rfl,?_⟩) ?_ ?_;rotate_left
      · intro w'
        go_simp
        with_reducible rfl
      rotate_left
      · simp only [Act.put,sA_,sZ_,sS_,i64_w,i32_w]
        rfl
      refine done_ (done_of HT_.out (by kernel_rfl)) ?_
      try go_wp2
      go_roundg k1
      case measure=>have:=HK1.out;omega
      case rel=>exact ⟨(y311),(wrap64 (x6_1 + 1)),(by first|rfl|(simp;done)|(simp [*];done)),H',⟨by have:=HK1.out;omega⟩,⟨by (with_reducible repeat first|apply Ra_|apply Rn_|apply Rd_);exact HO313.out⟩,⟨by repeat (first|(with_reducible first|exact HB.out|apply ba_|apply pN_|apply b1_)|exact HB.out)⟩⟩
end Go.Proofs.Ytlggjacghemakaa.PClaimBack
