/- Go functions as plain Lean functions, and that the calls come to them. Conditions: none. (Written by a program of this session.) -/
import Derived.Test.YtlggjacghemakaaPClaimTellsx0
import Derived.Test.YtlggjacghemakaaPClaimTellsx10
namespace Go.Proofs.Ytlggjacghemakaa.PClaimTells
open Go.RowKit Go.Proofs.YtlggjacghemakaaW.PrintWords Go.Proofs.YtlggjacghemakaaW.PrintLast Go.Proofs.YtlggjacghemakaaW.PrintMore
attribute [local go_sem] max2_int min2_int max_two min_two max_three min_three max_four min_four   -- for this text's walks alone
set_option linter.unusedVariables false
set_option linter.unusedSimpArgs false

/-! ### logjamref25_sum: function 52 -/
def logjamref25_sum.l0 : Nat → List Int → List Int → List Int → Int → Option (List Int)
  | 0,_,_,_,_=>none
  | k + 1,x0,x1,x5,x6=>if x6 < (x0.length : Int) then (if 0 ≤ x6 then (if x6 < (x1.length : Int) then (if x5.length < 17592186044416 then (logjamref25_sum.l0 k x0 x1 (x5 ++ [wrap64 ((rd x0 x6) + (rd x1 x6))]) (wrap64 (x6 + 1))) else (none)) else (none)) else (none)) else (some x5)
def logjamref25_sum.f (k : Nat) (l0 : List Int) (l1 : List Int) : Option (List Int) := logjamref25_sum.l0 k l0 l1 (([] : List Int)) 0
theorem logjamref25_sum.mono_l : ∀ k, (∀ y0 y1 y2 y3, LeO (logjamref25_sum.l0 k y0 y1 y2 y3) (logjamref25_sum.l0 (k + 1) y0 y1 y2 y3))
  | 0=>fun _ _ _ _ r h=>by simp [logjamref25_sum.l0] at h
  | k + 1=>by
    have ih0:=logjamref25_sum.mono_l k
    · intro y0 y1 y2 y3
      unfold logjamref25_sum.l0
      repeat' first
      | (with_reducible exact ih0 _ _ _ _)
      | (with_reducible exact LeO.refl _)
      | (with_reducible exact LeO.none _)
      | (with_reducible refine LeO.ite ?_ ?_)
      | (with_reducible refine LeO.bind ?_ (fun _=>?_))
      | exact ih0 _ _ _ _
      | exact LeO.none _
      | refine LeO.ite ?_ ?_
      | refine LeO.bind ?_ (fun _=>?_)
theorem logjamref25_sum.mono : ∀ a0 a1 k, LeO (logjamref25_sum.f k a0 a1) (logjamref25_sum.f (k + 1) a0 a1) := by
  intro a0 a1 k
  have ih0:=logjamref25_sum.mono_l k;unfold logjamref25_sum.f
  repeat' first
      | (with_reducible exact ih0 _ _ _ _)
      | (with_reducible exact LeO.refl _)
      | (with_reducible exact LeO.none _)
      | (with_reducible refine LeO.ite ?_ ?_)
      | (with_reducible refine LeO.bind ?_ (fun _=>?_))
      | exact ih0 _ _ _ _
      | exact LeO.none _
      | refine LeO.ite ?_ ?_
      | refine LeO.bind ?_ (fun _=>?_)
def logjamref25_sum.T5 : Bool × List (List Nat × List Nat) := (true, [([], []), ([], []), ([], []), ([1, 2], [1, 2]), ([3], [3]), ([], []), ([], []), ([5, 6], [5, 6]), ([7], [7]), ([4, 8], [4, 8]), ([9], [9]), ([0, 10], [0, 10]), ([11, 11, 0, 1, 2, 3, 4, 5, 6, 7, 8, 9, 10, 11], [0, 11])])
def logjamref25_sum.B5 : List Nat := [0, 0, 0, 6, 14, 0, 0, 96, 224, 510, 1022, 2047, 4095]
theorem logjamref25_sum.tab5 : rtab .any (opsOf Try.f52 5) = logjamref25_sum.T5 := by kernel_rfl
theorem logjamref25_sum.bits5 : waitsOk logjamref25_sum.T5.2 logjamref25_sum.B5 = true := by kernel_rfl
set_option maxHeartbeats 8000000 in
set_option maxRecDepth 100000 in
theorem logjamref25_sum.calls (k : Nat) (A0 : Option Addr) (c0 : Nat) (l0 : List Int) (A1 : Option Addr) (c1 : Nat) (l1 : List Int) (r : List Int) (w : World) (hr0 : Kd.C (Kd.int .i64) w A0 l0.length l0) (hc0 : l0.length ≤ c0) (hr1 : Kd.C (Kd.int .i64) w A1 l1.length l1) (hc1 : l1.length ≤ c1) (h : logjamref25_sum.f k l0 l1 = some r) :
    Calls Try.prog 52 #[.slice A0 l0.length c0,.slice A1 l1.length c1] w fun e w'=>∃ v0_ : Value,e = .returned (v0_) ∧ Kd.R (Kd.int .i64) 3 w' w.heap.size (fun _=>True) v0_ r ∧ Below w.heap.size w w':=by
  have HR0:=A0_ hr0;have HC0:=A0_ hc0;clear hr0 hc0;have HR1:=A0_ hr1;have HC1:=A0_ hc1;clear hr1 hc1;have HB:=A0_ (Below.refl w.heap.size w);have H : (logjamref25_sum.l0 k l0 l1 (([] : List Int)) 0) = some r:=h;clear h;obtain ⟨y309,hy309⟩ : ∃ y_ : List Int,y_ = (([] : List Int)):=⟨_,rfl⟩;replace H : (logjamref25_sum.l0 k l0 l1 y309 0) = some r:=by first|(rw [hy309];with_reducible exact H)|(have H2_:=(Option.bind_some _ _).symm.trans H;rw [hy309];with_reducible exact H2_)|(have H2_:=(Option.bind_some _ _).symm.trans H;with_reducible exact H2_)|with_reducible exact H|(rw [hy309];exact H)|exact H
  have Ny309:=A0_ hy309;clear hy309;have H':=A0_ H;clear H;go_enter Try.func52,Try.ntmps52;go_wp2_with (first|((with_reducible refine gate_dst (N:=7) rfl ?_);refine Kd.R_lit (Kd.int .i64) _ 3 ?hg (N:=7) ?hd (xs:=([] : List Int)) (inner:=[]) (ok:=fun _=>True) (okp:=fun _=>True) ?hr ?hp (fun _ hk=>hk) trivial (Below.refl _ _) (Nat.le_refl _) (by simp) ?_;(case hd=>rfl);(case hg=>rfl);(case hr=>first|(go_simp;done)|(go_simp;rfl));(case hp=>exact (Reps.none _ _));intro v310 w3 ho4 hb hg_ hnew_;clear hg_ hnew_;(first|rw [← Ny309.out] at ho4|(simp only [Int.reduceToNat] at ho4;rw [← Ny309.out] at ho4));have n0_:=A0_ (Kd.R_lower ho4 (below_size (by repeat (first|(with_reducible first|exact HB.out|apply ba_|apply pN_|apply b1_)|exact HB.out))));have n1_:=A0_ (below_step (by repeat (first|(with_reducible first|exact HB.out|apply ba_|apply pN_|apply b1_)|exact HB.out)) hb);clear HB;have HO311:=n0_;have HB:=n1_;clear n0_ n1_;clear hb ho4))
  go_loopg [5,6] k (fun kq v5 v6 w'=>∃ (x5_1 : List Int) (x6_1 : Int),v6 = .int .i64 x6_1 ∧ Aside0 (logjamref25_sum.l0 kq l0 l1 x5_1 x6_1 = some r) ∧ Aside0 (kq ≤ k) ∧ Aside0 (Kd.R (Kd.int .i64) 3 w' w.heap.size (fun _=>True) v5 x5_1) ∧ Aside0 (Below w.heap.size w w'))
  case atStart=>exact ⟨(y309),(0),(by first|rfl|(simp;done)|(simp [*];done)),H',⟨Nat.le_refl _⟩,⟨by (with_reducible repeat first|apply Ra_|apply Rn_|apply Rd_);exact HO311.out⟩,⟨by repeat (first|(with_reducible first|exact HB.out|apply ba_|apply pN_|apply b1_)|exact HB.out)⟩⟩
  case round =>
    clear H';(try clear c1);(try clear p2);obtain ⟨x5_1,x6_1,rfl,HA,HK1,HO_5,HB⟩:=hrel
    cases gk with
    | zero=>exact absurd HA.out (by simp [logjamref25_sum.l0])
    | succ k1 =>
      have H:=HA.out;clear HA;simp only [logjamref25_sum.l0] at H;by_cases c5 : x6_1 < (l0.length : Int);rotate_left
      · rw [if_neg c5] at H
        have c5b0 : decide (x6_1 < (l0.length : Int)) = false:=decide_eq_false c5;clear c5;obtain rfl:=Option.some.inj H;go_wp2;go_ret;exact ⟨_,by first|rfl|(simp [errW_none,errW_some] <;> rfl)|(simp [*,errW_none,errW_some] <;> rfl),by (with_reducible repeat first|apply Ra_|apply Rn_|apply Rd_);exact HO_5.out,by repeat (first|(with_reducible first|exact HB.out|apply ba_|apply pN_|apply b1_)|exact HB.out)⟩

      rw [if_pos c5] at H;have c5b0 : decide (x6_1 < (l0.length : Int)) = true:=decide_eq_true c5;clear c5;by_cases c6 : 0 ≤ x6_1;rotate_left
      · rw [if_neg c6] at H
        exact absurd H (by simp)
      rw [if_pos c6] at H;have c6b0 : decide (0 ≤ x6_1) = true:=decide_eq_true c6;clear c6;by_cases c7 : x6_1 < (l1.length : Int);rotate_left
      · rw [if_neg c7] at H
        exact absurd H (by simp)
      rw [if_pos c7] at H;have c7b0 : decide (x6_1 < (l1.length : Int)) = true:=decide_eq_true c7;clear c7;by_cases c8 : x5_1.length < 17592186044416;rotate_left
      · rw [if_neg c8] at H
        exact absurd H (by simp)
      rw [if_pos c8] at H;have LMc8:=A0_ c8;clear c8;obtain ⟨y314,hy314⟩ : ∃ y_ : List Int,y_ = (x5_1 ++ [wrap64 ((rd l0 x6_1) + (rd l1 x6_1))]):=⟨_,rfl⟩;replace H : (logjamref25_sum.l0 k1 l0 l1 y314 (wrap64 (x6_1 + 1))) = some r:=by first|(rw [hy314];with_reducible exact H)|(have H2_:=(Option.bind_some _ _).symm.trans H;rw [hy314];with_reducible exact H2_)|(have H2_:=(Option.bind_some _ _).symm.trans H;with_reducible exact H2_)|with_reducible exact H|(rw [hy314];exact H)|exact H
      have Ny314:=A0_ hy314;clear hy314;have H':=A0_ H;clear H
      try go_wp2
      have n0_:=A0_ (Kd.R_drew HO_5.out);have n1_:=A0_ (b1_ HB.out);clear HO_5;clear HB;have HO_5:=n0_;have HB:=n1_;clear n0_ n1_;have p312 : 0 ≤ (x6_1 : Int):=of_decide_eq_true (by first|(with_reducible assumption)|assumption);have q312 : x6_1 < (l0.length : Int):=of_decide_eq_true (by first|(with_reducible assumption)|assumption);obtain ⟨ad312,e312,hx312_0⟩:=Kd.at_int HR0.out x6_1 p312 q312;have hw312_0:=hx312_0;cases e312;replace hx312_0:=(HB.out.cell (bl_ w _ hx312_0)).trans hx312_0;replace p312:=eq_true p312;replace q312:=eq_true q312;have p313 : 0 ≤ (x6_1 : Int):=of_decide_eq_true (by first|(with_reducible assumption)|assumption);have q313 : x6_1 < (l1.length : Int):=of_decide_eq_true (by first|(with_reducible assumption)|assumption);obtain ⟨ad313,e313,hx313_0⟩:=Kd.at_int HR1.out x6_1 p313 q313;have hw313_0:=hx313_0;cases e313;replace hx313_0:=(HB.out.cell (bl_ w _ hx313_0)).trans hx313_0;replace p313:=eq_true p313;replace q313:=eq_true q313;refine start_ (n:=13) (S:=fun w'=>w'.cell? (ad312.add (x6_1).toNat) = some (.int .i64 (rd l0 x6_1)) ∧ w'.cell? (ad313.add (x6_1).toNat) = some (.int .i64 (rd l1 x6_1))) (ds:=[]) #[false,false,false,false,false,false,false,false,false,false,false,false,false] (by kernel_rfl) rfl rfl ⟨((HB.out.cell (bl_ w _ hw312_0)).trans hw312_0),((HB.out.cell (bl_ w _ hw313_0)).trans hw313_0)⟩ (fun hHeld=>?_);refine with_tabW logjamref25_sum.tab5 logjamref25_sum.bits5 (fun HT_ HW_=>?_)
      generalize wr.drew = w9 at HO_5 HB hx312_0 hx313_0 hHeld ⊢
      refine pure_ (i:=0) (N:=some 14) (v:=?_) (a':=?_) #[true,false,false,false,false,false,false,false,false,false,false,false,false] rfl rfl (any_of HT_.out (by kernel_rfl)) (fun _ _ _ h=>h) (Or.inl ⟨by rfl,?_⟩) ?_ ?_;rotate_left
      · intro w'
        go_simp
        with_reducible rfl
      rotate_left
      · simp only [Act.put,sA_,sZ_,sS_,i64_w,i32_w]
        rfl
      refine pure_ (i:=1) (N:=some 15) (v:=?_) (a':=?_) #[true,true,false,false,false,false,false,false,false,false,false,false,false] rfl rfl (any_of HT_.out (by kernel_rfl)) (fun _ _ _ h=>h) (Or.inl ⟨by rfl,?_⟩) ?_ ?_;rotate_left
      · intro w'
        go_simp
        with_reducible rfl
      rotate_left
      · simp only [Act.put,sA_,sZ_,sS_,i64_w,i32_w]
        rfl
      refine pure_ (i:=2) (N:=some 16) (v:=?_) (a':=?_) #[true,true,true,false,false,false,false,false,false,false,false,false,false] rfl rfl (any_of HT_.out (by kernel_rfl)) (fun _ _ _ h=>h) (Or.inl ⟨by rfl,?_⟩) ?_ ?_;rotate_left
      · intro w'
        go_simp
        with_reducible rfl
      rotate_left
      · simp only [Act.put,sA_,sZ_,sS_,i64_w,i32_w]
        rfl
      refine pure_ (i:=3) (N:=some 17) (v:=?_) (a':=?_) #[true,true,true,true,false,false,false,false,false,false,false,false,false] rfl rfl (any_of HT_.out (by kernel_rfl)) (fun _ _ _ h=>h) (Or.inl ⟨by rfl,?_⟩) ?_ ?_;rotate_left
      · intro w'
        go_simp
        with_reducible rfl
      rotate_left
      · simp only [Act.put,sA_,sZ_,sS_,i64_w,i32_w]
        rfl
      refine pure_ (i:=5) (N:=some 19) (v:=?_) (a':=?_) #[true,true,true,true,false,true,false,false,false,false,false,false,false] rfl rfl (any_of HT_.out (by kernel_rfl)) (fun _ _ _ h=>h) (Or.inl ⟨by rfl,?_⟩) ?_ ?_;rotate_left
      · intro w'
        go_simp
        with_reducible rfl
      rotate_left
      · simp only [Act.put,sA_,sZ_,sS_,i64_w,i32_w]
        rfl
      refine pure_ (i:=6) (N:=some 20) (v:=?_) (a':=?_) #[true,true,true,true,false,true,true,false,false,false,false,false,false] rfl rfl (any_of HT_.out (by kernel_rfl)) (fun _ _ _ h=>h) (Or.inl ⟨by rfl,?_⟩) ?_ ?_;rotate_left
      · intro w'
        go_simp
        with_reducible rfl
      rotate_left
      · simp only [Act.put,sA_,sZ_,sS_,i64_w,i32_w]
        rfl
      refine pure_ (i:=7) (N:=some 21) (v:=?_) (a':=?_) #[true,true,true,true,false,true,true,true,false,false,false,false,false] rfl rfl (any_of HT_.out (by kernel_rfl)) (fun _ _ _ h=>h) (Or.inl ⟨by rfl,?_⟩) ?_ ?_;rotate_left
      · intro w'
        go_simp
        with_reducible rfl
      rotate_left
      · simp only [Act.put,sA_,sZ_,sS_,i64_w,i32_w]
        rfl
      refine take_ (i:=4) (N:=some 18) (v:=?_) (a':=?_) #[true,true,true,true,true,true,true,true,false,false,false,false,false] rfl rfl (take_ofW HT_.out HW_.out (by kernel_rfl)) (fun _ _ _ h=>h) (Or.inl ⟨by rfl,?_⟩) hHeld ?_ ?_;rotate_left
      · rintro w' ⟨s0,s1⟩
        go_simp
        with_reducible rfl
      rotate_left
      · simp only [Act.put,sA_,sZ_,sS_,i64_w,i32_w]
        rfl
      refine take_ (i:=8) (N:=some 22) (v:=?_) (a':=?_) #[true,true,true,true,true,true,true,true,true,false,false,false,false] rfl rfl (take_ofW HT_.out HW_.out (by kernel_rfl)) (fun _ _ _ h=>h) (Or.inl ⟨by rfl,?_⟩) hHeld ?_ ?_;rotate_left
      · rintro w' ⟨s0,s1⟩
        go_simp
        with_reducible rfl
      rotate_left
      · simp only [Act.put,sA_,sZ_,sS_,i64_w,i32_w]
        rfl
      refine pure_ (i:=9) (N:=some 23) (v:=?_) (a':=?_) #[true,true,true,true,true,true,true,true,true,true,false,false,false] rfl rfl (any_of HT_.out (by kernel_rfl)) (fun _ _ _ h=>h) (Or.inl ⟨by rfl,?_⟩) ?_ ?_;rotate_left
      · intro w'
        go_simp
        with_reducible rfl
      rotate_left
      · simp only [Act.put,sA_,sZ_,sS_,i64_w,i32_w]
        rfl
      refine one_ (i:=10) (N:=some 24) #[true,true,true,true,true,true,true,true,true,true,true,false,false] rfl rfl (one_of HT_.out (by kernel_rfl)) (by decide) (fun K hK=>?_);refine value_ (w1:=?_) (v:=?_) (by rfl) rfl ?_ ?_;rotate_left 2
      · go_simp
        constructor
        · rfl
        · rfl
      refine hK.out _ _ ⟨(World.cell?_alloc_lt _ _ _ (bl_ _ _ (((HB.out.cell (bl_ w _ hw312_0)).trans hw312_0)))).trans (((HB.out.cell (bl_ w _ hw312_0)).trans hw312_0)),(World.cell?_alloc_lt _ _ _ (bl_ _ _ (((HB.out.cell (bl_ w _ hw313_0)).trans hw313_0)))).trans (((HB.out.cell (bl_ w _ hw313_0)).trans hw313_0))⟩ (fun hHeld=>?_);clear hK K;refine norm_ (a':=?_) ?_ ?_;rotate_left
      · show Act.put _ (some 24) _ = _
        simp only [Act.put,sA_,sZ_,sS_,i64_w,i32_w]
        rfl
      refine one_ (i:=11) (N:=some 25) #[true,true,true,true,true,true,true,true,true,true,true,true,false] rfl rfl (one_of HT_.out (by kernel_rfl)) (by decide) (fun K hK=>?_);refine Kd.R_append_step (Kd.int .i64) (w0:=w) w.heap.size (by rfl) (.tmp 14) (.tmp 24) 23 3 (.int .i64 0) 8 rfl Try.underlying23 info3 rfl (by decide) (by omega) u5 x5_1 (wrap64 ((rd l0 x6_1) + (rd l1 x6_1))) [.int .i64 (wrap64 ((rd l0 x6_1) + (rd l1 x6_1)))] (fun _=>True) (fun _=>False) rfl rfl ?aP (fun _ hk=>hk.elim) ?aF ?aO ?aB ?aS ?aL ?_
      (case aP=>exact rfl)
      (case aB=>exact (by repeat (first|(with_reducible first|exact HB.out|apply ba_|apply pN_|apply b1_)|exact HB.out)))
      (case aF=>exact (fun _ _=>trivial))
      (case aO=>exact (by (with_reducible repeat first|apply Ra_|apply Rn_|apply Rd_);exact HO_5.out))
      (case aS=>exact (below_size (by repeat (first|(with_reducible first|exact HB.out|apply ba_|apply pN_|apply b1_)|exact HB.out))))
      (case aL=>have:=LMc8.out;omega)
      intro v315 w10 ho hb hg hat
      rw [← Ny314.out] at ho;have n0_:=A0_ (hb);have n1_:=A0_ (ho);clear HB;clear HO_5;have HB:=n0_;have HO316:=n1_;clear n0_ n1_;clear ho hb hg hat;refine hK.out _ _ ⟨((HB.out.cell (bl_ w _ hw312_0)).trans hw312_0),((HB.out.cell (bl_ w _ hw313_0)).trans hw313_0)⟩ (fun hHeld=>?_);clear hK K;refine norm_ (a':=?_) ?_ ?_;rotate_left
      · show Act.put _ (some 25) _ = _
        simp only [Act.put,sA_,sZ_,sS_,i64_w,i32_w]
        rfl
      refine pure_ (i:=12) (N:=some 5) (v:=?_) (a':=?_) #[true,true,true,true,true,true,true,true,true,true,true,true,true] rfl rfl (any_of HT_.out (by kernel_rfl)) (fun _ _ _ h=>h) (Or.inl ⟨by rfl,?_⟩) ?_ ?_;rotate_left
      · intro w'
        go_simp
        with_reducible rfl
      rotate_left
      · simp only [Act.put,sA_,sZ_,sS_,i64_w,i32_w]
        rfl
      refine done_ (done_of HT_.out (by kernel_rfl)) ?_
      try go_wp2
      go_roundg k1
      case measure=>have:=HK1.out;omega
      case rel=>exact ⟨(y314),(wrap64 (x6_1 + 1)),(by first|rfl|(simp;done)|(simp [*];done)),H',⟨by have:=HK1.out;omega⟩,⟨by (with_reducible repeat first|apply Ra_|apply Rn_|apply Rd_);exact HO316.out⟩,⟨by repeat (first|(with_reducible first|exact HB.out|apply ba_|apply pN_|apply b1_)|exact HB.out)⟩⟩
/-! ### logjamref25_Order: function 32 -/
mutual
def logjamref25_Order.l0 : Nat → List Int → List Int → List Int → List (List Int) → List (List Int) → Option (List Int × Bool)
  | 0,_,_,_,_,_=>none
  | k + 1,x4,x5,x318000,x318001,x318002=>logjamref25_Order.l1 k x4 x5 (-1) (wrap64 ((x318001.length : Int) - 1)) x318000 x318001 x318002
def logjamref25_Order.l1 : Nat → List Int → List Int → Int → Int → List Int → List (List Int) → List (List Int) → Option (List Int × Bool)
  | 0,_,_,_,_,_,_,_=>none
  | k + 1,x4,x5,x6,x7,x318000,x318001,x318002=>if x7 ≥ 0 then ((logjamref25_has.f k x5 x7).bind fun t328=>(if t328 = true then (logjamref25_Order.l1 k x4 x5 x6 (wrap64 (x7 - 1)) x318000 x318001 x318002) else ((logjamref25_Left.f k x318000 x318001 x318002 x7).bind fun t329=>((logjamref25_Under.f k t329 x4).bind fun t332=>(if t332 = true then (logjamref25_Order.l1 k x4 x5 x7 (wrap64 (x7 - 1)) x318000 x318001 x318002) else (logjamref25_Order.l1 k x4 x5 x6 (wrap64 (x7 - 1)) x318000 x318001 x318002)))))) else (if x6 < 0 then (some (x5,((x5.length : Int) == (x318001.length : Int)))) else (if x5.length < 17592186044416 then (if 0 ≤ x6 then (if x6 < (x318001.length : Int) then ((logjamref25_sum.f k x4 (rd_L1 x318001 x6)).bind fun t325=>(logjamref25_Order.l0 k t325 (x5 ++ [x6]) x318000 x318001 x318002)) else (none)) else (none)) else (none)))
end
def logjamref25_Order.f (k : Nat) (l0_0 : List Int) (l0_1 : List (List Int)) (l0_2 : List (List Int)) : Option (List Int × Bool) := logjamref25_Order.l0 k l0_0 (([] : List Int)) l0_0 l0_1 l0_2
theorem logjamref25_Order.mono_l : ∀ k, (∀ y0 y1 y2 y3 y4, LeO (logjamref25_Order.l0 k y0 y1 y2 y3 y4) (logjamref25_Order.l0 (k + 1) y0 y1 y2 y3 y4)) ∧ (∀ y0 y1 y2 y3 y4 y5 y6, LeO (logjamref25_Order.l1 k y0 y1 y2 y3 y4 y5 y6) (logjamref25_Order.l1 (k + 1) y0 y1 y2 y3 y4 y5 y6))
  | 0=>⟨fun _ _ _ _ _ r h=>by simp [logjamref25_Order.l0] at h,fun _ _ _ _ _ _ _ r h=>by simp [logjamref25_Order.l1] at h⟩
  | k + 1=>by
    obtain ⟨ih0,ih1⟩:=logjamref25_Order.mono_l k;refine ⟨?_,?_⟩
    all_goals intros
    all_goals first | unfold logjamref25_Order.l0 | unfold logjamref25_Order.l1
    all_goals
      repeat' first
      | (with_reducible exact ih0 _ _ _ _ _)
      | (with_reducible exact ih1 _ _ _ _ _ _ _)
      | (with_reducible exact logjamref25_Left.mono _ _ _ _ _)
      | (with_reducible exact logjamref25_Under.mono _ _ _)
      | (with_reducible exact logjamref25_has.mono _ _ _)
      | (with_reducible exact logjamref25_sum.mono _ _ _)
      | (with_reducible exact LeO.refl _)
      | (with_reducible exact LeO.none _)
      | (with_reducible refine LeO.ite ?_ ?_)
      | (with_reducible refine LeO.bind ?_ (fun _=>?_))
      | exact ih0 _ _ _ _ _
      | exact ih1 _ _ _ _ _ _ _
      | exact logjamref25_Left.mono _ _ _ _ _
      | exact logjamref25_Under.mono _ _ _
      | exact logjamref25_has.mono _ _ _
      | exact logjamref25_sum.mono _ _ _
      | exact LeO.none _
      | refine LeO.ite ?_ ?_
      | refine LeO.bind ?_ (fun _=>?_)
theorem logjamref25_Order.mono : ∀ a0 a1 a2 k, LeO (logjamref25_Order.f k a0 a1 a2) (logjamref25_Order.f (k + 1) a0 a1 a2) := by
  intro a0 a1 a2 k
  obtain ⟨ih0,ih1⟩:=logjamref25_Order.mono_l k;unfold logjamref25_Order.f
  repeat' first
      | (with_reducible exact ih0 _ _ _ _ _)
      | (with_reducible exact ih1 _ _ _ _ _ _ _)
      | (with_reducible exact logjamref25_Left.mono _ _ _ _ _)
      | (with_reducible exact logjamref25_Under.mono _ _ _)
      | (with_reducible exact logjamref25_has.mono _ _ _)
      | (with_reducible exact logjamref25_sum.mono _ _ _)
      | (with_reducible exact LeO.refl _)
      | (with_reducible exact LeO.none _)
      | (with_reducible refine LeO.ite ?_ ?_)
      | (with_reducible refine LeO.bind ?_ (fun _=>?_))
      | exact ih0 _ _ _ _ _
      | exact ih1 _ _ _ _ _ _ _
      | exact logjamref25_Left.mono _ _ _ _ _
      | exact logjamref25_Under.mono _ _ _
      | exact logjamref25_has.mono _ _ _
      | exact logjamref25_sum.mono _ _ _
      | exact LeO.none _
      | refine LeO.ite ?_ ?_
      | refine LeO.bind ?_ (fun _=>?_)
def logjamref25_Order.T9 : Bool × List (List Nat × List Nat) := (true, [([], []), ([], []), ([1], [1]), ([], []), ([3], [3]), ([4], [4]), ([2, 5], [2, 5]), ([0, 0], [0]), ([6, 7, 0, 1, 2, 3, 4, 5, 6, 7], [6])])
def logjamref25_Order.B9 : List Nat := [0, 0, 2, 0, 8, 24, 62, 1, 255]
theorem logjamref25_Order.tab9 : rtab .any (opsOf Try.f32 9) = logjamref25_Order.T9 := by kernel_rfl
theorem logjamref25_Order.bits9 : waitsOk logjamref25_Order.T9.2 logjamref25_Order.B9 = true := by kernel_rfl
def logjamref25_Order.T10 : Bool × List (List Nat × List Nat) := (true, [([], []), ([], []), ([1], [1]), ([0, 2], [0, 2]), ([], []), ([], []), ([5], [5]), ([], []), ([6, 7], [6, 7]), ([8], [8]), ([4, 9, 3], [4, 9]), ([3, 10, 0, 1, 2, 3], [0, 3]), ([10, 11, 0, 1, 2, 3, 4, 5, 6, 7, 8, 9, 10, 11], [4, 10])])
def logjamref25_Order.B10 : List Nat := [0, 0, 2, 7, 0, 0, 32, 0, 224, 480, 1023, 2047, 4095]
theorem logjamref25_Order.tab10 : rtab .any (opsOf Try.f32 10) = logjamref25_Order.T10 := by kernel_rfl
theorem logjamref25_Order.bits10 : waitsOk logjamref25_Order.T10.2 logjamref25_Order.B10 = true := by kernel_rfl
set_option maxHeartbeats 8000000 in
set_option maxRecDepth 100000 in
theorem logjamref25_Order.calls (k : Nat) (P0_0_ : Nat → Prop) (A0_0 : Option Addr) (c0_0 : Nat) (l0_0 : List Int) (A0_1 : Option Addr) (c0_1 : Nat) (l0_1 : List (List Int)) (A0_2 : Option Addr) (c0_2 : Nat) (l0_2 : List (List Int)) (r1 : List Int) (r2 : Bool) (w : World) (hs0_0 : Kd.V (Kd.int .i64) 3 w w.heap.size (fun k_ => P0_0_ k_) (.slice A0_0 l0_0.length c0_0) l0_0) (hr0_1 : Kd.C (Kd.slice 3 (Kd.int .i64)) w A0_1 l0_1.length l0_1) (hc0_1 : l0_1.length ≤ c0_1) (hr0_2 : Kd.C (Kd.slice 3 (Kd.int .i64)) w A0_2 l0_2.length l0_2) (hc0_2 : l0_2.length ≤ c0_2) (h : logjamref25_Order.f k l0_0 l0_1 l0_2 = some (r1, r2)) :
    Calls Try.prog 32 #[.agg #[.slice A0_0 l0_0.length c0_0,.slice A0_1 l0_1.length c0_1,.slice A0_2 l0_2.length c0_2]] w fun e w'=>∃ v0_ : Value,e = .returned (.tuple #[v0_,.bool r2]) ∧ Kd.R (Kd.int .i64) 3 w' w.heap.size (fun k_=>(w.heap.size ≤ k_)) v0_ r1 ∧ Below w.heap.size w w':=by
  have hu55:=Try.underlying55;have HO0_0:=A0_ (show Kd.V (Kd.int .i64) 3 w w.heap.size (fun k_=>(P0_0_ k_ ∨ w.heap.size ≤ k_)) (.slice A0_0 l0_0.length c0_0) l0_0 from Kd.V_mono hs0_0 (fun k_ hk=>.inl hk));have HR0_1:=A0_ hr0_1;have HC0_1:=A0_ hc0_1;clear hr0_1 hc0_1;have HR0_2:=A0_ hr0_2;have HC0_2:=A0_ hc0_2;clear hr0_2 hc0_2;have HB:=A0_ (Below.refl w.heap.size w);have H : (logjamref25_Order.l0 k l0_0 (([] : List Int)) l0_0 l0_1 l0_2) = some (r1,r2):=h;clear h;obtain ⟨y318,hy318⟩ : ∃ y_ : List Int,y_ = (([] : List Int)):=⟨_,rfl⟩;replace H : (logjamref25_Order.l0 k l0_0 y318 l0_0 l0_1 l0_2) = some (r1,r2):=by first|(rw [hy318];with_reducible exact H)|(have H2_:=(Option.bind_some _ _).symm.trans H;rw [hy318];with_reducible exact H2_)|(have H2_:=(Option.bind_some _ _).symm.trans H;with_reducible exact H2_)|with_reducible exact H|(rw [hy318];exact H)|exact H
  have Ny318:=A0_ hy318;clear hy318;have H':=A0_ H;clear H;go_enter Try.func32,Try.ntmps32;go_wp2_with (first|((with_reducible refine gate_dst (N:=1) rfl ?_);refine box_event ?hg (N:=1) ?hd (cs:=#[.slice A0_0 l0_0.length c0_0,.slice A0_1 l0_1.length c0_1,.slice A0_2 l0_2.length c0_2]) (t:=55) ?hr ?_;(case hd=>rfl);(case hg=>rfl);(case hr=>first|(go_simp;done)|(go_simp;rfl));intro gb317 hg w2 hbox hb;have n0_:=A0_ (Kd.V_below (Kd.V_elderB (by (with_reducible repeat first|apply Va_|apply Vn_|apply Vd_);exact HO0_0.out) gb317 (Nat.le_of_eq hg.symm)) hb);have n1_:=A0_ (below_step (by repeat (first|(with_reducible first|exact HB.out|apply ba_|apply pN_|apply b1_)|exact HB.out)) hb);have n2_:=A0_ (hbox);have n3_:=A0_ ((by rw [hg];exact (below_size (by repeat (first|(with_reducible first|exact HB.out|apply ba_|apply pN_|apply b1_)|exact HB.out))) : w.heap.size ≤ gb317));have n4_:=A0_ ((by rw [hg];exact (below_size (by repeat (first|(with_reducible first|exact HB.out|apply ba_|apply pN_|apply b1_)|exact HB.out))) : w.heap.size ≤ gb317));clear HO0_0;clear HB;have HO0_0:=n0_;have HB:=n1_;have BK317:=n2_;have GW317:=n3_;have GE317:=n4_;clear n0_ n1_ n2_ n3_ n4_;clear hb hbox hg;obtain ⟨hcz3_0,hcz3_1,hcz3_2,hfz3_0,hfz3_1,hfz3_2⟩:=cz3_ (w:=w2) BK317.out)|((with_reducible refine gate_dst (N:=10) rfl ?_);refine Kd.R_lit (Kd.int .i64) _ 3 ?hg (N:=10) ?hd (xs:=([] : List Int)) (inner:=[]) (ok:=fun _=>True) (okp:=fun _=>True) ?hr ?hp (fun _ hk=>hk) trivial (Below.refl _ _) (Nat.le_refl _) (by simp) ?_;(case hd=>rfl);(case hg=>rfl);(case hr=>first|(go_simp;done)|(go_simp;rfl));(case hp=>exact (Reps.none _ _));intro v319 w4 ho5 hb hg_ hnew_;clear hg_ hnew_;(first|rw [← Ny318.out] at ho5|(simp only [Int.reduceToNat] at ho5;rw [← Ny318.out] at ho5));have n0_:=A0_ (Kd.V_elder' (by (with_reducible repeat first|apply Va_|apply Vn_|apply Vd_);exact HO0_0.out) (Kd.R_base ho5) hb);have n1_:=A0_ (Kd.R_lower (Kd.R_newM (M:=fun k_=>(w.heap.size ≤ k_)) ho5 (below_size (by repeat (first|(with_reducible first|exact HB.out|apply ba_|apply pN_|apply b1_|refine bs_ ?_ GE317.out)|exact HB.out))) (fun k_ h_=>h_)) (below_size (by repeat (first|(with_reducible first|exact HB.out|apply ba_|apply pN_|apply b1_|refine bs_ ?_ GE317.out)|exact HB.out))));have n2_:=A0_ (blk_below (g:=gb317) (o:=.cells #[.slice A0_0 l0_0.length c0_0,.slice A0_1 l0_1.length c0_1,.slice A0_2 l0_2.length c0_2] 55 (0,0)) (by (with_reducible repeat first|refine bN_ ?_ _|refine bD_ ?_|refine bA_ ?_ _);exact BK317.out) hb);have n3_:=A0_ (below_step (by repeat (first|(with_reducible first|exact HB.out|apply ba_|apply pN_|apply b1_|refine bs_ ?_ GE317.out)|exact HB.out)) hb);clear HO0_0;clear BK317;clear HB;have HO0_0:=n0_;have HO320:=n1_;have BK317:=n2_;have HB:=n3_;clear n0_ n1_ n2_ n3_;clear hb ho5))
  go_loopg [4,5] k (fun kq v4 v5 w'=>∃ (x4_1 : List Int) (x5_1 : List Int),Aside0 (logjamref25_Order.l0 kq x4_1 x5_1 l0_0 l0_1 l0_2 = some (r1,r2)) ∧ Aside0 (kq ≤ k) ∧ Aside0 (Kd.V (Kd.int .i64) 3 w' w.heap.size (fun k_=>(P0_0_ k_ ∨ w.heap.size ≤ k_) ∧ some k_ ≠ (v5 : Value).ownBlock ∧ k_ ≠ gb317) v4 x4_1) ∧ Aside0 (Kd.R (Kd.int .i64) 3 w' w.heap.size (fun k_=>(w.heap.size ≤ k_)) v5 x5_1) ∧ Aside0 (Kd.V (Kd.int .i64) 3 w' w.heap.size (fun k_=>(P0_0_ k_ ∨ w.heap.size ≤ k_) ∧ some k_ ≠ (v5 : Value).ownBlock ∧ k_ ≠ gb317) (.slice A0_0 l0_0.length c0_0) l0_0) ∧ Aside0 (w'.heap[gb317]? = some (.cells #[(.slice A0_0 l0_0.length c0_0),(.slice A0_1 l0_1.length c0_1),(.slice A0_2 l0_2.length c0_2)] 55 (0,0))) ∧ Aside0 (Below w.heap.size w w'))
  case atStart=>exact ⟨(l0_0),(y318),H',⟨Nat.le_refl _⟩,⟨by (with_reducible repeat first|apply Va_|apply Vn_|apply Vd_);exact Kd.V_mono HO0_0.out (fun _ hk=>⟨hk.1.1,⟨hk.2,hk.1.2⟩⟩)⟩,⟨by (with_reducible repeat first|apply Ra_|apply Rn_|apply Rd_);exact Kd.R_mono HO320.out (fun _ hk=>hk.1)⟩,⟨by (with_reducible repeat first|apply Va_|apply Vn_|apply Vd_);exact Kd.V_mono HO0_0.out (fun _ hk=>⟨hk.1.1,⟨hk.2,hk.1.2⟩⟩)⟩,⟨by (with_reducible repeat first|refine bN_ ?_ _|refine bD_ ?_|refine bA_ ?_ _);exact BK317.out⟩,⟨by repeat (first|(with_reducible first|exact HB.out|apply ba_|apply pN_|apply b1_|refine bs_ ?_ GE317.out)|exact HB.out)⟩⟩
  case round =>
    clear H';(try clear p2);(try clear c3);(try clear hcz3_0);(try clear hcz3_1);(try clear hcz3_2);(try clear hfz3_0);(try clear hfz3_1);(try clear hfz3_2);obtain ⟨x4_1,x5_1,HA,HK1,HO_4,HO_5,HO_318000,BK317,HB⟩:=hrel
    cases gk with
    | zero=>exact absurd HA.out (by simp [logjamref25_Order.l0])
    | succ k1 =>
      have H:=HA.out;clear HA;simp only [logjamref25_Order.l0] at H;have H':=A0_ H;clear H;obtain ⟨hcz6_0,hcz6_1,hcz6_2,hfz6_0,hfz6_1,hfz6_2⟩:=cz3_ (w:=wr) BK317.out;go_wp2
      go_loopg [6,7] k1 (fun kq v6 v7 w'=>∃ (x6_2 : Int) (x7_2 : Int),v6 = .int .i64 x6_2 ∧ v7 = .int .i64 x7_2 ∧ Aside0 (logjamref25_Order.l1 kq x4_1 x5_1 x6_2 x7_2 l0_0 l0_1 l0_2 = some (r1,r2)) ∧ Aside0 (kq ≤ k1) ∧ Aside0 (Kd.V (Kd.int .i64) 3 w' w.heap.size (fun k_=>(P0_0_ k_ ∨ w.heap.size ≤ k_) ∧ some k_ ≠ (u5 : Value).ownBlock ∧ k_ ≠ gb317) u4 x4_1) ∧ Aside0 (Kd.R (Kd.int .i64) 3 w' w.heap.size (fun k_=>(w.heap.size ≤ k_)) u5 x5_1) ∧ Aside0 (Kd.V (Kd.int .i64) 3 w' w.heap.size (fun k_=>(P0_0_ k_ ∨ w.heap.size ≤ k_) ∧ some k_ ≠ (u5 : Value).ownBlock ∧ k_ ≠ gb317) (.slice A0_0 l0_0.length c0_0) l0_0) ∧ Aside0 (w'.heap[gb317]? = some (.cells #[(.slice A0_0 l0_0.length c0_0),(.slice A0_1 l0_1.length c0_1),(.slice A0_2 l0_2.length c0_2)] 55 (0,0))) ∧ Aside0 (Below w.heap.size w w'))
      case atStart=>exact ⟨((-1)),(wrap64 ((l0_1.length : Int) - 1)),(by first|rfl|(simp;done)|(simp [*];done)),(by first|rfl|(simp;done)|(simp [*];done)),H',⟨Nat.le_refl _⟩,⟨by (with_reducible repeat first|apply Va_|apply Vn_|apply Vd_);exact HO_4.out⟩,⟨by (with_reducible repeat first|apply Ra_|apply Rn_|apply Rd_);exact HO_5.out⟩,⟨by (with_reducible repeat first|apply Va_|apply Vn_|apply Vd_);exact HO_318000.out⟩,⟨by (with_reducible repeat first|refine bN_ ?_ _|refine bD_ ?_|refine bA_ ?_ _);exact BK317.out⟩,⟨by repeat (first|(with_reducible first|exact HB.out|apply ba_|apply pN_|apply b1_|refine bs_ ?_ GE317.out)|exact HB.out)⟩⟩
      case round =>
        clear H';(try clear p2);(try clear c3);(try clear p6);(try clear hcz3_0);(try clear hcz3_1);(try clear hcz3_2);(try clear hcz6_0);(try clear hcz6_1);(try clear hcz6_2);(try clear hfz3_0);(try clear hfz3_1);(try clear hfz3_2);(try clear hfz6_0);(try clear hfz6_1);(try clear hfz6_2);(try clear p2);obtain ⟨x6_2,x7_2,rfl,rfl,HA,HK2,HO_4,HO_5,HO_318000,BK317,HB⟩:=hrel
        cases gk with
        | zero=>exact absurd HA.out (by simp [logjamref25_Order.l1])
        | succ k2 =>
          have H:=HA.out;clear HA;simp only [logjamref25_Order.l1] at H;by_cases c7 : x7_2 ≥ 0
          · rw [if_pos c7] at H
            have c7b0 : decide (0 ≤ x7_2) = true:=decide_eq_true c7;clear c7;replace H:=bm_ H;obtain ⟨t328,A80,H⟩:=H;replace H : (if t328 = true then (logjamref25_Order.l1 k2 x4_1 x5_1 x6_2 (wrap64 (x7_2 - 1)) l0_0 l0_1 l0_2) else ((logjamref25_Left.f k2 l0_0 l0_1 l0_2 x7_2).bind fun t329=>((logjamref25_Under.f k2 t329 x4_1).bind fun t332=>(if t332 = true then (logjamref25_Order.l1 k2 x4_1 x5_1 x7_2 (wrap64 (x7_2 - 1)) l0_0 l0_1 l0_2) else (logjamref25_Order.l1 k2 x4_1 x5_1 x6_2 (wrap64 (x7_2 - 1)) l0_0 l0_1 l0_2))))) = some (r1,r2):=H;have A8:=A0_ A80;clear A80;by_cases c9 : t328 = true
            · subst c9
              have H1 : (logjamref25_Order.l1 k2 x4_1 x5_1 x6_2 (wrap64 (x7_2 - 1)) l0_0 l0_1 l0_2) = some (r1,r2):=by rw [if_pos rfl] at H;exact H
              clear H;have H:=H1;clear H1;have H':=A0_ H;clear H;obtain ⟨Ao10,co10,eo10⟩:=Kd.R_slice HO_5.out;subst eo10;go_wp2_with (first|((with_reducible refine gate_callee (f:=50) rfl ?_);refine goesL_ (some 21) rfl rfl Try.func50 (by kernel_rfl) rfl #[.slice Ao10 x5_1.length co10,.int .i64 x7_2] rfl (by first|(simp only [List.map_toArray,List.map_cons,List.map_nil] <;> rfl)|rfl|(simp only [List.length_drop,List.length_take];rfl)) ?_;(with_reducible refine (logjamref25_has.calls k2 _ _ x5_1 x7_2 true _ ?side1 ?side2 A8.out).mono ?_);(case side1=>repeat (first|exact (Kd.R_reads' HO_5.out).2.2|(with_reducible first|refine Ca_ ?_ _|refine Cn_ ?_ _|refine Cd_ ?_)));(case side2=>exact (Kd.R_reads' HO_5.out).2.1);rintro e w' ⟨rfl,⟨nd,rfl⟩⟩;refine ⟨_,rfl,?_⟩))
              go_roundg k2
              case measure=>have:=HK1.out;have:=HK2.out;omega
              case rel=>exact ⟨(x6_2),(wrap64 (x7_2 - 1)),(by first|rfl|(simp;done)|(simp [*];done)),(by first|rfl|(simp;done)|(simp [*];done)),H',⟨by have:=HK1.out;have:=HK2.out;omega⟩,⟨by (with_reducible repeat first|apply Va_|apply Vn_|apply Vd_);exact HO_4.out⟩,⟨by (with_reducible repeat first|apply Ra_|apply Rn_|apply Rd_);exact HO_5.out⟩,⟨by (with_reducible repeat first|apply Va_|apply Vn_|apply Vd_);exact HO_318000.out⟩,⟨by (with_reducible repeat first|refine bN_ ?_ _|refine bD_ ?_|refine bA_ ?_ _);exact BK317.out⟩,⟨by repeat (first|(with_reducible first|exact HB.out|apply ba_|apply pN_|apply b1_|refine bs_ ?_ GE317.out)|exact HB.out)⟩⟩
            replace c9:=Bool.eq_false_iff.mpr c9;subst c9;have H1 : ((logjamref25_Left.f k2 l0_0 l0_1 l0_2 x7_2).bind fun t329=>((logjamref25_Under.f k2 t329 x4_1).bind fun t332=>(if t332 = true then (logjamref25_Order.l1 k2 x4_1 x5_1 x7_2 (wrap64 (x7_2 - 1)) l0_0 l0_1 l0_2) else (logjamref25_Order.l1 k2 x4_1 x5_1 x6_2 (wrap64 (x7_2 - 1)) l0_0 l0_1 l0_2)))) = some (r1,r2):=by rw [if_neg (show ¬ (false = true) by decide)] at H;exact H
            clear H;have H:=H1;clear H1;replace H:=bm_ H;obtain ⟨t329,A110,H⟩:=H;replace H : ((logjamref25_Under.f k2 t329 x4_1).bind fun t332=>(if t332 = true then (logjamref25_Order.l1 k2 x4_1 x5_1 x7_2 (wrap64 (x7_2 - 1)) l0_0 l0_1 l0_2) else (logjamref25_Order.l1 k2 x4_1 x5_1 x6_2 (wrap64 (x7_2 - 1)) l0_0 l0_1 l0_2))) = some (r1,r2):=H;have A11:=A0_ A110;clear A110;replace H:=bm_ H;obtain ⟨t332,A120,H⟩:=H;replace H : (if t332 = true then (logjamref25_Order.l1 k2 x4_1 x5_1 x7_2 (wrap64 (x7_2 - 1)) l0_0 l0_1 l0_2) else (logjamref25_Order.l1 k2 x4_1 x5_1 x6_2 (wrap64 (x7_2 - 1)) l0_0 l0_1 l0_2)) = some (r1,r2):=H;have A12:=A0_ A120;clear A120;by_cases c13 : t332 = true
            · subst c13
              have H1 : (logjamref25_Order.l1 k2 x4_1 x5_1 x7_2 (wrap64 (x7_2 - 1)) l0_0 l0_1 l0_2) = some (r1,r2):=by rw [if_pos rfl] at H;exact H
              clear H;have H:=H1;clear H1;have H':=A0_ H;clear H;obtain ⟨Ao14,co14,eo14⟩:=Kd.R_slice HO_5.out;subst eo14;go_wp2_with (first|((with_reducible refine gate_callee (f:=50) rfl ?_);refine goesL_ (some 21) rfl rfl Try.func50 (by kernel_rfl) rfl #[.slice Ao14 x5_1.length co14,.int .i64 x7_2] rfl (by first|(simp only [List.map_toArray,List.map_cons,List.map_nil] <;> rfl)|rfl|(simp only [List.length_drop,List.length_take];rfl)) ?_;(with_reducible refine (logjamref25_has.calls k2 _ _ x5_1 x7_2 false _ ?side1 ?side2 A8.out).mono ?_);(case side1=>repeat (first|exact (Kd.R_reads' HO_5.out).2.2|(with_reducible first|refine Ca_ ?_ _|refine Cn_ ?_ _|refine Cd_ ?_)));(case side2=>exact (Kd.R_reads' HO_5.out).2.1);rintro e w' ⟨rfl,⟨nd,rfl⟩⟩;refine ⟨_,rfl,?_⟩;obtain ⟨hcz15_0,hcz15_1,hcz15_2,hfz15_0,hfz15_1,hfz15_2⟩:=cz3_ (w:=wr) BK317.out)|(go_at_call 35;(with_reducible refine (logjamref25_Left.calls k2 _ _ l0_0 _ _ l0_1 _ _ l0_2 x7_2 t329 _ ?side1 ?side2 ?side3 ?side4 ?side5 ?side6 A11.out).mono ?_);(case side1=>repeat (first|exact (Kd.V_reads' HO_318000.out).2.2|(with_reducible first|refine Ca_ ?_ _|refine Cn_ ?_ _|refine Cd_ ?_)));(case side2=>exact (Kd.V_reads' HO_318000.out).2.1);(case side3=>repeat (first|exact (Kd.C_below HR0_1.out (by repeat (first|(with_reducible first|exact HB.out|apply ba_|apply pN_|apply b1_|refine bs_ ?_ GE317.out)|exact HB.out)))|(with_reducible first|refine Ca_ ?_ _|refine Cn_ ?_ _|refine Cd_ ?_)));(case side4=>exact HC0_1.out);(case side5=>repeat (first|exact (Kd.C_below HR0_2.out (by repeat (first|(with_reducible first|exact HB.out|apply ba_|apply pN_|apply b1_|refine bs_ ?_ GE317.out)|exact HB.out)))|(with_reducible first|refine Ca_ ?_ _|refine Cn_ ?_ _|refine Cd_ ?_)));(case side6=>exact HC0_2.out);rintro e w16 ⟨v330,rfl,ho0,hb⟩;have n0_:=A0_ (Kd.V_elder' (by (with_reducible repeat first|apply Va_|apply Vn_|apply Vd_);exact HO_4.out) (Kd.R_base ho0) hb);have n1_:=A0_ (Kd.R_elder' (by (with_reducible repeat first|apply Ra_|apply Rn_|apply Rd_);exact HO_5.out) (Kd.R_base ho0) hb);have n2_:=A0_ (Kd.V_elder' (by (with_reducible repeat first|apply Va_|apply Vn_|apply Vd_);exact HO_318000.out) (Kd.R_base ho0) hb);have n3_:=A0_ (Kd.R_lower (Kd.R_new' (Kd.R_newM (M:=fun k_=>(w.heap.size ≤ k_)) ho0 (below_size (by repeat (first|(with_reducible first|exact HB.out|apply ba_|apply pN_|apply b1_|refine bs_ ?_ GE317.out)|exact HB.out))) (fun k_ h_=>h_)) (Kd.R_lt (by (with_reducible repeat first|apply Ra_|apply Rn_|apply Rd_);exact HO_5.out))) (below_size (by repeat (first|(with_reducible first|exact HB.out|apply ba_|apply pN_|apply b1_|refine bs_ ?_ GE317.out)|exact HB.out))));have n4_:=A0_ (blk_below (g:=gb317) (o:=.cells #[.slice A0_0 l0_0.length c0_0,.slice A0_1 l0_1.length c0_1,.slice A0_2 l0_2.length c0_2] 55 (0,0)) (by (with_reducible repeat first|refine bN_ ?_ _|refine bD_ ?_|refine bA_ ?_ _);exact BK317.out) hb);have n5_:=A0_ (below_step (by repeat (first|(with_reducible first|exact HB.out|apply ba_|apply pN_|apply b1_|refine bs_ ?_ GE317.out)|exact HB.out)) hb);clear HO_4;clear HO_5;clear HO_318000;clear BK317;clear HB;have HO_4:=n0_;have HO_5:=n1_;have HO_318000:=n2_;have HO331:=n3_;have BK317:=n4_;have HB:=n5_;clear n0_ n1_ n2_ n3_ n4_ n5_;(try clear hb);(try clear hb2);(try clear hk);(try clear hi);(try clear ho0);obtain ⟨Ao17,co17,eo17⟩:=Kd.R_slice HO331.out;subst eo17;obtain ⟨Ao18,co18,eo18⟩:=Kd.V_slice HO_4.out;subst eo18)|(go_at_call 51;(with_reducible refine (logjamref25_Under.calls k2 _ _ t329 _ _ x4_1 true _ ?side1 ?side2 ?side3 ?side4 A12.out).mono ?_);(case side1=>repeat (first|exact (Kd.R_reads' HO331.out).2.2|(with_reducible first|refine Ca_ ?_ _|refine Cn_ ?_ _|refine Cd_ ?_)));(case side2=>exact (Kd.R_reads' HO331.out).2.1);(case side3=>repeat (first|exact (Kd.V_reads' HO_4.out).2.2|(with_reducible first|refine Ca_ ?_ _|refine Cn_ ?_ _|refine Cd_ ?_)));(case side4=>exact (Kd.V_reads' HO_4.out).2.1);rintro e w' ⟨rfl,⟨nd,rfl⟩⟩))
              go_roundg k2
              case measure=>have:=HK1.out;have:=HK2.out;omega
              case rel=>exact ⟨(x7_2),(wrap64 (x7_2 - 1)),(by first|rfl|(simp;done)|(simp [*];done)),(by first|rfl|(simp;done)|(simp [*];done)),H',⟨by have:=HK1.out;have:=HK2.out;omega⟩,⟨by (with_reducible repeat first|apply Va_|apply Vn_|apply Vd_);exact Kd.V_mono HO_4.out (fun _ hk=>by first | exact ⟨hk.1.1,⟨hk.1.2.1,hk.1.2.2⟩⟩ | grind)⟩,⟨by (with_reducible repeat first|apply Ra_|apply Rn_|apply Rd_);exact Kd.R_mono HO_5.out (fun _ hk=>hk.1)⟩,⟨by (with_reducible repeat first|apply Va_|apply Vn_|apply Vd_);exact Kd.V_mono HO_318000.out (fun _ hk=>by first | exact ⟨hk.1.1,⟨hk.1.2.1,hk.1.2.2⟩⟩ | grind)⟩,⟨by (with_reducible repeat first|refine bN_ ?_ _|refine bD_ ?_|refine bA_ ?_ _);exact BK317.out⟩,⟨by repeat (first|(with_reducible first|exact HB.out|apply ba_|apply pN_|apply b1_|refine bs_ ?_ GE317.out)|exact HB.out)⟩⟩
            replace c13:=Bool.eq_false_iff.mpr c13;subst c13;have H1 : (logjamref25_Order.l1 k2 x4_1 x5_1 x6_2 (wrap64 (x7_2 - 1)) l0_0 l0_1 l0_2) = some (r1,r2):=by rw [if_neg (show ¬ (false = true) by decide)] at H;exact H
            clear H;have H:=H1;clear H1;have H':=A0_ H;clear H;obtain ⟨Ao19,co19,eo19⟩:=Kd.R_slice HO_5.out;subst eo19;go_wp2_with (first|((with_reducible refine gate_callee (f:=50) rfl ?_);refine goesL_ (some 21) rfl rfl Try.func50 (by kernel_rfl) rfl #[.slice Ao19 x5_1.length co19,.int .i64 x7_2] rfl (by first|(simp only [List.map_toArray,List.map_cons,List.map_nil] <;> rfl)|rfl|(simp only [List.length_drop,List.length_take];rfl)) ?_;(with_reducible refine (logjamref25_has.calls k2 _ _ x5_1 x7_2 false _ ?side1 ?side2 A8.out).mono ?_);(case side1=>repeat (first|exact (Kd.R_reads' HO_5.out).2.2|(with_reducible first|refine Ca_ ?_ _|refine Cn_ ?_ _|refine Cd_ ?_)));(case side2=>exact (Kd.R_reads' HO_5.out).2.1);rintro e w' ⟨rfl,⟨nd,rfl⟩⟩;refine ⟨_,rfl,?_⟩;obtain ⟨hcz20_0,hcz20_1,hcz20_2,hfz20_0,hfz20_1,hfz20_2⟩:=cz3_ (w:=wr) BK317.out)|(go_at_call 35;(with_reducible refine (logjamref25_Left.calls k2 _ _ l0_0 _ _ l0_1 _ _ l0_2 x7_2 t329 _ ?side1 ?side2 ?side3 ?side4 ?side5 ?side6 A11.out).mono ?_);(case side1=>repeat (first|exact (Kd.V_reads' HO_318000.out).2.2|(with_reducible first|refine Ca_ ?_ _|refine Cn_ ?_ _|refine Cd_ ?_)));(case side2=>exact (Kd.V_reads' HO_318000.out).2.1);(case side3=>repeat (first|exact (Kd.C_below HR0_1.out (by repeat (first|(with_reducible first|exact HB.out|apply ba_|apply pN_|apply b1_|refine bs_ ?_ GE317.out)|exact HB.out)))|(with_reducible first|refine Ca_ ?_ _|refine Cn_ ?_ _|refine Cd_ ?_)));(case side4=>exact HC0_1.out);(case side5=>repeat (first|exact (Kd.C_below HR0_2.out (by repeat (first|(with_reducible first|exact HB.out|apply ba_|apply pN_|apply b1_|refine bs_ ?_ GE317.out)|exact HB.out)))|(with_reducible first|refine Ca_ ?_ _|refine Cn_ ?_ _|refine Cd_ ?_)));(case side6=>exact HC0_2.out);rintro e w21 ⟨v330,rfl,ho0,hb⟩;have n0_:=A0_ (Kd.V_elder' (by (with_reducible repeat first|apply Va_|apply Vn_|apply Vd_);exact HO_4.out) (Kd.R_base ho0) hb);have n1_:=A0_ (Kd.R_elder' (by (with_reducible repeat first|apply Ra_|apply Rn_|apply Rd_);exact HO_5.out) (Kd.R_base ho0) hb);have n2_:=A0_ (Kd.V_elder' (by (with_reducible repeat first|apply Va_|apply Vn_|apply Vd_);exact HO_318000.out) (Kd.R_base ho0) hb);have n3_:=A0_ (Kd.R_lower (Kd.R_new' (Kd.R_newM (M:=fun k_=>(w.heap.size ≤ k_)) ho0 (below_size (by repeat (first|(with_reducible first|exact HB.out|apply ba_|apply pN_|apply b1_|refine bs_ ?_ GE317.out)|exact HB.out))) (fun k_ h_=>h_)) (Kd.R_lt (by (with_reducible repeat first|apply Ra_|apply Rn_|apply Rd_);exact HO_5.out))) (below_size (by repeat (first|(with_reducible first|exact HB.out|apply ba_|apply pN_|apply b1_|refine bs_ ?_ GE317.out)|exact HB.out))));have n4_:=A0_ (blk_below (g:=gb317) (o:=.cells #[.slice A0_0 l0_0.length c0_0,.slice A0_1 l0_1.length c0_1,.slice A0_2 l0_2.length c0_2] 55 (0,0)) (by (with_reducible repeat first|refine bN_ ?_ _|refine bD_ ?_|refine bA_ ?_ _);exact BK317.out) hb);have n5_:=A0_ (below_step (by repeat (first|(with_reducible first|exact HB.out|apply ba_|apply pN_|apply b1_|refine bs_ ?_ GE317.out)|exact HB.out)) hb);clear HO_4;clear HO_5;clear HO_318000;clear BK317;clear HB;have HO_4:=n0_;have HO_5:=n1_;have HO_318000:=n2_;have HO331:=n3_;have BK317:=n4_;have HB:=n5_;clear n0_ n1_ n2_ n3_ n4_ n5_;(try clear hb);(try clear hb2);(try clear hk);(try clear hi);(try clear ho0);obtain ⟨Ao22,co22,eo22⟩:=Kd.R_slice HO331.out;subst eo22;obtain ⟨Ao23,co23,eo23⟩:=Kd.V_slice HO_4.out;subst eo23)|(go_at_call 51;(with_reducible refine (logjamref25_Under.calls k2 _ _ t329 _ _ x4_1 false _ ?side1 ?side2 ?side3 ?side4 A12.out).mono ?_);(case side1=>repeat (first|exact (Kd.R_reads' HO331.out).2.2|(with_reducible first|refine Ca_ ?_ _|refine Cn_ ?_ _|refine Cd_ ?_)));(case side2=>exact (Kd.R_reads' HO331.out).2.1);(case side3=>repeat (first|exact (Kd.V_reads' HO_4.out).2.2|(with_reducible first|refine Ca_ ?_ _|refine Cn_ ?_ _|refine Cd_ ?_)));(case side4=>exact (Kd.V_reads' HO_4.out).2.1);rintro e w' ⟨rfl,⟨nd,rfl⟩⟩))
            go_roundg k2
            case measure=>have:=HK1.out;have:=HK2.out;omega
            case rel=>exact ⟨(x6_2),(wrap64 (x7_2 - 1)),(by first|rfl|(simp;done)|(simp [*];done)),(by first|rfl|(simp;done)|(simp [*];done)),H',⟨by have:=HK1.out;have:=HK2.out;omega⟩,⟨by (with_reducible repeat first|apply Va_|apply Vn_|apply Vd_);exact Kd.V_mono HO_4.out (fun _ hk=>by first | exact ⟨hk.1.1,⟨hk.1.2.1,hk.1.2.2⟩⟩ | grind)⟩,⟨by (with_reducible repeat first|apply Ra_|apply Rn_|apply Rd_);exact Kd.R_mono HO_5.out (fun _ hk=>hk.1)⟩,⟨by (with_reducible repeat first|apply Va_|apply Vn_|apply Vd_);exact Kd.V_mono HO_318000.out (fun _ hk=>by first | exact ⟨hk.1.1,⟨hk.1.2.1,hk.1.2.2⟩⟩ | grind)⟩,⟨by (with_reducible repeat first|refine bN_ ?_ _|refine bD_ ?_|refine bA_ ?_ _);exact BK317.out⟩,⟨by repeat (first|(with_reducible first|exact HB.out|apply ba_|apply pN_|apply b1_|refine bs_ ?_ GE317.out)|exact HB.out)⟩⟩
          rw [if_neg c7] at H;have c7b0 : decide (0 ≤ x7_2) = false:=decide_eq_false c7;clear c7;by_cases c24 : x6_2 < 0
          · rw [if_pos c24] at H
            have c24b0 : decide (x6_2 < 0) = true:=decide_eq_true c24;clear c24;simp only [Option.some.injEq,Prod.mk.injEq] at H;obtain ⟨rfl,rfl⟩:=H
            try go_wp2
            have n0_:=A0_ (Kd.V_drew HO_4.out);have n1_:=A0_ (Kd.R_drew HO_5.out);have n2_:=A0_ (Kd.V_drew HO_318000.out);have n3_:=A0_ (blk_drew BK317.out);have n4_:=A0_ (b1_ HB.out);clear HO_4;clear HO_5;clear HO_318000;clear BK317;clear HB;have HO_4:=n0_;have HO_5:=n1_;have HO_318000:=n2_;have BK317:=n3_;have HB:=n4_;clear n0_ n1_ n2_ n3_ n4_;obtain ⟨Ao26,co26,eo26⟩:=Kd.R_slice HO_5.out
            (first|subst eo26|(injection eo26 with f1_ f2_ f3_;have f4_:=f1_.symm;have f5_:=f3_.symm;clear f1_ f2_ f3_;subst f4_;subst f5_))
            refine start_ (n:=9) (S:=fun w'=>w'.cell? ⟨gb317,0,none⟩ = some (.slice A0_0 l0_0.length c0_0) ∧ w'.cell? ⟨gb317,1,none⟩ = some (.slice A0_1 l0_1.length c0_1) ∧ w'.cell? ⟨gb317,2,none⟩ = some (.slice A0_2 l0_2.length c0_2)) (ds:=[]) #[false,false,false,false,false,false,false,false,false] (by kernel_rfl) rfl rfl ⟨(blk_cell BK317.out 0).trans rfl,(blk_cell BK317.out 1).trans rfl,(blk_cell BK317.out 2).trans rfl⟩ (fun hHeld=>?_);refine with_tabW logjamref25_Order.tab9 logjamref25_Order.bits9 (fun HT_ HW_=>?_)
            generalize wr.drew = w25 at HO_4 HO_5 HO_318000 BK317 HB hHeld ⊢
            refine pure_ (i:=0) (N:=some 33) (v:=?_) (a':=?_) #[true,false,false,false,false,false,false,false,false] rfl rfl (any_of HT_.out (by kernel_rfl)) (fun _ _ _ h=>h) (Or.inl ⟨by rfl,?_⟩) ?_ ?_;rotate_left
            · intro w'
              go_simp
              with_reducible rfl
            rotate_left
            · simp only [Act.put,sA_,sZ_,sS_,i64_w,i32_w]
              rfl
            refine pure_ (i:=1) (N:=some 34) (v:=?_) (a':=?_) #[true,true,false,false,false,false,false,false,false] rfl rfl (any_of HT_.out (by kernel_rfl)) (fun _ _ _ h=>h) (Or.inl ⟨by rfl,?_⟩) ?_ ?_;rotate_left
            · intro w'
              go_simp
              with_reducible rfl
            rotate_left
            · simp only [Act.put,sA_,sZ_,sS_,i64_w,i32_w]
              rfl
            refine pure_ (i:=2) (N:=some 35) (v:=?_) (a':=?_) #[true,true,true,false,false,false,false,false,false] rfl rfl (any_of HT_.out (by kernel_rfl)) (fun _ _ _ h=>h) (Or.inl ⟨by rfl,?_⟩) ?_ ?_;rotate_left
            · intro w'
              go_simp
              with_reducible rfl
            rotate_left
            · simp only [Act.put,sA_,sZ_,sS_,i64_w,i32_w]
              rfl
            refine pure_ (i:=3) (N:=some 36) (v:=?_) (a':=?_) #[true,true,true,true,false,false,false,false,false] rfl rfl (any_of HT_.out (by kernel_rfl)) (fun _ _ _ h=>h) (Or.inl ⟨by rfl,?_⟩) ?_ ?_;rotate_left
            · intro w'
              go_simp
              with_reducible rfl
            rotate_left
            · simp only [Act.put,sA_,sZ_,sS_,i64_w,i32_w]
              rfl
            refine pure_ (i:=7) (N:=some 2) (v:=?_) (a':=?_) #[true,true,true,true,false,false,false,true,false] rfl rfl (any_of HT_.out (by kernel_rfl)) (fun _ _ _ h=>h) (Or.inl ⟨by rfl,?_⟩) ?_ ?_;rotate_left
            · intro w'
              go_simp
              with_reducible rfl
            rotate_left
            · simp only [Act.put,sA_,sZ_,sS_,i64_w,i32_w]
              rfl
            refine take_ (i:=4) (N:=some 37) (v:=?_) (a':=?_) #[true,true,true,true,true,false,false,true,false] rfl rfl (take_ofW HT_.out HW_.out (by kernel_rfl)) (fun _ _ _ h=>h) (Or.inl ⟨by rfl,?_⟩) hHeld ?_ ?_;rotate_left
            · rintro w' ⟨s0,s1,s2⟩
              go_simp
              with_reducible rfl
            rotate_left
            · simp only [Act.put,sA_,sZ_,sS_,i64_w,i32_w]
              rfl
            refine pure_ (i:=5) (N:=some 38) (v:=?_) (a':=?_) #[true,true,true,true,true,true,false,true,false] rfl rfl (any_of HT_.out (by kernel_rfl)) (fun _ _ _ h=>h) (Or.inl ⟨by rfl,?_⟩) ?_ ?_;rotate_left
            · intro w'
              go_simp
              with_reducible rfl
            rotate_left
            · simp only [Act.put,sA_,sZ_,sS_,i64_w,i32_w]
              rfl
            refine pure_ (i:=6) (N:=some 39) (v:=?_) (a':=?_) #[true,true,true,true,true,true,true,true,false] rfl rfl (any_of HT_.out (by kernel_rfl)) (fun _ _ _ h=>h) (Or.inl ⟨by rfl,?_⟩) ?_ ?_;rotate_left
            · intro w'
              go_simp
              with_reducible rfl
            rotate_left
            · simp only [Act.put,sA_,sZ_,sS_,i64_w,i32_w]
              rfl
            refine pure_ (i:=8) (N:=some 3) (v:=?_) (a':=?_) #[true,true,true,true,true,true,true,true,true] rfl rfl (any_of HT_.out (by kernel_rfl)) (fun _ _ _ h=>h) (Or.inl ⟨by rfl,?_⟩) ?_ ?_;rotate_left
            · intro w'
              go_simp
              with_reducible rfl
            rotate_left
            · simp only [Act.put,sA_,sZ_,sS_,i64_w,i32_w]
              rfl
            refine done_ (done_of HT_.out (by kernel_rfl)) ?_
            try go_wp2
            go_ret2;exact ⟨_,by first|rfl|(simp [errW_none,errW_some] <;> rfl)|(simp [*,errW_none,errW_some] <;> rfl),by (with_reducible repeat first|apply Ra_|apply Rn_|apply Rd_);exact HO_5.out,by repeat (first|(with_reducible first|exact HB.out|apply ba_|apply pN_|apply b1_|refine bs_ ?_ GE317.out)|exact HB.out)⟩
          rw [if_neg c24] at H;have c24b0 : decide (x6_2 < 0) = false:=decide_eq_false c24;clear c24;by_cases c27 : x5_1.length < 17592186044416;rotate_left
          · rw [if_neg c27] at H
            exact absurd H (by simp)

          rw [if_pos c27] at H;have LMc27:=A0_ c27;clear c27;obtain ⟨y321,hy321⟩ : ∃ y_ : List Int,y_ = (x5_1 ++ [x6_2]):=⟨_,rfl⟩;replace H : (if 0 ≤ x6_2 then (if x6_2 < (l0_1.length : Int) then ((logjamref25_sum.f k2 x4_1 (rd_L1 l0_1 x6_2)).bind fun t325=>(logjamref25_Order.l0 k2 t325 y321 l0_0 l0_1 l0_2)) else (none)) else (none)) = some (r1,r2):=by first|(rw [hy321];with_reducible exact H)|(have H2_:=(Option.bind_some _ _).symm.trans H;rw [hy321];with_reducible exact H2_)|(have H2_:=(Option.bind_some _ _).symm.trans H;with_reducible exact H2_)|with_reducible exact H|(rw [hy321];exact H)|exact H
          have Ny321:=A0_ hy321;clear hy321;by_cases c28 : 0 ≤ x6_2;rotate_left
          · rw [if_neg c28] at H
            exact absurd H (by simp)
          rw [if_pos c28] at H;have c28b0 : decide (0 ≤ x6_2) = true:=decide_eq_true c28;clear c28;by_cases c29 : x6_2 < (l0_1.length : Int);rotate_left
          · rw [if_neg c29] at H
            exact absurd H (by simp)
          rw [if_pos c29] at H;have c29b0 : decide (x6_2 < (l0_1.length : Int)) = true:=decide_eq_true c29;clear c29;replace H:=bm_ H;obtain ⟨t325,A300,H⟩:=H;replace H : (logjamref25_Order.l0 k2 t325 y321 l0_0 l0_1 l0_2) = some (r1,r2):=H;have A30:=A0_ A300;clear A300;have H':=A0_ H;clear H
          try go_wp2
          have n0_:=A0_ (Kd.V_drew HO_4.out);have n1_:=A0_ (Kd.R_drew HO_5.out);have n2_:=A0_ (Kd.V_drew HO_318000.out);have n3_:=A0_ (blk_drew BK317.out);have n4_:=A0_ (b1_ HB.out);clear HO_4;clear HO_5;clear HO_318000;clear BK317;clear HB;have HO_4:=n0_;have HO_5:=n1_;have HO_318000:=n2_;have BK317:=n3_;have HB:=n4_;clear n0_ n1_ n2_ n3_ n4_;have p324 : 0 ≤ (x6_2 : Int):=of_decide_eq_true (by first|(with_reducible assumption)|assumption);have q324 : x6_2 < (l0_1.length : Int):=of_decide_eq_true (by first|(with_reducible assumption)|assumption);obtain ⟨ad324,A324_0,c324_0,e324,hx324_0,hl324_0,hi324_0⟩:=at_L1 HR0_1.out x6_2 p324 q324;have hw324_0:=hx324_0;cases e324;replace hx324_0:=(HB.out.cell (bl_ w _ hx324_0)).trans hx324_0;have HR324_0:=A0_ hi324_0;have HC324_0:=A0_ hl324_0;clear hi324_0 hl324_0;replace p324:=eq_true p324;replace q324:=eq_true q324;refine start_ (n:=13) (S:=fun w'=>w'.cell? ⟨gb317,0,none⟩ = some (.slice A0_0 l0_0.length c0_0) ∧ w'.cell? ⟨gb317,1,none⟩ = some (.slice (some ad324) l0_1.length c0_1) ∧ w'.cell? ⟨gb317,2,none⟩ = some (.slice A0_2 l0_2.length c0_2) ∧ w'.cell? (ad324.add (x6_2).toNat) = some (.slice A324_0 (rd_L1 l0_1 x6_2).length c324_0)) (ds:=[]) #[false,false,false,false,false,false,false,false,false,false,false,false,false] (by kernel_rfl) rfl rfl ⟨(blk_cell BK317.out 0).trans rfl,(blk_cell BK317.out 1).trans rfl,(blk_cell BK317.out 2).trans rfl,((HB.out.cell (bl_ w _ hw324_0)).trans hw324_0)⟩ (fun hHeld=>?_);refine with_tabW logjamref25_Order.tab10 logjamref25_Order.bits10 (fun HT_ HW_=>?_)
          generalize wr.drew = w31 at HO_4 HO_5 HO_318000 BK317 HB HR324_0 hx324_0 hHeld ⊢
          refine pure_ (i:=0) (N:=some 40) (v:=?_) (a':=?_) #[true,false,false,false,false,false,false,false,false,false,false,false,false] rfl rfl (any_of HT_.out (by kernel_rfl)) (fun _ _ _ h=>h) (Or.inl ⟨by rfl,?_⟩) ?_ ?_;rotate_left
          · intro w'
            go_simp
            with_reducible rfl
          rotate_left
          · simp only [Act.put,sA_,sZ_,sS_,i64_w,i32_w]
            rfl
          refine pure_ (i:=1) (N:=some 41) (v:=?_) (a':=?_) #[true,true,false,false,false,false,false,false,false,false,false,false,false] rfl rfl (any_of HT_.out (by kernel_rfl)) (fun _ _ _ h=>h) (Or.inl ⟨by rfl,?_⟩) ?_ ?_;rotate_left
          · intro w'
            go_simp
            with_reducible rfl
          rotate_left
          · simp only [Act.put,sA_,sZ_,sS_,i64_w,i32_w]
            rfl
          refine pure_ (i:=4) (N:=some 44) (v:=?_) (a':=?_) #[true,true,false,false,true,false,false,false,false,false,false,false,false] rfl rfl (any_of HT_.out (by kernel_rfl)) (fun _ _ _ h=>h) (Or.inl ⟨by rfl,?_⟩) ?_ ?_;rotate_left
          · intro w'
            go_simp
            with_reducible rfl
          rotate_left
          · simp only [Act.put,sA_,sZ_,sS_,i64_w,i32_w]
            rfl
          refine pure_ (i:=5) (N:=some 45) (v:=?_) (a':=?_) #[true,true,false,false,true,true,false,false,false,false,false,false,false] rfl rfl (any_of HT_.out (by kernel_rfl)) (fun _ _ _ h=>h) (Or.inl ⟨by rfl,?_⟩) ?_ ?_;rotate_left
          · intro w'
            go_simp
            with_reducible rfl
          rotate_left
          · simp only [Act.put,sA_,sZ_,sS_,i64_w,i32_w]
            rfl
          refine pure_ (i:=7) (N:=some 47) (v:=?_) (a':=?_) #[true,true,false,false,true,true,false,true,false,false,false,false,false] rfl rfl (any_of HT_.out (by kernel_rfl)) (fun _ _ _ h=>h) (Or.inl ⟨by rfl,?_⟩) ?_ ?_;rotate_left
          · intro w'
            go_simp
            with_reducible rfl
          rotate_left
          · simp only [Act.put,sA_,sZ_,sS_,i64_w,i32_w]
            rfl
          refine take_ (i:=6) (N:=some 46) (v:=?_) (a':=?_) #[true,true,false,false,true,true,true,true,false,false,false,false,false] rfl rfl (take_ofW HT_.out HW_.out (by kernel_rfl)) (fun _ _ _ h=>h) (Or.inl ⟨by rfl,?_⟩) hHeld ?_ ?_;rotate_left
          · rintro w' ⟨s0,s1,s2,s3⟩
            go_simp
            with_reducible rfl
          rotate_left
          · simp only [Act.put,sA_,sZ_,sS_,i64_w,i32_w]
            rfl
          refine pure_ (i:=8) (N:=some 48) (v:=?_) (a':=?_) #[true,true,false,false,true,true,true,true,true,false,false,false,false] rfl rfl (any_of HT_.out (by kernel_rfl)) (fun _ _ _ h=>h) (Or.inl ⟨by rfl,?_⟩) ?_ ?_;rotate_left
          · intro w'
            go_simp
            with_reducible rfl
          rotate_left
          · simp only [Act.put,sA_,sZ_,sS_,i64_w,i32_w]
            rfl
          refine take_ (i:=9) (N:=some 49) (v:=?_) (a':=?_) #[true,true,false,false,true,true,true,true,true,true,false,false,false] rfl rfl (take_ofW HT_.out HW_.out (by kernel_rfl)) (fun _ _ _ h=>h) (Or.inl ⟨by rfl,?_⟩) hHeld ?_ ?_;rotate_left
          · rintro w' ⟨s0,s1,s2,s3⟩
            go_simp
            with_reducible rfl
          rotate_left
          · simp only [Act.put,sA_,sZ_,sS_,i64_w,i32_w]
            rfl
          refine one_ (i:=2) (N:=some 42) #[true,true,true,false,true,true,true,true,true,true,false,false,false] rfl rfl (one_of HT_.out (by kernel_rfl)) (by decide) (fun K hK=>?_);refine value_ (w1:=?_) (v:=?_) (by rfl) rfl ?_ ?_;rotate_left 2
          · go_simp
            constructor
            · rfl
            · rfl
          refine hK.out _ _ ⟨(blk_cell (blk_alloc BK317.out _) 0).trans rfl,(blk_cell (blk_alloc BK317.out _) 1).trans rfl,(blk_cell (blk_alloc BK317.out _) 2).trans rfl,(World.cell?_alloc_lt _ _ _ (bl_ _ _ (((HB.out.cell (bl_ w _ hw324_0)).trans hw324_0)))).trans (((HB.out.cell (bl_ w _ hw324_0)).trans hw324_0))⟩ (fun hHeld=>?_);clear hK K;refine norm_ (a':=?_) ?_ ?_;rotate_left
          · show Act.put _ (some 42) _ = _
            simp only [Act.put,sA_,sZ_,sS_,i64_w,i32_w]
            rfl
          refine one_ (i:=3) (N:=some 43) #[true,true,true,true,true,true,true,true,true,true,false,false,false] rfl rfl (one_of HT_.out (by kernel_rfl)) (by decide) (fun K hK=>?_);refine Kd.R_append_step (Kd.int .i64) (w0:=w) w.heap.size (by rfl) (.tmp 40) (.tmp 42) 23 3 (.int .i64 0) 8 rfl Try.underlying23 info3 rfl (by decide) (by omega) u5 x5_1 x6_2 [.int .i64 x6_2] (fun k_=>(w.heap.size ≤ k_)) (fun _=>False) rfl rfl ?aP (fun _ hk=>hk.elim) ?aF ?aO ?aB ?aS ?aL ?_
          (case aP=>exact rfl)
          (case aB=>exact (by repeat (first|(with_reducible first|exact HB.out|apply ba_|apply pN_|apply b1_|refine bs_ ?_ GE317.out)|exact HB.out)))
          (case aF=>exact (fun k_ hk=>(Nat.le_trans (below_size (by repeat (first|(with_reducible first|exact HB.out|apply ba_|apply pN_|apply b1_|refine bs_ ?_ GE317.out)|exact HB.out))) hk)))
          (case aO=>exact (by (with_reducible repeat first|apply Ra_|apply Rn_|apply Rd_);exact HO_5.out))
          (case aS=>exact (below_size (by repeat (first|(with_reducible first|exact HB.out|apply ba_|apply pN_|apply b1_|refine bs_ ?_ GE317.out)|exact HB.out))))
          (case aL=>have:=LMc27.out;omega)
          intro v322 w32 ho hb hg hat
          rw [← Ny321.out] at ho;have n0_:=A0_ (Kd.V_afterv (ok:=(fun k_=>(P0_0_ k_ ∨ w.heap.size ≤ k_) ∧ k_ ≠ gb317)) (by (with_reducible repeat first|apply Va_|apply Vn_|apply Vd_);exact Kd.V_mono HO_4.out (fun _ hk=>⟨⟨hk.1,hk.2.2⟩,hk.2.1⟩)) hg hat);have n1_:=A0_ (Kd.V_afterv (ok:=(fun k_=>(P0_0_ k_ ∨ w.heap.size ≤ k_) ∧ k_ ≠ gb317)) (by (with_reducible repeat first|apply Va_|apply Vn_|apply Vd_);exact Kd.V_mono HO_318000.out (fun _ hk=>⟨⟨hk.1,hk.2.2⟩,hk.2.1⟩)) hg hat);have n2_:=A0_ (blk_grown (g:=gb317) (o:=.cells #[.slice A0_0 l0_0.length c0_0,.slice (some ad324) l0_1.length c0_1,.slice A0_2 l0_2.length c0_2] 55 (0,0)) (by (with_reducible repeat first|refine bN_ ?_ _|refine bD_ ?_|refine bA_ ?_ _);exact BK317.out) hg (Kd.R_ne HO_5.out BK317.out (by decide)));have n3_:=A0_ (hb);have n4_:=A0_ (ho);clear HO_4;clear HO_318000;clear BK317;clear HB;clear HO_5;have HO_4:=n0_;have HO_318000:=n1_;have BK317:=n2_;have HB:=n3_;have HO323:=n4_;clear n0_ n1_ n2_ n3_ n4_;clear ho hb hg hat;obtain ⟨Ao33,co33,eo33⟩:=Kd.V_slice HO_4.out
          (first|subst eo33|(injection eo33 with f1_ f2_ f3_;have f4_:=f1_.symm;have f5_:=f3_.symm;clear f1_ f2_ f3_;subst f4_;subst f5_))
          refine hK.out _ _ ⟨(blk_cell BK317.out 0).trans rfl,(blk_cell BK317.out 1).trans rfl,(blk_cell BK317.out 2).trans rfl,((HB.out.cell (bl_ w _ hw324_0)).trans hw324_0)⟩ (fun hHeld=>?_);clear hK K;refine norm_ (a':=?_) ?_ ?_;rotate_left
          · show Act.put _ (some 43) _ = _
            simp only [Act.put,sA_,sZ_,sS_,i64_w,i32_w]
            rfl
          refine one_ (i:=10) (N:=some 50) #[true,true,true,true,true,true,true,true,true,true,true,false,false] rfl rfl (one_of HT_.out (by kernel_rfl)) (by decide) (fun K hK=>?_);refine goes_ Try.func52 (by kernel_rfl) rfl #[.slice Ao33 x4_1.length co33,.slice A324_0 (rd_L1 l0_1 x6_2).length c324_0] (by rfl) rfl rfl (by first|(simp only [List.map_toArray,List.map_cons,List.map_nil] <;> rfl)|rfl|(simp only [List.length_drop,List.length_take];rfl)) ?_
          with_reducible refine (logjamref25_sum.calls k2 _ _ x4_1 _ _ (rd_L1 l0_1 x6_2) t325 _ ?side1 ?side2 ?side3 ?side4 A30.out).mono ?_
          (case side1=>repeat (first|exact (Kd.V_reads' HO_4.out).2.2|(with_reducible first|refine Ca_ ?_ _|refine Cn_ ?_ _|refine Cd_ ?_)))
          (case side2=>exact (Kd.V_reads' HO_4.out).2.1)
          (case side3=>repeat (first|exact (Kd.C_below HR324_0.out HB.out)|(with_reducible first|refine Ca_ ?_ _|refine Cn_ ?_ _|refine Cd_ ?_)))
          (case side4=>exact HC324_0.out)
          rintro e w34 ⟨v326,rfl,ho0,hb⟩
          refine ⟨_,rfl,?_⟩;have n0_:=A0_ (Kd.V_elder' (by (with_reducible repeat first|apply Va_|apply Vn_|apply Vd_);exact HO_4.out) (Kd.R_base ho0) hb);have n1_:=A0_ (Kd.V_elder' (by (with_reducible repeat first|apply Va_|apply Vn_|apply Vd_);exact HO_318000.out) (Kd.R_base ho0) hb);have n2_:=A0_ (Kd.R_elder' (by (with_reducible repeat first|apply Ra_|apply Rn_|apply Rd_);exact HO323.out) (Kd.R_base ho0) hb);have n3_:=A0_ (Kd.R_lower (Kd.R_new' (Kd.R_newM (M:=fun k_=>(w.heap.size ≤ k_)) ho0 (below_size (by repeat (first|(with_reducible first|exact HB.out|apply ba_|apply pN_|apply b1_|refine bs_ ?_ GE317.out)|exact HB.out))) (fun k_ h_=>h_)) (Kd.R_lt (by (with_reducible repeat first|apply Ra_|apply Rn_|apply Rd_);exact HO323.out))) (below_size (by repeat (first|(with_reducible first|exact HB.out|apply ba_|apply pN_|apply b1_|refine bs_ ?_ GE317.out)|exact HB.out))));have n4_:=A0_ (blk_below (g:=gb317) (o:=.cells #[.slice A0_0 l0_0.length c0_0,.slice (some ad324) l0_1.length c0_1,.slice A0_2 l0_2.length c0_2] 55 (0,0)) (by (with_reducible repeat first|refine bN_ ?_ _|refine bD_ ?_|refine bA_ ?_ _);exact BK317.out) hb);have n5_:=A0_ (below_step (by repeat (first|(with_reducible first|exact HB.out|apply ba_|apply pN_|apply b1_|refine bs_ ?_ GE317.out)|exact HB.out)) hb);clear HO_4;clear HO_318000;clear HO323;clear BK317;clear HB;have HO_4:=n0_;have HO_318000:=n1_;have HO323:=n2_;have HO327:=n3_;have BK317:=n4_;have HB:=n5_;clear n0_ n1_ n2_ n3_ n4_ n5_;(try clear hb);(try clear hb2);(try clear hk);(try clear hi);(try clear ho0);refine hK.out _ _ ⟨(blk_cell BK317.out 0).trans rfl,(blk_cell BK317.out 1).trans rfl,(blk_cell BK317.out 2).trans rfl,((HB.out.cell (bl_ w _ hw324_0)).trans hw324_0)⟩ (fun hHeld=>?_);clear hK K;refine norm_ (a':=?_) ?_ ?_;rotate_left
          · show Act.put _ (some 50) _ = _
            simp only [Act.put,sA_,sZ_,sS_,i64_w,i32_w]
            rfl
          refine pure_ (i:=11) (N:=some 5) (v:=?_) (a':=?_) #[true,true,true,true,true,true,true,true,true,true,true,true,false] rfl rfl (any_of HT_.out (by kernel_rfl)) (fun _ _ _ h=>h) (Or.inl ⟨by rfl,?_⟩) ?_ ?_;rotate_left
          · intro w'
            go_simp
            with_reducible rfl
          rotate_left
          · simp only [Act.put,sA_,sZ_,sS_,i64_w,i32_w]
            rfl
          refine pure_ (i:=12) (N:=some 4) (v:=?_) (a':=?_) #[true,true,true,true,true,true,true,true,true,true,true,true,true] rfl rfl (any_of HT_.out (by kernel_rfl)) (fun _ _ _ h=>h) (Or.inl ⟨by rfl,?_⟩) ?_ ?_;rotate_left
          · intro w'
            go_simp
            with_reducible rfl
          rotate_left
          · simp only [Act.put,sA_,sZ_,sS_,i64_w,i32_w]
            rfl
          refine done_ (done_of HT_.out (by kernel_rfl)) ?_
          try go_wp2
          go_roundg k2
          case measure=>have:=HK1.out;have:=HK2.out;omega
          case rel=>exact ⟨(t325),(y321),H',⟨by have:=HK1.out;have:=HK2.out;omega⟩,⟨Kd.V_mono (Kd.R_V (by (with_reducible repeat first|apply Ra_|apply Rn_|apply Rd_);exact Kd.R_mono (ok':=fun k_=>w.heap.size ≤ k_ ∧ (_ ∧ k_ ≠ gb317)) (Kd.R_types HO327.out BK317.out (by decide)) (fun _ hk=>⟨hk.1.1.1,⟨hk.1.2,hk.2⟩⟩))) (fun k_ hk=>by first|exact ⟨(.inr (hk.1)),hk.2⟩|exact (.inr (hk)))⟩,⟨by (with_reducible repeat first|apply Ra_|apply Rn_|apply Rd_);exact Kd.R_mono HO323.out (fun _ hk=>hk.1)⟩,⟨by (with_reducible repeat first|apply Va_|apply Vn_|apply Vd_);exact Kd.V_mono HO_318000.out (fun _ hk=>by first | exact ⟨hk.1.1.1,⟨hk.1.2,hk.1.1.2⟩⟩ | grind)⟩,⟨by (with_reducible repeat first|refine bN_ ?_ _|refine bD_ ?_|refine bA_ ?_ _);exact BK317.out⟩,⟨by repeat (first|(with_reducible first|exact HB.out|apply ba_|apply pN_|apply b1_|refine bs_ ?_ GE317.out)|exact HB.out)⟩⟩
end Go.Proofs.Ytlggjacghemakaa.PClaimTells
