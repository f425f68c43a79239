/- Go functions as plain Lean functions, and that the calls come to them. Conditions: none. (Written by a program of this session.) -/
import Derived.Test.YtlggjacghemakaaPTimerApartx0
namespace Go.Proofs.Ytlggjacghemakaa.PTimerApart
open Go.RowKit Go.Proofs.YtlggjacghemakaaW.PrintWords Go.Proofs.YtlggjacghemakaaW.PrintLast Go.Proofs.YtlggjacghemakaaW.PrintMore
attribute [local go_sem] max2_int min2_int max_two min_two max_three min_three max_four min_four   -- for this text's walks alone
set_option linter.unusedVariables false
set_option linter.unusedSimpArgs false

/-! ### timer_one_less: function 53 -/
def timer_one_less.f (a0_0 : Int) (a0_1 : Int) (a1_0 : Int) (a1_1 : Int) : Option (Bool) := if a0_0 < a1_0 then (some true) else (if a0_0 = a1_0 then (some (decide (a0_1 < a1_1))) else (some false))
set_option maxHeartbeats 8000000 in
set_option maxRecDepth 100000 in
theorem timer_one_less.calls (a0_0 : Int) (a0_1 : Int) (a1_0 : Int) (a1_1 : Int) (r : Bool) (w : World) (h : timer_one_less.f a0_0 a0_1 a1_0 a1_1 = some r) :
    Calls Try.prog 53 #[.agg #[.int .i64 a0_0,.int .i64 a0_1],.agg #[.int .i64 a1_0,.int .i64 a1_1]] w fun e w'=>e = .returned (.bool r) ∧ Below w.heap.size w w':=by
  have hu77:=Try.underlying77;have HB:=A0_ (Below.refl w.heap.size w);have H : (if a0_0 < a1_0 then (some true) else (if a0_0 = a1_0 then (some (decide (a0_1 < a1_1))) else (some false))) = some r:=h;clear h;by_cases c3 : a0_0 < a1_0
  · rw [if_pos c3] at H
    have c3b0 : decide (a0_0 < a1_0) = true:=decide_eq_true c3;clear c3;obtain rfl:=Option.some.inj H;go_enter Try.func53,Try.ntmps53;go_wp2_with (first|((with_reducible refine gate_dst (N:=2) rfl ?_);refine box_event ?hg (N:=2) ?hd (cs:=#[.int .i64 a0_0,.int .i64 a0_1]) (t:=77) ?hr ?_;(case hd=>rfl);(case hg=>rfl);(case hr=>first|(go_simp;done)|(go_simp;rfl));intro gb101 hg w4 hbox hb;have n0_:=A0_ (below_step (by repeat (first|(with_reducible first|exact HB.out|apply ba_|apply pN_|apply b1_)|exact HB.out)) hb);have n1_:=A0_ (hbox);have n2_:=A0_ ((by rw [hg];exact (below_size (by repeat (first|(with_reducible first|exact HB.out|apply ba_|apply pN_|apply b1_)|exact HB.out))) : w.heap.size ≤ gb101));have n3_:=A0_ ((by rw [hg];exact (below_size (by repeat (first|(with_reducible first|exact HB.out|apply ba_|apply pN_|apply b1_)|exact HB.out))) : w.heap.size ≤ gb101));clear HB;have HB:=n0_;have BK101:=n1_;have GW101:=n2_;have GE101:=n3_;clear n0_ n1_ n2_ n3_;clear hb hbox hg)|((with_reducible refine gate_dst (N:=3) rfl ?_);refine box_event ?hg (N:=3) ?hd (cs:=#[.int .i64 a1_0,.int .i64 a1_1]) (t:=77) ?hr ?_;(case hd=>rfl);(case hg=>rfl);(case hr=>first|(go_simp;done)|(go_simp;rfl));intro gb102 hg w5 hbox hb;have n0_:=A0_ (blk_below (g:=gb101) (o:=.cells #[.int .i64 a0_0,.int .i64 a0_1] 77 (0,0)) (by (with_reducible repeat first|refine bN_ ?_ _|refine bD_ ?_|refine bA_ ?_ _);exact BK101.out) hb);have n1_:=A0_ (below_step (by repeat (first|(with_reducible first|exact HB.out|apply ba_|apply pN_|apply b1_|refine bs_ ?_ GE101.out)|exact HB.out)) hb);have n2_:=A0_ (hbox);have n3_:=A0_ ((by rw [hg];exact (below_size (by repeat (first|(with_reducible first|exact HB.out|apply ba_|apply pN_|apply b1_|refine bs_ ?_ GE101.out)|exact HB.out))) : w.heap.size ≤ gb102));have n4_:=A0_ ((by rw [hg];exact (below_size (by repeat (first|(with_reducible first|exact HB.out|apply ba_|apply pN_|apply b1_|refine bs_ ?_ GE101.out)|exact HB.out))) : w.heap.size ≤ gb102));have n5_:=A0_ ((by rw [hg];exact Nat.ne_of_lt (blk_lt (g:=gb101) (o:=.cells #[.int .i64 a0_0,.int .i64 a0_1] 77 (0,0)) (by (with_reducible repeat first|refine bN_ ?_ _|refine bD_ ?_|refine bA_ ?_ _);exact BK101.out)) : gb101 ≠ gb102));have n6_:=A0_ ((by rw [hg];exact Nat.ne_of_gt (blk_lt (g:=gb101) (o:=.cells #[.int .i64 a0_0,.int .i64 a0_1] 77 (0,0)) (by (with_reducible repeat first|refine bN_ ?_ _|refine bD_ ?_|refine bA_ ?_ _);exact BK101.out)) : gb102 ≠ gb101));clear BK101;clear HB;have BK101:=n0_;have HB:=n1_;have BK102:=n2_;have GW102:=n3_;have GE102:=n4_;have NB101_102:=n5_;have NB102_101:=n6_;clear n0_ n1_ n2_ n3_ n4_ n5_ n6_;clear hb hbox hg;have hnb6:=NB101_102.out;have hnc6:=NB102_101.out;obtain ⟨hcz7_0,hcz7_1,hfz7_0,hfz7_1⟩:=cz2_ (w:=w5) BK101.out;obtain ⟨hcz8_0,hcz8_1,hfz8_0,hfz8_1⟩:=cz2_ (w:=w5) BK102.out));go_ret;exact ⟨by first|rfl|(simp [errW_none,errW_some] <;> rfl)|(simp [*,errW_none,errW_some] <;> rfl),by repeat (first|(with_reducible first|exact HB.out|apply ba_|apply pN_|apply b1_|refine bs_ ?_ GE101.out|refine bs_ ?_ GE102.out)|exact HB.out)⟩
  rw [if_neg c3] at H;have c3b0 : decide (a0_0 < a1_0) = false:=decide_eq_false c3;clear c3;by_cases c9 : a0_0 = a1_0;rotate_left
  · rw [if_neg c9] at H
    have c9b0 : (a0_0 == a1_0) = false:=beq_eq_false_iff_ne.mpr c9;have c9b1 : (a0_0 != a1_0) = true:=bne_iff_ne.mpr c9;obtain rfl:=Option.some.inj H;go_enter Try.func53,Try.ntmps53;go_wp2_with (first|((with_reducible refine gate_dst (N:=2) rfl ?_);refine box_event ?hg (N:=2) ?hd (cs:=#[.int .i64 a0_0,.int .i64 a0_1]) (t:=77) ?hr ?_;(case hd=>rfl);(case hg=>rfl);(case hr=>first|(go_simp;done)|(go_simp;rfl));intro gb101 hg w15 hbox hb;have n0_:=A0_ (below_step (by repeat (first|(with_reducible first|exact HB.out|apply ba_|apply pN_|apply b1_)|exact HB.out)) hb);have n1_:=A0_ (hbox);have n2_:=A0_ ((by rw [hg];exact (below_size (by repeat (first|(with_reducible first|exact HB.out|apply ba_|apply pN_|apply b1_)|exact HB.out))) : w.heap.size ≤ gb101));have n3_:=A0_ ((by rw [hg];exact (below_size (by repeat (first|(with_reducible first|exact HB.out|apply ba_|apply pN_|apply b1_)|exact HB.out))) : w.heap.size ≤ gb101));clear HB;have HB:=n0_;have BK101:=n1_;have GW101:=n2_;have GE101:=n3_;clear n0_ n1_ n2_ n3_;clear hb hbox hg)|((with_reducible refine gate_dst (N:=3) rfl ?_);refine box_event ?hg (N:=3) ?hd (cs:=#[.int .i64 a1_0,.int .i64 a1_1]) (t:=77) ?hr ?_;(case hd=>rfl);(case hg=>rfl);(case hr=>first|(go_simp;done)|(go_simp;rfl));intro gb102 hg w16 hbox hb;have n0_:=A0_ (blk_below (g:=gb101) (o:=.cells #[.int .i64 a0_0,.int .i64 a0_1] 77 (0,0)) (by (with_reducible repeat first|refine bN_ ?_ _|refine bD_ ?_|refine bA_ ?_ _);exact BK101.out) hb);have n1_:=A0_ (below_step (by repeat (first|(with_reducible first|exact HB.out|apply ba_|apply pN_|apply b1_|refine bs_ ?_ GE101.out)|exact HB.out)) hb);have n2_:=A0_ (hbox);have n3_:=A0_ ((by rw [hg];exact (below_size (by repeat (first|(with_reducible first|exact HB.out|apply ba_|apply pN_|apply b1_|refine bs_ ?_ GE101.out)|exact HB.out))) : w.heap.size ≤ gb102));have n4_:=A0_ ((by rw [hg];exact (below_size (by repeat (first|(with_reducible first|exact HB.out|apply ba_|apply pN_|apply b1_|refine bs_ ?_ GE101.out)|exact HB.out))) : w.heap.size ≤ gb102));have n5_:=A0_ ((by rw [hg];exact Nat.ne_of_lt (blk_lt (g:=gb101) (o:=.cells #[.int .i64 a0_0,.int .i64 a0_1] 77 (0,0)) (by (with_reducible repeat first|refine bN_ ?_ _|refine bD_ ?_|refine bA_ ?_ _);exact BK101.out)) : gb101 ≠ gb102));have n6_:=A0_ ((by rw [hg];exact Nat.ne_of_gt (blk_lt (g:=gb101) (o:=.cells #[.int .i64 a0_0,.int .i64 a0_1] 77 (0,0)) (by (with_reducible repeat first|refine bN_ ?_ _|refine bD_ ?_|refine bA_ ?_ _);exact BK101.out)) : gb102 ≠ gb101));clear BK101;clear HB;have BK101:=n0_;have HB:=n1_;have BK102:=n2_;have GW102:=n3_;have GE102:=n4_;have NB101_102:=n5_;have NB102_101:=n6_;clear n0_ n1_ n2_ n3_ n4_ n5_ n6_;clear hb hbox hg;have hnb17:=NB101_102.out;have hnc17:=NB102_101.out;obtain ⟨hcz18_0,hcz18_1,hfz18_0,hfz18_1⟩:=cz2_ (w:=w16) BK101.out;obtain ⟨hcz19_0,hcz19_1,hfz19_0,hfz19_1⟩:=cz2_ (w:=w16) BK102.out));go_ret;exact ⟨by first|rfl|(simp [errW_none,errW_some] <;> rfl)|(simp [*,errW_none,errW_some] <;> rfl),by repeat (first|(with_reducible first|exact HB.out|apply ba_|apply pN_|apply b1_|refine bs_ ?_ GE101.out|refine bs_ ?_ GE102.out)|exact HB.out)⟩

  rw [if_pos c9] at H;have c9b0 : (a0_0 == a1_0) = true:=beq_iff_eq.mpr c9;have c9b1 : (a0_0 != a1_0) = false:=bne_eq_false_iff_eq.mpr c9;clear c9;obtain rfl:=Option.some.inj H;go_enter Try.func53,Try.ntmps53;go_wp2_with (first|((with_reducible refine gate_dst (N:=2) rfl ?_);refine box_event ?hg (N:=2) ?hd (cs:=#[.int .i64 a0_0,.int .i64 a0_1]) (t:=77) ?hr ?_;(case hd=>rfl);(case hg=>rfl);(case hr=>first|(go_simp;done)|(go_simp;rfl));intro gb101 hg w10 hbox hb;have n0_:=A0_ (below_step (by repeat (first|(with_reducible first|exact HB.out|apply ba_|apply pN_|apply b1_)|exact HB.out)) hb);have n1_:=A0_ (hbox);have n2_:=A0_ ((by rw [hg];exact (below_size (by repeat (first|(with_reducible first|exact HB.out|apply ba_|apply pN_|apply b1_)|exact HB.out))) : w.heap.size ≤ gb101));have n3_:=A0_ ((by rw [hg];exact (below_size (by repeat (first|(with_reducible first|exact HB.out|apply ba_|apply pN_|apply b1_)|exact HB.out))) : w.heap.size ≤ gb101));clear HB;have HB:=n0_;have BK101:=n1_;have GW101:=n2_;have GE101:=n3_;clear n0_ n1_ n2_ n3_;clear hb hbox hg)|((with_reducible refine gate_dst (N:=3) rfl ?_);refine box_event ?hg (N:=3) ?hd (cs:=#[.int .i64 a1_0,.int .i64 a1_1]) (t:=77) ?hr ?_;(case hd=>rfl);(case hg=>rfl);(case hr=>first|(go_simp;done)|(go_simp;rfl));intro gb102 hg w11 hbox hb;have n0_:=A0_ (blk_below (g:=gb101) (o:=.cells #[.int .i64 a0_0,.int .i64 a0_1] 77 (0,0)) (by (with_reducible repeat first|refine bN_ ?_ _|refine bD_ ?_|refine bA_ ?_ _);exact BK101.out) hb);have n1_:=A0_ (below_step (by repeat (first|(with_reducible first|exact HB.out|apply ba_|apply pN_|apply b1_|refine bs_ ?_ GE101.out)|exact HB.out)) hb);have n2_:=A0_ (hbox);have n3_:=A0_ ((by rw [hg];exact (below_size (by repeat (first|(with_reducible first|exact HB.out|apply ba_|apply pN_|apply b1_|refine bs_ ?_ GE101.out)|exact HB.out))) : w.heap.size ≤ gb102));have n4_:=A0_ ((by rw [hg];exact (below_size (by repeat (first|(with_reducible first|exact HB.out|apply ba_|apply pN_|apply b1_|refine bs_ ?_ GE101.out)|exact HB.out))) : w.heap.size ≤ gb102));have n5_:=A0_ ((by rw [hg];exact Nat.ne_of_lt (blk_lt (g:=gb101) (o:=.cells #[.int .i64 a0_0,.int .i64 a0_1] 77 (0,0)) (by (with_reducible repeat first|refine bN_ ?_ _|refine bD_ ?_|refine bA_ ?_ _);exact BK101.out)) : gb101 ≠ gb102));have n6_:=A0_ ((by rw [hg];exact Nat.ne_of_gt (blk_lt (g:=gb101) (o:=.cells #[.int .i64 a0_0,.int .i64 a0_1] 77 (0,0)) (by (with_reducible repeat first|refine bN_ ?_ _|refine bD_ ?_|refine bA_ ?_ _);exact BK101.out)) : gb102 ≠ gb101));clear BK101;clear HB;have BK101:=n0_;have HB:=n1_;have BK102:=n2_;have GW102:=n3_;have GE102:=n4_;have NB101_102:=n5_;have NB102_101:=n6_;clear n0_ n1_ n2_ n3_ n4_ n5_ n6_;clear hb hbox hg;have hnb12:=NB101_102.out;have hnc12:=NB102_101.out;obtain ⟨hcz13_0,hcz13_1,hfz13_0,hfz13_1⟩:=cz2_ (w:=w11) BK101.out;obtain ⟨hcz14_0,hcz14_1,hfz14_0,hfz14_1⟩:=cz2_ (w:=w11) BK102.out));go_ret;exact ⟨by first|rfl|(simp [errW_none,errW_some] <;> rfl)|(simp [*,errW_none,errW_some] <;> rfl),by repeat (first|(with_reducible first|exact HB.out|apply ba_|apply pN_|apply b1_|refine bs_ ?_ GE101.out|refine bs_ ?_ GE102.out)|exact HB.out)⟩
-- NOT PRINTED: function 54 (timer_Timers_put)

-- NOT PRINTED: function 37 (timer_Timers_up)

-- NOT PRINTED: function 55 (timer_Timers_down)

-- NOT PRINTED: function 39 (timer_Timers_cut)

-- NOT PRINTED: function 22 (timer_Timers_Drop)

-- NOT PRINTED: function 10 (timer_Timers_Set)

-- NOT PRINTED: function 15 (timer_Timers_Len)

-- NOT PRINTED: function 12 (timer_Timers_Due)

-- NOT PRINTED: function 20 (timer_Timers_First)

-- NOT PRINTED: function 16 (logjamlaw05_lives)

/-! ### logjamref05_Drop: function 38 -/
def logjamref05_Drop.l0 : Nat → List (S81) → Int → List (S81) → Int → Option ((List (S81)))
  | 0,_,_,_,_=>none
  | k + 1,x0,x1,x5,x6=>if x6 < (x0.length : Int) then (if 0 ≤ x6 then (if ((rd_T81 x0 x6).f0) = x1 then (logjamref05_Drop.l0 k x0 x1 x5 (wrap64 (x6 + 1))) else (if x5.length < 8796093022208 then (logjamref05_Drop.l0 k x0 x1 (x5 ++ [(⟨(rd_T81 x0 x6).f0,(rd_T81 x0 x6).f1⟩ : S81)]) (wrap64 (x6 + 1))) else (none))) else (none)) else (some x5)
def logjamref05_Drop.f (k : Nat) (l0 : List (S81)) (a1 : Int) : Option ((List (S81))) := logjamref05_Drop.l0 k l0 a1 (([] : List (S81))) 0
theorem logjamref05_Drop.mono_l : ∀ k, (∀ y0 y1 y2 y3, LeO (logjamref05_Drop.l0 k y0 y1 y2 y3) (logjamref05_Drop.l0 (k + 1) y0 y1 y2 y3))
  | 0=>fun _ _ _ _ r h=>by simp [logjamref05_Drop.l0] at h
  | k + 1=>by
    have ih0:=logjamref05_Drop.mono_l k
    · intro y0 y1 y2 y3
      unfold logjamref05_Drop.l0
      repeat' first
      | (with_reducible exact ih0 _ _ _ _)
      | (with_reducible exact LeO.refl _)
      | (with_reducible exact LeO.none _)
      | (with_reducible refine LeO.ite ?_ ?_)
      | (with_reducible refine LeO.bind ?_ (fun _=>?_))
      | exact ih0 _ _ _ _
      | exact LeO.none _
      | refine LeO.ite ?_ ?_
      | refine LeO.bind ?_ (fun _=>?_)
theorem logjamref05_Drop.mono : ∀ a0 a1 k, LeO (logjamref05_Drop.f k a0 a1) (logjamref05_Drop.f (k + 1) a0 a1) := by
  intro a0 a1 k
  have ih0:=logjamref05_Drop.mono_l k;unfold logjamref05_Drop.f
  repeat' first
      | (with_reducible exact ih0 _ _ _ _)
      | (with_reducible exact LeO.refl _)
      | (with_reducible exact LeO.none _)
      | (with_reducible refine LeO.ite ?_ ?_)
      | (with_reducible refine LeO.bind ?_ (fun _=>?_))
      | exact ih0 _ _ _ _
      | exact LeO.none _
      | refine LeO.ite ?_ ?_
      | refine LeO.bind ?_ (fun _=>?_)
set_option maxHeartbeats 8000000 in
set_option maxRecDepth 100000 in
theorem logjamref05_Drop.calls (k : Nat) (A0 : Option Addr) (c0 : Nat) (l0 : List (S81)) (a1 : Int) (r : List (S81)) (w : World) (hr0 : Kd.C k81 w A0 l0.length l0) (hc0 : l0.length ≤ c0) (h : logjamref05_Drop.f k l0 a1 = some r) :
    Calls Try.prog 38 #[.slice A0 l0.length c0,.int .i64 a1] w fun e w'=>∃ v0_ : Value,e = .returned (v0_) ∧ Kd.R k81 81 w' w.heap.size (fun _=>True) v0_ r ∧ Below w.heap.size w w':=by
  have hu81:=Try.underlying81;have HR0:=A0_ hr0;have HC0:=A0_ hc0;clear hr0 hc0;have HB:=A0_ (Below.refl w.heap.size w);have H : (logjamref05_Drop.l0 k l0 a1 (([] : List (S81))) 0) = some r:=h;clear h;obtain ⟨y103,hy103⟩ : ∃ y_ : List (S81),y_ = (([] : List (S81))):=⟨_,rfl⟩;replace H : (logjamref05_Drop.l0 k l0 a1 y103 0) = some r:=by first|(rw [hy103];with_reducible exact H)|(have H2_:=(Option.bind_some _ _).symm.trans H;rw [hy103];with_reducible exact H2_)|(have H2_:=(Option.bind_some _ _).symm.trans H;with_reducible exact H2_)|with_reducible exact H|(rw [hy103];exact H)|exact H
  have Ny103:=A0_ hy103;clear hy103;have H':=A0_ H;clear H;go_enter Try.func38,Try.ntmps38;go_wp2_with (first|((with_reducible refine gate_dst (N:=7) rfl ?_);refine Kd.R_lit k81 _ 81 ?hg (N:=7) ?hd (xs:=([] : List (S81))) (inner:=[]) (ok:=fun _=>True) (okp:=fun _=>True) ?hr ?hp (fun _ hk=>hk) trivial (Below.refl _ _) (Nat.le_refl _) (by simp) ?_;(case hd=>rfl);(case hg=>rfl);(case hr=>first|(go_simp;done)|(go_simp;rfl));(case hp=>exact (Reps.none _ _));intro v104 w3 ho4 hb hg_ hnew_;clear hg_ hnew_;(first|rw [← Ny103.out] at ho4|(simp only [Int.reduceToNat] at ho4;rw [← Ny103.out] at ho4));have n0_:=A0_ (Kd.R_lower ho4 (below_size (by repeat (first|(with_reducible first|exact HB.out|apply ba_|apply pN_|apply b1_)|exact HB.out))));have n1_:=A0_ (below_step (by repeat (first|(with_reducible first|exact HB.out|apply ba_|apply pN_|apply b1_)|exact HB.out)) hb);clear HB;have HO105:=n0_;have HB:=n1_;clear n0_ n1_;clear hb ho4))
  go_loopg [5,6] k (fun kq v5 v6 w'=>∃ (x5_1 : List (S81)) (x6_1 : Int),v6 = .int .i64 x6_1 ∧ Aside0 (logjamref05_Drop.l0 kq l0 a1 x5_1 x6_1 = some r) ∧ Aside0 (kq ≤ k) ∧ Aside0 (Kd.R k81 81 w' w.heap.size (fun _=>True) v5 x5_1) ∧ Aside0 (Below w.heap.size w w'))
  case atStart=>exact ⟨(y103),(0),(by first|rfl|(simp;done)|(simp [*];done)),H',⟨Nat.le_refl _⟩,⟨by (with_reducible repeat first|apply Ra_|apply Rn_|apply Rd_);exact HO105.out⟩,⟨by repeat (first|(with_reducible first|exact HB.out|apply ba_|apply pN_|apply b1_)|exact HB.out)⟩⟩
  case round =>
    clear H';(try clear p2);(try clear c3);obtain ⟨x5_1,x6_1,rfl,HA,HK1,HO_5,HB⟩:=hrel
    cases gk with
    | zero=>exact absurd HA.out (by simp [logjamref05_Drop.l0])
    | succ k1 =>
      have H:=HA.out;clear HA;simp only [logjamref05_Drop.l0] at H;by_cases c5 : x6_1 < (l0.length : Int);rotate_left
      · rw [if_neg c5] at H
        have c5b0 : decide (x6_1 < (l0.length : Int)) = false:=decide_eq_false c5;clear c5;obtain rfl:=Option.some.inj H;go_wp2;go_ret;exact ⟨_,by first|rfl|(simp [errW_none,errW_some] <;> rfl)|(simp [*,errW_none,errW_some] <;> rfl),by (with_reducible repeat first|apply Ra_|apply Rn_|apply Rd_);exact HO_5.out,by repeat (first|(with_reducible first|exact HB.out|apply ba_|apply pN_|apply b1_)|exact HB.out)⟩

      rw [if_pos c5] at H;have c5b0 : decide (x6_1 < (l0.length : Int)) = true:=decide_eq_true c5;clear c5;by_cases c6 : 0 ≤ x6_1;rotate_left
      · rw [if_neg c6] at H
        exact absurd H (by simp)
      rw [if_pos c6] at H;have c6b0 : decide (0 ≤ x6_1) = true:=decide_eq_true c6;clear c6;by_cases c7 : ((rd_T81 l0 x6_1).f0) = a1
      · rw [if_pos c7] at H
        have c7b0 : (((rd_T81 l0 x6_1).f0) == a1) = true:=beq_iff_eq.mpr c7;have c7b1 : (((rd_T81 l0 x6_1).f0) != a1) = false:=bne_eq_false_iff_eq.mpr c7;clear c7;have H':=A0_ H;clear H;have p106 : 0 ≤ (x6_1 : Int):=of_decide_eq_true (by first|(with_reducible assumption)|assumption);have q106 : x6_1 < (l0.length : Int):=of_decide_eq_true (by first|(with_reducible assumption)|assumption);obtain ⟨ad106,e106,hx106_0,hx106_1⟩:=at_T81 HR0.out x6_1 p106 q106;cases e106;replace hx106_0:=(HB.out.cell (bl_ w _ hx106_0)).trans hx106_0;replace hx106_1:=(HB.out.cell (bl_ w _ hx106_1)).trans hx106_1;replace p106:=eq_true p106;replace q106:=eq_true q106;go_wp2
        go_roundg k1
        case measure=>have:=HK1.out;omega
        case rel=>exact ⟨(x5_1),(wrap64 (x6_1 + 1)),(by first|rfl|(simp;done)|(simp [*];done)),H',⟨by have:=HK1.out;omega⟩,⟨by (with_reducible repeat first|apply Ra_|apply Rn_|apply Rd_);exact HO_5.out⟩,⟨by repeat (first|(with_reducible first|exact HB.out|apply ba_|apply pN_|apply b1_)|exact HB.out)⟩⟩
      rw [if_neg c7] at H;have c7b0 : (((rd_T81 l0 x6_1).f0) == a1) = false:=beq_eq_false_iff_ne.mpr c7;have c7b1 : (((rd_T81 l0 x6_1).f0) != a1) = true:=bne_iff_ne.mpr c7;by_cases c8 : x5_1.length < 8796093022208;rotate_left
      · rw [if_neg c8] at H
        exact absurd H (by simp)
      rw [if_pos c8] at H;have LMc8:=A0_ c8;clear c8;obtain ⟨y108,hy108⟩ : ∃ y_ : List (S81),y_ = (x5_1 ++ [(⟨(rd_T81 l0 x6_1).f0,(rd_T81 l0 x6_1).f1⟩ : S81)]):=⟨_,rfl⟩;replace H : (logjamref05_Drop.l0 k1 l0 a1 y108 (wrap64 (x6_1 + 1))) = some r:=by first|(rw [hy108];with_reducible exact H)|(have H2_:=(Option.bind_some _ _).symm.trans H;rw [hy108];with_reducible exact H2_)|(have H2_:=(Option.bind_some _ _).symm.trans H;with_reducible exact H2_)|with_reducible exact H|(rw [hy108];exact H)|exact H
      have Ny108:=A0_ hy108;clear hy108;have H':=A0_ H;clear H;have p106 : 0 ≤ (x6_1 : Int):=of_decide_eq_true (by first|(with_reducible assumption)|assumption);have q106 : x6_1 < (l0.length : Int):=of_decide_eq_true (by first|(with_reducible assumption)|assumption);obtain ⟨ad106,e106,hx106_0,hx106_1⟩:=at_T81 HR0.out x6_1 p106 q106;cases e106;replace hx106_0:=(HB.out.cell (bl_ w _ hx106_0)).trans hx106_0;replace hx106_1:=(HB.out.cell (bl_ w _ hx106_1)).trans hx106_1;replace p106:=eq_true p106;replace q106:=eq_true q106;have p107 : 0 ≤ (x6_1 : Int):=of_decide_eq_true (by first|(with_reducible assumption)|assumption);have q107 : x6_1 < (l0.length : Int):=of_decide_eq_true (by first|(with_reducible assumption)|assumption);obtain ⟨ad107,e107,hx107_0,hx107_1⟩:=at_T81 HR0.out x6_1 p107 q107;obtain rfl : ad106 = ad107:=(by injection e107);replace hx107_0:=(HB.out.cell (bl_ w _ hx107_0)).trans hx107_0;replace hx107_1:=(HB.out.cell (bl_ w _ hx107_1)).trans hx107_1;replace p107:=eq_true p107;replace q107:=eq_true q107;go_wp2_with (first|((with_reducible refine gate_builtin (b:=.append) (xs:=#[.tmp 21,.tmp 26]) rfl ?_);at_builtin;refine Kd.R_append k81 (w0:=w) w.heap.size rfl (.tmp 21) (.tmp 26) 29 81 (.agg #[(.int .i64 0),(.int .i64 0)]) 16 rfl Try.underlying29 info81 rfl (by decide) (by omega) u5 x5_1 (⟨(rd_T81 l0 x6_1).f0,(rd_T81 l0 x6_1).f1⟩ : S81) [.int .i64 ((rd_T81 l0 x6_1).f0),.int .i64 ((rd_T81 l0 x6_1).f1)] (fun _=>True) (fun _=>False) rfl rfl ?aP (fun _ hk=>hk.elim) ?aF ?aO ?aB ?aS ?aL ?_;(case aP=>exact k81_mkM _ _ _ (⟨(rd_T81 l0 x6_1).f0,(rd_T81 l0 x6_1).f1⟩ : S81));(case aB=>exact (by repeat (first|(with_reducible first|exact HB.out|apply ba_|apply pN_|apply b1_)|exact HB.out)));(case aF=>exact (fun _ _=>trivial));(case aO=>exact (by (with_reducible repeat first|apply Ra_|apply Rn_|apply Rd_);exact HO_5.out));(case aS=>exact (below_size (by repeat (first|(with_reducible first|exact HB.out|apply ba_|apply pN_|apply b1_)|exact HB.out))));(case aL=>have:=LMc8.out;omega);intro v109 w9 ho hb hg hat;rw [← Ny108.out] at ho;have n0_:=A0_ (hb);have n1_:=A0_ (ho);clear HB;clear HO_5;have HB:=n0_;have HO110:=n1_;clear n0_ n1_;clear ho hb hg hat))
      go_roundg k1
      case measure=>have:=HK1.out;omega
      case rel=>exact ⟨(y108),(wrap64 (x6_1 + 1)),(by first|rfl|(simp;done)|(simp [*];done)),H',⟨by have:=HK1.out;omega⟩,⟨by (with_reducible repeat first|apply Ra_|apply Rn_|apply Rd_);exact HO110.out⟩,⟨by repeat (first|(with_reducible first|exact HB.out|apply ba_|apply pN_|apply b1_)|exact HB.out)⟩⟩
/-! ### logjamref05_Set: function 11 -/
def logjamref05_Set.f (k : Nat) (l0 : List (S81)) (a1 : Int) (a2 : Int) : Option ((List (S81))) := (logjamref05_Drop.f k l0 a1).bind fun t111 => (if t111.length < 8796093022208 then (some (t111 ++ [(⟨a1, a2⟩ : S81)])) else (none))
theorem logjamref05_Set.mono : ∀ a0 a1 a2 k, LeO (logjamref05_Set.f k a0 a1 a2) (logjamref05_Set.f (k + 1) a0 a1 a2) := by
  intro a0 a1 a2 k
  unfold logjamref05_Set.f
  repeat' first
      | (with_reducible exact logjamref05_Drop.mono _ _ _)
      | (with_reducible exact LeO.refl _)
      | (with_reducible exact LeO.none _)
      | (with_reducible refine LeO.ite ?_ ?_)
      | (with_reducible refine LeO.bind ?_ (fun _=>?_))
      | exact logjamref05_Drop.mono _ _ _
      | exact LeO.none _
      | refine LeO.ite ?_ ?_
      | refine LeO.bind ?_ (fun _=>?_)
set_option maxHeartbeats 8000000 in
set_option maxRecDepth 100000 in
theorem logjamref05_Set.calls (k : Nat) (A0 : Option Addr) (c0 : Nat) (l0 : List (S81)) (a1 : Int) (a2 : Int) (r : List (S81)) (w : World) (hr0 : Kd.C k81 w A0 l0.length l0) (hc0 : l0.length ≤ c0) (h : logjamref05_Set.f k l0 a1 a2 = some r) :
    Calls Try.prog 11 #[.slice A0 l0.length c0,.int .i64 a1,.int .i64 a2] w fun e w'=>∃ v0_ : Value,e = .returned (v0_) ∧ Kd.R k81 81 w' w.heap.size (fun _=>True) v0_ r ∧ Below w.heap.size w w':=by
  have hu81:=Try.underlying81;have HR0:=A0_ hr0;have HC0:=A0_ hc0;clear hr0 hc0;have HB:=A0_ (Below.refl w.heap.size w);have H : ((logjamref05_Drop.f k l0 a1).bind fun t111=>(if t111.length < 8796093022208 then (some (t111 ++ [(⟨a1,a2⟩ : S81)])) else (none))) = some r:=h;clear h;replace H:=bm_ H;obtain ⟨t111,A40,H⟩:=H;replace H : (if t111.length < 8796093022208 then (some (t111 ++ [(⟨a1,a2⟩ : S81)])) else (none)) = some r:=H;have A4:=A0_ A40;clear A40;by_cases c5 : t111.length < 8796093022208;rotate_left
  · rw [if_neg c5] at H
    exact absurd H (by simp)

  rw [if_pos c5] at H;have LMc5:=A0_ c5;clear c5;obtain ⟨y114,hy114⟩ : ∃ y_ : List (S81),y_ = (t111 ++ [(⟨a1,a2⟩ : S81)]):=⟨_,rfl⟩;replace H : (some y114) = some r:=by first|(rw [hy114];with_reducible exact H)|(have H2_:=(Option.bind_some _ _).symm.trans H;rw [hy114];with_reducible exact H2_)|(have H2_:=(Option.bind_some _ _).symm.trans H;with_reducible exact H2_)|with_reducible exact H|(rw [hy114];exact H)|exact H
  have Ny114:=A0_ hy114;clear hy114;obtain rfl:=Option.some.inj H;go_enter Try.func11,Try.ntmps11;go_wp2_with (first|((with_reducible refine gate_callee (f:=38) rfl ?_);refine goesL_ (some 9) rfl rfl Try.func38 (by kernel_rfl) rfl #[.slice A0 l0.length c0,.int .i64 a1] rfl (by first|(simp only [List.map_toArray,List.map_cons,List.map_nil] <;> rfl)|rfl|(simp only [List.length_drop,List.length_take];rfl)) ?_;(with_reducible refine (logjamref05_Drop.calls k _ _ l0 a1 t111 _ ?side1 ?side2 A4.out).mono ?_);(case side1=>repeat (first|exact HR0.out|(with_reducible first|refine Ca_ ?_ _|refine Cn_ ?_ _|refine Cd_ ?_)));(case side2=>exact HC0.out);rintro e w6 ⟨v112,rfl,ho0,hb⟩;refine ⟨_,rfl,?_⟩;have n0_:=A0_ (Kd.R_lower ho0 (below_size (by repeat (first|(with_reducible first|exact HB.out|apply ba_|apply pN_|apply b1_)|exact HB.out))));have n1_:=A0_ (below_step (by repeat (first|(with_reducible first|exact HB.out|apply ba_|apply pN_|apply b1_)|exact HB.out)) hb);clear HB;have HO113:=n0_;have HB:=n1_;clear n0_ n1_;(try clear hb);(try clear hb2);(try clear hk);(try clear hi);(try clear ho0))|((with_reducible refine gate_builtin (b:=.append) (xs:=#[.tmp 9,.tmp 13]) rfl ?_);at_builtin;refine Kd.R_append k81 (w0:=w) w.heap.size rfl (.tmp 9) (.tmp 13) 29 81 (.agg #[(.int .i64 0),(.int .i64 0)]) 16 rfl Try.underlying29 info81 rfl (by decide) (by omega) v112 t111 (⟨a1,a2⟩ : S81) [.int .i64 a1,.int .i64 a2] (fun _=>True) (fun _=>False) rfl rfl ?aP (fun _ hk=>hk.elim) ?aF ?aO ?aB ?aS ?aL ?_;(case aP=>exact k81_mkM _ _ _ (⟨a1,a2⟩ : S81));(case aB=>exact (by repeat (first|(with_reducible first|exact HB.out|apply ba_|apply pN_|apply b1_)|exact HB.out)));(case aF=>exact (fun _ _=>trivial));(case aO=>exact (by (with_reducible repeat first|apply Ra_|apply Rn_|apply Rd_);exact HO113.out));(case aS=>exact (below_size (by repeat (first|(with_reducible first|exact HB.out|apply ba_|apply pN_|apply b1_)|exact HB.out))));(case aL=>have:=LMc5.out;omega);intro v115 w7 ho hb hg hat;rw [← Ny114.out] at ho;have n0_:=A0_ (hb);have n1_:=A0_ (ho);clear HB;clear HO113;have HB:=n0_;have HO116:=n1_;clear n0_ n1_;clear ho hb hg hat));go_ret;exact ⟨_,by first|rfl|(simp [errW_none,errW_some] <;> rfl)|(simp [*,errW_none,errW_some] <;> rfl),by (with_reducible repeat first|apply Ra_|apply Rn_|apply Rd_);exact HO116.out,by repeat (first|(with_reducible first|exact HB.out|apply ba_|apply pN_|apply b1_)|exact HB.out)⟩
/-! ### logjamref05_First: function 40 -/
def logjamref05_First.l0 : Nat → List (S81) → Int → Int → Option (Int)
  | 0,_,_,_=>none
  | k + 1,x0,x3,x4=>if x4 < (x0.length : Int) then (if x3 < 0 then (logjamref05_First.l0 k x0 x4 (wrap64 (x4 + 1))) else (if 0 ≤ x4 then (if 0 ≤ x3 then (if x3 < (x0.length : Int) then (if ((rd_T81 x0 x4).f1) < ((rd_T81 x0 x3).f1) then (logjamref05_First.l0 k x0 x4 (wrap64 (x4 + 1))) else (if ((rd_T81 x0 x4).f1) = ((rd_T81 x0 x3).f1) then (if ((rd_T81 x0 x4).f0) < ((rd_T81 x0 x3).f0) then (logjamref05_First.l0 k x0 x4 (wrap64 (x4 + 1))) else (logjamref05_First.l0 k x0 x3 (wrap64 (x4 + 1)))) else (logjamref05_First.l0 k x0 x3 (wrap64 (x4 + 1))))) else (none)) else (none)) else (none))) else (some x3)
def logjamref05_First.f (k : Nat) (l0 : List (S81)) : Option (Int) := logjamref05_First.l0 k l0 (-1) 0
theorem logjamref05_First.mono_l : ∀ k, (∀ y0 y1 y2, LeO (logjamref05_First.l0 k y0 y1 y2) (logjamref05_First.l0 (k + 1) y0 y1 y2))
  | 0=>fun _ _ _ r h=>by simp [logjamref05_First.l0] at h
  | k + 1=>by
    have ih0:=logjamref05_First.mono_l k
    · intro y0 y1 y2
      unfold logjamref05_First.l0
      repeat' first
      | (with_reducible exact ih0 _ _ _)
      | (with_reducible exact LeO.refl _)
      | (with_reducible exact LeO.none _)
      | (with_reducible refine LeO.ite ?_ ?_)
      | (with_reducible refine LeO.bind ?_ (fun _=>?_))
      | exact ih0 _ _ _
      | exact LeO.none _
      | refine LeO.ite ?_ ?_
      | refine LeO.bind ?_ (fun _=>?_)
theorem logjamref05_First.mono : ∀ a0 k, LeO (logjamref05_First.f k a0) (logjamref05_First.f (k + 1) a0) := by
  intro a0 k
  have ih0:=logjamref05_First.mono_l k;unfold logjamref05_First.f
  repeat' first
      | (with_reducible exact ih0 _ _ _)
      | (with_reducible exact LeO.refl _)
      | (with_reducible exact LeO.none _)
      | (with_reducible refine LeO.ite ?_ ?_)
      | (with_reducible refine LeO.bind ?_ (fun _=>?_))
      | exact ih0 _ _ _
      | exact LeO.none _
      | refine LeO.ite ?_ ?_
      | refine LeO.bind ?_ (fun _=>?_)
set_option maxHeartbeats 8000000 in
set_option maxRecDepth 100000 in
theorem logjamref05_First.calls (k : Nat) (A0 : Option Addr) (c0 : Nat) (l0 : List (S81)) (r : Int) (w : World) (hr0 : Kd.C k81 w A0 l0.length l0) (hc0 : l0.length ≤ c0) (h : logjamref05_First.f k l0 = some r) :
    Calls Try.prog 40 #[.slice A0 l0.length c0] w fun e w'=>e = .returned (.int .i64 r) ∧ Drawn0 w w':=by
  have HR0:=A0_ hr0;have HC0:=A0_ hc0;clear hr0 hc0;have H : (logjamref05_First.l0 k l0 (-1) 0) = some r:=h;clear h;have H':=A0_ H;clear H;go_enter Try.func40,Try.ntmps40;go_wp2
  repeat (go_quiet (fail);try go_wp2)
  go_loopg [3,4] k (fun kq v3 v4 w'=>∃ (x3_1 : Int) (x4_1 : Int),v3 = .int .i64 x3_1 ∧ v4 = .int .i64 x4_1 ∧ Aside0 (logjamref05_First.l0 kq l0 x3_1 x4_1 = some r) ∧ Aside0 (kq ≤ k) ∧ Drawn0 w w')
  case atStart=>exact ⟨((-1)),(0),(by first|rfl|(simp;done)|(simp [*];done)),(by first|rfl|(simp;done)|(simp [*];done)),H',⟨Nat.le_refl _⟩,by repeat (first|exact Drawn0.refl _|apply Drawn0.step)⟩
  case round =>
    clear H';obtain ⟨x3_1,x4_1,rfl,rfl,HA,HK1,⟨m1,rfl⟩⟩:=hrel
    cases gk with
    | zero=>exact absurd HA.out (by simp [logjamref05_First.l0])
    | succ k1 =>
      have H:=HA.out;clear HA;simp only [logjamref05_First.l0] at H;by_cases c2 : x4_1 < (l0.length : Int);rotate_left
      · rw [if_neg c2] at H
        have c2b0 : decide (x4_1 < (l0.length : Int)) = false:=decide_eq_false c2;clear c2;obtain rfl:=Option.some.inj H;go_wp2
        repeat (go_quiet (fail);try go_wp2)
        go_ret;exact ⟨by first|rfl|(simp;done)|(simp [*];done),by repeat (first|exact Drawn0.refl _|apply Drawn0.step)⟩

      rw [if_pos c2] at H;have c2b0 : decide (x4_1 < (l0.length : Int)) = true:=decide_eq_true c2;clear c2;by_cases c3 : x3_1 < 0
      · rw [if_pos c3] at H
        have c3b0 : decide (x3_1 < 0) = true:=decide_eq_true c3;clear c3;have H':=A0_ H;clear H;go_wp2
        repeat (go_quiet (fail);try go_wp2)
        go_roundg k1
        case measure=>have:=HK1.out;omega
        case rel=>exact ⟨(x4_1),(wrap64 (x4_1 + 1)),(by first|rfl|(simp;done)|(simp [*];done)),(by first|rfl|(simp;done)|(simp [*];done)),H',⟨by have:=HK1.out;omega⟩,by repeat (first|exact Drawn0.refl _|apply Drawn0.step)⟩
      rw [if_neg c3] at H;have c3b0 : decide (x3_1 < 0) = false:=decide_eq_false c3;clear c3;by_cases c4 : 0 ≤ x4_1;rotate_left
      · rw [if_neg c4] at H
        exact absurd H (by simp)
      rw [if_pos c4] at H;have c4b0 : decide (0 ≤ x4_1) = true:=decide_eq_true c4;clear c4;by_cases c5 : 0 ≤ x3_1;rotate_left
      · rw [if_neg c5] at H
        exact absurd H (by simp)
      rw [if_pos c5] at H;have c5b0 : decide (0 ≤ x3_1) = true:=decide_eq_true c5;clear c5;by_cases c6 : x3_1 < (l0.length : Int);rotate_left
      · rw [if_neg c6] at H
        exact absurd H (by simp)
      rw [if_pos c6] at H;have c6b0 : decide (x3_1 < (l0.length : Int)) = true:=decide_eq_true c6;clear c6;by_cases c7 : ((rd_T81 l0 x4_1).f1) < ((rd_T81 l0 x3_1).f1)
      · rw [if_pos c7] at H
        have c7b0 : decide (((rd_T81 l0 x4_1).f1) < ((rd_T81 l0 x3_1).f1)) = true:=decide_eq_true c7;clear c7;have H':=A0_ H;clear H;have p117 : 0 ≤ (x4_1 : Int):=of_decide_eq_true (by first|(with_reducible assumption)|assumption);have q117 : x4_1 < (l0.length : Int):=of_decide_eq_true (by first|(with_reducible assumption)|assumption);obtain ⟨ad117,e117,hx117_0,hx117_1⟩:=at_T81 HR0.out x4_1 p117 q117;cases e117;replace p117:=eq_true p117;replace q117:=eq_true q117;have p118 : 0 ≤ (x3_1 : Int):=of_decide_eq_true (by first|(with_reducible assumption)|assumption);have q118 : x3_1 < (l0.length : Int):=of_decide_eq_true (by first|(with_reducible assumption)|assumption);obtain ⟨ad118,e118,hx118_0,hx118_1⟩:=at_T81 HR0.out x3_1 p118 q118;obtain rfl : ad117 = ad118:=(by injection e118);replace p118:=eq_true p118;replace q118:=eq_true q118;go_wp2
        repeat (go_quiet (fail);try go_wp2)
        go_roundg k1
        case measure=>have:=HK1.out;omega
        case rel=>exact ⟨(x4_1),(wrap64 (x4_1 + 1)),(by first|rfl|(simp;done)|(simp [*];done)),(by first|rfl|(simp;done)|(simp [*];done)),H',⟨by have:=HK1.out;omega⟩,by repeat (first|exact Drawn0.refl _|apply Drawn0.step)⟩
      rw [if_neg c7] at H;have c7b0 : decide (((rd_T81 l0 x4_1).f1) < ((rd_T81 l0 x3_1).f1)) = false:=decide_eq_false c7;clear c7;by_cases c8 : ((rd_T81 l0 x4_1).f1) = ((rd_T81 l0 x3_1).f1);rotate_left
      · rw [if_neg c8] at H
        have c8b0 : (((rd_T81 l0 x4_1).f1) == ((rd_T81 l0 x3_1).f1)) = false:=beq_eq_false_iff_ne.mpr c8;have c8b1 : (((rd_T81 l0 x4_1).f1) != ((rd_T81 l0 x3_1).f1)) = true:=bne_iff_ne.mpr c8;have H':=A0_ H;clear H;have p117 : 0 ≤ (x4_1 : Int):=of_decide_eq_true (by first|(with_reducible assumption)|assumption);have q117 : x4_1 < (l0.length : Int):=of_decide_eq_true (by first|(with_reducible assumption)|assumption);obtain ⟨ad117,e117,hx117_0,hx117_1⟩:=at_T81 HR0.out x4_1 p117 q117;cases e117;replace p117:=eq_true p117;replace q117:=eq_true q117;have p118 : 0 ≤ (x3_1 : Int):=of_decide_eq_true (by first|(with_reducible assumption)|assumption);have q118 : x3_1 < (l0.length : Int):=of_decide_eq_true (by first|(with_reducible assumption)|assumption);obtain ⟨ad118,e118,hx118_0,hx118_1⟩:=at_T81 HR0.out x3_1 p118 q118;obtain rfl : ad117 = ad118:=(by injection e118);replace p118:=eq_true p118;replace q118:=eq_true q118;have p119 : 0 ≤ (x4_1 : Int):=of_decide_eq_true (by first|(with_reducible assumption)|assumption);have q119 : x4_1 < (l0.length : Int):=of_decide_eq_true (by first|(with_reducible assumption)|assumption);obtain ⟨ad119,e119,hx119_0,hx119_1⟩:=at_T81 HR0.out x4_1 p119 q119;obtain rfl : ad117 = ad119:=(by injection e119);replace p119:=eq_true p119;replace q119:=eq_true q119;have p120 : 0 ≤ (x3_1 : Int):=of_decide_eq_true (by first|(with_reducible assumption)|assumption);have q120 : x3_1 < (l0.length : Int):=of_decide_eq_true (by first|(with_reducible assumption)|assumption);obtain ⟨ad120,e120,hx120_0,hx120_1⟩:=at_T81 HR0.out x3_1 p120 q120;obtain rfl : ad117 = ad120:=(by injection e120);replace p120:=eq_true p120;replace q120:=eq_true q120;go_wp2
        repeat (go_quiet (fail);try go_wp2)
        go_roundg k1
        case measure=>have:=HK1.out;omega
        case rel=>exact ⟨(x3_1),(wrap64 (x4_1 + 1)),(by first|rfl|(simp;done)|(simp [*];done)),(by first|rfl|(simp;done)|(simp [*];done)),H',⟨by have:=HK1.out;omega⟩,by repeat (first|exact Drawn0.refl _|apply Drawn0.step)⟩
      rw [if_pos c8] at H;have c8b0 : (((rd_T81 l0 x4_1).f1) == ((rd_T81 l0 x3_1).f1)) = true:=beq_iff_eq.mpr c8;have c8b1 : (((rd_T81 l0 x4_1).f1) != ((rd_T81 l0 x3_1).f1)) = false:=bne_eq_false_iff_eq.mpr c8;clear c8;by_cases c9 : ((rd_T81 l0 x4_1).f0) < ((rd_T81 l0 x3_1).f0)
      · rw [if_pos c9] at H
        have c9b0 : decide (((rd_T81 l0 x4_1).f0) < ((rd_T81 l0 x3_1).f0)) = true:=decide_eq_true c9;clear c9;have H':=A0_ H;clear H;have p117 : 0 ≤ (x4_1 : Int):=of_decide_eq_true (by first|(with_reducible assumption)|assumption);have q117 : x4_1 < (l0.length : Int):=of_decide_eq_true (by first|(with_reducible assumption)|assumption);obtain ⟨ad117,e117,hx117_0,hx117_1⟩:=at_T81 HR0.out x4_1 p117 q117;cases e117;replace p117:=eq_true p117;replace q117:=eq_true q117;have p118 : 0 ≤ (x3_1 : Int):=of_decide_eq_true (by first|(with_reducible assumption)|assumption);have q118 : x3_1 < (l0.length : Int):=of_decide_eq_true (by first|(with_reducible assumption)|assumption);obtain ⟨ad118,e118,hx118_0,hx118_1⟩:=at_T81 HR0.out x3_1 p118 q118;obtain rfl : ad117 = ad118:=(by injection e118);replace p118:=eq_true p118;replace q118:=eq_true q118;have p119 : 0 ≤ (x4_1 : Int):=of_decide_eq_true (by first|(with_reducible assumption)|assumption);have q119 : x4_1 < (l0.length : Int):=of_decide_eq_true (by first|(with_reducible assumption)|assumption);obtain ⟨ad119,e119,hx119_0,hx119_1⟩:=at_T81 HR0.out x4_1 p119 q119;obtain rfl : ad117 = ad119:=(by injection e119);replace p119:=eq_true p119;replace q119:=eq_true q119;have p120 : 0 ≤ (x3_1 : Int):=of_decide_eq_true (by first|(with_reducible assumption)|assumption);have q120 : x3_1 < (l0.length : Int):=of_decide_eq_true (by first|(with_reducible assumption)|assumption);obtain ⟨ad120,e120,hx120_0,hx120_1⟩:=at_T81 HR0.out x3_1 p120 q120;obtain rfl : ad117 = ad120:=(by injection e120);replace p120:=eq_true p120;replace q120:=eq_true q120;have p121 : 0 ≤ (x4_1 : Int):=of_decide_eq_true (by first|(with_reducible assumption)|assumption);have q121 : x4_1 < (l0.length : Int):=of_decide_eq_true (by first|(with_reducible assumption)|assumption);obtain ⟨ad121,e121,hx121_0,hx121_1⟩:=at_T81 HR0.out x4_1 p121 q121;obtain rfl : ad117 = ad121:=(by injection e121);replace p121:=eq_true p121;replace q121:=eq_true q121;have p122 : 0 ≤ (x3_1 : Int):=of_decide_eq_true (by first|(with_reducible assumption)|assumption);have q122 : x3_1 < (l0.length : Int):=of_decide_eq_true (by first|(with_reducible assumption)|assumption);obtain ⟨ad122,e122,hx122_0,hx122_1⟩:=at_T81 HR0.out x3_1 p122 q122;obtain rfl : ad117 = ad122:=(by injection e122);replace p122:=eq_true p122;replace q122:=eq_true q122;go_wp2
        repeat (go_quiet (fail);try go_wp2)
        go_roundg k1
        case measure=>have:=HK1.out;omega
        case rel=>exact ⟨(x4_1),(wrap64 (x4_1 + 1)),(by first|rfl|(simp;done)|(simp [*];done)),(by first|rfl|(simp;done)|(simp [*];done)),H',⟨by have:=HK1.out;omega⟩,by repeat (first|exact Drawn0.refl _|apply Drawn0.step)⟩
      rw [if_neg c9] at H;have c9b0 : decide (((rd_T81 l0 x4_1).f0) < ((rd_T81 l0 x3_1).f0)) = false:=decide_eq_false c9;clear c9;have H':=A0_ H;clear H;have p117 : 0 ≤ (x4_1 : Int):=of_decide_eq_true (by first|(with_reducible assumption)|assumption);have q117 : x4_1 < (l0.length : Int):=of_decide_eq_true (by first|(with_reducible assumption)|assumption);obtain ⟨ad117,e117,hx117_0,hx117_1⟩:=at_T81 HR0.out x4_1 p117 q117;cases e117;replace p117:=eq_true p117;replace q117:=eq_true q117;have p118 : 0 ≤ (x3_1 : Int):=of_decide_eq_true (by first|(with_reducible assumption)|assumption);have q118 : x3_1 < (l0.length : Int):=of_decide_eq_true (by first|(with_reducible assumption)|assumption);obtain ⟨ad118,e118,hx118_0,hx118_1⟩:=at_T81 HR0.out x3_1 p118 q118;obtain rfl : ad117 = ad118:=(by injection e118);replace p118:=eq_true p118;replace q118:=eq_true q118;have p119 : 0 ≤ (x4_1 : Int):=of_decide_eq_true (by first|(with_reducible assumption)|assumption);have q119 : x4_1 < (l0.length : Int):=of_decide_eq_true (by first|(with_reducible assumption)|assumption);obtain ⟨ad119,e119,hx119_0,hx119_1⟩:=at_T81 HR0.out x4_1 p119 q119;obtain rfl : ad117 = ad119:=(by injection e119);replace p119:=eq_true p119;replace q119:=eq_true q119;have p120 : 0 ≤ (x3_1 : Int):=of_decide_eq_true (by first|(with_reducible assumption)|assumption);have q120 : x3_1 < (l0.length : Int):=of_decide_eq_true (by first|(with_reducible assumption)|assumption);obtain ⟨ad120,e120,hx120_0,hx120_1⟩:=at_T81 HR0.out x3_1 p120 q120;obtain rfl : ad117 = ad120:=(by injection e120);replace p120:=eq_true p120;replace q120:=eq_true q120;have p121 : 0 ≤ (x4_1 : Int):=of_decide_eq_true (by first|(with_reducible assumption)|assumption);have q121 : x4_1 < (l0.length : Int):=of_decide_eq_true (by first|(with_reducible assumption)|assumption);obtain ⟨ad121,e121,hx121_0,hx121_1⟩:=at_T81 HR0.out x4_1 p121 q121;obtain rfl : ad117 = ad121:=(by injection e121);replace p121:=eq_true p121;replace q121:=eq_true q121;have p122 : 0 ≤ (x3_1 : Int):=of_decide_eq_true (by first|(with_reducible assumption)|assumption);have q122 : x3_1 < (l0.length : Int):=of_decide_eq_true (by first|(with_reducible assumption)|assumption);obtain ⟨ad122,e122,hx122_0,hx122_1⟩:=at_T81 HR0.out x3_1 p122 q122;obtain rfl : ad117 = ad122:=(by injection e122);replace p122:=eq_true p122;replace q122:=eq_true q122;go_wp2
      repeat (go_quiet (fail);try go_wp2)
      go_roundg k1
      case measure=>have:=HK1.out;omega
      case rel=>exact ⟨(x3_1),(wrap64 (x4_1 + 1)),(by first|rfl|(simp;done)|(simp [*];done)),(by first|rfl|(simp;done)|(simp [*];done)),H',⟨by have:=HK1.out;omega⟩,by repeat (first|exact Drawn0.refl _|apply Drawn0.step)⟩
/-! ### logjamref05_Due: function 13 -/
def logjamref05_Due.l0 : Nat → List (S81) → Int → List Int → Option (List Int × (List (S81)))
  | 0,_,_,_=>none
  | k + 1,x0,x1,x6=>(logjamref05_First.f k x0).bind fun t126=>(if t126 < 0 then (some (x6,x0)) else (if 0 ≤ t126 then (if t126 < (x0.length : Int) then (if ((rd_T81 x0 t126).f1) > x1 then (some (x6,x0)) else (if x6.length < 17592186044416 then ((logjamref05_Drop.f k x0 ((rd_T81 x0 t126).f0)).bind fun t133=>(logjamref05_Due.l0 k t133 x1 (x6 ++ [(rd_T81 x0 t126).f0]))) else (none))) else (none)) else (none)))
def logjamref05_Due.f (k : Nat) (l0 : List (S81)) (a1 : Int) : Option (List Int × (List (S81))) := logjamref05_Due.l0 k l0 a1 (([] : List Int))
theorem logjamref05_Due.mono_l : ∀ k, (∀ y0 y1 y2, LeO (logjamref05_Due.l0 k y0 y1 y2) (logjamref05_Due.l0 (k + 1) y0 y1 y2))
  | 0=>fun _ _ _ r h=>by simp [logjamref05_Due.l0] at h
  | k + 1=>by
    have ih0:=logjamref05_Due.mono_l k
    · intro y0 y1 y2
      unfold logjamref05_Due.l0
      repeat' first
      | (with_reducible exact ih0 _ _ _)
      | (with_reducible exact logjamref05_Drop.mono _ _ _)
      | (with_reducible exact logjamref05_First.mono _ _)
      | (with_reducible exact LeO.refl _)
      | (with_reducible exact LeO.none _)
      | (with_reducible refine LeO.ite ?_ ?_)
      | (with_reducible refine LeO.bind ?_ (fun _=>?_))
      | exact ih0 _ _ _
      | exact logjamref05_Drop.mono _ _ _
      | exact logjamref05_First.mono _ _
      | exact LeO.none _
      | refine LeO.ite ?_ ?_
      | refine LeO.bind ?_ (fun _=>?_)
theorem logjamref05_Due.mono : ∀ a0 a1 k, LeO (logjamref05_Due.f k a0 a1) (logjamref05_Due.f (k + 1) a0 a1) := by
  intro a0 a1 k
  have ih0:=logjamref05_Due.mono_l k;unfold logjamref05_Due.f
  repeat' first
      | (with_reducible exact ih0 _ _ _)
      | (with_reducible exact logjamref05_Drop.mono _ _ _)
      | (with_reducible exact logjamref05_First.mono _ _)
      | (with_reducible exact LeO.refl _)
      | (with_reducible exact LeO.none _)
      | (with_reducible refine LeO.ite ?_ ?_)
      | (with_reducible refine LeO.bind ?_ (fun _=>?_))
      | exact ih0 _ _ _
      | exact logjamref05_Drop.mono _ _ _
      | exact logjamref05_First.mono _ _
      | exact LeO.none _
      | refine LeO.ite ?_ ?_
      | refine LeO.bind ?_ (fun _=>?_)
set_option maxHeartbeats 8000000 in
set_option maxRecDepth 100000 in
theorem logjamref05_Due.calls (k : Nat) (P0_ : Nat → Prop) (A0 : Option Addr) (c0 : Nat) (l0 : List (S81)) (a1 : Int) (r1 : List Int) (r2 : List (S81)) (w : World) (hs0 : Kd.V k81 81 w w.heap.size (fun k_ => P0_ k_) (.slice A0 l0.length c0) l0) (h : logjamref05_Due.f k l0 a1 = some (r1, r2)) :
    Calls Try.prog 13 #[.slice A0 l0.length c0,.int .i64 a1] w fun e w'=>∃ v0_ v1_ : Value,e = .returned (.tuple #[v0_,v1_]) ∧ Kd.R (Kd.int .i64) 3 w' w.heap.size (fun k_=>(w.heap.size ≤ k_)) v0_ r1 ∧ Kd.V k81 81 w' w.heap.size (fun k_=>(P0_ k_ ∨ w.heap.size ≤ k_) ∧ some k_ ≠ (v0_ : Value).ownBlock) v1_ r2 ∧ Below w.heap.size w w':=by
  have HO0:=A0_ (show Kd.V k81 81 w w.heap.size (fun k_=>(P0_ k_ ∨ w.heap.size ≤ k_)) (.slice A0 l0.length c0) l0 from Kd.V_mono hs0 (fun k_ hk=>.inl hk));have HB:=A0_ (Below.refl w.heap.size w);have H : (logjamref05_Due.l0 k l0 a1 (([] : List Int))) = some (r1,r2):=h;clear h;obtain ⟨y123,hy123⟩ : ∃ y_ : List Int,y_ = (([] : List Int)):=⟨_,rfl⟩;replace H : (logjamref05_Due.l0 k l0 a1 y123) = some (r1,r2):=by first|(rw [hy123];with_reducible exact H)|(have H2_:=(Option.bind_some _ _).symm.trans H;rw [hy123];with_reducible exact H2_)|(have H2_:=(Option.bind_some _ _).symm.trans H;with_reducible exact H2_)|with_reducible exact H|(rw [hy123];exact H)|exact H
  have Ny123:=A0_ hy123;clear hy123;have H':=A0_ H;clear H;go_enter Try.func13,Try.ntmps13;go_wp2_with (first|((with_reducible refine gate_dst (N:=8) rfl ?_);refine Kd.R_lit (Kd.int .i64) _ 3 ?hg (N:=8) ?hd (xs:=([] : List Int)) (inner:=[]) (ok:=fun _=>True) (okp:=fun _=>True) ?hr ?hp (fun _ hk=>hk) trivial (Below.refl _ _) (Nat.le_refl _) (by simp) ?_;(case hd=>rfl);(case hg=>rfl);(case hr=>first|(go_simp;done)|(go_simp;rfl));(case hp=>exact (Reps.none _ _));intro v124 w3 ho4 hb hg_ hnew_;clear hg_ hnew_;(first|rw [← Ny123.out] at ho4|(simp only [Int.reduceToNat] at ho4;rw [← Ny123.out] at ho4));have n0_:=A0_ (Kd.V_elder' (by (with_reducible repeat first|apply Va_|apply Vn_|apply Vd_);exact HO0.out) (Kd.R_base ho4) hb);have n1_:=A0_ (Kd.R_lower (Kd.R_newM (M:=fun k_=>(w.heap.size ≤ k_)) ho4 (below_size (by repeat (first|(with_reducible first|exact HB.out|apply ba_|apply pN_|apply b1_)|exact HB.out))) (fun k_ h_=>h_)) (below_size (by repeat (first|(with_reducible first|exact HB.out|apply ba_|apply pN_|apply b1_)|exact HB.out))));have n2_:=A0_ (below_step (by repeat (first|(with_reducible first|exact HB.out|apply ba_|apply pN_|apply b1_)|exact HB.out)) hb);clear HO0;clear HB;have HO0:=n0_;have HO125:=n1_;have HB:=n2_;clear n0_ n1_ n2_;clear hb ho4))
  go_loopg [0,6] k (fun kq v0 v6 w'=>∃ (x0_1 : List (S81)) (x6_1 : List Int),Aside0 (logjamref05_Due.l0 kq x0_1 a1 x6_1 = some (r1,r2)) ∧ Aside0 (kq ≤ k) ∧ Aside0 (Kd.V k81 81 w' w.heap.size (fun k_=>(P0_ k_ ∨ w.heap.size ≤ k_) ∧ some k_ ≠ (v6 : Value).ownBlock) v0 x0_1) ∧ Aside0 (Kd.R (Kd.int .i64) 3 w' w.heap.size (fun k_=>(w.heap.size ≤ k_)) v6 x6_1) ∧ Aside0 (Below w.heap.size w w'))
  case atStart=>exact ⟨(l0),(y123),H',⟨Nat.le_refl _⟩,⟨by (with_reducible repeat first|apply Va_|apply Vn_|apply Vd_);exact HO0.out⟩,⟨by (with_reducible repeat first|apply Ra_|apply Rn_|apply Rd_);exact Kd.R_mono HO125.out (fun _ hk=>hk.1)⟩,⟨by repeat (first|(with_reducible first|exact HB.out|apply ba_|apply pN_|apply b1_)|exact HB.out)⟩⟩
  case round =>
    clear H';(try clear c1);(try clear p2);obtain ⟨x0_1,x6_1,HA,HK1,HO_0,HO_6,HB⟩:=hrel
    cases gk with
    | zero=>exact absurd HA.out (by simp [logjamref05_Due.l0])
    | succ k1 =>
      have H:=HA.out;clear HA;simp only [logjamref05_Due.l0] at H;replace H:=bm_ H;obtain ⟨t126,A50,H⟩:=H;replace H : (if t126 < 0 then (some (x6_1,x0_1)) else (if 0 ≤ t126 then (if t126 < (x0_1.length : Int) then (if ((rd_T81 x0_1 t126).f1) > a1 then (some (x6_1,x0_1)) else (if x6_1.length < 17592186044416 then ((logjamref05_Drop.f k1 x0_1 ((rd_T81 x0_1 t126).f0)).bind fun t133=>(logjamref05_Due.l0 k1 t133 a1 (x6_1 ++ [(rd_T81 x0_1 t126).f0]))) else (none))) else (none)) else (none))) = some (r1,r2):=H;have A5:=A0_ A50;clear A50;by_cases c6 : t126 < 0
      · rw [if_pos c6] at H
        have c6b0 : decide (t126 < 0) = true:=decide_eq_true c6;clear c6;simp only [Option.some.injEq,Prod.mk.injEq] at H;obtain ⟨rfl,rfl⟩:=H;obtain ⟨Ao7,co7,eo7⟩:=Kd.V_slice HO_0.out;subst eo7;go_wp2_with (first|((with_reducible refine gate_callee (f:=40) rfl ?_);refine goesL_ (some 10) rfl rfl Try.func40 (by kernel_rfl) rfl #[.slice Ao7 x0_1.length co7] rfl (by first|(simp only [List.map_toArray,List.map_cons,List.map_nil] <;> rfl)|rfl|(simp only [List.length_drop,List.length_take];rfl)) ?_;(with_reducible refine (logjamref05_First.calls k1 _ _ x0_1 t126 _ ?side1 ?side2 A5.out).mono ?_);(case side1=>repeat (first|exact (Kd.V_reads' HO_0.out).2.2|(with_reducible first|refine Ca_ ?_ _|refine Cn_ ?_ _|refine Cd_ ?_)));(case side2=>exact (Kd.V_reads' HO_0.out).2.1);rintro e w' ⟨rfl,⟨nd,rfl⟩⟩;refine ⟨_,rfl,?_⟩));go_ret2;exact ⟨_,_,by first|rfl|(simp [errW_none,errW_some] <;> rfl)|(simp [*,errW_none,errW_some] <;> rfl),by (with_reducible repeat first|apply Ra_|apply Rn_|apply Rd_);exact HO_6.out,by (with_reducible repeat first|apply Va_|apply Vn_|apply Vd_);exact HO_0.out,by repeat (first|(with_reducible first|exact HB.out|apply ba_|apply pN_|apply b1_)|exact HB.out)⟩
      rw [if_neg c6] at H;have c6b0 : decide (t126 < 0) = false:=decide_eq_false c6;clear c6;by_cases c8 : 0 ≤ t126;rotate_left
      · rw [if_neg c8] at H
        exact absurd H (by simp)

      rw [if_pos c8] at H;have c8b0 : decide (0 ≤ t126) = true:=decide_eq_true c8;clear c8;by_cases c9 : t126 < (x0_1.length : Int);rotate_left
      · rw [if_neg c9] at H
        exact absurd H (by simp)
      rw [if_pos c9] at H;have c9b0 : decide (t126 < (x0_1.length : Int)) = true:=decide_eq_true c9;clear c9;by_cases c10 : ((rd_T81 x0_1 t126).f1) > a1
      · rw [if_pos c10] at H
        have c10b0 : decide (a1 < ((rd_T81 x0_1 t126).f1)) = true:=decide_eq_true c10;clear c10;simp only [Option.some.injEq,Prod.mk.injEq] at H;obtain ⟨rfl,rfl⟩:=H;obtain ⟨Ao11,co11,eo11⟩:=Kd.V_slice HO_0.out;subst eo11;go_wp2_with (first|((with_reducible refine gate_callee (f:=40) rfl ?_);refine goesL_ (some 10) rfl rfl Try.func40 (by kernel_rfl) rfl #[.slice Ao11 x0_1.length co11] rfl (by first|(simp only [List.map_toArray,List.map_cons,List.map_nil] <;> rfl)|rfl|(simp only [List.length_drop,List.length_take];rfl)) ?_;(with_reducible refine (logjamref05_First.calls k1 _ _ x0_1 t126 _ ?side1 ?side2 A5.out).mono ?_);(case side1=>repeat (first|exact (Kd.V_reads' HO_0.out).2.2|(with_reducible first|refine Ca_ ?_ _|refine Cn_ ?_ _|refine Cd_ ?_)));(case side2=>exact (Kd.V_reads' HO_0.out).2.1);rintro e w' ⟨rfl,⟨nd,rfl⟩⟩;refine ⟨_,rfl,?_⟩;have p127 : 0 ≤ (t126 : Int):=of_decide_eq_true (by first|(with_reducible assumption)|assumption);have q127 : t126 < (x0_1.length : Int):=of_decide_eq_true (by first|(with_reducible assumption)|assumption);obtain ⟨ad127,e127,hx127_0,hx127_1⟩:=at_T81 (Kd.V_reads' HO_0.out).2.2 t126 p127 q127;cases e127;replace p127:=eq_true p127;replace q127:=eq_true q127));go_ret2;exact ⟨_,_,by first|rfl|(simp [errW_none,errW_some] <;> rfl)|(simp [*,errW_none,errW_some] <;> rfl),by (with_reducible repeat first|apply Ra_|apply Rn_|apply Rd_);exact HO_6.out,by (with_reducible repeat first|apply Va_|apply Vn_|apply Vd_);exact HO_0.out,by repeat (first|(with_reducible first|exact HB.out|apply ba_|apply pN_|apply b1_)|exact HB.out)⟩
      rw [if_neg c10] at H;have c10b0 : decide (a1 < ((rd_T81 x0_1 t126).f1)) = false:=decide_eq_false c10;clear c10;by_cases c12 : x6_1.length < 17592186044416;rotate_left
      · rw [if_neg c12] at H
        exact absurd H (by simp)
      rw [if_pos c12] at H;have LMc12:=A0_ c12;clear c12;obtain ⟨y129,hy129⟩ : ∃ y_ : List Int,y_ = (x6_1 ++ [(rd_T81 x0_1 t126).f0]):=⟨_,rfl⟩;replace H : ((logjamref05_Drop.f k1 x0_1 ((rd_T81 x0_1 t126).f0)).bind fun t133=>(logjamref05_Due.l0 k1 t133 a1 y129)) = some (r1,r2):=by first|(rw [hy129];with_reducible exact H)|(have H2_:=(Option.bind_some _ _).symm.trans H;rw [hy129];with_reducible exact H2_)|(have H2_:=(Option.bind_some _ _).symm.trans H;with_reducible exact H2_)|with_reducible exact H|(rw [hy129];exact H)|exact H
      have Ny129:=A0_ hy129;clear hy129;replace H:=bm_ H;obtain ⟨t133,A130,H⟩:=H;replace H : (logjamref05_Due.l0 k1 t133 a1 y129) = some (r1,r2):=H;have A13:=A0_ A130;clear A130;have H':=A0_ H;clear H;obtain ⟨Ao14,co14,eo14⟩:=Kd.V_slice HO_0.out;subst eo14;go_wp2_with (first|((with_reducible refine gate_callee (f:=40) rfl ?_);refine goesL_ (some 10) rfl rfl Try.func40 (by kernel_rfl) rfl #[.slice Ao14 x0_1.length co14] rfl (by first|(simp only [List.map_toArray,List.map_cons,List.map_nil] <;> rfl)|rfl|(simp only [List.length_drop,List.length_take];rfl)) ?_;(with_reducible refine (logjamref05_First.calls k1 _ _ x0_1 t126 _ ?side1 ?side2 A5.out).mono ?_);(case side1=>repeat (first|exact (Kd.V_reads' HO_0.out).2.2|(with_reducible first|refine Ca_ ?_ _|refine Cn_ ?_ _|refine Cd_ ?_)));(case side2=>exact (Kd.V_reads' HO_0.out).2.1);rintro e w' ⟨rfl,⟨nd,rfl⟩⟩;refine ⟨_,rfl,?_⟩;have p127 : 0 ≤ (t126 : Int):=of_decide_eq_true (by first|(with_reducible assumption)|assumption);have q127 : t126 < (x0_1.length : Int):=of_decide_eq_true (by first|(with_reducible assumption)|assumption);obtain ⟨ad127,e127,hx127_0,hx127_1⟩:=at_T81 (Kd.V_reads' HO_0.out).2.2 t126 p127 q127;cases e127;replace p127:=eq_true p127;replace q127:=eq_true q127;have p128 : 0 ≤ (t126 : Int):=of_decide_eq_true (by first|(with_reducible assumption)|assumption);have q128 : t126 < (x0_1.length : Int):=of_decide_eq_true (by first|(with_reducible assumption)|assumption);obtain ⟨ad128,e128,hx128_0,hx128_1⟩:=at_T81 (Kd.V_reads' HO_0.out).2.2 t126 p128 q128;obtain rfl : ad127 = ad128:=(by injection e128);replace p128:=eq_true p128;replace q128:=eq_true q128)|((with_reducible refine gate_builtin (b:=.append) (xs:=#[.tmp 24,.tmp 30]) rfl ?_);at_builtin;refine Kd.R_append (Kd.int .i64) (w0:=w) w.heap.size rfl (.tmp 24) (.tmp 30) 23 3 (.int .i64 0) 8 rfl Try.underlying23 info3 rfl (by decide) (by omega) u6 x6_1 ((rd_T81 x0_1 t126).f0) [.int .i64 ((rd_T81 x0_1 t126).f0)] (fun k_=>(w.heap.size ≤ k_)) (fun _=>False) rfl rfl ?aP (fun _ hk=>hk.elim) ?aF ?aO ?aB ?aS ?aL ?_;(case aP=>exact rfl);(case aB=>exact (by repeat (first|(with_reducible first|exact HB.out|apply ba_|apply pN_|apply b1_)|exact HB.out)));(case aF=>exact (fun k_ hk=>(Nat.le_trans (below_size (by repeat (first|(with_reducible first|exact HB.out|apply ba_|apply pN_|apply b1_)|exact HB.out))) hk)));(case aO=>exact (by (with_reducible repeat first|apply Ra_|apply Rn_|apply Rd_);exact HO_6.out));(case aS=>exact (below_size (by repeat (first|(with_reducible first|exact HB.out|apply ba_|apply pN_|apply b1_)|exact HB.out))));(case aL=>have:=LMc12.out;omega);intro v130 w15 ho hb hg hat;rw [← Ny129.out] at ho;have n0_:=A0_ (Kd.V_afterv (ok:=(fun k_=>(P0_ k_ ∨ w.heap.size ≤ k_))) (by (with_reducible repeat first|apply Va_|apply Vn_|apply Vd_);exact HO_0.out) hg hat);have n1_:=A0_ (hb);have n2_:=A0_ (ho);clear HO_0;clear HB;clear HO_6;have HO_0:=n0_;have HB:=n1_;have HO131:=n2_;clear n0_ n1_ n2_;clear ho hb hg hat;have p132 : 0 ≤ (t126 : Int):=of_decide_eq_true (by first|(with_reducible assumption)|assumption);have q132 : t126 < (x0_1.length : Int):=of_decide_eq_true (by first|(with_reducible assumption)|assumption);obtain ⟨ad132,e132,hx132_0,hx132_1⟩:=at_T81 (Kd.V_reads' HO_0.out).2.2 t126 p132 q132;obtain rfl : ad127 = ad132:=(by injection e132);replace p132:=eq_true p132;replace q132:=eq_true q132)|((with_reducible refine gate_callee (f:=38) rfl ?_);refine goesL_ (some 38) rfl rfl Try.func38 (by kernel_rfl) rfl #[.slice (some ad127) x0_1.length co14,.int .i64 ((rd_T81 x0_1 t126).f0)] rfl (by first|(simp only [List.map_toArray,List.map_cons,List.map_nil] <;> rfl)|rfl|(simp only [List.length_drop,List.length_take];rfl)) ?_;(with_reducible refine (logjamref05_Drop.calls k1 _ _ x0_1 ((rd_T81 x0_1 t126).f0) t133 _ ?side1 ?side2 A13.out).mono ?_);(case side1=>repeat (first|exact (Kd.V_reads' HO_0.out).2.2|(with_reducible first|refine Ca_ ?_ _|refine Cn_ ?_ _|refine Cd_ ?_)));(case side2=>exact (Kd.V_reads' HO_0.out).2.1);rintro e w16 ⟨v134,rfl,ho0,hb⟩;refine ⟨_,rfl,?_⟩;have n0_:=A0_ (Kd.V_elder' (by (with_reducible repeat first|apply Va_|apply Vn_|apply Vd_);exact HO_0.out) (Kd.R_base ho0) hb);have n1_:=A0_ (Kd.R_below (by (with_reducible repeat first|apply Ra_|apply Rn_|apply Rd_);exact HO131.out) hb);have n2_:=A0_ (Kd.R_lower (Kd.R_newM (M:=fun k_=>(w.heap.size ≤ k_)) ho0 (below_size (by repeat (first|(with_reducible first|exact HB.out|apply ba_|apply pN_|apply b1_)|exact HB.out))) (fun k_ h_=>h_)) (below_size (by repeat (first|(with_reducible first|exact HB.out|apply ba_|apply pN_|apply b1_)|exact HB.out))));have n3_:=A0_ (below_step (by repeat (first|(with_reducible first|exact HB.out|apply ba_|apply pN_|apply b1_)|exact HB.out)) hb);clear HO_0;clear HO131;clear HB;have HO_0:=n0_;have HO131:=n1_;have HO135:=n2_;have HB:=n3_;clear n0_ n1_ n2_ n3_;(try clear hb);(try clear hb2);(try clear hk);(try clear hi);(try clear ho0)))
      go_roundg k1
      case measure=>have:=HK1.out;omega
      case rel=>exact ⟨(t133),(y129),H',⟨by have:=HK1.out;omega⟩,⟨Kd.V_mono (Kd.R_V (Kd.R_mono (Kd.R_apart' HO135.out (Kd.R_typed HO131.out) (by decide)) (fun _ hk=>hk))) (fun k_ hk=>⟨.inr hk.1.1,hk.2⟩)⟩,⟨by (with_reducible repeat first|apply Ra_|apply Rn_|apply Rd_);exact HO131.out⟩,⟨by repeat (first|(with_reducible first|exact HB.out|apply ba_|apply pN_|apply b1_)|exact HB.out)⟩⟩
/-! ### logjamlaw05_same: function 14 -/
def logjamlaw05_same.l0 : Nat → List Int → List Int → Int → Option (Bool)
  | 0,_,_,_=>none
  | k + 1,x0,x1,x5=>if x5 < (x0.length : Int) then (if 0 ≤ x5 then (if x5 < (x1.length : Int) then (if (rd x0 x5) = (rd x1 x5) then (logjamlaw05_same.l0 k x0 x1 (wrap64 (x5 + 1))) else (some false)) else (none)) else (none)) else (some true)
def logjamlaw05_same.f (k : Nat) (l0 : List Int) (l1 : List Int) : Option (Bool) := if (l0.length : Int) = (l1.length : Int) then (logjamlaw05_same.l0 k l0 l1 0) else (some false)
theorem logjamlaw05_same.mono_l : ∀ k, (∀ y0 y1 y2, LeO (logjamlaw05_same.l0 k y0 y1 y2) (logjamlaw05_same.l0 (k + 1) y0 y1 y2))
  | 0=>fun _ _ _ r h=>by simp [logjamlaw05_same.l0] at h
  | k + 1=>by
    have ih0:=logjamlaw05_same.mono_l k
    · intro y0 y1 y2
      unfold logjamlaw05_same.l0
      repeat' first
      | (with_reducible exact ih0 _ _ _)
      | (with_reducible exact LeO.refl _)
      | (with_reducible exact LeO.none _)
      | (with_reducible refine LeO.ite ?_ ?_)
      | (with_reducible refine LeO.bind ?_ (fun _=>?_))
      | exact ih0 _ _ _
      | exact LeO.none _
      | refine LeO.ite ?_ ?_
      | refine LeO.bind ?_ (fun _=>?_)
theorem logjamlaw05_same.mono : ∀ a0 a1 k, LeO (logjamlaw05_same.f k a0 a1) (logjamlaw05_same.f (k + 1) a0 a1) := by
  intro a0 a1 k
  have ih0:=logjamlaw05_same.mono_l k;unfold logjamlaw05_same.f
  repeat' first
      | (with_reducible exact ih0 _ _ _)
      | (with_reducible exact LeO.refl _)
      | (with_reducible exact LeO.none _)
      | (with_reducible refine LeO.ite ?_ ?_)
      | (with_reducible refine LeO.bind ?_ (fun _=>?_))
      | exact ih0 _ _ _
      | exact LeO.none _
      | refine LeO.ite ?_ ?_
      | refine LeO.bind ?_ (fun _=>?_)
set_option maxHeartbeats 8000000 in
set_option maxRecDepth 100000 in
theorem logjamlaw05_same.calls (k : Nat) (A0 : Option Addr) (c0 : Nat) (l0 : List Int) (A1 : Option Addr) (c1 : Nat) (l1 : List Int) (r : Bool) (w : World) (hr0 : Kd.C (Kd.int .i64) w A0 l0.length l0) (hc0 : l0.length ≤ c0) (hr1 : Kd.C (Kd.int .i64) w A1 l1.length l1) (hc1 : l1.length ≤ c1) (h : logjamlaw05_same.f k l0 l1 = some r) :
    Calls Try.prog 14 #[.slice A0 l0.length c0,.slice A1 l1.length c1] w fun e w'=>e = .returned (.bool r) ∧ Drawn0 w w':=by
  have HR0:=A0_ hr0;have HC0:=A0_ hc0;clear hr0 hc0;have HR1:=A0_ hr1;have HC1:=A0_ hc1;clear hr1 hc1;have H : (if (l0.length : Int) = (l1.length : Int) then (logjamlaw05_same.l0 k l0 l1 0) else (some false)) = some r:=h;clear h;by_cases c3 : (l0.length : Int) = (l1.length : Int);rotate_left
  · rw [if_neg c3] at H
    have c3b0 : ((l0.length : Int) == (l1.length : Int)) = false:=beq_eq_false_iff_ne.mpr c3;have c3b1 : ((l0.length : Int) != (l1.length : Int)) = true:=bne_iff_ne.mpr c3;have c3b2 : (l0.length == l1.length) = false:=by first|simpa using c3|(simp at c3 ⊢;omega)
    obtain rfl:=Option.some.inj H;go_enter Try.func14,Try.ntmps14;go_wp2
    repeat (go_quiet (fail);try go_wp2)
    go_ret;exact ⟨by first|rfl|(simp;done)|(simp [*];done),by repeat (first|exact Drawn0.refl _|apply Drawn0.step)⟩

  rw [if_pos c3] at H;have c3b0 : ((l0.length : Int) == (l1.length : Int)) = true:=beq_iff_eq.mpr c3;have c3b1 : ((l0.length : Int) != (l1.length : Int)) = false:=bne_eq_false_iff_eq.mpr c3;have c3b2 : (l0.length == l1.length) = true:=by first|simpa using c3|(simp at c3 ⊢;omega)
  clear c3;have H':=A0_ H;clear H;go_enter Try.func14,Try.ntmps14;go_wp2
  repeat (go_quiet (fail);try go_wp2)
  go_loopg [5] k (fun kq v5 w'=>∃ (x5_1 : Int),v5 = .int .i64 x5_1 ∧ Aside0 (logjamlaw05_same.l0 kq l0 l1 x5_1 = some r) ∧ Aside0 (kq ≤ k) ∧ Drawn0 w w')
  case atStart=>exact ⟨(0),(by first|rfl|(simp;done)|(simp [*];done)),H',⟨Nat.le_refl _⟩,by repeat (first|exact Drawn0.refl _|apply Drawn0.step)⟩
  case round =>
    clear H';(try clear c1);(try clear p2);(try clear c3);(try clear c3b0);(try clear c3b1);(try clear c3b2);obtain ⟨x5_1,rfl,HA,HK1,⟨m1,rfl⟩⟩:=hrel
    cases gk with
    | zero=>exact absurd HA.out (by simp [logjamlaw05_same.l0])
    | succ k1 =>
      have H:=HA.out;clear HA;simp only [logjamlaw05_same.l0] at H;by_cases c4 : x5_1 < (l0.length : Int);rotate_left
      · rw [if_neg c4] at H
        have c4b0 : decide (x5_1 < (l0.length : Int)) = false:=decide_eq_false c4;clear c4;obtain rfl:=Option.some.inj H;go_wp2
        repeat (go_quiet (fail);try go_wp2)
        go_ret;exact ⟨by first|rfl|(simp;done)|(simp [*];done),by repeat (first|exact Drawn0.refl _|apply Drawn0.step)⟩
      rw [if_pos c4] at H;have c4b0 : decide (x5_1 < (l0.length : Int)) = true:=decide_eq_true c4;clear c4;by_cases c5 : 0 ≤ x5_1;rotate_left
      · rw [if_neg c5] at H
        exact absurd H (by simp)
      rw [if_pos c5] at H;have c5b0 : decide (0 ≤ x5_1) = true:=decide_eq_true c5;clear c5;by_cases c6 : x5_1 < (l1.length : Int);rotate_left
      · rw [if_neg c6] at H
        exact absurd H (by simp)
      rw [if_pos c6] at H;have c6b0 : decide (x5_1 < (l1.length : Int)) = true:=decide_eq_true c6;clear c6;by_cases c7 : (rd l0 x5_1) = (rd l1 x5_1);rotate_left
      · rw [if_neg c7] at H
        have c7b0 : ((rd l0 x5_1) == (rd l1 x5_1)) = false:=beq_eq_false_iff_ne.mpr c7;have c7b1 : ((rd l0 x5_1) != (rd l1 x5_1)) = true:=bne_iff_ne.mpr c7;obtain rfl:=Option.some.inj H;have p136 : 0 ≤ (x5_1 : Int):=of_decide_eq_true (by first|(with_reducible assumption)|assumption);have q136 : x5_1 < (l0.length : Int):=of_decide_eq_true (by first|(with_reducible assumption)|assumption);obtain ⟨ad136,e136,hx136_0⟩:=Kd.at_int HR0.out x5_1 p136 q136;cases e136;replace p136:=eq_true p136;replace q136:=eq_true q136;have p137 : 0 ≤ (x5_1 : Int):=of_decide_eq_true (by first|(with_reducible assumption)|assumption);have q137 : x5_1 < (l1.length : Int):=of_decide_eq_true (by first|(with_reducible assumption)|assumption);obtain ⟨ad137,e137,hx137_0⟩:=Kd.at_int HR1.out x5_1 p137 q137;cases e137;replace p137:=eq_true p137;replace q137:=eq_true q137;go_wp2
        repeat (go_quiet (fail);try go_wp2)
        go_ret;exact ⟨by first|rfl|(simp;done)|(simp [*];done),by repeat (first|exact Drawn0.refl _|apply Drawn0.step)⟩
      rw [if_pos c7] at H;have c7b0 : ((rd l0 x5_1) == (rd l1 x5_1)) = true:=beq_iff_eq.mpr c7;have c7b1 : ((rd l0 x5_1) != (rd l1 x5_1)) = false:=bne_eq_false_iff_eq.mpr c7;clear c7;have H':=A0_ H;clear H;have p136 : 0 ≤ (x5_1 : Int):=of_decide_eq_true (by first|(with_reducible assumption)|assumption);have q136 : x5_1 < (l0.length : Int):=of_decide_eq_true (by first|(with_reducible assumption)|assumption);obtain ⟨ad136,e136,hx136_0⟩:=Kd.at_int HR0.out x5_1 p136 q136;cases e136;replace p136:=eq_true p136;replace q136:=eq_true q136;have p137 : 0 ≤ (x5_1 : Int):=of_decide_eq_true (by first|(with_reducible assumption)|assumption);have q137 : x5_1 < (l1.length : Int):=of_decide_eq_true (by first|(with_reducible assumption)|assumption);obtain ⟨ad137,e137,hx137_0⟩:=Kd.at_int HR1.out x5_1 p137 q137;cases e137;replace p137:=eq_true p137;replace q137:=eq_true q137;go_wp2
      repeat (go_quiet (fail);try go_wp2)
      go_roundg k1
      case measure=>have:=HK1.out;omega
      case rel=>exact ⟨(wrap64 (x5_1 + 1)),(by first|rfl|(simp;done)|(simp [*];done)),H',⟨by have:=HK1.out;omega⟩,by repeat (first|exact Drawn0.refl _|apply Drawn0.step)⟩
/-! ### logjamref05_Find: function 41 -/
def logjamref05_Find.l0 : Nat → List (S81) → Int → Int → Option (Int)
  | 0,_,_,_=>none
  | k + 1,x0,x1,x5=>if x5 < (x0.length : Int) then (if 0 ≤ x5 then (if ((rd_T81 x0 x5).f0) = x1 then (some x5) else (logjamref05_Find.l0 k x0 x1 (wrap64 (x5 + 1)))) else (none)) else (some (-1))
def logjamref05_Find.f (k : Nat) (l0 : List (S81)) (a1 : Int) : Option (Int) := logjamref05_Find.l0 k l0 a1 0
theorem logjamref05_Find.mono_l : ∀ k, (∀ y0 y1 y2, LeO (logjamref05_Find.l0 k y0 y1 y2) (logjamref05_Find.l0 (k + 1) y0 y1 y2))
  | 0=>fun _ _ _ r h=>by simp [logjamref05_Find.l0] at h
  | k + 1=>by
    have ih0:=logjamref05_Find.mono_l k
    · intro y0 y1 y2
      unfold logjamref05_Find.l0
      repeat' first
      | (with_reducible exact ih0 _ _ _)
      | (with_reducible exact LeO.refl _)
      | (with_reducible exact LeO.none _)
      | (with_reducible refine LeO.ite ?_ ?_)
      | (with_reducible refine LeO.bind ?_ (fun _=>?_))
      | exact ih0 _ _ _
      | exact LeO.none _
      | refine LeO.ite ?_ ?_
      | refine LeO.bind ?_ (fun _=>?_)
theorem logjamref05_Find.mono : ∀ a0 a1 k, LeO (logjamref05_Find.f k a0 a1) (logjamref05_Find.f (k + 1) a0 a1) := by
  intro a0 a1 k
  have ih0:=logjamref05_Find.mono_l k;unfold logjamref05_Find.f
  repeat' first
      | (with_reducible exact ih0 _ _ _)
      | (with_reducible exact LeO.refl _)
      | (with_reducible exact LeO.none _)
      | (with_reducible refine LeO.ite ?_ ?_)
      | (with_reducible refine LeO.bind ?_ (fun _=>?_))
      | exact ih0 _ _ _
      | exact LeO.none _
      | refine LeO.ite ?_ ?_
      | refine LeO.bind ?_ (fun _=>?_)
set_option maxHeartbeats 8000000 in
set_option maxRecDepth 100000 in
theorem logjamref05_Find.calls (k : Nat) (A0 : Option Addr) (c0 : Nat) (l0 : List (S81)) (a1 : Int) (r : Int) (w : World) (hr0 : Kd.C k81 w A0 l0.length l0) (hc0 : l0.length ≤ c0) (h : logjamref05_Find.f k l0 a1 = some r) :
    Calls Try.prog 41 #[.slice A0 l0.length c0,.int .i64 a1] w fun e w'=>e = .returned (.int .i64 r) ∧ Drawn0 w w':=by
  have HR0:=A0_ hr0;have HC0:=A0_ hc0;clear hr0 hc0;have H : (logjamref05_Find.l0 k l0 a1 0) = some r:=h;clear h;have H':=A0_ H;clear H;go_enter Try.func41,Try.ntmps41;go_wp2
  go_loopg [5] k (fun kq v5 w'=>∃ (x5_1 : Int),v5 = .int .i64 x5_1 ∧ Aside0 (logjamref05_Find.l0 kq l0 a1 x5_1 = some r) ∧ Aside0 (kq ≤ k) ∧ Drawn0 w w')
  case atStart=>exact ⟨(0),(by first|rfl|(simp;done)|(simp [*];done)),H',⟨Nat.le_refl _⟩,by repeat (first|exact Drawn0.refl _|apply Drawn0.step)⟩
  case round =>
    clear H';(try clear p2);obtain ⟨x5_1,rfl,HA,HK1,⟨m1,rfl⟩⟩:=hrel
    cases gk with
    | zero=>exact absurd HA.out (by simp [logjamref05_Find.l0])
    | succ k1 =>
      have H:=HA.out;clear HA;simp only [logjamref05_Find.l0] at H;by_cases c3 : x5_1 < (l0.length : Int);rotate_left
      · rw [if_neg c3] at H
        have c3b0 : decide (x5_1 < (l0.length : Int)) = false:=decide_eq_false c3;clear c3;obtain rfl:=Option.some.inj H;go_wp2;go_ret;exact ⟨by first|rfl|(simp;done)|(simp [*];done),by repeat (first|exact Drawn0.refl _|apply Drawn0.step)⟩

      rw [if_pos c3] at H;have c3b0 : decide (x5_1 < (l0.length : Int)) = true:=decide_eq_true c3;clear c3;by_cases c4 : 0 ≤ x5_1;rotate_left
      · rw [if_neg c4] at H
        exact absurd H (by simp)
      rw [if_pos c4] at H;have c4b0 : decide (0 ≤ x5_1) = true:=decide_eq_true c4;clear c4;by_cases c5 : ((rd_T81 l0 x5_1).f0) = a1
      · rw [if_pos c5] at H
        have c5b0 : (((rd_T81 l0 x5_1).f0) == a1) = true:=beq_iff_eq.mpr c5;have c5b1 : (((rd_T81 l0 x5_1).f0) != a1) = false:=bne_eq_false_iff_eq.mpr c5;clear c5;obtain rfl:=Option.some.inj H;have p138 : 0 ≤ (x5_1 : Int):=of_decide_eq_true (by first|(with_reducible assumption)|assumption);have q138 : x5_1 < (l0.length : Int):=of_decide_eq_true (by first|(with_reducible assumption)|assumption);obtain ⟨ad138,e138,hx138_0,hx138_1⟩:=at_T81 HR0.out x5_1 p138 q138;cases e138;replace p138:=eq_true p138;replace q138:=eq_true q138;go_wp2;go_ret;exact ⟨by first|rfl|(simp;done)|(simp [*];done),by repeat (first|exact Drawn0.refl _|apply Drawn0.step)⟩
      rw [if_neg c5] at H;have c5b0 : (((rd_T81 l0 x5_1).f0) == a1) = false:=beq_eq_false_iff_ne.mpr c5;have c5b1 : (((rd_T81 l0 x5_1).f0) != a1) = true:=bne_iff_ne.mpr c5;have H':=A0_ H;clear H;have p138 : 0 ≤ (x5_1 : Int):=of_decide_eq_true (by first|(with_reducible assumption)|assumption);have q138 : x5_1 < (l0.length : Int):=of_decide_eq_true (by first|(with_reducible assumption)|assumption);obtain ⟨ad138,e138,hx138_0,hx138_1⟩:=at_T81 HR0.out x5_1 p138 q138;cases e138;replace p138:=eq_true p138;replace q138:=eq_true q138;go_wp2
      go_roundg k1
      case measure=>have:=HK1.out;omega
      case rel=>exact ⟨(wrap64 (x5_1 + 1)),(by first|rfl|(simp;done)|(simp [*];done)),H',⟨by have:=HK1.out;omega⟩,by repeat (first|exact Drawn0.refl _|apply Drawn0.step)⟩
-- NOT PRINTED: function 17 (logjamlaw05_do)

-- NOT PRINTED: function 21 (timer_Timers_At)

-- NOT PRINTED: function 18 (logjamlaw05_tells)

-- NOT PRINTED: function 56 (maps_clone)

end Go.Proofs.Ytlggjacghemakaa.PTimerApart
