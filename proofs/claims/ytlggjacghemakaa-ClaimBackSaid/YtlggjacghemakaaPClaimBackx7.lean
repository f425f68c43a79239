/- Go functions as plain Lean functions, and that the calls come to them. Conditions: none. (Written by a program of this session.) -/
import Derived.Test.YtlggjacghemakaaPClaimBackx0
import Derived.Test.YtlggjacghemakaaPClaimBackx4
import Derived.Test.YtlggjacghemakaaPClaimBackx5
import Derived.Test.YtlggjacghemakaaPClaimBackx6
namespace Go.Proofs.Ytlggjacghemakaa.PClaimBack
open Go.RowKit Go.Proofs.YtlggjacghemakaaW.PrintWords Go.Proofs.YtlggjacghemakaaW.PrintLast Go.Proofs.YtlggjacghemakaaW.PrintMore
attribute [local go_sem] max2_int min2_int max_two min_two max_three min_three max_four min_four   -- for this text's walks alone
set_option linter.unusedVariables false
set_option linter.unusedSimpArgs false

/-! ### claim_Order: function 25 -/
def claim_Order.f (k : Nat) (l0_0 : List Int) (l0_1 : List (List Int)) (l0_2 : List (List Int)) : Option (List Int × Bool) := (claim_Check.f k l0_0 l0_1 l0_2).bind fun t222 => (if t222 = 0 then ((claim_order.f k l0_0 l0_1 l0_2).bind fun bt223 => (some (bt223.1, bt223.2))) else (some (([] : List Int), false)))
theorem claim_Order.mono : ∀ a0 a1 a2 k, LeO (claim_Order.f k a0 a1 a2) (claim_Order.f (k + 1) a0 a1 a2) := by
  intro a0 a1 a2 k
  unfold claim_Order.f
  repeat' first
      | (with_reducible exact claim_Check.mono _ _ _ _)
      | (with_reducible exact claim_order.mono _ _ _ _)
      | (with_reducible exact LeO.refl _)
      | (with_reducible exact LeO.none _)
      | (with_reducible refine LeO.ite ?_ ?_)
      | (with_reducible refine LeO.bind ?_ (fun _=>?_))
      | exact claim_Check.mono _ _ _ _
      | exact claim_order.mono _ _ _ _
      | exact LeO.none _
      | refine LeO.ite ?_ ?_
      | refine LeO.bind ?_ (fun _=>?_)
set_option maxHeartbeats 8000000 in
set_option maxRecDepth 100000 in
theorem claim_Order.calls (k : Nat) (A0_0 : Option Addr) (c0_0 : Nat) (l0_0 : List Int) (A0_1 : Option Addr) (c0_1 : Nat) (l0_1 : List (List Int)) (A0_2 : Option Addr) (c0_2 : Nat) (l0_2 : List (List Int)) (r1 : List Int) (r2 : Bool) (w : World) (hr0_0 : Kd.C (Kd.int .i64) w A0_0 l0_0.length l0_0) (hc0_0 : l0_0.length ≤ c0_0) (hr0_1 : Kd.C (Kd.slice 3 (Kd.int .i64)) w A0_1 l0_1.length l0_1) (hc0_1 : l0_1.length ≤ c0_1) (hr0_2 : Kd.C (Kd.slice 3 (Kd.int .i64)) w A0_2 l0_2.length l0_2) (hc0_2 : l0_2.length ≤ c0_2) (h : claim_Order.f k l0_0 l0_1 l0_2 = some (r1, r2)) :
    Calls Try.prog 25 #[.agg #[.slice A0_0 l0_0.length c0_0,.slice A0_1 l0_1.length c0_1,.slice A0_2 l0_2.length c0_2]] w fun e w'=>∃ v0_ : Value,e = .returned (.tuple #[v0_,.bool r2]) ∧ Kd.R (Kd.int .i64) 3 w' w.heap.size (fun _=>True) v0_ r1 ∧ Below w.heap.size w w':=by
  have hu60:=Try.underlying60;have HR0_0:=A0_ hr0_0;have HC0_0:=A0_ hc0_0;clear hr0_0 hc0_0;have HR0_1:=A0_ hr0_1;have HC0_1:=A0_ hc0_1;clear hr0_1 hc0_1;have HR0_2:=A0_ hr0_2;have HC0_2:=A0_ hc0_2;clear hr0_2 hc0_2;have HB:=A0_ (Below.refl w.heap.size w);have H : ((claim_Check.f k l0_0 l0_1 l0_2).bind fun t222=>(if t222 = 0 then ((claim_order.f k l0_0 l0_1 l0_2).bind fun bt223=>(some (bt223.1,bt223.2))) else (some (([] : List Int),false)))) = some (r1,r2):=h;clear h;replace H:=bm_ H;obtain ⟨t222,A20,H⟩:=H;replace H : (if t222 = 0 then ((claim_order.f k l0_0 l0_1 l0_2).bind fun bt223=>(some (bt223.1,bt223.2))) else (some (([] : List Int),false))) = some (r1,r2):=H;have A2:=A0_ A20;clear A20;by_cases c3 : t222 = 0;rotate_left
  · rw [if_neg c3] at H
    have c3b0 : (t222 == 0) = false:=beq_eq_false_iff_ne.mpr c3;have c3b1 : (t222 != 0) = true:=bne_iff_ne.mpr c3;simp only [Option.some.injEq,Prod.mk.injEq] at H;obtain ⟨rfl,rfl⟩:=H;go_enter Try.func25,Try.ntmps25;go_wp2_with (first|((with_reducible refine gate_dst (N:=1) rfl ?_);refine box_event ?hg (N:=1) ?hd (cs:=#[.slice A0_0 l0_0.length c0_0,.slice A0_1 l0_1.length c0_1,.slice A0_2 l0_2.length c0_2]) (t:=60) ?hr ?_;(case hd=>rfl);(case hg=>rfl);(case hr=>first|(go_simp;done)|(go_simp;rfl));intro gb221 hg w10 hbox hb;have n0_:=A0_ (below_step (by repeat (first|(with_reducible first|exact HB.out|apply ba_|apply pN_|apply b1_)|exact HB.out)) hb);have n1_:=A0_ (hbox);have n2_:=A0_ ((by rw [hg];exact (below_size (by repeat (first|(with_reducible first|exact HB.out|apply ba_|apply pN_|apply b1_)|exact HB.out))) : w.heap.size ≤ gb221));have n3_:=A0_ ((by rw [hg];exact (below_size (by repeat (first|(with_reducible first|exact HB.out|apply ba_|apply pN_|apply b1_)|exact HB.out))) : w.heap.size ≤ gb221));clear HB;have HB:=n0_;have BK221:=n1_;have GW221:=n2_;have GE221:=n3_;clear n0_ n1_ n2_ n3_;clear hb hbox hg;obtain ⟨hcz11_0,hcz11_1,hcz11_2,hfz11_0,hfz11_1,hfz11_2⟩:=cz3_ (w:=w10) BK221.out)|((with_reducible refine gate_callee (f:=27) rfl ?_);refine goesL_ (some 5) rfl rfl Try.func27 (by kernel_rfl) rfl #[.agg #[.slice A0_0 l0_0.length c0_0,.slice A0_1 l0_1.length c0_1,.slice A0_2 l0_2.length c0_2]] rfl (by first|(simp only [List.map_toArray,List.map_cons,List.map_nil] <;> rfl)|rfl|(simp only [List.length_drop,List.length_take];rfl)) ?_;(with_reducible refine (claim_Check.calls k _ _ l0_0 _ _ l0_1 _ _ l0_2 t222 _ ?side1 ?side2 ?side3 ?side4 ?side5 ?side6 A2.out).mono ?_);(case side1=>repeat (first|exact (Kd.C_below HR0_0.out HB.out)|(with_reducible first|refine Ca_ ?_ _|refine Cn_ ?_ _|refine Cd_ ?_)));(case side2=>exact HC0_0.out);(case side3=>repeat (first|exact (Kd.C_below HR0_1.out HB.out)|(with_reducible first|refine Ca_ ?_ _|refine Cn_ ?_ _|refine Cd_ ?_)));(case side4=>exact HC0_1.out);(case side5=>repeat (first|exact (Kd.C_below HR0_2.out HB.out)|(with_reducible first|refine Ca_ ?_ _|refine Cn_ ?_ _|refine Cd_ ?_)));(case side6=>exact HC0_2.out);rintro e w12 ⟨rfl,hb⟩;refine ⟨_,rfl,?_⟩;have n0_:=A0_ (blk_below (g:=gb221) (o:=.cells #[.slice A0_0 l0_0.length c0_0,.slice A0_1 l0_1.length c0_1,.slice A0_2 l0_2.length c0_2] 60 (0,0)) (by (with_reducible repeat first|refine bN_ ?_ _|refine bD_ ?_|refine bA_ ?_ _);exact BK221.out) hb);have n1_:=A0_ (below_step (by repeat (first|(with_reducible first|exact HB.out|apply ba_|apply pN_|apply b1_|refine bs_ ?_ GE221.out)|exact HB.out)) hb);clear BK221;clear HB;have BK221:=n0_;have HB:=n1_;clear n0_ n1_;(try clear hb);(try clear hb2);(try clear hk);(try clear hi)));go_ret2;exact ⟨_,by first|rfl|(simp [errW_none,errW_some] <;> rfl)|(simp [*,errW_none,errW_some] <;> rfl),by first|exact Kd.R_nil _ _ _ _ _|exact Kd.N_nil _ _ _ _ _|exact Kd.V_nil _ _ _ _ _|exact Kd.Q_nil _ _ _ _ _|exact Kd.S_nil _ _ _ _ _,by repeat (first|(with_reducible first|exact HB.out|apply ba_|apply pN_|apply b1_|refine bs_ ?_ GE221.out)|exact HB.out)⟩

  rw [if_pos c3] at H;have c3b0 : (t222 == 0) = true:=beq_iff_eq.mpr c3;have c3b1 : (t222 != 0) = false:=bne_eq_false_iff_eq.mpr c3;clear c3;replace H:=bm_ H;obtain ⟨⟨t223,t226⟩,A40,H⟩:=H;replace H : (some (t223,t226)) = some (r1,r2):=H;have A4:=A0_ A40;clear A40;simp only [Option.some.injEq,Prod.mk.injEq] at H;obtain ⟨rfl,rfl⟩:=H;go_enter Try.func25,Try.ntmps25;go_wp2_with (first|((with_reducible refine gate_dst (N:=1) rfl ?_);refine box_event ?hg (N:=1) ?hd (cs:=#[.slice A0_0 l0_0.length c0_0,.slice A0_1 l0_1.length c0_1,.slice A0_2 l0_2.length c0_2]) (t:=60) ?hr ?_;(case hd=>rfl);(case hg=>rfl);(case hr=>first|(go_simp;done)|(go_simp;rfl));intro gb221 hg w5 hbox hb;have n0_:=A0_ (below_step (by repeat (first|(with_reducible first|exact HB.out|apply ba_|apply pN_|apply b1_)|exact HB.out)) hb);have n1_:=A0_ (hbox);have n2_:=A0_ ((by rw [hg];exact (below_size (by repeat (first|(with_reducible first|exact HB.out|apply ba_|apply pN_|apply b1_)|exact HB.out))) : w.heap.size ≤ gb221));have n3_:=A0_ ((by rw [hg];exact (below_size (by repeat (first|(with_reducible first|exact HB.out|apply ba_|apply pN_|apply b1_)|exact HB.out))) : w.heap.size ≤ gb221));clear HB;have HB:=n0_;have BK221:=n1_;have GW221:=n2_;have GE221:=n3_;clear n0_ n1_ n2_ n3_;clear hb hbox hg;obtain ⟨hcz6_0,hcz6_1,hcz6_2,hfz6_0,hfz6_1,hfz6_2⟩:=cz3_ (w:=w5) BK221.out)|((with_reducible refine gate_callee (f:=27) rfl ?_);refine goesL_ (some 5) rfl rfl Try.func27 (by kernel_rfl) rfl #[.agg #[.slice A0_0 l0_0.length c0_0,.slice A0_1 l0_1.length c0_1,.slice A0_2 l0_2.length c0_2]] rfl (by first|(simp only [List.map_toArray,List.map_cons,List.map_nil] <;> rfl)|rfl|(simp only [List.length_drop,List.length_take];rfl)) ?_;(with_reducible refine (claim_Check.calls k _ _ l0_0 _ _ l0_1 _ _ l0_2 t222 _ ?side1 ?side2 ?side3 ?side4 ?side5 ?side6 A2.out).mono ?_);(case side1=>repeat (first|exact (Kd.C_below HR0_0.out HB.out)|(with_reducible first|refine Ca_ ?_ _|refine Cn_ ?_ _|refine Cd_ ?_)));(case side2=>exact HC0_0.out);(case side3=>repeat (first|exact (Kd.C_below HR0_1.out HB.out)|(with_reducible first|refine Ca_ ?_ _|refine Cn_ ?_ _|refine Cd_ ?_)));(case side4=>exact HC0_1.out);(case side5=>repeat (first|exact (Kd.C_below HR0_2.out HB.out)|(with_reducible first|refine Ca_ ?_ _|refine Cn_ ?_ _|refine Cd_ ?_)));(case side6=>exact HC0_2.out);rintro e w7 ⟨rfl,hb⟩;refine ⟨_,rfl,?_⟩;have n0_:=A0_ (blk_below (g:=gb221) (o:=.cells #[.slice A0_0 l0_0.length c0_0,.slice A0_1 l0_1.length c0_1,.slice A0_2 l0_2.length c0_2] 60 (0,0)) (by (with_reducible repeat first|refine bN_ ?_ _|refine bD_ ?_|refine bA_ ?_ _);exact BK221.out) hb);have n1_:=A0_ (below_step (by repeat (first|(with_reducible first|exact HB.out|apply ba_|apply pN_|apply b1_|refine bs_ ?_ GE221.out)|exact HB.out)) hb);clear BK221;clear HB;have BK221:=n0_;have HB:=n1_;clear n0_ n1_;(try clear hb);(try clear hb2);(try clear hk);(try clear hi);obtain ⟨hcz8_0,hcz8_1,hcz8_2,hfz8_0,hfz8_1,hfz8_2⟩:=cz3_ (w:=w7) BK221.out)|((with_reducible refine gate_callee (f:=44) rfl ?_);refine goesL_ (some 8) rfl rfl Try.func44 (by kernel_rfl) rfl #[.agg #[.slice A0_0 l0_0.length c0_0,.slice A0_1 l0_1.length c0_1,.slice A0_2 l0_2.length c0_2]] rfl (by first|(simp only [List.map_toArray,List.map_cons,List.map_nil] <;> rfl)|rfl|(simp only [List.length_drop,List.length_take];rfl)) ?_;(with_reducible refine (claim_order.calls k _ _ l0_0 _ _ l0_1 _ _ l0_2 t223 t226 _ ?side1 ?side2 ?side3 ?side4 ?side5 ?side6 A4.out).mono ?_);(case side1=>repeat (first|exact (Kd.C_below HR0_0.out HB.out)|(with_reducible first|refine Ca_ ?_ _|refine Cn_ ?_ _|refine Cd_ ?_)));(case side2=>exact HC0_0.out);(case side3=>repeat (first|exact (Kd.C_below HR0_1.out HB.out)|(with_reducible first|refine Ca_ ?_ _|refine Cn_ ?_ _|refine Cd_ ?_)));(case side4=>exact HC0_1.out);(case side5=>repeat (first|exact (Kd.C_below HR0_2.out HB.out)|(with_reducible first|refine Ca_ ?_ _|refine Cn_ ?_ _|refine Cd_ ?_)));(case side6=>exact HC0_2.out);rintro e w9 ⟨v224,rfl,ho0,hb⟩;refine ⟨_,rfl,?_⟩;have n0_:=A0_ (Kd.R_lower ho0 (below_size (by repeat (first|(with_reducible first|exact HB.out|apply ba_|apply pN_|apply b1_|refine bs_ ?_ GE221.out)|exact HB.out))));have n1_:=A0_ (blk_below (g:=gb221) (o:=.cells #[.slice A0_0 l0_0.length c0_0,.slice A0_1 l0_1.length c0_1,.slice A0_2 l0_2.length c0_2] 60 (0,0)) (by (with_reducible repeat first|refine bN_ ?_ _|refine bD_ ?_|refine bA_ ?_ _);exact BK221.out) hb);have n2_:=A0_ (below_step (by repeat (first|(with_reducible first|exact HB.out|apply ba_|apply pN_|apply b1_|refine bs_ ?_ GE221.out)|exact HB.out)) hb);clear BK221;clear HB;have HO225:=n0_;have BK221:=n1_;have HB:=n2_;clear n0_ n1_ n2_;(try clear hb);(try clear hb2);(try clear hk);(try clear hi);(try clear ho0)));go_ret2;exact ⟨_,by first|rfl|(simp [errW_none,errW_some] <;> rfl)|(simp [*,errW_none,errW_some] <;> rfl),by (with_reducible repeat first|apply Ra_|apply Rn_|apply Rd_);exact HO225.out,by repeat (first|(with_reducible first|exact HB.out|apply ba_|apply pN_|apply b1_|refine bs_ ?_ GE221.out)|exact HB.out)⟩
/-! ### claim_Safe: function 28 -/
def claim_Safe.f (k : Nat) (l0_0 : List Int) (l0_1 : List (List Int)) (l0_2 : List (List Int)) : Option (Bool) := (claim_Order.f k l0_0 l0_1 l0_2).bind fun bt228 => (some bt228.2)
theorem claim_Safe.mono : ∀ a0 a1 a2 k, LeO (claim_Safe.f k a0 a1 a2) (claim_Safe.f (k + 1) a0 a1 a2) := by
  intro a0 a1 a2 k
  unfold claim_Safe.f
  repeat' first
      | (with_reducible exact claim_Order.mono _ _ _ _)
      | (with_reducible exact LeO.refl _)
      | (with_reducible exact LeO.none _)
      | (with_reducible refine LeO.ite ?_ ?_)
      | (with_reducible refine LeO.bind ?_ (fun _=>?_))
      | exact claim_Order.mono _ _ _ _
      | exact LeO.none _
      | refine LeO.ite ?_ ?_
      | refine LeO.bind ?_ (fun _=>?_)
set_option maxHeartbeats 8000000 in
set_option maxRecDepth 100000 in
theorem claim_Safe.calls (k : Nat) (A0_0 : Option Addr) (c0_0 : Nat) (l0_0 : List Int) (A0_1 : Option Addr) (c0_1 : Nat) (l0_1 : List (List Int)) (A0_2 : Option Addr) (c0_2 : Nat) (l0_2 : List (List Int)) (r : Bool) (w : World) (hr0_0 : Kd.C (Kd.int .i64) w A0_0 l0_0.length l0_0) (hc0_0 : l0_0.length ≤ c0_0) (hr0_1 : Kd.C (Kd.slice 3 (Kd.int .i64)) w A0_1 l0_1.length l0_1) (hc0_1 : l0_1.length ≤ c0_1) (hr0_2 : Kd.C (Kd.slice 3 (Kd.int .i64)) w A0_2 l0_2.length l0_2) (hc0_2 : l0_2.length ≤ c0_2) (h : claim_Safe.f k l0_0 l0_1 l0_2 = some r) :
    Calls Try.prog 28 #[.agg #[.slice A0_0 l0_0.length c0_0,.slice A0_1 l0_1.length c0_1,.slice A0_2 l0_2.length c0_2]] w fun e w'=>e = .returned (.bool r) ∧ Below w.heap.size w w':=by
  have hu60:=Try.underlying60;have HR0_0:=A0_ hr0_0;have HC0_0:=A0_ hc0_0;clear hr0_0 hc0_0;have HR0_1:=A0_ hr0_1;have HC0_1:=A0_ hc0_1;clear hr0_1 hc0_1;have HR0_2:=A0_ hr0_2;have HC0_2:=A0_ hc0_2;clear hr0_2 hc0_2;have HB:=A0_ (Below.refl w.heap.size w);have H : ((claim_Order.f k l0_0 l0_1 l0_2).bind fun bt228=>(some bt228.2)) = some r:=h;clear h;replace H:=bm_ H;obtain ⟨⟨t228,t231⟩,A20,H⟩:=H;replace H : (some t231) = some r:=H;have A2:=A0_ A20;clear A20;obtain rfl:=Option.some.inj H;go_enter Try.func28,Try.ntmps28;go_wp2_with (first|((with_reducible refine gate_dst (N:=1) rfl ?_);refine box_event ?hg (N:=1) ?hd (cs:=#[.slice A0_0 l0_0.length c0_0,.slice A0_1 l0_1.length c0_1,.slice A0_2 l0_2.length c0_2]) (t:=60) ?hr ?_;(case hd=>rfl);(case hg=>rfl);(case hr=>first|(go_simp;done)|(go_simp;rfl));intro gb227 hg w3 hbox hb;have n0_:=A0_ (below_step (by repeat (first|(with_reducible first|exact HB.out|apply ba_|apply pN_|apply b1_)|exact HB.out)) hb);have n1_:=A0_ (hbox);have n2_:=A0_ ((by rw [hg];exact (below_size (by repeat (first|(with_reducible first|exact HB.out|apply ba_|apply pN_|apply b1_)|exact HB.out))) : w.heap.size ≤ gb227));have n3_:=A0_ ((by rw [hg];exact (below_size (by repeat (first|(with_reducible first|exact HB.out|apply ba_|apply pN_|apply b1_)|exact HB.out))) : w.heap.size ≤ gb227));clear HB;have HB:=n0_;have BK227:=n1_;have GW227:=n2_;have GE227:=n3_;clear n0_ n1_ n2_ n3_;clear hb hbox hg;obtain ⟨hcz4_0,hcz4_1,hcz4_2,hfz4_0,hfz4_1,hfz4_2⟩:=cz3_ (w:=w3) BK227.out)|((with_reducible refine gate_callee (f:=25) rfl ?_);refine goesL_ (some 7) rfl rfl Try.func25 (by kernel_rfl) rfl #[.agg #[.slice A0_0 l0_0.length c0_0,.slice A0_1 l0_1.length c0_1,.slice A0_2 l0_2.length c0_2]] rfl (by first|(simp only [List.map_toArray,List.map_cons,List.map_nil] <;> rfl)|rfl|(simp only [List.length_drop,List.length_take];rfl)) ?_;(with_reducible refine (claim_Order.calls k _ _ l0_0 _ _ l0_1 _ _ l0_2 t228 t231 _ ?side1 ?side2 ?side3 ?side4 ?side5 ?side6 A2.out).mono ?_);(case side1=>repeat (first|exact (Kd.C_below HR0_0.out HB.out)|(with_reducible first|refine Ca_ ?_ _|refine Cn_ ?_ _|refine Cd_ ?_)));(case side2=>exact HC0_0.out);(case side3=>repeat (first|exact (Kd.C_below HR0_1.out HB.out)|(with_reducible first|refine Ca_ ?_ _|refine Cn_ ?_ _|refine Cd_ ?_)));(case side4=>exact HC0_1.out);(case side5=>repeat (first|exact (Kd.C_below HR0_2.out HB.out)|(with_reducible first|refine Ca_ ?_ _|refine Cn_ ?_ _|refine Cd_ ?_)));(case side6=>exact HC0_2.out);rintro e w5 ⟨v229,rfl,ho0,hb⟩;refine ⟨_,rfl,?_⟩;have n0_:=A0_ (Kd.R_lower ho0 (below_size (by repeat (first|(with_reducible first|exact HB.out|apply ba_|apply pN_|apply b1_|refine bs_ ?_ GE227.out)|exact HB.out))));have n1_:=A0_ (blk_below (g:=gb227) (o:=.cells #[.slice A0_0 l0_0.length c0_0,.slice A0_1 l0_1.length c0_1,.slice A0_2 l0_2.length c0_2] 60 (0,0)) (by (with_reducible repeat first|refine bN_ ?_ _|refine bD_ ?_|refine bA_ ?_ _);exact BK227.out) hb);have n2_:=A0_ (below_step (by repeat (first|(with_reducible first|exact HB.out|apply ba_|apply pN_|apply b1_|refine bs_ ?_ GE227.out)|exact HB.out)) hb);clear BK227;clear HB;have HO230:=n0_;have BK227:=n1_;have HB:=n2_;clear n0_ n1_ n2_;(try clear hb);(try clear hb2);(try clear hk);(try clear hi);(try clear ho0)));go_ret;exact ⟨by first|rfl|(simp [errW_none,errW_some] <;> rfl)|(simp [*,errW_none,errW_some] <;> rfl),by repeat (first|(with_reducible first|exact HB.out|apply ba_|apply pN_|apply b1_|refine bs_ ?_ GE227.out)|exact HB.out)⟩

/-! ### slices_Clone_int_int_49: function 49 -/
def slices_Clone_int_int_49.f (l0 : List (List Int)) : Option ((List (List Int))) := (some (([] : List (List Int)) : List (List Int))).bind fun y232 => (if y232.length + l0.length < 5864062014805 then (some (y232 ++ l0)) else (none))
set_option maxHeartbeats 8000000 in
set_option maxRecDepth 100000 in
theorem slices_Clone_int_int_49.calls (P0_ : Nat → Prop) (A0 : Option Addr) (c0 : Nat) (l0 : List (List Int)) (r : List (List Int)) (w : World) (hs0 : Kd.V (Kd.slice 3 (Kd.int .i64)) 23 w w.heap.size (fun k_ => P0_ k_) (.slice A0 l0.length c0) l0) (h : slices_Clone_int_int_49.f l0 = some r) :
    Calls Try.prog 49 #[.slice A0 l0.length c0] w fun e w'=>∃ v0_ : Value,e = .returned (v0_) ∧ Kd.N (Kd.slice 3 (Kd.int .i64)) 23 w' w.heap.size (fun k_=>(P0_ k_ ∨ w.heap.size ≤ k_)) v0_ r ∧ Below w.heap.size w w':=by
  by_cases hnA_ : A0 = none
  · subst hnA_
    have hl_ : l0 = []:=List.eq_nil_of_length_eq_zero (by
      rcases Nat.eq_zero_or_pos l0.length with q | q
      · exact q
      · obtain ⟨ad_,e_,_⟩:=((Kd.V_reads' hs0).2.2).2.2 q
        cases e_)
    subst hl_;have hf_ : slices_Clone_int_int_49.f [] = some []:=by simp [slices_Clone_int_int_49.f]
    rw [hf_] at h;injection h with h
    subst h;have hq_:=fun W=>Lib.run_eql_slice_nil (P:=Try.prog) W 53 23 none 0 c0 0 0 Try.underlying53
    go_enter Try.func49,Try.ntmps49;go_wp2;go_ret;exact ⟨.slice none 0 0,rfl,Kd.N_nil _ _ _ _ _,Below.refl _ _⟩
  have hq_ : ∀ W,(binOp .eql 53 (.slice A0 l0.length c0) (.slice none 0 0)).run Try.prog W = .ok (.bool false) W:=fun W=>by
    rw [Lib.run_eql_slice_nil W 53 23 A0 l0.length c0 0 0 Try.underlying53]
    cases A0 with
    | none=>exact absurd rfl hnA_
    | some _=>rfl
  clear hnA_;have HO0:=A0_ (show Kd.V (Kd.slice 3 (Kd.int .i64)) 23 w w.heap.size (fun k_=>(P0_ k_ ∨ w.heap.size ≤ k_)) (.slice A0 l0.length c0) l0 from Kd.V_mono hs0 (fun k_ hk=>.inl hk));have HB:=A0_ (Below.refl w.heap.size w);have H : ((some (([] : List (List Int)) : List (List Int))).bind fun y232=>(if y232.length + l0.length < 5864062014805 then (some (y232 ++ l0)) else (none))) = some r:=h;clear h;obtain ⟨y232,hy232⟩ : ∃ y_ : List (List Int),y_ = (([] : List (List Int))):=⟨_,rfl⟩;replace H : (if y232.length + l0.length < 5864062014805 then (some (y232 ++ l0)) else (none)) = some r:=by first|(rw [hy232];with_reducible exact H)|(have H2_:=(Option.bind_some _ _).symm.trans H;rw [hy232];with_reducible exact H2_)|(have H2_:=(Option.bind_some _ _).symm.trans H;with_reducible exact H2_)|with_reducible exact H|(rw [hy232];exact H)|exact H
  have Ny232:=A0_ hy232;clear hy232;by_cases c2 : y232.length + l0.length < 5864062014805;rotate_left
  · rw [if_neg c2] at H
    exact absurd H (by simp)

  rw [if_pos c2] at H;have LMc2:=A0_ c2;clear c2;obtain ⟨y235,hy235⟩ : ∃ y_ : List (List Int),y_ = (y232 ++ l0):=⟨_,rfl⟩;replace H : (some y235) = some r:=by first|(rw [hy235];with_reducible exact H)|(have H2_:=(Option.bind_some _ _).symm.trans H;rw [hy235];with_reducible exact H2_)|(have H2_:=(Option.bind_some _ _).symm.trans H;with_reducible exact H2_)|with_reducible exact H|(rw [hy235];exact H)|exact H
  have Ny235:=A0_ hy235;clear hy235;obtain rfl:=Option.some.inj H;go_enter Try.func49,Try.ntmps49;go_wp2_with (first|((with_reducible refine gate_dst (N:=5) rfl ?_);refine Kd.N_lit (Kd.slice 3 (Kd.int .i64)) _ 23 ?hg (N':=5) ?hd (xs:=([] : List (List Int))) (inner:=[]) (ok:=(fun k_=>(P0_ k_ ∨ w.heap.size ≤ k_))) (okp:=(fun k_=>(P0_ k_ ∨ w.heap.size ≤ k_))) ?hr ?hp (fun _ hk=>hk) ((show ∀ k_,w.heap.size ≤ k_ → (fun k_=>(P0_ k_ ∨ w.heap.size ≤ k_)) k_ from fun k_ hk=>(.inr (Nat.le_trans (below_size (by repeat (first|(with_reducible first|exact HB.out|apply ba_|apply pN_|apply b1_)|exact HB.out))) hk))) _ (Nat.le_refl _)) (Below.refl _ _) (Nat.le_refl _) (by simp) ?_;(case hd=>rfl);(case hg=>rfl);(case hr=>first|(go_simp;done)|(go_simp;rfl));(case hp=>exact (Reps.none _ _));intro v233 w3 ho4 hb hg_ hnew_;clear hg_ hnew_;(first|rw [← Ny232.out] at ho4|(simp only [Int.reduceToNat] at ho4;rw [← Ny232.out] at ho4));have n0_:=A0_ (Kd.V_elder' (by (with_reducible repeat first|apply Va_|apply Vn_|apply Vd_);exact HO0.out) (Kd.N_base ho4) hb);have n1_:=A0_ (Kd.N_lower ho4 (below_size (by repeat (first|(with_reducible first|exact HB.out|apply ba_|apply pN_|apply b1_)|exact HB.out))));have n2_:=A0_ (below_step (by repeat (first|(with_reducible first|exact HB.out|apply ba_|apply pN_|apply b1_)|exact HB.out)) hb);clear HO0;clear HB;have HO0:=n0_;have HO234:=n1_;have HB:=n2_;clear n0_ n1_ n2_;clear hb ho4)|((with_reducible refine gate_builtin (b:=.append) (xs:=#[.tmp 5,.tmp 6]) rfl ?_);at_builtin;refine Kd.N_append_rows (Kd.slice 3 (Kd.int .i64)) (w0:=w) w.heap.size rfl (.tmp 5) (.tmp 6) 53 23 (.slice none 0 0) 24 rfl Try.underlying53 info23 rfl (by decide) (by omega) v233 y232 l0 _ _ _ (fun k_=>(P0_ k_ ∨ w.heap.size ≤ k_)) (fun k_=>((fun k_=>(P0_ k_ ∨ w.heap.size ≤ k_))) k_ ∧ some k_ ≠ (v233 : Value).ownBlock) rfl rfl ?aO ?aR (fun _ hk=>hk) ?aF ?aB ?aS ?aL ?_;(case aR=>exact (by skip;exact Kd.V_F (Kd.V_mono (ok':=(fun k_=>((fun k_=>(P0_ k_ ∨ w.heap.size ≤ k_))) k_ ∧ some k_ ≠ (v233 : Value).ownBlock)) (HO0.out) (fun k_ hk=>⟨hk.1,hk.2⟩))));(case aB=>exact (by repeat (first|(with_reducible first|exact HB.out|apply ba_|apply pN_|apply b1_)|exact HB.out)));(case aF=>exact (fun k_ hk=>(.inr (Nat.le_trans (below_size (by repeat (first|(with_reducible first|exact HB.out|apply ba_|apply pN_|apply b1_)|exact HB.out))) hk))));(case aO=>exact (by (with_reducible repeat first|apply Na_|apply Nn_|apply Nd_);exact HO234.out));(case aS=>exact (below_size (by repeat (first|(with_reducible first|exact HB.out|apply ba_|apply pN_|apply b1_)|exact HB.out))));(case aL=>have:=LMc2.out;omega);intro v236 w5 ho hb hg hat;rw [← Ny235.out] at ho;have n0_:=A0_ (Kd.V_afterv (ok:=(fun k_=>(P0_ k_ ∨ w.heap.size ≤ k_))) (by (with_reducible repeat first|apply Va_|apply Vn_|apply Vd_);exact HO0.out) hg hat);have n1_:=A0_ (hb);have n2_:=A0_ (ho);clear HO0;clear HB;clear HO234;have HO0:=n0_;have HB:=n1_;have HO237:=n2_;clear n0_ n1_ n2_;clear ho hb hg hat));go_ret;exact ⟨_,by first|rfl|(simp [errW_none,errW_some] <;> rfl)|(simp [*,errW_none,errW_some] <;> rfl),by (with_reducible repeat first|apply Na_|apply Nn_|apply Nd_);exact HO237.out,by repeat (first|(with_reducible first|exact HB.out|apply ba_|apply pN_|apply b1_)|exact HB.out)⟩
/-! ### claim_Grants: function 30 -/
def claim_Grants.g : List Int → Nat → List Int → List Int → Option (List Int × List Int)
  | [],_,F,H=>some (F,H)
  | n :: t,i,F,H=>if n < 0 then none else claim_Grants.g t (i + 1) (F.set i (wrap64 (rd F i - n))) (H.set i (wrap64 (rd H i + n)))
def claim_Grants.bad (k : Nat) (l0_0 : List Int) (l0_1 : List (List Int)) (l0_2 : List (List Int)) (a1 : Int) (l2 : List Int) : Option Bool :=
  (claim_Check.f k l0_0 l0_1 l0_2).bind fun c=>if c = 0 then (if a1 < 0 then some true else if a1 ≥ (l0_1.length : Int) then some true else if (l2.length : Int) = (l0_0.length : Int) then
      ((claim_under.f k l2 l0_0).bind fun u=>if u = true then ((claim_left.f k l0_0 l0_1 l0_2 a1).bind fun n=>(claim_under.f k l2 n).bind fun v=>some (!v)) else some true)
    else some true) else some true
def claim_Grants.rest (k : Nat) (l0_1 : List (List Int)) (l0_2 : List (List Int)) (a1 : Int) : Option (List Int × List Int) → Option Bool
  | none=>some false
  | some p=>(claim_order.f k p.1 (l0_1.set a1.toNat p.2) l0_2).bind fun o=>some o.2
def claim_Grants.f (k : Nat) (l0_0 : List Int) (l0_1 : List (List Int)) (l0_2 : List (List Int)) (a1 : Int) (l2 : List Int) : Option Bool :=
  (claim_Grants.bad k l0_0 l0_1 l0_2 a1 l2).bind fun b=>if b = true then some false else
    if 0 ≤ a1 then if a1 < (l0_1.length : Int) then if l2.length ≤ l0_0.length then if l2.length ≤ (rd_L1 l0_1 a1).length then
      (slices_Clone_int_int_48.f l0_0).bind fun _=>(slices_Clone_int_int_49.f l0_1).bind fun _=>(slices_Clone_int_int_48.f (rd_L1 l0_1 a1)).bind fun _ =>
        claim_Grants.rest k l0_1 l0_2 a1 (claim_Grants.g l2 0 l0_0 (rd_L1 l0_1 a1))
    else none else none else none else none
theorem claim_Grants.bad_mono (a0 : List Int) (a1 a2 : List (List Int)) (a3 : Int) (a4 : List Int) (k : Nat) : LeO (claim_Grants.bad k a0 a1 a2 a3 a4) (claim_Grants.bad (k + 1) a0 a1 a2 a3 a4) := by
  unfold claim_Grants.bad
  repeat' first
    | exact LeO.refl _
    | exact claim_Check.mono _ _ _ _
    | exact claim_under.mono _ _ _
    | exact claim_left.mono _ _ _ _ _
    | refine LeO.ite ?_ ?_
    | refine LeO.bind ?_ (fun _=>?_)
theorem claim_Grants.mono : ∀ a0 a1 a2 a3 a4 k, LeO (claim_Grants.f k a0 a1 a2 a3 a4) (claim_Grants.f (k + 1) a0 a1 a2 a3 a4) := by
  intro a0 a1 a2 a3 a4 k
  unfold claim_Grants.f;refine LeO.bind (claim_Grants.bad_mono _ _ _ _ _ _) (fun _=>?_)
  repeat' first
    | exact LeO.refl _
    | refine LeO.ite ?_ ?_
    | refine LeO.bind ?_ (fun _=>?_)
  cases claim_Grants.g a4 0 a0 (rd_L1 a1 a3) with
  | none=>exact LeO.refl _
  | some p=>exact LeO.bind (claim_order.mono _ _ _ _) (fun _=>LeO.refl _)
theorem claim_Grants.clone48 {l r : List Int} (h : slices_Clone_int_int_48.f l = some r) : r = l := by
  unfold slices_Clone_int_int_48.f at h;simp only [Option.bind_some,List.nil_append] at h
  split at h
  · injection h with h;exact h.symm
  · cases h
theorem claim_Grants.clone49 {l r : List (List Int)} (h : slices_Clone_int_int_49.f l = some r) : r = l := by
  unfold slices_Clone_int_int_49.f at h;simp only [Option.bind_some,List.nil_append] at h
  split at h
  · injection h with h;exact h.symm
  · cases h
/-- The row of rows of which one, u, is told apart: what the others lead to lies in P. -/
def claim_Grants.HN (w : World) (base : Nat) (P : Nat → Prop) (v : Value) (H : List (List Int)) (who : Nat) (u : Value) : Prop :=
  ∃ rows : List (List Value),rows.length = H.length ∧ (Kd.raw 1).R 23 w base (fun k=>some k = v.ownBlock) v rows ∧ rows[who]? = some [u] ∧
    ∀ (j : Nat) (x : List Int) (c : List Value),j ≠ who → H[j]? = some x → rows[j]? = some c → Kd.FK (Kd.slice 3 (Kd.int .i64)) w P x c
theorem claim_Grants.HN_step {w w1 : World} {base : Nat} {P : Nat → Prop} {v : Value} {H : List (List Int)} {who : Nat} {u : Value} (h : claim_Grants.HN w base P v H who u)
    (hm : ∀ k,P k ∨ some k = v.ownBlock → k < w.heap.size → w1.heap[k]? = w.heap[k]?) : claim_Grants.HN w1 base P v H who u:=by
  obtain ⟨rows,hl,hR,hw,hf⟩:=h;exact ⟨rows,hl,Kd.R_step hR (fun k hk hlt=>hm k (.inr hk) hlt),hw,fun j x c hj hx hc=>Kd.FK_step (hf j x c hj hx hc) (fun k hk hlt=>hm k (.inl hk) hlt)⟩
theorem claim_Grants.HN_typed {w : World} {base : Nat} {P : Nat → Prop} {v : Value} {H : List (List Int)} {who : Nat} {u : Value} (h : claim_Grants.HN w base P v H who u) :
    ∀ k,v.ownBlock = some k → ∃ cells,w.heap[k]? = some (.cells cells 23 (0,0)):=by
  obtain ⟨rows,hl,hR,hw,hf⟩:=h;exact Kd.R_typed hR
theorem claim_Grants.HN_make {w : World} {base g cap n : Nat} {ok : Nat → Prop} {H : List (List Int)} {who : Int} {A : Option Addr} {m c : Nat} (h : Kd.N (Kd.slice 3 (Kd.int .i64)) 23 w base ok (.slice (some ⟨g, 0, none⟩) n cap) H)
    (h0 : 0 ≤ who) (h1 : who < n) :
    claim_Grants.HN (w.setCell ⟨g,who.toNat,none⟩ (.slice A m c)) base (fun k=>ok k ∧ k ≠ g) (.slice (some ⟨g,0,none⟩) n cap) H who.toNat (.slice A m c) ∧ w.grownBy (w.setCell ⟨g,who.toNat,none⟩ (.slice A m c)) (some g):=by
  have hn:=(Kd.N_reads' h).1;obtain ⟨hok,rows,hl,hR,hf⟩:=h;have hi : who.toNat < rows.length:=by omega
  obtain ⟨c0,hcl,hM,hcc,hfr⟩:=Kd.R_elem hR [] who h0 h1;have hcl : c0.length = 1:=hcl;have hlen : ∃ a,c0 = [a]:=by
    cases c0 with
    | nil=>simp at hcl
    | cons a t=>cases t with
      | nil=>exact ⟨a,rfl⟩
      | cons b t=>simp at hcl
  obtain ⟨a,rfl⟩:=hlen;obtain ⟨h2,h3⟩:=Kd.R_seg (Kd.raw_any hR) who h0 h1 (c:=[a]) (seg:=[.slice A m c]) (j:=0) (x':=[.slice A m c]) (okp:=fun _=>False) hcl hcc (Nat.le_refl 1) ⟨rfl,rfl,fun u hu=>by rw [List.mem_singleton.1 hu];rfl⟩ (fun _ hk=>hk.elim);have e : w.setCells g (who.toNat * 1 + 0) [.slice A m c] = w.setCell ⟨g,who.toNat,none⟩ (.slice A m c):=by
    simp [World.setCells]
  have h2 : (Kd.raw 1).R 23 (w.setCells g (who.toNat * 1 + 0) [.slice A m c]) base (fun _=>True) (.slice (some ⟨g,0,none⟩) n cap) (rows.set who.toNat [.slice A m c]):=h2;have h3 : w.grownBy (w.setCells g (who.toNat * 1 + 0) [.slice A m c]) (some g):=h3;rw [e] at h2 h3;refine ⟨⟨rows.set who.toNat [.slice A m c],by rw [List.length_set];exact hl,Kd.raw_tight h2,by simp [hi],fun j x c1 hj hx hc=>?_⟩,h3⟩;rw [List.getElem?_set_ne (Ne.symm hj)] at hc;refine Kd.FK_step (Kd.FK_mono (hf j x c1 hx hc) (fun k hk=>⟨hk.1,fun e_=>hk.2 (by rw [e_];rfl)⟩)) (fun k hk _=>?_);exact Below.heap_setCell w ⟨g,who.toNat,none⟩ _ k hk.2
theorem claim_Grants.HN_C {w : World} {base : Nat} {P ok : Nat → Prop} {A : Option Addr} {n cap b : Nat} {H : List (List Int)} {who : Nat} {A1 : Option Addr} {n1 c1 : Nat} {x : List Int}
    (h : claim_Grants.HN w base P (.slice A n cap) H who (.slice A1 n1 c1)) (hP : ∀ k,P k → some k ≠ (Value.slice A n cap).ownBlock)
    (hu : Kd.R (Kd.int .i64) 3 w b ok (.slice A1 n1 c1) x) (hok : ∀ k,ok k → some k ≠ (Value.slice A n cap).ownBlock) :
    n = (H.set who x).length ∧ n ≤ cap ∧ Kd.C (Kd.slice 3 (Kd.int .i64)) w A (H.set who x).length (H.set who x):=by
  obtain ⟨rows,hl,hR,hw,hf⟩:=h;have hN : Kd.N (Kd.slice 3 (Kd.int .i64)) 23 w base (fun _=>True) (.slice A n cap) (H.set who x):=by
    refine ⟨fun _ _=>trivial,rows,by rw [List.length_set];exact hl,hR,fun j y c hy hc=>?_⟩;by_cases hj : j = who;rotate_left
    · rw [List.getElem?_set_ne (Ne.symm hj)] at hy
      exact Kd.FK_mono (hf j y c hj hy hc) (fun k hk=>⟨trivial,hP k hk⟩)
    subst hj;rw [hw] at hc;injection hc with hc
    subst hc;have hlt : j < H.length:=by
      rw [← hl];exact (List.getElem?_eq_some_iff.1 hw).1
    rw [List.getElem?_set_self hlt] at hy;injection hy with hy
    subst hy;obtain ⟨e1,e2,e3⟩:=Kd.R_reads' hu;subst e1;exact Kd.FK_mono (Kd.FK_slice_mk e2 (Kd.R_F hu)) (fun k hk=>⟨trivial,hok k hk⟩)
  exact Kd.N_reads' hN
/-- How the copy stands ahead of the round: its block g7, its rows; what came in. -/
def claim_Grants.St (w W : World) (g3 g7 : Nat) (box : Array Value) (AF : Option Addr) (cF : Nat) (AH : Option Addr) (cH : Nat) (z : Value) (F : List Int) (H : List (List Int)) : Prop :=
  Kd.R (Kd.int .i64) 3 W w.heap.size (fun _=>True) (.slice AF F.length cF) F ∧
  Kd.N (Kd.slice 3 (Kd.int .i64)) 23 W w.heap.size (fun k=>k ≠ g7 ∧ some k ≠ (Value.slice AF F.length cF).ownBlock) (.slice AH H.length cH) H ∧
  W.heap[g7]? = some (.cells #[.slice AF F.length cF,.slice AH H.length cH,z] 60 (0,0)) ∧ g7 ≠ g3 ∧ w.heap.size ≤ g7 ∧ W.heap[g3]? = some (.cells box 60 (0,0)) ∧ Below w.heap.size w W
section
variable {w W5 : World} {g3 g7 b1 b2 : Nat} {box : Array Value} {AF AH : Option Addr} {cF cH : Nat} {z : Value} {F : List Int} {H : List (List Int)} {ok : Nat → Prop}
theorem claim_Grants.St_alloc (hR : Kd.R (Kd.int .i64) 3 W5 b1 (fun _ => True) (.slice AF F.length cF) F) (hb1 : w.heap.size ≤ b1) (hN : Kd.N (Kd.slice 3 (Kd.int .i64)) 23 W5 b2 ok (.slice AH H.length cH) H) (hb2 : w.heap.size ≤ b2)
    (hok : ∀ k,ok k → k < W5.heap.size → some k ≠ (Value.slice AF F.length cF).ownBlock) (h3 : W5.heap[g3]? = some (.cells box 60 (0,0))) (hb : Below w.heap.size w W5) :
    claim_Grants.St w (W5.alloc (.cells #[.slice AF F.length cF,.slice AH H.length cH,z] 60 (0,0))) g3 W5.heap.size box AF cF AH cH z F H:=by
  have hlt:=blk_lt h3;refine ⟨Kd.R_lower (Kd.R_alloc hR _) hb1,Kd.N_mono (Kd.N_alloc (Kd.N_bound (Kd.N_lower hN hb2)) _) (fun k hk=>⟨by have:=hk.2;omega,hok k hk.1 hk.2⟩),blk_new W5 _,by omega,hb.size,blk_alloc h3 _,ba_ hb _⟩
theorem claim_Grants.St_store {a b c : Value} (hR : Kd.R (Kd.int .i64) 3 W5 b1 (fun _ => True) (.slice AF F.length cF) F) (hb1 : w.heap.size ≤ b1) (hN : Kd.N (Kd.slice 3 (Kd.int .i64)) 23 W5 b2 ok (.slice AH H.length cH) H) (hb2 : w.heap.size ≤ b2)
    (hok : ∀ k,ok k → k < W5.heap.size → k ≠ g7 ∧ some k ≠ (Value.slice AF F.length cF).ownBlock) (h7 : W5.heap[g7]? = some (.cells #[a,b,c] 60 (0,0))) (hne : g7 ≠ g3) (hle : w.heap.size ≤ g7) (h3 : W5.heap[g3]? = some (.cells box 60 (0,0))) (hb : Below w.heap.size w W5) :
    claim_Grants.St w (((W5.setCell ⟨g7,0,none⟩ (.slice AF F.length cF)).setCell ⟨g7,1,none⟩ (.slice AH H.length cH)).setCell ⟨g7,2,none⟩ z) g3 g7 box AF cF AH cH z F H:=by
  have s3 : ∀ (X : World) (i : Nat) (v : Value),X.heap[g3]? = some (.cells box 60 (0,0)) → (X.setCell ⟨g7,i,none⟩ v).heap[g3]? = some (.cells box 60 (0,0)):=fun X i v h=>(Below.heap_setCell X ⟨g7,i,none⟩ v g3 (Ne.symm hne)).trans h
  refine ⟨?_,?_,?_,hne,hle,s3 _ _ _ (s3 _ _ _ (s3 _ _ _ h3)),bs_ (bs_ (bs_ hb hle) hle) hle⟩
  · exact Kd.R_mono (Kd.R_far (p:=⟨g7,2,none⟩) (Kd.R_far (p:=⟨g7,1,none⟩) (Kd.R_far (p:=⟨g7,0,none⟩) (Kd.R_types (Kd.R_lower hR hb1) h7 (by decide)) (fun _ hk=>hk.2) _) (fun _ hk=>hk.2) _) (fun _ hk=>hk.2) _) (fun _ _=>trivial)
  · exact Kd.N_far (p:=⟨g7,2,none⟩) (Kd.N_far (p:=⟨g7,1,none⟩) (Kd.N_far (p:=⟨g7,0,none⟩) (Kd.N_mono (Kd.N_bound (Kd.N_lower hN hb2)) (fun k hk=>hok k hk.1 hk.2)) (fun _ hk=>hk.1) _) (fun _ hk=>hk.1) _) (fun _ hk=>hk.1) _
  · exact blk_put (blk_put (blk_put h7 0 _ rfl) 1 _ rfl) 2 _ rfl
end
theorem claim_Grants.HN_cell {w : World} {base g n cap : Nat} {P : Nat → Prop} {H : List (List Int)} {who : Int} {u : Value} (h : claim_Grants.HN w base P (.slice (some ⟨g, 0, none⟩) n cap) H who.toNat u) (h0 : 0 ≤ who) (h1 : who < n) :
    w.cell? ⟨g,who.toNat,none⟩ = some u:=by
  obtain ⟨rows,hl,hR,hw,_⟩:=h;obtain ⟨c0,hcl,hM,hcc,_⟩:=Kd.R_elem hR [] who h0 h1;have e : c0 = rows.getD who.toNat []:=hM.1;rw [List.getD_eq_getElem?_getD,hw] at e;subst e
  simpa [Kd.raw] using hcc 0 u rfl
theorem claim_Grants.g_len : ∀ (l : List Int) (i : Nat) (F H : List Int) (p : List Int × List Int), claim_Grants.g l i F H = some p → p.1.length = F.length ∧ p.2.length = H.length
  | [],_,F,H,p,h=>by
    simp only [claim_Grants.g,Option.some.injEq] at h;subst h;exact ⟨rfl,rfl⟩
  | n :: t,i,F,H,p,h=>by
    simp only [claim_Grants.g] at h
    split at h
    · cases h
    · have:=claim_Grants.g_len t _ _ _ p h
      simpa using this
/-- One round. -/
theorem claim_Grants.g_step {l : List Int} {i : Nat} {F H : List Int} {x : Option (List Int × List Int)} (hi : i < l.length) (h : claim_Grants.g (l.drop i) i F H = x) :
    (rd l i < 0 → x = none) ∧ (¬ rd l i < 0 → claim_Grants.g (l.drop (i + 1)) (i + 1) (F.set i (wrap64 (rd F i - rd l i))) (H.set i (wrap64 (rd H i + rd l i))) = x):=by
  have e : rd l (i : Int) = l[i]:=by simp [rd,hi]
  rw [List.drop_eq_getElem_cons hi] at h;simp only [claim_Grants.g] at h;rw [e]
  constructor
  · intro hn
    rw [if_pos hn] at h;exact h.symm
  · intro hn
    rw [if_neg hn] at h;exact h
theorem claim_Grants.N_cell {W : World} {base g n cap : Nat} {ok : Nat → Prop} {H : List (List Int)} {who : Int} (h : Kd.N (Kd.slice 3 (Kd.int .i64)) 23 W base ok (.slice (some ⟨g, 0, none⟩) n cap) H) (h0 : 0 ≤ who) (h1 : who < n) :
    (∃ u,W.cell? ⟨g,who.toNat,none⟩ = some u) ∧ W.frozen? ⟨g,who.toNat,none⟩ = false:=by
  obtain ⟨c,hcl,_,hcc,hfr⟩:=Kd.N_elem h [] who h0 h1;have hcl : c.length = 1:=hcl;have hf : W.frozen? ⟨g,who.toNat * 1 + 0,none⟩ = false:=hfr 0;have hc : ∀ u,c[0]? = some u → W.cell? ⟨g,who.toNat * 1 + 0,none⟩ = some u:=fun u=>hcc 0 u
  simp only [Nat.mul_one,Nat.add_zero] at hf hc
  cases c with
  | nil=>simp at hcl
  | cons a t=>exact ⟨⟨a,hc a rfl⟩,hf⟩
theorem claim_Grants.box3 {W : World} {g t : Nat} {x y z : Value} (h : W.heap[g]? = some (.cells #[x, y, z] t (0, 0))) :
    W.cell? ⟨g,0,none⟩ = some x ∧ W.cell? ⟨g,1,none⟩ = some y ∧ W.cell? ⟨g,2,none⟩ = some z:=⟨(blk_cell h 0).trans rfl,(blk_cell h 1).trans rfl,(blk_cell h 2).trans rfl⟩
set_option maxHeartbeats 8000000 in
set_option maxRecDepth 100000 in
theorem claim_Grants.calls (k : Nat) (A0_0 : Option Addr) (c0_0 : Nat) (l0_0 : List Int) (A0_1 : Option Addr) (c0_1 : Nat) (l0_1 : List (List Int)) (A0_2 : Option Addr) (c0_2 : Nat) (l0_2 : List (List Int)) (a1 : Int) (A2 : Option Addr) (c2 : Nat) (l2 : List Int) (r : Bool) (w : World) (hr0_0 : Kd.C (Kd.int .i64) w A0_0 l0_0.length l0_0) (hc0_0 : l0_0.length ≤ c0_0) (hr0_1 : Kd.C (Kd.slice 3 (Kd.int .i64)) w A0_1 l0_1.length l0_1) (hc0_1 : l0_1.length ≤ c0_1) (hr0_2 : Kd.C (Kd.slice 3 (Kd.int .i64)) w A0_2 l0_2.length l0_2) (hc0_2 : l0_2.length ≤ c0_2) (hr2 : Kd.C (Kd.int .i64) w A2 l2.length l2) (hc2 : l2.length ≤ c2) (h : claim_Grants.f k l0_0 l0_1 l0_2 a1 l2 = some r) :
    Calls Try.prog 30 #[.agg #[.slice A0_0 l0_0.length c0_0,.slice A0_1 l0_1.length c0_1,.slice A0_2 l0_2.length c0_2],.int .i64 a1,.slice A2 l2.length c2] w fun e w'=>e = .returned (.bool r) ∧ Below w.heap.size w w':=by
  have hu60:=Try.underlying60;unfold claim_Grants.f at h;replace h:=bm_ h;obtain ⟨b,hb0,h⟩:=h;have HBad:=A0_ hb0;have HRest:=A0_ h;clear hb0 h;have HR0_0:=A0_ hr0_0;have HR0_1:=A0_ hr0_1;have HR0_2:=A0_ hr0_2;have HR2:=A0_ hr2;have HC:=A0_ (And.intro hc0_0 (And.intro hc0_1 (And.intro hc0_2 hc2)));clear hr0_0 hr0_1 hr0_2 hr2 hc0_0 hc0_1 hc0_2 hc2;have HB:=A0_ (Below.refl w.heap.size w);go_enter Try.func30,Try.ntmps30
  go_upto_region 1 with (first|((with_reducible refine gate_dst (N:=3) rfl ?_);(try (refine gate_guard (by rfl) ?_;dsimp only));refine box_event ?hg (N:=3) ?hd (cs:=#[.slice A0_0 l0_0.length c0_0,.slice A0_1 l0_1.length c0_1,.slice A0_2 l0_2.length c0_2]) (t:=60) ?hr ?_;(case hd=>rfl);(case hg=>rfl);(case hr=>first|(go_simp;done)|(go_simp;rfl));intro g3 hg w3 hbox hb;have n0_:=A0_ (below_step HB.out hb);have GE3:=A0_ ((by rw [hg];exact Nat.le_refl _) : w.heap.size ≤ g3);clear HB;have HB:=n0_;have BK3:=A0_ hbox;clear n0_;clear hb hbox hg))
  go_cut [48] (fun v48 wc=>v48 = .bool b ∧ Aside0 (wc.heap[g3]? = some (.cells #[.slice A0_0 l0_0.length c0_0,.slice A0_1 l0_1.length c0_1,.slice A0_2 l0_2.length c0_2] 60 (0,0))) ∧ Aside0 (Below w.heap.size w wc))
  case first =>
    have AGG : ∀ W' : World,Aside0 (W'.heap[g3]? = some (.cells #[.slice A0_0 l0_0.length c0_0,.slice A0_1 l0_1.length c0_1,.slice A0_2 l0_2.length c0_2] 60 (0,0))) → W'.cell? ⟨g3,0,none⟩ = some (.slice A0_0 l0_0.length c0_0) ∧ W'.cell? ⟨g3,1,none⟩ = some (.slice A0_1 l0_1.length c0_1) ∧ W'.cell? ⟨g3,2,none⟩ = some (.slice A0_2 l0_2.length c0_2):=fun W' h=>claim_Grants.box3 h.out
    obtain ⟨hz3_0,hz3_1,hz3_2⟩:=AGG _ BK3;have H:=HBad.out;clear HRest;unfold claim_Grants.bad at H;obtain ⟨c,hc0,H⟩:=bm_ H;have hc:=A0_ hc0;clear hc0;have C1 : ∀ W' : World,Below w.heap.size w W' → W'.heap[g3]? = some (.cells #[.slice A0_0 l0_0.length c0_0,.slice A0_1 l0_1.length c0_1,.slice A0_2 l0_2.length c0_2] 60 (0,0)) → Calls Try.prog 27 #[.agg #[.slice A0_0 l0_0.length c0_0,.slice A0_1 l0_1.length c0_1,.slice A0_2 l0_2.length c0_2]] W' fun e W2=>e = .returned (.int .i64 c) ∧ Aside0 (W2.heap[g3]? = some (.cells #[.slice A0_0 l0_0.length c0_0,.slice A0_1 l0_1.length c0_1,.slice A0_2 l0_2.length c0_2] 60 (0,0))) ∧ Aside0 (Below w.heap.size w W2):=fun W' hb hk=>(claim_Check.calls k _ _ l0_0 _ _ l0_1 _ _ l0_2 c W' (Kd.C_below HR0_0.out hb) HC.out.1 (Kd.C_below HR0_1.out hb) HC.out.2.1 (Kd.C_below HR0_2.out hb) HC.out.2.2.1 hc.out).mono fun e W2 ⟨he,h2⟩=>⟨he,⟨blk_below hk h2⟩,⟨below_step hb h2⟩⟩
    have C2 : ∀ u,claim_under.f k l2 l0_0 = some u → ∀ W' : World,Below w.heap.size w W' → Calls Try.prog 47 #[.slice A2 l2.length c2,.slice A0_0 l0_0.length c0_0] W' fun e W2=>e = .returned (.bool u) ∧ Drawn0 W' W2:=fun u hu W' hb=>claim_under.calls k _ _ l2 _ _ l0_0 u W' (Kd.C_below HR2.out hb) HC.out.2.2.2 (Kd.C_below HR0_0.out hb) HC.out.1 hu
    have C3 : ∀ n,claim_left.f k l0_0 l0_1 l0_2 a1 = some n → ∀ W' : World,Below w.heap.size w W' → W'.heap[g3]? = some (.cells #[.slice A0_0 l0_0.length c0_0,.slice A0_1 l0_1.length c0_1,.slice A0_2 l0_2.length c0_2] 60 (0,0)) → Calls Try.prog 46 #[.agg #[.slice A0_0 l0_0.length c0_0,.slice A0_1 l0_1.length c0_1,.slice A0_2 l0_2.length c0_2],.int .i64 a1] W' fun e W2=>∃ An cn,e = .returned (.slice An n.length cn) ∧ Aside0 (Kd.C (Kd.int .i64) W2 An n.length n ∧ n.length ≤ cn) ∧ Aside0 (W2.heap[g3]? = some (.cells #[.slice A0_0 l0_0.length c0_0,.slice A0_1 l0_1.length c0_1,.slice A0_2 l0_2.length c0_2] 60 (0,0))) ∧ Aside0 (Below w.heap.size w W2):=fun n hn W' hb hk=>(claim_left.calls k _ _ l0_0 _ _ l0_1 _ _ l0_2 a1 n W' (Kd.C_below HR0_0.out hb) HC.out.1 (Kd.C_below HR0_1.out hb) HC.out.2.1 (Kd.C_below HR0_2.out hb) HC.out.2.2.1 hn).mono fun e W2 ⟨v0,he,hR,h2⟩=>by
      obtain ⟨An,cn,rfl,hl,hr⟩:=Kd.R_reads hR;exact ⟨An,cn,he,⟨hr,hl⟩,⟨blk_below hk h2⟩,⟨below_step hb h2⟩⟩
    have C4 : ∀ n v,claim_under.f k l2 n = some v → ∀ (W' : World) (An : Option Addr) (cn : Nat),Below w.heap.size w W' → Kd.C (Kd.int .i64) W' An n.length n ∧ n.length ≤ cn → Calls Try.prog 47 #[.slice A2 l2.length c2,.slice An n.length cn] W' fun e W2=>e = .returned (.bool v) ∧ Drawn0 W' W2:=fun n v hv W' An cn hb hn=>claim_under.calls k _ _ l2 _ _ n v W' (Kd.C_below HR2.out hb) HC.out.2.2.2 hn.1 hn.2 hv
    have D1:=A0_ C1;have D2:=A0_ C2;have D3:=A0_ C3;have D4:=A0_ C4;clear C1 C2 C3 C4;by_cases c0 : c = 0;rotate_left
    · rw [if_neg c0] at H
      injection H with H
      subst H;have q1 : (c == 0) = false:=beq_eq_false_iff_ne.mpr c0;have q2 : (c != 0) = true:=bne_iff_ne.mpr c0;clear c0
      go_wp2_with (first
        | (go_at_call 27;with_reducible refine (D1.out _ HB.out BK3.out).mono ?_;rintro e w4 ⟨rfl,K4,B4⟩;clear HB;have HB:=B4;have BK4:=K4;obtain ⟨hz4_0,hz4_1,hz4_2⟩:=AGG _ K4;clear B4 K4)
        | (go_at_call 47;with_reducible refine (D2.out _ hu.out _ HB.out).mono ?_;rintro e w5 ⟨rfl,hd5⟩;obtain ⟨⟨n5,rfl⟩⟩:=hd5;have B5:=A0_ (pN_ HB.out n5);clear HB;have HB:=B5;clear B5;have BK5:=A0_ (blk_drewN BK4.out n5);obtain ⟨hz5_0,hz5_1,hz5_2⟩:=AGG _ BK5)
        | (go_at_call 46;with_reducible refine (D3.out _ hn.out _ HB.out BK5.out).mono ?_;rintro e w6 ⟨An,cn,rfl,N6,K6,B6⟩;clear HB;have HB:=B6;have BK6:=K6;have HN6:=N6;clear B6 K6 N6)
        | (go_at_call 47;with_reducible refine (D4.out _ _ hv.out _ _ _ HB.out HN6.out).mono ?_;rintro e w7 ⟨rfl,hd7⟩;obtain ⟨⟨n7,rfl⟩⟩:=hd7;have B7:=A0_ (pN_ HB.out n7);clear HB;have HB:=B7;clear B7;have BK7:=A0_ (blk_drewN BK6.out n7)))
      go_meet
      case rel=>exact ⟨rfl,by first|exact BK7|exact BK5|exact BK4,HB⟩
    rw [if_pos c0] at H;subst c0;by_cases ca : a1 < 0
    · rw [if_pos ca] at H
      injection H with H
      subst H;have qa:=decide_eq_true ca;clear ca
      go_wp2_with (first
        | (go_at_call 27;with_reducible refine (D1.out _ HB.out BK3.out).mono ?_;rintro e w4 ⟨rfl,K4,B4⟩;clear HB;have HB:=B4;have BK4:=K4;obtain ⟨hz4_0,hz4_1,hz4_2⟩:=AGG _ K4;clear B4 K4)
        | (go_at_call 47;with_reducible refine (D2.out _ hu.out _ HB.out).mono ?_;rintro e w5 ⟨rfl,hd5⟩;obtain ⟨⟨n5,rfl⟩⟩:=hd5;have B5:=A0_ (pN_ HB.out n5);clear HB;have HB:=B5;clear B5;have BK5:=A0_ (blk_drewN BK4.out n5);obtain ⟨hz5_0,hz5_1,hz5_2⟩:=AGG _ BK5)
        | (go_at_call 46;with_reducible refine (D3.out _ hn.out _ HB.out BK5.out).mono ?_;rintro e w6 ⟨An,cn,rfl,N6,K6,B6⟩;clear HB;have HB:=B6;have BK6:=K6;have HN6:=N6;clear B6 K6 N6)
        | (go_at_call 47;with_reducible refine (D4.out _ _ hv.out _ _ _ HB.out HN6.out).mono ?_;rintro e w7 ⟨rfl,hd7⟩;obtain ⟨⟨n7,rfl⟩⟩:=hd7;have B7:=A0_ (pN_ HB.out n7);clear HB;have HB:=B7;clear B7;have BK7:=A0_ (blk_drewN BK6.out n7)))
      go_meet
      case rel=>exact ⟨rfl,by first|exact BK7|exact BK5|exact BK4,HB⟩
    rw [if_neg ca] at H;have qa:=decide_eq_false ca;clear ca;by_cases cb : a1 ≥ (l0_1.length : Int)
    · rw [if_pos cb] at H
      injection H with H
      subst H;have qb : decide ((l0_1.length : Int) ≤ a1) = true:=decide_eq_true cb;clear cb
      go_wp2_with (first
        | (go_at_call 27;with_reducible refine (D1.out _ HB.out BK3.out).mono ?_;rintro e w4 ⟨rfl,K4,B4⟩;clear HB;have HB:=B4;have BK4:=K4;obtain ⟨hz4_0,hz4_1,hz4_2⟩:=AGG _ K4;clear B4 K4)
        | (go_at_call 47;with_reducible refine (D2.out _ hu.out _ HB.out).mono ?_;rintro e w5 ⟨rfl,hd5⟩;obtain ⟨⟨n5,rfl⟩⟩:=hd5;have B5:=A0_ (pN_ HB.out n5);clear HB;have HB:=B5;clear B5;have BK5:=A0_ (blk_drewN BK4.out n5);obtain ⟨hz5_0,hz5_1,hz5_2⟩:=AGG _ BK5)
        | (go_at_call 46;with_reducible refine (D3.out _ hn.out _ HB.out BK5.out).mono ?_;rintro e w6 ⟨An,cn,rfl,N6,K6,B6⟩;clear HB;have HB:=B6;have BK6:=K6;have HN6:=N6;clear B6 K6 N6)
        | (go_at_call 47;with_reducible refine (D4.out _ _ hv.out _ _ _ HB.out HN6.out).mono ?_;rintro e w7 ⟨rfl,hd7⟩;obtain ⟨⟨n7,rfl⟩⟩:=hd7;have B7:=A0_ (pN_ HB.out n7);clear HB;have HB:=B7;clear B7;have BK7:=A0_ (blk_drewN BK6.out n7)))
      go_meet
      case rel=>exact ⟨rfl,by first|exact BK7|exact BK5|exact BK4,HB⟩
    rw [if_neg cb] at H;have qb : decide ((l0_1.length : Int) ≤ a1) = false:=decide_eq_false cb;clear cb;by_cases cl : (l2.length : Int) = (l0_0.length : Int);rotate_left
    · rw [if_neg cl] at H
      injection H with H
      subst H;have ql1 : ((l2.length : Int) == (l0_0.length : Int)) = false:=beq_eq_false_iff_ne.mpr cl;have ql2 : ((l2.length : Int) != (l0_0.length : Int)) = true:=bne_iff_ne.mpr cl;have ql3 : (l2.length == l0_0.length) = false:=beq_eq_false_iff_ne.mpr (fun e=>cl (congrArg Int.ofNat e));have ql4 : (l2.length != l0_0.length) = true:=bne_iff_ne.mpr (fun e=>cl (congrArg Int.ofNat e));clear cl
      go_wp2_with (first
        | (go_at_call 27;with_reducible refine (D1.out _ HB.out BK3.out).mono ?_;rintro e w4 ⟨rfl,K4,B4⟩;clear HB;have HB:=B4;have BK4:=K4;obtain ⟨hz4_0,hz4_1,hz4_2⟩:=AGG _ K4;clear B4 K4)
        | (go_at_call 47;with_reducible refine (D2.out _ hu.out _ HB.out).mono ?_;rintro e w5 ⟨rfl,hd5⟩;obtain ⟨⟨n5,rfl⟩⟩:=hd5;have B5:=A0_ (pN_ HB.out n5);clear HB;have HB:=B5;clear B5;have BK5:=A0_ (blk_drewN BK4.out n5);obtain ⟨hz5_0,hz5_1,hz5_2⟩:=AGG _ BK5)
        | (go_at_call 46;with_reducible refine (D3.out _ hn.out _ HB.out BK5.out).mono ?_;rintro e w6 ⟨An,cn,rfl,N6,K6,B6⟩;clear HB;have HB:=B6;have BK6:=K6;have HN6:=N6;clear B6 K6 N6)
        | (go_at_call 47;with_reducible refine (D4.out _ _ hv.out _ _ _ HB.out HN6.out).mono ?_;rintro e w7 ⟨rfl,hd7⟩;obtain ⟨⟨n7,rfl⟩⟩:=hd7;have B7:=A0_ (pN_ HB.out n7);clear HB;have HB:=B7;clear B7;have BK7:=A0_ (blk_drewN BK6.out n7)))
      go_meet
      case rel=>exact ⟨rfl,by first|exact BK7|exact BK5|exact BK4,HB⟩
    rw [if_pos cl] at H;have ql1 : ((l2.length : Int) == (l0_0.length : Int)) = true:=beq_iff_eq.mpr cl;have ql2 : ((l2.length : Int) != (l0_0.length : Int)) = false:=bne_eq_false_iff_eq.mpr cl;have ql3 : (l2.length == l0_0.length) = true:=beq_iff_eq.mpr (Int.ofNat.inj cl);have ql4 : (l2.length != l0_0.length) = false:=bne_eq_false_iff_eq.mpr (Int.ofNat.inj cl);clear cl;obtain ⟨u,hu0,H⟩:=bm_ H;have hu:=A0_ hu0;clear hu0;by_cases cu : u = true;rotate_left
    · rw [if_neg cu] at H
      have cu2 : u = false:=by simpa using cu
      subst cu2;clear cu;injection H with H
      subst H
      go_wp2_with (first
        | (go_at_call 27;with_reducible refine (D1.out _ HB.out BK3.out).mono ?_;rintro e w4 ⟨rfl,K4,B4⟩;clear HB;have HB:=B4;have BK4:=K4;obtain ⟨hz4_0,hz4_1,hz4_2⟩:=AGG _ K4;clear B4 K4)
        | (go_at_call 47;with_reducible refine (D2.out _ hu.out _ HB.out).mono ?_;rintro e w5 ⟨rfl,hd5⟩;obtain ⟨⟨n5,rfl⟩⟩:=hd5;have B5:=A0_ (pN_ HB.out n5);clear HB;have HB:=B5;clear B5;have BK5:=A0_ (blk_drewN BK4.out n5);obtain ⟨hz5_0,hz5_1,hz5_2⟩:=AGG _ BK5)
        | (go_at_call 46;with_reducible refine (D3.out _ hn.out _ HB.out BK5.out).mono ?_;rintro e w6 ⟨An,cn,rfl,N6,K6,B6⟩;clear HB;have HB:=B6;have BK6:=K6;have HN6:=N6;clear B6 K6 N6)
        | (go_at_call 47;with_reducible refine (D4.out _ _ hv.out _ _ _ HB.out HN6.out).mono ?_;rintro e w7 ⟨rfl,hd7⟩;obtain ⟨⟨n7,rfl⟩⟩:=hd7;have B7:=A0_ (pN_ HB.out n7);clear HB;have HB:=B7;clear B7;have BK7:=A0_ (blk_drewN BK6.out n7)))
      go_meet
      case rel=>exact ⟨rfl,by first|exact BK7|exact BK5|exact BK4,HB⟩
    rw [if_pos cu] at H;subst cu;obtain ⟨n,hn0,H⟩:=bm_ H;have hn:=A0_ hn0;clear hn0;obtain ⟨v,hv0,H⟩:=bm_ H;have hv:=A0_ hv0;clear hv0;injection H with H
    subst H
    go_wp2_with (first
      | (go_at_call 27;with_reducible refine (D1.out _ HB.out BK3.out).mono ?_;rintro e w4 ⟨rfl,K4,B4⟩;clear HB;have HB:=B4;have BK4:=K4;obtain ⟨hz4_0,hz4_1,hz4_2⟩:=AGG _ K4;clear B4 K4)
      | (go_at_call 47;with_reducible refine (D2.out _ hu.out _ HB.out).mono ?_;rintro e w5 ⟨rfl,hd5⟩;obtain ⟨⟨n5,rfl⟩⟩:=hd5;have B5:=A0_ (pN_ HB.out n5);clear HB;have HB:=B5;clear B5;have BK5:=A0_ (blk_drewN BK4.out n5);obtain ⟨hz5_0,hz5_1,hz5_2⟩:=AGG _ BK5)
      | (go_at_call 46;with_reducible refine (D3.out _ hn.out _ HB.out BK5.out).mono ?_;rintro e w6 ⟨An,cn,rfl,N6,K6,B6⟩;clear HB;have HB:=B6;have BK6:=K6;have HN6:=N6;clear B6 K6 N6)
      | (go_at_call 47;with_reducible refine (D4.out _ _ hv.out _ _ _ HB.out HN6.out).mono ?_;rintro e w7 ⟨rfl,hd7⟩;obtain ⟨⟨n7,rfl⟩⟩:=hd7;have B7:=A0_ (pN_ HB.out n7);clear HB;have HB:=B7;clear B7;have BK7:=A0_ (blk_drewN BK6.out n7)))
    go_meet
    case rel=>exact ⟨rfl,by first|exact BK7|exact BK5|exact BK4,HB⟩
  case rest =>
    obtain ⟨rfl,BKc,HB⟩:=hcut;have H:=HRest.out;clear HRest HBad;have AGG : ∀ W' : World,Aside0 (W'.heap[g3]? = some (.cells #[.slice A0_0 l0_0.length c0_0,.slice A0_1 l0_1.length c0_1,.slice A0_2 l0_2.length c0_2] 60 (0,0))) → W'.cell? ⟨g3,0,none⟩ = some (.slice A0_0 l0_0.length c0_0) ∧ W'.cell? ⟨g3,1,none⟩ = some (.slice A0_1 l0_1.length c0_1) ∧ W'.cell? ⟨g3,2,none⟩ = some (.slice A0_2 l0_2.length c0_2):=fun W' h=>claim_Grants.box3 h.out
    by_cases hbt : b = true
    · subst hbt
      rw [if_pos rfl] at H;injection H with H
      subst H;go_wp2;go_ret;exact ⟨rfl,HB.out⟩
    have hbf : b = false:=by simpa using hbt
    subst hbf;clear hbt;rw [if_neg (by decide)] at H;by_cases h0 : 0 ≤ a1;rotate_left
    · rw [if_neg h0] at H;cases H
    rw [if_pos h0] at H;by_cases h1 : a1 < (l0_1.length : Int);rotate_left
    · rw [if_neg h1] at H;cases H
    rw [if_pos h1] at H;by_cases h2 : l2.length ≤ l0_0.length;rotate_left
    · rw [if_neg h2] at H;cases H
    rw [if_pos h2] at H;by_cases h3 : l2.length ≤ (rd_L1 l0_1 a1).length;rotate_left
    · rw [if_neg h3] at H;cases H
    rw [if_pos h3] at H;obtain ⟨x1,e1,H⟩:=bm_ H;rw [claim_Grants.clone48 e1] at e1;obtain ⟨x2,e2,H⟩:=bm_ H;rw [claim_Grants.clone49 e2] at e2;obtain ⟨x3,e3,H⟩:=bm_ H;rw [claim_Grants.clone48 e3] at e3;have HGo:=A0_ H;have HE:=A0_ (And.intro e1 (And.intro e2 e3));have HN:=A0_ (And.intro h0 (And.intro h1 (And.intro h2 h3)));clear H e1 e2 e3 h0 h1 h2 h3;have KEEP : ∀ W' : World,W'.heap[g3]? = some (.cells #[.slice A0_0 l0_0.length c0_0,.slice A0_1 l0_1.length c0_1,.slice A0_2 l0_2.length c0_2] 60 (0,0)) → Below w.heap.size w W' → W'.cell? ⟨g3,0,none⟩ = some (.slice A0_0 l0_0.length c0_0) ∧ W'.cell? ⟨g3,1,none⟩ = some (.slice A0_1 l0_1.length c0_1) ∧ W'.cell? ⟨g3,2,none⟩ = some (.slice A0_2 l0_2.length c0_2) ∧ W'.heap[g3]? = some (.cells #[.slice A0_0 l0_0.length c0_0,.slice A0_1 l0_1.length c0_1,.slice A0_2 l0_2.length c0_2] 60 (0,0)) ∧ Below w.heap.size w W':=fun W' hk hb=>⟨(claim_Grants.box3 hk).1,(claim_Grants.box3 hk).2.1,(claim_Grants.box3 hk).2.2,hk,hb⟩
    have KA : ∀ (W' : World) (o : Obj),W'.cell? ⟨g3,0,none⟩ = some (.slice A0_0 l0_0.length c0_0) ∧ W'.cell? ⟨g3,1,none⟩ = some (.slice A0_1 l0_1.length c0_1) ∧ W'.cell? ⟨g3,2,none⟩ = some (.slice A0_2 l0_2.length c0_2) ∧ W'.heap[g3]? = some (.cells #[.slice A0_0 l0_0.length c0_0,.slice A0_1 l0_1.length c0_1,.slice A0_2 l0_2.length c0_2] 60 (0,0)) ∧ Below w.heap.size w W' → (W'.alloc o).cell? ⟨g3,0,none⟩ = some (.slice A0_0 l0_0.length c0_0) ∧ (W'.alloc o).cell? ⟨g3,1,none⟩ = some (.slice A0_1 l0_1.length c0_1) ∧ (W'.alloc o).cell? ⟨g3,2,none⟩ = some (.slice A0_2 l0_2.length c0_2) ∧ (W'.alloc o).heap[g3]? = some (.cells #[.slice A0_0 l0_0.length c0_0,.slice A0_1 l0_1.length c0_1,.slice A0_2 l0_2.length c0_2] 60 (0,0)) ∧ Below w.heap.size w (W'.alloc o):=fun W' o h=>KEEP _ (blk_alloc h.2.2.2.1 o) (ba_ h.2.2.2.2 o)
    have KD : ∀ (W' : World),W'.cell? ⟨g3,0,none⟩ = some (.slice A0_0 l0_0.length c0_0) ∧ W'.cell? ⟨g3,1,none⟩ = some (.slice A0_1 l0_1.length c0_1) ∧ W'.cell? ⟨g3,2,none⟩ = some (.slice A0_2 l0_2.length c0_2) ∧ W'.heap[g3]? = some (.cells #[.slice A0_0 l0_0.length c0_0,.slice A0_1 l0_1.length c0_1,.slice A0_2 l0_2.length c0_2] 60 (0,0)) ∧ Below w.heap.size w W' → W'.drew.cell? ⟨g3,0,none⟩ = some (.slice A0_0 l0_0.length c0_0) ∧ W'.drew.cell? ⟨g3,1,none⟩ = some (.slice A0_1 l0_1.length c0_1) ∧ W'.drew.cell? ⟨g3,2,none⟩ = some (.slice A0_2 l0_2.length c0_2) ∧ W'.drew.heap[g3]? = some (.cells #[.slice A0_0 l0_0.length c0_0,.slice A0_1 l0_1.length c0_1,.slice A0_2 l0_2.length c0_2] 60 (0,0)) ∧ Below w.heap.size w W'.drew:=fun W' h=>KEEP _ (blk_drew h.2.2.2.1) (b1_ h.2.2.2.2)
    have KS : ∀ (W' : World) (g i : Nat) (v : Value),g ≠ g3 → w.heap.size ≤ g → W'.cell? ⟨g3,0,none⟩ = some (.slice A0_0 l0_0.length c0_0) ∧ W'.cell? ⟨g3,1,none⟩ = some (.slice A0_1 l0_1.length c0_1) ∧ W'.cell? ⟨g3,2,none⟩ = some (.slice A0_2 l0_2.length c0_2) ∧ W'.heap[g3]? = some (.cells #[.slice A0_0 l0_0.length c0_0,.slice A0_1 l0_1.length c0_1,.slice A0_2 l0_2.length c0_2] 60 (0,0)) ∧ Below w.heap.size w W' → (W'.setCell ⟨g,i,none⟩ v).cell? ⟨g3,0,none⟩ = some (.slice A0_0 l0_0.length c0_0) ∧ (W'.setCell ⟨g,i,none⟩ v).cell? ⟨g3,1,none⟩ = some (.slice A0_1 l0_1.length c0_1) ∧ (W'.setCell ⟨g,i,none⟩ v).cell? ⟨g3,2,none⟩ = some (.slice A0_2 l0_2.length c0_2) ∧ (W'.setCell ⟨g,i,none⟩ v).heap[g3]? = some (.cells #[.slice A0_0 l0_0.length c0_0,.slice A0_1 l0_1.length c0_1,.slice A0_2 l0_2.length c0_2] 60 (0,0)) ∧ Below w.heap.size w (W'.setCell ⟨g,i,none⟩ v):=fun W' g i v hg hs h=>KEEP _ ((Below.heap_setCell W' ⟨g,i,none⟩ v g3 (Ne.symm hg)).trans h.2.2.2.1) (bs_ h.2.2.2.2 hs)
    have C48 : ∀ W' : World,W'.cell? ⟨g3,0,none⟩ = some (.slice A0_0 l0_0.length c0_0) ∧ W'.cell? ⟨g3,1,none⟩ = some (.slice A0_1 l0_1.length c0_1) ∧ W'.cell? ⟨g3,2,none⟩ = some (.slice A0_2 l0_2.length c0_2) ∧ W'.heap[g3]? = some (.cells #[.slice A0_0 l0_0.length c0_0,.slice A0_1 l0_1.length c0_1,.slice A0_2 l0_2.length c0_2] 60 (0,0)) ∧ Below w.heap.size w W' → Calls Try.prog 48 #[.slice A0_0 l0_0.length c0_0] W' fun e W2=>∃ AF cF,e = .returned (.slice AF l0_0.length cF) ∧ Aside0 (Kd.R (Kd.int .i64) 3 W2 W'.heap.size (fun _=>True) (.slice AF l0_0.length cF) l0_0) ∧ Aside0 (W2.cell? ⟨g3,0,none⟩ = some (.slice A0_0 l0_0.length c0_0) ∧ W2.cell? ⟨g3,1,none⟩ = some (.slice A0_1 l0_1.length c0_1) ∧ W2.cell? ⟨g3,2,none⟩ = some (.slice A0_2 l0_2.length c0_2) ∧ W2.heap[g3]? = some (.cells #[.slice A0_0 l0_0.length c0_0,.slice A0_1 l0_1.length c0_1,.slice A0_2 l0_2.length c0_2] 60 (0,0)) ∧ Below w.heap.size w W2) ∧ Aside0 (Below W'.heap.size W' W2):=fun W' h=>(slices_Clone_int_int_48.calls _ _ l0_0 l0_0 W' (Kd.C_below HR0_0.out h.2.2.2.2) HC.out.1 HE.out.1).mono fun e W2 ⟨v0,he,hR,h2⟩=>by
      obtain ⟨AF,cF,rfl⟩:=Kd.R_slice hR;exact ⟨AF,cF,he,⟨hR⟩,⟨KEEP _ (blk_below h.2.2.2.1 h2) (below_step h.2.2.2.2 h2)⟩,⟨h2⟩⟩
    have C49 : ∀ W' : World,W'.cell? ⟨g3,0,none⟩ = some (.slice A0_0 l0_0.length c0_0) ∧ W'.cell? ⟨g3,1,none⟩ = some (.slice A0_1 l0_1.length c0_1) ∧ W'.cell? ⟨g3,2,none⟩ = some (.slice A0_2 l0_2.length c0_2) ∧ W'.heap[g3]? = some (.cells #[.slice A0_0 l0_0.length c0_0,.slice A0_1 l0_1.length c0_1,.slice A0_2 l0_2.length c0_2] 60 (0,0)) ∧ Below w.heap.size w W' → Calls Try.prog 49 #[.slice A0_1 l0_1.length c0_1] W' fun e W2=>∃ AH cH,e = .returned (.slice AH l0_1.length cH) ∧ Aside0 (Kd.N (Kd.slice 3 (Kd.int .i64)) 23 W2 W'.heap.size (fun k_=>k_ < w.heap.size ∨ W'.heap.size ≤ k_) (.slice AH l0_1.length cH) l0_1) ∧ Aside0 (W2.cell? ⟨g3,0,none⟩ = some (.slice A0_0 l0_0.length c0_0) ∧ W2.cell? ⟨g3,1,none⟩ = some (.slice A0_1 l0_1.length c0_1) ∧ W2.cell? ⟨g3,2,none⟩ = some (.slice A0_2 l0_2.length c0_2) ∧ W2.heap[g3]? = some (.cells #[.slice A0_0 l0_0.length c0_0,.slice A0_1 l0_1.length c0_1,.slice A0_2 l0_2.length c0_2] 60 (0,0)) ∧ Below w.heap.size w W2) ∧ Aside0 (Below W'.heap.size W' W2):=fun W' h=>(slices_Clone_int_int_49.calls (fun k=>k < w.heap.size) _ _ l0_1 l0_1 W' (Kd.V_mk HC.out.2.1 (Kd.F_step (Kd.C_F (Kd.heap_slice 3 (Kd.heap_int .i64)) HR0_1.out) (fun k hk _=>h.2.2.2.2.block k hk))) HE.out.2.1).mono fun e W2 ⟨v0,he,hR,h2⟩=>by
      obtain ⟨AH,cH,rfl⟩:=Kd.N_slice hR;exact ⟨AH,cH,he,⟨hR⟩,⟨KEEP _ (blk_below h.2.2.2.1 h2) (below_step h.2.2.2.2 h2)⟩,⟨h2⟩⟩
    have SC:=KEEP _ BKc.out HB.out;have D48:=A0_ C48;have D49:=A0_ C49;have DK:=A0_ (And.intro KA (And.intro KD KS));clear C48 C49 KA KD KS KEEP;go_wp2
    go_cut [7] (fun v7 wc2=>∃ g7 AF cF AH cH,v7 = .pointer (some ⟨g7,0,none⟩) ∧ Aside0 (claim_Grants.St w wc2 g3 g7 #[.slice A0_0 l0_0.length c0_0,.slice A0_1 l0_1.length c0_1,.slice A0_2 l0_2.length c0_2] AF cF AH cH (.slice A0_2 l0_2.length c0_2) l0_0 l0_1))
    case first =>
      go_region_held3 (fun W'=>W'.cell? ⟨g3,0,none⟩ = some (.slice A0_0 l0_0.length c0_0) ∧ W'.cell? ⟨g3,1,none⟩ = some (.slice A0_1 l0_1.length c0_1) ∧ W'.cell? ⟨g3,2,none⟩ = some (.slice A0_2 l0_2.length c0_2) ∧ W'.heap[g3]? = some (.cells #[.slice A0_0 l0_0.length c0_0,.slice A0_1 l0_1.length c0_1,.slice A0_2 l0_2.length c0_2] 60 (0,0)) ∧ Below w.heap.size w W') (with_reducible first|exact SC|exact DK.out.2.1 _ SC|exact S5.out|exact S4.out|exact DK.out.1 _ _ S5.out|exact DK.out.1 _ _ S4.out|exact DK.out.1 _ _ SC|exact DK.out.1 _ _ (DK.out.2.1 _ SC)|exact DK.out.2.1 _ (DK.out.1 _ _ SC)|(refine DK.out.2.2 _ _ _ _ ?_ ?_ (DK.out.2.2 _ _ _ _ ?_ ?_ (DK.out.2.2 _ _ _ _ ?_ ?_ S5.out)) <;> (have hq1:=B4.out.size;have hq2:=blk_lt BKc.out;have hq3:=below_size HB.out;simp at hq1;omega))) (first
       |(go_at_call 48;with_reducible refine (D48.out _ (by assumption)).mono ?_;rintro e w4 ⟨AF,cF,rfl,RF,S4,B4⟩;(first|have z4:=A0_ (blk_below (blk_drew (blk_new _ _)) B4.out)|have z4:=A0_ (blk_below (blk_new _ _) B4.out)|skip))
       |(go_at_call 49;with_reducible refine (D49.out _ (by assumption)).mono ?_;rintro e w5 ⟨AH,cH,rfl,NH,S5,B5⟩;(first|(have z5:=A0_ (blk_below z4.out B5.out))|(have z5:=A0_ (blk_below (blk_new _ _) B5.out))|skip);(try (obtain ⟨y0,y1,y2⟩:=claim_Grants.box3 z5.out;have yf0:=blk_frozen z5.out 0;have yf1:=blk_frozen z5.out 1;have yf2:=blk_frozen z5.out 2))))
      · go_step
        first|go_meet|(go_step;go_meet)|(go_step;(repeat apply Exists.intro);refine ⟨?rel,rfl⟩)
        case rel=>exact ⟨_,AF,cF,AH,cH,rfl,⟨claim_Grants.St_alloc (Kd.R_below RF.out B5.out) (by have q3:=below_size HB.out;simp;omega) NH.out (by have q1:=B4.out.size;have q3:=below_size HB.out;simp at q1;omega) (fun k hk _ e=>by have q0:=Kd.R_lt RF.out k e.symm;have qb:=Kd.R_base RF.out k e.symm;have q1:=B4.out.size;have q3:=below_size HB.out;simp at q1 qb;rcases hk with hk | hk <;> omega) S5.out.2.2.2.1 S5.out.2.2.2.2⟩⟩
      · go_step
        first|go_meet|(go_step;go_meet)|(go_step;(repeat apply Exists.intro);refine ⟨?rel,rfl⟩)
        case rel=>exact ⟨_,AF,cF,AH,cH,rfl,⟨claim_Grants.St_store (Kd.R_below (Kd.R_alloc RF.out _) B5.out) (by have q3:=below_size HB.out;simp;omega) NH.out (by have q1:=B4.out.size;have q3:=below_size HB.out;simp at q1 ⊢;omega) (fun k hk hk2=>⟨by have q1:=B4.out.size;have q3:=below_size HB.out;simp at q1 hk;rcases hk with hk | hk <;> omega,fun e=>by have q0:=Kd.R_lt RF.out k e.symm;have qb:=Kd.R_base RF.out k e.symm;have q1:=B4.out.size;have q3:=below_size HB.out;simp at q1 qb hk;rcases hk with hk | hk <;> omega⟩) z5.out (by have q1:=B4.out.size;have q2:=blk_lt BKc.out;simp at q1;omega) (by have q1:=B4.out.size;have q3:=below_size HB.out;simp at q1;omega) S5.out.2.2.2.1 S5.out.2.2.2.2⟩⟩
      · go_step
        first|go_meet|(go_step;go_meet)|(go_step;(repeat apply Exists.intro);refine ⟨?rel,rfl⟩)
        case rel=>exact ⟨_,AF,cF,AH,cH,rfl,⟨claim_Grants.St_store (Kd.R_below RF.out B5.out) (by have q3:=below_size HB.out;simp;omega) NH.out (by have q1:=B4.out.size;have q3:=below_size HB.out;simp at q1 ⊢;omega) (fun k hk hk2=>⟨by have q1:=B4.out.size;have q3:=below_size HB.out;simp at q1 hk;rcases hk with hk | hk <;> omega,fun e=>by have q0:=Kd.R_lt RF.out k e.symm;have qb:=Kd.R_base RF.out k e.symm;have q1:=B4.out.size;have q3:=below_size HB.out;simp at q1 qb hk;rcases hk with hk | hk <;> omega⟩) z5.out (by have q1:=B4.out.size;have q2:=blk_lt BKc.out;simp at q1;omega) (by have q1:=B4.out.size;have q3:=below_size HB.out;simp at q1 ⊢;omega) S5.out.2.2.2.1 S5.out.2.2.2.2⟩⟩
    case rest =>
      obtain ⟨g7,AF,cF,AH,cH,rfl,ST⟩:=hcut;clear D48 D49 DK SC BKc HB;obtain ⟨ad,Aw,cw,eAd,hxw,hlw,hcw⟩:=at_L1 HR0_1.out a1 HN.out.1 HN.out.2.1;subst eAd;obtain ⟨gH,cH',eH,hgH0,hgH1,cellsH,hgH2⟩:=Kd.N_form ST.out.2.1 (by have:=HN.out.2.1;have:=HN.out.1;omega);injection eH with eH1 eH2 eH3
      subst eH1;subst eH3;clear eH2;have hgH7 : gH ≠ g7:=fun e=>by
        rw [e] at hgH2;rw [ST.out.2.2.1] at hgH2;injection hgH2 with hgH2
        injection hgH2 with _ q
        exact absurd q (by decide)
      have hgH3 : gH ≠ g3:=fun e=>by
        rw [e] at hgH2;rw [ST.out.2.2.2.2.2.1] at hgH2;injection hgH2 with hgH2
        injection hgH2 with _ q
        exact absurd q (by decide)
      have HW:=A0_ (And.intro hlw hcw);have HG:=A0_ (And.intro hgH0 (And.intro hgH1 (And.intro hgH7 hgH3)));have hxw2:=A0_ hxw;clear hlw hcw hgH0 hgH1 hgH2 hgH7 hgH3 hxw cellsH;have KEEP : ∀ W' : World,W'.heap[g3]? = some (.cells #[.slice A0_0 l0_0.length c0_0,.slice (some ad) l0_1.length c0_1,.slice A0_2 l0_2.length c0_2] 60 (0,0)) → W'.heap[g7]? = some (.cells #[.slice AF l0_0.length cF,.slice (some ⟨gH,0,none⟩) l0_1.length cH,.slice A0_2 l0_2.length c0_2] 60 (0,0)) → Below w.heap.size w W' → W'.cell? ⟨g3,1,none⟩ = some (.slice (some ad) l0_1.length c0_1) ∧ W'.cell? ⟨g7,1,none⟩ = some (.slice (some ⟨gH,0,none⟩) l0_1.length cH) ∧ W'.cell? (ad.add a1.toNat) = some (.slice Aw (rd_L1 l0_1 a1).length cw) ∧ W'.heap[g3]? = some (.cells #[.slice A0_0 l0_0.length c0_0,.slice (some ad) l0_1.length c0_1,.slice A0_2 l0_2.length c0_2] 60 (0,0)) ∧ W'.heap[g7]? = some (.cells #[.slice AF l0_0.length cF,.slice (some ⟨gH,0,none⟩) l0_1.length cH,.slice A0_2 l0_2.length c0_2] 60 (0,0)) ∧ Below w.heap.size w W':=fun W' hk hk7 hb=>⟨(claim_Grants.box3 hk).2.1,(claim_Grants.box3 hk7).2.1,hb.cell (bl_ w _ hxw2.out) |>.trans hxw2.out,hk,hk7,hb⟩
      have KA : ∀ (W' : World),W'.cell? ⟨g3,1,none⟩ = some (.slice (some ad) l0_1.length c0_1) ∧ W'.cell? ⟨g7,1,none⟩ = some (.slice (some ⟨gH,0,none⟩) l0_1.length cH) ∧ W'.cell? (ad.add a1.toNat) = some (.slice Aw (rd_L1 l0_1 a1).length cw) ∧ W'.heap[g3]? = some (.cells #[.slice A0_0 l0_0.length c0_0,.slice (some ad) l0_1.length c0_1,.slice A0_2 l0_2.length c0_2] 60 (0,0)) ∧ W'.heap[g7]? = some (.cells #[.slice AF l0_0.length cF,.slice (some ⟨gH,0,none⟩) l0_1.length cH,.slice A0_2 l0_2.length c0_2] 60 (0,0)) ∧ Below w.heap.size w W' → W'.drew.cell? ⟨g3,1,none⟩ = some (.slice (some ad) l0_1.length c0_1) ∧ W'.drew.cell? ⟨g7,1,none⟩ = some (.slice (some ⟨gH,0,none⟩) l0_1.length cH) ∧ W'.drew.cell? (ad.add a1.toNat) = some (.slice Aw (rd_L1 l0_1 a1).length cw) ∧ W'.drew.heap[g3]? = some (.cells #[.slice A0_0 l0_0.length c0_0,.slice (some ad) l0_1.length c0_1,.slice A0_2 l0_2.length c0_2] 60 (0,0)) ∧ W'.drew.heap[g7]? = some (.cells #[.slice AF l0_0.length cF,.slice (some ⟨gH,0,none⟩) l0_1.length cH,.slice A0_2 l0_2.length c0_2] 60 (0,0)) ∧ Below w.heap.size w W'.drew:=fun W' h=>KEEP _ (blk_drew h.2.2.2.1) (blk_drew h.2.2.2.2.1) (b1_ h.2.2.2.2.2)
      have KS : ∀ (W' : World) (i : Nat) (v : Value),W'.cell? ⟨g3,1,none⟩ = some (.slice (some ad) l0_1.length c0_1) ∧ W'.cell? ⟨g7,1,none⟩ = some (.slice (some ⟨gH,0,none⟩) l0_1.length cH) ∧ W'.cell? (ad.add a1.toNat) = some (.slice Aw (rd_L1 l0_1 a1).length cw) ∧ W'.heap[g3]? = some (.cells #[.slice A0_0 l0_0.length c0_0,.slice (some ad) l0_1.length c0_1,.slice A0_2 l0_2.length c0_2] 60 (0,0)) ∧ W'.heap[g7]? = some (.cells #[.slice AF l0_0.length cF,.slice (some ⟨gH,0,none⟩) l0_1.length cH,.slice A0_2 l0_2.length c0_2] 60 (0,0)) ∧ Below w.heap.size w W' → (W'.setCell ⟨gH,i,none⟩ v).cell? ⟨g3,1,none⟩ = some (.slice (some ad) l0_1.length c0_1) ∧ (W'.setCell ⟨gH,i,none⟩ v).cell? ⟨g7,1,none⟩ = some (.slice (some ⟨gH,0,none⟩) l0_1.length cH) ∧ (W'.setCell ⟨gH,i,none⟩ v).cell? (ad.add a1.toNat) = some (.slice Aw (rd_L1 l0_1 a1).length cw) ∧ (W'.setCell ⟨gH,i,none⟩ v).heap[g3]? = some (.cells #[.slice A0_0 l0_0.length c0_0,.slice (some ad) l0_1.length c0_1,.slice A0_2 l0_2.length c0_2] 60 (0,0)) ∧ (W'.setCell ⟨gH,i,none⟩ v).heap[g7]? = some (.cells #[.slice AF l0_0.length cF,.slice (some ⟨gH,0,none⟩) l0_1.length cH,.slice A0_2 l0_2.length c0_2] 60 (0,0)) ∧ Below w.heap.size w (W'.setCell ⟨gH,i,none⟩ v):=fun W' i v h=>KEEP _ ((Below.heap_setCell W' ⟨gH,i,none⟩ v g3 (Ne.symm HG.out.2.2.2)).trans h.2.2.2.1) ((Below.heap_setCell W' ⟨gH,i,none⟩ v g7 (Ne.symm HG.out.2.2.1)).trans h.2.2.2.2.1) (bs_ h.2.2.2.2.2 HG.out.1)
      have C48 : ∀ W' : World,W'.cell? ⟨g3,1,none⟩ = some (.slice (some ad) l0_1.length c0_1) ∧ W'.cell? ⟨g7,1,none⟩ = some (.slice (some ⟨gH,0,none⟩) l0_1.length cH) ∧ W'.cell? (ad.add a1.toNat) = some (.slice Aw (rd_L1 l0_1 a1).length cw) ∧ W'.heap[g3]? = some (.cells #[.slice A0_0 l0_0.length c0_0,.slice (some ad) l0_1.length c0_1,.slice A0_2 l0_2.length c0_2] 60 (0,0)) ∧ W'.heap[g7]? = some (.cells #[.slice AF l0_0.length cF,.slice (some ⟨gH,0,none⟩) l0_1.length cH,.slice A0_2 l0_2.length c0_2] 60 (0,0)) ∧ Below w.heap.size w W' → Calls Try.prog 48 #[.slice Aw (rd_L1 l0_1 a1).length cw] W' fun e W2=>∃ AB cB,e = .returned (.slice AB (rd_L1 l0_1 a1).length cB) ∧ Aside0 (Kd.R (Kd.int .i64) 3 W2 W'.heap.size (fun _=>True) (.slice AB (rd_L1 l0_1 a1).length cB) (rd_L1 l0_1 a1)) ∧ Aside0 (W2.cell? ⟨g3,1,none⟩ = some (.slice (some ad) l0_1.length c0_1) ∧ W2.cell? ⟨g7,1,none⟩ = some (.slice (some ⟨gH,0,none⟩) l0_1.length cH) ∧ W2.cell? (ad.add a1.toNat) = some (.slice Aw (rd_L1 l0_1 a1).length cw) ∧ W2.heap[g3]? = some (.cells #[.slice A0_0 l0_0.length c0_0,.slice (some ad) l0_1.length c0_1,.slice A0_2 l0_2.length c0_2] 60 (0,0)) ∧ W2.heap[g7]? = some (.cells #[.slice AF l0_0.length cF,.slice (some ⟨gH,0,none⟩) l0_1.length cH,.slice A0_2 l0_2.length c0_2] 60 (0,0)) ∧ Below w.heap.size w W2) ∧ Aside0 (Below W'.heap.size W' W2):=fun W' h=>(slices_Clone_int_int_48.calls _ _ (rd_L1 l0_1 a1) (rd_L1 l0_1 a1) W' (Kd.C_below HW.out.2 h.2.2.2.2.2) HW.out.1 HE.out.2.2).mono fun e W2 ⟨v0,he,hR,h2⟩=>by
        obtain ⟨AB,cB,rfl⟩:=Kd.R_slice hR;exact ⟨AB,cB,he,⟨hR⟩,⟨KEEP _ (blk_below h.2.2.2.1 h2) (blk_below h.2.2.2.2.1 h2) (below_step h.2.2.2.2.2 h2)⟩,⟨h2⟩⟩
      have SC:=KEEP _ ST.out.2.2.2.2.2.1 ST.out.2.2.1 ST.out.2.2.2.2.2.2;have D48:=A0_ C48;have DK:=A0_ (And.intro KA KS);clear C48 KA KS KEEP;have pa:=eq_true HN.out.1;have pb:=eq_true HN.out.2.1;go_wp2
      go_cut [7] (fun v7 wc3=>v7 = .pointer (some ⟨g7,0,none⟩) ∧ ∃ AB cB M0,Aside0 (Kd.R (Kd.int .i64) 3 wc3 w.heap.size (fun _=>True) (.slice AF l0_0.length cF) l0_0) ∧ Aside0 (Kd.R (Kd.int .i64) 3 wc3 M0 (fun k=>M0 ≤ k) (.slice AB (rd_L1 l0_1 a1).length cB) (rd_L1 l0_1 a1)) ∧ Aside0 (claim_Grants.HN wc3 w.heap.size (fun k=>((k ≠ g7 ∧ some k ≠ (Value.slice AF l0_0.length cF).ownBlock) ∧ k < M0) ∧ k ≠ gH) (.slice (some ⟨gH,0,none⟩) l0_1.length cH) l0_1 a1.toNat (.slice AB (rd_L1 l0_1 a1).length cB)) ∧ Aside0 ((∀ k,(Value.slice AF l0_0.length cF).ownBlock = some k → k < M0) ∧ gH < M0 ∧ g7 < M0) ∧ Aside0 (wc3.cell? ⟨g3,1,none⟩ = some (.slice (some ad) l0_1.length c0_1) ∧ wc3.cell? ⟨g7,1,none⟩ = some (.slice (some ⟨gH,0,none⟩) l0_1.length cH) ∧ wc3.cell? (ad.add a1.toNat) = some (.slice Aw (rd_L1 l0_1 a1).length cw) ∧ wc3.heap[g3]? = some (.cells #[.slice A0_0 l0_0.length c0_0,.slice (some ad) l0_1.length c0_1,.slice A0_2 l0_2.length c0_2] 60 (0,0)) ∧ wc3.heap[g7]? = some (.cells #[.slice AF l0_0.length cF,.slice (some ⟨gH,0,none⟩) l0_1.length cH,.slice A0_2 l0_2.length c0_2] 60 (0,0)) ∧ Below w.heap.size w wc3))
      case first =>
        have NB0:=Kd.N_drew (Kd.N_bound ST.out.2.1);have NB : Aside0 (∀ W6 : World,Below wc.drew.heap.size wc.drew W6 → Aside0 (Kd.N (Kd.slice 3 (Kd.int .i64)) 23 W6 w.heap.size (fun k=>(k ≠ g7 ∧ some k ≠ (Value.slice AF l0_0.length cF).ownBlock) ∧ k < wc.heap.size) (.slice (some ⟨gH,0,none⟩) l0_1.length cH) l0_1) ∧ (∃ u,W6.cell? ⟨gH,a1.toNat,none⟩ = some u) ∧ W6.frozen? ⟨gH,a1.toNat,none⟩ = false):=⟨fun W6 h6=>⟨⟨Kd.N_below NB0 h6⟩,claim_Grants.N_cell (Kd.N_below NB0 h6) HN.out.1 HN.out.2.1⟩⟩;clear NB0
        go_region_held3 (fun W'=>W'.cell? ⟨g3,1,none⟩ = some (.slice (some ad) l0_1.length c0_1) ∧ W'.cell? ⟨g7,1,none⟩ = some (.slice (some ⟨gH,0,none⟩) l0_1.length cH) ∧ W'.cell? (ad.add a1.toNat) = some (.slice Aw (rd_L1 l0_1 a1).length cw) ∧ W'.heap[g3]? = some (.cells #[.slice A0_0 l0_0.length c0_0,.slice (some ad) l0_1.length c0_1,.slice A0_2 l0_2.length c0_2] 60 (0,0)) ∧ W'.heap[g7]? = some (.cells #[.slice AF l0_0.length cF,.slice (some ⟨gH,0,none⟩) l0_1.length cH,.slice A0_2 l0_2.length c0_2] 60 (0,0)) ∧ Below w.heap.size w W') (with_reducible first|exact SC|exact DK.out.1 _ SC|exact S6.out|exact DK.out.2 _ _ _ S6.out) (first
          | (go_at_call 48;with_reducible refine (D48.out _ (by assumption)).mono ?_;rintro e w6 ⟨AB,cB,rfl,RB,S6,B6⟩;obtain ⟨NH6,⟨u6,y0⟩,yf0⟩:=NB.out _ B6.out))
        go_step
        first|go_meet|(go_step;go_meet)|(go_step;(repeat apply Exists.intro);refine ⟨?rel,rfl⟩)
        case rel =>
          obtain ⟨cells6,hb6⟩:=Kd.N_typed NH6.out gH rfl;refine ⟨rfl,AB,cB,_,⟨Kd.R_set (Kd.R_below (Kd.R_drew ST.out.1) B6.out) hb6 (by decide) _ _⟩,⟨Kd.R_mono (Kd.R_bound (Kd.R_set RB.out hb6 (by decide) _ _)) (fun k hk=>hk.2.1)⟩,⟨(claim_Grants.HN_make NH6.out HN.out.1 HN.out.2.1).1⟩,⟨fun k hk=>Kd.R_lt ST.out.1 k hk,HG.out.2.1,blk_lt ST.out.2.2.1⟩,⟨DK.out.2 _ _ _ S6.out⟩⟩
      case rest =>
        obtain ⟨rfl,AB,cB,M0,RF0,RB0,HH0,HM,SC3⟩:=hcut;have HGH:=A0_ (And.intro HG.out.1 (And.intro HG.out.2.2.1 HG.out.2.2.2));clear D48 DK ST SC HG hxw2;obtain ⟨hq1,hq2,hq3,BK30,BK70,HB0⟩:=SC3.out;have BK3:=A0_ BK30;have BK7:=A0_ BK70;have HB:=A0_ HB0;clear hq1 hq2 hq3 BK30 BK70 HB0 SC3;go_wp2
        go_loopg [70] l2.length (fun d v70 w'=>∃ (i : Nat) (Fr Hr : List Int),d + i = l2.length ∧ v70 = .int .i64 (i : Int) ∧ Aside0 (claim_Grants.g (l2.drop i) i Fr Hr = claim_Grants.g l2 0 l0_0 (rd_L1 l0_1 a1)) ∧ Aside0 (Fr.length = l0_0.length ∧ Hr.length = (rd_L1 l0_1 a1).length) ∧ Aside0 (Kd.R (Kd.int .i64) 3 w' w.heap.size (fun _=>True) (.slice AF l0_0.length cF) Fr) ∧ Aside0 (Kd.R (Kd.int .i64) 3 w' M0 (fun k=>M0 ≤ k) (.slice AB (rd_L1 l0_1 a1).length cB) Hr) ∧ Aside0 (claim_Grants.HN w' w.heap.size (fun k=>((k ≠ g7 ∧ some k ≠ (Value.slice AF l0_0.length cF).ownBlock) ∧ k < M0) ∧ k ≠ gH) (.slice (some ⟨gH,0,none⟩) l0_1.length cH) l0_1 a1.toNat (.slice AB (rd_L1 l0_1 a1).length cB)) ∧ Aside0 (w'.heap[g3]? = some (.cells #[.slice A0_0 l0_0.length c0_0,.slice (some ad) l0_1.length c0_1,.slice A0_2 l0_2.length c0_2] 60 (0,0))) ∧ Aside0 (w'.heap[g7]? = some (.cells #[.slice AF l0_0.length cF,.slice (some ⟨gH,0,none⟩) l0_1.length cH,.slice A0_2 l0_2.length c0_2] 60 (0,0))) ∧ Aside0 (Below w.heap.size w w'))
        case atStart=>exact ⟨0,l0_0,rd_L1 l0_1 a1,by omega,by simp,⟨by simp⟩,⟨rfl,rfl⟩,RF0,RB0,HH0,BK3,BK7,HB⟩
        case round =>
          clear RF0 RB0 HH0 BK3 BK7 HB;obtain ⟨i,Fr,Hr,hi,rfl,HG1,HL,RF,RB,HH,BK3,BK7,HB⟩:=hrel
          rcases gk with _ | d
          · have hd1 : decide ((i : Int) < (l2.length : Int)) = false:=decide_eq_false (by omega)
            have hd2 : decide (i < l2.length) = false:=decide_eq_false (by omega);have E:=HG1.out;rw [List.drop_eq_nil_of_le (by omega)] at E;simp only [claim_Grants.g] at E;have Hx:=HGo.out;rw [← E] at Hx;simp only [claim_Grants.rest] at Hx;obtain ⟨⟨o1,o2⟩,ho,hr⟩:=bm_ Hx;injection hr with hr
            subst hr;have hRF:=Kd.R_reads' RF.out
            have hHC:=claim_Grants.HN_C HH.out (fun k hk e=>hk.2 (by simpa [Value.ownBlock] using e)) RB.out (fun k hk e=>by
              have e2 : k = gH:=by simpa [Value.ownBlock] using e
              have:=HM.out.2.1
              omega)
            have C44:=claim_order.calls k AF cF Fr (some ⟨gH,0,none⟩) cH (l0_1.set a1.toNat Hr) A0_2 c0_2 l0_2 o1 o2 wr hRF.2.2 (by have:=hRF.2.1;have:=hRF.1;omega) hHC.2.2 (by have:=hHC.2.1;have:=hHC.1;omega) (Kd.C_below HR0_2.out HB.out) HC.out.2.2.1 ho;rw [← hRF.1,← hHC.1] at C44;have D44:=A0_ C44;clear C44 hRF hHC ho Hx E;obtain ⟨hz7_0,hz7_1,hz7_2⟩:=claim_Grants.box3 BK7.out;have hl : i = l2.length:=by omega
            clear hi;go_wp2_with (first|(go_at_call 44;with_reducible refine D44.out.mono ?_;rintro e w9 ⟨v9,rfl,hR9,hB9⟩;have HB9:=A0_ (below_step HB.out hB9);clear hR9 hB9));go_ret;exact ⟨rfl,HB9.out⟩
          · have hlt : i < l2.length:=by omega
            have hd1 : decide ((i : Int) < (l2.length : Int)) = true:=decide_eq_true (by omega);have hd2 : decide (i < l2.length) = true:=decide_eq_true hlt;obtain ⟨G1,G2⟩:=claim_Grants.g_step hlt HG1.out;obtain ⟨ad2,e2,hx2⟩:=Kd.at_int HR2.out (i : Int) (by omega) (by omega);subst e2;replace hx2:=(HB.out.cell (bl_ w _ hx2)).trans hx2;simp only [Int.toNat_natCast] at hx2;have qa : ((0 : Int) ≤ (i : Int)) = True:=eq_true (by omega);have qb : ((i : Int) < (l2.length : Int)) = True:=eq_true (by omega);have qc : (i < l2.length) = True:=eq_true hlt;by_cases hn : rd l2 (i : Int) < 0
            · have hdn : decide (rd l2 (i : Int) < 0) = true:=decide_eq_true hn
              have Hx:=HGo.out;rw [G1 hn] at Hx;simp only [claim_Grants.rest] at Hx;injection Hx with Hx
              subst Hx;clear G1 G2 hn;go_wp2;go_ret;exact ⟨rfl,HB.out⟩
            have hdn : decide (rd l2 (i : Int) < 0) = false:=decide_eq_false hn;have HG2:=A0_ (G2 hn);clear G1 G2 hn;have hF0 : i < l0_0.length:=Nat.lt_of_lt_of_le hlt HN.out.2.2.1;have hH0 : i < (rd_L1 l0_1 a1).length:=Nat.lt_of_lt_of_le hlt HN.out.2.2.2;obtain ⟨gF,cF',eF,gF0,gF1,cellsF,gF2⟩:=Kd.R_form RF.out (by have:=HL.out.1;omega);injection eF with eF1 eF2 eF3
            subst eF1;obtain ⟨gB,cB',eB,gB0,gB1,cellsB,gB2⟩:=Kd.R_form RB.out (by have:=HL.out.2;omega);injection eB with eB1 eB2 eB3
            subst eB1;clear eF2 eF3 eB2 eB3;have hFM : gF < M0:=HM.out.1 gF rfl;have hFH : gF ≠ gH:=fun e=>by
              obtain ⟨c,hc⟩:=claim_Grants.HN_typed HH.out gH rfl;rw [← e,gF2] at hc;injection hc with hc
              injection hc with _ q
              exact absurd q (by decide)
            have hF3 : gF ≠ g3:=blk_ne gF2 BK3.out (by decide);have hF7 : gF ≠ g7:=blk_ne gF2 BK7.out (by decide);have hB3 : gB ≠ g3:=blk_ne gB2 BK3.out (by decide);have hB7 : gB ≠ g7:=blk_ne gB2 BK7.out (by decide);have xF : wr.cell? ⟨gF,i,none⟩ = some (.int .i64 (rd Fr (i : Int))) ∧ wr.frozen? ⟨gF,i,none⟩ = false:=by
              have:=Kd.R_celln 0 RF.out (i : Int) (by omega) (by omega);simp only [Int.toNat_natCast] at this;exact this
            have HPF:=Kd.R_putg RF.out (i : Int) (wrap64 (rd Fr (i : Int) - rd l2 (i : Int)));simp only [Int.toNat_natCast] at HPF
            have K7 : Aside0 (∀ W7,W7 = wr.setCell ⟨gF,i,none⟩ (.int .i64 (wrap64 (rd Fr (i : Int) - rd l2 (i : Int)))) → Aside0 (Kd.R (Kd.int .i64) 3 W7 w.heap.size (fun _=>True) (.slice (some ⟨gF,0,none⟩) l0_0.length cF) (Fr.set i (wrap64 (rd Fr (i : Int) - rd l2 (i : Int))))) ∧ Aside0 (Kd.R (Kd.int .i64) 3 W7 M0 (fun k=>M0 ≤ k) (.slice (some ⟨gB,0,none⟩) (rd_L1 l0_1 a1).length cB) Hr) ∧ Aside0 (claim_Grants.HN W7 w.heap.size (fun k=>((k ≠ g7 ∧ some k ≠ (Value.slice (some ⟨gF,0,none⟩) l0_0.length cF).ownBlock) ∧ k < M0) ∧ k ≠ gH) (.slice (some ⟨gH,0,none⟩) l0_1.length cH) l0_1 a1.toNat (.slice (some ⟨gB,0,none⟩) (rd_L1 l0_1 a1).length cB)) ∧ Aside0 (W7.heap[g3]? = some (.cells #[.slice A0_0 l0_0.length c0_0,.slice (some ad) l0_1.length c0_1,.slice A0_2 l0_2.length c0_2] 60 (0,0))) ∧ Aside0 (W7.heap[g7]? = some (.cells #[.slice (some ⟨gF,0,none⟩) l0_0.length cF,.slice (some ⟨gH,0,none⟩) l0_1.length cH,.slice A0_2 l0_2.length c0_2] 60 (0,0))) ∧ Aside0 (Below w.heap.size w W7)):=⟨fun W7 e7=>by
              subst e7;have ns : ∀ k,k ≠ gF → (wr.setCell ⟨gF,i,none⟩ (.int .i64 (wrap64 (rd Fr (i : Int) - rd l2 (i : Int))))).heap[k]? = wr.heap[k]?:=fun k hk=>Below.heap_setCell wr ⟨gF,i,none⟩ _ k hk
              refine ⟨⟨HPF.1⟩,⟨Kd.R_step RB.out (fun k hk _=>ns k (by omega))⟩,⟨claim_Grants.HN_step HH.out (fun k hk _=>ns k (fun e=>?_))⟩,⟨(ns g3 (Ne.symm hF3)).trans BK3.out⟩,⟨(ns g7 (Ne.symm hF7)).trans BK7.out⟩,⟨bs_ HB.out gF0⟩⟩
              rcases hk with hk | hk
              · exact hk.1.1.2 (by rw [e];rfl)
              · rw [e] at hk
                exact hFH (by simpa [Value.ownBlock] using hk)⟩
            have HPB : Aside0 (∀ W7,Kd.R (Kd.int .i64) 3 W7 M0 (fun k=>M0 ≤ k) (.slice (some ⟨gB,0,none⟩) (rd_L1 l0_1 a1).length cB) Hr → (W7.cell? ⟨gB,i,none⟩ = some (.int .i64 (rd Hr (i : Int))) ∧ W7.frozen? ⟨gB,i,none⟩ = false) ∧ Kd.R (Kd.int .i64) 3 (W7.setCell ⟨gB,i,none⟩ (.int .i64 (wrap64 (rd Hr (i : Int) + rd l2 (i : Int))))) M0 (fun k=>M0 ≤ k) (.slice (some ⟨gB,0,none⟩) (rd_L1 l0_1 a1).length cB) (Hr.set i (wrap64 (rd Hr (i : Int) + rd l2 (i : Int))))):=⟨fun W7 h7=>by
              have q1:=Kd.R_celln 0 h7 (i : Int) (by omega) (by omega);have q2:=(Kd.R_putg h7 (i : Int) (wrap64 (rd Hr (i : Int) + rd l2 (i : Int)))).1;simp only [Int.toNat_natCast] at q1 q2
              exact ⟨q1,q2⟩⟩
            clear HPF gF2 gB2 cellsF cellsB;obtain ⟨xF0,xF1⟩:=xF;obtain ⟨hz7_0,hz7_1,hz7_2⟩:=claim_Grants.box3 BK7.out;have qd : ((i : Int) < (l0_0.length : Int)) = True:=eq_true (by omega);have qe : (i < l0_0.length) = True:=eq_true hF0;have qf : ((i : Int) < ((rd_L1 l0_1 a1).length : Int)) = True:=eq_true (by omega);have qg : (i < (rd_L1 l0_1 a1).length) = True:=eq_true hH0;have pa:=eq_true HN.out.1;have pb:=eq_true HN.out.2.1;have HQ:=A0_ (And.intro gF0 (And.intro gB0 (And.intro hFM (And.intro hFH (And.intro hB3 (And.intro hB7 hi))))));clear gF0 gF1 gB0 gB1 hFM hFH hF3 hF7 hB3 hB7 hi hF0 hH0 hlt
            go_wp2_with (first
             |((with_reducible refine gate_store (t:=3) (p:=84) rfl ?_);refine store_event (t:=3) (p:=84) (v:=?vo) (w1:=(wr.setCell ⟨gF,i,none⟩ (.int .i64 (wrap64 (rd Fr (i : Int) - rd l2 (i : Int)))))) ?hg ?ho ?hn ?hr ?_;(case ho=>rfl);(case hg=>rfl);(case hn=>rfl);(case hr=>first|(go_simp;done)|(go_simp;rfl));intro w7 hw7;obtain ⟨RF7,RB7,HH7,BK37,BK77,HB7⟩:=K7.out w7 hw7;clear hw7;obtain ⟨hy7_0,hy7_1,hy7_2⟩:=claim_Grants.box3 BK77.out;have hyH:=claim_Grants.HN_cell HH7.out HN.out.1 HN.out.2.1;obtain ⟨⟨yB0,yB1⟩,_⟩:=HPB.out _ RB7.out))
            go_roundg d
            case measure=>have:=HQ.out.2.2.2.2.2.2;omega
            case rel =>
              have ns : ∀ k,k ≠ gB → (w7.setCell ⟨gB,i,none⟩ (.int .i64 (wrap64 (rd Hr (i : Int) + rd l2 (i : Int))))).heap[k]? = w7.heap[k]?:=fun k hk=>Below.heap_setCell w7 ⟨gB,i,none⟩ _ k hk
              refine ⟨i + 1,_,_,by have:=HQ.out.2.2.2.2.2.2;omega,by have q1:=HQ.out.2.2.2.2.2.2;have q2:=HR2.out.2.1;(try simp only [i64_w]);congr 1;unfold wrap64;omega,HG2,⟨by simpa using HL.out.1,by simpa using HL.out.2⟩,⟨?_⟩,⟨(HPB.out _ RB7.out).2⟩,⟨claim_Grants.HN_step HH7.out (fun k hk _=>ns k ?_)⟩,⟨(ns g3 (Ne.symm HQ.out.2.2.2.2.1)).trans BK37.out⟩,⟨(ns g7 (Ne.symm HQ.out.2.2.2.2.2.1)).trans BK77.out⟩,⟨bs_ HB7.out (by have:=HQ.out.2.1;have:=HGH.out;have:=HM.out.2.1;show w.heap.size ≤ gB;omega)⟩⟩
              · exact Kd.R_mono (Kd.R_step (Kd.R_tight rfl RF7.out) (fun k hk _=>ns k (fun e=>by
                  have : k = gF:=by simpa [Value.ownBlock] using hk
                  have:=HQ.out.2.1;have:=HQ.out.2.2.1
                  omega))) (fun _ _=>trivial)
              · have:=HQ.out.2.1
                rcases hk with hk | hk
                · have:=hk.1.2
                  omega
                · have : k = gH:=by simpa [Value.ownBlock] using hk
                  have:=HM.out.2.1
                  omega


end Go.Proofs.Ytlggjacghemakaa.PClaimBack
