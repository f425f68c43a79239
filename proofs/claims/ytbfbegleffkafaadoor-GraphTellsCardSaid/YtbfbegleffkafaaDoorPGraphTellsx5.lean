/- Go functions as plain Lean functions, and that the calls come to them. Conditions: none. (Written by a program of this session.) -/
import Derived.Test.YtbfbegleffkafaaDoorPGraphTellsx0
import Derived.Test.YtbfbegleffkafaaDoorPGraphTellsx2
import Derived.Test.YtbfbegleffkafaaDoorPGraphTellsx3
import Derived.Test.YtbfbegleffkafaaDoorPGraphTellsx4
namespace Go.Proofs.YtbfbegleffkafaaDoor.PGraphTells
open Go.RowKit Go.Proofs.YtbfbegleffkafaaDoorW.PrintWords Go.Proofs.YtbfbegleffkafaaDoorW.PrintLast Go.Proofs.YtbfbegleffkafaaDoorW.PrintMore
attribute [local go_sem] max2_int min2_int max_two min_two max_three min_three max_four min_four   -- for this text's walks alone
set_option linter.unusedVariables false
set_option linter.unusedSimpArgs false

/-! ### graph_Order: function 22 -/
def graph_Order.f (k : Nat) (l0 : List (S44)) : Option (List Int) := (graph_Check.f l0).bind fun t155 => (if t155 = 0 then ((graph_order.f k l0).bind fun bt156 => (some bt156.1)) else (some ([] : List Int)))
theorem graph_Order.mono : ∀ a0 k, LeO (graph_Order.f k a0) (graph_Order.f (k + 1) a0) := by
  intro a0 k
  unfold graph_Order.f
  repeat' first
      | (with_reducible exact graph_order.mono _ _)
      | (with_reducible exact LeO.refl _)
      | (with_reducible exact LeO.none _)
      | (with_reducible refine LeO.ite ?_ ?_)
      | (with_reducible refine LeO.bind ?_ (fun _=>?_))
      | exact graph_order.mono _ _
      | exact LeO.none _
      | refine LeO.ite ?_ ?_
      | refine LeO.bind ?_ (fun _=>?_)
set_option maxHeartbeats 8000000 in
set_option maxRecDepth 100000 in
theorem graph_Order.calls (k : Nat) (A0 : Option Addr) (c0 : Nat) (l0 : List (S44)) (r : List Int) (w : World) (hr0 : Kd.C k44 w A0 l0.length l0) (hc0 : l0.length ≤ c0) (hT : Tb.Tab w) (h : graph_Order.f k l0 = some r) :
    Calls Tryd.prog 22 #[.slice A0 l0.length c0] w fun e w'=>∃ v0_ : Value,e = .returned (v0_) ∧ Kd.R (Kd.int .i64) 3 w' w.heap.size (fun _=>True) v0_ r ∧ Below w.heap.size w w':=by
  have HR0:=A0_ hr0;have HC0:=A0_ hc0;clear hr0 hc0;have HT:=A0_ hT;clear hT;have HB:=A0_ (Below.refl w.heap.size w);have H : ((graph_Check.f l0).bind fun t155=>(if t155 = 0 then ((graph_order.f k l0).bind fun bt156=>(some bt156.1)) else (some ([] : List Int)))) = some r:=h;clear h;replace H:=bm_ H;obtain ⟨t155,A20,H⟩:=H;replace H : (if t155 = 0 then ((graph_order.f k l0).bind fun bt156=>(some bt156.1)) else (some ([] : List Int))) = some r:=H;have A2:=A0_ A20;clear A20;by_cases c3 : t155 = 0;rotate_left
  · rw [if_neg c3] at H
    have c3b0 : (t155 == 0) = false:=beq_eq_false_iff_ne.mpr c3;have c3b1 : (t155 != 0) = true:=bne_iff_ne.mpr c3;obtain rfl:=Option.some.inj H;go_enter Tryd.func22,Tryd.ntmps22;go_wp2_with (first|((with_reducible refine gate_callee (f:=24) rfl ?_);refine goesL_ (some 6) rfl rfl Tryd.func24 (by kernel_rfl) rfl #[.slice A0 l0.length c0] rfl (by first|(simp only [List.map_toArray,List.map_cons,List.map_nil] <;> rfl)|rfl|(simp only [List.length_drop,List.length_take];rfl)) ?_;(with_reducible refine (graph_Check.calls _ _ l0 t155 _ ?side1 ?side2 A2.out).mono ?_);(case side1=>repeat (first|exact HR0.out|(with_reducible first|refine Ca_ ?_ _|refine Cn_ ?_ _|refine Cd_ ?_)));(case side2=>exact HC0.out);rintro e w' ⟨rfl,⟨nd,rfl⟩⟩;refine ⟨_,rfl,?_⟩));go_ret;exact ⟨_,by first|rfl|(simp [errW_none,errW_some] <;> rfl)|(simp [*,errW_none,errW_some] <;> rfl),by first|exact Kd.R_nil _ _ _ _ _|exact Kd.N_nil _ _ _ _ _|exact Kd.V_nil _ _ _ _ _|exact Kd.Q_nil _ _ _ _ _|exact Kd.S_nil _ _ _ _ _,by repeat (first|(with_reducible first|exact HB.out|apply ba_|apply pN_|apply b1_)|exact HB.out)⟩

  rw [if_pos c3] at H;have c3b0 : (t155 == 0) = true:=beq_iff_eq.mpr c3;have c3b1 : (t155 != 0) = false:=bne_eq_false_iff_eq.mpr c3;clear c3;replace H:=bm_ H;obtain ⟨⟨t156,t157⟩,A40,H⟩:=H;replace H : (some t156) = some r:=H;have A4:=A0_ A40;clear A40;obtain rfl:=Option.some.inj H;go_enter Tryd.func22,Tryd.ntmps22;go_wp2_with (first|((with_reducible refine gate_callee (f:=24) rfl ?_);refine goesL_ (some 6) rfl rfl Tryd.func24 (by kernel_rfl) rfl #[.slice A0 l0.length c0] rfl (by first|(simp only [List.map_toArray,List.map_cons,List.map_nil] <;> rfl)|rfl|(simp only [List.length_drop,List.length_take];rfl)) ?_;(with_reducible refine (graph_Check.calls _ _ l0 t155 _ ?side1 ?side2 A2.out).mono ?_);(case side1=>repeat (first|exact HR0.out|(with_reducible first|refine Ca_ ?_ _|refine Cn_ ?_ _|refine Cd_ ?_)));(case side2=>exact HC0.out);rintro e w' ⟨rfl,⟨nd,rfl⟩⟩;refine ⟨_,rfl,?_⟩)|((with_reducible refine gate_callee (f:=59) rfl ?_);refine goesL_ (some 10) rfl rfl Tryd.func59 (by kernel_rfl) rfl #[.slice A0 l0.length c0] rfl (by first|(simp only [List.map_toArray,List.map_cons,List.map_nil] <;> rfl)|rfl|(simp only [List.length_drop,List.length_take];rfl)) ?_;(with_reducible refine (graph_order.calls k _ _ l0 t156 t157 _ ?side1 ?side2 ?side3 A4.out).mono ?_);(case side1=>repeat (first|exact HR0.out|(with_reducible first|refine Ca_ ?_ _|refine Cn_ ?_ _|refine Cd_ ?_)));(case side2=>exact HC0.out);(case side3=>first|exact HT.out|(repeat (first|(with_reducible first|exact HT.out|apply Tb.alloc|apply Tb.drewN|apply Tb.drew)|exact HT.out));done|exact Tb.below HT.out (by repeat (first|(with_reducible first|exact HB.out|apply ba_|apply pN_|apply b1_)|exact HB.out)));rintro e w5 ⟨v158,rfl,ho0,hb⟩;refine ⟨_,rfl,?_⟩;have n0_:=A0_ (Kd.R_lower ho0 (below_size (by repeat (first|(with_reducible first|exact HB.out|apply ba_|apply pN_|apply b1_)|exact HB.out))));have n1_:=A0_ (below_step (by repeat (first|(with_reducible first|exact HB.out|apply ba_|apply pN_|apply b1_)|exact HB.out)) hb);clear HB;have HO159:=n0_;have HB:=n1_;clear n0_ n1_;(try clear hb);(try clear hb2);(try clear hk);(try clear hi);(try clear ho0)));go_ret;exact ⟨_,by first|rfl|(simp [errW_none,errW_some] <;> rfl)|(simp [*,errW_none,errW_some] <;> rfl),by (with_reducible repeat first|apply Ra_|apply Rn_|apply Rd_);exact HO159.out,by repeat (first|(with_reducible first|exact HB.out|apply ba_|apply pN_|apply b1_)|exact HB.out)⟩
/-! ### bits_All: function 60 -/
def bits_All.f (a0 : Int) : Option (Int) := if a0 ≤ 0 then (some 0) else (if a0 > 63 then (some 18446744073709551615) else (if 0 ≤ a0 then (some (IntKind.u64.wrap ((shl .u64 1 a0) - 1))) else (none)))
set_option maxHeartbeats 8000000 in
set_option maxRecDepth 100000 in
theorem bits_All.calls (a0 : Int) (r : Int) (w : World) (h : bits_All.f a0 = some r) :
    Calls Tryd.prog 60 #[.int .i64 a0] w fun e w'=>e = .returned (.int .u64 r) ∧ Drawn0 w w':=by
  have H : (if a0 ≤ 0 then (some 0) else (if a0 > 63 then (some 18446744073709551615) else (if 0 ≤ a0 then (some (IntKind.u64.wrap ((shl .u64 1 a0) - 1))) else (none)))) = some r:=h;clear h;by_cases c2 : a0 ≤ 0
  · rw [if_pos c2] at H
    have c2b0 : decide (a0 ≤ 0) = true:=decide_eq_true c2;clear c2;obtain rfl:=Option.some.inj H;go_enter Tryd.func60,Tryd.ntmps60;go_wp2;go_ret;exact ⟨by first|rfl|(simp;done)|(simp [*];done),by repeat (first|exact Drawn0.refl _|apply Drawn0.step)⟩
  rw [if_neg c2] at H;have c2b0 : decide (a0 ≤ 0) = false:=decide_eq_false c2;clear c2;by_cases c3 : a0 > 63
  · rw [if_pos c3] at H
    have c3b0 : decide (63 < a0) = true:=decide_eq_true c3;clear c3;obtain rfl:=Option.some.inj H;go_enter Tryd.func60,Tryd.ntmps60;go_wp2;go_ret;exact ⟨by first|rfl|(simp;done)|(simp [*];done),by repeat (first|exact Drawn0.refl _|apply Drawn0.step)⟩
  rw [if_neg c3] at H;have c3b0 : decide (63 < a0) = false:=decide_eq_false c3;clear c3;by_cases c4 : 0 ≤ a0;rotate_left
  · rw [if_neg c4] at H
    exact absurd H (by simp)

  rw [if_pos c4] at H;have c4b0:=eq_true c4;have c4b1 : decide (0 ≤ a0) = true:=decide_eq_true c4;clear c4;obtain ⟨ji5,hji5⟩ : ∃ j_ : Int,(shl .u64 1 a0) = j_:=⟨_,rfl⟩;replace H : (some (IntKind.u64.wrap ((ji5) - 1))) = some r:=by first|(rw [hji5] at H;exact H)|(simp only [hji5] at H ⊢;exact H)
  have hji5_ : (IntKind.u64.wrap (1 * 2 ^ min a0.toNat 64)) = ji5:=hji5;have hji5z : a0 ≤ 64 → (IntKind.u64.wrap (1 * 2 ^ a0.toNat)) = ji5:=shl_small hji5;have hji5u : (IntKind.u64.wrap (2 ^ min a0.toNat 64)) = ji5:=by have h_:=hji5_;rw [Int.one_mul] at h_;exact h_
  have hji5v : a0 ≤ 64 → (IntKind.u64.wrap (2 ^ a0.toNat)) = ji5:=fun hle_=>by have h_:=hji5z hle_;rw [Int.one_mul] at h_;exact h_
  obtain rfl:=Option.some.inj H;go_enter Tryd.func60,Tryd.ntmps60;go_wp2;go_ret;exact ⟨by first|rfl|(simp;done)|(simp only [← hji5] <;> (first|rfl|simp))|(simp [*];done),by repeat (first|exact Drawn0.refl _|apply Drawn0.step)⟩
/-! ### graph_Doomed: function 23 -/
def graph_Doomed.f (k : Nat) (l0 : List (S44)) : Option (Int) := (graph_Check.f l0).bind fun t160 => (if t160 = 0 then ((graph_order.f k l0).bind fun bt161 => ((bits_All.f (l0.length : Int)).bind fun t165 => (some (Go.bits .andNot .u64 t165 bt161.2)))) else (some 0))
theorem graph_Doomed.mono : ∀ a0 k, LeO (graph_Doomed.f k a0) (graph_Doomed.f (k + 1) a0) := by
  intro a0 k
  unfold graph_Doomed.f
  repeat' first
      | (with_reducible exact graph_order.mono _ _)
      | (with_reducible exact LeO.refl _)
      | (with_reducible exact LeO.none _)
      | (with_reducible refine LeO.ite ?_ ?_)
      | (with_reducible refine LeO.bind ?_ (fun _=>?_))
      | exact graph_order.mono _ _
      | exact LeO.none _
      | refine LeO.ite ?_ ?_
      | refine LeO.bind ?_ (fun _=>?_)
set_option maxHeartbeats 8000000 in
set_option maxRecDepth 100000 in
theorem graph_Doomed.calls (k : Nat) (A0 : Option Addr) (c0 : Nat) (l0 : List (S44)) (r : Int) (w : World) (hr0 : Kd.C k44 w A0 l0.length l0) (hc0 : l0.length ≤ c0) (hT : Tb.Tab w) (h : graph_Doomed.f k l0 = some r) :
    Calls Tryd.prog 23 #[.slice A0 l0.length c0] w fun e w'=>e = .returned (.int .u64 r) ∧ Below w.heap.size w w':=by
  have HR0:=A0_ hr0;have HC0:=A0_ hc0;clear hr0 hc0;have HT:=A0_ hT;clear hT;have HB:=A0_ (Below.refl w.heap.size w);have H : ((graph_Check.f l0).bind fun t160=>(if t160 = 0 then ((graph_order.f k l0).bind fun bt161=>((bits_All.f (l0.length : Int)).bind fun t165=>(some (Go.bits .andNot .u64 t165 bt161.2)))) else (some 0))) = some r:=h;clear h;replace H:=bm_ H;obtain ⟨t160,A20,H⟩:=H;replace H : (if t160 = 0 then ((graph_order.f k l0).bind fun bt161=>((bits_All.f (l0.length : Int)).bind fun t165=>(some (Go.bits .andNot .u64 t165 bt161.2)))) else (some 0)) = some r:=H;have A2:=A0_ A20;clear A20;by_cases c3 : t160 = 0;rotate_left
  · rw [if_neg c3] at H
    have c3b0 : (t160 == 0) = false:=beq_eq_false_iff_ne.mpr c3;have c3b1 : (t160 != 0) = true:=bne_iff_ne.mpr c3;obtain rfl:=Option.some.inj H;go_enter Tryd.func23,Tryd.ntmps23;go_wp2_with (first|((with_reducible refine gate_callee (f:=24) rfl ?_);refine goesL_ (some 6) rfl rfl Tryd.func24 (by kernel_rfl) rfl #[.slice A0 l0.length c0] rfl (by first|(simp only [List.map_toArray,List.map_cons,List.map_nil] <;> rfl)|rfl|(simp only [List.length_drop,List.length_take];rfl)) ?_;(with_reducible refine (graph_Check.calls _ _ l0 t160 _ ?side1 ?side2 A2.out).mono ?_);(case side1=>repeat (first|exact HR0.out|(with_reducible first|refine Ca_ ?_ _|refine Cn_ ?_ _|refine Cd_ ?_)));(case side2=>exact HC0.out);rintro e w' ⟨rfl,⟨nd,rfl⟩⟩;refine ⟨_,rfl,?_⟩));go_ret;exact ⟨by first|rfl|(simp [errW_none,errW_some] <;> rfl)|(simp [*,errW_none,errW_some] <;> rfl),by repeat (first|(with_reducible first|exact HB.out|apply ba_|apply pN_|apply b1_)|exact HB.out)⟩

  rw [if_pos c3] at H;have c3b0 : (t160 == 0) = true:=beq_iff_eq.mpr c3;have c3b1 : (t160 != 0) = false:=bne_eq_false_iff_eq.mpr c3;clear c3;replace H:=bm_ H;obtain ⟨⟨t161,t162⟩,A40,H⟩:=H;replace H : ((bits_All.f (l0.length : Int)).bind fun t165=>(some (Go.bits .andNot .u64 t165 t162))) = some r:=H;have A4:=A0_ A40;clear A40;replace H:=bm_ H;obtain ⟨t165,A50,H⟩:=H;replace H : (some (Go.bits .andNot .u64 t165 t162)) = some r:=H;have A5:=A0_ A50;clear A50;obtain rfl:=Option.some.inj H;go_enter Tryd.func23,Tryd.ntmps23;go_wp2_with (first|((with_reducible refine gate_callee (f:=24) rfl ?_);refine goesL_ (some 6) rfl rfl Tryd.func24 (by kernel_rfl) rfl #[.slice A0 l0.length c0] rfl (by first|(simp only [List.map_toArray,List.map_cons,List.map_nil] <;> rfl)|rfl|(simp only [List.length_drop,List.length_take];rfl)) ?_;(with_reducible refine (graph_Check.calls _ _ l0 t160 _ ?side1 ?side2 A2.out).mono ?_);(case side1=>repeat (first|exact HR0.out|(with_reducible first|refine Ca_ ?_ _|refine Cn_ ?_ _|refine Cd_ ?_)));(case side2=>exact HC0.out);rintro e w' ⟨rfl,⟨nd,rfl⟩⟩;refine ⟨_,rfl,?_⟩)|((with_reducible refine gate_callee (f:=59) rfl ?_);refine goesL_ (some 10) rfl rfl Tryd.func59 (by kernel_rfl) rfl #[.slice A0 l0.length c0] rfl (by first|(simp only [List.map_toArray,List.map_cons,List.map_nil] <;> rfl)|rfl|(simp only [List.length_drop,List.length_take];rfl)) ?_;(with_reducible refine (graph_order.calls k _ _ l0 t161 t162 _ ?side1 ?side2 ?side3 A4.out).mono ?_);(case side1=>repeat (first|exact HR0.out|(with_reducible first|refine Ca_ ?_ _|refine Cn_ ?_ _|refine Cd_ ?_)));(case side2=>exact HC0.out);(case side3=>first|exact HT.out|(repeat (first|(with_reducible first|exact HT.out|apply Tb.alloc|apply Tb.drewN|apply Tb.drew)|exact HT.out));done|exact Tb.below HT.out (by repeat (first|(with_reducible first|exact HB.out|apply ba_|apply pN_|apply b1_)|exact HB.out)));rintro e w6 ⟨v163,rfl,ho0,hb⟩;refine ⟨_,rfl,?_⟩;have n0_:=A0_ (Kd.R_lower ho0 (below_size (by repeat (first|(with_reducible first|exact HB.out|apply ba_|apply pN_|apply b1_)|exact HB.out))));have n1_:=A0_ (below_step (by repeat (first|(with_reducible first|exact HB.out|apply ba_|apply pN_|apply b1_)|exact HB.out)) hb);clear HB;have HO164:=n0_;have HB:=n1_;clear n0_ n1_;(try clear hb);(try clear hb2);(try clear hk);(try clear hi);(try clear ho0))|((with_reducible refine gate_callee (f:=60) rfl ?_);refine goesL_ (some 15) rfl rfl Tryd.func60 (by kernel_rfl) rfl #[.int .i64 (l0.length : Int)] rfl (by first|(simp only [List.map_toArray,List.map_cons,List.map_nil] <;> rfl)|rfl|(simp only [List.length_drop,List.length_take];rfl)) ?_;(with_reducible refine (bits_All.calls (l0.length : Int) t165 _ A5.out).mono ?_);rintro e w' ⟨rfl,⟨nd,rfl⟩⟩;refine ⟨_,rfl,?_⟩));go_ret;exact ⟨by first|rfl|(simp [errW_none,errW_some] <;> rfl)|(simp [*,errW_none,errW_some] <;> rfl),by repeat (first|(with_reducible first|exact HB.out|apply ba_|apply pN_|apply b1_)|exact HB.out)⟩
-- NOT PRINTED: function 48 (slices_IndexFunc_int_int)

-- NOT PRINTED: function 61 (slices_ContainsFunc_int_int)

/-! ### graph_Closed: function 25 -/
-- by hand
open Ch (Chg)
namespace Gc
/-- All below n. -/
def allN (n : Nat) : Nat := Og.setOf (fun _ => true) n
theorem allN_eq (n : Nat) : allN n = 2 ^ n - 1 := by
  apply Nat.eq_of_testBit_eq
  intro j
  unfold allN
  rw [Og.tb_setOf, Nat.testBit_two_pow_sub_one]
  simp
theorem all_f {n : Nat} (hn : n ≤ 64) : bits_All.f (n : Int) = some ((allN n : Nat) : Int) := by
  unfold bits_All.f
  by_cases h0 : n = 0
  · subst h0
    rw [if_pos (by decide)]
    rfl
  · rw [if_neg (by omega), allN_eq]
    by_cases h1 : n = 64
    · subst h1
      rw [if_pos (by decide)]
      rfl
    · rw [if_neg (by omega), if_pos (by omega), Bt.shl_one (by omega)]
      have h2 : 1 ≤ 2 ^ n := Nat.one_le_two_pow
      have h3 := Bt.lt_pow (t := n) (by omega)
      rw [show ((2 ^ n : Nat) : Int) - 1 = ((2 ^ n - 1 : Nat) : Int) from by omega, Bt.wrapU (by omega)]
set_option maxHeartbeats 4000000 in
set_option maxRecDepth 100000 in
theorem one_any {k F : Nat} {l : List S44} {t n : Nat} (hF : F < Bt.top) (hN : n = l.length) (ht : t < n) (hnd : Og.needN k (l.getD t z44) = true) {A : Option Addr} {c0 : Nat} {w : World} {gl gf : Nat} (hl : w.cell? ⟨gl, 0, none⟩ = some (.slice A n c0)) (hf : w.cell? ⟨gf, 0, none⟩ = some (.int .u64 (F : Int))) (hr : Kd.C k44 w A n l) :
    Calls Tryd.prog 63 #[.int .i64 (t : Int), .pointer (some ⟨gl, 0, none⟩), .pointer (some ⟨gf, 0, none⟩)] w fun e w' => e = .returned (.bool (Og.metB F (l.getD t z44))) ∧ Below w.heap.size w w' := by
  have hu44 := Tryd.underlying44
  have HMF := Aside0.mk (Og.met_f (k := k) hF hnd)
  obtain ⟨ad, A1, c1, ea, x0, x1, hl1, hi1⟩ := at_T44 hr (t : Int) (by omega) (by omega)
  subst ea
  have e44 : rd_T44 l (t : Int) = l.getD t z44 := by unfold rd_T44; rw [Int.toNat_natCast]
  rw [e44] at x0 x1 hl1 hi1
  rw [Int.toNat_natCast] at x0 x1
  have xl := hl
  have xf := hf
  have p1 : (0 ≤ (t : Int)) = True := eq_true (by omega)
  have p2 : ((t : Int) < (n : Int)) = True := eq_true (by omega)
  clear hl hf e44
  generalize l.getD t z44 = nd at *
  have HC1 := Aside0.mk hi1
  have HL1 := Aside0.mk hl1
  clear hi1 hl1 hr hnd hF ht hN
  generalize Og.metB F nd = mt at *
  go_enter Tryd.func63, Tryd.ntmps63
  go_upto_region 1 with (fail)
  refine start_ (n := 7) (S := fun w' => w'.cell? ⟨gl, 0, none⟩ = some (.slice (some ad) n c0) ∧ w'.cell? (ad.add (t * 2)) = some (.bool nd.f0) ∧ w'.cell? ⟨(ad.add (t * 2)).block, (ad.add (t * 2)).off + 1, none⟩ = some (.slice A1 nd.f1.length c1) ∧ w'.cell? ⟨gf, 0, none⟩ = some (.int .u64 (F : Int))) (ds := []) #[false, false, false, false, false, false, false] (by kernel_rfl) rfl rfl ⟨xl, x0, x1, xf⟩ (fun hHeld => ?_)
  refine pure_ (i := 1) (N := some 6) (v := ?_) (a' := ?_) #[false, true, false, false, false, false, false] rfl rfl (by kernel_rfl) (fun _ _ _ h => h) (Or.inl ⟨by rfl, ?_⟩) ?_ ?_
  rotate_left
  · intro w'
    go_simp
    with_reducible rfl
  rotate_left
  · simp only [Act.put, List.setIfInBounds_toArray, List.set_cons_zero, List.set_cons_succ, i64_w, i32_w]
    rfl
  refine take_ (i := 0) (N := some 5) (v := ?_) (a' := ?_) #[true, true, false, false, false, false, false] rfl rfl (by kernel_rfl) (fun _ _ _ h => h) (Or.inl ⟨by rfl, ?_⟩) hHeld ?_ ?_
  rotate_left
  · rintro w' ⟨s0, s1, s2, s3⟩
    go_simp
    with_reducible rfl
  rotate_left
  · simp only [Act.put, List.setIfInBounds_toArray, List.set_cons_zero, List.set_cons_succ, i64_w, i32_w]
    rfl
  refine pure_ (i := 2) (N := some 7) (v := ?_) (a' := ?_) #[true, true, true, false, false, false, false] rfl rfl (by kernel_rfl) (fun _ _ _ h => h) (Or.inl ⟨by rfl, ?_⟩) ?_ ?_
  rotate_left
  · intro w'
    go_simp
    with_reducible rfl
  rotate_left
  · simp only [Act.put, List.setIfInBounds_toArray, List.set_cons_zero, List.set_cons_succ, i64_w, i32_w]
    rfl
  refine take_ (i := 3) (N := some 8) (v := ?_) (a' := ?_) #[true, true, true, true, false, false, false] rfl rfl (by kernel_rfl) (fun _ _ _ h => h) (Or.inl ⟨by rfl, ?_⟩) hHeld ?_ ?_
  rotate_left
  · rintro w' ⟨s0, s1, s2, s3⟩
    go_simp
    with_reducible rfl
  rotate_left
  · simp only [Act.put, List.setIfInBounds_toArray, List.set_cons_zero, List.set_cons_succ, i64_w, i32_w]
    rfl
  refine take_ (i := 4) (N := some 9) (v := ?_) (a' := ?_) #[true, true, true, true, true, false, false] rfl rfl (by kernel_rfl) (fun _ _ _ h => h) (Or.inl ⟨by rfl, ?_⟩) hHeld ?_ ?_
  rotate_left
  · rintro w' ⟨s0, s1, s2, s3⟩
    go_simp
    with_reducible rfl
  rotate_left
  · simp only [Act.put, List.setIfInBounds_toArray, List.set_cons_zero, List.set_cons_succ, i64_w, i32_w]
    rfl
  refine one_ (i := 5) (N := some 10) #[true, true, true, true, true, true, false] rfl rfl (by kernel_rfl) (by decide) (fun K hK => ?_)
  refine goes_ Tryd.func64 (by kernel_rfl) rfl #[.agg #[.bool nd.f0, .slice A1 nd.f1.length c1], .int .u64 (F : Int)] (by rfl) rfl rfl (by simp only [List.map_toArray, List.map_cons, List.map_nil]; rfl) ?_
  with_reducible refine (graph_met.calls k _ _ _ nd.f1 _ _ _ (Kd.C_drew HC1.out) HL1.out HMF.out).mono ?_
  rintro e w4 ⟨rfl, hb4⟩
  refine ⟨_, rfl, ?_⟩
  have HB4 := Aside0.mk (show Below w.heap.size w w4 from below_step (below_drew (Below.refl _ _)) hb4)
  clear hb4
  refine hK.out _ _ ⟨(HB4.out.cell (World.block_lt_of_cell? w _ xl)).trans xl, (HB4.out.cell (World.block_lt_of_cell? w _ x0)).trans x0, (HB4.out.cell (World.block_lt_of_cell? w _ x1)).trans x1, (HB4.out.cell (World.block_lt_of_cell? w _ xf)).trans xf⟩ (fun hHeld => ?_)
  clear hK K
  refine norm_ (a' := ?_) ?_ ?_
  rotate_left
  · show Act.put _ (some 10) _ = _
    simp only [Act.put, List.setIfInBounds_toArray, List.set_cons_zero, List.set_cons_succ, i64_w, i32_w]
    rfl
  refine pure_ (i := 6) (N := some 4) (v := ?_) (a' := ?_) #[true, true, true, true, true, true, true] rfl rfl (by kernel_rfl) (fun _ _ _ h => h) (Or.inl ⟨by rfl, ?_⟩) ?_ ?_
  rotate_left
  · intro w'
    go_simp
    with_reducible rfl
  rotate_left
  · simp only [Act.put, List.setIfInBounds_toArray, List.set_cons_zero, List.set_cons_succ, i64_w, i32_w]
    rfl
  refine done_ (by kernel_rfl) ?_
  go_wp2
  go_ret
  exact ⟨rfl, by repeat (first | exact HB4.out | apply below_drew | apply pw_below_drewN)⟩
set_option maxHeartbeats 4000000 in
set_option maxRecDepth 100000 in
theorem index48 {k F : Nat} {g : List S44} {nn : Nat} (hF : F < Bt.top) (hNN : nn = g.length) {A2 : Option Addr} {c2 : Nat} (hnd : ∀ t, t < nn → Og.needN k (g.getD t z44) = true) {l : List Nat} (hD : ∀ i, i < l.length → l.getD i 0 < nn) {A : Option Addr} {cc : Nat} {w : World} {gl gf : Nat} (hl : w.cell? ⟨gl, 0, none⟩ = some (.slice A2 nn c2)) (hf : w.cell? ⟨gf, 0, none⟩ = some (.int .u64 (F : Int))) (hr2 : Kd.C k44 w A2 nn g) (hr : Kd.C (Kd.int .i64) w A l.length (Bl.ints l)) :
    Calls Tryd.prog 48 #[.slice A l.length cc, .func (.func 63) #[] #[.pointer (some ⟨gl, 0, none⟩), .pointer (some ⟨gf, 0, none⟩)]] w fun e w' => e = .returned (.int .i64 (Gm.place (Gm.fst (fun t => Og.metB F (g.getD t z44)) l))) ∧ Below w.heap.size w w' := by
  have eg := enters_of Tryd.func63 (by kernel_rfl) rfl
  skip
  have HR := Aside0.mk hr
  have HD := Aside0.mk hD
  have HM := Aside0.mk (Kd.C_max hr)
  have HF := Aside0.mk hf
  have HGL := Aside0.mk hl
  have HR2 := Aside0.mk hr2
  have HND := Aside0.mk hnd
  have HFT := Aside0.mk hF
  have HNN := Aside0.mk hNN
  clear hr hD hf hl hr2 hnd hF hNN
  obtain ⟨n, hn⟩ : ∃ n, n = l.length := ⟨_, rfl⟩
  have HN := Aside0.mk hn
  rw [← hn] at HR HM
  rw [← hn]
  clear hn
  have HB := Aside0.mk (Below.refl w.heap.size w)
  go_enter Tryd.func48, Tryd.ntmps48
  go_wp2
  go_loopg [5, 8] n (fun kq _ v8 w' => ∃ (i : Nat), v8 = .int .i64 (i : Int) ∧ Aside0 (i + kq = n) ∧ Aside0 (∀ j, j < i → Og.metB F (g.getD (l.getD j 0) z44) = false) ∧ Aside0 (Below w.heap.size w w'))
  case atStart => exact ⟨0, rfl, ⟨by omega⟩, ⟨fun j hj => by omega⟩, HB⟩
  case round =>
    clear HB
    obtain ⟨i, rfl, HI, HF2, HB⟩ := hrel
    rcases gk with _ | k1
    · have d1 : decide ((i : Int) < (n : Int)) = false := decide_eq_false (by have := HI.out; omega)
      have d2 : decide (i < n) = false := decide_eq_false (by have := HI.out; omega)
      go_wp2
      go_ret
      refine ⟨?_, by repeat (first | exact HB.out | apply below_drew | apply pw_below_drewN)⟩
      rw [Gm.fst_miss (p := fun t => Og.metB F (g.getD t z44)) (z := 0) (l := l) HF2.out (by have := HI.out; have := HN.out; omega)]
      rfl
    · have hi := HI.out
      have hil : i < l.length := by have := HN.out; omega
      have d1 : decide ((i : Int) < (n : Int)) = true := decide_eq_true (by omega)
      have d2 : decide (i < n) = true := decide_eq_true (by omega)
      have HRi := Aside0.mk (Kd.C_below HR.out HB.out)
      obtain ⟨ad, ead, x0⟩ := Kd.at_int HRi.out (i : Int) (by omega) (by omega)
      subst ead
      have q1 : (0 ≤ (i : Int)) = True := eq_true (by omega)
      have q2 : ((i : Int) < (n : Int)) = True := eq_true (by omega)
      have HDi := Aside0.mk (HD.out i hil)
      have HNX := Aside0.mk (fun q => Gm.next_miss (p := fun t => Og.metB F (g.getD t z44)) (z := 0) (l := l) HF2.out (i := i) q)
      have HHT := Aside0.mk (fun q => Gm.fst_hit (p := fun t => Og.metB F (g.getD t z44)) (z := 0) (l := l) HF2.out hil q)
      rw [Og.rd_ints, Int.toNat_natCast] at x0
      have HOA := Aside0.mk (fun (W : World) (hb : Below w.heap.size w W) => one_any (k := k) (w := W) (gl := gl) (gf := gf) HFT.out HNN.out HDi.out (HND.out _ HDi.out) ((hb.cell (World.block_lt_of_cell? _ _ HGL.out)).trans HGL.out) ((hb.cell (World.block_lt_of_cell? _ _ HF.out)).trans HF.out) (Kd.C_below HR2.out hb))
      clear HF2 hi hil
      generalize l.getD i 0 = m at *
      generalize hmt : Og.metB F (g.getD m z44) = mt at *
      clear hmt
      cases mt with
      | true =>
        go_wp2_with (fail)
        refine (HOA.out _ HB.out).mono ?_
        rintro e w4 ⟨rfl, hb4⟩
        have HB4 := Aside0.mk (below_step HB.out hb4)
        clear hb4
        go_wp2
        go_ret
        refine ⟨?_, by repeat (first | exact HB4.out | apply below_drew | apply pw_below_drewN)⟩
        rw [HHT.out trivial]
        rfl
      | false =>
        go_wp2_with (fail)
        refine (HOA.out _ HB.out).mono ?_
        rintro e w4 ⟨rfl, hb4⟩
        have HB4 := Aside0.mk (below_step HB.out hb4)
        clear hb4
        go_wp2
        go_roundg k1
        case measure => omega
        case rel => exact ⟨i + 1, by have h1 := HI.out; have h2 := HM.out; rw [show wrap64 ((i : Int) + 1) = (i : Int) + 1 from by unfold wrap64; omega]; simp, ⟨by have := HI.out; omega⟩, ⟨HNX.out trivial⟩, HB4⟩

set_option maxHeartbeats 4000000 in
set_option maxRecDepth 100000 in
theorem contains61 {k F : Nat} {g : List S44} {nn : Nat} (hF : F < Bt.top) (hNN : nn = g.length) {A2 : Option Addr} {c2 : Nat} (hnd : ∀ t, t < nn → Og.needN k (g.getD t z44) = true) {l : List Nat} (hD : ∀ i, i < l.length → l.getD i 0 < nn) {A : Option Addr} {cc : Nat} {w : World} {gl gf : Nat} (hl : w.cell? ⟨gl, 0, none⟩ = some (.slice A2 nn c2)) (hf : w.cell? ⟨gf, 0, none⟩ = some (.int .u64 (F : Int))) (hr2 : Kd.C k44 w A2 nn g) (hr : Kd.C (Kd.int .i64) w A l.length (Bl.ints l)) :
    Calls Tryd.prog 61 #[.slice A l.length cc, .func (.func 63) #[] #[.pointer (some ⟨gl, 0, none⟩), .pointer (some ⟨gf, 0, none⟩)]] w fun e w' => e = .returned (.bool (l.any fun t => Og.metB F (g.getD t z44))) ∧ Below w.heap.size w w' := by
  have HX := Aside0.mk (index48 (cc := cc) hF hNN hnd hD hl hf hr2 hr)
  have HP := Aside0.mk ((Gm.place_ge (Gm.fst (fun t => Og.metB F (g.getD t z44)) l)).trans (Gm.fst_some (fun t => Og.metB F (g.getD t z44)) l))
  clear hD hf hr hl hr2 hnd
  generalize (l.any fun t => Og.metB F (g.getD t z44)) = r at *
  generalize Gm.place (Gm.fst (fun t => Og.metB F (g.getD t z44)) l) = p at *
  go_enter Tryd.func61, Tryd.ntmps61
  go_wp2_with (go_at_call 48; (refine HX.out.mono ?_); rintro e w4 ⟨rfl, hb4⟩; have HB4 := Aside0.mk hb4; clear hb4)
  go_ret
  refine ⟨?_, by repeat (first | exact HB4.out | apply below_drew)⟩
  rw [← HP.out]
  first | rfl | simp
end Gc
open Ch (Chg)
def graph_Closed.f (k : Nat) (l0 : List S44) (a1 : Int) : Option Bool :=
  if l0.length ≤ 64 then if Og.need k l0 = true then if 0 ≤ a1 then if a1 < 18446744073709551616 then some (decide (Bt.sub a1.toNat (Gc.allN l0.length) = 0) && !((Gr.low a1.toNat 64).any fun t => Og.metB (Bt.sub (Gc.allN l0.length) a1.toNat) (l0.getD t z44))) else none else none else none else some false
theorem graph_Closed.mono : ∀ a0 a1 k, LeO (graph_Closed.f k a0 a1) (graph_Closed.f (k + 1) a0 a1) := by
  intro a0 a1 k r h
  unfold graph_Closed.f at h ⊢
  by_cases c : a0.length ≤ 64
  · rw [if_pos c] at h ⊢
    by_cases c2 : Og.need k a0 = true
    · rw [if_pos c2] at h
      rw [if_pos (Og.need_mono c2)]
      exact h
    · rw [if_neg c2] at h
      cases h
  · rw [if_neg c] at h ⊢
    exact h
set_option maxHeartbeats 8000000 in
set_option maxRecDepth 100000 in
theorem graph_Closed.calls (k : Nat) (A0 : Option Addr) (c0 : Nat) (l0 : List (S44)) (a1 : Int) (r : Bool) (w : World) (hr0 : Kd.C k44 w A0 l0.length l0) (hc0 : l0.length ≤ c0) (hT : Tb.Tab w) (h : graph_Closed.f k l0 a1 = some r) :
    Calls Tryd.prog 25 #[.slice A0 l0.length c0, .int .u64 a1] w fun e w' => e = .returned (.bool r) ∧ Below w.heap.size w w' := by
  obtain ⟨l, hl⟩ : ∃ l, l = l0 := ⟨_, rfl⟩
  rw [← hl] at hr0 hc0 h ⊢
  clear hl
  have hmf : ∀ (fn : Fn) (first cap : Array Value) (w : World), (Instr.makeFunc fn first cap).run Tryd.prog w = .ok (.func fn first cap) w := fun _ _ _ _ => rfl
  have HR := Aside0.mk hr0
  have HC := Aside0.mk hc0
  have HT := Aside0.mk hT
  clear hr0 hc0 hT
  by_cases hn : l.length ≤ 64
  · have HCK := Aside0.mk (fun (W : World) (hb : Below w.heap.size w W) => graph_Check.calls A0 c0 l 0 W (Kd.C_below HR.out hb) HC.out (by unfold graph_Check.f; rw [if_neg (by omega)]))
    have HAL := Aside0.mk (Gc.all_f hn)
    obtain ⟨hnd, s, rfl, hs, hr⟩ : Og.need k l = true ∧ ∃ s : Nat, a1 = (s : Int) ∧ s < Bt.top ∧ r = (decide (Bt.sub s (Gc.allN l.length) = 0) && !((Gr.low s 64).any fun t => Og.metB (Bt.sub (Gc.allN l.length) s) (l.getD t z44))) := by
      unfold graph_Closed.f at h
      rw [if_pos hn] at h
      split at h
      · rename_i h1
        split at h
        · split at h
          · rename_i h2 h3
            exact ⟨h1, a1.toNat, by omega, by unfold Bt.top; omega, (Option.some.inj h).symm⟩
          · cases h
        · cases h
      · cases h
    have HS := Aside0.mk hs
    have HND := Aside0.mk (show ∀ i, i < l.length → Og.needN k (l.getD i z44) = true from fun i hi => by
      unfold Og.need at hnd
      rw [List.all_eq_true] at hnd
      refine hnd _ ?_
      rw [List.getD_eq_getElem?_getD, List.getElem?_eq_getElem hi]
      exact List.getElem_mem hi)
    have HRE := Aside0.mk hr
    have HALT := Aside0.mk (show Gc.allN l.length < Bt.top from Og.setOf_top _ hn)
    have HTB := Aside0.mk (fun i => Og.tb_setOf (fun _ => true) i l.length)
    have HSZ := Aside0.mk (Bt.sub_zero_iff HS.out HALT.out)
    have HCT := Aside0.mk (fun (l2 : List Nat) (hD : ∀ i, i < l2.length → l2.getD i 0 < l.length) (A : Option Addr) (cc : Nat) (W : World) (gl gf : Nat) (hl : W.cell? ⟨gl, 0, none⟩ = some (.slice A0 l.length c0)) (hf : W.cell? ⟨gf, 0, none⟩ = some (.int .u64 ((Bt.sub (Gc.allN l.length) s : Nat) : Int))) (hr2 : Kd.C k44 W A0 l.length l) (hr : Kd.C (Kd.int .i64) W A l2.length (Bl.ints l2)) => Gc.contains61 (k := k) (g := l) (cc := cc) (Bt.lt_sub HALT.out) rfl HND.out hD hl hf hr2 hr)
    clear hn hnd hs hr h
    have e1 := Bt.andNot_nat HS.out HALT.out
    have e2 := Bt.andNot_nat HALT.out HS.out
    go_enter Tryd.func25, Tryd.ntmps25
    go_upto_region 4 with (first
      | ((with_reducible refine gate_dst (N := 2) rfl ?_); refine box_event ?hg (N := 2) ?hd (cs := #[.slice A0 l.length c0]) (t := 22) ?hr ?_; (case hd => rfl); (case hg => rfl); (case hr => first | (go_simp; done) | (go_simp; rfl)); intro gl hg w1 hbox hb; have HB1 := Aside0.mk hb; have BX1 := Aside0.mk hbox; have xl : w1.cell? ⟨gl, 0, none⟩ = some (.slice A0 l.length c0) := (blk_cell hbox 0).trans rfl; clear hb hbox hg)
      | (go_at_call 24; (with_reducible refine (HCK.out _ HB1.out).mono ?_); rintro e w2 ⟨rfl, ⟨nd2, rfl⟩⟩)
      | (go_at_call 60; (with_reducible refine (bits_All.calls _ _ _ HAL.out).mono ?_); rintro e w3 ⟨rfl, ⟨nd3, rfl⟩⟩))
    by_cases hz : Bt.sub s (Gc.allN l.length) = 0
    · have HRT := Aside0.mk (show (!((Gr.low s 64).any fun t => Og.metB (Bt.sub (Gc.allN l.length) s) (l.getD t z44))) = r from by rw [HRE.out, decide_eq_true hz, Bool.true_and])
      have HUB := Aside0.mk (show ∀ i, i < (Gr.low s 64).length → (Gr.low s 64).getD i 0 < l.length from by
        intro i hi
        have h1 : (Gr.low s 64).getD i 0 ∈ Gr.low s 64 := by rw [List.getD_eq_getElem?_getD, List.getElem?_eq_getElem hi]; exact List.getElem_mem hi
        have h2 := Gr.mem_low.1 h1
        have h3 := HSZ.out.1 hz _ h2.1 h2.2
        unfold Gc.allN at h3
        rw [HTB.out, Bool.and_true] at h3
        exact of_decide_eq_true h3)
      have HLI := Aside0.mk (Og.list_f HS.out)
      rw [hz] at e1
      clear hz HSZ HTB HRE HALT
      generalize Bt.sub (Gc.allN l.length) s = F at *
      generalize Gc.allN l.length = al at *
      generalize Gr.low s 64 = U at *
      have HBW := Aside0.mk (pw_below_drewN HB1.out (nd2 + nd3))
      have HXL := Aside0.mk (show (w1.drewN (nd2 + nd3)).cell? ⟨gl, 0, none⟩ = some (.slice A0 l.length c0) from xl)
      clear HB1 BX1 xl
      generalize w1.drewN (nd2 + nd3) = w4 at *
      go_upto_region 7 with ((with_reducible refine gate_dst (N := 6) rfl ?_); refine box_event ?hg (N := 6) ?hd (cs := #[.int .u64 0]) (t := 71) ?hr ?_; (case hd => rfl); (case hg => rfl); (case hr => first | (go_simp; done) | (go_simp; rfl)); intro gf hg w5 hbox hb; have HB5 := Aside0.mk hb; have BX5 := Aside0.mk hbox; have HG5 := Aside0.mk (show gf = w4.heap.size from hg); have y0 : w5.cell? ⟨gf, 0, none⟩ = some (.int .u64 0) := (blk_cell hbox 0).trans rfl; have fz := blk_frozen hbox 0; clear hb hbox hg)
      have HB6 := Aside0.mk (below_set (g := gf) (j := 0) (v := .int .u64 (F : Int)) HB5.out (by have := HG5.out; omega))
      have BX6 := Aside0.mk (blk_put BX5.out 0 (.int .u64 (F : Int)) rfl)
      clear HB5 BX5 HG5 y0 fz
      generalize w5.setCell _ _ = w6 at *
      have HXL6 := Aside0.mk ((HB6.out.cell (World.block_lt_of_cell? _ _ HXL.out)).trans HXL.out)
      have HXF6 := Aside0.mk (show w6.cell? ⟨gf, 0, none⟩ = some (.int .u64 (F : Int)) from (blk_cell BX6.out 0).trans rfl)
      have HBW6 := Aside0.mk (below_step HBW.out HB6.out)
      have HTW := Aside0.mk (Tb.below HT.out HBW6.out)
      clear HBW HXL HB6 BX6 e1 e2
      go_wp2_with (first
        | (go_at_call 62; (with_reducible refine (bits_Set_List.calls _ _ _ HTW.out HLI.out).mono ?_); rintro e w8 ⟨v8, rfl, ho, hb⟩; obtain ⟨A8, c8, e8⟩ := Kd.R_slice ho; subst e8; rw [Bl.ints_len] at ho ⊢; have HU8 := Aside0.mk (Kd.R_reads' (Kd.R_drew ho)).2.2; rw [Bl.ints_len] at HU8; have HB8 := Aside0.mk hb; have HCX := Aside0.mk (HCT.out U HUB.out A8 c8 w8 gl gf ((hb.cell (World.block_lt_of_cell? _ _ HXL6.out)).trans HXL6.out) ((hb.cell (World.block_lt_of_cell? _ _ HXF6.out)).trans HXF6.out) (Kd.C_below HR.out (below_step HBW6.out hb)) HU8.out); clear ho hb)
        | (go_at_call 61; (refine HCX.out.mono ?_); rintro e w9 ⟨rfl, hb9⟩; have HB9 := Aside0.mk (below_step (below_step HBW6.out HB8.out) hb9); clear hb9))
      go_ret
      exact ⟨by rw [← HRT.out]; first | rfl | simp, by repeat (first | exact HB9.out | apply below_drew | apply pw_below_drewN)⟩
    · obtain rfl : r = false := by rw [HRE.out, decide_eq_false hz]; rfl
      have d1 : ((Bt.sub s (Gc.allN l.length) : Int) != 0) = true := by rw [bne_iff_ne]; omega
      have d2 : ((Bt.sub s (Gc.allN l.length) : Int) == 0) = false := by rw [beq_eq_false_iff_ne]; omega
      clear hz HSZ HTB HRE HALT HCT e2
      generalize Bt.sub s (Gc.allN l.length) = D at *
      generalize Gc.allN l.length = al at *
      go_wp2_with (fail)
      go_ret
      exact ⟨rfl, by repeat (first | exact HB1.out | apply below_drew | apply pw_below_drewN)⟩
  · obtain rfl : r = false := by
      unfold graph_Closed.f at h
      rw [if_neg hn] at h
      exact (Option.some.inj h).symm
    have HCK := Aside0.mk (fun (W : World) (hb : Below w.heap.size w W) => graph_Check.calls A0 c0 l 4 W (Kd.C_below HR.out hb) HC.out (by unfold graph_Check.f; rw [if_pos (by omega)]))
    clear hn h
    go_enter Tryd.func25, Tryd.ntmps25
    go_wp2_with (first
      | ((with_reducible refine gate_dst (N := 2) rfl ?_); refine box_event ?hg (N := 2) ?hd (cs := #[.slice A0 l.length c0]) (t := 22) ?hr ?_; (case hd => rfl); (case hg => rfl); (case hr => first | (go_simp; done) | (go_simp; rfl)); intro gl hg w1 hbox hb; have HB1 := Aside0.mk hb; have BX1 := Aside0.mk hbox; have xl : w1.cell? ⟨gl, 0, none⟩ = some (.slice A0 l.length c0) := (blk_cell hbox 0).trans rfl; clear hb hbox hg)
      | (go_at_call 24; (with_reducible refine (HCK.out _ HB1.out).mono ?_); rintro e w2 ⟨rfl, ⟨nd2, rfl⟩⟩))
    go_ret
    exact ⟨rfl, by repeat (first | exact HB1.out | apply below_drew | apply pw_below_drewN)⟩


end Go.Proofs.YtbfbegleffkafaaDoor.PGraphTells
