/- Go functions as plain Lean functions, and that the calls come to them. Conditions: none. (Written by a program of this session.) -/
import Derived.Test.YtjcjhmnfknenlaaPPlaceApartx0
namespace Go.Proofs.Ytjcjhmnfknenlaa.PPlaceApart
open Go.RowKit Go.Proofs.YtjcjhmnfknenlaaW.PrintWords Go.Proofs.YtjcjhmnfknenlaaW.PrintLast Go.Proofs.YtjcjhmnfknenlaaW.PrintMore
attribute [local go_sem] max2_int min2_int max_two min_two max_three min_three max_four min_four   -- for this text's walks alone
set_option linter.unusedVariables false
set_option linter.unusedSimpArgs false

-- NOT PRINTED: function 18 (place_Places_Global)

-- NOT PRINTED: function 19 (place_Places_Own)

/-! ### logjamref35_has: function 49 -/
def logjamref35_has.l0 : Nat → List Int → Int → Int → Option (Bool)
  | 0,_,_,_=>none
  | k + 1,x0,x1,x5=>if x5 < (x0.length : Int) then (if 0 ≤ x5 then (if (rd x0 x5) = x1 then (some true) else (logjamref35_has.l0 k x0 x1 (wrap64 (x5 + 1)))) else (none)) else (some false)
def logjamref35_has.f (k : Nat) (l0 : List Int) (a1 : Int) : Option (Bool) := logjamref35_has.l0 k l0 a1 0
theorem logjamref35_has.mono_l : ∀ k, (∀ y0 y1 y2, LeO (logjamref35_has.l0 k y0 y1 y2) (logjamref35_has.l0 (k + 1) y0 y1 y2))
  | 0=>fun _ _ _ r h=>by simp [logjamref35_has.l0] at h
  | k + 1=>by
    have ih0:=logjamref35_has.mono_l k
    · intro y0 y1 y2
      unfold logjamref35_has.l0
      repeat' first
      | (with_reducible exact ih0 _ _ _)
      | (with_reducible exact LeO.refl _)
      | (with_reducible exact LeO.none _)
      | (with_reducible refine LeO.ite ?_ ?_)
      | (with_reducible refine LeO.bind ?_ (fun _=>?_))
      | exact ih0 _ _ _
      | exact LeO.none _
      | refine LeO.ite ?_ ?_
      | refine LeO.bind ?_ (fun _=>?_)
theorem logjamref35_has.mono : ∀ a0 a1 k, LeO (logjamref35_has.f k a0 a1) (logjamref35_has.f (k + 1) a0 a1) := by
  intro a0 a1 k
  have ih0:=logjamref35_has.mono_l k;unfold logjamref35_has.f
  repeat' first
      | (with_reducible exact ih0 _ _ _)
      | (with_reducible exact LeO.refl _)
      | (with_reducible exact LeO.none _)
      | (with_reducible refine LeO.ite ?_ ?_)
      | (with_reducible refine LeO.bind ?_ (fun _=>?_))
      | exact ih0 _ _ _
      | exact LeO.none _
      | refine LeO.ite ?_ ?_
      | refine LeO.bind ?_ (fun _=>?_)
set_option maxHeartbeats 8000000 in
set_option maxRecDepth 100000 in
theorem logjamref35_has.calls (k : Nat) (A0 : Option Addr) (c0 : Nat) (l0 : List Int) (a1 : Int) (r : Bool) (w : World) (hr0 : Kd.C (Kd.int .i64) w A0 l0.length l0) (hc0 : l0.length ≤ c0) (h : logjamref35_has.f k l0 a1 = some r) :
    Calls Try.prog 49 #[.slice A0 l0.length c0,.int .i64 a1] w fun e w'=>e = .returned (.bool r) ∧ Drawn0 w w':=by
  have HR0:=A0_ hr0;have HC0:=A0_ hc0;clear hr0 hc0;have H : (logjamref35_has.l0 k l0 a1 0) = some r:=h;clear h;have H':=A0_ H;clear H;go_enter Try.func49,Try.ntmps49;go_wp2
  go_loopg [5] k (fun kq v5 w'=>∃ (x5_1 : Int),v5 = .int .i64 x5_1 ∧ Aside0 (logjamref35_has.l0 kq l0 a1 x5_1 = some r) ∧ Aside0 (kq ≤ k) ∧ Drawn0 w w')
  case atStart=>exact ⟨(0),(by first|rfl|(simp;done)|(simp [*];done)),H',⟨Nat.le_refl _⟩,by repeat (first|exact Drawn0.refl _|apply Drawn0.step)⟩
  case round =>
    clear H';(try clear p2);obtain ⟨x5_1,rfl,HA,HK1,⟨m1,rfl⟩⟩:=hrel
    cases gk with
    | zero=>exact absurd HA.out (by simp [logjamref35_has.l0])
    | succ k1 =>
      have H:=HA.out;clear HA;simp only [logjamref35_has.l0] at H;by_cases c3 : x5_1 < (l0.length : Int);rotate_left
      · rw [if_neg c3] at H
        have c3b0 : decide (x5_1 < (l0.length : Int)) = false:=decide_eq_false c3;clear c3;obtain rfl:=Option.some.inj H;go_wp2;go_ret;exact ⟨by first|rfl|(simp;done)|(simp [*];done),by repeat (first|exact Drawn0.refl _|apply Drawn0.step)⟩

      rw [if_pos c3] at H;have c3b0 : decide (x5_1 < (l0.length : Int)) = true:=decide_eq_true c3;clear c3;by_cases c4 : 0 ≤ x5_1;rotate_left
      · rw [if_neg c4] at H
        exact absurd H (by simp)
      rw [if_pos c4] at H;have c4b0 : decide (0 ≤ x5_1) = true:=decide_eq_true c4;clear c4;by_cases c5 : (rd l0 x5_1) = a1
      · rw [if_pos c5] at H
        have c5b0 : ((rd l0 x5_1) == a1) = true:=beq_iff_eq.mpr c5;have c5b1 : ((rd l0 x5_1) != a1) = false:=bne_eq_false_iff_eq.mpr c5;clear c5;obtain rfl:=Option.some.inj H;have p152 : 0 ≤ (x5_1 : Int):=of_decide_eq_true (by first|(with_reducible assumption)|assumption);have q152 : x5_1 < (l0.length : Int):=of_decide_eq_true (by first|(with_reducible assumption)|assumption);obtain ⟨ad152,e152,hx152_0⟩:=Kd.at_int HR0.out x5_1 p152 q152;cases e152;replace p152:=eq_true p152;replace q152:=eq_true q152;go_wp2;go_ret;exact ⟨by first|rfl|(simp;done)|(simp [*];done),by repeat (first|exact Drawn0.refl _|apply Drawn0.step)⟩
      rw [if_neg c5] at H;have c5b0 : ((rd l0 x5_1) == a1) = false:=beq_eq_false_iff_ne.mpr c5;have c5b1 : ((rd l0 x5_1) != a1) = true:=bne_iff_ne.mpr c5;have H':=A0_ H;clear H;have p152 : 0 ≤ (x5_1 : Int):=of_decide_eq_true (by first|(with_reducible assumption)|assumption);have q152 : x5_1 < (l0.length : Int):=of_decide_eq_true (by first|(with_reducible assumption)|assumption);obtain ⟨ad152,e152,hx152_0⟩:=Kd.at_int HR0.out x5_1 p152 q152;cases e152;replace p152:=eq_true p152;replace q152:=eq_true q152;go_wp2
      go_roundg k1
      case measure=>have:=HK1.out;omega
      case rel=>exact ⟨(wrap64 (x5_1 + 1)),(by first|rfl|(simp;done)|(simp [*];done)),H',⟨by have:=HK1.out;omega⟩,by repeat (first|exact Drawn0.refl _|apply Drawn0.step)⟩
/-! ### logjamref35_Where: function 32 -/
mutual
def logjamref35_Where.j0 : Nat → Int → Bool → List Int → List Int → List (List Int) → List Int → Option (Int)
  | 0,_,_,_,_,_,_=>none
  | k + 1,x1,x11,x154000,x154001,x154002,x154003=>if x11 = true then (some 0) else ((logjamref35_has.f k x154000 x1).bind fun t154=>(if t154 = true then (some 1) else (logjamref35_Where.l0 k x1 0 x154000 x154001 x154002 x154003)))
def logjamref35_Where.l0 : Nat → Int → Int → List Int → List Int → List (List Int) → List Int → Option (Int)
  | 0,_,_,_,_,_,_=>none
  | k + 1,x1,x5,x154000,x154001,x154002,x154003=>if x5 < (x154002.length : Int) then (if 0 ≤ x5 then ((logjamref35_has.f k (rd_L1 x154002 x5) x1).bind fun t156=>(if t156 = true then (some 2) else (logjamref35_Where.l0 k x1 (wrap64 (x5 + 1)) x154000 x154001 x154002 x154003))) else (none)) else ((logjamref35_has.f k x154003 x1).bind fun t157=>(if t157 = true then (some 3) else (some 0)))
end
def logjamref35_Where.f (k : Nat) (l0_0 : List Int) (l0_1 : List Int) (l0_2 : List (List Int)) (l0_3 : List Int) (a1 : Int) : Option (Int) := if a1 < 0 then (logjamref35_Where.j0 k a1 true l0_0 l0_1 l0_2 l0_3) else (logjamref35_Where.j0 k a1 (decide (a1 > 63)) l0_0 l0_1 l0_2 l0_3)
theorem logjamref35_Where.mono_l : ∀ k, (∀ y0 y1 y2 y3 y4 y5, LeO (logjamref35_Where.j0 k y0 y1 y2 y3 y4 y5) (logjamref35_Where.j0 (k + 1) y0 y1 y2 y3 y4 y5)) ∧ (∀ y0 y1 y2 y3 y4 y5, LeO (logjamref35_Where.l0 k y0 y1 y2 y3 y4 y5) (logjamref35_Where.l0 (k + 1) y0 y1 y2 y3 y4 y5))
  | 0=>⟨fun _ _ _ _ _ _ r h=>by simp [logjamref35_Where.j0] at h,fun _ _ _ _ _ _ r h=>by simp [logjamref35_Where.l0] at h⟩
  | k + 1=>by
    obtain ⟨ih0,ih1⟩:=logjamref35_Where.mono_l k;refine ⟨?_,?_⟩
    all_goals intros
    all_goals first | unfold logjamref35_Where.j0 | unfold logjamref35_Where.l0
    all_goals
      repeat' first
      | (with_reducible exact ih0 _ _ _ _ _ _)
      | (with_reducible exact ih1 _ _ _ _ _ _)
      | (with_reducible exact logjamref35_has.mono _ _ _)
      | (with_reducible exact LeO.refl _)
      | (with_reducible exact LeO.none _)
      | (with_reducible refine LeO.ite ?_ ?_)
      | (with_reducible refine LeO.bind ?_ (fun _=>?_))
      | exact ih0 _ _ _ _ _ _
      | exact ih1 _ _ _ _ _ _
      | exact logjamref35_has.mono _ _ _
      | exact LeO.none _
      | refine LeO.ite ?_ ?_
      | refine LeO.bind ?_ (fun _=>?_)
theorem logjamref35_Where.mono : ∀ a0 a1 a2 a3 a4 k, LeO (logjamref35_Where.f k a0 a1 a2 a3 a4) (logjamref35_Where.f (k + 1) a0 a1 a2 a3 a4) := by
  intro a0 a1 a2 a3 a4 k
  obtain ⟨ih0,ih1⟩:=logjamref35_Where.mono_l k;unfold logjamref35_Where.f
  repeat' first
      | (with_reducible exact ih0 _ _ _ _ _ _)
      | (with_reducible exact ih1 _ _ _ _ _ _)
      | (with_reducible exact logjamref35_has.mono _ _ _)
      | (with_reducible exact LeO.refl _)
      | (with_reducible exact LeO.none _)
      | (with_reducible refine LeO.ite ?_ ?_)
      | (with_reducible refine LeO.bind ?_ (fun _=>?_))
      | exact ih0 _ _ _ _ _ _
      | exact ih1 _ _ _ _ _ _
      | exact logjamref35_has.mono _ _ _
      | exact LeO.none _
      | refine LeO.ite ?_ ?_
      | refine LeO.bind ?_ (fun _=>?_)
set_option maxHeartbeats 8000000 in
set_option maxRecDepth 100000 in
theorem logjamref35_Where.calls (k : Nat) (A0_0 : Option Addr) (c0_0 : Nat) (l0_0 : List Int) (A0_1 : Option Addr) (c0_1 : Nat) (l0_1 : List Int) (A0_2 : Option Addr) (c0_2 : Nat) (l0_2 : List (List Int)) (A0_3 : Option Addr) (c0_3 : Nat) (l0_3 : List Int) (a1 : Int) (r : Int) (w : World) (hr0_0 : Kd.C (Kd.int .i64) w A0_0 l0_0.length l0_0) (hc0_0 : l0_0.length ≤ c0_0) (hr0_1 : Kd.C (Kd.int .i64) w A0_1 l0_1.length l0_1) (hc0_1 : l0_1.length ≤ c0_1) (hr0_2 : Kd.C (Kd.slice 3 (Kd.int .i64)) w A0_2 l0_2.length l0_2) (hc0_2 : l0_2.length ≤ c0_2) (hr0_3 : Kd.C (Kd.int .i64) w A0_3 l0_3.length l0_3) (hc0_3 : l0_3.length ≤ c0_3) (h : logjamref35_Where.f k l0_0 l0_1 l0_2 l0_3 a1 = some r) :
    Calls Try.prog 32 #[.agg #[.slice A0_0 l0_0.length c0_0,.slice A0_1 l0_1.length c0_1,.slice A0_2 l0_2.length c0_2,.slice A0_3 l0_3.length c0_3],.int .i64 a1] w fun e w'=>e = .returned (.int .i64 r) ∧ Below w.heap.size w w':=by
  have hu41:=Try.underlying41;have HR0_0:=A0_ hr0_0;have HC0_0:=A0_ hc0_0;clear hr0_0 hc0_0;have HR0_1:=A0_ hr0_1;have HC0_1:=A0_ hc0_1;clear hr0_1 hc0_1;have HR0_2:=A0_ hr0_2;have HC0_2:=A0_ hc0_2;clear hr0_2 hc0_2;have HR0_3:=A0_ hr0_3;have HC0_3:=A0_ hc0_3;clear hr0_3 hc0_3;have HB:=A0_ (Below.refl w.heap.size w);have H : (if a1 < 0 then (logjamref35_Where.j0 k a1 true l0_0 l0_1 l0_2 l0_3) else (logjamref35_Where.j0 k a1 (decide (a1 > 63)) l0_0 l0_1 l0_2 l0_3)) = some r:=h;clear h;have HC3:=A0_ H;clear H;go_enter Try.func32,Try.ntmps32
  go_upto_region 1 with (first|((with_reducible refine gate_dst (N:=2) rfl ?_);refine box_event ?hg (N:=2) ?hd (cs:=#[.slice A0_0 l0_0.length c0_0,.slice A0_1 l0_1.length c0_1,.slice A0_2 l0_2.length c0_2,.slice A0_3 l0_3.length c0_3]) (t:=41) ?hr ?_;(case hd=>rfl);(case hg=>rfl);(case hr=>first|(go_simp;done)|(go_simp;rfl));intro gb153 hg w4 hbox hb;have n0_:=A0_ (below_step (by repeat (first|(with_reducible first|exact HB.out|apply ba_|apply pN_|apply b1_)|exact HB.out)) hb);have n1_:=A0_ (hbox);have n2_:=A0_ ((by rw [hg];exact (below_size (by repeat (first|(with_reducible first|exact HB.out|apply ba_|apply pN_|apply b1_)|exact HB.out))) : w.heap.size ≤ gb153));have n3_:=A0_ ((by rw [hg];exact (below_size (by repeat (first|(with_reducible first|exact HB.out|apply ba_|apply pN_|apply b1_)|exact HB.out))) : w.heap.size ≤ gb153));clear HB;have HB:=n0_;have BK153:=n1_;have GW153:=n2_;have GE153:=n3_;clear n0_ n1_ n2_ n3_;clear hb hbox hg))
  (try simp only [Act.put,sA_,sZ_,sS_])
  go_cut [11] (fun v11 wc=>∃ (kq : Nat) (x11_2 : Bool),v11 = .bool x11_2 ∧ Aside0 (logjamref35_Where.j0 kq a1 x11_2 l0_0 l0_1 l0_2 l0_3 = some r) ∧ Aside0 (kq ≤ k) ∧ Aside0 (wc.heap[gb153]? = some (.cells #[(.slice A0_0 l0_0.length c0_0),(.slice A0_1 l0_1.length c0_1),(.slice A0_2 l0_2.length c0_2),(.slice A0_3 l0_3.length c0_3)] 41 (0,0))) ∧ Aside0 (Below w.heap.size w wc))
  case first =>
    have H:=HC3.out;clear HC3;by_cases c5 : a1 < 0
    · rw [if_pos c5] at H
      have c5b0 : decide (a1 < 0) = true:=decide_eq_true c5;clear c5
      (first|rw [c5b0]|(simp only [i64_w,i32_w];rw [c5b0])|skip)
      have H':=A0_ H;clear H;go_wp2;go_meet
      case rel=>exact ⟨_,(true),(by first|rfl|(simp;done)|(simp [*];done)),H',⟨by first|omega|exact Nat.le_refl _⟩,⟨by (with_reducible repeat first|refine bN_ ?_ _|refine bD_ ?_|refine bA_ ?_ _);exact BK153.out⟩,⟨by repeat (first|(with_reducible first|exact HB.out|apply ba_|apply pN_|apply b1_|refine bs_ ?_ GE153.out)|exact HB.out)⟩⟩
    rw [if_neg c5] at H;have c5b0 : decide (a1 < 0) = false:=decide_eq_false c5;clear c5
    (first|rw [c5b0]|(simp only [i64_w,i32_w];rw [c5b0])|skip)
    have H':=A0_ H;clear H;go_wp2;go_meet
    case rel=>exact ⟨_,(decide (a1 > 63)),(by first|rfl|(simp;done)|(simp [*];done)),H',⟨by first|omega|exact Nat.le_refl _⟩,⟨by (with_reducible repeat first|refine bN_ ?_ _|refine bD_ ?_|refine bA_ ?_ _);exact BK153.out⟩,⟨by repeat (first|(with_reducible first|exact HB.out|apply ba_|apply pN_|apply b1_|refine bs_ ?_ GE153.out)|exact HB.out)⟩⟩
  case rest =>
    clear HC3;(try clear p2);(try clear c3);(try clear c5);(try clear c5b0);obtain ⟨kq,x11_2,rfl,HA,HJ2,BK153,HB⟩:=hcut
    cases kq with
    | zero=>exact absurd HA.out (by simp [logjamref35_Where.j0])
    | succ kj2 =>
      have H:=HA.out;clear HA;simp only [logjamref35_Where.j0] at H;by_cases c6 : x11_2 = true
      · subst c6
        have H1 : (some 0) = some r:=by rw [if_pos rfl] at H;exact H
        clear H;have H:=H1;clear H1;obtain rfl:=Option.some.inj H;go_wp2;go_ret;exact ⟨by first|rfl|(simp [errW_none,errW_some] <;> rfl)|(simp [*,errW_none,errW_some] <;> rfl),by repeat (first|(with_reducible first|exact HB.out|apply ba_|apply pN_|apply b1_|refine bs_ ?_ GE153.out)|exact HB.out)⟩
      replace c6:=Bool.eq_false_iff.mpr c6;subst c6;have H1 : ((logjamref35_has.f kj2 l0_0 a1).bind fun t154=>(if t154 = true then (some 1) else (logjamref35_Where.l0 kj2 a1 0 l0_0 l0_1 l0_2 l0_3))) = some r:=by rw [if_neg (show ¬ (false = true) by decide)] at H;exact H
      clear H;have H:=H1;clear H1;replace H:=bm_ H;obtain ⟨t154,A70,H⟩:=H;replace H : (if t154 = true then (some 1) else (logjamref35_Where.l0 kj2 a1 0 l0_0 l0_1 l0_2 l0_3)) = some r:=H;have A7:=A0_ A70;clear A70;by_cases c8 : t154 = true
      · subst c8
        have H1 : (some 1) = some r:=by rw [if_pos rfl] at H;exact H
        clear H;have H:=H1;clear H1;obtain rfl:=Option.some.inj H;obtain ⟨hcz9_0,hcz9_1,hcz9_2,hcz9_3,hfz9_0,hfz9_1,hfz9_2,hfz9_3⟩:=cz4_ (w:=wc) BK153.out;go_wp2_with (first|((with_reducible refine gate_callee (f:=49) rfl ?_);refine goesL_ (some 15) rfl rfl Try.func49 (by kernel_rfl) rfl #[.slice A0_0 l0_0.length c0_0,.int .i64 a1] rfl (by first|(simp only [List.map_toArray,List.map_cons,List.map_nil] <;> rfl)|rfl|(simp only [List.length_drop,List.length_take];rfl)) ?_;(with_reducible refine (logjamref35_has.calls kj2 _ _ l0_0 a1 true _ ?side1 ?side2 A7.out).mono ?_);(case side1=>repeat (first|exact (Kd.C_below HR0_0.out HB.out)|(with_reducible first|refine Ca_ ?_ _|refine Cn_ ?_ _|refine Cd_ ?_)));(case side2=>exact HC0_0.out);rintro e w' ⟨rfl,⟨nd,rfl⟩⟩;refine ⟨_,rfl,?_⟩));go_ret;exact ⟨by first|rfl|(simp [errW_none,errW_some] <;> rfl)|(simp [*,errW_none,errW_some] <;> rfl),by repeat (first|(with_reducible first|exact HB.out|apply ba_|apply pN_|apply b1_|refine bs_ ?_ GE153.out)|exact HB.out)⟩
      replace c8:=Bool.eq_false_iff.mpr c8;subst c8;have H1 : (logjamref35_Where.l0 kj2 a1 0 l0_0 l0_1 l0_2 l0_3) = some r:=by rw [if_neg (show ¬ (false = true) by decide)] at H;exact H
      clear H;have H:=H1;clear H1;have H':=A0_ H;clear H;obtain ⟨hcz10_0,hcz10_1,hcz10_2,hcz10_3,hfz10_0,hfz10_1,hfz10_2,hfz10_3⟩:=cz4_ (w:=wc) BK153.out;go_wp2_with (first|((with_reducible refine gate_callee (f:=49) rfl ?_);refine goesL_ (some 15) rfl rfl Try.func49 (by kernel_rfl) rfl #[.slice A0_0 l0_0.length c0_0,.int .i64 a1] rfl (by first|(simp only [List.map_toArray,List.map_cons,List.map_nil] <;> rfl)|rfl|(simp only [List.length_drop,List.length_take];rfl)) ?_;(with_reducible refine (logjamref35_has.calls kj2 _ _ l0_0 a1 false _ ?side1 ?side2 A7.out).mono ?_);(case side1=>repeat (first|exact (Kd.C_below HR0_0.out HB.out)|(with_reducible first|refine Ca_ ?_ _|refine Cn_ ?_ _|refine Cd_ ?_)));(case side2=>exact HC0_0.out);rintro e w' ⟨rfl,⟨nd,rfl⟩⟩;refine ⟨_,rfl,?_⟩))
      go_loopg [5] kj2 (fun kq v5 w'=>∃ (x5_2 : Int),v5 = .int .i64 x5_2 ∧ Aside0 (logjamref35_Where.l0 kq a1 x5_2 l0_0 l0_1 l0_2 l0_3 = some r) ∧ Aside0 (kq ≤ kj2) ∧ Aside0 (w'.heap[gb153]? = some (.cells #[(.slice A0_0 l0_0.length c0_0),(.slice A0_1 l0_1.length c0_1),(.slice A0_2 l0_2.length c0_2),(.slice A0_3 l0_3.length c0_3)] 41 (0,0))) ∧ Aside0 (Below w.heap.size w w'))
      case atStart=>exact ⟨(0),(by first|rfl|(simp;done)|(simp [*];done)),H',⟨Nat.le_refl _⟩,⟨by (with_reducible repeat first|refine bN_ ?_ _|refine bD_ ?_|refine bA_ ?_ _);exact BK153.out⟩,⟨by repeat (first|(with_reducible first|exact HB.out|apply ba_|apply pN_|apply b1_|refine bs_ ?_ GE153.out)|exact HB.out)⟩⟩
      case round =>
        clear H';(try clear p2);(try clear c3);(try clear c4);(try clear c5);(try clear c5b0);(try clear c6);(try clear c8);(try clear hcz10_0);(try clear hcz10_1);(try clear hcz10_2);(try clear hcz10_3);(try clear hcz9_0);(try clear hcz9_1);(try clear hcz9_2);(try clear hcz9_3);(try clear hfz10_0);(try clear hfz10_1);(try clear hfz10_2);(try clear hfz10_3);(try clear hfz9_0);(try clear hfz9_1);(try clear hfz9_2);(try clear hfz9_3);(try clear p2);obtain ⟨x5_2,rfl,HA,HK2,BK153,HB⟩:=hrel
        cases gk with
        | zero=>exact absurd HA.out (by simp [logjamref35_Where.l0])
        | succ k2 =>
          have H:=HA.out;clear HA;simp only [logjamref35_Where.l0] at H;by_cases c11 : x5_2 < (l0_2.length : Int);rotate_left
          · rw [if_neg c11] at H
            have c11b0 : decide (x5_2 < (l0_2.length : Int)) = false:=decide_eq_false c11;clear c11;replace H:=bm_ H;obtain ⟨t157,A170,H⟩:=H;replace H : (if t157 = true then (some 3) else (some 0)) = some r:=H;have A17:=A0_ A170;clear A170;by_cases c18 : t157 = true
            · subst c18
              have H1 : (some 3) = some r:=by rw [if_pos rfl] at H;exact H
              clear H;have H:=H1;clear H1;obtain rfl:=Option.some.inj H;obtain ⟨hcz19_0,hcz19_1,hcz19_2,hcz19_3,hfz19_0,hfz19_1,hfz19_2,hfz19_3⟩:=cz4_ (w:=wr) BK153.out;go_wp2_with (first|((with_reducible refine gate_callee (f:=49) rfl ?_);refine goesL_ (some 33) rfl rfl Try.func49 (by kernel_rfl) rfl #[.slice A0_3 l0_3.length c0_3,.int .i64 a1] rfl (by first|(simp only [List.map_toArray,List.map_cons,List.map_nil] <;> rfl)|rfl|(simp only [List.length_drop,List.length_take];rfl)) ?_;(with_reducible refine (logjamref35_has.calls k2 _ _ l0_3 a1 true _ ?side1 ?side2 A17.out).mono ?_);(case side1=>repeat (first|exact (Kd.C_below HR0_3.out HB.out)|(with_reducible first|refine Ca_ ?_ _|refine Cn_ ?_ _|refine Cd_ ?_)));(case side2=>exact HC0_3.out);rintro e w' ⟨rfl,⟨nd,rfl⟩⟩;refine ⟨_,rfl,?_⟩));go_ret;exact ⟨by first|rfl|(simp [errW_none,errW_some] <;> rfl)|(simp [*,errW_none,errW_some] <;> rfl),by repeat (first|(with_reducible first|exact HB.out|apply ba_|apply pN_|apply b1_|refine bs_ ?_ GE153.out)|exact HB.out)⟩
            replace c18:=Bool.eq_false_iff.mpr c18;subst c18;have H1 : (some 0) = some r:=by rw [if_neg (show ¬ (false = true) by decide)] at H;exact H
            clear H;have H:=H1;clear H1;obtain rfl:=Option.some.inj H;obtain ⟨hcz20_0,hcz20_1,hcz20_2,hcz20_3,hfz20_0,hfz20_1,hfz20_2,hfz20_3⟩:=cz4_ (w:=wr) BK153.out;go_wp2_with (first|((with_reducible refine gate_callee (f:=49) rfl ?_);refine goesL_ (some 33) rfl rfl Try.func49 (by kernel_rfl) rfl #[.slice A0_3 l0_3.length c0_3,.int .i64 a1] rfl (by first|(simp only [List.map_toArray,List.map_cons,List.map_nil] <;> rfl)|rfl|(simp only [List.length_drop,List.length_take];rfl)) ?_;(with_reducible refine (logjamref35_has.calls k2 _ _ l0_3 a1 false _ ?side1 ?side2 A17.out).mono ?_);(case side1=>repeat (first|exact (Kd.C_below HR0_3.out HB.out)|(with_reducible first|refine Ca_ ?_ _|refine Cn_ ?_ _|refine Cd_ ?_)));(case side2=>exact HC0_3.out);rintro e w' ⟨rfl,⟨nd,rfl⟩⟩;refine ⟨_,rfl,?_⟩));go_ret;exact ⟨by first|rfl|(simp [errW_none,errW_some] <;> rfl)|(simp [*,errW_none,errW_some] <;> rfl),by repeat (first|(with_reducible first|exact HB.out|apply ba_|apply pN_|apply b1_|refine bs_ ?_ GE153.out)|exact HB.out)⟩

          rw [if_pos c11] at H;have c11b0 : decide (x5_2 < (l0_2.length : Int)) = true:=decide_eq_true c11;clear c11;by_cases c12 : 0 ≤ x5_2;rotate_left
          · rw [if_neg c12] at H
            exact absurd H (by simp)
          rw [if_pos c12] at H;have c12b0 : decide (0 ≤ x5_2) = true:=decide_eq_true c12;clear c12;replace H:=bm_ H;obtain ⟨t156,A130,H⟩:=H;replace H : (if t156 = true then (some 2) else (logjamref35_Where.l0 k2 a1 (wrap64 (x5_2 + 1)) l0_0 l0_1 l0_2 l0_3)) = some r:=H;have A13:=A0_ A130;clear A130;by_cases c14 : t156 = true
          · subst c14
            have H1 : (some 2) = some r:=by rw [if_pos rfl] at H;exact H
            clear H;have H:=H1;clear H1;obtain rfl:=Option.some.inj H;obtain ⟨hcz15_0,hcz15_1,hcz15_2,hcz15_3,hfz15_0,hfz15_1,hfz15_2,hfz15_3⟩:=cz4_ (w:=wr) BK153.out;have p155 : 0 ≤ (x5_2 : Int):=of_decide_eq_true (by first|(with_reducible assumption)|assumption);have q155 : x5_2 < (l0_2.length : Int):=of_decide_eq_true (by first|(with_reducible assumption)|assumption);obtain ⟨ad155,A155_0,c155_0,e155,hx155_0,hl155_0,hi155_0⟩:=at_L1 HR0_2.out x5_2 p155 q155;cases e155;replace hx155_0:=(HB.out.cell (bl_ w _ hx155_0)).trans hx155_0;have HR155_0:=A0_ hi155_0;have HC155_0:=A0_ hl155_0;clear hi155_0 hl155_0;replace p155:=eq_true p155;replace q155:=eq_true q155;go_wp2_with (first|((with_reducible refine gate_callee (f:=49) rfl ?_);refine goesL_ (some 29) rfl rfl Try.func49 (by kernel_rfl) rfl #[.slice A155_0 (rd_L1 l0_2 x5_2).length c155_0,.int .i64 a1] rfl (by first|(simp only [List.map_toArray,List.map_cons,List.map_nil] <;> rfl)|rfl|(simp only [List.length_drop,List.length_take];rfl)) ?_;(with_reducible refine (logjamref35_has.calls k2 _ _ (rd_L1 l0_2 x5_2) a1 true _ ?side1 ?side2 A13.out).mono ?_);(case side1=>repeat (first|exact (Kd.C_below HR155_0.out HB.out)|(with_reducible first|refine Ca_ ?_ _|refine Cn_ ?_ _|refine Cd_ ?_)));(case side2=>exact HC155_0.out);rintro e w' ⟨rfl,⟨nd,rfl⟩⟩;refine ⟨_,rfl,?_⟩));go_ret;exact ⟨by first|rfl|(simp [errW_none,errW_some] <;> rfl)|(simp [*,errW_none,errW_some] <;> rfl),by repeat (first|(with_reducible first|exact HB.out|apply ba_|apply pN_|apply b1_|refine bs_ ?_ GE153.out)|exact HB.out)⟩
          replace c14:=Bool.eq_false_iff.mpr c14;subst c14;have H1 : (logjamref35_Where.l0 k2 a1 (wrap64 (x5_2 + 1)) l0_0 l0_1 l0_2 l0_3) = some r:=by rw [if_neg (show ¬ (false = true) by decide)] at H;exact H
          clear H;have H:=H1;clear H1;have H':=A0_ H;clear H;obtain ⟨hcz16_0,hcz16_1,hcz16_2,hcz16_3,hfz16_0,hfz16_1,hfz16_2,hfz16_3⟩:=cz4_ (w:=wr) BK153.out;have p155 : 0 ≤ (x5_2 : Int):=of_decide_eq_true (by first|(with_reducible assumption)|assumption);have q155 : x5_2 < (l0_2.length : Int):=of_decide_eq_true (by first|(with_reducible assumption)|assumption);obtain ⟨ad155,A155_0,c155_0,e155,hx155_0,hl155_0,hi155_0⟩:=at_L1 HR0_2.out x5_2 p155 q155;cases e155;replace hx155_0:=(HB.out.cell (bl_ w _ hx155_0)).trans hx155_0;have HR155_0:=A0_ hi155_0;have HC155_0:=A0_ hl155_0;clear hi155_0 hl155_0;replace p155:=eq_true p155;replace q155:=eq_true q155;go_wp2_with (first|((with_reducible refine gate_callee (f:=49) rfl ?_);refine goesL_ (some 29) rfl rfl Try.func49 (by kernel_rfl) rfl #[.slice A155_0 (rd_L1 l0_2 x5_2).length c155_0,.int .i64 a1] rfl (by first|(simp only [List.map_toArray,List.map_cons,List.map_nil] <;> rfl)|rfl|(simp only [List.length_drop,List.length_take];rfl)) ?_;(with_reducible refine (logjamref35_has.calls k2 _ _ (rd_L1 l0_2 x5_2) a1 false _ ?side1 ?side2 A13.out).mono ?_);(case side1=>repeat (first|exact (Kd.C_below HR155_0.out HB.out)|(with_reducible first|refine Ca_ ?_ _|refine Cn_ ?_ _|refine Cd_ ?_)));(case side2=>exact HC155_0.out);rintro e w' ⟨rfl,⟨nd,rfl⟩⟩;refine ⟨_,rfl,?_⟩))
          go_roundg k2
          case measure=>have:=HJ2.out;have:=HK2.out;omega
          case rel=>exact ⟨(wrap64 (x5_2 + 1)),(by first|rfl|(simp;done)|(simp [*];done)),H',⟨by have:=HJ2.out;have:=HK2.out;omega⟩,⟨by (with_reducible repeat first|refine bN_ ?_ _|refine bD_ ?_|refine bA_ ?_ _);exact BK153.out⟩,⟨by repeat (first|(with_reducible first|exact HB.out|apply ba_|apply pN_|apply b1_|refine bs_ ?_ GE153.out)|exact HB.out)⟩⟩
/-! ### logjamref02_Has: function 58 -/
mutual
def logjamref02_Has.j0 : Nat → Int → Int → Bool → Option (Bool)
  | 0,_,_,_=>none
  | k + 1,x0,x1,x11=>if x11 = true then (some false) else (logjamref02_Has.l0 k x0 x1 0)
def logjamref02_Has.l0 : Nat → Int → Int → Int → Option (Bool)
  | 0,_,_,_=>none
  | k + 1,x0,x1,x5=>if x5 < x1 then (logjamref02_Has.l0 k (IntKind.u64.wrap (Int.tdiv x0 2)) x1 (wrap64 (x5 + 1))) else (some ((Int.tmod x0 2) == 1))
end
def logjamref02_Has.f (k : Nat) (a0 : Int) (a1 : Int) : Option (Bool) := if a1 < 0 then (logjamref02_Has.j0 k a0 a1 true) else (logjamref02_Has.j0 k a0 a1 (decide (a1 > 63)))
theorem logjamref02_Has.mono_l : ∀ k, (∀ y0 y1 y2, LeO (logjamref02_Has.j0 k y0 y1 y2) (logjamref02_Has.j0 (k + 1) y0 y1 y2)) ∧ (∀ y0 y1 y2, LeO (logjamref02_Has.l0 k y0 y1 y2) (logjamref02_Has.l0 (k + 1) y0 y1 y2))
  | 0=>⟨fun _ _ _ r h=>by simp [logjamref02_Has.j0] at h,fun _ _ _ r h=>by simp [logjamref02_Has.l0] at h⟩
  | k + 1=>by
    obtain ⟨ih0,ih1⟩:=logjamref02_Has.mono_l k;refine ⟨?_,?_⟩
    all_goals intros
    all_goals first | unfold logjamref02_Has.j0 | unfold logjamref02_Has.l0
    all_goals
      repeat' first
      | (with_reducible exact ih0 _ _ _)
      | (with_reducible exact ih1 _ _ _)
      | (with_reducible exact LeO.refl _)
      | (with_reducible exact LeO.none _)
      | (with_reducible refine LeO.ite ?_ ?_)
      | (with_reducible refine LeO.bind ?_ (fun _=>?_))
      | exact ih0 _ _ _
      | exact ih1 _ _ _
      | exact LeO.none _
      | refine LeO.ite ?_ ?_
      | refine LeO.bind ?_ (fun _=>?_)
theorem logjamref02_Has.mono : ∀ a0 a1 k, LeO (logjamref02_Has.f k a0 a1) (logjamref02_Has.f (k + 1) a0 a1) := by
  intro a0 a1 k
  obtain ⟨ih0,ih1⟩:=logjamref02_Has.mono_l k;unfold logjamref02_Has.f
  repeat' first
      | (with_reducible exact ih0 _ _ _)
      | (with_reducible exact ih1 _ _ _)
      | (with_reducible exact LeO.refl _)
      | (with_reducible exact LeO.none _)
      | (with_reducible refine LeO.ite ?_ ?_)
      | (with_reducible refine LeO.bind ?_ (fun _=>?_))
      | exact ih0 _ _ _
      | exact ih1 _ _ _
      | exact LeO.none _
      | refine LeO.ite ?_ ?_
      | refine LeO.bind ?_ (fun _=>?_)
set_option maxHeartbeats 8000000 in
set_option maxRecDepth 100000 in
theorem logjamref02_Has.calls (k : Nat) (a0 : Int) (a1 : Int) (r : Bool) (w : World) (h : logjamref02_Has.f k a0 a1 = some r) :
    Calls Try.prog 58 #[.int .u64 a0,.int .i64 a1] w fun e w'=>e = .returned (.bool r) ∧ Drawn0 w w':=by
  have H : (if a1 < 0 then (logjamref02_Has.j0 k a0 a1 true) else (logjamref02_Has.j0 k a0 a1 (decide (a1 > 63)))) = some r:=h;clear h;have HC3:=A0_ H;clear H;go_enter Try.func58,Try.ntmps58
  go_upto_region 1 with (fail)
  go_cut [11] (fun v11 wc=>∃ (kq : Nat) (x11_2 : Bool),v11 = .bool x11_2 ∧ Aside0 (logjamref02_Has.j0 kq a0 a1 x11_2 = some r) ∧ Aside0 (kq ≤ k) ∧ Drawn0 w wc)
  case first =>
    have H:=HC3.out;clear HC3;by_cases c4 : a1 < 0
    · rw [if_pos c4] at H
      have c4b0 : decide (a1 < 0) = true:=decide_eq_true c4;clear c4
      (first|rw [c4b0]|(simp only [i64_w,i32_w];rw [c4b0])|skip)
      have H':=A0_ H;clear H;go_wp2;go_meet
      case rel=>exact ⟨_,(true),(by first|rfl|(simp;done)|(simp [*];done)),H',⟨by first|omega|exact Nat.le_refl _⟩,by repeat (first|exact Drawn0.refl _|apply Drawn0.step)⟩
    rw [if_neg c4] at H;have c4b0 : decide (a1 < 0) = false:=decide_eq_false c4;clear c4
    (first|rw [c4b0]|(simp only [i64_w,i32_w];rw [c4b0])|skip)
    have H':=A0_ H;clear H;go_wp2;go_meet
    case rel=>exact ⟨_,(decide (a1 > 63)),(by first|rfl|(simp;done)|(simp [*];done)),H',⟨by first|omega|exact Nat.le_refl _⟩,by repeat (first|exact Drawn0.refl _|apply Drawn0.step)⟩
  case rest =>
    clear HC3;(try clear p2);(try clear c4);(try clear c4b0);obtain ⟨kq,x11_2,rfl,HA,HJ2,⟨mc2,rfl⟩⟩:=hcut
    cases kq with
    | zero=>exact absurd HA.out (by simp [logjamref02_Has.j0])
    | succ kj2 =>
      have H:=HA.out;clear HA;simp only [logjamref02_Has.j0] at H;by_cases c5 : x11_2 = true
      · subst c5
        have H1 : (some false) = some r:=by rw [if_pos rfl] at H;exact H
        clear H;have H:=H1;clear H1;obtain rfl:=Option.some.inj H;go_wp2;go_ret;exact ⟨by first|rfl|(simp;done)|(simp [*];done),by repeat (first|exact Drawn0.refl _|apply Drawn0.step)⟩
      replace c5:=Bool.eq_false_iff.mpr c5;subst c5;have H1 : (logjamref02_Has.l0 kj2 a0 a1 0) = some r:=by rw [if_neg (show ¬ (false = true) by decide)] at H;exact H
      clear H;have H:=H1;clear H1;have H':=A0_ H;clear H;go_wp2
      go_loopg [0,5] kj2 (fun kq v0 v5 w'=>∃ (x0_2 : Int) (x5_2 : Int),v0 = .int .u64 x0_2 ∧ v5 = .int .i64 x5_2 ∧ Aside0 (logjamref02_Has.l0 kq x0_2 a1 x5_2 = some r) ∧ Aside0 (kq ≤ kj2) ∧ Drawn0 w w')
      case atStart=>exact ⟨(a0),(0),(by first|rfl|(simp;done)|(simp [*];done)),(by first|rfl|(simp;done)|(simp [*];done)),H',⟨Nat.le_refl _⟩,by repeat (first|exact Drawn0.refl _|apply Drawn0.step)⟩
      case round =>
        clear H';(try clear c2);(try clear p2);(try clear c4);(try clear c4b0);(try clear c5);(try clear p2);obtain ⟨x0_2,x5_2,rfl,rfl,HA,HK2,⟨m2,rfl⟩⟩:=hrel
        cases gk with
        | zero=>exact absurd HA.out (by simp [logjamref02_Has.l0])
        | succ k2 =>
          have H:=HA.out;clear HA;simp only [logjamref02_Has.l0] at H;by_cases c6 : x5_2 < a1;rotate_left
          · rw [if_neg c6] at H
            have c6b0 : decide (x5_2 < a1) = false:=decide_eq_false c6;clear c6;obtain rfl:=Option.some.inj H;go_wp2;go_ret;exact ⟨by first|rfl|(simp;done)|(simp [*];done),by repeat (first|exact Drawn0.refl _|apply Drawn0.step)⟩

          rw [if_pos c6] at H;have c6b0 : decide (x5_2 < a1) = true:=decide_eq_true c6;clear c6;have H':=A0_ H;clear H;go_wp2
          go_roundg k2
          case measure=>have:=HJ2.out;have:=HK2.out;omega
          case rel=>exact ⟨(IntKind.u64.wrap (Int.tdiv x0_2 2)),(wrap64 (x5_2 + 1)),(by first|rfl|(simp;done)|(simp [*];done)),(by first|rfl|(simp;done)|(simp [*];done)),H',⟨by have:=HJ2.out;have:=HK2.out;omega⟩,by repeat (first|exact Drawn0.refl _|apply Drawn0.step)⟩
/-! ### logjamref02_power: function 59 -/
def logjamref02_power.l0 : Nat → Int → Int → Int → Option (Int)
  | 0,_,_,_=>none
  | k + 1,x0,x3,x4=>if x4 < x0 then (logjamref02_power.l0 k x0 (IntKind.u64.wrap (x3 * 2)) (wrap64 (x4 + 1))) else (some x3)
def logjamref02_power.f (k : Nat) (a0 : Int) : Option (Int) := logjamref02_power.l0 k a0 1 0
theorem logjamref02_power.mono_l : ∀ k, (∀ y0 y1 y2, LeO (logjamref02_power.l0 k y0 y1 y2) (logjamref02_power.l0 (k + 1) y0 y1 y2))
  | 0=>fun _ _ _ r h=>by simp [logjamref02_power.l0] at h
  | k + 1=>by
    have ih0:=logjamref02_power.mono_l k
    · intro y0 y1 y2
      unfold logjamref02_power.l0
      repeat' first
      | (with_reducible exact ih0 _ _ _)
      | (with_reducible exact LeO.refl _)
      | (with_reducible exact LeO.none _)
      | (with_reducible refine LeO.ite ?_ ?_)
      | (with_reducible refine LeO.bind ?_ (fun _=>?_))
      | exact ih0 _ _ _
      | exact LeO.none _
      | refine LeO.ite ?_ ?_
      | refine LeO.bind ?_ (fun _=>?_)
theorem logjamref02_power.mono : ∀ a0 k, LeO (logjamref02_power.f k a0) (logjamref02_power.f (k + 1) a0) := by
  intro a0 k
  have ih0:=logjamref02_power.mono_l k;unfold logjamref02_power.f
  repeat' first
      | (with_reducible exact ih0 _ _ _)
      | (with_reducible exact LeO.refl _)
      | (with_reducible exact LeO.none _)
      | (with_reducible refine LeO.ite ?_ ?_)
      | (with_reducible refine LeO.bind ?_ (fun _=>?_))
      | exact ih0 _ _ _
      | exact LeO.none _
      | refine LeO.ite ?_ ?_
      | refine LeO.bind ?_ (fun _=>?_)
set_option maxHeartbeats 8000000 in
set_option maxRecDepth 100000 in
theorem logjamref02_power.calls (k : Nat) (a0 : Int) (r : Int) (w : World) (h : logjamref02_power.f k a0 = some r) :
    Calls Try.prog 59 #[.int .i64 a0] w fun e w'=>e = .returned (.int .u64 r) ∧ Drawn0 w w':=by
  have H : (logjamref02_power.l0 k a0 1 0) = some r:=h;clear h;have H':=A0_ H;clear H;go_enter Try.func59,Try.ntmps59;go_wp2
  go_loopg [3,4] k (fun kq v3 v4 w'=>∃ (x3_1 : Int) (x4_1 : Int),v3 = .int .u64 x3_1 ∧ v4 = .int .i64 x4_1 ∧ Aside0 (logjamref02_power.l0 kq a0 x3_1 x4_1 = some r) ∧ Aside0 (kq ≤ k) ∧ Drawn0 w w')
  case atStart=>exact ⟨(1),(0),(by first|rfl|(simp;done)|(simp [*];done)),(by first|rfl|(simp;done)|(simp [*];done)),H',⟨Nat.le_refl _⟩,by repeat (first|exact Drawn0.refl _|apply Drawn0.step)⟩
  case round =>
    clear H';obtain ⟨x3_1,x4_1,rfl,rfl,HA,HK1,⟨m1,rfl⟩⟩:=hrel
    cases gk with
    | zero=>exact absurd HA.out (by simp [logjamref02_power.l0])
    | succ k1 =>
      have H:=HA.out;clear HA;simp only [logjamref02_power.l0] at H;by_cases c2 : x4_1 < a0;rotate_left
      · rw [if_neg c2] at H
        have c2b0 : decide (x4_1 < a0) = false:=decide_eq_false c2;clear c2;obtain rfl:=Option.some.inj H;go_wp2;go_ret;exact ⟨by first|rfl|(simp;done)|(simp [*];done),by repeat (first|exact Drawn0.refl _|apply Drawn0.step)⟩

      rw [if_pos c2] at H;have c2b0 : decide (x4_1 < a0) = true:=decide_eq_true c2;clear c2;have H':=A0_ H;clear H;go_wp2
      go_roundg k1
      case measure=>have:=HK1.out;omega
      case rel=>exact ⟨(IntKind.u64.wrap (x3_1 * 2)),(wrap64 (x4_1 + 1)),(by first|rfl|(simp;done)|(simp [*];done)),(by first|rfl|(simp;done)|(simp [*];done)),H',⟨by have:=HK1.out;omega⟩,by repeat (first|exact Drawn0.refl _|apply Drawn0.step)⟩
/-! ### logjamref02_With: function 48 -/
def logjamref02_With.f (k : Nat) (a0 : Int) (a1 : Int) : Option (Int) := if a1 < 0 then (some a0) else (if a1 > 63 then (some a0) else ((logjamref02_Has.f k a0 a1).bind fun t158 => (if t158 = true then (some a0) else ((logjamref02_power.f k a1).bind fun t159 => (some (IntKind.u64.wrap (a0 + t159)))))))
theorem logjamref02_With.mono : ∀ a0 a1 k, LeO (logjamref02_With.f k a0 a1) (logjamref02_With.f (k + 1) a0 a1) := by
  intro a0 a1 k
  unfold logjamref02_With.f
  repeat' first
      | (with_reducible exact logjamref02_Has.mono _ _ _)
      | (with_reducible exact logjamref02_power.mono _ _)
      | (with_reducible exact LeO.refl _)
      | (with_reducible exact LeO.none _)
      | (with_reducible refine LeO.ite ?_ ?_)
      | (with_reducible refine LeO.bind ?_ (fun _=>?_))
      | exact logjamref02_Has.mono _ _ _
      | exact logjamref02_power.mono _ _
      | exact LeO.none _
      | refine LeO.ite ?_ ?_
      | refine LeO.bind ?_ (fun _=>?_)
set_option maxHeartbeats 8000000 in
set_option maxRecDepth 100000 in
theorem logjamref02_With.calls (k : Nat) (a0 : Int) (a1 : Int) (r : Int) (w : World) (h : logjamref02_With.f k a0 a1 = some r) :
    Calls Try.prog 48 #[.int .u64 a0,.int .i64 a1] w fun e w'=>e = .returned (.int .u64 r) ∧ Drawn0 w w':=by
  have H : (if a1 < 0 then (some a0) else (if a1 > 63 then (some a0) else ((logjamref02_Has.f k a0 a1).bind fun t158=>(if t158 = true then (some a0) else ((logjamref02_power.f k a1).bind fun t159=>(some (IntKind.u64.wrap (a0 + t159)))))))) = some r:=h;clear h;by_cases c3 : a1 < 0
  · rw [if_pos c3] at H
    have c3b0 : decide (a1 < 0) = true:=decide_eq_true c3;clear c3;obtain rfl:=Option.some.inj H;go_enter Try.func48,Try.ntmps48;go_wp2;go_ret;exact ⟨by first|rfl|(simp;done)|(simp [*];done),by repeat (first|exact Drawn0.refl _|apply Drawn0.step)⟩
  rw [if_neg c3] at H;have c3b0 : decide (a1 < 0) = false:=decide_eq_false c3;clear c3;by_cases c4 : a1 > 63
  · rw [if_pos c4] at H
    have c4b0 : decide (63 < a1) = true:=decide_eq_true c4;clear c4;obtain rfl:=Option.some.inj H;go_enter Try.func48,Try.ntmps48;go_wp2;go_ret;exact ⟨by first|rfl|(simp;done)|(simp [*];done),by repeat (first|exact Drawn0.refl _|apply Drawn0.step)⟩
  rw [if_neg c4] at H;have c4b0 : decide (63 < a1) = false:=decide_eq_false c4;clear c4;replace H:=bm_ H;obtain ⟨t158,A50,H⟩:=H;replace H : (if t158 = true then (some a0) else ((logjamref02_power.f k a1).bind fun t159=>(some (IntKind.u64.wrap (a0 + t159))))) = some r:=H;have A5:=A0_ A50;clear A50;by_cases c6 : t158 = true
  · subst c6
    have H1 : (some a0) = some r:=by rw [if_pos rfl] at H;exact H
    clear H;have H:=H1;clear H1;obtain rfl:=Option.some.inj H;go_enter Try.func48,Try.ntmps48;go_wp2_with (first|(go_at_call 58;(with_reducible refine (logjamref02_Has.calls k a0 a1 true _ A5.out).mono ?_);rintro e w' ⟨rfl,⟨nd,rfl⟩⟩));go_ret;exact ⟨by first|rfl|(simp;done)|(simp [*];done),by repeat (first|exact Drawn0.refl _|apply Drawn0.step)⟩
  replace c6:=Bool.eq_false_iff.mpr c6;subst c6;have H1 : ((logjamref02_power.f k a1).bind fun t159=>(some (IntKind.u64.wrap (a0 + t159)))) = some r:=by rw [if_neg (show ¬ (false = true) by decide)] at H;exact H
  clear H;have H:=H1;clear H1;replace H:=bm_ H;obtain ⟨t159,A70,H⟩:=H;replace H : (some (IntKind.u64.wrap (a0 + t159))) = some r:=H;have A7:=A0_ A70;clear A70;obtain rfl:=Option.some.inj H;go_enter Try.func48,Try.ntmps48;go_wp2_with (first|(go_at_call 58;(with_reducible refine (logjamref02_Has.calls k a0 a1 false _ A5.out).mono ?_);rintro e w' ⟨rfl,⟨nd,rfl⟩⟩)|((with_reducible refine gate_callee (f:=59) rfl ?_);refine goesL_ (some 19) rfl rfl Try.func59 (by kernel_rfl) rfl #[.int .i64 a1] rfl (by first|(simp only [List.map_toArray,List.map_cons,List.map_nil] <;> rfl)|rfl|(simp only [List.length_drop,List.length_take];rfl)) ?_;(with_reducible refine (logjamref02_power.calls k a1 t159 _ A7.out).mono ?_);rintro e w' ⟨rfl,⟨nd,rfl⟩⟩;refine ⟨_,rfl,?_⟩));go_ret;exact ⟨by first|rfl|(simp;done)|(simp [*];done),by repeat (first|exact Drawn0.refl _|apply Drawn0.step)⟩

/-! ### logjamref35_All: function 31 -/
def logjamref35_All.l0 : Nat → Int → Int → List Int → List Int → List (List Int) → List Int → Option (Int)
  | 0,_,_,_,_,_,_=>none
  | k + 1,x3,x4,x161000,x161001,x161002,x161003=>if x4 < 64 then ((logjamref35_Where.f k x161000 x161001 x161002 x161003 x4).bind fun t161=>(if t161 > 0 then ((logjamref02_With.f k x3 x4).bind fun t162=>(logjamref35_All.l0 k t162 (wrap64 (x4 + 1)) x161000 x161001 x161002 x161003)) else (logjamref35_All.l0 k x3 (wrap64 (x4 + 1)) x161000 x161001 x161002 x161003))) else (some x3)
def logjamref35_All.f (k : Nat) (l0_0 : List Int) (l0_1 : List Int) (l0_2 : List (List Int)) (l0_3 : List Int) : Option (Int) := logjamref35_All.l0 k 0 0 l0_0 l0_1 l0_2 l0_3
theorem logjamref35_All.mono_l : ∀ k, (∀ y0 y1 y2 y3 y4 y5, LeO (logjamref35_All.l0 k y0 y1 y2 y3 y4 y5) (logjamref35_All.l0 (k + 1) y0 y1 y2 y3 y4 y5))
  | 0=>fun _ _ _ _ _ _ r h=>by simp [logjamref35_All.l0] at h
  | k + 1=>by
    have ih0:=logjamref35_All.mono_l k
    · intro y0 y1 y2 y3 y4 y5
      unfold logjamref35_All.l0
      repeat' first
      | (with_reducible exact ih0 _ _ _ _ _ _)
      | (with_reducible exact logjamref02_With.mono _ _ _)
      | (with_reducible exact logjamref35_Where.mono _ _ _ _ _ _)
      | (with_reducible exact LeO.refl _)
      | (with_reducible exact LeO.none _)
      | (with_reducible refine LeO.ite ?_ ?_)
      | (with_reducible refine LeO.bind ?_ (fun _=>?_))
      | exact ih0 _ _ _ _ _ _
      | exact logjamref02_With.mono _ _ _
      | exact logjamref35_Where.mono _ _ _ _ _ _
      | exact LeO.none _
      | refine LeO.ite ?_ ?_
      | refine LeO.bind ?_ (fun _=>?_)
theorem logjamref35_All.mono : ∀ a0 a1 a2 a3 k, LeO (logjamref35_All.f k a0 a1 a2 a3) (logjamref35_All.f (k + 1) a0 a1 a2 a3) := by
  intro a0 a1 a2 a3 k
  have ih0:=logjamref35_All.mono_l k;unfold logjamref35_All.f
  repeat' first
      | (with_reducible exact ih0 _ _ _ _ _ _)
      | (with_reducible exact logjamref02_With.mono _ _ _)
      | (with_reducible exact logjamref35_Where.mono _ _ _ _ _ _)
      | (with_reducible exact LeO.refl _)
      | (with_reducible exact LeO.none _)
      | (with_reducible refine LeO.ite ?_ ?_)
      | (with_reducible refine LeO.bind ?_ (fun _=>?_))
      | exact ih0 _ _ _ _ _ _
      | exact logjamref02_With.mono _ _ _
      | exact logjamref35_Where.mono _ _ _ _ _ _
      | exact LeO.none _
      | refine LeO.ite ?_ ?_
      | refine LeO.bind ?_ (fun _=>?_)
set_option maxHeartbeats 8000000 in
set_option maxRecDepth 100000 in
theorem logjamref35_All.calls (k : Nat) (A0_0 : Option Addr) (c0_0 : Nat) (l0_0 : List Int) (A0_1 : Option Addr) (c0_1 : Nat) (l0_1 : List Int) (A0_2 : Option Addr) (c0_2 : Nat) (l0_2 : List (List Int)) (A0_3 : Option Addr) (c0_3 : Nat) (l0_3 : List Int) (r : Int) (w : World) (hr0_0 : Kd.C (Kd.int .i64) w A0_0 l0_0.length l0_0) (hc0_0 : l0_0.length ≤ c0_0) (hr0_1 : Kd.C (Kd.int .i64) w A0_1 l0_1.length l0_1) (hc0_1 : l0_1.length ≤ c0_1) (hr0_2 : Kd.C (Kd.slice 3 (Kd.int .i64)) w A0_2 l0_2.length l0_2) (hc0_2 : l0_2.length ≤ c0_2) (hr0_3 : Kd.C (Kd.int .i64) w A0_3 l0_3.length l0_3) (hc0_3 : l0_3.length ≤ c0_3) (h : logjamref35_All.f k l0_0 l0_1 l0_2 l0_3 = some r) :
    Calls Try.prog 31 #[.agg #[.slice A0_0 l0_0.length c0_0,.slice A0_1 l0_1.length c0_1,.slice A0_2 l0_2.length c0_2,.slice A0_3 l0_3.length c0_3]] w fun e w'=>e = .returned (.int .u64 r) ∧ Below w.heap.size w w':=by
  have hu41:=Try.underlying41;have HR0_0:=A0_ hr0_0;have HC0_0:=A0_ hc0_0;clear hr0_0 hc0_0;have HR0_1:=A0_ hr0_1;have HC0_1:=A0_ hc0_1;clear hr0_1 hc0_1;have HR0_2:=A0_ hr0_2;have HC0_2:=A0_ hc0_2;clear hr0_2 hc0_2;have HR0_3:=A0_ hr0_3;have HC0_3:=A0_ hc0_3;clear hr0_3 hc0_3;have HB:=A0_ (Below.refl w.heap.size w);have H : (logjamref35_All.l0 k 0 0 l0_0 l0_1 l0_2 l0_3) = some r:=h;clear h;have H':=A0_ H;clear H;go_enter Try.func31,Try.ntmps31;go_wp2_with (first|((with_reducible refine gate_dst (N:=1) rfl ?_);refine box_event ?hg (N:=1) ?hd (cs:=#[.slice A0_0 l0_0.length c0_0,.slice A0_1 l0_1.length c0_1,.slice A0_2 l0_2.length c0_2,.slice A0_3 l0_3.length c0_3]) (t:=41) ?hr ?_;(case hd=>rfl);(case hg=>rfl);(case hr=>first|(go_simp;done)|(go_simp;rfl));intro gb160 hg w2 hbox hb;have n0_:=A0_ (below_step (by repeat (first|(with_reducible first|exact HB.out|apply ba_|apply pN_|apply b1_)|exact HB.out)) hb);have n1_:=A0_ (hbox);have n2_:=A0_ ((by rw [hg];exact (below_size (by repeat (first|(with_reducible first|exact HB.out|apply ba_|apply pN_|apply b1_)|exact HB.out))) : w.heap.size ≤ gb160));have n3_:=A0_ ((by rw [hg];exact (below_size (by repeat (first|(with_reducible first|exact HB.out|apply ba_|apply pN_|apply b1_)|exact HB.out))) : w.heap.size ≤ gb160));clear HB;have HB:=n0_;have BK160:=n1_;have GW160:=n2_;have GE160:=n3_;clear n0_ n1_ n2_ n3_;clear hb hbox hg))
  go_loopg [3,4] k (fun kq v3 v4 w'=>∃ (x3_1 : Int) (x4_1 : Int),v3 = .int .u64 x3_1 ∧ v4 = .int .i64 x4_1 ∧ Aside0 (logjamref35_All.l0 kq x3_1 x4_1 l0_0 l0_1 l0_2 l0_3 = some r) ∧ Aside0 (kq ≤ k) ∧ Aside0 (w'.heap[gb160]? = some (.cells #[(.slice A0_0 l0_0.length c0_0),(.slice A0_1 l0_1.length c0_1),(.slice A0_2 l0_2.length c0_2),(.slice A0_3 l0_3.length c0_3)] 41 (0,0))) ∧ Aside0 (Below w.heap.size w w'))
  case atStart=>exact ⟨(0),(0),(by first|rfl|(simp;done)|(simp [*];done)),(by first|rfl|(simp;done)|(simp [*];done)),H',⟨Nat.le_refl _⟩,⟨by (with_reducible repeat first|refine bN_ ?_ _|refine bD_ ?_|refine bA_ ?_ _);exact BK160.out⟩,⟨by repeat (first|(with_reducible first|exact HB.out|apply ba_|apply pN_|apply b1_|refine bs_ ?_ GE160.out)|exact HB.out)⟩⟩
  case round =>
    clear H';(try clear p2);obtain ⟨x3_1,x4_1,rfl,rfl,HA,HK1,BK160,HB⟩:=hrel
    cases gk with
    | zero=>exact absurd HA.out (by simp [logjamref35_All.l0])
    | succ k1 =>
      have H:=HA.out;clear HA;simp only [logjamref35_All.l0] at H;by_cases c3 : x4_1 < 64;rotate_left
      · rw [if_neg c3] at H
        have c3b0 : decide (x4_1 < 64) = false:=decide_eq_false c3;clear c3;obtain rfl:=Option.some.inj H;go_wp2;go_ret;exact ⟨by first|rfl|(simp [errW_none,errW_some] <;> rfl)|(simp [*,errW_none,errW_some] <;> rfl),by repeat (first|(with_reducible first|exact HB.out|apply ba_|apply pN_|apply b1_|refine bs_ ?_ GE160.out)|exact HB.out)⟩

      rw [if_pos c3] at H;have c3b0 : decide (x4_1 < 64) = true:=decide_eq_true c3;clear c3;replace H:=bm_ H;obtain ⟨t161,A40,H⟩:=H;replace H : (if t161 > 0 then ((logjamref02_With.f k1 x3_1 x4_1).bind fun t162=>(logjamref35_All.l0 k1 t162 (wrap64 (x4_1 + 1)) l0_0 l0_1 l0_2 l0_3)) else (logjamref35_All.l0 k1 x3_1 (wrap64 (x4_1 + 1)) l0_0 l0_1 l0_2 l0_3)) = some r:=H;have A4:=A0_ A40;clear A40;by_cases c5 : t161 > 0;rotate_left
      · rw [if_neg c5] at H
        have c5b0 : decide (0 < t161) = false:=decide_eq_false c5;clear c5;have H':=A0_ H;clear H;obtain ⟨hcz9_0,hcz9_1,hcz9_2,hcz9_3,hfz9_0,hfz9_1,hfz9_2,hfz9_3⟩:=cz4_ (w:=wr) BK160.out;go_wp2_with (first|((with_reducible refine gate_callee (f:=32) rfl ?_);refine goesL_ (some 11) rfl rfl Try.func32 (by kernel_rfl) rfl #[.agg #[.slice A0_0 l0_0.length c0_0,.slice A0_1 l0_1.length c0_1,.slice A0_2 l0_2.length c0_2,.slice A0_3 l0_3.length c0_3],.int .i64 x4_1] rfl (by first|(simp only [List.map_toArray,List.map_cons,List.map_nil] <;> rfl)|rfl|(simp only [List.length_drop,List.length_take];rfl)) ?_;(with_reducible refine (logjamref35_Where.calls k1 _ _ l0_0 _ _ l0_1 _ _ l0_2 _ _ l0_3 x4_1 t161 _ ?side1 ?side2 ?side3 ?side4 ?side5 ?side6 ?side7 ?side8 A4.out).mono ?_);(case side1=>repeat (first|exact (Kd.C_below HR0_0.out HB.out)|(with_reducible first|refine Ca_ ?_ _|refine Cn_ ?_ _|refine Cd_ ?_)));(case side2=>exact HC0_0.out);(case side3=>repeat (first|exact (Kd.C_below HR0_1.out HB.out)|(with_reducible first|refine Ca_ ?_ _|refine Cn_ ?_ _|refine Cd_ ?_)));(case side4=>exact HC0_1.out);(case side5=>repeat (first|exact (Kd.C_below HR0_2.out HB.out)|(with_reducible first|refine Ca_ ?_ _|refine Cn_ ?_ _|refine Cd_ ?_)));(case side6=>exact HC0_2.out);(case side7=>repeat (first|exact (Kd.C_below HR0_3.out HB.out)|(with_reducible first|refine Ca_ ?_ _|refine Cn_ ?_ _|refine Cd_ ?_)));(case side8=>exact HC0_3.out);rintro e w10 ⟨rfl,hb⟩;refine ⟨_,rfl,?_⟩;have n0_:=A0_ (blk_below (g:=gb160) (o:=.cells #[.slice A0_0 l0_0.length c0_0,.slice A0_1 l0_1.length c0_1,.slice A0_2 l0_2.length c0_2,.slice A0_3 l0_3.length c0_3] 41 (0,0)) (by (with_reducible repeat first|refine bN_ ?_ _|refine bD_ ?_|refine bA_ ?_ _);exact BK160.out) hb);have n1_:=A0_ (below_step (by repeat (first|(with_reducible first|exact HB.out|apply ba_|apply pN_|apply b1_|refine bs_ ?_ GE160.out)|exact HB.out)) hb);clear BK160;clear HB;have BK160:=n0_;have HB:=n1_;clear n0_ n1_;(try clear hb);(try clear hb2);(try clear hk);(try clear hi)))
        go_roundg k1
        case measure=>have:=HK1.out;omega
        case rel=>exact ⟨(x3_1),(wrap64 (x4_1 + 1)),(by first|rfl|(simp;done)|(simp [*];done)),(by first|rfl|(simp;done)|(simp [*];done)),H',⟨by have:=HK1.out;omega⟩,⟨by (with_reducible repeat first|refine bN_ ?_ _|refine bD_ ?_|refine bA_ ?_ _);exact BK160.out⟩,⟨by repeat (first|(with_reducible first|exact HB.out|apply ba_|apply pN_|apply b1_|refine bs_ ?_ GE160.out)|exact HB.out)⟩⟩
      rw [if_pos c5] at H;have c5b0 : decide (0 < t161) = true:=decide_eq_true c5;clear c5;replace H:=bm_ H;obtain ⟨t162,A60,H⟩:=H;replace H : (logjamref35_All.l0 k1 t162 (wrap64 (x4_1 + 1)) l0_0 l0_1 l0_2 l0_3) = some r:=H;have A6:=A0_ A60;clear A60;have H':=A0_ H;clear H;obtain ⟨hcz7_0,hcz7_1,hcz7_2,hcz7_3,hfz7_0,hfz7_1,hfz7_2,hfz7_3⟩:=cz4_ (w:=wr) BK160.out;go_wp2_with (first|((with_reducible refine gate_callee (f:=32) rfl ?_);refine goesL_ (some 11) rfl rfl Try.func32 (by kernel_rfl) rfl #[.agg #[.slice A0_0 l0_0.length c0_0,.slice A0_1 l0_1.length c0_1,.slice A0_2 l0_2.length c0_2,.slice A0_3 l0_3.length c0_3],.int .i64 x4_1] rfl (by first|(simp only [List.map_toArray,List.map_cons,List.map_nil] <;> rfl)|rfl|(simp only [List.length_drop,List.length_take];rfl)) ?_;(with_reducible refine (logjamref35_Where.calls k1 _ _ l0_0 _ _ l0_1 _ _ l0_2 _ _ l0_3 x4_1 t161 _ ?side1 ?side2 ?side3 ?side4 ?side5 ?side6 ?side7 ?side8 A4.out).mono ?_);(case side1=>repeat (first|exact (Kd.C_below HR0_0.out HB.out)|(with_reducible first|refine Ca_ ?_ _|refine Cn_ ?_ _|refine Cd_ ?_)));(case side2=>exact HC0_0.out);(case side3=>repeat (first|exact (Kd.C_below HR0_1.out HB.out)|(with_reducible first|refine Ca_ ?_ _|refine Cn_ ?_ _|refine Cd_ ?_)));(case side4=>exact HC0_1.out);(case side5=>repeat (first|exact (Kd.C_below HR0_2.out HB.out)|(with_reducible first|refine Ca_ ?_ _|refine Cn_ ?_ _|refine Cd_ ?_)));(case side6=>exact HC0_2.out);(case side7=>repeat (first|exact (Kd.C_below HR0_3.out HB.out)|(with_reducible first|refine Ca_ ?_ _|refine Cn_ ?_ _|refine Cd_ ?_)));(case side8=>exact HC0_3.out);rintro e w8 ⟨rfl,hb⟩;refine ⟨_,rfl,?_⟩;have n0_:=A0_ (blk_below (g:=gb160) (o:=.cells #[.slice A0_0 l0_0.length c0_0,.slice A0_1 l0_1.length c0_1,.slice A0_2 l0_2.length c0_2,.slice A0_3 l0_3.length c0_3] 41 (0,0)) (by (with_reducible repeat first|refine bN_ ?_ _|refine bD_ ?_|refine bA_ ?_ _);exact BK160.out) hb);have n1_:=A0_ (below_step (by repeat (first|(with_reducible first|exact HB.out|apply ba_|apply pN_|apply b1_|refine bs_ ?_ GE160.out)|exact HB.out)) hb);clear BK160;clear HB;have BK160:=n0_;have HB:=n1_;clear n0_ n1_;(try clear hb);(try clear hb2);(try clear hk);(try clear hi))|((with_reducible refine gate_callee (f:=48) rfl ?_);refine goesL_ (some 15) rfl rfl Try.func48 (by kernel_rfl) rfl #[.int .u64 x3_1,.int .i64 x4_1] rfl (by first|(simp only [List.map_toArray,List.map_cons,List.map_nil] <;> rfl)|rfl|(simp only [List.length_drop,List.length_take];rfl)) ?_;(with_reducible refine (logjamref02_With.calls k1 x3_1 x4_1 t162 _ A6.out).mono ?_);rintro e w' ⟨rfl,⟨nd,rfl⟩⟩;refine ⟨_,rfl,?_⟩))
      go_roundg k1
      case measure=>have:=HK1.out;omega
      case rel=>exact ⟨(t162),(wrap64 (x4_1 + 1)),(by first|rfl|(simp;done)|(simp [*];done)),(by first|rfl|(simp;done)|(simp [*];done)),H',⟨by have:=HK1.out;omega⟩,⟨by (with_reducible repeat first|refine bN_ ?_ _|refine bD_ ?_|refine bA_ ?_ _);exact BK160.out⟩,⟨by repeat (first|(with_reducible first|exact HB.out|apply ba_|apply pN_|apply b1_|refine bs_ ?_ GE160.out)|exact HB.out)⟩⟩
end Go.Proofs.Ytjcjhmnfknenlaa.PPlaceApart
