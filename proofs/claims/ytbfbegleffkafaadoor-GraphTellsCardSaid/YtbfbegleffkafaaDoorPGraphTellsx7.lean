/- Go functions as plain Lean functions, and that the calls come to them. Conditions: none. (Written by a program of this session.) -/
import Derived.Test.YtbfbegleffkafaaDoorPGraphTellsx0
namespace Go.Proofs.YtbfbegleffkafaaDoor.PGraphTells
open Go.RowKit Go.Proofs.YtbfbegleffkafaaDoorW.PrintWords Go.Proofs.YtbfbegleffkafaaDoorW.PrintLast Go.Proofs.YtbfbegleffkafaaDoorW.PrintMore
attribute [local go_sem] max2_int min2_int max_two min_two max_three min_three max_four min_four   -- for this text's walks alone
set_option linter.unusedVariables false
set_option linter.unusedSimpArgs false

/-! ### logjamref02_Has: function 55 -/
mutual
def logjamref02_Has.j0 : Nat → Int → Int → Bool → Option (Bool)
  | 0,_,_,_=>none
  | k + 1,x0,x1,x11=>if x11 = true then (some false) else (logjamref02_Has.l0 k x0 x1 0)
def logjamref02_Has.l0 : Nat → Int → Int → Int → Option (Bool)
  | 0,_,_,_=>none
  | k + 1,x0,x1,x5=>if x5 < x1 then (logjamref02_Has.l0 k (IntKind.u64.wrap (Int.tdiv x0 2)) x1 (wrap64 (x5 + 1))) else (some ((Int.tmod x0 2) == 1))
end
def logjamref02_Has.f (k : Nat) (a0 : Int) (a1 : Int) : Option (Bool) := if a1 < 0 then (logjamref02_Has.j0 k a0 a1 true) else (logjamref02_Has.j0 k a0 a1 (decide (a1 > 63)))
theorem logjamref02_Has.mono_l : ∀ k, (∀ y0 y1 y2, LeO (logjamref02_Has.j0 k y0 y1 y2) (logjamref02_Has.j0 (k + 1) y0 y1 y2)) ∧ (∀ y0 y1 y2, LeO (logjamref02_Has.l0 k y0 y1 y2) (logjamref02_Has.l0 (k + 1) y0 y1 y2))
  | 0=>⟨fun _ _ _ r h=>by simp [logjamref02_Has.j0] at h,fun _ _ _ r h=>by simp [logjamref02_Has.l0] at h⟩
  | k + 1=>by
    obtain ⟨ih0,ih1⟩:=logjamref02_Has.mono_l k;refine ⟨?_,?_⟩
    all_goals intros
    all_goals first | unfold logjamref02_Has.j0 | unfold logjamref02_Has.l0
    all_goals
      repeat' first
      | (with_reducible exact ih0 _ _ _)
      | (with_reducible exact ih1 _ _ _)
      | (with_reducible exact LeO.refl _)
      | (with_reducible exact LeO.none _)
      | (with_reducible refine LeO.ite ?_ ?_)
      | (with_reducible refine LeO.bind ?_ (fun _=>?_))
      | exact ih0 _ _ _
      | exact ih1 _ _ _
      | exact LeO.none _
      | refine LeO.ite ?_ ?_
      | refine LeO.bind ?_ (fun _=>?_)
theorem logjamref02_Has.mono : ∀ a0 a1 k, LeO (logjamref02_Has.f k a0 a1) (logjamref02_Has.f (k + 1) a0 a1) := by
  intro a0 a1 k
  obtain ⟨ih0,ih1⟩:=logjamref02_Has.mono_l k;unfold logjamref02_Has.f
  repeat' first
      | (with_reducible exact ih0 _ _ _)
      | (with_reducible exact ih1 _ _ _)
      | (with_reducible exact LeO.refl _)
      | (with_reducible exact LeO.none _)
      | (with_reducible refine LeO.ite ?_ ?_)
      | (with_reducible refine LeO.bind ?_ (fun _=>?_))
      | exact ih0 _ _ _
      | exact ih1 _ _ _
      | exact LeO.none _
      | refine LeO.ite ?_ ?_
      | refine LeO.bind ?_ (fun _=>?_)
set_option maxHeartbeats 8000000 in
set_option maxRecDepth 100000 in
theorem logjamref02_Has.calls (k : Nat) (a0 : Int) (a1 : Int) (r : Bool) (w : World) (h : logjamref02_Has.f k a0 a1 = some r) :
    Calls Tryd.prog 55 #[.int .u64 a0,.int .i64 a1] w fun e w'=>e = .returned (.bool r) ∧ Drawn0 w w':=by
  have H : (if a1 < 0 then (logjamref02_Has.j0 k a0 a1 true) else (logjamref02_Has.j0 k a0 a1 (decide (a1 > 63)))) = some r:=h;clear h;have HC3:=A0_ H;clear H;go_enter Tryd.func55,Tryd.ntmps55
  go_upto_region 1 with (fail)
  go_cut [11] (fun v11 wc=>∃ (kq : Nat) (x11_2 : Bool),v11 = .bool x11_2 ∧ Aside0 (logjamref02_Has.j0 kq a0 a1 x11_2 = some r) ∧ Aside0 (kq ≤ k) ∧ Drawn0 w wc)
  case first =>
    have H:=HC3.out;clear HC3;by_cases c4 : a1 < 0
    · rw [if_pos c4] at H
      have c4b0 : decide (a1 < 0) = true:=decide_eq_true c4;clear c4
      (first|rw [c4b0]|(simp only [i64_w,i32_w];rw [c4b0])|skip)
      have H':=A0_ H;clear H;go_wp2;go_meet
      case rel=>exact ⟨_,(true),(by first|rfl|(simp;done)|(simp [*];done)),H',⟨by first|omega|exact Nat.le_refl _⟩,by repeat (first|exact Drawn0.refl _|apply Drawn0.step)⟩
    rw [if_neg c4] at H;have c4b0 : decide (a1 < 0) = false:=decide_eq_false c4;clear c4
    (first|rw [c4b0]|(simp only [i64_w,i32_w];rw [c4b0])|skip)
    have H':=A0_ H;clear H;go_wp2;go_meet
    case rel=>exact ⟨_,(decide (a1 > 63)),(by first|rfl|(simp;done)|(simp [*];done)),H',⟨by first|omega|exact Nat.le_refl _⟩,by repeat (first|exact Drawn0.refl _|apply Drawn0.step)⟩
  case rest =>
    clear HC3;(try clear p2);(try clear c4);(try clear c4b0);obtain ⟨kq,x11_2,rfl,HA,HJ2,⟨mc2,rfl⟩⟩:=hcut
    cases kq with
    | zero=>exact absurd HA.out (by simp [logjamref02_Has.j0])
    | succ kj2 =>
      have H:=HA.out;clear HA;simp only [logjamref02_Has.j0] at H;by_cases c5 : x11_2 = true
      · subst c5
        have H1 : (some false) = some r:=by rw [if_pos rfl] at H;exact H
        clear H;have H:=H1;clear H1;obtain rfl:=Option.some.inj H;go_wp2;go_ret;exact ⟨by first|rfl|(simp;done)|(simp [*];done),by repeat (first|exact Drawn0.refl _|apply Drawn0.step)⟩
      replace c5:=Bool.eq_false_iff.mpr c5;subst c5;have H1 : (logjamref02_Has.l0 kj2 a0 a1 0) = some r:=by rw [if_neg (show ¬ (false = true) by decide)] at H;exact H
      clear H;have H:=H1;clear H1;have H':=A0_ H;clear H;go_wp2
      go_loopg [0,5] kj2 (fun kq v0 v5 w'=>∃ (x0_2 : Int) (x5_2 : Int),v0 = .int .u64 x0_2 ∧ v5 = .int .i64 x5_2 ∧ Aside0 (logjamref02_Has.l0 kq x0_2 a1 x5_2 = some r) ∧ Aside0 (kq ≤ kj2) ∧ Drawn0 w w')
      case atStart=>exact ⟨(a0),(0),(by first|rfl|(simp;done)|(simp [*];done)),(by first|rfl|(simp;done)|(simp [*];done)),H',⟨Nat.le_refl _⟩,by repeat (first|exact Drawn0.refl _|apply Drawn0.step)⟩
      case round =>
        clear H';(try clear c2);(try clear p2);(try clear c4);(try clear c4b0);(try clear c5);(try clear p2);obtain ⟨x0_2,x5_2,rfl,rfl,HA,HK2,⟨m2,rfl⟩⟩:=hrel
        cases gk with
        | zero=>exact absurd HA.out (by simp [logjamref02_Has.l0])
        | succ k2 =>
          have H:=HA.out;clear HA;simp only [logjamref02_Has.l0] at H;by_cases c6 : x5_2 < a1;rotate_left
          · rw [if_neg c6] at H
            have c6b0 : decide (x5_2 < a1) = false:=decide_eq_false c6;clear c6;obtain rfl:=Option.some.inj H;go_wp2;go_ret;exact ⟨by first|rfl|(simp;done)|(simp [*];done),by repeat (first|exact Drawn0.refl _|apply Drawn0.step)⟩

          rw [if_pos c6] at H;have c6b0 : decide (x5_2 < a1) = true:=decide_eq_true c6;clear c6;have H':=A0_ H;clear H;go_wp2
          go_roundg k2
          case measure=>have:=HJ2.out;have:=HK2.out;omega
          case rel=>exact ⟨(IntKind.u64.wrap (Int.tdiv x0_2 2)),(wrap64 (x5_2 + 1)),(by first|rfl|(simp;done)|(simp [*];done)),(by first|rfl|(simp;done)|(simp [*];done)),H',⟨by have:=HJ2.out;have:=HK2.out;omega⟩,by repeat (first|exact Drawn0.refl _|apply Drawn0.step)⟩
/-! ### logjamref26_Comes: function 66 -/
def logjamref26_Comes.l0 : Nat → Int → Int → Int → Int → Int → List (S68) → Option (Bool)
  | 0,_,_,_,_,_,_=>none
  | k + 1,x1,x2,x7,x8,x204000,x204001=>if x8 < (x204001.length : Int) then (if 0 ≤ x8 then (if ((rd_T68 x204001 x8).f0) < x1 then ((logjamref02_Has.f k x2 ((rd_T68 x204001 x8).f0)).bind fun t206=>(if t206 = true then (logjamref26_Comes.l0 k x1 x2 (wrap64 (x7 + (mn (mx ((rd_T68 x204001 x8).f1) 0) 1048576))) (wrap64 (x8 + 1)) x204000 x204001) else (logjamref26_Comes.l0 k x1 x2 x7 (wrap64 (x8 + 1)) x204000 x204001))) else (logjamref26_Comes.l0 k x1 x2 x7 (wrap64 (x8 + 1)) x204000 x204001)) else (none)) else (some (decide (x7 ≥ x204000)))
def logjamref26_Comes.f (k : Nat) (a0_0 : Int) (l0_1 : List (S68)) (a1 : Int) (a2 : Int) : Option (Bool) := logjamref26_Comes.l0 k a1 a2 0 0 a0_0 l0_1
theorem logjamref26_Comes.mono_l : ∀ k, (∀ y0 y1 y2 y3 y4 y5, LeO (logjamref26_Comes.l0 k y0 y1 y2 y3 y4 y5) (logjamref26_Comes.l0 (k + 1) y0 y1 y2 y3 y4 y5))
  | 0=>fun _ _ _ _ _ _ r h=>by simp [logjamref26_Comes.l0] at h
  | k + 1=>by
    have ih0:=logjamref26_Comes.mono_l k
    · intro y0 y1 y2 y3 y4 y5
      unfold logjamref26_Comes.l0
      repeat' first
      | (with_reducible exact ih0 _ _ _ _ _ _)
      | (with_reducible exact logjamref02_Has.mono _ _ _)
      | (with_reducible exact LeO.refl _)
      | (with_reducible exact LeO.none _)
      | (with_reducible refine LeO.ite ?_ ?_)
      | (with_reducible refine LeO.bind ?_ (fun _=>?_))
      | exact ih0 _ _ _ _ _ _
      | exact logjamref02_Has.mono _ _ _
      | exact LeO.none _
      | refine LeO.ite ?_ ?_
      | refine LeO.bind ?_ (fun _=>?_)
theorem logjamref26_Comes.mono : ∀ a0 a1 a2 a3 k, LeO (logjamref26_Comes.f k a0 a1 a2 a3) (logjamref26_Comes.f (k + 1) a0 a1 a2 a3) := by
  intro a0 a1 a2 a3 k
  have ih0:=logjamref26_Comes.mono_l k;unfold logjamref26_Comes.f
  repeat' first
      | (with_reducible exact ih0 _ _ _ _ _ _)
      | (with_reducible exact logjamref02_Has.mono _ _ _)
      | (with_reducible exact LeO.refl _)
      | (with_reducible exact LeO.none _)
      | (with_reducible refine LeO.ite ?_ ?_)
      | (with_reducible refine LeO.bind ?_ (fun _=>?_))
      | exact ih0 _ _ _ _ _ _
      | exact logjamref02_Has.mono _ _ _
      | exact LeO.none _
      | refine LeO.ite ?_ ?_
      | refine LeO.bind ?_ (fun _=>?_)
set_option maxHeartbeats 8000000 in
set_option maxRecDepth 100000 in
theorem logjamref26_Comes.calls (k : Nat) (a0_0 : Int) (A0_1 : Option Addr) (c0_1 : Nat) (l0_1 : List (S68)) (a1 : Int) (a2 : Int) (r : Bool) (w : World) (hr0_1 : Kd.C k68 w A0_1 l0_1.length l0_1) (hc0_1 : l0_1.length ≤ c0_1) (h : logjamref26_Comes.f k a0_0 l0_1 a1 a2 = some r) :
    Calls Tryd.prog 66 #[.agg #[.int .i64 a0_0,.slice A0_1 l0_1.length c0_1],.int .i64 a1,.int .u64 a2] w fun e w'=>e = .returned (.bool r) ∧ Below w.heap.size w w':=by
  have hu66:=Tryd.underlying66;have hu68:=Tryd.underlying68;have HR0_1:=A0_ hr0_1;have HC0_1:=A0_ hc0_1;clear hr0_1 hc0_1;have HB:=A0_ (Below.refl w.heap.size w);have H : (logjamref26_Comes.l0 k a1 a2 0 0 a0_0 l0_1) = some r:=h;clear h;have H':=A0_ H;clear H;go_enter Tryd.func66,Tryd.ntmps66;go_wp2_with (first|((with_reducible refine gate_dst (N:=3) rfl ?_);refine box_event ?hg (N:=3) ?hd (cs:=#[.int .i64 a0_0,.slice A0_1 l0_1.length c0_1]) (t:=66) ?hr ?_;(case hd=>rfl);(case hg=>rfl);(case hr=>first|(go_simp;done)|(go_simp;rfl));intro gb203 hg w4 hbox hb;have n0_:=A0_ (below_step (by repeat (first|(with_reducible first|exact HB.out|apply ba_|apply pN_|apply b1_)|exact HB.out)) hb);have n1_:=A0_ (hbox);have n2_:=A0_ ((by rw [hg];exact (below_size (by repeat (first|(with_reducible first|exact HB.out|apply ba_|apply pN_|apply b1_)|exact HB.out))) : w.heap.size ≤ gb203));have n3_:=A0_ ((by rw [hg];exact (below_size (by repeat (first|(with_reducible first|exact HB.out|apply ba_|apply pN_|apply b1_)|exact HB.out))) : w.heap.size ≤ gb203));clear HB;have HB:=n0_;have BK203:=n1_;have GW203:=n2_;have GE203:=n3_;clear n0_ n1_ n2_ n3_;clear hb hbox hg))
  go_loopg [7,8] k (fun kq v7 v8 w'=>∃ (x7_1 : Int) (x8_1 : Int),v7 = .int .i64 x7_1 ∧ v8 = .int .i64 x8_1 ∧ Aside0 (logjamref26_Comes.l0 kq a1 a2 x7_1 x8_1 a0_0 l0_1 = some r) ∧ Aside0 (kq ≤ k) ∧ Aside0 (w'.heap[gb203]? = some (.cells #[.int .i64 a0_0,(.slice A0_1 l0_1.length c0_1)] 66 (0,0))) ∧ Aside0 (Below w.heap.size w w'))
  case atStart=>exact ⟨(0),(0),(by first|rfl|(simp;done)|(simp [*];done)),(by first|rfl|(simp;done)|(simp [*];done)),H',⟨Nat.le_refl _⟩,⟨by (with_reducible repeat first|refine bN_ ?_ _|refine bD_ ?_|refine bA_ ?_ _);exact BK203.out⟩,⟨by repeat (first|(with_reducible first|exact HB.out|apply ba_|apply pN_|apply b1_|refine bs_ ?_ GE203.out)|exact HB.out)⟩⟩
  case round =>
    clear H';(try clear p2);obtain ⟨x7_1,x8_1,rfl,rfl,HA,HK1,BK203,HB⟩:=hrel
    cases gk with
    | zero=>exact absurd HA.out (by simp [logjamref26_Comes.l0])
    | succ k1 =>
      have H:=HA.out;clear HA;simp only [logjamref26_Comes.l0] at H;by_cases c5 : x8_1 < (l0_1.length : Int);rotate_left
      · rw [if_neg c5] at H
        have c5b0 : decide (x8_1 < (l0_1.length : Int)) = false:=decide_eq_false c5;clear c5;obtain rfl:=Option.some.inj H;obtain ⟨hcz24_0,hcz24_1,hfz24_0,hfz24_1⟩:=cz2_ (w:=wr) BK203.out;go_wp2;go_ret;exact ⟨by first|rfl|(simp [errW_none,errW_some] <;> rfl)|(simp [*,errW_none,errW_some] <;> rfl),by repeat (first|(with_reducible first|exact HB.out|apply ba_|apply pN_|apply b1_|refine bs_ ?_ GE203.out)|exact HB.out)⟩

      rw [if_pos c5] at H;have c5b0 : decide (x8_1 < (l0_1.length : Int)) = true:=decide_eq_true c5;clear c5;by_cases c6 : 0 ≤ x8_1;rotate_left
      · rw [if_neg c6] at H
        exact absurd H (by simp)
      rw [if_pos c6] at H;have c6b0 : decide (0 ≤ x8_1) = true:=decide_eq_true c6;clear c6;by_cases c7 : ((rd_T68 l0_1 x8_1).f0) < a1;rotate_left
      · rw [if_neg c7] at H
        have c7b0 : decide (((rd_T68 l0_1 x8_1).f0) < a1) = false:=decide_eq_false c7;clear c7;have H':=A0_ H;clear H;obtain ⟨hcz20_0,hcz20_1,hfz20_0,hfz20_1⟩:=cz2_ (w:=wr) BK203.out;have p204 : 0 ≤ (x8_1 : Int):=of_decide_eq_true (by first|(with_reducible assumption)|assumption);have q204 : x8_1 < (l0_1.length : Int):=of_decide_eq_true (by first|(with_reducible assumption)|assumption);obtain ⟨ad204,e204,hx204_0,hx204_1⟩:=at_T68 HR0_1.out x8_1 p204 q204;cases e204;replace hx204_0:=(HB.out.cell (bl_ w _ hx204_0)).trans hx204_0;replace hx204_1:=(HB.out.cell (bl_ w _ hx204_1)).trans hx204_1;replace p204:=eq_true p204;replace q204:=eq_true q204;go_wp2_with (first|((with_reducible refine gate_dst (N:=9) rfl ?_);refine box_event ?hg (N:=9) ?hd (cs:=#[.int .i64 0,.int .i64 0]) (t:=68) ?hr ?_;(case hd=>rfl);(case hg=>rfl);(case hr=>first|(go_simp;done)|(go_simp;rfl));intro gb205 hg w21 hbox hb;have n0_:=A0_ (blk_below (g:=gb203) (o:=.cells #[.int .i64 a0_0,.slice (some ad204) l0_1.length c0_1] 66 (0,0)) (by (with_reducible repeat first|refine bN_ ?_ _|refine bD_ ?_|refine bA_ ?_ _);exact BK203.out) hb);have n1_:=A0_ (below_step (by repeat (first|(with_reducible first|exact HB.out|apply ba_|apply pN_|apply b1_|refine bs_ ?_ GE203.out)|exact HB.out)) hb);have n2_:=A0_ (hbox);have n3_:=A0_ ((by rw [hg];exact (below_size (by repeat (first|(with_reducible first|exact HB.out|apply ba_|apply pN_|apply b1_|refine bs_ ?_ GE203.out)|exact HB.out))) : w.heap.size ≤ gb205));have n4_:=A0_ ((by rw [hg];exact (below_size (by repeat (first|(with_reducible first|exact HB.out|apply ba_|apply pN_|apply b1_|refine bs_ ?_ GE203.out)|exact HB.out))) : w.heap.size ≤ gb205));have n5_:=A0_ ((by rw [hg];exact Nat.ne_of_lt (blk_lt (g:=gb203) (o:=.cells #[.int .i64 a0_0,.slice (some ad204) l0_1.length c0_1] 66 (0,0)) (by (with_reducible repeat first|refine bN_ ?_ _|refine bD_ ?_|refine bA_ ?_ _);exact BK203.out)) : gb203 ≠ gb205));have n6_:=A0_ ((by rw [hg];exact Nat.ne_of_gt (blk_lt (g:=gb203) (o:=.cells #[.int .i64 a0_0,.slice (some ad204) l0_1.length c0_1] 66 (0,0)) (by (with_reducible repeat first|refine bN_ ?_ _|refine bD_ ?_|refine bA_ ?_ _);exact BK203.out)) : gb205 ≠ gb203));clear BK203;clear HB;have BK203:=n0_;have HB:=n1_;have BK205:=n2_;have GW205:=n3_;have GE205:=n4_;have NB203_205:=n5_;have NB205_203:=n6_;clear n0_ n1_ n2_ n3_ n4_ n5_ n6_;clear hb hbox hg;have hnb22:=NB205_203.out;have hnc22:=NB203_205.out;obtain ⟨hcz23_0,hcz23_1,hfz23_0,hfz23_1⟩:=cz2_ (w:=w21) BK205.out))
        go_roundg k1
        case measure=>have:=HK1.out;omega
        case rel=>exact ⟨(x7_1),(wrap64 (x8_1 + 1)),(by first|rfl|(simp;done)|(simp [*];done)),(by first|rfl|(simp;done)|(simp [*];done)),H',⟨by have:=HK1.out;omega⟩,⟨by (with_reducible repeat first|refine bN_ ?_ _|refine bD_ ?_|refine bA_ ?_ _);refine blk_far ?_ NB203_205.out _;(with_reducible repeat first|refine bN_ ?_ _|refine bD_ ?_|refine bA_ ?_ _);refine blk_far ?_ NB203_205.out _;(with_reducible repeat first|refine bN_ ?_ _|refine bD_ ?_|refine bA_ ?_ _);exact BK203.out⟩,⟨by repeat (first|(with_reducible first|exact HB.out|apply ba_|apply pN_|apply b1_|refine bs_ ?_ GE203.out|refine bs_ ?_ GE205.out)|exact HB.out)⟩⟩
      rw [if_pos c7] at H;have c7b0 : decide (((rd_T68 l0_1 x8_1).f0) < a1) = true:=decide_eq_true c7;clear c7;replace H:=bm_ H;obtain ⟨t206,A80,H⟩:=H;replace H : (if t206 = true then (logjamref26_Comes.l0 k1 a1 a2 (wrap64 (x7_1 + (mn (mx ((rd_T68 l0_1 x8_1).f1) 0) 1048576))) (wrap64 (x8_1 + 1)) a0_0 l0_1) else (logjamref26_Comes.l0 k1 a1 a2 x7_1 (wrap64 (x8_1 + 1)) a0_0 l0_1)) = some r:=H;have A8:=A0_ A80;clear A80;by_cases c9 : t206 = true;rotate_left
      · replace c9:=Bool.eq_false_iff.mpr c9
        subst c9;have H1 : (logjamref26_Comes.l0 k1 a1 a2 x7_1 (wrap64 (x8_1 + 1)) a0_0 l0_1) = some r:=by rw [if_neg (show ¬ (false = true) by decide)] at H;exact H
        clear H;have H:=H1;clear H1;have H':=A0_ H;clear H;obtain ⟨hcz16_0,hcz16_1,hfz16_0,hfz16_1⟩:=cz2_ (w:=wr) BK203.out;have p204 : 0 ≤ (x8_1 : Int):=of_decide_eq_true (by first|(with_reducible assumption)|assumption);have q204 : x8_1 < (l0_1.length : Int):=of_decide_eq_true (by first|(with_reducible assumption)|assumption);obtain ⟨ad204,e204,hx204_0,hx204_1⟩:=at_T68 HR0_1.out x8_1 p204 q204;cases e204;replace hx204_0:=(HB.out.cell (bl_ w _ hx204_0)).trans hx204_0;replace hx204_1:=(HB.out.cell (bl_ w _ hx204_1)).trans hx204_1;replace p204:=eq_true p204;replace q204:=eq_true q204;go_wp2_with (first|((with_reducible refine gate_dst (N:=9) rfl ?_);refine box_event ?hg (N:=9) ?hd (cs:=#[.int .i64 0,.int .i64 0]) (t:=68) ?hr ?_;(case hd=>rfl);(case hg=>rfl);(case hr=>first|(go_simp;done)|(go_simp;rfl));intro gb205 hg w17 hbox hb;have n0_:=A0_ (blk_below (g:=gb203) (o:=.cells #[.int .i64 a0_0,.slice (some ad204) l0_1.length c0_1] 66 (0,0)) (by (with_reducible repeat first|refine bN_ ?_ _|refine bD_ ?_|refine bA_ ?_ _);exact BK203.out) hb);have n1_:=A0_ (below_step (by repeat (first|(with_reducible first|exact HB.out|apply ba_|apply pN_|apply b1_|refine bs_ ?_ GE203.out)|exact HB.out)) hb);have n2_:=A0_ (hbox);have n3_:=A0_ ((by rw [hg];exact (below_size (by repeat (first|(with_reducible first|exact HB.out|apply ba_|apply pN_|apply b1_|refine bs_ ?_ GE203.out)|exact HB.out))) : w.heap.size ≤ gb205));have n4_:=A0_ ((by rw [hg];exact (below_size (by repeat (first|(with_reducible first|exact HB.out|apply ba_|apply pN_|apply b1_|refine bs_ ?_ GE203.out)|exact HB.out))) : w.heap.size ≤ gb205));have n5_:=A0_ ((by rw [hg];exact Nat.ne_of_lt (blk_lt (g:=gb203) (o:=.cells #[.int .i64 a0_0,.slice (some ad204) l0_1.length c0_1] 66 (0,0)) (by (with_reducible repeat first|refine bN_ ?_ _|refine bD_ ?_|refine bA_ ?_ _);exact BK203.out)) : gb203 ≠ gb205));have n6_:=A0_ ((by rw [hg];exact Nat.ne_of_gt (blk_lt (g:=gb203) (o:=.cells #[.int .i64 a0_0,.slice (some ad204) l0_1.length c0_1] 66 (0,0)) (by (with_reducible repeat first|refine bN_ ?_ _|refine bD_ ?_|refine bA_ ?_ _);exact BK203.out)) : gb205 ≠ gb203));clear BK203;clear HB;have BK203:=n0_;have HB:=n1_;have BK205:=n2_;have GW205:=n3_;have GE205:=n4_;have NB203_205:=n5_;have NB205_203:=n6_;clear n0_ n1_ n2_ n3_ n4_ n5_ n6_;clear hb hbox hg;have hnb18:=NB205_203.out;have hnc18:=NB203_205.out;obtain ⟨hcz19_0,hcz19_1,hfz19_0,hfz19_1⟩:=cz2_ (w:=w17) BK205.out)|(go_at_call 55;(with_reducible refine (logjamref02_Has.calls k1 a2 ((rd_T68 l0_1 x8_1).f0) false _ A8.out).mono ?_);rintro e w' ⟨rfl,⟨nd,rfl⟩⟩))
        go_roundg k1
        case measure=>have:=HK1.out;omega
        case rel=>exact ⟨(x7_1),(wrap64 (x8_1 + 1)),(by first|rfl|(simp;done)|(simp [*];done)),(by first|rfl|(simp;done)|(simp [*];done)),H',⟨by have:=HK1.out;omega⟩,⟨by (with_reducible repeat first|refine bN_ ?_ _|refine bD_ ?_|refine bA_ ?_ _);refine blk_far ?_ NB203_205.out _;(with_reducible repeat first|refine bN_ ?_ _|refine bD_ ?_|refine bA_ ?_ _);refine blk_far ?_ NB203_205.out _;(with_reducible repeat first|refine bN_ ?_ _|refine bD_ ?_|refine bA_ ?_ _);exact BK203.out⟩,⟨by repeat (first|(with_reducible first|exact HB.out|apply ba_|apply pN_|apply b1_|refine bs_ ?_ GE203.out|refine bs_ ?_ GE205.out)|exact HB.out)⟩⟩
      subst c9;have H1 : (logjamref26_Comes.l0 k1 a1 a2 (wrap64 (x7_1 + (mn (mx ((rd_T68 l0_1 x8_1).f1) 0) 1048576))) (wrap64 (x8_1 + 1)) a0_0 l0_1) = some r:=by rw [if_pos rfl] at H;exact H
      clear H;have H:=H1;clear H1;obtain ⟨ji10,hji10⟩ : ∃ j_ : Int,(mx ((rd_T68 l0_1 x8_1).f1) 0) = j_:=⟨_,rfl⟩;replace H : (logjamref26_Comes.l0 k1 a1 a2 (wrap64 (x7_1 + (mn (ji10) 1048576))) (wrap64 (x8_1 + 1)) a0_0 l0_1) = some r:=by first|(rw [hji10] at H;exact H)|(simp only [hji10] at H ⊢;exact H)
      (try rw [hji10] at A8);have hji10_ : (if ((rd_T68 l0_1 x8_1).f1) < 0 then 0 else ((rd_T68 l0_1 x8_1).f1)) = ji10:=hji10;obtain ⟨ji11,hji11⟩ : ∃ j_ : Int,(mn (ji10) 1048576) = j_:=⟨_,rfl⟩;replace H : (logjamref26_Comes.l0 k1 a1 a2 (wrap64 (x7_1 + (ji11))) (wrap64 (x8_1 + 1)) a0_0 l0_1) = some r:=by first|(rw [hji11] at H;exact H)|(simp only [hji11] at H ⊢;exact H)
      (try rw [hji11] at A8);have hji11_ : (if 1048576 < (ji10) then 1048576 else (ji10)) = ji11:=hji11;have H':=A0_ H;clear H;obtain ⟨hcz12_0,hcz12_1,hfz12_0,hfz12_1⟩:=cz2_ (w:=wr) BK203.out;have p204 : 0 ≤ (x8_1 : Int):=of_decide_eq_true (by first|(with_reducible assumption)|assumption);have q204 : x8_1 < (l0_1.length : Int):=of_decide_eq_true (by first|(with_reducible assumption)|assumption);obtain ⟨ad204,e204,hx204_0,hx204_1⟩:=at_T68 HR0_1.out x8_1 p204 q204;cases e204;replace hx204_0:=(HB.out.cell (bl_ w _ hx204_0)).trans hx204_0;replace hx204_1:=(HB.out.cell (bl_ w _ hx204_1)).trans hx204_1;replace p204:=eq_true p204;replace q204:=eq_true q204;go_wp2_with (first|((with_reducible refine gate_dst (N:=9) rfl ?_);refine box_event ?hg (N:=9) ?hd (cs:=#[.int .i64 0,.int .i64 0]) (t:=68) ?hr ?_;(case hd=>rfl);(case hg=>rfl);(case hr=>first|(go_simp;done)|(go_simp;rfl));intro gb205 hg w13 hbox hb;have n0_:=A0_ (blk_below (g:=gb203) (o:=.cells #[.int .i64 a0_0,.slice (some ad204) l0_1.length c0_1] 66 (0,0)) (by (with_reducible repeat first|refine bN_ ?_ _|refine bD_ ?_|refine bA_ ?_ _);exact BK203.out) hb);have n1_:=A0_ (below_step (by repeat (first|(with_reducible first|exact HB.out|apply ba_|apply pN_|apply b1_|refine bs_ ?_ GE203.out)|exact HB.out)) hb);have n2_:=A0_ (hbox);have n3_:=A0_ ((by rw [hg];exact (below_size (by repeat (first|(with_reducible first|exact HB.out|apply ba_|apply pN_|apply b1_|refine bs_ ?_ GE203.out)|exact HB.out))) : w.heap.size ≤ gb205));have n4_:=A0_ ((by rw [hg];exact (below_size (by repeat (first|(with_reducible first|exact HB.out|apply ba_|apply pN_|apply b1_|refine bs_ ?_ GE203.out)|exact HB.out))) : w.heap.size ≤ gb205));have n5_:=A0_ ((by rw [hg];exact Nat.ne_of_lt (blk_lt (g:=gb203) (o:=.cells #[.int .i64 a0_0,.slice (some ad204) l0_1.length c0_1] 66 (0,0)) (by (with_reducible repeat first|refine bN_ ?_ _|refine bD_ ?_|refine bA_ ?_ _);exact BK203.out)) : gb203 ≠ gb205));have n6_:=A0_ ((by rw [hg];exact Nat.ne_of_gt (blk_lt (g:=gb203) (o:=.cells #[.int .i64 a0_0,.slice (some ad204) l0_1.length c0_1] 66 (0,0)) (by (with_reducible repeat first|refine bN_ ?_ _|refine bD_ ?_|refine bA_ ?_ _);exact BK203.out)) : gb205 ≠ gb203));clear BK203;clear HB;have BK203:=n0_;have HB:=n1_;have BK205:=n2_;have GW205:=n3_;have GE205:=n4_;have NB203_205:=n5_;have NB205_203:=n6_;clear n0_ n1_ n2_ n3_ n4_ n5_ n6_;clear hb hbox hg;have hnb14:=NB205_203.out;have hnc14:=NB203_205.out;obtain ⟨hcz15_0,hcz15_1,hfz15_0,hfz15_1⟩:=cz2_ (w:=w13) BK205.out)|(go_at_call 55;(with_reducible refine (logjamref02_Has.calls k1 a2 ((rd_T68 l0_1 x8_1).f0) true _ A8.out).mono ?_);rintro e w' ⟨rfl,⟨nd,rfl⟩⟩))
      go_roundg k1
      case measure=>have:=HK1.out;omega
      case rel=>exact ⟨(wrap64 (x7_1 + (ji11))),(wrap64 (x8_1 + 1)),(by first|rfl|(simp;done)|(simp only [← hji11] <;> (first|rfl|simp))|(simp [*];done)),(by first|rfl|(simp;done)|(simp [*];done)),H',⟨by have:=HK1.out;omega⟩,⟨by (with_reducible repeat first|refine bN_ ?_ _|refine bD_ ?_|refine bA_ ?_ _);refine blk_far ?_ NB203_205.out _;(with_reducible repeat first|refine bN_ ?_ _|refine bD_ ?_|refine bA_ ?_ _);refine blk_far ?_ NB203_205.out _;(with_reducible repeat first|refine bN_ ?_ _|refine bD_ ?_|refine bA_ ?_ _);exact BK203.out⟩,⟨by repeat (first|(with_reducible first|exact HB.out|apply ba_|apply pN_|apply b1_|refine bs_ ?_ GE203.out|refine bs_ ?_ GE205.out)|exact HB.out)⟩⟩
/-! ### logjamref26_Met: function 28 -/
mutual
def logjamref26_Met.j0 : Nat → List (S44) → Int → Int → Bool → Option (Bool)
  | 0,_,_,_,_=>none
  | k + 1,x0,x1,x2,x18=>if x18 = true then (some false) else (if 0 ≤ x1 then (if x1 < (x0.length : Int) then (if ((rd_T44 x0 x1).f0 = true) then (logjamref26_Met.l0 k x0 x1 x2 0) else (some true)) else (none)) else (none))
def logjamref26_Met.l0 : Nat → List (S44) → Int → Int → Int → Option (Bool)
  | 0,_,_,_,_=>none
  | k + 1,x0,x1,x2,x7=>if 0 ≤ x1 then (if x1 < (x0.length : Int) then (if x7 < (((rd_T44 x0 x1).f1).length : Int) then (if 0 ≤ x7 then (logjamref26_Met.l1 k x0 x1 x2 x7 (rd_L5 ((rd_T44 x0 x1).f1) x7) true 0) else (none)) else (some false)) else (none)) else (none)
def logjamref26_Met.l1 : Nat → List (S44) → Int → Int → Int → List (S66) → Bool → Int → Option (Bool)
  | 0,_,_,_,_,_,_,_=>none
  | k + 1,x0,x1,x2,x7,x8,x9,x10=>if x10 < (x8.length : Int) then (if x9 = true then (if 0 ≤ x10 then ((logjamref26_Comes.f k ((rd_T66 x8 x10).f0) ((rd_T66 x8 x10).f1) (x0.length : Int) x2).bind fun t212=>(logjamref26_Met.l1 k x0 x1 x2 x7 x8 t212 (wrap64 (x10 + 1)))) else (none)) else (logjamref26_Met.l1 k x0 x1 x2 x7 x8 false (wrap64 (x10 + 1)))) else (if x9 = true then (some true) else (logjamref26_Met.l0 k x0 x1 x2 (wrap64 (x7 + 1))))
end
def logjamref26_Met.f (k : Nat) (l0 : List (S44)) (a1 : Int) (a2 : Int) : Option (Bool) := if a1 < 0 then (logjamref26_Met.j0 k l0 a1 a2 true) else (logjamref26_Met.j0 k l0 a1 a2 (decide (a1 ≥ (l0.length : Int))))
theorem logjamref26_Met.mono_l : ∀ k, (∀ y0 y1 y2 y3, LeO (logjamref26_Met.j0 k y0 y1 y2 y3) (logjamref26_Met.j0 (k + 1) y0 y1 y2 y3)) ∧ (∀ y0 y1 y2 y3, LeO (logjamref26_Met.l0 k y0 y1 y2 y3) (logjamref26_Met.l0 (k + 1) y0 y1 y2 y3)) ∧ (∀ y0 y1 y2 y3 y4 y5 y6, LeO (logjamref26_Met.l1 k y0 y1 y2 y3 y4 y5 y6) (logjamref26_Met.l1 (k + 1) y0 y1 y2 y3 y4 y5 y6))
  | 0=>⟨fun _ _ _ _ r h=>by simp [logjamref26_Met.j0] at h,fun _ _ _ _ r h=>by simp [logjamref26_Met.l0] at h,fun _ _ _ _ _ _ _ r h=>by simp [logjamref26_Met.l1] at h⟩
  | k + 1=>by
    obtain ⟨ih0,ih1,ih2⟩:=logjamref26_Met.mono_l k;refine ⟨?_,?_,?_⟩
    all_goals intros
    all_goals first | unfold logjamref26_Met.j0 | unfold logjamref26_Met.l0 | unfold logjamref26_Met.l1
    all_goals
      repeat' first
      | (with_reducible exact ih0 _ _ _ _)
      | (with_reducible exact ih1 _ _ _ _)
      | (with_reducible exact ih2 _ _ _ _ _ _ _)
      | (with_reducible exact logjamref26_Comes.mono _ _ _ _ _)
      | (with_reducible exact LeO.refl _)
      | (with_reducible exact LeO.none _)
      | (with_reducible refine LeO.ite ?_ ?_)
      | (with_reducible refine LeO.bind ?_ (fun _=>?_))
      | exact ih0 _ _ _ _
      | exact ih1 _ _ _ _
      | exact ih2 _ _ _ _ _ _ _
      | exact logjamref26_Comes.mono _ _ _ _ _
      | exact LeO.none _
      | refine LeO.ite ?_ ?_
      | refine LeO.bind ?_ (fun _=>?_)
theorem logjamref26_Met.mono : ∀ a0 a1 a2 k, LeO (logjamref26_Met.f k a0 a1 a2) (logjamref26_Met.f (k + 1) a0 a1 a2) := by
  intro a0 a1 a2 k
  obtain ⟨ih0,ih1,ih2⟩:=logjamref26_Met.mono_l k;unfold logjamref26_Met.f
  repeat' first
      | (with_reducible exact ih0 _ _ _ _)
      | (with_reducible exact ih1 _ _ _ _)
      | (with_reducible exact ih2 _ _ _ _ _ _ _)
      | (with_reducible exact logjamref26_Comes.mono _ _ _ _ _)
      | (with_reducible exact LeO.refl _)
      | (with_reducible exact LeO.none _)
      | (with_reducible refine LeO.ite ?_ ?_)
      | (with_reducible refine LeO.bind ?_ (fun _=>?_))
      | exact ih0 _ _ _ _
      | exact ih1 _ _ _ _
      | exact ih2 _ _ _ _ _ _ _
      | exact logjamref26_Comes.mono _ _ _ _ _
      | exact LeO.none _
      | refine LeO.ite ?_ ?_
      | refine LeO.bind ?_ (fun _=>?_)
set_option maxHeartbeats 8000000 in
set_option maxRecDepth 100000 in
theorem logjamref26_Met.calls (k : Nat) (A0 : Option Addr) (c0 : Nat) (l0 : List (S44)) (a1 : Int) (a2 : Int) (r : Bool) (w : World) (hr0 : Kd.C k44 w A0 l0.length l0) (hc0 : l0.length ≤ c0) (h : logjamref26_Met.f k l0 a1 a2 = some r) :
    Calls Tryd.prog 28 #[.slice A0 l0.length c0,.int .i64 a1,.int .u64 a2] w fun e w'=>e = .returned (.bool r) ∧ Below w.heap.size w w':=by
  have hu66:=Tryd.underlying66;have HR0:=A0_ hr0;have HC0:=A0_ hc0;clear hr0 hc0;have HB:=A0_ (Below.refl w.heap.size w);have H : (if a1 < 0 then (logjamref26_Met.j0 k l0 a1 a2 true) else (logjamref26_Met.j0 k l0 a1 a2 (decide (a1 ≥ (l0.length : Int))))) = some r:=h;clear h;have HC4:=A0_ H;clear H;go_enter Tryd.func28,Tryd.ntmps28
  go_upto_region 1 with (fail)
  go_cut [18] (fun v18 wc=>∃ (kq : Nat) (x18_3 : Bool),v18 = .bool x18_3 ∧ Aside0 (logjamref26_Met.j0 kq l0 a1 a2 x18_3 = some r) ∧ Aside0 (kq ≤ k) ∧ Aside0 (Below w.heap.size w wc))
  case first =>
    have H:=HC4.out;clear HC4;by_cases c5 : a1 < 0
    · rw [if_pos c5] at H
      have c5b0 : decide (a1 < 0) = true:=decide_eq_true c5;clear c5
      (first|rw [c5b0]|(simp only [i64_w,i32_w];rw [c5b0])|skip)
      have H':=A0_ H;clear H;go_wp2;go_meet
      case rel=>exact ⟨_,(true),(by first|rfl|(simp;done)|(simp [*];done)),H',⟨by first|omega|exact Nat.le_refl _⟩,⟨by repeat (first|(with_reducible first|exact HB.out|apply ba_|apply pN_|apply b1_)|exact HB.out)⟩⟩
    rw [if_neg c5] at H;have c5b0 : decide (a1 < 0) = false:=decide_eq_false c5;clear c5
    (first|rw [c5b0]|(simp only [i64_w,i32_w];rw [c5b0])|skip)
    have H':=A0_ H;clear H;go_wp2;go_meet
    case rel=>exact ⟨_,(decide (a1 ≥ (l0.length : Int))),(by first|rfl|(simp;done)|(simp [*];done)),H',⟨by first|omega|exact Nat.le_refl _⟩,⟨by repeat (first|(with_reducible first|exact HB.out|apply ba_|apply pN_|apply b1_)|exact HB.out)⟩⟩
  case rest =>
    clear HC4;(try clear c2);(try clear p2);(try clear c5);(try clear c5b0);obtain ⟨kq,x18_3,rfl,HA,HJ3,HB⟩:=hcut
    cases kq with
    | zero=>exact absurd HA.out (by simp [logjamref26_Met.j0])
    | succ kj3 =>
      have H:=HA.out;clear HA;simp only [logjamref26_Met.j0] at H;by_cases c6 : x18_3 = true
      · subst c6
        have H1 : (some false) = some r:=by rw [if_pos rfl] at H;exact H
        clear H;have H:=H1;clear H1;obtain rfl:=Option.some.inj H;go_wp2;go_ret;exact ⟨by first|rfl|(simp [errW_none,errW_some] <;> rfl)|(simp [*,errW_none,errW_some] <;> rfl),by repeat (first|(with_reducible first|exact HB.out|apply ba_|apply pN_|apply b1_)|exact HB.out)⟩
      replace c6:=Bool.eq_false_iff.mpr c6;subst c6;have H1 : (if 0 ≤ a1 then (if a1 < (l0.length : Int) then (if ((rd_T44 l0 a1).f0 = true) then (logjamref26_Met.l0 kj3 l0 a1 a2 0) else (some true)) else (none)) else (none)) = some r:=by rw [if_neg (show ¬ (false = true) by decide)] at H;exact H
      clear H;have H:=H1;clear H1;by_cases c7 : 0 ≤ a1;rotate_left
      · rw [if_neg c7] at H
        exact absurd H (by simp)

      rw [if_pos c7] at H;have c7b0 : decide (0 ≤ a1) = true:=decide_eq_true c7;clear c7;by_cases c8 : a1 < (l0.length : Int);rotate_left
      · rw [if_neg c8] at H
        exact absurd H (by simp)
      rw [if_pos c8] at H;have c8b0 : decide (a1 < (l0.length : Int)) = true:=decide_eq_true c8;clear c8;obtain ⟨bq9,hbq9⟩ : ∃ b_ : Bool,b_ = ((rd_T44 l0 a1).f0):=⟨_,rfl⟩;replace H : (if (bq9 = true) then (logjamref26_Met.l0 kj3 l0 a1 a2 0) else (some true)) = some r:=by rw [← hbq9] at H;exact H
      have Nbq9:=A0_ hbq9;clear hbq9;by_cases c10 : (bq9 = true);rotate_left
      · replace c10:=Bool.eq_false_iff.mpr c10
        subst c10;have H1 : (some true) = some r:=by rw [if_neg (show ¬ (false = true) by decide)] at H;exact H
        clear H;have H:=H1;clear H1;obtain rfl:=Option.some.inj H;have p207 : 0 ≤ (a1 : Int):=of_decide_eq_true (by first|(with_reducible assumption)|assumption);have q207 : a1 < (l0.length : Int):=of_decide_eq_true (by first|(with_reducible assumption)|assumption);obtain ⟨ad207,A207_1,c207_1,e207,hx207_0,hx207_1,hl207_1,hi207_1⟩:=at_T44 HR0.out a1 p207 q207;(try rw [← Nbq9.out] at hx207_0);cases e207;replace hx207_0:=(HB.out.cell (bl_ w _ hx207_0)).trans hx207_0;replace hx207_1:=(HB.out.cell (bl_ w _ hx207_1)).trans hx207_1;have HR207_1:=A0_ hi207_1;have HC207_1:=A0_ hl207_1;clear hi207_1 hl207_1;replace p207:=eq_true p207;replace q207:=eq_true q207;go_wp2;go_ret;exact ⟨by first|rfl|(simp [errW_none,errW_some] <;> rfl)|(simp [*,errW_none,errW_some] <;> rfl),by repeat (first|(with_reducible first|exact HB.out|apply ba_|apply pN_|apply b1_)|exact HB.out)⟩
      subst c10;have H1 : (logjamref26_Met.l0 kj3 l0 a1 a2 0) = some r:=by rw [if_pos rfl] at H;exact H
      clear H;have H:=H1;clear H1;have H':=A0_ H;clear H;have p207 : 0 ≤ (a1 : Int):=of_decide_eq_true (by first|(with_reducible assumption)|assumption);have q207 : a1 < (l0.length : Int):=of_decide_eq_true (by first|(with_reducible assumption)|assumption);obtain ⟨ad207,A207_1,c207_1,e207,hx207_0,hx207_1,hl207_1,hi207_1⟩:=at_T44 HR0.out a1 p207 q207;(try rw [← Nbq9.out] at hx207_0);cases e207;replace hx207_0:=(HB.out.cell (bl_ w _ hx207_0)).trans hx207_0;replace hx207_1:=(HB.out.cell (bl_ w _ hx207_1)).trans hx207_1;have HR207_1:=A0_ hi207_1;have HC207_1:=A0_ hl207_1;clear hi207_1 hl207_1;replace p207:=eq_true p207;replace q207:=eq_true q207;go_wp2
      go_loopg [7] kj3 (fun kq v7 w'=>∃ (x7_2 : Int),v7 = .int .i64 x7_2 ∧ Aside0 (logjamref26_Met.l0 kq l0 a1 a2 x7_2 = some r) ∧ Aside0 (kq ≤ kj3) ∧ Aside0 (Below w.heap.size w w'))
      case atStart=>exact ⟨(0),(by first|rfl|(simp;done)|(simp [*];done)),H',⟨Nat.le_refl _⟩,⟨by repeat (first|(with_reducible first|exact HB.out|apply ba_|apply pN_|apply b1_)|exact HB.out)⟩⟩
      case round =>
        clear H';(try clear c1);(try clear c2);(try clear p2);(try clear q2);(try clear hx2);(try clear c5);(try clear c5b0);(try clear c6);(try clear c7);(try clear c7b0);(try clear c8);(try clear c8b0);(try clear q9);(try clear c10);(try clear hx207_0);(try clear hx207_1);(try clear p2);(try clear p207);(try clear q207);obtain ⟨x7_2,rfl,HA,HK2,HB⟩:=hrel
        cases gk with
        | zero=>exact absurd HA.out (by simp [logjamref26_Met.l0])
        | succ k2 =>
          have H:=HA.out;clear HA;simp only [logjamref26_Met.l0] at H;by_cases c11 : 0 ≤ a1;rotate_left
          · rw [if_neg c11] at H
            exact absurd H (by simp)
          rw [if_pos c11] at H;have c11b0 : decide (0 ≤ a1) = true:=decide_eq_true c11;clear c11;by_cases c12 : a1 < (l0.length : Int);rotate_left
          · rw [if_neg c12] at H
            exact absurd H (by simp)
          rw [if_pos c12] at H;have c12b0 : decide (a1 < (l0.length : Int)) = true:=decide_eq_true c12;clear c12;by_cases c13 : x7_2 < (((rd_T44 l0 a1).f1).length : Int);rotate_left
          · rw [if_neg c13] at H
            have c13b0 : decide (x7_2 < (((rd_T44 l0 a1).f1).length : Int)) = false:=decide_eq_false c13;clear c13;obtain rfl:=Option.some.inj H;have p208 : 0 ≤ (a1 : Int):=of_decide_eq_true (by first|(with_reducible assumption)|assumption);have q208 : a1 < (l0.length : Int):=of_decide_eq_true (by first|(with_reducible assumption)|assumption);obtain ⟨ad208,A208_1,c208_1,e208,hx208_0,hx208_1,hl208_1,hi208_1⟩:=at_T44 HR0.out a1 p208 q208;(try rw [← Nbq9.out] at hx208_0);obtain rfl : ad207 = ad208:=(by injection e208);replace hx208_0:=(HB.out.cell (bl_ w _ hx208_0)).trans hx208_0;replace hx208_1:=(HB.out.cell (bl_ w _ hx208_1)).trans hx208_1;have HR208_1:=A0_ hi208_1;have HC208_1:=A0_ hl208_1;clear hi208_1 hl208_1;replace p208:=eq_true p208;replace q208:=eq_true q208;go_wp2;go_ret;exact ⟨by first|rfl|(simp [errW_none,errW_some] <;> rfl)|(simp [*,errW_none,errW_some] <;> rfl),by repeat (first|(with_reducible first|exact HB.out|apply ba_|apply pN_|apply b1_)|exact HB.out)⟩
          rw [if_pos c13] at H;have c13b0 : decide (x7_2 < (((rd_T44 l0 a1).f1).length : Int)) = true:=decide_eq_true c13;clear c13;by_cases c14 : 0 ≤ x7_2;rotate_left
          · rw [if_neg c14] at H
            exact absurd H (by simp)
          rw [if_pos c14] at H;have c14b0 : decide (0 ≤ x7_2) = true:=decide_eq_true c14;clear c14;have H':=A0_ H;clear H;have p208 : 0 ≤ (a1 : Int):=of_decide_eq_true (by first|(with_reducible assumption)|assumption);have q208 : a1 < (l0.length : Int):=of_decide_eq_true (by first|(with_reducible assumption)|assumption);obtain ⟨ad208,A208_1,c208_1,e208,hx208_0,hx208_1,hl208_1,hi208_1⟩:=at_T44 HR0.out a1 p208 q208;(try rw [← Nbq9.out] at hx208_0);obtain rfl : ad207 = ad208:=(by injection e208);replace hx208_0:=(HB.out.cell (bl_ w _ hx208_0)).trans hx208_0;replace hx208_1:=(HB.out.cell (bl_ w _ hx208_1)).trans hx208_1;have HR208_1:=A0_ hi208_1;have HC208_1:=A0_ hl208_1;clear hi208_1 hl208_1;replace p208:=eq_true p208;replace q208:=eq_true q208;have p209 : 0 ≤ (a1 : Int):=of_decide_eq_true (by first|(with_reducible assumption)|assumption);have q209 : a1 < (l0.length : Int):=of_decide_eq_true (by first|(with_reducible assumption)|assumption);obtain ⟨ad209,A209_1,c209_1,e209,hx209_0,hx209_1,hl209_1,hi209_1⟩:=at_T44 HR0.out a1 p209 q209;(try rw [← Nbq9.out] at hx209_0);obtain rfl : ad207 = ad209:=(by injection e209);replace hx209_0:=(HB.out.cell (bl_ w _ hx209_0)).trans hx209_0;replace hx209_1:=(HB.out.cell (bl_ w _ hx209_1)).trans hx209_1;have HR209_1:=A0_ hi209_1;have HC209_1:=A0_ hl209_1;clear hi209_1 hl209_1;replace p209:=eq_true p209;replace q209:=eq_true q209;have ea_:=Option.some.inj (hx208_1.symm.trans hx209_1);injection ea_ with ea_ en_ ec_
          subst ea_;subst ec_;clear en_;have p210 : 0 ≤ (x7_2 : Int):=of_decide_eq_true (by first|(with_reducible assumption)|assumption);have q210 : x7_2 < (((rd_T44 l0 a1).f1).length : Int):=of_decide_eq_true (by first|(with_reducible assumption)|assumption);obtain ⟨ad210,A210_0,c210_0,e210,hx210_0,hl210_0,hi210_0⟩:=at_L5 HR209_1.out x7_2 p210 q210;cases e210;replace hx210_0:=(HB.out.cell (bl_ w _ hx210_0)).trans hx210_0;have HR210_0:=A0_ hi210_0;have HC210_0:=A0_ hl210_0;clear hi210_0 hl210_0;replace p210:=eq_true p210;replace q210:=eq_true q210;go_wp2
          go_loopg [9,10] k2 (fun kq v9 v10 w'=>∃ (x9_3 : Bool) (x10_3 : Int),v9 = .bool x9_3 ∧ v10 = .int .i64 x10_3 ∧ Aside0 (logjamref26_Met.l1 kq l0 a1 a2 x7_2 (rd_L5 ((rd_T44 l0 a1).f1) x7_2) x9_3 x10_3 = some r) ∧ Aside0 (kq ≤ k2) ∧ Aside0 (Below w.heap.size w w'))
          case atStart=>exact ⟨(true),(0),(by first|rfl|(simp;done)|(simp [*];done)),(by first|rfl|(simp;done)|(simp [*];done)),H',⟨Nat.le_refl _⟩,⟨by repeat (first|(with_reducible first|exact HB.out|apply ba_|apply pN_|apply b1_)|exact HB.out)⟩⟩
          case round =>
            clear H';(try clear c1);(try clear c2);(try clear p2);(try clear q2);(try clear hx2);(try clear c5);(try clear c5b0);(try clear c6);(try clear c7);(try clear c7b0);(try clear c8);(try clear c8b0);(try clear q9);(try clear c10);(try clear c11);(try clear c11b0);(try clear c12);(try clear c12b0);(try clear c13);(try clear c13b0);(try clear c14);(try clear c14b0);(try clear hx207_0);(try clear hx207_1);(try clear hx208_0);(try clear hx208_1);(try clear hx209_0);(try clear hx209_1);(try clear hx210_0);(try clear p2);(try clear p207);(try clear p208);(try clear p209);(try clear p210);(try clear q2);(try clear q207);(try clear q208);(try clear q209);(try clear q210);(try clear q9);obtain ⟨x9_3,x10_3,rfl,rfl,HA,HK3,HB⟩:=hrel
            cases gk with
            | zero=>exact absurd HA.out (by simp [logjamref26_Met.l1])
            | succ k3 =>
              have H:=HA.out;clear HA;simp only [logjamref26_Met.l1] at H;by_cases c15 : x10_3 < ((rd_L5 ((rd_T44 l0 a1).f1) x7_2).length : Int);rotate_left
              · rw [if_neg c15] at H
                have c15b0 : decide (x10_3 < ((rd_L5 ((rd_T44 l0 a1).f1) x7_2).length : Int)) = false:=decide_eq_false c15;clear c15;by_cases c20 : x9_3 = true
                · subst c20
                  have H1 : (some true) = some r:=by rw [if_pos rfl] at H;exact H
                  clear H;have H:=H1;clear H1;obtain rfl:=Option.some.inj H;go_wp2;go_ret;exact ⟨by first|rfl|(simp [errW_none,errW_some] <;> rfl)|(simp [*,errW_none,errW_some] <;> rfl),by repeat (first|(with_reducible first|exact HB.out|apply ba_|apply pN_|apply b1_)|exact HB.out)⟩
                replace c20:=Bool.eq_false_iff.mpr c20;subst c20;have H1 : (logjamref26_Met.l0 k3 l0 a1 a2 (wrap64 (x7_2 + 1))) = some r:=by rw [if_neg (show ¬ (false = true) by decide)] at H;exact H
                clear H;have H:=H1;clear H1;have H':=A0_ H;clear H;go_wp2
                go_roundg k3
                case measure=>have:=HJ3.out;have:=HK2.out;have:=HK3.out;omega
                case rel=>exact ⟨(wrap64 (x7_2 + 1)),(by first|rfl|(simp;done)|(simp [*];done)),H',⟨by have:=HJ3.out;have:=HK2.out;have:=HK3.out;omega⟩,⟨by repeat (first|(with_reducible first|exact HB.out|apply ba_|apply pN_|apply b1_)|exact HB.out)⟩⟩
              rw [if_pos c15] at H;have c15b0 : decide (x10_3 < ((rd_L5 ((rd_T44 l0 a1).f1) x7_2).length : Int)) = true:=decide_eq_true c15;clear c15;by_cases c16 : x9_3 = true;rotate_left
              · replace c16:=Bool.eq_false_iff.mpr c16
                subst c16;have H1 : (logjamref26_Met.l1 k3 l0 a1 a2 x7_2 (rd_L5 ((rd_T44 l0 a1).f1) x7_2) false (wrap64 (x10_3 + 1))) = some r:=by rw [if_neg (show ¬ (false = true) by decide)] at H;exact H
                clear H;have H:=H1;clear H1;have H':=A0_ H;clear H;go_wp2
                go_roundg k3
                case measure=>have:=HJ3.out;have:=HK2.out;have:=HK3.out;omega
                case rel=>exact ⟨(false),(wrap64 (x10_3 + 1)),(by first|rfl|(simp;done)|(simp [*];done)),(by first|rfl|(simp;done)|(simp [*];done)),H',⟨by have:=HJ3.out;have:=HK2.out;have:=HK3.out;omega⟩,⟨by repeat (first|(with_reducible first|exact HB.out|apply ba_|apply pN_|apply b1_)|exact HB.out)⟩⟩
              subst c16;have H1 : (if 0 ≤ x10_3 then ((logjamref26_Comes.f k3 ((rd_T66 (rd_L5 ((rd_T44 l0 a1).f1) x7_2) x10_3).f0) ((rd_T66 (rd_L5 ((rd_T44 l0 a1).f1) x7_2) x10_3).f1) (l0.length : Int) a2).bind fun t212=>(logjamref26_Met.l1 k3 l0 a1 a2 x7_2 (rd_L5 ((rd_T44 l0 a1).f1) x7_2) t212 (wrap64 (x10_3 + 1)))) else (none)) = some r:=by rw [if_pos rfl] at H;exact H
              clear H;have H:=H1;clear H1;by_cases c17 : 0 ≤ x10_3;rotate_left
              · rw [if_neg c17] at H
                exact absurd H (by simp)
              rw [if_pos c17] at H;have c17b0 : decide (0 ≤ x10_3) = true:=decide_eq_true c17;clear c17;replace H:=bm_ H;obtain ⟨t212,A180,H⟩:=H;replace H : (logjamref26_Met.l1 k3 l0 a1 a2 x7_2 (rd_L5 ((rd_T44 l0 a1).f1) x7_2) t212 (wrap64 (x10_3 + 1))) = some r:=H;have A18:=A0_ A180;clear A180;have H':=A0_ H;clear H;have p211 : 0 ≤ (x10_3 : Int):=of_decide_eq_true (by first|(with_reducible assumption)|assumption);have q211 : x10_3 < ((rd_L5 ((rd_T44 l0 a1).f1) x7_2).length : Int):=of_decide_eq_true (by first|(with_reducible assumption)|assumption);obtain ⟨ad211,A211_1,c211_1,e211,hx211_0,hx211_1,hl211_1,hi211_1⟩:=at_T66 HR210_0.out x10_3 p211 q211;cases e211;replace hx211_0:=(HB.out.cell (bl_ w _ hx211_0)).trans hx211_0;replace hx211_1:=(HB.out.cell (bl_ w _ hx211_1)).trans hx211_1;have HR211_1:=A0_ hi211_1;have HC211_1:=A0_ hl211_1;clear hi211_1 hl211_1;replace p211:=eq_true p211;replace q211:=eq_true q211;go_wp2_with (first|(go_at_call 66;(with_reducible refine (logjamref26_Comes.calls k3 ((rd_T66 (rd_L5 ((rd_T44 l0 a1).f1) x7_2) x10_3).f0) _ _ ((rd_T66 (rd_L5 ((rd_T44 l0 a1).f1) x7_2) x10_3).f1) (l0.length : Int) a2 t212 _ ?side1 ?side2 A18.out).mono ?_);(case side1=>repeat (first|exact (Kd.C_below HR211_1.out HB.out)|(with_reducible first|refine Ca_ ?_ _|refine Cn_ ?_ _|refine Cd_ ?_)));(case side2=>exact HC211_1.out);rintro e w19 ⟨rfl,hb⟩;have n0_:=A0_ (below_step (by repeat (first|(with_reducible first|exact HB.out|apply ba_|apply pN_|apply b1_)|exact HB.out)) hb);clear HB;have HB:=n0_;clear n0_;(try clear hb);(try clear hb2);(try clear hk);(try clear hi)))
              go_roundg k3
              case measure=>have:=HJ3.out;have:=HK2.out;have:=HK3.out;omega
              case rel=>exact ⟨(t212),(wrap64 (x10_3 + 1)),(by first|rfl|(simp;done)|(simp [*];done)),(by first|rfl|(simp;done)|(simp [*];done)),H',⟨by have:=HJ3.out;have:=HK2.out;have:=HK3.out;omega⟩,⟨by repeat (first|(with_reducible first|exact HB.out|apply ba_|apply pN_|apply b1_)|exact HB.out)⟩⟩
/-! ### logjamref02_power: function 77 -/
def logjamref02_power.l0 : Nat → Int → Int → Int → Option (Int)
  | 0,_,_,_=>none
  | k + 1,x0,x3,x4=>if x4 < x0 then (logjamref02_power.l0 k x0 (IntKind.u64.wrap (x3 * 2)) (wrap64 (x4 + 1))) else (some x3)
def logjamref02_power.f (k : Nat) (a0 : Int) : Option (Int) := logjamref02_power.l0 k a0 1 0
theorem logjamref02_power.mono_l : ∀ k, (∀ y0 y1 y2, LeO (logjamref02_power.l0 k y0 y1 y2) (logjamref02_power.l0 (k + 1) y0 y1 y2))
  | 0=>fun _ _ _ r h=>by simp [logjamref02_power.l0] at h
  | k + 1=>by
    have ih0:=logjamref02_power.mono_l k
    · intro y0 y1 y2
      unfold logjamref02_power.l0
      repeat' first
      | (with_reducible exact ih0 _ _ _)
      | (with_reducible exact LeO.refl _)
      | (with_reducible exact LeO.none _)
      | (with_reducible refine LeO.ite ?_ ?_)
      | (with_reducible refine LeO.bind ?_ (fun _=>?_))
      | exact ih0 _ _ _
      | exact LeO.none _
      | refine LeO.ite ?_ ?_
      | refine LeO.bind ?_ (fun _=>?_)
theorem logjamref02_power.mono : ∀ a0 k, LeO (logjamref02_power.f k a0) (logjamref02_power.f (k + 1) a0) := by
  intro a0 k
  have ih0:=logjamref02_power.mono_l k;unfold logjamref02_power.f
  repeat' first
      | (with_reducible exact ih0 _ _ _)
      | (with_reducible exact LeO.refl _)
      | (with_reducible exact LeO.none _)
      | (with_reducible refine LeO.ite ?_ ?_)
      | (with_reducible refine LeO.bind ?_ (fun _=>?_))
      | exact ih0 _ _ _
      | exact LeO.none _
      | refine LeO.ite ?_ ?_
      | refine LeO.bind ?_ (fun _=>?_)
set_option maxHeartbeats 8000000 in
set_option maxRecDepth 100000 in
theorem logjamref02_power.calls (k : Nat) (a0 : Int) (r : Int) (w : World) (h : logjamref02_power.f k a0 = some r) :
    Calls Tryd.prog 77 #[.int .i64 a0] w fun e w'=>e = .returned (.int .u64 r) ∧ Drawn0 w w':=by
  have H : (logjamref02_power.l0 k a0 1 0) = some r:=h;clear h;have H':=A0_ H;clear H;go_enter Tryd.func77,Tryd.ntmps77;go_wp2
  go_loopg [3,4] k (fun kq v3 v4 w'=>∃ (x3_1 : Int) (x4_1 : Int),v3 = .int .u64 x3_1 ∧ v4 = .int .i64 x4_1 ∧ Aside0 (logjamref02_power.l0 kq a0 x3_1 x4_1 = some r) ∧ Aside0 (kq ≤ k) ∧ Drawn0 w w')
  case atStart=>exact ⟨(1),(0),(by first|rfl|(simp;done)|(simp [*];done)),(by first|rfl|(simp;done)|(simp [*];done)),H',⟨Nat.le_refl _⟩,by repeat (first|exact Drawn0.refl _|apply Drawn0.step)⟩
  case round =>
    clear H';obtain ⟨x3_1,x4_1,rfl,rfl,HA,HK1,⟨m1,rfl⟩⟩:=hrel
    cases gk with
    | zero=>exact absurd HA.out (by simp [logjamref02_power.l0])
    | succ k1 =>
      have H:=HA.out;clear HA;simp only [logjamref02_power.l0] at H;by_cases c2 : x4_1 < a0;rotate_left
      · rw [if_neg c2] at H
        have c2b0 : decide (x4_1 < a0) = false:=decide_eq_false c2;clear c2;obtain rfl:=Option.some.inj H;go_wp2;go_ret;exact ⟨by first|rfl|(simp;done)|(simp [*];done),by repeat (first|exact Drawn0.refl _|apply Drawn0.step)⟩

      rw [if_pos c2] at H;have c2b0 : decide (x4_1 < a0) = true:=decide_eq_true c2;clear c2;have H':=A0_ H;clear H;go_wp2
      go_roundg k1
      case measure=>have:=HK1.out;omega
      case rel=>exact ⟨(IntKind.u64.wrap (x3_1 * 2)),(wrap64 (x4_1 + 1)),(by first|rfl|(simp;done)|(simp [*];done)),(by first|rfl|(simp;done)|(simp [*];done)),H',⟨by have:=HK1.out;omega⟩,by repeat (first|exact Drawn0.refl _|apply Drawn0.step)⟩
end Go.Proofs.YtbfbegleffkafaaDoor.PGraphTells
