/- Go functions as plain Lean functions, and that the calls come to them. Conditions: none. (Written by a program of this session.) -/
import Derived.Test.YtbfbegleffkafaaDoorPCycleTellsx0
import Derived.Test.YtbfbegleffkafaaDoorPCycleTellsx6
namespace Go.Proofs.YtbfbegleffkafaaDoor.PCycleTells
open Go.RowKit Go.Proofs.YtbfbegleffkafaaDoorW.PrintWords Go.Proofs.YtbfbegleffkafaaDoorW.PrintLast Go.Proofs.YtbfbegleffkafaaDoorW.PrintMore
attribute [local go_sem] max2_int min2_int max_two min_two max_three min_three max_four min_four   -- for this text's walks alone
set_option linter.unusedVariables false
set_option linter.unusedSimpArgs false

/-! ### logjamref02_Of: function 75 -/
def logjamref02_Of.l0 : Nat → List Int → Int → Int → Option (Int)
  | 0,_,_,_=>none
  | k + 1,x0,x3,x4=>if x4 < (x0.length : Int) then (if 0 ≤ x4 then ((logjamref02_With.f k x3 (rd x0 x4)).bind fun t285=>(logjamref02_Of.l0 k x0 t285 (wrap64 (x4 + 1)))) else (none)) else (some x3)
def logjamref02_Of.f (k : Nat) (l0 : List Int) : Option (Int) := logjamref02_Of.l0 k l0 0 0
theorem logjamref02_Of.mono_l : ∀ k, (∀ y0 y1 y2, LeO (logjamref02_Of.l0 k y0 y1 y2) (logjamref02_Of.l0 (k + 1) y0 y1 y2))
  | 0=>fun _ _ _ r h=>by simp [logjamref02_Of.l0] at h
  | k + 1=>by
    have ih0:=logjamref02_Of.mono_l k
    · intro y0 y1 y2
      unfold logjamref02_Of.l0
      repeat' first
      | (with_reducible exact ih0 _ _ _)
      | (with_reducible exact logjamref02_With.mono _ _ _)
      | (with_reducible exact LeO.refl _)
      | (with_reducible exact LeO.none _)
      | (with_reducible refine LeO.ite ?_ ?_)
      | (with_reducible refine LeO.bind ?_ (fun _=>?_))
      | exact ih0 _ _ _
      | exact logjamref02_With.mono _ _ _
      | exact LeO.none _
      | refine LeO.ite ?_ ?_
      | refine LeO.bind ?_ (fun _=>?_)
theorem logjamref02_Of.mono : ∀ a0 k, LeO (logjamref02_Of.f k a0) (logjamref02_Of.f (k + 1) a0) := by
  intro a0 k
  have ih0:=logjamref02_Of.mono_l k;unfold logjamref02_Of.f
  repeat' first
      | (with_reducible exact ih0 _ _ _)
      | (with_reducible exact logjamref02_With.mono _ _ _)
      | (with_reducible exact LeO.refl _)
      | (with_reducible exact LeO.none _)
      | (with_reducible refine LeO.ite ?_ ?_)
      | (with_reducible refine LeO.bind ?_ (fun _=>?_))
      | exact ih0 _ _ _
      | exact logjamref02_With.mono _ _ _
      | exact LeO.none _
      | refine LeO.ite ?_ ?_
      | refine LeO.bind ?_ (fun _=>?_)
set_option maxHeartbeats 8000000 in
set_option maxRecDepth 100000 in
theorem logjamref02_Of.calls (k : Nat) (A0 : Option Addr) (c0 : Nat) (l0 : List Int) (r : Int) (w : World) (hr0 : Kd.C (Kd.int .i64) w A0 l0.length l0) (hc0 : l0.length ≤ c0) (h : logjamref02_Of.f k l0 = some r) :
    Calls Tryd.prog 75 #[.slice A0 l0.length c0] w fun e w'=>e = .returned (.int .u64 r) ∧ Drawn0 w w':=by
  have HR0:=A0_ hr0;have HC0:=A0_ hc0;clear hr0 hc0;have H : (logjamref02_Of.l0 k l0 0 0) = some r:=h;clear h;have H':=A0_ H;clear H;go_enter Tryd.func75,Tryd.ntmps75;go_wp2
  go_loopg [3,4] k (fun kq v3 v4 w'=>∃ (x3_1 : Int) (x4_1 : Int),v3 = .int .u64 x3_1 ∧ v4 = .int .i64 x4_1 ∧ Aside0 (logjamref02_Of.l0 kq l0 x3_1 x4_1 = some r) ∧ Aside0 (kq ≤ k) ∧ Drawn0 w w')
  case atStart=>exact ⟨(0),(0),(by first|rfl|(simp;done)|(simp [*];done)),(by first|rfl|(simp;done)|(simp [*];done)),H',⟨Nat.le_refl _⟩,by repeat (first|exact Drawn0.refl _|apply Drawn0.step)⟩
  case round =>
    clear H';obtain ⟨x3_1,x4_1,rfl,rfl,HA,HK1,⟨m1,rfl⟩⟩:=hrel
    cases gk with
    | zero=>exact absurd HA.out (by simp [logjamref02_Of.l0])
    | succ k1 =>
      have H:=HA.out;clear HA;simp only [logjamref02_Of.l0] at H;by_cases c2 : x4_1 < (l0.length : Int);rotate_left
      · rw [if_neg c2] at H
        have c2b0 : decide (x4_1 < (l0.length : Int)) = false:=decide_eq_false c2;clear c2;obtain rfl:=Option.some.inj H;go_wp2;go_ret;exact ⟨by first|rfl|(simp;done)|(simp [*];done),by repeat (first|exact Drawn0.refl _|apply Drawn0.step)⟩

      rw [if_pos c2] at H;have c2b0 : decide (x4_1 < (l0.length : Int)) = true:=decide_eq_true c2;clear c2;by_cases c3 : 0 ≤ x4_1;rotate_left
      · rw [if_neg c3] at H
        exact absurd H (by simp)
      rw [if_pos c3] at H;have c3b0 : decide (0 ≤ x4_1) = true:=decide_eq_true c3;clear c3;replace H:=bm_ H;obtain ⟨t285,A40,H⟩:=H;replace H : (logjamref02_Of.l0 k1 l0 t285 (wrap64 (x4_1 + 1))) = some r:=H;have A4:=A0_ A40;clear A40;have H':=A0_ H;clear H;have p284 : 0 ≤ (x4_1 : Int):=of_decide_eq_true (by first|(with_reducible assumption)|assumption);have q284 : x4_1 < (l0.length : Int):=of_decide_eq_true (by first|(with_reducible assumption)|assumption);obtain ⟨ad284,e284,hx284_0⟩:=Kd.at_int HR0.out x4_1 p284 q284;cases e284;replace p284:=eq_true p284;replace q284:=eq_true q284;go_wp2_with (first|((with_reducible refine gate_callee (f:=57) rfl ?_);refine goesL_ (some 16) rfl rfl Tryd.func57 (by kernel_rfl) rfl #[.int .u64 x3_1,.int .i64 (rd l0 x4_1)] rfl (by first|(simp only [List.map_toArray,List.map_cons,List.map_nil] <;> rfl)|rfl|(simp only [List.length_drop,List.length_take];rfl)) ?_;(with_reducible refine (logjamref02_With.calls k1 x3_1 (rd l0 x4_1) t285 _ A4.out).mono ?_);rintro e w' ⟨rfl,⟨nd,rfl⟩⟩;refine ⟨_,rfl,?_⟩))
      go_roundg k1
      case measure=>have:=HK1.out;omega
      case rel=>exact ⟨(t285),(wrap64 (x4_1 + 1)),(by first|rfl|(simp;done)|(simp [*];done)),(by first|rfl|(simp;done)|(simp [*];done)),H',⟨by have:=HK1.out;omega⟩,by repeat (first|exact Drawn0.refl _|apply Drawn0.step)⟩
/-! ### logjamref02_List: function 76 -/
def logjamref02_List.l0 : Nat → Int → List Int → Int → Option (List Int)
  | 0,_,_,_=>none
  | k + 1,x0,x3,x4=>if x4 < 64 then (if (Int.tmod x0 2) = 1 then (if x3.length < 17592186044416 then (logjamref02_List.l0 k (IntKind.u64.wrap (Int.tdiv x0 2)) (x3 ++ [x4]) (wrap64 (x4 + 1))) else (none)) else (logjamref02_List.l0 k (IntKind.u64.wrap (Int.tdiv x0 2)) x3 (wrap64 (x4 + 1)))) else (some x3)
def logjamref02_List.f (k : Nat) (a0 : Int) : Option (List Int) := logjamref02_List.l0 k a0 (([] : List Int)) 0
theorem logjamref02_List.mono_l : ∀ k, (∀ y0 y1 y2, LeO (logjamref02_List.l0 k y0 y1 y2) (logjamref02_List.l0 (k + 1) y0 y1 y2))
  | 0=>fun _ _ _ r h=>by simp [logjamref02_List.l0] at h
  | k + 1=>by
    have ih0:=logjamref02_List.mono_l k
    · intro y0 y1 y2
      unfold logjamref02_List.l0
      repeat' first
      | (with_reducible exact ih0 _ _ _)
      | (with_reducible exact LeO.refl _)
      | (with_reducible exact LeO.none _)
      | (with_reducible refine LeO.ite ?_ ?_)
      | (with_reducible refine LeO.bind ?_ (fun _=>?_))
      | exact ih0 _ _ _
      | exact LeO.none _
      | refine LeO.ite ?_ ?_
      | refine LeO.bind ?_ (fun _=>?_)
theorem logjamref02_List.mono : ∀ a0 k, LeO (logjamref02_List.f k a0) (logjamref02_List.f (k + 1) a0) := by
  intro a0 k
  have ih0:=logjamref02_List.mono_l k;unfold logjamref02_List.f
  repeat' first
      | (with_reducible exact ih0 _ _ _)
      | (with_reducible exact LeO.refl _)
      | (with_reducible exact LeO.none _)
      | (with_reducible refine LeO.ite ?_ ?_)
      | (with_reducible refine LeO.bind ?_ (fun _=>?_))
      | exact ih0 _ _ _
      | exact LeO.none _
      | refine LeO.ite ?_ ?_
      | refine LeO.bind ?_ (fun _=>?_)
set_option maxHeartbeats 8000000 in
set_option maxRecDepth 100000 in
theorem logjamref02_List.calls (k : Nat) (a0 : Int) (r : List Int) (w : World) (h : logjamref02_List.f k a0 = some r) :
    Calls Tryd.prog 76 #[.int .u64 a0] w fun e w'=>∃ v0_ : Value,e = .returned (v0_) ∧ Kd.R (Kd.int .i64) 3 w' w.heap.size (fun _=>True) v0_ r ∧ Below w.heap.size w w':=by
  have HB:=A0_ (Below.refl w.heap.size w);have H : (logjamref02_List.l0 k a0 (([] : List Int)) 0) = some r:=h;clear h;obtain ⟨y286,hy286⟩ : ∃ y_ : List Int,y_ = (([] : List Int)):=⟨_,rfl⟩;replace H : (logjamref02_List.l0 k a0 y286 0) = some r:=by first|(rw [hy286];with_reducible exact H)|(have H2_:=(Option.bind_some _ _).symm.trans H;rw [hy286];with_reducible exact H2_)|(have H2_:=(Option.bind_some _ _).symm.trans H;with_reducible exact H2_)|with_reducible exact H|(rw [hy286];exact H)|exact H
  have Ny286:=A0_ hy286;clear hy286;have H':=A0_ H;clear H;go_enter Tryd.func76,Tryd.ntmps76;go_wp2_with (first|((with_reducible refine gate_dst (N:=5) rfl ?_);refine Kd.R_lit (Kd.int .i64) _ 3 ?hg (N:=5) ?hd (xs:=([] : List Int)) (inner:=[]) (ok:=fun _=>True) (okp:=fun _=>True) ?hr ?hp (fun _ hk=>hk) trivial (Below.refl _ _) (Nat.le_refl _) (by simp) ?_;(case hd=>rfl);(case hg=>rfl);(case hr=>first|(go_simp;done)|(go_simp;rfl));(case hp=>exact (Reps.none _ _));intro v287 w2 ho3 hb hg_ hnew_;clear hg_ hnew_;(first|rw [← Ny286.out] at ho3|(simp only [Int.reduceToNat] at ho3;rw [← Ny286.out] at ho3));have n0_:=A0_ (Kd.R_lower ho3 (below_size (by repeat (first|(with_reducible first|exact HB.out|apply ba_|apply pN_|apply b1_)|exact HB.out))));have n1_:=A0_ (below_step (by repeat (first|(with_reducible first|exact HB.out|apply ba_|apply pN_|apply b1_)|exact HB.out)) hb);clear HB;have HO288:=n0_;have HB:=n1_;clear n0_ n1_;clear hb ho3))
  go_loopg [0,3,4] k (fun kq v0 v3 v4 w'=>∃ (x0_1 : Int) (x3_1 : List Int) (x4_1 : Int),v0 = .int .u64 x0_1 ∧ v4 = .int .i64 x4_1 ∧ Aside0 (logjamref02_List.l0 kq x0_1 x3_1 x4_1 = some r) ∧ Aside0 (kq ≤ k) ∧ Aside0 (Kd.R (Kd.int .i64) 3 w' w.heap.size (fun _=>True) v3 x3_1) ∧ Aside0 (Below w.heap.size w w'))
  case atStart=>exact ⟨(a0),(y286),(0),(by first|rfl|(simp;done)|(simp [*];done)),(by first|rfl|(simp;done)|(simp [*];done)),H',⟨Nat.le_refl _⟩,⟨by (with_reducible repeat first|apply Ra_|apply Rn_|apply Rd_);exact HO288.out⟩,⟨by repeat (first|(with_reducible first|exact HB.out|apply ba_|apply pN_|apply b1_)|exact HB.out)⟩⟩
  case round =>
    clear H';(try clear p2);obtain ⟨x0_1,x3_1,x4_1,rfl,rfl,HA,HK1,HO_3,HB⟩:=hrel
    cases gk with
    | zero=>exact absurd HA.out (by simp [logjamref02_List.l0])
    | succ k1 =>
      have H:=HA.out;clear HA;simp only [logjamref02_List.l0] at H;by_cases c4 : x4_1 < 64;rotate_left
      · rw [if_neg c4] at H
        have c4b0 : decide (x4_1 < 64) = false:=decide_eq_false c4;clear c4;obtain rfl:=Option.some.inj H;go_wp2;go_ret;exact ⟨_,by first|rfl|(simp [errW_none,errW_some] <;> rfl)|(simp [*,errW_none,errW_some] <;> rfl),by (with_reducible repeat first|apply Ra_|apply Rn_|apply Rd_);exact HO_3.out,by repeat (first|(with_reducible first|exact HB.out|apply ba_|apply pN_|apply b1_)|exact HB.out)⟩

      rw [if_pos c4] at H;have c4b0 : decide (x4_1 < 64) = true:=decide_eq_true c4;clear c4;by_cases c5 : (Int.tmod x0_1 2) = 1;rotate_left
      · rw [if_neg c5] at H
        have c5b0 : ((Int.tmod x0_1 2) == 1) = false:=beq_eq_false_iff_ne.mpr c5;have c5b1 : ((Int.tmod x0_1 2) != 1) = true:=bne_iff_ne.mpr c5;have H':=A0_ H;clear H;go_wp2
        go_roundg k1
        case measure=>have:=HK1.out;omega
        case rel=>exact ⟨(IntKind.u64.wrap (Int.tdiv x0_1 2)),(x3_1),(wrap64 (x4_1 + 1)),(by first|rfl|(simp;done)|(simp [*];done)),(by first|rfl|(simp;done)|(simp [*];done)),H',⟨by have:=HK1.out;omega⟩,⟨by (with_reducible repeat first|apply Ra_|apply Rn_|apply Rd_);exact HO_3.out⟩,⟨by repeat (first|(with_reducible first|exact HB.out|apply ba_|apply pN_|apply b1_)|exact HB.out)⟩⟩
      rw [if_pos c5] at H;have c5b0 : ((Int.tmod x0_1 2) == 1) = true:=beq_iff_eq.mpr c5;have c5b1 : ((Int.tmod x0_1 2) != 1) = false:=bne_eq_false_iff_eq.mpr c5;clear c5;by_cases c6 : x3_1.length < 17592186044416;rotate_left
      · rw [if_neg c6] at H
        exact absurd H (by simp)
      rw [if_pos c6] at H;have LMc6:=A0_ c6;clear c6;obtain ⟨y289,hy289⟩ : ∃ y_ : List Int,y_ = (x3_1 ++ [x4_1]):=⟨_,rfl⟩;replace H : (logjamref02_List.l0 k1 (IntKind.u64.wrap (Int.tdiv x0_1 2)) y289 (wrap64 (x4_1 + 1))) = some r:=by first|(rw [hy289];with_reducible exact H)|(have H2_:=(Option.bind_some _ _).symm.trans H;rw [hy289];with_reducible exact H2_)|(have H2_:=(Option.bind_some _ _).symm.trans H;with_reducible exact H2_)|with_reducible exact H|(rw [hy289];exact H)|exact H
      have Ny289:=A0_ hy289;clear hy289;have H':=A0_ H;clear H;go_wp2_with (first|((with_reducible refine gate_builtin (b:=.append) (xs:=#[.tmp 13,.tmp 15]) rfl ?_);at_builtin;refine Kd.R_append (Kd.int .i64) (w0:=w) w.heap.size rfl (.tmp 13) (.tmp 15) 28 3 (.int .i64 0) 8 rfl Tryd.underlying28 info3 rfl (by decide) (by omega) u3 x3_1 x4_1 [.int .i64 x4_1] (fun _=>True) (fun _=>False) rfl rfl ?aP (fun _ hk=>hk.elim) ?aF ?aO ?aB ?aS ?aL ?_;(case aP=>exact rfl);(case aB=>exact (by repeat (first|(with_reducible first|exact HB.out|apply ba_|apply pN_|apply b1_)|exact HB.out)));(case aF=>exact (fun _ _=>trivial));(case aO=>exact (by (with_reducible repeat first|apply Ra_|apply Rn_|apply Rd_);exact HO_3.out));(case aS=>exact (below_size (by repeat (first|(with_reducible first|exact HB.out|apply ba_|apply pN_|apply b1_)|exact HB.out))));(case aL=>have:=LMc6.out;omega);intro v290 w7 ho hb hg hat;rw [← Ny289.out] at ho;have n0_:=A0_ (hb);have n1_:=A0_ (ho);clear HB;clear HO_3;have HB:=n0_;have HO291:=n1_;clear n0_ n1_;clear ho hb hg hat))
      go_roundg k1
      case measure=>have:=HK1.out;omega
      case rel=>exact ⟨(IntKind.u64.wrap (Int.tdiv x0_1 2)),(y289),(wrap64 (x4_1 + 1)),(by first|rfl|(simp;done)|(simp [*];done)),(by first|rfl|(simp;done)|(simp [*];done)),H',⟨by have:=HK1.out;omega⟩,⟨by (with_reducible repeat first|apply Ra_|apply Rn_|apply Rd_);exact HO291.out⟩,⟨by repeat (first|(with_reducible first|exact HB.out|apply ba_|apply pN_|apply b1_)|exact HB.out)⟩⟩
/-! ### logjamref27_Reach: function 56 -/
mutual
def logjamref27_Reach.l0 : Nat → List (S44) → Int → Int → Option (Int)
  | 0,_,_,_=>none
  | k + 1,x0,x5,x6=>if x6 < (x0.length : Int) then ((logjamref02_List.f k x5).bind fun t296=>(logjamref27_Reach.l1 k x0 x5 x6 t296 0)) else (some x5)
def logjamref27_Reach.l1 : Nat → List (S44) → Int → Int → List Int → Int → Option (Int)
  | 0,_,_,_,_,_=>none
  | k + 1,x0,x5,x6,x7,x8=>if x8 < (x7.length : Int) then (if 0 ≤ x8 then ((logjamref27_Next.f k x0 (rd x7 x8)).bind fun t300=>(logjamref27_Reach.l2 k x0 x5 x6 x7 x8 t300 0)) else (none)) else (logjamref27_Reach.l0 k x0 x5 (wrap64 (x6 + 1)))
def logjamref27_Reach.l2 : Nat → List (S44) → Int → Int → List Int → Int → List Int → Int → Option (Int)
  | 0,_,_,_,_,_,_,_=>none
  | k + 1,x0,x5,x6,x7,x8,x9,x10=>if x10 < (x9.length : Int) then (if 0 ≤ x10 then ((logjamref02_With.f k x5 (rd x9 x10)).bind fun t304=>(logjamref27_Reach.l2 k x0 t304 x6 x7 x8 x9 (wrap64 (x10 + 1)))) else (none)) else (logjamref27_Reach.l1 k x0 x5 x6 x7 (wrap64 (x8 + 1)))
end
def logjamref27_Reach.f (k : Nat) (l0 : List (S44)) (a1 : Int) : Option (Int) := (logjamref27_Next.f k l0 a1).bind fun t292 => ((logjamref02_Of.f k t292).bind fun t295 => (logjamref27_Reach.l0 k l0 t295 0))
theorem logjamref27_Reach.mono_l : ∀ k, (∀ y0 y1 y2, LeO (logjamref27_Reach.l0 k y0 y1 y2) (logjamref27_Reach.l0 (k + 1) y0 y1 y2)) ∧ (∀ y0 y1 y2 y3 y4, LeO (logjamref27_Reach.l1 k y0 y1 y2 y3 y4) (logjamref27_Reach.l1 (k + 1) y0 y1 y2 y3 y4)) ∧ (∀ y0 y1 y2 y3 y4 y5 y6, LeO (logjamref27_Reach.l2 k y0 y1 y2 y3 y4 y5 y6) (logjamref27_Reach.l2 (k + 1) y0 y1 y2 y3 y4 y5 y6))
  | 0=>⟨fun _ _ _ r h=>by simp [logjamref27_Reach.l0] at h,fun _ _ _ _ _ r h=>by simp [logjamref27_Reach.l1] at h,fun _ _ _ _ _ _ _ r h=>by simp [logjamref27_Reach.l2] at h⟩
  | k + 1=>by
    obtain ⟨ih0,ih1,ih2⟩:=logjamref27_Reach.mono_l k;refine ⟨?_,?_,?_⟩
    all_goals intros
    all_goals first | unfold logjamref27_Reach.l0 | unfold logjamref27_Reach.l1 | unfold logjamref27_Reach.l2
    all_goals
      repeat' first
      | (with_reducible exact ih0 _ _ _)
      | (with_reducible exact ih1 _ _ _ _ _)
      | (with_reducible exact ih2 _ _ _ _ _ _ _)
      | (with_reducible exact logjamref02_List.mono _ _)
      | (with_reducible exact logjamref02_Of.mono _ _)
      | (with_reducible exact logjamref02_With.mono _ _ _)
      | (with_reducible exact logjamref27_Next.mono _ _ _)
      | (with_reducible exact LeO.refl _)
      | (with_reducible exact LeO.none _)
      | (with_reducible refine LeO.ite ?_ ?_)
      | (with_reducible refine LeO.bind ?_ (fun _=>?_))
      | exact ih0 _ _ _
      | exact ih1 _ _ _ _ _
      | exact ih2 _ _ _ _ _ _ _
      | exact logjamref02_List.mono _ _
      | exact logjamref02_Of.mono _ _
      | exact logjamref02_With.mono _ _ _
      | exact logjamref27_Next.mono _ _ _
      | exact LeO.none _
      | refine LeO.ite ?_ ?_
      | refine LeO.bind ?_ (fun _=>?_)
theorem logjamref27_Reach.mono : ∀ a0 a1 k, LeO (logjamref27_Reach.f k a0 a1) (logjamref27_Reach.f (k + 1) a0 a1) := by
  intro a0 a1 k
  obtain ⟨ih0,ih1,ih2⟩:=logjamref27_Reach.mono_l k;unfold logjamref27_Reach.f
  repeat' first
      | (with_reducible exact ih0 _ _ _)
      | (with_reducible exact ih1 _ _ _ _ _)
      | (with_reducible exact ih2 _ _ _ _ _ _ _)
      | (with_reducible exact logjamref02_List.mono _ _)
      | (with_reducible exact logjamref02_Of.mono _ _)
      | (with_reducible exact logjamref02_With.mono _ _ _)
      | (with_reducible exact logjamref27_Next.mono _ _ _)
      | (with_reducible exact LeO.refl _)
      | (with_reducible exact LeO.none _)
      | (with_reducible refine LeO.ite ?_ ?_)
      | (with_reducible refine LeO.bind ?_ (fun _=>?_))
      | exact ih0 _ _ _
      | exact ih1 _ _ _ _ _
      | exact ih2 _ _ _ _ _ _ _
      | exact logjamref02_List.mono _ _
      | exact logjamref02_Of.mono _ _
      | exact logjamref02_With.mono _ _ _
      | exact logjamref27_Next.mono _ _ _
      | exact LeO.none _
      | refine LeO.ite ?_ ?_
      | refine LeO.bind ?_ (fun _=>?_)
set_option maxHeartbeats 8000000 in
set_option maxRecDepth 100000 in
theorem logjamref27_Reach.calls (k : Nat) (A0 : Option Addr) (c0 : Nat) (l0 : List (S44)) (a1 : Int) (r : Int) (w : World) (hr0 : Kd.C k44 w A0 l0.length l0) (hc0 : l0.length ≤ c0) (h : logjamref27_Reach.f k l0 a1 = some r) :
    Calls Tryd.prog 56 #[.slice A0 l0.length c0,.int .i64 a1] w fun e w'=>e = .returned (.int .u64 r) ∧ Below w.heap.size w w':=by
  have HR0:=A0_ hr0;have HC0:=A0_ hc0;clear hr0 hc0;have HB:=A0_ (Below.refl w.heap.size w);have H : ((logjamref27_Next.f k l0 a1).bind fun t292=>((logjamref02_Of.f k t292).bind fun t295=>(logjamref27_Reach.l0 k l0 t295 0))) = some r:=h;clear h;replace H:=bm_ H;obtain ⟨t292,A30,H⟩:=H;replace H : ((logjamref02_Of.f k t292).bind fun t295=>(logjamref27_Reach.l0 k l0 t295 0)) = some r:=H;have A3:=A0_ A30;clear A30;replace H:=bm_ H;obtain ⟨t295,A40,H⟩:=H;replace H : (logjamref27_Reach.l0 k l0 t295 0) = some r:=H;have A4:=A0_ A40;clear A40;have H':=A0_ H;clear H;go_enter Tryd.func56,Tryd.ntmps56;go_wp2_with (first|((with_reducible refine gate_callee (f:=21) rfl ?_);refine goesL_ (some 13) rfl rfl Tryd.func21 (by kernel_rfl) rfl #[.slice A0 l0.length c0,.int .i64 a1] rfl (by first|(simp only [List.map_toArray,List.map_cons,List.map_nil] <;> rfl)|rfl|(simp only [List.length_drop,List.length_take];rfl)) ?_;(with_reducible refine (logjamref27_Next.calls k _ _ l0 a1 t292 _ ?side1 ?side2 A3.out).mono ?_);(case side1=>repeat (first|exact HR0.out|(with_reducible first|refine Ca_ ?_ _|refine Cn_ ?_ _|refine Cd_ ?_)));(case side2=>exact HC0.out);rintro e w5 ⟨v293,rfl,ho0,hb⟩;refine ⟨_,rfl,?_⟩;have n0_:=A0_ (Kd.R_lower ho0 (below_size (by repeat (first|(with_reducible first|exact HB.out|apply ba_|apply pN_|apply b1_)|exact HB.out))));have n1_:=A0_ (below_step (by repeat (first|(with_reducible first|exact HB.out|apply ba_|apply pN_|apply b1_)|exact HB.out)) hb);clear HB;have HO294:=n0_;have HB:=n1_;clear n0_ n1_;(try clear hb);(try clear hb2);(try clear hk);(try clear hi);(try clear ho0);obtain ⟨Ao6,co6,eo6⟩:=Kd.R_slice HO294.out;subst eo6)|((with_reducible refine gate_callee (f:=75) rfl ?_);refine goesL_ (some 14) rfl rfl Tryd.func75 (by kernel_rfl) rfl #[.slice Ao6 t292.length co6] rfl (by first|(simp only [List.map_toArray,List.map_cons,List.map_nil] <;> rfl)|rfl|(simp only [List.length_drop,List.length_take];rfl)) ?_;(with_reducible refine (logjamref02_Of.calls k _ _ t292 t295 _ ?side1 ?side2 A4.out).mono ?_);(case side1=>repeat (first|exact (Kd.R_reads' HO294.out).2.2|(with_reducible first|refine Ca_ ?_ _|refine Cn_ ?_ _|refine Cd_ ?_)));(case side2=>exact (Kd.R_reads' HO294.out).2.1);rintro e w' ⟨rfl,⟨nd,rfl⟩⟩;refine ⟨_,rfl,?_⟩))
  go_loopg [5,6] k (fun kq v5 v6 w'=>∃ (x5_1 : Int) (x6_1 : Int),v5 = .int .u64 x5_1 ∧ v6 = .int .i64 x6_1 ∧ Aside0 (logjamref27_Reach.l0 kq l0 x5_1 x6_1 = some r) ∧ Aside0 (kq ≤ k) ∧ Aside0 (Below w.heap.size w w'))
  case atStart=>exact ⟨(t295),(0),(by first|rfl|(simp;done)|(simp [*];done)),(by first|rfl|(simp;done)|(simp [*];done)),H',⟨Nat.le_refl _⟩,⟨by repeat (first|(with_reducible first|exact HB.out|apply ba_|apply pN_|apply b1_)|exact HB.out)⟩⟩
  case round =>
    clear H';(try clear c2);(try clear p2);(try clear c5);obtain ⟨x5_1,x6_1,rfl,rfl,HA,HK1,HB⟩:=hrel
    cases gk with
    | zero=>exact absurd HA.out (by simp [logjamref27_Reach.l0])
    | succ k1 =>
      have H:=HA.out;clear HA;simp only [logjamref27_Reach.l0] at H;by_cases c7 : x6_1 < (l0.length : Int);rotate_left
      · rw [if_neg c7] at H
        have c7b0 : decide (x6_1 < (l0.length : Int)) = false:=decide_eq_false c7;clear c7;obtain rfl:=Option.some.inj H;go_wp2;go_ret;exact ⟨by first|rfl|(simp [errW_none,errW_some] <;> rfl)|(simp [*,errW_none,errW_some] <;> rfl),by repeat (first|(with_reducible first|exact HB.out|apply ba_|apply pN_|apply b1_)|exact HB.out)⟩

      rw [if_pos c7] at H;have c7b0 : decide (x6_1 < (l0.length : Int)) = true:=decide_eq_true c7;clear c7;replace H:=bm_ H;obtain ⟨t296,A80,H⟩:=H;replace H : (logjamref27_Reach.l1 k1 l0 x5_1 x6_1 t296 0) = some r:=H;have A8:=A0_ A80;clear A80;have H':=A0_ H;clear H;go_wp2_with (first|((with_reducible refine gate_callee (f:=76) rfl ?_);refine goesL_ (some 22) rfl rfl Tryd.func76 (by kernel_rfl) rfl #[.int .u64 x5_1] rfl (by first|(simp only [List.map_toArray,List.map_cons,List.map_nil] <;> rfl)|rfl|(simp only [List.length_drop,List.length_take];rfl)) ?_;(with_reducible refine (logjamref02_List.calls k1 x5_1 t296 _ A8.out).mono ?_);rintro e w9 ⟨v297,rfl,ho0,hb⟩;refine ⟨_,rfl,?_⟩;have n0_:=A0_ (Kd.R_lower ho0 (below_size (by repeat (first|(with_reducible first|exact HB.out|apply ba_|apply pN_|apply b1_)|exact HB.out))));have n1_:=A0_ (below_step (by repeat (first|(with_reducible first|exact HB.out|apply ba_|apply pN_|apply b1_)|exact HB.out)) hb);clear HB;have HO298:=n0_;have HB:=n1_;clear n0_ n1_;(try clear hb);(try clear hb2);(try clear hk);(try clear hi);(try clear ho0)))
      go_loopg [5,8] k1 (fun kq v5 v8 w'=>∃ (x5_2 : Int) (x8_2 : Int),v5 = .int .u64 x5_2 ∧ v8 = .int .i64 x8_2 ∧ Aside0 (logjamref27_Reach.l1 kq l0 x5_2 x6_1 t296 x8_2 = some r) ∧ Aside0 (kq ≤ k1) ∧ Aside0 (Kd.R (Kd.int .i64) 3 w' w.heap.size (fun _=>True) v297 t296) ∧ Aside0 (Below w.heap.size w w'))
      case atStart=>exact ⟨(x5_1),(0),(by first|rfl|(simp;done)|(simp [*];done)),(by first|rfl|(simp;done)|(simp [*];done)),H',⟨Nat.le_refl _⟩,⟨by (with_reducible repeat first|apply Ra_|apply Rn_|apply Rd_);exact HO298.out⟩,⟨by repeat (first|(with_reducible first|exact HB.out|apply ba_|apply pN_|apply b1_)|exact HB.out)⟩⟩
      case round =>
        clear H';(try clear c2);(try clear p2);(try clear c5);(try clear c7);(try clear c7b0);(try clear p2);obtain ⟨x5_2,x8_2,rfl,rfl,HA,HK2,HO_7,HB⟩:=hrel
        cases gk with
        | zero=>exact absurd HA.out (by simp [logjamref27_Reach.l1])
        | succ k2 =>
          have H:=HA.out;clear HA;simp only [logjamref27_Reach.l1] at H;by_cases c10 : x8_2 < (t296.length : Int);rotate_left
          · rw [if_neg c10] at H
            have c10b0 : decide (x8_2 < (t296.length : Int)) = false:=decide_eq_false c10;clear c10;have H':=A0_ H;clear H;obtain ⟨Ao20,co20,eo20⟩:=Kd.R_slice HO_7.out;subst eo20;go_wp2
            go_roundg k2
            case measure=>have:=HK1.out;have:=HK2.out;omega
            case rel=>exact ⟨(x5_2),(wrap64 (x6_1 + 1)),(by first|rfl|(simp;done)|(simp [*];done)),(by first|rfl|(simp;done)|(simp [*];done)),H',⟨by have:=HK1.out;have:=HK2.out;omega⟩,⟨by repeat (first|(with_reducible first|exact HB.out|apply ba_|apply pN_|apply b1_)|exact HB.out)⟩⟩
          rw [if_pos c10] at H;have c10b0 : decide (x8_2 < (t296.length : Int)) = true:=decide_eq_true c10;clear c10;by_cases c11 : 0 ≤ x8_2;rotate_left
          · rw [if_neg c11] at H
            exact absurd H (by simp)
          rw [if_pos c11] at H;have c11b0 : decide (0 ≤ x8_2) = true:=decide_eq_true c11;clear c11;replace H:=bm_ H;obtain ⟨t300,A120,H⟩:=H;replace H : (logjamref27_Reach.l2 k2 l0 x5_2 x6_1 t296 x8_2 t300 0) = some r:=H;have A12:=A0_ A120;clear A120;have H':=A0_ H;clear H;obtain ⟨Ao13,co13,eo13⟩:=Kd.R_slice HO_7.out;subst eo13;have p299 : 0 ≤ (x8_2 : Int):=of_decide_eq_true (by first|(with_reducible assumption)|assumption);have q299 : x8_2 < (t296.length : Int):=of_decide_eq_true (by first|(with_reducible assumption)|assumption);obtain ⟨ad299,e299,hx299_0⟩:=Kd.at_int (Kd.R_reads' HO_7.out).2.2 x8_2 p299 q299;cases e299;replace p299:=eq_true p299;replace q299:=eq_true q299;go_wp2_with (first|((with_reducible refine gate_callee (f:=21) rfl ?_);refine goesL_ (some 34) rfl rfl Tryd.func21 (by kernel_rfl) rfl #[.slice A0 l0.length c0,.int .i64 (rd t296 x8_2)] rfl (by first|(simp only [List.map_toArray,List.map_cons,List.map_nil] <;> rfl)|rfl|(simp only [List.length_drop,List.length_take];rfl)) ?_;(with_reducible refine (logjamref27_Next.calls k2 _ _ l0 (rd t296 x8_2) t300 _ ?side1 ?side2 A12.out).mono ?_);(case side1=>repeat (first|exact (Kd.C_below HR0.out HB.out)|(with_reducible first|refine Ca_ ?_ _|refine Cn_ ?_ _|refine Cd_ ?_)));(case side2=>exact HC0.out);rintro e w14 ⟨v301,rfl,ho0,hb⟩;refine ⟨_,rfl,?_⟩;have n0_:=A0_ (Kd.R_elder' (by (with_reducible repeat first|apply Ra_|apply Rn_|apply Rd_);exact HO_7.out) (Kd.R_base ho0) hb);have n1_:=A0_ (Kd.R_lower (Kd.R_new' ho0 (Kd.R_lt (by (with_reducible repeat first|apply Ra_|apply Rn_|apply Rd_);exact HO_7.out))) (below_size (by repeat (first|(with_reducible first|exact HB.out|apply ba_|apply pN_|apply b1_)|exact HB.out))));have n2_:=A0_ (below_step (by repeat (first|(with_reducible first|exact HB.out|apply ba_|apply pN_|apply b1_)|exact HB.out)) hb);clear HO_7;clear HB;have HO_7:=n0_;have HO302:=n1_;have HB:=n2_;clear n0_ n1_ n2_;(try clear hb);(try clear hb2);(try clear hk);(try clear hi);(try clear ho0)))
          go_loopg [5,10] k2 (fun kq v5 v10 w'=>∃ (x5_3 : Int) (x10_3 : Int),v5 = .int .u64 x5_3 ∧ v10 = .int .i64 x10_3 ∧ Aside0 (logjamref27_Reach.l2 kq l0 x5_3 x6_1 t296 x8_2 t300 x10_3 = some r) ∧ Aside0 (kq ≤ k2) ∧ Aside0 (Kd.R (Kd.int .i64) 3 w' w.heap.size (fun k_=>some k_ ≠ (v301 : Value).ownBlock) (.slice (some ad299) t296.length co13) t296) ∧ Aside0 (Kd.R (Kd.int .i64) 3 w' w.heap.size (fun k_=>some k_ ≠ ((.slice (some ad299) t296.length co13) : Value).ownBlock) v301 t300) ∧ Aside0 (Below w.heap.size w w'))
          case atStart=>exact ⟨(x5_2),(0),(by first|rfl|(simp;done)|(simp [*];done)),(by first|rfl|(simp;done)|(simp [*];done)),H',⟨Nat.le_refl _⟩,⟨by (with_reducible repeat first|apply Ra_|apply Rn_|apply Rd_);exact Kd.R_mono HO_7.out (fun _ hk=>hk.2)⟩,⟨by (with_reducible repeat first|apply Ra_|apply Rn_|apply Rd_);exact Kd.R_mono HO302.out (fun _ hk=>hk.2)⟩,⟨by repeat (first|(with_reducible first|exact HB.out|apply ba_|apply pN_|apply b1_)|exact HB.out)⟩⟩
          case round =>
            clear H';(try clear c1);(try clear c2);(try clear p2);(try clear q2);(try clear hx2);(try clear c5);(try clear c7);(try clear c7b0);(try clear c10);(try clear c10b0);(try clear c11);(try clear c11b0);(try clear hx299_0);(try clear p2);(try clear p299);(try clear q299);obtain ⟨x5_3,x10_3,rfl,rfl,HA,HK3,HO_7,HO_9,HB⟩:=hrel
            cases gk with
            | zero=>exact absurd HA.out (by simp [logjamref27_Reach.l2])
            | succ k3 =>
              have H:=HA.out;clear HA;simp only [logjamref27_Reach.l2] at H;by_cases c15 : x10_3 < (t300.length : Int);rotate_left
              · rw [if_neg c15] at H
                have c15b0 : decide (x10_3 < (t300.length : Int)) = false:=decide_eq_false c15;clear c15;have H':=A0_ H;clear H;obtain ⟨Ao19,co19,eo19⟩:=Kd.R_slice HO_9.out;subst eo19;go_wp2
                go_roundg k3
                case measure=>have:=HK1.out;have:=HK2.out;have:=HK3.out;omega
                case rel=>exact ⟨(x5_3),(wrap64 (x8_2 + 1)),(by first|rfl|(simp;done)|(simp [*];done)),(by first|rfl|(simp;done)|(simp [*];done)),H',⟨by have:=HK1.out;have:=HK2.out;have:=HK3.out;omega⟩,⟨by (with_reducible repeat first|apply Ra_|apply Rn_|apply Rd_);exact Kd.R_mono HO_7.out (fun _ hk=>trivial)⟩,⟨by repeat (first|(with_reducible first|exact HB.out|apply ba_|apply pN_|apply b1_)|exact HB.out)⟩⟩
              rw [if_pos c15] at H;have c15b0 : decide (x10_3 < (t300.length : Int)) = true:=decide_eq_true c15;clear c15;by_cases c16 : 0 ≤ x10_3;rotate_left
              · rw [if_neg c16] at H
                exact absurd H (by simp)
              rw [if_pos c16] at H;have c16b0 : decide (0 ≤ x10_3) = true:=decide_eq_true c16;clear c16;replace H:=bm_ H;obtain ⟨t304,A170,H⟩:=H;replace H : (logjamref27_Reach.l2 k3 l0 t304 x6_1 t296 x8_2 t300 (wrap64 (x10_3 + 1))) = some r:=H;have A17:=A0_ A170;clear A170;have H':=A0_ H;clear H;obtain ⟨Ao18,co18,eo18⟩:=Kd.R_slice HO_9.out;subst eo18;have p303 : 0 ≤ (x10_3 : Int):=of_decide_eq_true (by first|(with_reducible assumption)|assumption);have q303 : x10_3 < (t300.length : Int):=of_decide_eq_true (by first|(with_reducible assumption)|assumption);obtain ⟨ad303,e303,hx303_0⟩:=Kd.at_int (Kd.R_reads' HO_9.out).2.2 x10_3 p303 q303;cases e303;replace p303:=eq_true p303;replace q303:=eq_true q303;go_wp2_with (first|((with_reducible refine gate_callee (f:=57) rfl ?_);refine goesL_ (some 46) rfl rfl Tryd.func57 (by kernel_rfl) rfl #[.int .u64 x5_3,.int .i64 (rd t300 x10_3)] rfl (by first|(simp only [List.map_toArray,List.map_cons,List.map_nil] <;> rfl)|rfl|(simp only [List.length_drop,List.length_take];rfl)) ?_;(with_reducible refine (logjamref02_With.calls k3 x5_3 (rd t300 x10_3) t304 _ A17.out).mono ?_);rintro e w' ⟨rfl,⟨nd,rfl⟩⟩;refine ⟨_,rfl,?_⟩))
              go_roundg k3
              case measure=>have:=HK1.out;have:=HK2.out;have:=HK3.out;omega
              case rel=>exact ⟨(t304),(wrap64 (x10_3 + 1)),(by first|rfl|(simp;done)|(simp [*];done)),(by first|rfl|(simp;done)|(simp [*];done)),H',⟨by have:=HK1.out;have:=HK2.out;have:=HK3.out;omega⟩,⟨by (with_reducible repeat first|apply Ra_|apply Rn_|apply Rd_);exact HO_7.out⟩,⟨by (with_reducible repeat first|apply Ra_|apply Rn_|apply Rd_);exact HO_9.out⟩,⟨by repeat (first|(with_reducible first|exact HB.out|apply ba_|apply pN_|apply b1_)|exact HB.out)⟩⟩
/-! ### logjamref27_Doomed: function 18 -/
mutual
def logjamref27_Doomed.l0 : Nat → List (S44) → Int → Int → Int → Option (Int)
  | 0,_,_,_,_=>none
  | k + 1,x0,x3,x4,x5=>if x5 < (x0.length : Int) then ((logjamref27_Reach.f k x0 x5).bind fun t305=>((logjamref02_Has.f k t305 x5).bind fun t306=>(if t306 = true then ((logjamref02_With.f k x3 x5).bind fun t307=>(logjamref27_Doomed.l0 k x0 t307 x4 (wrap64 (x5 + 1)))) else (logjamref27_Doomed.l0 k x0 x3 x4 (wrap64 (x5 + 1)))))) else (logjamref27_Doomed.l1 k x0 x3 x4 0)
def logjamref27_Doomed.l1 : Nat → List (S44) → Int → Int → Int → Option (Int)
  | 0,_,_,_,_=>none
  | k + 1,x0,x3,x4,x6=>if x6 < (x0.length : Int) then ((logjamref02_Has.f k x3 x6).bind fun t308=>(if t308 = true then ((logjamref02_With.f k x4 x6).bind fun t309=>(logjamref27_Doomed.l1 k x0 x3 t309 (wrap64 (x6 + 1)))) else ((logjamref27_Reach.f k x0 x6).bind fun t310=>(if (Go.bits .and .u64 t310 x3) = 0 then (logjamref27_Doomed.l1 k x0 x3 x4 (wrap64 (x6 + 1))) else ((logjamref02_With.f k x4 x6).bind fun t311=>(logjamref27_Doomed.l1 k x0 x3 t311 (wrap64 (x6 + 1)))))))) else (some x4)
end
def logjamref27_Doomed.f (k : Nat) (l0 : List (S44)) : Option (Int) := logjamref27_Doomed.l0 k l0 0 0 0
theorem logjamref27_Doomed.mono_l : ∀ k, (∀ y0 y1 y2 y3, LeO (logjamref27_Doomed.l0 k y0 y1 y2 y3) (logjamref27_Doomed.l0 (k + 1) y0 y1 y2 y3)) ∧ (∀ y0 y1 y2 y3, LeO (logjamref27_Doomed.l1 k y0 y1 y2 y3) (logjamref27_Doomed.l1 (k + 1) y0 y1 y2 y3))
  | 0=>⟨fun _ _ _ _ r h=>by simp [logjamref27_Doomed.l0] at h,fun _ _ _ _ r h=>by simp [logjamref27_Doomed.l1] at h⟩
  | k + 1=>by
    obtain ⟨ih0,ih1⟩:=logjamref27_Doomed.mono_l k;refine ⟨?_,?_⟩
    all_goals intros
    all_goals first | unfold logjamref27_Doomed.l0 | unfold logjamref27_Doomed.l1
    all_goals
      repeat' first
      | (with_reducible exact ih0 _ _ _ _)
      | (with_reducible exact ih1 _ _ _ _)
      | (with_reducible exact logjamref02_Has.mono _ _ _)
      | (with_reducible exact logjamref02_With.mono _ _ _)
      | (with_reducible exact logjamref27_Reach.mono _ _ _)
      | (with_reducible exact LeO.refl _)
      | (with_reducible exact LeO.none _)
      | (with_reducible refine LeO.ite ?_ ?_)
      | (with_reducible refine LeO.bind ?_ (fun _=>?_))
      | exact ih0 _ _ _ _
      | exact ih1 _ _ _ _
      | exact logjamref02_Has.mono _ _ _
      | exact logjamref02_With.mono _ _ _
      | exact logjamref27_Reach.mono _ _ _
      | exact LeO.none _
      | refine LeO.ite ?_ ?_
      | refine LeO.bind ?_ (fun _=>?_)
theorem logjamref27_Doomed.mono : ∀ a0 k, LeO (logjamref27_Doomed.f k a0) (logjamref27_Doomed.f (k + 1) a0) := by
  intro a0 k
  obtain ⟨ih0,ih1⟩:=logjamref27_Doomed.mono_l k;unfold logjamref27_Doomed.f
  repeat' first
      | (with_reducible exact ih0 _ _ _ _)
      | (with_reducible exact ih1 _ _ _ _)
      | (with_reducible exact logjamref02_Has.mono _ _ _)
      | (with_reducible exact logjamref02_With.mono _ _ _)
      | (with_reducible exact logjamref27_Reach.mono _ _ _)
      | (with_reducible exact LeO.refl _)
      | (with_reducible exact LeO.none _)
      | (with_reducible refine LeO.ite ?_ ?_)
      | (with_reducible refine LeO.bind ?_ (fun _=>?_))
      | exact ih0 _ _ _ _
      | exact ih1 _ _ _ _
      | exact logjamref02_Has.mono _ _ _
      | exact logjamref02_With.mono _ _ _
      | exact logjamref27_Reach.mono _ _ _
      | exact LeO.none _
      | refine LeO.ite ?_ ?_
      | refine LeO.bind ?_ (fun _=>?_)
set_option maxHeartbeats 8000000 in
set_option maxRecDepth 100000 in
theorem logjamref27_Doomed.calls (k : Nat) (A0 : Option Addr) (c0 : Nat) (l0 : List (S44)) (r : Int) (w : World) (hr0 : Kd.C k44 w A0 l0.length l0) (hc0 : l0.length ≤ c0) (h : logjamref27_Doomed.f k l0 = some r) :
    Calls Tryd.prog 18 #[.slice A0 l0.length c0] w fun e w'=>e = .returned (.int .u64 r) ∧ Below w.heap.size w w':=by
  have HR0:=A0_ hr0;have HC0:=A0_ hc0;clear hr0 hc0;have HB:=A0_ (Below.refl w.heap.size w);have H : (logjamref27_Doomed.l0 k l0 0 0 0) = some r:=h;clear h;have H':=A0_ H;clear H;go_enter Tryd.func18,Tryd.ntmps18;go_wp2
  go_loopg [3,5] k (fun kq v3 v5 w'=>∃ (x3_1 : Int) (x5_1 : Int),v3 = .int .u64 x3_1 ∧ v5 = .int .i64 x5_1 ∧ Aside0 (logjamref27_Doomed.l0 kq l0 x3_1 0 x5_1 = some r) ∧ Aside0 (kq ≤ k) ∧ Aside0 (Below w.heap.size w w'))
  case atStart=>exact ⟨(0),(0),(by first|rfl|(simp;done)|(simp [*];done)),(by first|rfl|(simp;done)|(simp [*];done)),H',⟨Nat.le_refl _⟩,⟨by repeat (first|(with_reducible first|exact HB.out|apply ba_|apply pN_|apply b1_)|exact HB.out)⟩⟩
  case round =>
    clear H';(try clear c1);obtain ⟨x3_1,x5_1,rfl,rfl,HA,HK1,HB⟩:=hrel
    cases gk with
    | zero=>exact absurd HA.out (by simp [logjamref27_Doomed.l0])
    | succ k1 =>
      have H:=HA.out;clear HA;simp only [logjamref27_Doomed.l0] at H;by_cases c2 : x5_1 < (l0.length : Int)
      · rw [if_pos c2] at H
        have c2b0 : decide (x5_1 < (l0.length : Int)) = true:=decide_eq_true c2;clear c2;replace H:=bm_ H;obtain ⟨t305,A30,H⟩:=H;replace H : ((logjamref02_Has.f k1 t305 x5_1).bind fun t306=>(if t306 = true then ((logjamref02_With.f k1 x3_1 x5_1).bind fun t307=>(logjamref27_Doomed.l0 k1 l0 t307 0 (wrap64 (x5_1 + 1)))) else (logjamref27_Doomed.l0 k1 l0 x3_1 0 (wrap64 (x5_1 + 1))))) = some r:=H;have A3:=A0_ A30;clear A30;replace H:=bm_ H;obtain ⟨t306,A40,H⟩:=H;replace H : (if t306 = true then ((logjamref02_With.f k1 x3_1 x5_1).bind fun t307=>(logjamref27_Doomed.l0 k1 l0 t307 0 (wrap64 (x5_1 + 1)))) else (logjamref27_Doomed.l0 k1 l0 x3_1 0 (wrap64 (x5_1 + 1)))) = some r:=H;have A4:=A0_ A40;clear A40;by_cases c5 : t306 = true;rotate_left
        · replace c5:=Bool.eq_false_iff.mpr c5
          subst c5;have H1 : (logjamref27_Doomed.l0 k1 l0 x3_1 0 (wrap64 (x5_1 + 1))) = some r:=by rw [if_neg (show ¬ (false = true) by decide)] at H;exact H
          clear H;have H:=H1;clear H1;have H':=A0_ H;clear H;go_wp2_with (first|((with_reducible refine gate_callee (f:=56) rfl ?_);refine goesL_ (some 15) rfl rfl Tryd.func56 (by kernel_rfl) rfl #[.slice A0 l0.length c0,.int .i64 x5_1] rfl (by first|(simp only [List.map_toArray,List.map_cons,List.map_nil] <;> rfl)|rfl|(simp only [List.length_drop,List.length_take];rfl)) ?_;(with_reducible refine (logjamref27_Reach.calls k1 _ _ l0 x5_1 t305 _ ?side1 ?side2 A3.out).mono ?_);(case side1=>repeat (first|exact (Kd.C_below HR0.out HB.out)|(with_reducible first|refine Ca_ ?_ _|refine Cn_ ?_ _|refine Cd_ ?_)));(case side2=>exact HC0.out);rintro e w8 ⟨rfl,hb⟩;refine ⟨_,rfl,?_⟩;have n0_:=A0_ (below_step (by repeat (first|(with_reducible first|exact HB.out|apply ba_|apply pN_|apply b1_)|exact HB.out)) hb);clear HB;have HB:=n0_;clear n0_;(try clear hb);(try clear hb2);(try clear hk);(try clear hi))|((with_reducible refine gate_callee (f:=55) rfl ?_);refine goesL_ (some 17) rfl rfl Tryd.func55 (by kernel_rfl) rfl #[.int .u64 t305,.int .i64 x5_1] rfl (by first|(simp only [List.map_toArray,List.map_cons,List.map_nil] <;> rfl)|rfl|(simp only [List.length_drop,List.length_take];rfl)) ?_;(with_reducible refine (logjamref02_Has.calls k1 t305 x5_1 false _ A4.out).mono ?_);rintro e w' ⟨rfl,⟨nd,rfl⟩⟩;refine ⟨_,rfl,?_⟩))
          go_roundg k1
          case measure=>have:=HK1.out;omega
          case rel=>exact ⟨(x3_1),(wrap64 (x5_1 + 1)),(by first|rfl|(simp;done)|(simp [*];done)),(by first|rfl|(simp;done)|(simp [*];done)),H',⟨by have:=HK1.out;omega⟩,⟨by repeat (first|(with_reducible first|exact HB.out|apply ba_|apply pN_|apply b1_)|exact HB.out)⟩⟩
        subst c5;have H1 : ((logjamref02_With.f k1 x3_1 x5_1).bind fun t307=>(logjamref27_Doomed.l0 k1 l0 t307 0 (wrap64 (x5_1 + 1)))) = some r:=by rw [if_pos rfl] at H;exact H
        clear H;have H:=H1;clear H1;replace H:=bm_ H;obtain ⟨t307,A60,H⟩:=H;replace H : (logjamref27_Doomed.l0 k1 l0 t307 0 (wrap64 (x5_1 + 1))) = some r:=H;have A6:=A0_ A60;clear A60;have H':=A0_ H;clear H;go_wp2_with (first|((with_reducible refine gate_callee (f:=56) rfl ?_);refine goesL_ (some 15) rfl rfl Tryd.func56 (by kernel_rfl) rfl #[.slice A0 l0.length c0,.int .i64 x5_1] rfl (by first|(simp only [List.map_toArray,List.map_cons,List.map_nil] <;> rfl)|rfl|(simp only [List.length_drop,List.length_take];rfl)) ?_;(with_reducible refine (logjamref27_Reach.calls k1 _ _ l0 x5_1 t305 _ ?side1 ?side2 A3.out).mono ?_);(case side1=>repeat (first|exact (Kd.C_below HR0.out HB.out)|(with_reducible first|refine Ca_ ?_ _|refine Cn_ ?_ _|refine Cd_ ?_)));(case side2=>exact HC0.out);rintro e w7 ⟨rfl,hb⟩;refine ⟨_,rfl,?_⟩;have n0_:=A0_ (below_step (by repeat (first|(with_reducible first|exact HB.out|apply ba_|apply pN_|apply b1_)|exact HB.out)) hb);clear HB;have HB:=n0_;clear n0_;(try clear hb);(try clear hb2);(try clear hk);(try clear hi))|((with_reducible refine gate_callee (f:=55) rfl ?_);refine goesL_ (some 17) rfl rfl Tryd.func55 (by kernel_rfl) rfl #[.int .u64 t305,.int .i64 x5_1] rfl (by first|(simp only [List.map_toArray,List.map_cons,List.map_nil] <;> rfl)|rfl|(simp only [List.length_drop,List.length_take];rfl)) ?_;(with_reducible refine (logjamref02_Has.calls k1 t305 x5_1 true _ A4.out).mono ?_);rintro e w' ⟨rfl,⟨nd,rfl⟩⟩;refine ⟨_,rfl,?_⟩)|((with_reducible refine gate_callee (f:=57) rfl ?_);refine goesL_ (some 20) rfl rfl Tryd.func57 (by kernel_rfl) rfl #[.int .u64 x3_1,.int .i64 x5_1] rfl (by first|(simp only [List.map_toArray,List.map_cons,List.map_nil] <;> rfl)|rfl|(simp only [List.length_drop,List.length_take];rfl)) ?_;(with_reducible refine (logjamref02_With.calls k1 x3_1 x5_1 t307 _ A6.out).mono ?_);rintro e w' ⟨rfl,⟨nd,rfl⟩⟩;refine ⟨_,rfl,?_⟩))
        go_roundg k1
        case measure=>have:=HK1.out;omega
        case rel=>exact ⟨(t307),(wrap64 (x5_1 + 1)),(by first|rfl|(simp;done)|(simp [*];done)),(by first|rfl|(simp;done)|(simp [*];done)),H',⟨by have:=HK1.out;omega⟩,⟨by repeat (first|(with_reducible first|exact HB.out|apply ba_|apply pN_|apply b1_)|exact HB.out)⟩⟩
      rw [if_neg c2] at H;have c2b0 : decide (x5_1 < (l0.length : Int)) = false:=decide_eq_false c2;clear c2;have H':=A0_ H;clear H;go_wp2
      go_loopg [4,6] k1 (fun kq v4 v6 w'=>∃ (x4_2 : Int) (x6_2 : Int),v4 = .int .u64 x4_2 ∧ v6 = .int .i64 x6_2 ∧ Aside0 (logjamref27_Doomed.l1 kq l0 x3_1 x4_2 x6_2 = some r) ∧ Aside0 (kq ≤ k1) ∧ Aside0 (Below w.heap.size w w'))
      case atStart=>exact ⟨(0),(0),(by first|rfl|(simp;done)|(simp [*];done)),(by first|rfl|(simp;done)|(simp [*];done)),H',⟨Nat.le_refl _⟩,⟨by repeat (first|(with_reducible first|exact HB.out|apply ba_|apply pN_|apply b1_)|exact HB.out)⟩⟩
      case round =>
        clear H';(try clear c1);(try clear c2);(try clear c2b0);(try clear p2);(try clear c5);(try clear p6);obtain ⟨x4_2,x6_2,rfl,rfl,HA,HK2,HB⟩:=hrel
        cases gk with
        | zero=>exact absurd HA.out (by simp [logjamref27_Doomed.l1])
        | succ k2 =>
          have H:=HA.out;clear HA;simp only [logjamref27_Doomed.l1] at H;by_cases c9 : x6_2 < (l0.length : Int);rotate_left
          · rw [if_neg c9] at H
            have c9b0 : decide (x6_2 < (l0.length : Int)) = false:=decide_eq_false c9;clear c9;obtain rfl:=Option.some.inj H;go_wp2;go_ret;exact ⟨by first|rfl|(simp [errW_none,errW_some] <;> rfl)|(simp [*,errW_none,errW_some] <;> rfl),by repeat (first|(with_reducible first|exact HB.out|apply ba_|apply pN_|apply b1_)|exact HB.out)⟩

          rw [if_pos c9] at H;have c9b0 : decide (x6_2 < (l0.length : Int)) = true:=decide_eq_true c9;clear c9;replace H:=bm_ H;obtain ⟨t308,A100,H⟩:=H;replace H : (if t308 = true then ((logjamref02_With.f k2 x4_2 x6_2).bind fun t309=>(logjamref27_Doomed.l1 k2 l0 x3_1 t309 (wrap64 (x6_2 + 1)))) else ((logjamref27_Reach.f k2 l0 x6_2).bind fun t310=>(if (Go.bits .and .u64 t310 x3_1) = 0 then (logjamref27_Doomed.l1 k2 l0 x3_1 x4_2 (wrap64 (x6_2 + 1))) else ((logjamref02_With.f k2 x4_2 x6_2).bind fun t311=>(logjamref27_Doomed.l1 k2 l0 x3_1 t311 (wrap64 (x6_2 + 1))))))) = some r:=H;have A10:=A0_ A100;clear A100;by_cases c11 : t308 = true
          · subst c11
            have H1 : ((logjamref02_With.f k2 x4_2 x6_2).bind fun t309=>(logjamref27_Doomed.l1 k2 l0 x3_1 t309 (wrap64 (x6_2 + 1)))) = some r:=by rw [if_pos rfl] at H;exact H
            clear H;have H:=H1;clear H1;replace H:=bm_ H;obtain ⟨t309,A120,H⟩:=H;replace H : (logjamref27_Doomed.l1 k2 l0 x3_1 t309 (wrap64 (x6_2 + 1))) = some r:=H;have A12:=A0_ A120;clear A120;have H':=A0_ H;clear H;go_wp2_with (first|((with_reducible refine gate_callee (f:=55) rfl ?_);refine goesL_ (some 29) rfl rfl Tryd.func55 (by kernel_rfl) rfl #[.int .u64 x3_1,.int .i64 x6_2] rfl (by first|(simp only [List.map_toArray,List.map_cons,List.map_nil] <;> rfl)|rfl|(simp only [List.length_drop,List.length_take];rfl)) ?_;(with_reducible refine (logjamref02_Has.calls k2 x3_1 x6_2 true _ A10.out).mono ?_);rintro e w' ⟨rfl,⟨nd,rfl⟩⟩;refine ⟨_,rfl,?_⟩)|((with_reducible refine gate_callee (f:=57) rfl ?_);refine goesL_ (some 40) rfl rfl Tryd.func57 (by kernel_rfl) rfl #[.int .u64 x4_2,.int .i64 x6_2] rfl (by first|(simp only [List.map_toArray,List.map_cons,List.map_nil] <;> rfl)|rfl|(simp only [List.length_drop,List.length_take];rfl)) ?_;(with_reducible refine (logjamref02_With.calls k2 x4_2 x6_2 t309 _ A12.out).mono ?_);rintro e w' ⟨rfl,⟨nd,rfl⟩⟩;refine ⟨_,rfl,?_⟩))
            go_roundg k2
            case measure=>have:=HK1.out;have:=HK2.out;omega
            case rel=>exact ⟨(t309),(wrap64 (x6_2 + 1)),(by first|rfl|(simp;done)|(simp [*];done)),(by first|rfl|(simp;done)|(simp [*];done)),H',⟨by have:=HK1.out;have:=HK2.out;omega⟩,⟨by repeat (first|(with_reducible first|exact HB.out|apply ba_|apply pN_|apply b1_)|exact HB.out)⟩⟩
          replace c11:=Bool.eq_false_iff.mpr c11;subst c11;have H1 : ((logjamref27_Reach.f k2 l0 x6_2).bind fun t310=>(if (Go.bits .and .u64 t310 x3_1) = 0 then (logjamref27_Doomed.l1 k2 l0 x3_1 x4_2 (wrap64 (x6_2 + 1))) else ((logjamref02_With.f k2 x4_2 x6_2).bind fun t311=>(logjamref27_Doomed.l1 k2 l0 x3_1 t311 (wrap64 (x6_2 + 1)))))) = some r:=by rw [if_neg (show ¬ (false = true) by decide)] at H;exact H
          clear H;have H:=H1;clear H1;replace H:=bm_ H;obtain ⟨t310,A130,H⟩:=H;replace H : (if (Go.bits .and .u64 t310 x3_1) = 0 then (logjamref27_Doomed.l1 k2 l0 x3_1 x4_2 (wrap64 (x6_2 + 1))) else ((logjamref02_With.f k2 x4_2 x6_2).bind fun t311=>(logjamref27_Doomed.l1 k2 l0 x3_1 t311 (wrap64 (x6_2 + 1))))) = some r:=H;have A13:=A0_ A130;clear A130;by_cases c14 : (Go.bits .and .u64 t310 x3_1) = 0
          · rw [if_pos c14] at H
            have c14b0 : ((Go.bits .and .u64 t310 x3_1) == 0) = true:=beq_iff_eq.mpr c14;have c14b1 : ((Go.bits .and .u64 t310 x3_1) != 0) = false:=bne_eq_false_iff_eq.mpr c14;clear c14;have H':=A0_ H;clear H;go_wp2_with (first|((with_reducible refine gate_callee (f:=55) rfl ?_);refine goesL_ (some 29) rfl rfl Tryd.func55 (by kernel_rfl) rfl #[.int .u64 x3_1,.int .i64 x6_2] rfl (by first|(simp only [List.map_toArray,List.map_cons,List.map_nil] <;> rfl)|rfl|(simp only [List.length_drop,List.length_take];rfl)) ?_;(with_reducible refine (logjamref02_Has.calls k2 x3_1 x6_2 false _ A10.out).mono ?_);rintro e w' ⟨rfl,⟨nd,rfl⟩⟩;refine ⟨_,rfl,?_⟩)|(go_at_call 56;(with_reducible refine (logjamref27_Reach.calls k2 _ _ l0 x6_2 t310 _ ?side1 ?side2 A13.out).mono ?_);(case side1=>repeat (first|exact (Kd.C_below HR0.out (by repeat (first|(with_reducible first|exact HB.out|apply ba_|apply pN_|apply b1_)|exact HB.out)))|(with_reducible first|refine Ca_ ?_ _|refine Cn_ ?_ _|refine Cd_ ?_)));(case side2=>exact HC0.out);rintro e w15 ⟨rfl,hb⟩;have n0_:=A0_ (below_step (by repeat (first|(with_reducible first|exact HB.out|apply ba_|apply pN_|apply b1_)|exact HB.out)) hb);clear HB;have HB:=n0_;clear n0_;(try clear hb);(try clear hb2);(try clear hk);(try clear hi)))
            go_roundg k2
            case measure=>have:=HK1.out;have:=HK2.out;omega
            case rel=>exact ⟨(x4_2),(wrap64 (x6_2 + 1)),(by first|rfl|(simp;done)|(simp [*];done)),(by first|rfl|(simp;done)|(simp [*];done)),H',⟨by have:=HK1.out;have:=HK2.out;omega⟩,⟨by repeat (first|(with_reducible first|exact HB.out|apply ba_|apply pN_|apply b1_)|exact HB.out)⟩⟩
          rw [if_neg c14] at H;have c14b0 : ((Go.bits .and .u64 t310 x3_1) == 0) = false:=beq_eq_false_iff_ne.mpr c14;have c14b1 : ((Go.bits .and .u64 t310 x3_1) != 0) = true:=bne_iff_ne.mpr c14;replace H:=bm_ H;obtain ⟨t311,A160,H⟩:=H;replace H : (logjamref27_Doomed.l1 k2 l0 x3_1 t311 (wrap64 (x6_2 + 1))) = some r:=H;have A16:=A0_ A160;clear A160;have H':=A0_ H;clear H;go_wp2_with (first|((with_reducible refine gate_callee (f:=55) rfl ?_);refine goesL_ (some 29) rfl rfl Tryd.func55 (by kernel_rfl) rfl #[.int .u64 x3_1,.int .i64 x6_2] rfl (by first|(simp only [List.map_toArray,List.map_cons,List.map_nil] <;> rfl)|rfl|(simp only [List.length_drop,List.length_take];rfl)) ?_;(with_reducible refine (logjamref02_Has.calls k2 x3_1 x6_2 false _ A10.out).mono ?_);rintro e w' ⟨rfl,⟨nd,rfl⟩⟩;refine ⟨_,rfl,?_⟩)|(go_at_call 56;(with_reducible refine (logjamref27_Reach.calls k2 _ _ l0 x6_2 t310 _ ?side1 ?side2 A13.out).mono ?_);(case side1=>repeat (first|exact (Kd.C_below HR0.out (by repeat (first|(with_reducible first|exact HB.out|apply ba_|apply pN_|apply b1_)|exact HB.out)))|(with_reducible first|refine Ca_ ?_ _|refine Cn_ ?_ _|refine Cd_ ?_)));(case side2=>exact HC0.out);rintro e w17 ⟨rfl,hb⟩;have n0_:=A0_ (below_step (by repeat (first|(with_reducible first|exact HB.out|apply ba_|apply pN_|apply b1_)|exact HB.out)) hb);clear HB;have HB:=n0_;clear n0_;(try clear hb);(try clear hb2);(try clear hk);(try clear hi))|((with_reducible refine gate_callee (f:=57) rfl ?_);refine goesL_ (some 40) rfl rfl Tryd.func57 (by kernel_rfl) rfl #[.int .u64 x4_2,.int .i64 x6_2] rfl (by first|(simp only [List.map_toArray,List.map_cons,List.map_nil] <;> rfl)|rfl|(simp only [List.length_drop,List.length_take];rfl)) ?_;(with_reducible refine (logjamref02_With.calls k2 x4_2 x6_2 t311 _ A16.out).mono ?_);rintro e w' ⟨rfl,⟨nd,rfl⟩⟩;refine ⟨_,rfl,?_⟩))
          go_roundg k2
          case measure=>have:=HK1.out;have:=HK2.out;omega
          case rel=>exact ⟨(t311),(wrap64 (x6_2 + 1)),(by first|rfl|(simp;done)|(simp [*];done)),(by first|rfl|(simp;done)|(simp [*];done)),H',⟨by have:=HK1.out;have:=HK2.out;omega⟩,⟨by repeat (first|(with_reducible first|exact HB.out|apply ba_|apply pN_|apply b1_)|exact HB.out)⟩⟩
/-! ### logjamref02_Next: function 58 -/
def logjamref02_Next.l0 : Nat → Int → List Int → Int → Option (Int)
  | 0,_,_,_=>none
  | k + 1,x1,x5,x6=>if x6 < (x5.length : Int) then (if 0 ≤ x6 then (if (rd x5 x6) > x1 then (some (rd x5 x6)) else (logjamref02_Next.l0 k x1 x5 (wrap64 (x6 + 1)))) else (none)) else (some (-1))
def logjamref02_Next.f (k : Nat) (a0 : Int) (a1 : Int) : Option (Int) := (logjamref02_List.f k a0).bind fun t312 => (logjamref02_Next.l0 k a1 t312 0)
theorem logjamref02_Next.mono_l : ∀ k, (∀ y0 y1 y2, LeO (logjamref02_Next.l0 k y0 y1 y2) (logjamref02_Next.l0 (k + 1) y0 y1 y2))
  | 0=>fun _ _ _ r h=>by simp [logjamref02_Next.l0] at h
  | k + 1=>by
    have ih0:=logjamref02_Next.mono_l k
    · intro y0 y1 y2
      unfold logjamref02_Next.l0
      repeat' first
      | (with_reducible exact ih0 _ _ _)
      | (with_reducible exact logjamref02_List.mono _ _)
      | (with_reducible exact LeO.refl _)
      | (with_reducible exact LeO.none _)
      | (with_reducible refine LeO.ite ?_ ?_)
      | (with_reducible refine LeO.bind ?_ (fun _=>?_))
      | exact ih0 _ _ _
      | exact logjamref02_List.mono _ _
      | exact LeO.none _
      | refine LeO.ite ?_ ?_
      | refine LeO.bind ?_ (fun _=>?_)
theorem logjamref02_Next.mono : ∀ a0 a1 k, LeO (logjamref02_Next.f k a0 a1) (logjamref02_Next.f (k + 1) a0 a1) := by
  intro a0 a1 k
  have ih0:=logjamref02_Next.mono_l k;unfold logjamref02_Next.f
  repeat' first
      | (with_reducible exact ih0 _ _ _)
      | (with_reducible exact logjamref02_List.mono _ _)
      | (with_reducible exact LeO.refl _)
      | (with_reducible exact LeO.none _)
      | (with_reducible refine LeO.ite ?_ ?_)
      | (with_reducible refine LeO.bind ?_ (fun _=>?_))
      | exact ih0 _ _ _
      | exact logjamref02_List.mono _ _
      | exact LeO.none _
      | refine LeO.ite ?_ ?_
      | refine LeO.bind ?_ (fun _=>?_)
set_option maxHeartbeats 8000000 in
set_option maxRecDepth 100000 in
theorem logjamref02_Next.calls (k : Nat) (a0 : Int) (a1 : Int) (r : Int) (w : World) (h : logjamref02_Next.f k a0 a1 = some r) :
    Calls Tryd.prog 58 #[.int .u64 a0,.int .i64 a1] w fun e w'=>e = .returned (.int .i64 r) ∧ Below w.heap.size w w':=by
  have HB:=A0_ (Below.refl w.heap.size w);have H : ((logjamref02_List.f k a0).bind fun t312=>(logjamref02_Next.l0 k a1 t312 0)) = some r:=h;clear h;replace H:=bm_ H;obtain ⟨t312,A30,H⟩:=H;replace H : (logjamref02_Next.l0 k a1 t312 0) = some r:=H;have A3:=A0_ A30;clear A30;have H':=A0_ H;clear H;go_enter Tryd.func58,Tryd.ntmps58;go_wp2_with (first|((with_reducible refine gate_callee (f:=76) rfl ?_);refine goesL_ (some 8) rfl rfl Tryd.func76 (by kernel_rfl) rfl #[.int .u64 a0] rfl (by first|(simp only [List.map_toArray,List.map_cons,List.map_nil] <;> rfl)|rfl|(simp only [List.length_drop,List.length_take];rfl)) ?_;(with_reducible refine (logjamref02_List.calls k a0 t312 _ A3.out).mono ?_);rintro e w4 ⟨v313,rfl,ho0,hb⟩;refine ⟨_,rfl,?_⟩;have n0_:=A0_ (Kd.R_lower ho0 (below_size (by repeat (first|(with_reducible first|exact HB.out|apply ba_|apply pN_|apply b1_)|exact HB.out))));have n1_:=A0_ (below_step (by repeat (first|(with_reducible first|exact HB.out|apply ba_|apply pN_|apply b1_)|exact HB.out)) hb);clear HB;have HO314:=n0_;have HB:=n1_;clear n0_ n1_;(try clear hb);(try clear hb2);(try clear hk);(try clear hi);(try clear ho0)))
  go_loopg [6] k (fun kq v6 w'=>∃ (x6_1 : Int),v6 = .int .i64 x6_1 ∧ Aside0 (logjamref02_Next.l0 kq a1 t312 x6_1 = some r) ∧ Aside0 (kq ≤ k) ∧ Aside0 (Kd.R (Kd.int .i64) 3 w' w.heap.size (fun _=>True) v313 t312) ∧ Aside0 (Below w.heap.size w w'))
  case atStart=>exact ⟨(0),(by first|rfl|(simp;done)|(simp [*];done)),H',⟨Nat.le_refl _⟩,⟨by (with_reducible repeat first|apply Ra_|apply Rn_|apply Rd_);exact HO314.out⟩,⟨by repeat (first|(with_reducible first|exact HB.out|apply ba_|apply pN_|apply b1_)|exact HB.out)⟩⟩
  case round =>
    clear H';(try clear p2);obtain ⟨x6_1,rfl,HA,HK1,HO_5,HB⟩:=hrel
    cases gk with
    | zero=>exact absurd HA.out (by simp [logjamref02_Next.l0])
    | succ k1 =>
      have H:=HA.out;clear HA;simp only [logjamref02_Next.l0] at H;by_cases c5 : x6_1 < (t312.length : Int);rotate_left
      · rw [if_neg c5] at H
        have c5b0 : decide (x6_1 < (t312.length : Int)) = false:=decide_eq_false c5;clear c5;obtain rfl:=Option.some.inj H;obtain ⟨Ao10,co10,eo10⟩:=Kd.R_slice HO_5.out;subst eo10;go_wp2;go_ret;exact ⟨by first|rfl|(simp [errW_none,errW_some] <;> rfl)|(simp [*,errW_none,errW_some] <;> rfl),by repeat (first|(with_reducible first|exact HB.out|apply ba_|apply pN_|apply b1_)|exact HB.out)⟩

      rw [if_pos c5] at H;have c5b0 : decide (x6_1 < (t312.length : Int)) = true:=decide_eq_true c5;clear c5;by_cases c6 : 0 ≤ x6_1;rotate_left
      · rw [if_neg c6] at H
        exact absurd H (by simp)
      rw [if_pos c6] at H;have c6b0 : decide (0 ≤ x6_1) = true:=decide_eq_true c6;clear c6;by_cases c7 : (rd t312 x6_1) > a1;rotate_left
      · rw [if_neg c7] at H
        have c7b0 : decide (a1 < (rd t312 x6_1)) = false:=decide_eq_false c7;clear c7;have H':=A0_ H;clear H;obtain ⟨Ao9,co9,eo9⟩:=Kd.R_slice HO_5.out;subst eo9;have p315 : 0 ≤ (x6_1 : Int):=of_decide_eq_true (by first|(with_reducible assumption)|assumption);have q315 : x6_1 < (t312.length : Int):=of_decide_eq_true (by first|(with_reducible assumption)|assumption);obtain ⟨ad315,e315,hx315_0⟩:=Kd.at_int (Kd.R_reads' HO_5.out).2.2 x6_1 p315 q315;cases e315;replace p315:=eq_true p315;replace q315:=eq_true q315;go_wp2
        go_roundg k1
        case measure=>have:=HK1.out;omega
        case rel=>exact ⟨(wrap64 (x6_1 + 1)),(by first|rfl|(simp;done)|(simp [*];done)),H',⟨by have:=HK1.out;omega⟩,⟨by (with_reducible repeat first|apply Ra_|apply Rn_|apply Rd_);exact HO_5.out⟩,⟨by repeat (first|(with_reducible first|exact HB.out|apply ba_|apply pN_|apply b1_)|exact HB.out)⟩⟩
      rw [if_pos c7] at H;have c7b0 : decide (a1 < (rd t312 x6_1)) = true:=decide_eq_true c7;clear c7;obtain rfl:=Option.some.inj H;obtain ⟨Ao8,co8,eo8⟩:=Kd.R_slice HO_5.out;subst eo8;have p315 : 0 ≤ (x6_1 : Int):=of_decide_eq_true (by first|(with_reducible assumption)|assumption);have q315 : x6_1 < (t312.length : Int):=of_decide_eq_true (by first|(with_reducible assumption)|assumption);obtain ⟨ad315,e315,hx315_0⟩:=Kd.at_int (Kd.R_reads' HO_5.out).2.2 x6_1 p315 q315;cases e315;replace p315:=eq_true p315;replace q315:=eq_true q315;have p316 : 0 ≤ (x6_1 : Int):=of_decide_eq_true (by first|(with_reducible assumption)|assumption);have q316 : x6_1 < (t312.length : Int):=of_decide_eq_true (by first|(with_reducible assumption)|assumption);obtain ⟨ad316,e316,hx316_0⟩:=Kd.at_int (Kd.R_reads' HO_5.out).2.2 x6_1 p316 q316;obtain rfl : ad315 = ad316:=(by injection e316);replace p316:=eq_true p316;replace q316:=eq_true q316;go_wp2;go_ret;exact ⟨by first|rfl|(simp [errW_none,errW_some] <;> rfl)|(simp [*,errW_none,errW_some] <;> rfl),by repeat (first|(with_reducible first|exact HB.out|apply ba_|apply pN_|apply b1_)|exact HB.out)⟩
end Go.Proofs.YtbfbegleffkafaaDoor.PCycleTells
