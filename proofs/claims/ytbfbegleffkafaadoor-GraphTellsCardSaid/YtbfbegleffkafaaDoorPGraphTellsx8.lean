/- Go functions as plain Lean functions, and that the calls come to them. Conditions: none. (Written by a program of this session.) -/
import Derived.Test.YtbfbegleffkafaaDoorPGraphTellsx0
import Derived.Test.YtbfbegleffkafaaDoorPGraphTellsx7
namespace Go.Proofs.YtbfbegleffkafaaDoor.PGraphTells
open Go.RowKit Go.Proofs.YtbfbegleffkafaaDoorW.PrintWords Go.Proofs.YtbfbegleffkafaaDoorW.PrintLast Go.Proofs.YtbfbegleffkafaaDoorW.PrintMore
attribute [local go_sem] max2_int min2_int max_two min_two max_three min_three max_four min_four   -- for this text's walks alone
set_option linter.unusedVariables false
set_option linter.unusedSimpArgs false

/-! ### logjamref02_With: function 57 -/
def logjamref02_With.f (k : Nat) (a0 : Int) (a1 : Int) : Option (Int) := if a1 < 0 then (some a0) else (if a1 > 63 then (some a0) else ((logjamref02_Has.f k a0 a1).bind fun t213 => (if t213 = true then (some a0) else ((logjamref02_power.f k a1).bind fun t214 => (some (IntKind.u64.wrap (a0 + t214)))))))
theorem logjamref02_With.mono : ∀ a0 a1 k, LeO (logjamref02_With.f k a0 a1) (logjamref02_With.f (k + 1) a0 a1) := by
  intro a0 a1 k
  unfold logjamref02_With.f
  repeat' first
      | (with_reducible exact logjamref02_Has.mono _ _ _)
      | (with_reducible exact logjamref02_power.mono _ _)
      | (with_reducible exact LeO.refl _)
      | (with_reducible exact LeO.none _)
      | (with_reducible refine LeO.ite ?_ ?_)
      | (with_reducible refine LeO.bind ?_ (fun _=>?_))
      | exact logjamref02_Has.mono _ _ _
      | exact logjamref02_power.mono _ _
      | exact LeO.none _
      | refine LeO.ite ?_ ?_
      | refine LeO.bind ?_ (fun _=>?_)
set_option maxHeartbeats 8000000 in
set_option maxRecDepth 100000 in
theorem logjamref02_With.calls (k : Nat) (a0 : Int) (a1 : Int) (r : Int) (w : World) (h : logjamref02_With.f k a0 a1 = some r) :
    Calls Tryd.prog 57 #[.int .u64 a0,.int .i64 a1] w fun e w'=>e = .returned (.int .u64 r) ∧ Drawn0 w w':=by
  have H : (if a1 < 0 then (some a0) else (if a1 > 63 then (some a0) else ((logjamref02_Has.f k a0 a1).bind fun t213=>(if t213 = true then (some a0) else ((logjamref02_power.f k a1).bind fun t214=>(some (IntKind.u64.wrap (a0 + t214)))))))) = some r:=h;clear h;by_cases c3 : a1 < 0
  · rw [if_pos c3] at H
    have c3b0 : decide (a1 < 0) = true:=decide_eq_true c3;clear c3;obtain rfl:=Option.some.inj H;go_enter Tryd.func57,Tryd.ntmps57;go_wp2;go_ret;exact ⟨by first|rfl|(simp;done)|(simp [*];done),by repeat (first|exact Drawn0.refl _|apply Drawn0.step)⟩
  rw [if_neg c3] at H;have c3b0 : decide (a1 < 0) = false:=decide_eq_false c3;clear c3;by_cases c4 : a1 > 63
  · rw [if_pos c4] at H
    have c4b0 : decide (63 < a1) = true:=decide_eq_true c4;clear c4;obtain rfl:=Option.some.inj H;go_enter Tryd.func57,Tryd.ntmps57;go_wp2;go_ret;exact ⟨by first|rfl|(simp;done)|(simp [*];done),by repeat (first|exact Drawn0.refl _|apply Drawn0.step)⟩
  rw [if_neg c4] at H;have c4b0 : decide (63 < a1) = false:=decide_eq_false c4;clear c4;replace H:=bm_ H;obtain ⟨t213,A50,H⟩:=H;replace H : (if t213 = true then (some a0) else ((logjamref02_power.f k a1).bind fun t214=>(some (IntKind.u64.wrap (a0 + t214))))) = some r:=H;have A5:=A0_ A50;clear A50;by_cases c6 : t213 = true
  · subst c6
    have H1 : (some a0) = some r:=by rw [if_pos rfl] at H;exact H
    clear H;have H:=H1;clear H1;obtain rfl:=Option.some.inj H;go_enter Tryd.func57,Tryd.ntmps57;go_wp2_with (first|(go_at_call 55;(with_reducible refine (logjamref02_Has.calls k a0 a1 true _ A5.out).mono ?_);rintro e w' ⟨rfl,⟨nd,rfl⟩⟩));go_ret;exact ⟨by first|rfl|(simp;done)|(simp [*];done),by repeat (first|exact Drawn0.refl _|apply Drawn0.step)⟩
  replace c6:=Bool.eq_false_iff.mpr c6;subst c6;have H1 : ((logjamref02_power.f k a1).bind fun t214=>(some (IntKind.u64.wrap (a0 + t214)))) = some r:=by rw [if_neg (show ¬ (false = true) by decide)] at H;exact H
  clear H;have H:=H1;clear H1;replace H:=bm_ H;obtain ⟨t214,A70,H⟩:=H;replace H : (some (IntKind.u64.wrap (a0 + t214))) = some r:=H;have A7:=A0_ A70;clear A70;obtain rfl:=Option.some.inj H;go_enter Tryd.func57,Tryd.ntmps57;go_wp2_with (first|(go_at_call 55;(with_reducible refine (logjamref02_Has.calls k a0 a1 false _ A5.out).mono ?_);rintro e w' ⟨rfl,⟨nd,rfl⟩⟩)|((with_reducible refine gate_callee (f:=77) rfl ?_);refine goesL_ (some 19) rfl rfl Tryd.func77 (by kernel_rfl) rfl #[.int .i64 a1] rfl (by first|(simp only [List.map_toArray,List.map_cons,List.map_nil] <;> rfl)|rfl|(simp only [List.length_drop,List.length_take];rfl)) ?_;(with_reducible refine (logjamref02_power.calls k a1 t214 _ A7.out).mono ?_);rintro e w' ⟨rfl,⟨nd,rfl⟩⟩;refine ⟨_,rfl,?_⟩));go_ret;exact ⟨by first|rfl|(simp;done)|(simp [*];done),by repeat (first|exact Drawn0.refl _|apply Drawn0.step)⟩

/-! ### logjamref26_Closed: function 29 -/
mutual
def logjamref26_Closed.l0 : Nat → List (S44) → Int → Int → Int → Option (Bool)
  | 0,_,_,_,_=>none
  | k + 1,x0,x1,x5,x6=>if x6 < (x0.length : Int) then ((logjamref02_Has.f k x1 x6).bind fun t215=>(if t215 = true then (logjamref26_Closed.l0 k x0 x1 x5 (wrap64 (x6 + 1))) else ((logjamref02_With.f k x5 x6).bind fun t216=>(logjamref26_Closed.l0 k x0 x1 t216 (wrap64 (x6 + 1)))))) else (logjamref26_Closed.l1 k x0 x1 x5 0)
def logjamref26_Closed.l1 : Nat → List (S44) → Int → Int → Int → Option (Bool)
  | 0,_,_,_,_=>none
  | k + 1,x0,x1,x5,x7=>if x7 < 64 then ((logjamref02_Has.f k x1 x7).bind fun t217=>(if t217 = true then (if x7 ≥ (x0.length : Int) then (some false) else ((logjamref26_Met.f k x0 x7 x5).bind fun t218=>(if t218 = true then (some false) else (logjamref26_Closed.l1 k x0 x1 x5 (wrap64 (x7 + 1)))))) else (logjamref26_Closed.l1 k x0 x1 x5 (wrap64 (x7 + 1))))) else (some true)
end
def logjamref26_Closed.f (k : Nat) (l0 : List (S44)) (a1 : Int) : Option (Bool) := logjamref26_Closed.l0 k l0 a1 0 0
theorem logjamref26_Closed.mono_l : ∀ k, (∀ y0 y1 y2 y3, LeO (logjamref26_Closed.l0 k y0 y1 y2 y3) (logjamref26_Closed.l0 (k + 1) y0 y1 y2 y3)) ∧ (∀ y0 y1 y2 y3, LeO (logjamref26_Closed.l1 k y0 y1 y2 y3) (logjamref26_Closed.l1 (k + 1) y0 y1 y2 y3))
  | 0=>⟨fun _ _ _ _ r h=>by simp [logjamref26_Closed.l0] at h,fun _ _ _ _ r h=>by simp [logjamref26_Closed.l1] at h⟩
  | k + 1=>by
    obtain ⟨ih0,ih1⟩:=logjamref26_Closed.mono_l k;refine ⟨?_,?_⟩
    all_goals intros
    all_goals first | unfold logjamref26_Closed.l0 | unfold logjamref26_Closed.l1
    all_goals
      repeat' first
      | (with_reducible exact ih0 _ _ _ _)
      | (with_reducible exact ih1 _ _ _ _)
      | (with_reducible exact logjamref02_Has.mono _ _ _)
      | (with_reducible exact logjamref02_With.mono _ _ _)
      | (with_reducible exact logjamref26_Met.mono _ _ _ _)
      | (with_reducible exact LeO.refl _)
      | (with_reducible exact LeO.none _)
      | (with_reducible refine LeO.ite ?_ ?_)
      | (with_reducible refine LeO.bind ?_ (fun _=>?_))
      | exact ih0 _ _ _ _
      | exact ih1 _ _ _ _
      | exact logjamref02_Has.mono _ _ _
      | exact logjamref02_With.mono _ _ _
      | exact logjamref26_Met.mono _ _ _ _
      | exact LeO.none _
      | refine LeO.ite ?_ ?_
      | refine LeO.bind ?_ (fun _=>?_)
theorem logjamref26_Closed.mono : ∀ a0 a1 k, LeO (logjamref26_Closed.f k a0 a1) (logjamref26_Closed.f (k + 1) a0 a1) := by
  intro a0 a1 k
  obtain ⟨ih0,ih1⟩:=logjamref26_Closed.mono_l k;unfold logjamref26_Closed.f
  repeat' first
      | (with_reducible exact ih0 _ _ _ _)
      | (with_reducible exact ih1 _ _ _ _)
      | (with_reducible exact logjamref02_Has.mono _ _ _)
      | (with_reducible exact logjamref02_With.mono _ _ _)
      | (with_reducible exact logjamref26_Met.mono _ _ _ _)
      | (with_reducible exact LeO.refl _)
      | (with_reducible exact LeO.none _)
      | (with_reducible refine LeO.ite ?_ ?_)
      | (with_reducible refine LeO.bind ?_ (fun _=>?_))
      | exact ih0 _ _ _ _
      | exact ih1 _ _ _ _
      | exact logjamref02_Has.mono _ _ _
      | exact logjamref02_With.mono _ _ _
      | exact logjamref26_Met.mono _ _ _ _
      | exact LeO.none _
      | refine LeO.ite ?_ ?_
      | refine LeO.bind ?_ (fun _=>?_)
set_option maxHeartbeats 8000000 in
set_option maxRecDepth 100000 in
theorem logjamref26_Closed.calls (k : Nat) (A0 : Option Addr) (c0 : Nat) (l0 : List (S44)) (a1 : Int) (r : Bool) (w : World) (hr0 : Kd.C k44 w A0 l0.length l0) (hc0 : l0.length ≤ c0) (h : logjamref26_Closed.f k l0 a1 = some r) :
    Calls Tryd.prog 29 #[.slice A0 l0.length c0,.int .u64 a1] w fun e w'=>e = .returned (.bool r) ∧ Below w.heap.size w w':=by
  have HR0:=A0_ hr0;have HC0:=A0_ hc0;clear hr0 hc0;have HB:=A0_ (Below.refl w.heap.size w);have H : (logjamref26_Closed.l0 k l0 a1 0 0) = some r:=h;clear h;have H':=A0_ H;clear H;go_enter Tryd.func29,Tryd.ntmps29;go_wp2
  go_loopg [5,6] k (fun kq v5 v6 w'=>∃ (x5_1 : Int) (x6_1 : Int),v5 = .int .u64 x5_1 ∧ v6 = .int .i64 x6_1 ∧ Aside0 (logjamref26_Closed.l0 kq l0 a1 x5_1 x6_1 = some r) ∧ Aside0 (kq ≤ k) ∧ Aside0 (Below w.heap.size w w'))
  case atStart=>exact ⟨(0),(0),(by first|rfl|(simp;done)|(simp [*];done)),(by first|rfl|(simp;done)|(simp [*];done)),H',⟨Nat.le_refl _⟩,⟨by repeat (first|(with_reducible first|exact HB.out|apply ba_|apply pN_|apply b1_)|exact HB.out)⟩⟩
  case round =>
    clear H';(try clear c2);(try clear p2);obtain ⟨x5_1,x6_1,rfl,rfl,HA,HK1,HB⟩:=hrel
    cases gk with
    | zero=>exact absurd HA.out (by simp [logjamref26_Closed.l0])
    | succ k1 =>
      have H:=HA.out;clear HA;simp only [logjamref26_Closed.l0] at H;by_cases c3 : x6_1 < (l0.length : Int)
      · rw [if_pos c3] at H
        have c3b0 : decide (x6_1 < (l0.length : Int)) = true:=decide_eq_true c3;clear c3;replace H:=bm_ H;obtain ⟨t215,A40,H⟩:=H;replace H : (if t215 = true then (logjamref26_Closed.l0 k1 l0 a1 x5_1 (wrap64 (x6_1 + 1))) else ((logjamref02_With.f k1 x5_1 x6_1).bind fun t216=>(logjamref26_Closed.l0 k1 l0 a1 t216 (wrap64 (x6_1 + 1))))) = some r:=H;have A4:=A0_ A40;clear A40;by_cases c5 : t215 = true
        · subst c5
          have H1 : (logjamref26_Closed.l0 k1 l0 a1 x5_1 (wrap64 (x6_1 + 1))) = some r:=by rw [if_pos rfl] at H;exact H
          clear H;have H:=H1;clear H1;have H':=A0_ H;clear H;go_wp2_with (first|((with_reducible refine gate_callee (f:=55) rfl ?_);refine goesL_ (some 16) rfl rfl Tryd.func55 (by kernel_rfl) rfl #[.int .u64 a1,.int .i64 x6_1] rfl (by first|(simp only [List.map_toArray,List.map_cons,List.map_nil] <;> rfl)|rfl|(simp only [List.length_drop,List.length_take];rfl)) ?_;(with_reducible refine (logjamref02_Has.calls k1 a1 x6_1 true _ A4.out).mono ?_);rintro e w' ⟨rfl,⟨nd,rfl⟩⟩;refine ⟨_,rfl,?_⟩))
          go_roundg k1
          case measure=>have:=HK1.out;omega
          case rel=>exact ⟨(x5_1),(wrap64 (x6_1 + 1)),(by first|rfl|(simp;done)|(simp [*];done)),(by first|rfl|(simp;done)|(simp [*];done)),H',⟨by have:=HK1.out;omega⟩,⟨by repeat (first|(with_reducible first|exact HB.out|apply ba_|apply pN_|apply b1_)|exact HB.out)⟩⟩
        replace c5:=Bool.eq_false_iff.mpr c5;subst c5;have H1 : ((logjamref02_With.f k1 x5_1 x6_1).bind fun t216=>(logjamref26_Closed.l0 k1 l0 a1 t216 (wrap64 (x6_1 + 1)))) = some r:=by rw [if_neg (show ¬ (false = true) by decide)] at H;exact H
        clear H;have H:=H1;clear H1;replace H:=bm_ H;obtain ⟨t216,A60,H⟩:=H;replace H : (logjamref26_Closed.l0 k1 l0 a1 t216 (wrap64 (x6_1 + 1))) = some r:=H;have A6:=A0_ A60;clear A60;have H':=A0_ H;clear H;go_wp2_with (first|((with_reducible refine gate_callee (f:=55) rfl ?_);refine goesL_ (some 16) rfl rfl Tryd.func55 (by kernel_rfl) rfl #[.int .u64 a1,.int .i64 x6_1] rfl (by first|(simp only [List.map_toArray,List.map_cons,List.map_nil] <;> rfl)|rfl|(simp only [List.length_drop,List.length_take];rfl)) ?_;(with_reducible refine (logjamref02_Has.calls k1 a1 x6_1 false _ A4.out).mono ?_);rintro e w' ⟨rfl,⟨nd,rfl⟩⟩;refine ⟨_,rfl,?_⟩)|((with_reducible refine gate_callee (f:=57) rfl ?_);refine goesL_ (some 20) rfl rfl Tryd.func57 (by kernel_rfl) rfl #[.int .u64 x5_1,.int .i64 x6_1] rfl (by first|(simp only [List.map_toArray,List.map_cons,List.map_nil] <;> rfl)|rfl|(simp only [List.length_drop,List.length_take];rfl)) ?_;(with_reducible refine (logjamref02_With.calls k1 x5_1 x6_1 t216 _ A6.out).mono ?_);rintro e w' ⟨rfl,⟨nd,rfl⟩⟩;refine ⟨_,rfl,?_⟩))
        go_roundg k1
        case measure=>have:=HK1.out;omega
        case rel=>exact ⟨(t216),(wrap64 (x6_1 + 1)),(by first|rfl|(simp;done)|(simp [*];done)),(by first|rfl|(simp;done)|(simp [*];done)),H',⟨by have:=HK1.out;omega⟩,⟨by repeat (first|(with_reducible first|exact HB.out|apply ba_|apply pN_|apply b1_)|exact HB.out)⟩⟩
      rw [if_neg c3] at H;have c3b0 : decide (x6_1 < (l0.length : Int)) = false:=decide_eq_false c3;clear c3;have H':=A0_ H;clear H;go_wp2
      go_loopg [7] k1 (fun kq v7 w'=>∃ (x7_2 : Int),v7 = .int .i64 x7_2 ∧ Aside0 (logjamref26_Closed.l1 kq l0 a1 x5_1 x7_2 = some r) ∧ Aside0 (kq ≤ k1) ∧ Aside0 (Below w.heap.size w w'))
      case atStart=>exact ⟨(0),(by first|rfl|(simp;done)|(simp [*];done)),H',⟨Nat.le_refl _⟩,⟨by repeat (first|(with_reducible first|exact HB.out|apply ba_|apply pN_|apply b1_)|exact HB.out)⟩⟩
      case round =>
        clear H';(try clear c2);(try clear p2);(try clear c3);(try clear c3b0);(try clear c5);(try clear p6);(try clear p2);obtain ⟨x7_2,rfl,HA,HK2,HB⟩:=hrel
        cases gk with
        | zero=>exact absurd HA.out (by simp [logjamref26_Closed.l1])
        | succ k2 =>
          have H:=HA.out;clear HA;simp only [logjamref26_Closed.l1] at H;by_cases c7 : x7_2 < 64;rotate_left
          · rw [if_neg c7] at H
            have c7b0 : decide (x7_2 < 64) = false:=decide_eq_false c7;clear c7;obtain rfl:=Option.some.inj H;go_wp2;go_ret;exact ⟨by first|rfl|(simp [errW_none,errW_some] <;> rfl)|(simp [*,errW_none,errW_some] <;> rfl),by repeat (first|(with_reducible first|exact HB.out|apply ba_|apply pN_|apply b1_)|exact HB.out)⟩

          rw [if_pos c7] at H;have c7b0 : decide (x7_2 < 64) = true:=decide_eq_true c7;clear c7;replace H:=bm_ H;obtain ⟨t217,A80,H⟩:=H;replace H : (if t217 = true then (if x7_2 ≥ (l0.length : Int) then (some false) else ((logjamref26_Met.f k2 l0 x7_2 x5_1).bind fun t218=>(if t218 = true then (some false) else (logjamref26_Closed.l1 k2 l0 a1 x5_1 (wrap64 (x7_2 + 1)))))) else (logjamref26_Closed.l1 k2 l0 a1 x5_1 (wrap64 (x7_2 + 1)))) = some r:=H;have A8:=A0_ A80;clear A80;by_cases c9 : t217 = true;rotate_left
          · replace c9:=Bool.eq_false_iff.mpr c9
            subst c9;have H1 : (logjamref26_Closed.l1 k2 l0 a1 x5_1 (wrap64 (x7_2 + 1))) = some r:=by rw [if_neg (show ¬ (false = true) by decide)] at H;exact H
            clear H;have H:=H1;clear H1;have H':=A0_ H;clear H;go_wp2_with (first|((with_reducible refine gate_callee (f:=55) rfl ?_);refine goesL_ (some 27) rfl rfl Tryd.func55 (by kernel_rfl) rfl #[.int .u64 a1,.int .i64 x7_2] rfl (by first|(simp only [List.map_toArray,List.map_cons,List.map_nil] <;> rfl)|rfl|(simp only [List.length_drop,List.length_take];rfl)) ?_;(with_reducible refine (logjamref02_Has.calls k2 a1 x7_2 false _ A8.out).mono ?_);rintro e w' ⟨rfl,⟨nd,rfl⟩⟩;refine ⟨_,rfl,?_⟩))
            go_roundg k2
            case measure=>have:=HK1.out;have:=HK2.out;omega
            case rel=>exact ⟨(wrap64 (x7_2 + 1)),(by first|rfl|(simp;done)|(simp [*];done)),H',⟨by have:=HK1.out;have:=HK2.out;omega⟩,⟨by repeat (first|(with_reducible first|exact HB.out|apply ba_|apply pN_|apply b1_)|exact HB.out)⟩⟩
          subst c9;have H1 : (if x7_2 ≥ (l0.length : Int) then (some false) else ((logjamref26_Met.f k2 l0 x7_2 x5_1).bind fun t218=>(if t218 = true then (some false) else (logjamref26_Closed.l1 k2 l0 a1 x5_1 (wrap64 (x7_2 + 1)))))) = some r:=by rw [if_pos rfl] at H;exact H
          clear H;have H:=H1;clear H1;by_cases c10 : x7_2 ≥ (l0.length : Int)
          · rw [if_pos c10] at H
            have c10b0 : decide ((l0.length : Int) ≤ x7_2) = true:=decide_eq_true c10;clear c10;obtain rfl:=Option.some.inj H;go_wp2_with (first|((with_reducible refine gate_callee (f:=55) rfl ?_);refine goesL_ (some 27) rfl rfl Tryd.func55 (by kernel_rfl) rfl #[.int .u64 a1,.int .i64 x7_2] rfl (by first|(simp only [List.map_toArray,List.map_cons,List.map_nil] <;> rfl)|rfl|(simp only [List.length_drop,List.length_take];rfl)) ?_;(with_reducible refine (logjamref02_Has.calls k2 a1 x7_2 true _ A8.out).mono ?_);rintro e w' ⟨rfl,⟨nd,rfl⟩⟩;refine ⟨_,rfl,?_⟩));go_ret;exact ⟨by first|rfl|(simp [errW_none,errW_some] <;> rfl)|(simp [*,errW_none,errW_some] <;> rfl),by repeat (first|(with_reducible first|exact HB.out|apply ba_|apply pN_|apply b1_)|exact HB.out)⟩
          rw [if_neg c10] at H;have c10b0 : decide ((l0.length : Int) ≤ x7_2) = false:=decide_eq_false c10;clear c10;replace H:=bm_ H;obtain ⟨t218,A110,H⟩:=H;replace H : (if t218 = true then (some false) else (logjamref26_Closed.l1 k2 l0 a1 x5_1 (wrap64 (x7_2 + 1)))) = some r:=H;have A11:=A0_ A110;clear A110;by_cases c12 : t218 = true
          · subst c12
            have H1 : (some false) = some r:=by rw [if_pos rfl] at H;exact H
            clear H;have H:=H1;clear H1;obtain rfl:=Option.some.inj H;go_wp2_with (first|((with_reducible refine gate_callee (f:=55) rfl ?_);refine goesL_ (some 27) rfl rfl Tryd.func55 (by kernel_rfl) rfl #[.int .u64 a1,.int .i64 x7_2] rfl (by first|(simp only [List.map_toArray,List.map_cons,List.map_nil] <;> rfl)|rfl|(simp only [List.length_drop,List.length_take];rfl)) ?_;(with_reducible refine (logjamref02_Has.calls k2 a1 x7_2 true _ A8.out).mono ?_);rintro e w' ⟨rfl,⟨nd,rfl⟩⟩;refine ⟨_,rfl,?_⟩)|(go_at_call 28;(with_reducible refine (logjamref26_Met.calls k2 _ _ l0 x7_2 x5_1 true _ ?side1 ?side2 A11.out).mono ?_);(case side1=>repeat (first|exact (Kd.C_below HR0.out (by repeat (first|(with_reducible first|exact HB.out|apply ba_|apply pN_|apply b1_)|exact HB.out)))|(with_reducible first|refine Ca_ ?_ _|refine Cn_ ?_ _|refine Cd_ ?_)));(case side2=>exact HC0.out);rintro e w13 ⟨rfl,hb⟩;have n0_:=A0_ (below_step (by repeat (first|(with_reducible first|exact HB.out|apply ba_|apply pN_|apply b1_)|exact HB.out)) hb);clear HB;have HB:=n0_;clear n0_;(try clear hb);(try clear hb2);(try clear hk);(try clear hi)));go_ret;exact ⟨by first|rfl|(simp [errW_none,errW_some] <;> rfl)|(simp [*,errW_none,errW_some] <;> rfl),by repeat (first|(with_reducible first|exact HB.out|apply ba_|apply pN_|apply b1_)|exact HB.out)⟩
          replace c12:=Bool.eq_false_iff.mpr c12;subst c12;have H1 : (logjamref26_Closed.l1 k2 l0 a1 x5_1 (wrap64 (x7_2 + 1))) = some r:=by rw [if_neg (show ¬ (false = true) by decide)] at H;exact H
          clear H;have H:=H1;clear H1;have H':=A0_ H;clear H;go_wp2_with (first|((with_reducible refine gate_callee (f:=55) rfl ?_);refine goesL_ (some 27) rfl rfl Tryd.func55 (by kernel_rfl) rfl #[.int .u64 a1,.int .i64 x7_2] rfl (by first|(simp only [List.map_toArray,List.map_cons,List.map_nil] <;> rfl)|rfl|(simp only [List.length_drop,List.length_take];rfl)) ?_;(with_reducible refine (logjamref02_Has.calls k2 a1 x7_2 true _ A8.out).mono ?_);rintro e w' ⟨rfl,⟨nd,rfl⟩⟩;refine ⟨_,rfl,?_⟩)|(go_at_call 28;(with_reducible refine (logjamref26_Met.calls k2 _ _ l0 x7_2 x5_1 false _ ?side1 ?side2 A11.out).mono ?_);(case side1=>repeat (first|exact (Kd.C_below HR0.out (by repeat (first|(with_reducible first|exact HB.out|apply ba_|apply pN_|apply b1_)|exact HB.out)))|(with_reducible first|refine Ca_ ?_ _|refine Cn_ ?_ _|refine Cd_ ?_)));(case side2=>exact HC0.out);rintro e w14 ⟨rfl,hb⟩;have n0_:=A0_ (below_step (by repeat (first|(with_reducible first|exact HB.out|apply ba_|apply pN_|apply b1_)|exact HB.out)) hb);clear HB;have HB:=n0_;clear n0_;(try clear hb);(try clear hb2);(try clear hk);(try clear hi)))
          go_roundg k2
          case measure=>have:=HK1.out;have:=HK2.out;omega
          case rel=>exact ⟨(wrap64 (x7_2 + 1)),(by first|rfl|(simp;done)|(simp [*];done)),H',⟨by have:=HK1.out;have:=HK2.out;omega⟩,⟨by repeat (first|(with_reducible first|exact HB.out|apply ba_|apply pN_|apply b1_)|exact HB.out)⟩⟩
/-! ### logjamref26_Order: function 31 -/
mutual
def logjamref26_Order.l0 : Nat → List (S44) → List Int → Int → Int → Option (List Int × Int)
  | 0,_,_,_,_=>none
  | k + 1,x0,x4,x5,x6=>if x6 < (x0.length : Int) then (if 0 ≤ x6 then (if ((rd_T44 x0 x6).f0 = true) then (logjamref26_Order.l0 k x0 x4 x5 (wrap64 (x6 + 1))) else (if x4.length < 17592186044416 then ((logjamref02_With.f k x5 x6).bind fun t226=>(logjamref26_Order.l0 k x0 (x4 ++ [x6]) t226 (wrap64 (x6 + 1)))) else (none))) else (none)) else (logjamref26_Order.l1 k x0 x4 x5)
def logjamref26_Order.l1 : Nat → List (S44) → List Int → Int → Option (List Int × Int)
  | 0,_,_,_=>none
  | k + 1,x0,x4,x5=>logjamref26_Order.l2 k x0 x4 x5 0
def logjamref26_Order.l2 : Nat → List (S44) → List Int → Int → Int → Option (List Int × Int)
  | 0,_,_,_,_=>none
  | k + 1,x0,x4,x5,x7=>if x7 < (x0.length : Int) then ((logjamref02_Has.f k x5 x7).bind fun t227=>(if t227 = true then (logjamref26_Order.l2 k x0 x4 x5 (wrap64 (x7 + 1))) else ((logjamref26_Met.f k x0 x7 x5).bind fun t228=>(if t228 = true then (if x7 = (x0.length : Int) then (some (x4,x5)) else (if x4.length < 17592186044416 then ((logjamref02_With.f k x5 x7).bind fun t232=>(logjamref26_Order.l1 k x0 (x4 ++ [x7]) t232)) else (none))) else (logjamref26_Order.l2 k x0 x4 x5 (wrap64 (x7 + 1))))))) else (if x7 = (x0.length : Int) then (some (x4,x5)) else (if x4.length < 17592186044416 then ((logjamref02_With.f k x5 x7).bind fun t236=>(logjamref26_Order.l1 k x0 (x4 ++ [x7]) t236)) else (none)))
end
def logjamref26_Order.f (k : Nat) (l0 : List (S44)) : Option (List Int × Int) := logjamref26_Order.l0 k l0 (([] : List Int)) 0 0
theorem logjamref26_Order.mono_l : ∀ k, (∀ y0 y1 y2 y3, LeO (logjamref26_Order.l0 k y0 y1 y2 y3) (logjamref26_Order.l0 (k + 1) y0 y1 y2 y3)) ∧ (∀ y0 y1 y2, LeO (logjamref26_Order.l1 k y0 y1 y2) (logjamref26_Order.l1 (k + 1) y0 y1 y2)) ∧ (∀ y0 y1 y2 y3, LeO (logjamref26_Order.l2 k y0 y1 y2 y3) (logjamref26_Order.l2 (k + 1) y0 y1 y2 y3))
  | 0=>⟨fun _ _ _ _ r h=>by simp [logjamref26_Order.l0] at h,fun _ _ _ r h=>by simp [logjamref26_Order.l1] at h,fun _ _ _ _ r h=>by simp [logjamref26_Order.l2] at h⟩
  | k + 1=>by
    obtain ⟨ih0,ih1,ih2⟩:=logjamref26_Order.mono_l k;refine ⟨?_,?_,?_⟩
    all_goals intros
    all_goals first | unfold logjamref26_Order.l0 | unfold logjamref26_Order.l1 | unfold logjamref26_Order.l2
    all_goals
      repeat' first
      | (with_reducible exact ih0 _ _ _ _)
      | (with_reducible exact ih1 _ _ _)
      | (with_reducible exact ih2 _ _ _ _)
      | (with_reducible exact logjamref02_Has.mono _ _ _)
      | (with_reducible exact logjamref02_With.mono _ _ _)
      | (with_reducible exact logjamref26_Met.mono _ _ _ _)
      | (with_reducible exact LeO.refl _)
      | (with_reducible exact LeO.none _)
      | (with_reducible refine LeO.ite ?_ ?_)
      | (with_reducible refine LeO.bind ?_ (fun _=>?_))
      | exact ih0 _ _ _ _
      | exact ih1 _ _ _
      | exact ih2 _ _ _ _
      | exact logjamref02_Has.mono _ _ _
      | exact logjamref02_With.mono _ _ _
      | exact logjamref26_Met.mono _ _ _ _
      | exact LeO.none _
      | refine LeO.ite ?_ ?_
      | refine LeO.bind ?_ (fun _=>?_)
theorem logjamref26_Order.mono : ∀ a0 k, LeO (logjamref26_Order.f k a0) (logjamref26_Order.f (k + 1) a0) := by
  intro a0 k
  obtain ⟨ih0,ih1,ih2⟩:=logjamref26_Order.mono_l k;unfold logjamref26_Order.f
  repeat' first
      | (with_reducible exact ih0 _ _ _ _)
      | (with_reducible exact ih1 _ _ _)
      | (with_reducible exact ih2 _ _ _ _)
      | (with_reducible exact logjamref02_Has.mono _ _ _)
      | (with_reducible exact logjamref02_With.mono _ _ _)
      | (with_reducible exact logjamref26_Met.mono _ _ _ _)
      | (with_reducible exact LeO.refl _)
      | (with_reducible exact LeO.none _)
      | (with_reducible refine LeO.ite ?_ ?_)
      | (with_reducible refine LeO.bind ?_ (fun _=>?_))
      | exact ih0 _ _ _ _
      | exact ih1 _ _ _
      | exact ih2 _ _ _ _
      | exact logjamref02_Has.mono _ _ _
      | exact logjamref02_With.mono _ _ _
      | exact logjamref26_Met.mono _ _ _ _
      | exact LeO.none _
      | refine LeO.ite ?_ ?_
      | refine LeO.bind ?_ (fun _=>?_)
set_option maxHeartbeats 8000000 in
set_option maxRecDepth 100000 in
theorem logjamref26_Order.calls (k : Nat) (A0 : Option Addr) (c0 : Nat) (l0 : List (S44)) (r1 : List Int) (r2 : Int) (w : World) (hr0 : Kd.C k44 w A0 l0.length l0) (hc0 : l0.length ≤ c0) (h : logjamref26_Order.f k l0 = some (r1, r2)) :
    Calls Tryd.prog 31 #[.slice A0 l0.length c0] w fun e w'=>∃ v0_ : Value,e = .returned (.tuple #[v0_,.int .u64 r2]) ∧ Kd.R (Kd.int .i64) 3 w' w.heap.size (fun _=>True) v0_ r1 ∧ Below w.heap.size w w':=by
  have HR0:=A0_ hr0;have HC0:=A0_ hc0;clear hr0 hc0;have HB:=A0_ (Below.refl w.heap.size w);have H : (logjamref26_Order.l0 k l0 (([] : List Int)) 0 0) = some (r1,r2):=h;clear h;obtain ⟨y219,hy219⟩ : ∃ y_ : List Int,y_ = (([] : List Int)):=⟨_,rfl⟩;replace H : (logjamref26_Order.l0 k l0 y219 0 0) = some (r1,r2):=by first|(rw [hy219];with_reducible exact H)|(have H2_:=(Option.bind_some _ _).symm.trans H;rw [hy219];with_reducible exact H2_)|(have H2_:=(Option.bind_some _ _).symm.trans H;with_reducible exact H2_)|with_reducible exact H|(rw [hy219];exact H)|exact H
  have Ny219:=A0_ hy219;clear hy219;have H':=A0_ H;clear H;go_enter Tryd.func31,Tryd.ntmps31;go_wp2_with (first|((with_reducible refine gate_dst (N:=8) rfl ?_);refine Kd.R_lit (Kd.int .i64) _ 3 ?hg (N:=8) ?hd (xs:=([] : List Int)) (inner:=[]) (ok:=fun _=>True) (okp:=fun _=>True) ?hr ?hp (fun _ hk=>hk) trivial (Below.refl _ _) (Nat.le_refl _) (by simp) ?_;(case hd=>rfl);(case hg=>rfl);(case hr=>first|(go_simp;done)|(go_simp;rfl));(case hp=>exact (Reps.none _ _));intro v220 w2 ho3 hb hg_ hnew_;clear hg_ hnew_;(first|rw [← Ny219.out] at ho3|(simp only [Int.reduceToNat] at ho3;rw [← Ny219.out] at ho3));have n0_:=A0_ (Kd.R_lower ho3 (below_size (by repeat (first|(with_reducible first|exact HB.out|apply ba_|apply pN_|apply b1_)|exact HB.out))));have n1_:=A0_ (below_step (by repeat (first|(with_reducible first|exact HB.out|apply ba_|apply pN_|apply b1_)|exact HB.out)) hb);clear HB;have HO221:=n0_;have HB:=n1_;clear n0_ n1_;clear hb ho3))
  go_loopg [4,5,6] k (fun kq v4 v5 v6 w'=>∃ (x4_1 : List Int) (x5_1 : Int) (x6_1 : Int),v5 = .int .u64 x5_1 ∧ v6 = .int .i64 x6_1 ∧ Aside0 (logjamref26_Order.l0 kq l0 x4_1 x5_1 x6_1 = some (r1,r2)) ∧ Aside0 (kq ≤ k) ∧ Aside0 (Kd.R (Kd.int .i64) 3 w' w.heap.size (fun _=>True) v4 x4_1) ∧ Aside0 (Below w.heap.size w w'))
  case atStart=>exact ⟨(y219),(0),(0),(by first|rfl|(simp;done)|(simp [*];done)),(by first|rfl|(simp;done)|(simp [*];done)),H',⟨Nat.le_refl _⟩,⟨by (with_reducible repeat first|apply Ra_|apply Rn_|apply Rd_);exact HO221.out⟩,⟨by repeat (first|(with_reducible first|exact HB.out|apply ba_|apply pN_|apply b1_)|exact HB.out)⟩⟩
  case round =>
    clear H';(try clear p2);(try clear c3);obtain ⟨x4_1,x5_1,x6_1,rfl,rfl,HA,HK1,HO_4,HB⟩:=hrel
    cases gk with
    | zero=>exact absurd HA.out (by simp [logjamref26_Order.l0])
    | succ k1 =>
      have H:=HA.out;clear HA;simp only [logjamref26_Order.l0] at H;by_cases c4 : x6_1 < (l0.length : Int)
      · rw [if_pos c4] at H
        have c4b0 : decide (x6_1 < (l0.length : Int)) = true:=decide_eq_true c4;clear c4;by_cases c5 : 0 ≤ x6_1;rotate_left
        · rw [if_neg c5] at H
          exact absurd H (by simp)
        rw [if_pos c5] at H;have c5b0 : decide (0 ≤ x6_1) = true:=decide_eq_true c5;clear c5;obtain ⟨bq6,hbq6⟩ : ∃ b_ : Bool,b_ = ((rd_T44 l0 x6_1).f0):=⟨_,rfl⟩;replace H : (if (bq6 = true) then (logjamref26_Order.l0 k1 l0 x4_1 x5_1 (wrap64 (x6_1 + 1))) else (if x4_1.length < 17592186044416 then ((logjamref02_With.f k1 x5_1 x6_1).bind fun t226=>(logjamref26_Order.l0 k1 l0 (x4_1 ++ [x6_1]) t226 (wrap64 (x6_1 + 1)))) else (none))) = some (r1,r2):=by rw [← hbq6] at H;exact H
        have Nbq6:=A0_ hbq6;clear hbq6;by_cases c7 : (bq6 = true)
        · subst c7
          have H1 : (logjamref26_Order.l0 k1 l0 x4_1 x5_1 (wrap64 (x6_1 + 1))) = some (r1,r2):=by rw [if_pos rfl] at H;exact H
          clear H;have H:=H1;clear H1;have H':=A0_ H;clear H;have p222 : 0 ≤ (x6_1 : Int):=of_decide_eq_true (by first|(with_reducible assumption)|assumption);have q222 : x6_1 < (l0.length : Int):=of_decide_eq_true (by first|(with_reducible assumption)|assumption);obtain ⟨ad222,A222_1,c222_1,e222,hx222_0,hx222_1,hl222_1,hi222_1⟩:=at_T44 HR0.out x6_1 p222 q222;(try rw [← Nbq6.out] at hx222_0);cases e222;replace hx222_0:=(HB.out.cell (bl_ w _ hx222_0)).trans hx222_0;replace hx222_1:=(HB.out.cell (bl_ w _ hx222_1)).trans hx222_1;have HR222_1:=A0_ hi222_1;have HC222_1:=A0_ hl222_1;clear hi222_1 hl222_1;replace p222:=eq_true p222;replace q222:=eq_true q222;go_wp2
          go_roundg k1
          case measure=>have:=HK1.out;omega
          case rel=>exact ⟨(x4_1),(x5_1),(wrap64 (x6_1 + 1)),(by first|rfl|(simp;done)|(simp [*];done)),(by first|rfl|(simp;done)|(simp [*];done)),H',⟨by have:=HK1.out;omega⟩,⟨by (with_reducible repeat first|apply Ra_|apply Rn_|apply Rd_);exact HO_4.out⟩,⟨by repeat (first|(with_reducible first|exact HB.out|apply ba_|apply pN_|apply b1_)|exact HB.out)⟩⟩
        replace c7:=Bool.eq_false_iff.mpr c7;subst c7;have H1 : (if x4_1.length < 17592186044416 then ((logjamref02_With.f k1 x5_1 x6_1).bind fun t226=>(logjamref26_Order.l0 k1 l0 (x4_1 ++ [x6_1]) t226 (wrap64 (x6_1 + 1)))) else (none)) = some (r1,r2):=by rw [if_neg (show ¬ (false = true) by decide)] at H;exact H
        clear H;have H:=H1;clear H1;by_cases c8 : x4_1.length < 17592186044416;rotate_left
        · rw [if_neg c8] at H
          exact absurd H (by simp)
        rw [if_pos c8] at H;have LMc8:=A0_ c8;clear c8;obtain ⟨y223,hy223⟩ : ∃ y_ : List Int,y_ = (x4_1 ++ [x6_1]):=⟨_,rfl⟩;replace H : ((logjamref02_With.f k1 x5_1 x6_1).bind fun t226=>(logjamref26_Order.l0 k1 l0 y223 t226 (wrap64 (x6_1 + 1)))) = some (r1,r2):=by first|(rw [hy223];with_reducible exact H)|(have H2_:=(Option.bind_some _ _).symm.trans H;rw [hy223];with_reducible exact H2_)|(have H2_:=(Option.bind_some _ _).symm.trans H;with_reducible exact H2_)|with_reducible exact H|(rw [hy223];exact H)|exact H
        have Ny223:=A0_ hy223;clear hy223;replace H:=bm_ H;obtain ⟨t226,A90,H⟩:=H;replace H : (logjamref26_Order.l0 k1 l0 y223 t226 (wrap64 (x6_1 + 1))) = some (r1,r2):=H;have A9:=A0_ A90;clear A90;have H':=A0_ H;clear H;have p222 : 0 ≤ (x6_1 : Int):=of_decide_eq_true (by first|(with_reducible assumption)|assumption);have q222 : x6_1 < (l0.length : Int):=of_decide_eq_true (by first|(with_reducible assumption)|assumption);obtain ⟨ad222,A222_1,c222_1,e222,hx222_0,hx222_1,hl222_1,hi222_1⟩:=at_T44 HR0.out x6_1 p222 q222;(try rw [← Nbq6.out] at hx222_0);cases e222;replace hx222_0:=(HB.out.cell (bl_ w _ hx222_0)).trans hx222_0;replace hx222_1:=(HB.out.cell (bl_ w _ hx222_1)).trans hx222_1;have HR222_1:=A0_ hi222_1;have HC222_1:=A0_ hl222_1;clear hi222_1 hl222_1;replace p222:=eq_true p222;replace q222:=eq_true q222;go_wp2_with (first|((with_reducible refine gate_builtin (b:=.append) (xs:=#[.tmp 21,.tmp 23]) rfl ?_);at_builtin;refine Kd.R_append (Kd.int .i64) (w0:=w) w.heap.size rfl (.tmp 21) (.tmp 23) 28 3 (.int .i64 0) 8 rfl Tryd.underlying28 info3 rfl (by decide) (by omega) u4 x4_1 x6_1 [.int .i64 x6_1] (fun _=>True) (fun _=>False) rfl rfl ?aP (fun _ hk=>hk.elim) ?aF ?aO ?aB ?aS ?aL ?_;(case aP=>exact rfl);(case aB=>exact (by repeat (first|(with_reducible first|exact HB.out|apply ba_|apply pN_|apply b1_)|exact HB.out)));(case aF=>exact (fun _ _=>trivial));(case aO=>exact (by (with_reducible repeat first|apply Ra_|apply Rn_|apply Rd_);exact HO_4.out));(case aS=>exact (below_size (by repeat (first|(with_reducible first|exact HB.out|apply ba_|apply pN_|apply b1_)|exact HB.out))));(case aL=>have:=LMc8.out;omega);intro v224 w10 ho hb hg hat;rw [← Ny223.out] at ho;have n0_:=A0_ (hb);have n1_:=A0_ (ho);clear HB;clear HO_4;have HB:=n0_;have HO225:=n1_;clear n0_ n1_;clear ho hb hg hat)|((with_reducible refine gate_callee (f:=57) rfl ?_);refine goesL_ (some 27) rfl rfl Tryd.func57 (by kernel_rfl) rfl #[.int .u64 x5_1,.int .i64 x6_1] rfl (by first|(simp only [List.map_toArray,List.map_cons,List.map_nil] <;> rfl)|rfl|(simp only [List.length_drop,List.length_take];rfl)) ?_;(with_reducible refine (logjamref02_With.calls k1 x5_1 x6_1 t226 _ A9.out).mono ?_);rintro e w' ⟨rfl,⟨nd,rfl⟩⟩;refine ⟨_,rfl,?_⟩))
        go_roundg k1
        case measure=>have:=HK1.out;omega
        case rel=>exact ⟨(y223),(t226),(wrap64 (x6_1 + 1)),(by first|rfl|(simp;done)|(simp [*];done)),(by first|rfl|(simp;done)|(simp [*];done)),H',⟨by have:=HK1.out;omega⟩,⟨by (with_reducible repeat first|apply Ra_|apply Rn_|apply Rd_);exact HO225.out⟩,⟨by repeat (first|(with_reducible first|exact HB.out|apply ba_|apply pN_|apply b1_)|exact HB.out)⟩⟩
      rw [if_neg c4] at H;have c4b0 : decide (x6_1 < (l0.length : Int)) = false:=decide_eq_false c4;clear c4;have H':=A0_ H;clear H;go_wp2
      go_loopg [4,5] k1 (fun kq v4 v5 w'=>∃ (x4_2 : List Int) (x5_2 : Int),v5 = .int .u64 x5_2 ∧ Aside0 (logjamref26_Order.l1 kq l0 x4_2 x5_2 = some (r1,r2)) ∧ Aside0 (kq ≤ k1) ∧ Aside0 (Kd.R (Kd.int .i64) 3 w' w.heap.size (fun _=>True) v4 x4_2) ∧ Aside0 (Below w.heap.size w w'))
      case atStart=>exact ⟨(x4_1),(x5_1),(by first|rfl|(simp;done)|(simp [*];done)),H',⟨Nat.le_refl _⟩,⟨by (with_reducible repeat first|apply Ra_|apply Rn_|apply Rd_);exact HO_4.out⟩,⟨by repeat (first|(with_reducible first|exact HB.out|apply ba_|apply pN_|apply b1_)|exact HB.out)⟩⟩
      case round =>
        clear H';(try clear c2);(try clear p2);(try clear q2);(try clear hx2);(try clear c3);(try clear c4);(try clear c4b0);(try clear c5);(try clear c5b0);(try clear p6);(try clear q6);(try clear c7);(try clear c8);(try clear hx222_0);(try clear hx222_1);(try clear p2);(try clear p222);(try clear q222);obtain ⟨x4_2,x5_2,rfl,HA,HK2,HO_4,HB⟩:=hrel
        cases gk with
        | zero=>exact absurd HA.out (by simp [logjamref26_Order.l1])
        | succ k2 =>
          have H:=HA.out;clear HA;simp only [logjamref26_Order.l1] at H;have H':=A0_ H;clear H;go_wp2
          go_loopg [7] k2 (fun kq v7 w'=>∃ (x7_3 : Int),v7 = .int .i64 x7_3 ∧ Aside0 (logjamref26_Order.l2 kq l0 x4_2 x5_2 x7_3 = some (r1,r2)) ∧ Aside0 (kq ≤ k2) ∧ Aside0 (Kd.R (Kd.int .i64) 3 w' w.heap.size (fun _=>True) u4 x4_2) ∧ Aside0 (Below w.heap.size w w'))
          case atStart=>exact ⟨(0),(by first|rfl|(simp;done)|(simp [*];done)),H',⟨Nat.le_refl _⟩,⟨by (with_reducible repeat first|apply Ra_|apply Rn_|apply Rd_);exact HO_4.out⟩,⟨by repeat (first|(with_reducible first|exact HB.out|apply ba_|apply pN_|apply b1_)|exact HB.out)⟩⟩
          case round =>
            clear H';(try clear c2);(try clear p2);(try clear q2);(try clear hx2);(try clear c3);(try clear c4);(try clear c4b0);(try clear c5);(try clear c5b0);(try clear p6);(try clear q6);(try clear c7);(try clear c8);(try clear hx222_0);(try clear hx222_1);(try clear p2);(try clear p222);(try clear p6);(try clear q2);(try clear q222);(try clear q6);obtain ⟨x7_3,rfl,HA,HK3,HO_4,HB⟩:=hrel
            cases gk with
            | zero=>exact absurd HA.out (by simp [logjamref26_Order.l2])
            | succ k3 =>
              have H:=HA.out;clear HA;simp only [logjamref26_Order.l2] at H;by_cases c11 : x7_3 < (l0.length : Int);rotate_left
              · rw [if_neg c11] at H
                have c11b0 : decide (x7_3 < (l0.length : Int)) = false:=decide_eq_false c11;clear c11;by_cases c23 : x7_3 = (l0.length : Int)
                · rw [if_pos c23] at H
                  have c23b0 : (x7_3 == (l0.length : Int)) = true:=beq_iff_eq.mpr c23;have c23b1 : (x7_3 != (l0.length : Int)) = false:=bne_eq_false_iff_eq.mpr c23;clear c23;simp only [Option.some.injEq,Prod.mk.injEq] at H;obtain ⟨rfl,rfl⟩:=H;go_wp2;go_ret2;exact ⟨_,by first|rfl|(simp [errW_none,errW_some] <;> rfl)|(simp [*,errW_none,errW_some] <;> rfl),by (with_reducible repeat first|apply Ra_|apply Rn_|apply Rd_);exact HO_4.out,by repeat (first|(with_reducible first|exact HB.out|apply ba_|apply pN_|apply b1_)|exact HB.out)⟩
                rw [if_neg c23] at H;have c23b0 : (x7_3 == (l0.length : Int)) = false:=beq_eq_false_iff_ne.mpr c23;have c23b1 : (x7_3 != (l0.length : Int)) = true:=bne_iff_ne.mpr c23;by_cases c24 : x4_2.length < 17592186044416;rotate_left
                · rw [if_neg c24] at H
                  exact absurd H (by simp)

                rw [if_pos c24] at H;have LMc24:=A0_ c24;clear c24;obtain ⟨y233,hy233⟩ : ∃ y_ : List Int,y_ = (x4_2 ++ [x7_3]):=⟨_,rfl⟩;replace H : ((logjamref02_With.f k3 x5_2 x7_3).bind fun t236=>(logjamref26_Order.l1 k3 l0 y233 t236)) = some (r1,r2):=by first|(rw [hy233];with_reducible exact H)|(have H2_:=(Option.bind_some _ _).symm.trans H;rw [hy233];with_reducible exact H2_)|(have H2_:=(Option.bind_some _ _).symm.trans H;with_reducible exact H2_)|with_reducible exact H|(rw [hy233];exact H)|exact H
                have Ny233:=A0_ hy233;clear hy233;replace H:=bm_ H;obtain ⟨t236,A250,H⟩:=H;replace H : (logjamref26_Order.l1 k3 l0 y233 t236) = some (r1,r2):=H;have A25:=A0_ A250;clear A250;have H':=A0_ H;clear H;go_wp2_with (first|((with_reducible refine gate_builtin (b:=.append) (xs:=#[.tmp 52,.tmp 54]) rfl ?_);at_builtin;refine Kd.R_append (Kd.int .i64) (w0:=w) w.heap.size rfl (.tmp 52) (.tmp 54) 28 3 (.int .i64 0) 8 rfl Tryd.underlying28 info3 rfl (by decide) (by omega) u4 x4_2 x7_3 [.int .i64 x7_3] (fun _=>True) (fun _=>False) rfl rfl ?aP (fun _ hk=>hk.elim) ?aF ?aO ?aB ?aS ?aL ?_;(case aP=>exact rfl);(case aB=>exact (by repeat (first|(with_reducible first|exact HB.out|apply ba_|apply pN_|apply b1_)|exact HB.out)));(case aF=>exact (fun _ _=>trivial));(case aO=>exact (by (with_reducible repeat first|apply Ra_|apply Rn_|apply Rd_);exact HO_4.out));(case aS=>exact (below_size (by repeat (first|(with_reducible first|exact HB.out|apply ba_|apply pN_|apply b1_)|exact HB.out))));(case aL=>have:=LMc24.out;omega);intro v234 w26 ho hb hg hat;rw [← Ny233.out] at ho;have n0_:=A0_ (hb);have n1_:=A0_ (ho);clear HB;clear HO_4;have HB:=n0_;have HO235:=n1_;clear n0_ n1_;clear ho hb hg hat)|((with_reducible refine gate_callee (f:=57) rfl ?_);refine goesL_ (some 58) rfl rfl Tryd.func57 (by kernel_rfl) rfl #[.int .u64 x5_2,.int .i64 x7_3] rfl (by first|(simp only [List.map_toArray,List.map_cons,List.map_nil] <;> rfl)|rfl|(simp only [List.length_drop,List.length_take];rfl)) ?_;(with_reducible refine (logjamref02_With.calls k3 x5_2 x7_3 t236 _ A25.out).mono ?_);rintro e w' ⟨rfl,⟨nd,rfl⟩⟩;refine ⟨_,rfl,?_⟩))
                go_roundg k3
                case measure=>have:=HK1.out;have:=HK2.out;have:=HK3.out;omega
                case rel=>exact ⟨(y233),(t236),(by first|rfl|(simp;done)|(simp [*];done)),H',⟨by have:=HK1.out;have:=HK2.out;have:=HK3.out;omega⟩,⟨by (with_reducible repeat first|apply Ra_|apply Rn_|apply Rd_);exact HO235.out⟩,⟨by repeat (first|(with_reducible first|exact HB.out|apply ba_|apply pN_|apply b1_)|exact HB.out)⟩⟩
              rw [if_pos c11] at H;have c11b0 : decide (x7_3 < (l0.length : Int)) = true:=decide_eq_true c11;clear c11;replace H:=bm_ H;obtain ⟨t227,A120,H⟩:=H;replace H : (if t227 = true then (logjamref26_Order.l2 k3 l0 x4_2 x5_2 (wrap64 (x7_3 + 1))) else ((logjamref26_Met.f k3 l0 x7_3 x5_2).bind fun t228=>(if t228 = true then (if x7_3 = (l0.length : Int) then (some (x4_2,x5_2)) else (if x4_2.length < 17592186044416 then ((logjamref02_With.f k3 x5_2 x7_3).bind fun t232=>(logjamref26_Order.l1 k3 l0 (x4_2 ++ [x7_3]) t232)) else (none))) else (logjamref26_Order.l2 k3 l0 x4_2 x5_2 (wrap64 (x7_3 + 1)))))) = some (r1,r2):=H;have A12:=A0_ A120;clear A120;by_cases c13 : t227 = true
              · subst c13
                have H1 : (logjamref26_Order.l2 k3 l0 x4_2 x5_2 (wrap64 (x7_3 + 1))) = some (r1,r2):=by rw [if_pos rfl] at H;exact H
                clear H;have H:=H1;clear H1;have H':=A0_ H;clear H;go_wp2_with (first|(go_at_call 55;(with_reducible refine (logjamref02_Has.calls k3 x5_2 x7_3 true _ A12.out).mono ?_);rintro e w' ⟨rfl,⟨nd,rfl⟩⟩))
                go_roundg k3
                case measure=>have:=HK1.out;have:=HK2.out;have:=HK3.out;omega
                case rel=>exact ⟨(wrap64 (x7_3 + 1)),(by first|rfl|(simp;done)|(simp [*];done)),H',⟨by have:=HK1.out;have:=HK2.out;have:=HK3.out;omega⟩,⟨by (with_reducible repeat first|apply Ra_|apply Rn_|apply Rd_);exact HO_4.out⟩,⟨by repeat (first|(with_reducible first|exact HB.out|apply ba_|apply pN_|apply b1_)|exact HB.out)⟩⟩
              replace c13:=Bool.eq_false_iff.mpr c13;subst c13;have H1 : ((logjamref26_Met.f k3 l0 x7_3 x5_2).bind fun t228=>(if t228 = true then (if x7_3 = (l0.length : Int) then (some (x4_2,x5_2)) else (if x4_2.length < 17592186044416 then ((logjamref02_With.f k3 x5_2 x7_3).bind fun t232=>(logjamref26_Order.l1 k3 l0 (x4_2 ++ [x7_3]) t232)) else (none))) else (logjamref26_Order.l2 k3 l0 x4_2 x5_2 (wrap64 (x7_3 + 1))))) = some (r1,r2):=by rw [if_neg (show ¬ (false = true) by decide)] at H;exact H
              clear H;have H:=H1;clear H1;replace H:=bm_ H;obtain ⟨t228,A140,H⟩:=H;replace H : (if t228 = true then (if x7_3 = (l0.length : Int) then (some (x4_2,x5_2)) else (if x4_2.length < 17592186044416 then ((logjamref02_With.f k3 x5_2 x7_3).bind fun t232=>(logjamref26_Order.l1 k3 l0 (x4_2 ++ [x7_3]) t232)) else (none))) else (logjamref26_Order.l2 k3 l0 x4_2 x5_2 (wrap64 (x7_3 + 1)))) = some (r1,r2):=H;have A14:=A0_ A140;clear A140;by_cases c15 : t228 = true;rotate_left
              · replace c15:=Bool.eq_false_iff.mpr c15
                subst c15;have H1 : (logjamref26_Order.l2 k3 l0 x4_2 x5_2 (wrap64 (x7_3 + 1))) = some (r1,r2):=by rw [if_neg (show ¬ (false = true) by decide)] at H;exact H
                clear H;have H:=H1;clear H1;have H':=A0_ H;clear H;go_wp2_with (first|(go_at_call 55;(with_reducible refine (logjamref02_Has.calls k3 x5_2 x7_3 false _ A12.out).mono ?_);rintro e w' ⟨rfl,⟨nd,rfl⟩⟩)|(go_at_call 28;(with_reducible refine (logjamref26_Met.calls k3 _ _ l0 x7_3 x5_2 false _ ?side1 ?side2 A14.out).mono ?_);(case side1=>repeat (first|exact (Kd.C_below HR0.out (by repeat (first|(with_reducible first|exact HB.out|apply ba_|apply pN_|apply b1_)|exact HB.out)))|(with_reducible first|refine Ca_ ?_ _|refine Cn_ ?_ _|refine Cd_ ?_)));(case side2=>exact HC0.out);rintro e w22 ⟨rfl,hb⟩;have n0_:=A0_ (Kd.R_below (by (with_reducible repeat first|apply Ra_|apply Rn_|apply Rd_);exact HO_4.out) hb);have n1_:=A0_ (below_step (by repeat (first|(with_reducible first|exact HB.out|apply ba_|apply pN_|apply b1_)|exact HB.out)) hb);clear HO_4;clear HB;have HO_4:=n0_;have HB:=n1_;clear n0_ n1_;(try clear hb);(try clear hb2);(try clear hk);(try clear hi)))
                go_roundg k3
                case measure=>have:=HK1.out;have:=HK2.out;have:=HK3.out;omega
                case rel=>exact ⟨(wrap64 (x7_3 + 1)),(by first|rfl|(simp;done)|(simp [*];done)),H',⟨by have:=HK1.out;have:=HK2.out;have:=HK3.out;omega⟩,⟨by (with_reducible repeat first|apply Ra_|apply Rn_|apply Rd_);exact HO_4.out⟩,⟨by repeat (first|(with_reducible first|exact HB.out|apply ba_|apply pN_|apply b1_)|exact HB.out)⟩⟩
              subst c15;have H1 : (if x7_3 = (l0.length : Int) then (some (x4_2,x5_2)) else (if x4_2.length < 17592186044416 then ((logjamref02_With.f k3 x5_2 x7_3).bind fun t232=>(logjamref26_Order.l1 k3 l0 (x4_2 ++ [x7_3]) t232)) else (none))) = some (r1,r2):=by rw [if_pos rfl] at H;exact H
              clear H;have H:=H1;clear H1;by_cases c16 : x7_3 = (l0.length : Int)
              · rw [if_pos c16] at H
                have c16b0 : (x7_3 == (l0.length : Int)) = true:=beq_iff_eq.mpr c16;have c16b1 : (x7_3 != (l0.length : Int)) = false:=bne_eq_false_iff_eq.mpr c16;clear c16;simp only [Option.some.injEq,Prod.mk.injEq] at H;obtain ⟨rfl,rfl⟩:=H;go_wp2_with (first|(go_at_call 55;(with_reducible refine (logjamref02_Has.calls k3 x5_2 x7_3 false _ A12.out).mono ?_);rintro e w' ⟨rfl,⟨nd,rfl⟩⟩)|(go_at_call 28;(with_reducible refine (logjamref26_Met.calls k3 _ _ l0 x7_3 x5_2 true _ ?side1 ?side2 A14.out).mono ?_);(case side1=>repeat (first|exact (Kd.C_below HR0.out (by repeat (first|(with_reducible first|exact HB.out|apply ba_|apply pN_|apply b1_)|exact HB.out)))|(with_reducible first|refine Ca_ ?_ _|refine Cn_ ?_ _|refine Cd_ ?_)));(case side2=>exact HC0.out);rintro e w17 ⟨rfl,hb⟩;have n0_:=A0_ (Kd.R_below (by (with_reducible repeat first|apply Ra_|apply Rn_|apply Rd_);exact HO_4.out) hb);have n1_:=A0_ (below_step (by repeat (first|(with_reducible first|exact HB.out|apply ba_|apply pN_|apply b1_)|exact HB.out)) hb);clear HO_4;clear HB;have HO_4:=n0_;have HB:=n1_;clear n0_ n1_;(try clear hb);(try clear hb2);(try clear hk);(try clear hi)));go_ret2;exact ⟨_,by first|rfl|(simp [errW_none,errW_some] <;> rfl)|(simp [*,errW_none,errW_some] <;> rfl),by (with_reducible repeat first|apply Ra_|apply Rn_|apply Rd_);exact HO_4.out,by repeat (first|(with_reducible first|exact HB.out|apply ba_|apply pN_|apply b1_)|exact HB.out)⟩
              rw [if_neg c16] at H;have c16b0 : (x7_3 == (l0.length : Int)) = false:=beq_eq_false_iff_ne.mpr c16;have c16b1 : (x7_3 != (l0.length : Int)) = true:=bne_iff_ne.mpr c16;by_cases c18 : x4_2.length < 17592186044416;rotate_left
              · rw [if_neg c18] at H
                exact absurd H (by simp)
              rw [if_pos c18] at H;have LMc18:=A0_ c18;clear c18;obtain ⟨y229,hy229⟩ : ∃ y_ : List Int,y_ = (x4_2 ++ [x7_3]):=⟨_,rfl⟩;replace H : ((logjamref02_With.f k3 x5_2 x7_3).bind fun t232=>(logjamref26_Order.l1 k3 l0 y229 t232)) = some (r1,r2):=by first|(rw [hy229];with_reducible exact H)|(have H2_:=(Option.bind_some _ _).symm.trans H;rw [hy229];with_reducible exact H2_)|(have H2_:=(Option.bind_some _ _).symm.trans H;with_reducible exact H2_)|with_reducible exact H|(rw [hy229];exact H)|exact H
              have Ny229:=A0_ hy229;clear hy229;replace H:=bm_ H;obtain ⟨t232,A190,H⟩:=H;replace H : (logjamref26_Order.l1 k3 l0 y229 t232) = some (r1,r2):=H;have A19:=A0_ A190;clear A190;have H':=A0_ H;clear H;go_wp2_with (first|(go_at_call 55;(with_reducible refine (logjamref02_Has.calls k3 x5_2 x7_3 false _ A12.out).mono ?_);rintro e w' ⟨rfl,⟨nd,rfl⟩⟩)|(go_at_call 28;(with_reducible refine (logjamref26_Met.calls k3 _ _ l0 x7_3 x5_2 true _ ?side1 ?side2 A14.out).mono ?_);(case side1=>repeat (first|exact (Kd.C_below HR0.out (by repeat (first|(with_reducible first|exact HB.out|apply ba_|apply pN_|apply b1_)|exact HB.out)))|(with_reducible first|refine Ca_ ?_ _|refine Cn_ ?_ _|refine Cd_ ?_)));(case side2=>exact HC0.out);rintro e w20 ⟨rfl,hb⟩;have n0_:=A0_ (Kd.R_below (by (with_reducible repeat first|apply Ra_|apply Rn_|apply Rd_);exact HO_4.out) hb);have n1_:=A0_ (below_step (by repeat (first|(with_reducible first|exact HB.out|apply ba_|apply pN_|apply b1_)|exact HB.out)) hb);clear HO_4;clear HB;have HO_4:=n0_;have HB:=n1_;clear n0_ n1_;(try clear hb);(try clear hb2);(try clear hk);(try clear hi))|((with_reducible refine gate_builtin (b:=.append) (xs:=#[.tmp 52,.tmp 54]) rfl ?_);at_builtin;refine Kd.R_append (Kd.int .i64) (w0:=w) w.heap.size rfl (.tmp 52) (.tmp 54) 28 3 (.int .i64 0) 8 rfl Tryd.underlying28 info3 rfl (by decide) (by omega) u4 x4_2 x7_3 [.int .i64 x7_3] (fun _=>True) (fun _=>False) rfl rfl ?aP (fun _ hk=>hk.elim) ?aF ?aO ?aB ?aS ?aL ?_;(case aP=>exact rfl);(case aB=>exact (by repeat (first|(with_reducible first|exact HB.out|apply ba_|apply pN_|apply b1_)|exact HB.out)));(case aF=>exact (fun _ _=>trivial));(case aO=>exact (by (with_reducible repeat first|apply Ra_|apply Rn_|apply Rd_);exact HO_4.out));(case aS=>exact (below_size (by repeat (first|(with_reducible first|exact HB.out|apply ba_|apply pN_|apply b1_)|exact HB.out))));(case aL=>have:=LMc18.out;omega);intro v230 w21 ho hb hg hat;rw [← Ny229.out] at ho;have n0_:=A0_ (hb);have n1_:=A0_ (ho);clear HB;clear HO_4;have HB:=n0_;have HO231:=n1_;clear n0_ n1_;clear ho hb hg hat)|((with_reducible refine gate_callee (f:=57) rfl ?_);refine goesL_ (some 58) rfl rfl Tryd.func57 (by kernel_rfl) rfl #[.int .u64 x5_2,.int .i64 x7_3] rfl (by first|(simp only [List.map_toArray,List.map_cons,List.map_nil] <;> rfl)|rfl|(simp only [List.length_drop,List.length_take];rfl)) ?_;(with_reducible refine (logjamref02_With.calls k3 x5_2 x7_3 t232 _ A19.out).mono ?_);rintro e w' ⟨rfl,⟨nd,rfl⟩⟩;refine ⟨_,rfl,?_⟩))
              go_roundg k3
              case measure=>have:=HK1.out;have:=HK2.out;have:=HK3.out;omega
              case rel=>exact ⟨(y229),(t232),(by first|rfl|(simp;done)|(simp [*];done)),H',⟨by have:=HK1.out;have:=HK2.out;have:=HK3.out;omega⟩,⟨by (with_reducible repeat first|apply Ra_|apply Rn_|apply Rd_);exact HO231.out⟩,⟨by repeat (first|(with_reducible first|exact HB.out|apply ba_|apply pN_|apply b1_)|exact HB.out)⟩⟩
/-! ### logjamref26_Doomed: function 30 -/
def logjamref26_Doomed.l0 : Nat → List (S44) → Int → Int → Int → Option (Int)
  | 0,_,_,_,_=>none
  | k + 1,x0,x4,x5,x6=>if x6 < (x0.length : Int) then ((logjamref02_Has.f k x4 x6).bind fun t241=>(if t241 = true then (logjamref26_Doomed.l0 k x0 x4 x5 (wrap64 (x6 + 1))) else ((logjamref02_With.f k x5 x6).bind fun t242=>(logjamref26_Doomed.l0 k x0 x4 t242 (wrap64 (x6 + 1)))))) else (some x5)
def logjamref26_Doomed.f (k : Nat) (l0 : List (S44)) : Option (Int) := (logjamref26_Order.f k l0).bind fun bt237 => (logjamref26_Doomed.l0 k l0 bt237.2 0 0)
theorem logjamref26_Doomed.mono_l : ∀ k, (∀ y0 y1 y2 y3, LeO (logjamref26_Doomed.l0 k y0 y1 y2 y3) (logjamref26_Doomed.l0 (k + 1) y0 y1 y2 y3))
  | 0=>fun _ _ _ _ r h=>by simp [logjamref26_Doomed.l0] at h
  | k + 1=>by
    have ih0:=logjamref26_Doomed.mono_l k
    · intro y0 y1 y2 y3
      unfold logjamref26_Doomed.l0
      repeat' first
      | (with_reducible exact ih0 _ _ _ _)
      | (with_reducible exact logjamref02_Has.mono _ _ _)
      | (with_reducible exact logjamref02_With.mono _ _ _)
      | (with_reducible exact logjamref26_Order.mono _ _)
      | (with_reducible exact LeO.refl _)
      | (with_reducible exact LeO.none _)
      | (with_reducible refine LeO.ite ?_ ?_)
      | (with_reducible refine LeO.bind ?_ (fun _=>?_))
      | exact ih0 _ _ _ _
      | exact logjamref02_Has.mono _ _ _
      | exact logjamref02_With.mono _ _ _
      | exact logjamref26_Order.mono _ _
      | exact LeO.none _
      | refine LeO.ite ?_ ?_
      | refine LeO.bind ?_ (fun _=>?_)
theorem logjamref26_Doomed.mono : ∀ a0 k, LeO (logjamref26_Doomed.f k a0) (logjamref26_Doomed.f (k + 1) a0) := by
  intro a0 k
  have ih0:=logjamref26_Doomed.mono_l k;unfold logjamref26_Doomed.f
  repeat' first
      | (with_reducible exact ih0 _ _ _ _)
      | (with_reducible exact logjamref02_Has.mono _ _ _)
      | (with_reducible exact logjamref02_With.mono _ _ _)
      | (with_reducible exact logjamref26_Order.mono _ _)
      | (with_reducible exact LeO.refl _)
      | (with_reducible exact LeO.none _)
      | (with_reducible refine LeO.ite ?_ ?_)
      | (with_reducible refine LeO.bind ?_ (fun _=>?_))
      | exact ih0 _ _ _ _
      | exact logjamref02_Has.mono _ _ _
      | exact logjamref02_With.mono _ _ _
      | exact logjamref26_Order.mono _ _
      | exact LeO.none _
      | refine LeO.ite ?_ ?_
      | refine LeO.bind ?_ (fun _=>?_)
set_option maxHeartbeats 8000000 in
set_option maxRecDepth 100000 in
theorem logjamref26_Doomed.calls (k : Nat) (A0 : Option Addr) (c0 : Nat) (l0 : List (S44)) (r : Int) (w : World) (hr0 : Kd.C k44 w A0 l0.length l0) (hc0 : l0.length ≤ c0) (h : logjamref26_Doomed.f k l0 = some r) :
    Calls Tryd.prog 30 #[.slice A0 l0.length c0] w fun e w'=>e = .returned (.int .u64 r) ∧ Below w.heap.size w w':=by
  have HR0:=A0_ hr0;have HC0:=A0_ hc0;clear hr0 hc0;have HB:=A0_ (Below.refl w.heap.size w);have H : ((logjamref26_Order.f k l0).bind fun bt237=>(logjamref26_Doomed.l0 k l0 bt237.2 0 0)) = some r:=h;clear h;replace H:=bm_ H;obtain ⟨⟨t237,t238⟩,A20,H⟩:=H;replace H : (logjamref26_Doomed.l0 k l0 t238 0 0) = some r:=H;have A2:=A0_ A20;clear A20;have H':=A0_ H;clear H;go_enter Tryd.func30,Tryd.ntmps30;go_wp2_with (first|((with_reducible refine gate_callee (f:=31) rfl ?_);refine goesL_ (some 9) rfl rfl Tryd.func31 (by kernel_rfl) rfl #[.slice A0 l0.length c0] rfl (by first|(simp only [List.map_toArray,List.map_cons,List.map_nil] <;> rfl)|rfl|(simp only [List.length_drop,List.length_take];rfl)) ?_;(with_reducible refine (logjamref26_Order.calls k _ _ l0 t237 t238 _ ?side1 ?side2 A2.out).mono ?_);(case side1=>repeat (first|exact HR0.out|(with_reducible first|refine Ca_ ?_ _|refine Cn_ ?_ _|refine Cd_ ?_)));(case side2=>exact HC0.out);rintro e w3 ⟨v239,rfl,ho0,hb⟩;refine ⟨_,rfl,?_⟩;have n0_:=A0_ (Kd.R_lower ho0 (below_size (by repeat (first|(with_reducible first|exact HB.out|apply ba_|apply pN_|apply b1_)|exact HB.out))));have n1_:=A0_ (below_step (by repeat (first|(with_reducible first|exact HB.out|apply ba_|apply pN_|apply b1_)|exact HB.out)) hb);clear HB;have HO240:=n0_;have HB:=n1_;clear n0_ n1_;(try clear hb);(try clear hb2);(try clear hk);(try clear hi);(try clear ho0)))
  go_loopg [5,6] k (fun kq v5 v6 w'=>∃ (x5_1 : Int) (x6_1 : Int),v5 = .int .u64 x5_1 ∧ v6 = .int .i64 x6_1 ∧ Aside0 (logjamref26_Doomed.l0 kq l0 t238 x5_1 x6_1 = some r) ∧ Aside0 (kq ≤ k) ∧ Aside0 (Below w.heap.size w w'))
  case atStart=>exact ⟨(0),(0),(by first|rfl|(simp;done)|(simp [*];done)),(by first|rfl|(simp;done)|(simp [*];done)),H',⟨Nat.le_refl _⟩,⟨by repeat (first|(with_reducible first|exact HB.out|apply ba_|apply pN_|apply b1_)|exact HB.out)⟩⟩
  case round =>
    clear H';(try clear p2);(try clear c3);obtain ⟨x5_1,x6_1,rfl,rfl,HA,HK1,HB⟩:=hrel
    cases gk with
    | zero=>exact absurd HA.out (by simp [logjamref26_Doomed.l0])
    | succ k1 =>
      have H:=HA.out;clear HA;simp only [logjamref26_Doomed.l0] at H;by_cases c4 : x6_1 < (l0.length : Int);rotate_left
      · rw [if_neg c4] at H
        have c4b0 : decide (x6_1 < (l0.length : Int)) = false:=decide_eq_false c4;clear c4;obtain rfl:=Option.some.inj H;go_wp2;go_ret;exact ⟨by first|rfl|(simp [errW_none,errW_some] <;> rfl)|(simp [*,errW_none,errW_some] <;> rfl),by repeat (first|(with_reducible first|exact HB.out|apply ba_|apply pN_|apply b1_)|exact HB.out)⟩

      rw [if_pos c4] at H;have c4b0 : decide (x6_1 < (l0.length : Int)) = true:=decide_eq_true c4;clear c4;replace H:=bm_ H;obtain ⟨t241,A50,H⟩:=H;replace H : (if t241 = true then (logjamref26_Doomed.l0 k1 l0 t238 x5_1 (wrap64 (x6_1 + 1))) else ((logjamref02_With.f k1 x5_1 x6_1).bind fun t242=>(logjamref26_Doomed.l0 k1 l0 t238 t242 (wrap64 (x6_1 + 1))))) = some r:=H;have A5:=A0_ A50;clear A50;by_cases c6 : t241 = true
      · subst c6
        have H1 : (logjamref26_Doomed.l0 k1 l0 t238 x5_1 (wrap64 (x6_1 + 1))) = some r:=by rw [if_pos rfl] at H;exact H
        clear H;have H:=H1;clear H1;have H':=A0_ H;clear H;go_wp2_with (first|((with_reducible refine gate_callee (f:=55) rfl ?_);refine goesL_ (some 20) rfl rfl Tryd.func55 (by kernel_rfl) rfl #[.int .u64 t238,.int .i64 x6_1] rfl (by first|(simp only [List.map_toArray,List.map_cons,List.map_nil] <;> rfl)|rfl|(simp only [List.length_drop,List.length_take];rfl)) ?_;(with_reducible refine (logjamref02_Has.calls k1 t238 x6_1 true _ A5.out).mono ?_);rintro e w' ⟨rfl,⟨nd,rfl⟩⟩;refine ⟨_,rfl,?_⟩))
        go_roundg k1
        case measure=>have:=HK1.out;omega
        case rel=>exact ⟨(x5_1),(wrap64 (x6_1 + 1)),(by first|rfl|(simp;done)|(simp [*];done)),(by first|rfl|(simp;done)|(simp [*];done)),H',⟨by have:=HK1.out;omega⟩,⟨by repeat (first|(with_reducible first|exact HB.out|apply ba_|apply pN_|apply b1_)|exact HB.out)⟩⟩
      replace c6:=Bool.eq_false_iff.mpr c6;subst c6;have H1 : ((logjamref02_With.f k1 x5_1 x6_1).bind fun t242=>(logjamref26_Doomed.l0 k1 l0 t238 t242 (wrap64 (x6_1 + 1)))) = some r:=by rw [if_neg (show ¬ (false = true) by decide)] at H;exact H
      clear H;have H:=H1;clear H1;replace H:=bm_ H;obtain ⟨t242,A70,H⟩:=H;replace H : (logjamref26_Doomed.l0 k1 l0 t238 t242 (wrap64 (x6_1 + 1))) = some r:=H;have A7:=A0_ A70;clear A70;have H':=A0_ H;clear H;go_wp2_with (first|((with_reducible refine gate_callee (f:=55) rfl ?_);refine goesL_ (some 20) rfl rfl Tryd.func55 (by kernel_rfl) rfl #[.int .u64 t238,.int .i64 x6_1] rfl (by first|(simp only [List.map_toArray,List.map_cons,List.map_nil] <;> rfl)|rfl|(simp only [List.length_drop,List.length_take];rfl)) ?_;(with_reducible refine (logjamref02_Has.calls k1 t238 x6_1 false _ A5.out).mono ?_);rintro e w' ⟨rfl,⟨nd,rfl⟩⟩;refine ⟨_,rfl,?_⟩)|((with_reducible refine gate_callee (f:=57) rfl ?_);refine goesL_ (some 24) rfl rfl Tryd.func57 (by kernel_rfl) rfl #[.int .u64 x5_1,.int .i64 x6_1] rfl (by first|(simp only [List.map_toArray,List.map_cons,List.map_nil] <;> rfl)|rfl|(simp only [List.length_drop,List.length_take];rfl)) ?_;(with_reducible refine (logjamref02_With.calls k1 x5_1 x6_1 t242 _ A7.out).mono ?_);rintro e w' ⟨rfl,⟨nd,rfl⟩⟩;refine ⟨_,rfl,?_⟩))
      go_roundg k1
      case measure=>have:=HK1.out;omega
      case rel=>exact ⟨(t242),(wrap64 (x6_1 + 1)),(by first|rfl|(simp;done)|(simp [*];done)),(by first|rfl|(simp;done)|(simp [*];done)),H',⟨by have:=HK1.out;omega⟩,⟨by repeat (first|(with_reducible first|exact HB.out|apply ba_|apply pN_|apply b1_)|exact HB.out)⟩⟩
end Go.Proofs.YtbfbegleffkafaaDoor.PGraphTells
