/- Go functions as plain Lean functions, and that the calls come to them. Conditions: none. (Written by a program of this session.) -/
import Derived.Test.YtbfbegleffkafaaDoorPGraphTellsx0
namespace Go.Proofs.YtbfbegleffkafaaDoor.PGraphTells
open Go.RowKit Go.Proofs.YtbfbegleffkafaaDoorW.PrintWords Go.Proofs.YtbfbegleffkafaaDoorW.PrintLast Go.Proofs.YtbfbegleffkafaaDoorW.PrintMore
attribute [local go_sem] max2_int min2_int max_two min_two max_three min_three max_four min_four   -- for this text's walks alone
set_option linter.unusedVariables false
set_option linter.unusedSimpArgs false

/-! ### graph_Check: function 24 -/
def graph_Check.f (l0 : List (S44)) : Option (Int) := if (l0.length : Int) > 64 then (some 4) else (some 0)
set_option maxHeartbeats 8000000 in
set_option maxRecDepth 100000 in
theorem graph_Check.calls (A0 : Option Addr) (c0 : Nat) (l0 : List (S44)) (r : Int) (w : World) (hr0 : Kd.C k44 w A0 l0.length l0) (hc0 : l0.length ≤ c0) (h : graph_Check.f l0 = some r) :
    Calls Tryd.prog 24 #[.slice A0 l0.length c0] w fun e w'=>e = .returned (.int .i64 r) ∧ Drawn0 w w':=by
  have HR0:=A0_ hr0;have HC0:=A0_ hc0;clear hr0 hc0;have H : (if (l0.length : Int) > 64 then (some 4) else (some 0)) = some r:=h;clear h;by_cases c2 : (l0.length : Int) > 64
  · rw [if_pos c2] at H
    have c2b0 : decide (64 < (l0.length : Int)) = true:=decide_eq_true c2;have c2b1 : decide (64 < l0.length) = true:=decide_eq_true (by omega);clear c2;obtain rfl:=Option.some.inj H;go_enter Tryd.func24,Tryd.ntmps24;go_wp2;go_ret;exact ⟨by first|rfl|(simp;done)|(simp [*];done),by repeat (first|exact Drawn0.refl _|apply Drawn0.step)⟩
  rw [if_neg c2] at H;have c2b0 : decide (64 < (l0.length : Int)) = false:=decide_eq_false c2;have c2b1 : decide (64 < l0.length) = false:=decide_eq_false (by omega);clear c2;obtain rfl:=Option.some.inj H;go_enter Tryd.func24,Tryd.ntmps24;go_wp2;go_ret;exact ⟨by first|rfl|(simp;done)|(simp [*];done),by repeat (first|exact Drawn0.refl _|apply Drawn0.step)⟩

/-! ### bits_TrailingZeros64: function 73 -/
-- by hand
def bits_TrailingZeros64.f (a0 : Int) : Option Int := if 0 ≤ a0 then if a0 < 18446744073709551616 then some (Lib.ctz 64 a0.toNat : Int) else none else none
theorem bits_TrailingZeros64.calls (a0 : Int) (r : Int) (w : World) (hT : Tb.Tab w) (h : bits_TrailingZeros64.f a0 = some r) :
    Calls Tryd.prog 73 #[.int .u64 a0] w fun e w' => e = .returned (.int .i64 r) ∧ Drawn0 w w' := by
  unfold bits_TrailingZeros64.f at h
  split at h
  case isFalse => cases h
  rename_i h0
  split at h
  case isFalse => cases h
  rename_i h1
  injection h with h
  subst h
  obtain ⟨n, rfl⟩ : ∃ n : Nat, a0 = (n : Int) := ⟨a0.toNat, by omega⟩
  rw [Int.toNat_natCast]
  exact (Tb.tz_any n (by omega) w hT).mono fun e w' ⟨h, h2⟩ => ⟨h, by rw [h2]; exact Drawn0.refl _⟩


/-! ### bits_Set_First: function 46 -/
def bits_Set_First.f (a0 : Int) : Option (Int) := if a0 = 0 then (some (-1)) else ((bits_TrailingZeros64.f a0).bind fun t144 => (some t144))
set_option maxHeartbeats 8000000 in
set_option maxRecDepth 100000 in
theorem bits_Set_First.calls (a0 : Int) (r : Int) (w : World) (hT : Tb.Tab w) (h : bits_Set_First.f a0 = some r) :
    Calls Tryd.prog 46 #[.int .u64 a0] w fun e w'=>e = .returned (.int .i64 r) ∧ Drawn0 w w':=by
  have HT:=A0_ hT;clear hT;have H : (if a0 = 0 then (some (-1)) else ((bits_TrailingZeros64.f a0).bind fun t144=>(some t144))) = some r:=h;clear h;by_cases c2 : a0 = 0
  · rw [if_pos c2] at H
    have c2b0 : (a0 == 0) = true:=beq_iff_eq.mpr c2;have c2b1 : (a0 != 0) = false:=bne_eq_false_iff_eq.mpr c2;clear c2;obtain rfl:=Option.some.inj H;go_enter Tryd.func46,Tryd.ntmps46;go_wp2;go_ret;exact ⟨by first|rfl|(simp;done)|(simp [*];done),by repeat (first|exact Drawn0.refl _|apply Drawn0.step)⟩
  rw [if_neg c2] at H;have c2b0 : (a0 == 0) = false:=beq_eq_false_iff_ne.mpr c2;have c2b1 : (a0 != 0) = true:=bne_iff_ne.mpr c2;replace H:=bm_ H;obtain ⟨t144,A30,H⟩:=H;replace H : (some t144) = some r:=H;have A3:=A0_ A30;clear A30;obtain rfl:=Option.some.inj H;go_enter Tryd.func46,Tryd.ntmps46;go_wp2_with (first|((with_reducible refine gate_callee (f:=73) rfl ?_);refine goesL_ (some 6) rfl rfl Tryd.func73 (by kernel_rfl) rfl #[.int .u64 a0] rfl (by first|(simp only [List.map_toArray,List.map_cons,List.map_nil] <;> rfl)|rfl|(simp only [List.length_drop,List.length_take];rfl)) ?_;(with_reducible refine (bits_TrailingZeros64.calls a0 t144 _ ?side1 A3.out).mono ?_);(case side1=>first|exact HT.out|(repeat (first|(with_reducible first|exact HT.out|apply Tb.alloc|apply Tb.drewN|apply Tb.drew)|exact HT.out));done|exact Tb.below HT.out (by exact Below.refl _ _));rintro e w' ⟨rfl,⟨nd,rfl⟩⟩;refine ⟨_,rfl,?_⟩));go_ret;exact ⟨by first|rfl|(simp;done)|(simp [*];done),by repeat (first|exact Drawn0.refl _|apply Drawn0.step)⟩

/-! ### bits_one: function 74 -/
def bits_one.f (a0 : Int) : Option (Int) := if a0 < 0 then (some 0) else (if a0 > 63 then (some 0) else (if 0 ≤ a0 then (some (shl .u64 1 a0)) else (none)))
set_option maxHeartbeats 8000000 in
set_option maxRecDepth 100000 in
theorem bits_one.calls (a0 : Int) (r : Int) (w : World) (h : bits_one.f a0 = some r) :
    Calls Tryd.prog 74 #[.int .i64 a0] w fun e w'=>e = .returned (.int .u64 r) ∧ Drawn0 w w':=by
  have H : (if a0 < 0 then (some 0) else (if a0 > 63 then (some 0) else (if 0 ≤ a0 then (some (shl .u64 1 a0)) else (none)))) = some r:=h;clear h;by_cases c2 : a0 < 0
  · rw [if_pos c2] at H
    have c2b0 : decide (a0 < 0) = true:=decide_eq_true c2;clear c2;obtain rfl:=Option.some.inj H;go_enter Tryd.func74,Tryd.ntmps74;go_wp2;go_ret;exact ⟨by first|rfl|(simp;done)|(simp [*];done),by repeat (first|exact Drawn0.refl _|apply Drawn0.step)⟩
  rw [if_neg c2] at H;have c2b0 : decide (a0 < 0) = false:=decide_eq_false c2;clear c2;by_cases c3 : a0 > 63
  · rw [if_pos c3] at H
    have c3b0 : decide (63 < a0) = true:=decide_eq_true c3;clear c3;obtain rfl:=Option.some.inj H;go_enter Tryd.func74,Tryd.ntmps74;go_wp2;go_ret;exact ⟨by first|rfl|(simp;done)|(simp [*];done),by repeat (first|exact Drawn0.refl _|apply Drawn0.step)⟩
  rw [if_neg c3] at H;have c3b0 : decide (63 < a0) = false:=decide_eq_false c3;clear c3;by_cases c4 : 0 ≤ a0;rotate_left
  · rw [if_neg c4] at H
    exact absurd H (by simp)

  rw [if_pos c4] at H;have c4b0:=eq_true c4;have c4b1 : decide (0 ≤ a0) = true:=decide_eq_true c4;clear c4;obtain ⟨ji5,hji5⟩ : ∃ j_ : Int,(shl .u64 1 a0) = j_:=⟨_,rfl⟩;replace H : (some ji5) = some r:=by first|(rw [hji5] at H;exact H)|(simp only [hji5] at H ⊢;exact H)
  have hji5_ : (IntKind.u64.wrap (1 * 2 ^ min a0.toNat 64)) = ji5:=hji5;have hji5z : a0 ≤ 64 → (IntKind.u64.wrap (1 * 2 ^ a0.toNat)) = ji5:=shl_small hji5;have hji5u : (IntKind.u64.wrap (2 ^ min a0.toNat 64)) = ji5:=by have h_:=hji5_;rw [Int.one_mul] at h_;exact h_
  have hji5v : a0 ≤ 64 → (IntKind.u64.wrap (2 ^ a0.toNat)) = ji5:=fun hle_=>by have h_:=hji5z hle_;rw [Int.one_mul] at h_;exact h_
  obtain rfl:=Option.some.inj H;go_enter Tryd.func74,Tryd.ntmps74;go_wp2;go_ret;exact ⟨by first|rfl|(simp;done)|(simp only [← hji5] <;> (first|rfl|simp))|(simp [*];done),by repeat (first|exact Drawn0.refl _|apply Drawn0.step)⟩
/-! ### bits_Set_With: function 52 -/
def bits_Set_With.f (a0 : Int) (a1 : Int) : Option (Int) := (bits_one.f a1).bind fun t145 => (some (Go.bits .or .u64 a0 t145))
set_option maxHeartbeats 8000000 in
set_option maxRecDepth 100000 in
theorem bits_Set_With.calls (a0 : Int) (a1 : Int) (r : Int) (w : World) (h : bits_Set_With.f a0 a1 = some r) :
    Calls Tryd.prog 52 #[.int .u64 a0,.int .i64 a1] w fun e w'=>e = .returned (.int .u64 r) ∧ Drawn0 w w':=by
  have H : ((bits_one.f a1).bind fun t145=>(some (Go.bits .or .u64 a0 t145))) = some r:=h;clear h;replace H:=bm_ H;obtain ⟨t145,A30,H⟩:=H;replace H : (some (Go.bits .or .u64 a0 t145)) = some r:=H;have A3:=A0_ A30;clear A30;obtain rfl:=Option.some.inj H;go_enter Tryd.func52,Tryd.ntmps52;go_wp2_with (first|((with_reducible refine gate_callee (f:=74) rfl ?_);refine goesL_ (some 7) rfl rfl Tryd.func74 (by kernel_rfl) rfl #[.int .i64 a1] rfl (by first|(simp only [List.map_toArray,List.map_cons,List.map_nil] <;> rfl)|rfl|(simp only [List.length_drop,List.length_take];rfl)) ?_;(with_reducible refine (bits_one.calls a1 t145 _ A3.out).mono ?_);rintro e w' ⟨rfl,⟨nd,rfl⟩⟩;refine ⟨_,rfl,?_⟩));go_ret;exact ⟨by first|rfl|(simp;done)|(simp [*];done),by repeat (first|exact Drawn0.refl _|apply Drawn0.step)⟩

/-! ### bits_OnesCount64: function 86 -/
def bits_OnesCount64.f (a0 : Int) : Option (Int) := some (Go.bits .and .i64 (wrap64 (IntKind.u64.wrap ((IntKind.u64.wrap ((IntKind.u64.wrap ((Go.bits .and .u64 (IntKind.u64.wrap (((IntKind.u64.wrap ((Go.bits .and .u64 ((IntKind.u64.wrap ((Go.bits .and .u64 (a0 / 2) 6148914691236517205) + (Go.bits .and .u64 a0 6148914691236517205))) / 4) 3689348814741910323) + (Go.bits .and .u64 (IntKind.u64.wrap ((Go.bits .and .u64 (a0 / 2) 6148914691236517205) + (Go.bits .and .u64 a0 6148914691236517205))) 3689348814741910323))) / 16) + (IntKind.u64.wrap ((Go.bits .and .u64 ((IntKind.u64.wrap ((Go.bits .and .u64 (a0 / 2) 6148914691236517205) + (Go.bits .and .u64 a0 6148914691236517205))) / 4) 3689348814741910323) + (Go.bits .and .u64 (IntKind.u64.wrap ((Go.bits .and .u64 (a0 / 2) 6148914691236517205) + (Go.bits .and .u64 a0 6148914691236517205))) 3689348814741910323))))) 1085102592571150095) + ((Go.bits .and .u64 (IntKind.u64.wrap (((IntKind.u64.wrap ((Go.bits .and .u64 ((IntKind.u64.wrap ((Go.bits .and .u64 (a0 / 2) 6148914691236517205) + (Go.bits .and .u64 a0 6148914691236517205))) / 4) 3689348814741910323) + (Go.bits .and .u64 (IntKind.u64.wrap ((Go.bits .and .u64 (a0 / 2) 6148914691236517205) + (Go.bits .and .u64 a0 6148914691236517205))) 3689348814741910323))) / 16) + (IntKind.u64.wrap ((Go.bits .and .u64 ((IntKind.u64.wrap ((Go.bits .and .u64 (a0 / 2) 6148914691236517205) + (Go.bits .and .u64 a0 6148914691236517205))) / 4) 3689348814741910323) + (Go.bits .and .u64 (IntKind.u64.wrap ((Go.bits .and .u64 (a0 / 2) 6148914691236517205) + (Go.bits .and .u64 a0 6148914691236517205))) 3689348814741910323))))) 1085102592571150095) / 256))) + ((IntKind.u64.wrap ((Go.bits .and .u64 (IntKind.u64.wrap (((IntKind.u64.wrap ((Go.bits .and .u64 ((IntKind.u64.wrap ((Go.bits .and .u64 (a0 / 2) 6148914691236517205) + (Go.bits .and .u64 a0 6148914691236517205))) / 4) 3689348814741910323) + (Go.bits .and .u64 (IntKind.u64.wrap ((Go.bits .and .u64 (a0 / 2) 6148914691236517205) + (Go.bits .and .u64 a0 6148914691236517205))) 3689348814741910323))) / 16) + (IntKind.u64.wrap ((Go.bits .and .u64 ((IntKind.u64.wrap ((Go.bits .and .u64 (a0 / 2) 6148914691236517205) + (Go.bits .and .u64 a0 6148914691236517205))) / 4) 3689348814741910323) + (Go.bits .and .u64 (IntKind.u64.wrap ((Go.bits .and .u64 (a0 / 2) 6148914691236517205) + (Go.bits .and .u64 a0 6148914691236517205))) 3689348814741910323))))) 1085102592571150095) + ((Go.bits .and .u64 (IntKind.u64.wrap (((IntKind.u64.wrap ((Go.bits .and .u64 ((IntKind.u64.wrap ((Go.bits .and .u64 (a0 / 2) 6148914691236517205) + (Go.bits .and .u64 a0 6148914691236517205))) / 4) 3689348814741910323) + (Go.bits .and .u64 (IntKind.u64.wrap ((Go.bits .and .u64 (a0 / 2) 6148914691236517205) + (Go.bits .and .u64 a0 6148914691236517205))) 3689348814741910323))) / 16) + (IntKind.u64.wrap ((Go.bits .and .u64 ((IntKind.u64.wrap ((Go.bits .and .u64 (a0 / 2) 6148914691236517205) + (Go.bits .and .u64 a0 6148914691236517205))) / 4) 3689348814741910323) + (Go.bits .and .u64 (IntKind.u64.wrap ((Go.bits .and .u64 (a0 / 2) 6148914691236517205) + (Go.bits .and .u64 a0 6148914691236517205))) 3689348814741910323))))) 1085102592571150095) / 256))) / 65536))) + ((IntKind.u64.wrap ((IntKind.u64.wrap ((Go.bits .and .u64 (IntKind.u64.wrap (((IntKind.u64.wrap ((Go.bits .and .u64 ((IntKind.u64.wrap ((Go.bits .and .u64 (a0 / 2) 6148914691236517205) + (Go.bits .and .u64 a0 6148914691236517205))) / 4) 3689348814741910323) + (Go.bits .and .u64 (IntKind.u64.wrap ((Go.bits .and .u64 (a0 / 2) 6148914691236517205) + (Go.bits .and .u64 a0 6148914691236517205))) 3689348814741910323))) / 16) + (IntKind.u64.wrap ((Go.bits .and .u64 ((IntKind.u64.wrap ((Go.bits .and .u64 (a0 / 2) 6148914691236517205) + (Go.bits .and .u64 a0 6148914691236517205))) / 4) 3689348814741910323) + (Go.bits .and .u64 (IntKind.u64.wrap ((Go.bits .and .u64 (a0 / 2) 6148914691236517205) + (Go.bits .and .u64 a0 6148914691236517205))) 3689348814741910323))))) 1085102592571150095) + ((Go.bits .and .u64 (IntKind.u64.wrap (((IntKind.u64.wrap ((Go.bits .and .u64 ((IntKind.u64.wrap ((Go.bits .and .u64 (a0 / 2) 6148914691236517205) + (Go.bits .and .u64 a0 6148914691236517205))) / 4) 3689348814741910323) + (Go.bits .and .u64 (IntKind.u64.wrap ((Go.bits .and .u64 (a0 / 2) 6148914691236517205) + (Go.bits .and .u64 a0 6148914691236517205))) 3689348814741910323))) / 16) + (IntKind.u64.wrap ((Go.bits .and .u64 ((IntKind.u64.wrap ((Go.bits .and .u64 (a0 / 2) 6148914691236517205) + (Go.bits .and .u64 a0 6148914691236517205))) / 4) 3689348814741910323) + (Go.bits .and .u64 (IntKind.u64.wrap ((Go.bits .and .u64 (a0 / 2) 6148914691236517205) + (Go.bits .and .u64 a0 6148914691236517205))) 3689348814741910323))))) 1085102592571150095) / 256))) + ((IntKind.u64.wrap ((Go.bits .and .u64 (IntKind.u64.wrap (((IntKind.u64.wrap ((Go.bits .and .u64 ((IntKind.u64.wrap ((Go.bits .and .u64 (a0 / 2) 6148914691236517205) + (Go.bits .and .u64 a0 6148914691236517205))) / 4) 3689348814741910323) + (Go.bits .and .u64 (IntKind.u64.wrap ((Go.bits .and .u64 (a0 / 2) 6148914691236517205) + (Go.bits .and .u64 a0 6148914691236517205))) 3689348814741910323))) / 16) + (IntKind.u64.wrap ((Go.bits .and .u64 ((IntKind.u64.wrap ((Go.bits .and .u64 (a0 / 2) 6148914691236517205) + (Go.bits .and .u64 a0 6148914691236517205))) / 4) 3689348814741910323) + (Go.bits .and .u64 (IntKind.u64.wrap ((Go.bits .and .u64 (a0 / 2) 6148914691236517205) + (Go.bits .and .u64 a0 6148914691236517205))) 3689348814741910323))))) 1085102592571150095) + ((Go.bits .and .u64 (IntKind.u64.wrap (((IntKind.u64.wrap ((Go.bits .and .u64 ((IntKind.u64.wrap ((Go.bits .and .u64 (a0 / 2) 6148914691236517205) + (Go.bits .and .u64 a0 6148914691236517205))) / 4) 3689348814741910323) + (Go.bits .and .u64 (IntKind.u64.wrap ((Go.bits .and .u64 (a0 / 2) 6148914691236517205) + (Go.bits .and .u64 a0 6148914691236517205))) 3689348814741910323))) / 16) + (IntKind.u64.wrap ((Go.bits .and .u64 ((IntKind.u64.wrap ((Go.bits .and .u64 (a0 / 2) 6148914691236517205) + (Go.bits .and .u64 a0 6148914691236517205))) / 4) 3689348814741910323) + (Go.bits .and .u64 (IntKind.u64.wrap ((Go.bits .and .u64 (a0 / 2) 6148914691236517205) + (Go.bits .and .u64 a0 6148914691236517205))) 3689348814741910323))))) 1085102592571150095) / 256))) / 65536))) / 4294967296)))) 127)
set_option maxHeartbeats 8000000 in
set_option maxRecDepth 100000 in
theorem bits_OnesCount64.calls (a0 : Int) (r : Int) (w : World) (h : bits_OnesCount64.f a0 = some r) :
    Calls Tryd.prog 86 #[.int .u64 a0] w fun e w'=>e = .returned (.int .i64 r) ∧ Drawn0 w w':=by
  have H : (some (Go.bits .and .i64 (wrap64 (IntKind.u64.wrap ((IntKind.u64.wrap ((IntKind.u64.wrap ((Go.bits .and .u64 (IntKind.u64.wrap (((IntKind.u64.wrap ((Go.bits .and .u64 ((IntKind.u64.wrap ((Go.bits .and .u64 (a0 / 2) 6148914691236517205) + (Go.bits .and .u64 a0 6148914691236517205))) / 4) 3689348814741910323) + (Go.bits .and .u64 (IntKind.u64.wrap ((Go.bits .and .u64 (a0 / 2) 6148914691236517205) + (Go.bits .and .u64 a0 6148914691236517205))) 3689348814741910323))) / 16) + (IntKind.u64.wrap ((Go.bits .and .u64 ((IntKind.u64.wrap ((Go.bits .and .u64 (a0 / 2) 6148914691236517205) + (Go.bits .and .u64 a0 6148914691236517205))) / 4) 3689348814741910323) + (Go.bits .and .u64 (IntKind.u64.wrap ((Go.bits .and .u64 (a0 / 2) 6148914691236517205) + (Go.bits .and .u64 a0 6148914691236517205))) 3689348814741910323))))) 1085102592571150095) + ((Go.bits .and .u64 (IntKind.u64.wrap (((IntKind.u64.wrap ((Go.bits .and .u64 ((IntKind.u64.wrap ((Go.bits .and .u64 (a0 / 2) 6148914691236517205) + (Go.bits .and .u64 a0 6148914691236517205))) / 4) 3689348814741910323) + (Go.bits .and .u64 (IntKind.u64.wrap ((Go.bits .and .u64 (a0 / 2) 6148914691236517205) + (Go.bits .and .u64 a0 6148914691236517205))) 3689348814741910323))) / 16) + (IntKind.u64.wrap ((Go.bits .and .u64 ((IntKind.u64.wrap ((Go.bits .and .u64 (a0 / 2) 6148914691236517205) + (Go.bits .and .u64 a0 6148914691236517205))) / 4) 3689348814741910323) + (Go.bits .and .u64 (IntKind.u64.wrap ((Go.bits .and .u64 (a0 / 2) 6148914691236517205) + (Go.bits .and .u64 a0 6148914691236517205))) 3689348814741910323))))) 1085102592571150095) / 256))) + ((IntKind.u64.wrap ((Go.bits .and .u64 (IntKind.u64.wrap (((IntKind.u64.wrap ((Go.bits .and .u64 ((IntKind.u64.wrap ((Go.bits .and .u64 (a0 / 2) 6148914691236517205) + (Go.bits .and .u64 a0 6148914691236517205))) / 4) 3689348814741910323) + (Go.bits .and .u64 (IntKind.u64.wrap ((Go.bits .and .u64 (a0 / 2) 6148914691236517205) + (Go.bits .and .u64 a0 6148914691236517205))) 3689348814741910323))) / 16) + (IntKind.u64.wrap ((Go.bits .and .u64 ((IntKind.u64.wrap ((Go.bits .and .u64 (a0 / 2) 6148914691236517205) + (Go.bits .and .u64 a0 6148914691236517205))) / 4) 3689348814741910323) + (Go.bits .and .u64 (IntKind.u64.wrap ((Go.bits .and .u64 (a0 / 2) 6148914691236517205) + (Go.bits .and .u64 a0 6148914691236517205))) 3689348814741910323))))) 1085102592571150095) + ((Go.bits .and .u64 (IntKind.u64.wrap (((IntKind.u64.wrap ((Go.bits .and .u64 ((IntKind.u64.wrap ((Go.bits .and .u64 (a0 / 2) 6148914691236517205) + (Go.bits .and .u64 a0 6148914691236517205))) / 4) 3689348814741910323) + (Go.bits .and .u64 (IntKind.u64.wrap ((Go.bits .and .u64 (a0 / 2) 6148914691236517205) + (Go.bits .and .u64 a0 6148914691236517205))) 3689348814741910323))) / 16) + (IntKind.u64.wrap ((Go.bits .and .u64 ((IntKind.u64.wrap ((Go.bits .and .u64 (a0 / 2) 6148914691236517205) + (Go.bits .and .u64 a0 6148914691236517205))) / 4) 3689348814741910323) + (Go.bits .and .u64 (IntKind.u64.wrap ((Go.bits .and .u64 (a0 / 2) 6148914691236517205) + (Go.bits .and .u64 a0 6148914691236517205))) 3689348814741910323))))) 1085102592571150095) / 256))) / 65536))) + ((IntKind.u64.wrap ((IntKind.u64.wrap ((Go.bits .and .u64 (IntKind.u64.wrap (((IntKind.u64.wrap ((Go.bits .and .u64 ((IntKind.u64.wrap ((Go.bits .and .u64 (a0 / 2) 6148914691236517205) + (Go.bits .and .u64 a0 6148914691236517205))) / 4) 3689348814741910323) + (Go.bits .and .u64 (IntKind.u64.wrap ((Go.bits .and .u64 (a0 / 2) 6148914691236517205) + (Go.bits .and .u64 a0 6148914691236517205))) 3689348814741910323))) / 16) + (IntKind.u64.wrap ((Go.bits .and .u64 ((IntKind.u64.wrap ((Go.bits .and .u64 (a0 / 2) 6148914691236517205) + (Go.bits .and .u64 a0 6148914691236517205))) / 4) 3689348814741910323) + (Go.bits .and .u64 (IntKind.u64.wrap ((Go.bits .and .u64 (a0 / 2) 6148914691236517205) + (Go.bits .and .u64 a0 6148914691236517205))) 3689348814741910323))))) 1085102592571150095) + ((Go.bits .and .u64 (IntKind.u64.wrap (((IntKind.u64.wrap ((Go.bits .and .u64 ((IntKind.u64.wrap ((Go.bits .and .u64 (a0 / 2) 6148914691236517205) + (Go.bits .and .u64 a0 6148914691236517205))) / 4) 3689348814741910323) + (Go.bits .and .u64 (IntKind.u64.wrap ((Go.bits .and .u64 (a0 / 2) 6148914691236517205) + (Go.bits .and .u64 a0 6148914691236517205))) 3689348814741910323))) / 16) + (IntKind.u64.wrap ((Go.bits .and .u64 ((IntKind.u64.wrap ((Go.bits .and .u64 (a0 / 2) 6148914691236517205) + (Go.bits .and .u64 a0 6148914691236517205))) / 4) 3689348814741910323) + (Go.bits .and .u64 (IntKind.u64.wrap ((Go.bits .and .u64 (a0 / 2) 6148914691236517205) + (Go.bits .and .u64 a0 6148914691236517205))) 3689348814741910323))))) 1085102592571150095) / 256))) + ((IntKind.u64.wrap ((Go.bits .and .u64 (IntKind.u64.wrap (((IntKind.u64.wrap ((Go.bits .and .u64 ((IntKind.u64.wrap ((Go.bits .and .u64 (a0 / 2) 6148914691236517205) + (Go.bits .and .u64 a0 6148914691236517205))) / 4) 3689348814741910323) + (Go.bits .and .u64 (IntKind.u64.wrap ((Go.bits .and .u64 (a0 / 2) 6148914691236517205) + (Go.bits .and .u64 a0 6148914691236517205))) 3689348814741910323))) / 16) + (IntKind.u64.wrap ((Go.bits .and .u64 ((IntKind.u64.wrap ((Go.bits .and .u64 (a0 / 2) 6148914691236517205) + (Go.bits .and .u64 a0 6148914691236517205))) / 4) 3689348814741910323) + (Go.bits .and .u64 (IntKind.u64.wrap ((Go.bits .and .u64 (a0 / 2) 6148914691236517205) + (Go.bits .and .u64 a0 6148914691236517205))) 3689348814741910323))))) 1085102592571150095) + ((Go.bits .and .u64 (IntKind.u64.wrap (((IntKind.u64.wrap ((Go.bits .and .u64 ((IntKind.u64.wrap ((Go.bits .and .u64 (a0 / 2) 6148914691236517205) + (Go.bits .and .u64 a0 6148914691236517205))) / 4) 3689348814741910323) + (Go.bits .and .u64 (IntKind.u64.wrap ((Go.bits .and .u64 (a0 / 2) 6148914691236517205) + (Go.bits .and .u64 a0 6148914691236517205))) 3689348814741910323))) / 16) + (IntKind.u64.wrap ((Go.bits .and .u64 ((IntKind.u64.wrap ((Go.bits .and .u64 (a0 / 2) 6148914691236517205) + (Go.bits .and .u64 a0 6148914691236517205))) / 4) 3689348814741910323) + (Go.bits .and .u64 (IntKind.u64.wrap ((Go.bits .and .u64 (a0 / 2) 6148914691236517205) + (Go.bits .and .u64 a0 6148914691236517205))) 3689348814741910323))))) 1085102592571150095) / 256))) / 65536))) / 4294967296)))) 127)) = some r:=h
  clear h;obtain rfl:=Option.some.inj H;go_enter Tryd.func86,Tryd.ntmps86;go_wp2;go_ret;exact ⟨by first|rfl|(simp;done)|(simp [*];done),by repeat (first|exact Drawn0.refl _|apply Drawn0.step)⟩

/-! ### bits_Set_Count: function 79 -/
def bits_Set_Count.f (a0 : Int) : Option (Int) := (bits_OnesCount64.f a0).bind fun t146 => (some t146)
set_option maxHeartbeats 8000000 in
set_option maxRecDepth 100000 in
theorem bits_Set_Count.calls (a0 : Int) (r : Int) (w : World) (h : bits_Set_Count.f a0 = some r) :
    Calls Tryd.prog 79 #[.int .u64 a0] w fun e w'=>e = .returned (.int .i64 r) ∧ Drawn0 w w':=by
  have H : ((bits_OnesCount64.f a0).bind fun t146=>(some t146)) = some r:=h;clear h;replace H:=bm_ H;obtain ⟨t146,A20,H⟩:=H;replace H : (some t146) = some r:=H;have A2:=A0_ A20;clear A20;obtain rfl:=Option.some.inj H;go_enter Tryd.func79,Tryd.ntmps79;go_wp2_with (first|((with_reducible refine gate_callee (f:=86) rfl ?_);refine goesL_ (some 4) rfl rfl Tryd.func86 (by kernel_rfl) rfl #[.int .u64 a0] rfl (by first|(simp only [List.map_toArray,List.map_cons,List.map_nil] <;> rfl)|rfl|(simp only [List.length_drop,List.length_take];rfl)) ?_;(with_reducible refine (bits_OnesCount64.calls a0 t146 _ A2.out).mono ?_);rintro e w' ⟨rfl,⟨nd,rfl⟩⟩;refine ⟨_,rfl,?_⟩));go_ret;exact ⟨by first|rfl|(simp;done)|(simp [*];done),by repeat (first|exact Drawn0.refl _|apply Drawn0.step)⟩

/-! ### bits_Set_List: function 62 -/
-- by hand
open Ch (Chg)
namespace Bl
def ints (l : List Nat) : List Int := l.map fun (n : Nat) => (n : Int)
theorem ints_len (l : List Nat) : (ints l).length = l.length := by simp [ints]
theorem ints_snoc (l : List Nat) (t : Nat) : ints l ++ [(t : Int)] = ints (l ++ [t]) := by unfold ints; simp
theorem low_least {D : Nat} (hD : D < Bt.top) (h0 : D ≠ 0) : ∃ rest, Gr.low D 64 = Lib.ctz 64 D :: rest := by
  obtain ⟨hlow, hk⟩ := Lib.lowest_bit 64 D h0 (Bt.top_pow ▸ hD)
  have hbit : D.testBit (Lib.ctz 64 D) = true := by
    have h1 : (D &&& (2 ^ 64 - D)).testBit (Lib.ctz 64 D) = true := by rw [hlow, Bt.tb_pow]; simp
    rw [Nat.testBit_and, Bool.and_eq_true] at h1
    exact h1.1
  have hmem : Lib.ctz 64 D ∈ Gr.low D 64 := Gr.mem_low.2 ⟨hk, hbit⟩
  cases hl : Gr.low D 64 with
  | nil => rw [hl] at hmem; cases hmem
  | cons x rest =>
    have hs : (Gr.low D 64).Pairwise (· < ·) := List.Pairwise.filter _ List.pairwise_lt_range
    rw [hl] at hs hmem
    rw [List.pairwise_cons] at hs
    have hx : x ∈ Gr.low D 64 := by rw [hl]; simp
    have hxb := (Gr.mem_low.1 hx).2
    have hxc : x = Lib.ctz 64 D := by
      rcases List.mem_cons.1 hmem with q | q
      · exact q.symm
      · exfalso
        have hlt := hs.1 _ q
        unfold Lib.ctz at hlt
        rw [if_neg h0] at hlt
        obtain ⟨m, hm, _⟩ := Lib.ctzFrom_spec 64 D (by omega) (Bt.top_pow ▸ hD)
        rw [hm, Nat.testBit_two_pow_mul] at hxb
        simp at hxb
        omega
    exact ⟨rest, by rw [hxc]⟩
/-- The least one cut off. -/
theorem tb_cut {s : Nat} (hs : s < Bt.top) (h0 : s ≠ 0) (i : Nat) : (s &&& (s - 1)).testBit i = (s.testBit i && !decide (i = Lib.ctz 64 s)) := by
  have e : Lib.ctz 64 s = Lib.ctzFrom 64 s := by simp [Lib.ctz, h0]
  rw [e]
  obtain ⟨m, hm, _⟩ := Lib.ctzFrom_spec 64 s (by omega) (Bt.top_pow ▸ hs)
  generalize Lib.ctzFrom 64 s = c at *
  have hp : 0 < 2 ^ c := Nat.two_pow_pos c
  have h1 : s - 1 = 2 ^ c * (2 * m) + (2 ^ c - 1) := by
    rw [hm, Nat.mul_add]
    omega
  rw [Nat.testBit_and, h1, Nat.testBit_two_pow_mul_add _ (by omega)]
  rw [hm, Nat.testBit_two_pow_mul]
  by_cases hi : i < c
  · have : ¬ c ≤ i := by omega
    simp [hi, this]
  · by_cases hic : i = c
    · subst hic
      simp
    · have h2 : c ≤ i := by omega
      obtain ⟨j, hj⟩ : ∃ j, i - c = j + 1 := ⟨i - c - 1, by omega⟩
      rw [if_neg hi, hj, Nat.testBit_succ, Nat.testBit_succ]
      have h3 : (2 * m + 1) / 2 = m := by omega
      have h4 : 2 * m / 2 = m := by omega
      rw [h3, h4]
      simp [h2, hic]
theorem low_step {s : Nat} (hs : s < Bt.top) (h0 : s ≠ 0) : Gr.low s 64 = Lib.ctz 64 s :: Gr.low (s &&& (s - 1)) 64 := by
  obtain ⟨rest, hl⟩ := low_least hs h0
  have hp : (Gr.low s 64).Pairwise (· < ·) := List.Pairwise.filter _ List.pairwise_lt_range
  have e : Gr.low (s &&& (s - 1)) 64 = (Gr.low s 64).filter fun i => !decide (i = Lib.ctz 64 s) := by
    unfold Gr.low
    rw [List.filter_filter]
    refine List.filter_congr fun i _ => ?_
    rw [tb_cut hs h0 i, Bool.and_comm]
  rw [e, hl, List.filter_cons]
  rw [hl, List.pairwise_cons] at hp
  simp only [decide_true, Bool.not_true, Bool.false_eq_true, if_false]
  congr 1
  symm
  rw [List.filter_eq_self]
  intro a ha
  have := hp.1 a ha
  simp
  omega
theorem low_zero : Gr.low 0 64 = [] := by
  unfold Gr.low
  rw [List.filter_eq_nil_iff]
  intro a _
  simp
theorem low_len (s : Nat) : (Gr.low s 64).length ≤ 64 := by
  unfold Gr.low
  exact Nat.le_trans (List.length_filter_le _ _) (by simp)
theorem mk_any (n : Nat) (hn : n ≤ 127) : ∀ W : World, (Instr.makeSlice 28 (.int .i64 0) (.int .i64 (n : Int))).run Tryd.prog W = .ok (.slice (some ⟨W.heap.size, 0, none⟩) 0 n) (W.alloc (.cells (madeCells #[.int .i64 0] n) 3)) := by
  intro W
  obtain ⟨i0, hi, hzz⟩ := Option.map_eq_some_iff.1 info3
  simp only [Prod.mk.injEq] at hzz
  obtain ⟨hz0, hz1, hz2⟩ := hzz
  have hr := run_make (P := Tryd.prog) W 28 3 i0 (.int .i64 0) Tryd.underlying28 hi hz0 .i64 .i64 0 (n : Int) (by omega) (by omega) (by rw [hz2]; omega) (by omega)
  rw [hz1] at hr
  simp only [Int.toNat_zero, Int.toNat_natCast, Nat.mul_one] at hr
  exact hr
theorem mk_own (W : World) (n : Nat) (hn : n ≤ 127) (base : Nat) (hb : base ≤ W.heap.size) : Kd.R (Kd.int .i64) 3 (W.alloc (.cells (madeCells #[.int .i64 0] n) 3)) base (fun _ => True) (.slice (some ⟨W.heap.size, 0, none⟩) 0 n) [] :=
  ⟨fun _ _ => trivial, [], World.ownsRow_made W _ n hb (by simp [maxLen]; omega) (by rw [size_madeCells]; show n = n * 1; omega), Reps.none _ _⟩
theorem count_f (a : Int) : ∃ n : Nat, n ≤ 127 ∧ bits_Set_Count.f a = some (n : Int) := by
  unfold bits_Set_Count.f bits_OnesCount64.f
  rw [Option.bind_some, i64_and127]
  generalize wrap64 _ = x
  exact ⟨(x % 128).toNat, by omega, by rw [Int.toNat_of_nonneg (by omega)]⟩
end Bl
def bits_Set_List.f (a0 : Int) : Option (List Int) := if 0 ≤ a0 then if a0 < 18446744073709551616 then some (Bl.ints (Gr.low a0.toNat 64)) else none else none
set_option maxHeartbeats 4000000 in
set_option maxRecDepth 100000 in
theorem bits_Set_List.calls (a0 : Int) (r : List Int) (w : World) (hT : Tb.Tab w) (h : bits_Set_List.f a0 = some r) :
    Calls Tryd.prog 62 #[.int .u64 a0] w fun e w' => ∃ v0_ : Value, e = .returned v0_ ∧ Kd.R (Kd.int .i64) 3 w' w.heap.size (fun _ => True) v0_ r ∧ Below w.heap.size w w' := by
  obtain ⟨s0, rfl, hs0, hr⟩ : ∃ s : Nat, a0 = (s : Int) ∧ s < Bt.top ∧ r = Bl.ints (Gr.low s 64) := by
    unfold bits_Set_List.f at h
    split at h
    · split at h
      · rename_i h1 h2
        refine ⟨a0.toNat, by omega, by unfold Bt.top; omega, (Option.some.inj h).symm⟩
      · cases h
    · cases h
  have HT := Aside0.mk hT
  have HS0 := Aside0.mk hs0
  have HRE := Aside0.mk hr
  clear hT hs0 hr h
  obtain ⟨n, hn, hcf⟩ := Bl.count_f (s0 : Int)
  have HN := Aside0.mk hn
  have HCF := Aside0.mk hcf
  have hmk := Bl.mk_any n hn
  clear hn hcf
  have HB0 := Aside0.mk (Below.refl w.heap.size w)
  go_enter Tryd.func62, Tryd.ntmps62
  go_upto_block 0 with (go_at_call 79; (with_reducible refine (bits_Set_Count.calls _ _ _ HCF.out).mono ?_); rintro e w' ⟨rfl, ⟨nd, rfl⟩⟩)
  clear hmk
  have HR0 := Aside0.mk (Bl.mk_own (w.drewN nd) n HN.out w.heap.size (Nat.le_refl _))
  have HB1 := Aside0.mk (show Below w.heap.size w ((w.drewN nd).alloc (.cells (madeCells #[.int .i64 0] n) 3)) from below_alloc (pw_below_drewN (Below.refl _ _) _) _)
  go_wp2
  go_loopg [0, 3] (Gr.low s0 64).length (fun kq v0 v3 w' => ∃ (s : Nat) (xs : List Nat), v0 = .int .u64 (s : Int) ∧ Aside0 (s < Bt.top) ∧ Aside0 ((Gr.low s 64).length = kq) ∧ Aside0 (xs ++ Gr.low s 64 = Gr.low s0 64) ∧ Aside0 (Kd.R (Kd.int .i64) 3 w' w.heap.size (fun _ => True) v3 (Bl.ints xs)) ∧ Aside0 (Below w.heap.size w w'))
  case atStart => exact ⟨s0, [], rfl, HS0, ⟨rfl⟩, ⟨rfl⟩, ⟨HR0.out⟩, HB1⟩
  case round =>
    clear HR0 HB1 HB0 HCF
    obtain ⟨s, xs, rfl, HS, HK, HX, HR, HB⟩ := hrel
    have HTw := Aside0.mk (Tb.below HT.out HB.out)
    rcases gk with _ | k1
    · have hz : s = 0 := by
        refine Classical.byContradiction fun h0 => ?_
        have h1 := HK.out
        rw [Bl.low_step HS.out h0] at h1
        simp at h1
      subst hz
      have HXE := Aside0.mk (show xs = Gr.low s0 64 from by have := HX.out; rwa [Bl.low_zero, List.append_nil] at this)
      go_wp2
      go_ret
      refine ⟨_, rfl, ?_, by repeat (first | exact HB.out | apply below_drew | apply pw_below_drewN)⟩
      rw [HRE.out, ← HXE.out]
      repeat (first | exact HR.out | apply Kd.R_drew | apply Kd.R_drewN)
    · have h0 : s ≠ 0 := by
        intro e
        have h1 := HK.out
        rw [e, Bl.low_zero] at h1
        simp at h1
      have HLS := Aside0.mk (Bl.low_step HS.out h0)
      have d1 : ((s : Int) != 0) = true := by rw [bne_iff_ne]; omega
      have d2 : ((s : Int) == 0) = false := by rw [beq_eq_false_iff_ne]; omega
      have e1 : IntKind.u64.wrap ((s : Int) - 1) = ((s - 1 : Nat) : Int) := by
        rw [show (s : Int) - 1 = ((s - 1 : Nat) : Int) from by omega]
        exact Bt.wrapU (by have := HS.out; omega)
      have e2 : Go.bits .and .u64 (s : Int) ((s - 1 : Nat) : Int) = ((s &&& (s - 1) : Nat) : Int) := Bt.and_nat HS.out (by have := HS.out; omega)
      have HFF := Aside0.mk (show bits_Set_First.f (s : Int) = some ((Lib.ctz 64 s : Nat) : Int) from by
        unfold bits_Set_First.f bits_TrailingZeros64.f
        rw [if_neg (by omega), if_pos (by omega), if_pos (by have := HS.out; unfold Bt.top at this; omega)]
        simp)
      have HXL := Aside0.mk (show xs.length < 64 from by
        have h1 := Bl.low_len s0
        rw [← HX.out, HLS.out] at h1
        simp at h1
        omega)
      obtain ⟨A0, c0, ev⟩ := Kd.R_slice HR.out
      subst ev
      obtain ⟨N, hN⟩ : ∃ N, N = (Bl.ints xs).length := ⟨_, rfl⟩
      rw [← hN] at HR
      try rw [← hN]
      have HNN := Aside0.mk hN
      clear hN
      generalize hq : Lib.ctz 64 s = q at *
      clear hq h0
      go_wp2_with (first
        | (go_at_call 46; (with_reducible refine (bits_Set_First.calls _ _ _ HTw.out HFF.out).mono ?_); rintro e w4 ⟨rfl, ⟨nd4, rfl⟩⟩)
        | (at_builtin; refine Kd.R_append (Kd.int .i64) (w0 := w) w.heap.size rfl (.tmp 13) (.tmp 16) 28 3 (.int .i64 0) 8 rfl Tryd.underlying28 info3 rfl (by decide) (by omega) (.slice A0 N c0) (Bl.ints xs) (q : Int) [.int .i64 (q : Int)] (fun _ => True) (fun _ => False) rfl (by first | (go_simp; done) | (go_simp; rfl)) ?aP (fun _ hk => hk.elim) ?aF ?aO ?aB ?aS ?aL ?_; (case aP => exact rfl); (case aB => exact pw_below_drewN HB.out nd4); (case aF => exact (fun _ _ => trivial)); (case aO => exact Kd.R_drewN HR.out nd4); (case aS => exact below_size (pw_below_drewN HB.out nd4)); (case aL => have h1 := HXL.out; rw [Bl.ints_len]; omega); intro v7 w7 ho hb hg hat; have HV7 := Aside0.mk ho; have HB7 := Aside0.mk hb; clear ho hb hg hat))
      go_roundg k1
      case measure => omega
      case rel =>
        have h3 := HV7.out
        rw [Bl.ints_snoc] at h3
        refine ⟨s &&& (s - 1), xs ++ [q], rfl, ⟨Bt.lt_and' HS.out⟩, ⟨?_⟩, ⟨?_⟩, ⟨h3⟩, HB7⟩
        · have h4 := HK.out
          rw [HLS.out] at h4
          simpa using h4
        · rw [← HX.out, HLS.out]
          simp


/-! ### bits_Set_Has: function 49 -/
def bits_Set_Has.f (a0 : Int) (a1 : Int) : Option (Bool) := (bits_one.f a1).bind fun t147 => (some ((Go.bits .and .u64 a0 t147) != 0))
set_option maxHeartbeats 8000000 in
set_option maxRecDepth 100000 in
theorem bits_Set_Has.calls (a0 : Int) (a1 : Int) (r : Bool) (w : World) (h : bits_Set_Has.f a0 a1 = some r) :
    Calls Tryd.prog 49 #[.int .u64 a0,.int .i64 a1] w fun e w'=>e = .returned (.bool r) ∧ Drawn0 w w':=by
  have H : ((bits_one.f a1).bind fun t147=>(some ((Go.bits .and .u64 a0 t147) != 0))) = some r:=h;clear h;replace H:=bm_ H;obtain ⟨t147,A30,H⟩:=H;replace H : (some ((Go.bits .and .u64 a0 t147) != 0)) = some r:=H;have A3:=A0_ A30;clear A30;obtain rfl:=Option.some.inj H;go_enter Tryd.func49,Tryd.ntmps49;go_wp2_with (first|((with_reducible refine gate_callee (f:=74) rfl ?_);refine goesL_ (some 7) rfl rfl Tryd.func74 (by kernel_rfl) rfl #[.int .i64 a1] rfl (by first|(simp only [List.map_toArray,List.map_cons,List.map_nil] <;> rfl)|rfl|(simp only [List.length_drop,List.length_take];rfl)) ?_;(with_reducible refine (bits_one.calls a1 t147 _ A3.out).mono ?_);rintro e w' ⟨rfl,⟨nd,rfl⟩⟩;refine ⟨_,rfl,?_⟩));go_ret;exact ⟨by first|rfl|(simp;done)|(simp [*];done),by repeat (first|exact Drawn0.refl _|apply Drawn0.step)⟩

/-! ### graph_share: function 87 -/
def graph_share.f (a0_0 : Int) (a0_1 : Int) : Option (Int) := some (mn (mx a0_1 0) 1048576)
set_option maxHeartbeats 8000000 in
set_option maxRecDepth 100000 in
theorem graph_share.calls (a0_0 : Int) (a0_1 : Int) (r : Int) (w : World) (h : graph_share.f a0_0 a0_1 = some r) :
    Calls Tryd.prog 87 #[.agg #[.int .i64 a0_0,.int .i64 a0_1]] w fun e w'=>e = .returned (.int .i64 r) ∧ Below w.heap.size w w':=by
  have hu68:=Tryd.underlying68;have HB:=A0_ (Below.refl w.heap.size w);have H : (some (mn (mx a0_1 0) 1048576)) = some r:=h;clear h;obtain ⟨ji2,hji2⟩ : ∃ j_ : Int,(mx a0_1 0) = j_:=⟨_,rfl⟩;replace H : (some (mn (ji2) 1048576)) = some r:=by first|(rw [hji2] at H;exact H)|(simp only [hji2] at H ⊢;exact H)
  (try (have hji2l : 0 ≤ ji2:=by (rw [← hji2];unfold mx;(repeat' split) <;> omega)));(try (have hji2m : 0 ≤ ji2:=by omega));have hji2_ : (if a0_1 < 0 then 0 else a0_1) = ji2:=hji2;obtain ⟨ji3,hji3⟩ : ∃ j_ : Int,(mn (ji2) 1048576) = j_:=⟨_,rfl⟩;replace H : (some ji3) = some r:=by first|(rw [hji3] at H;exact H)|(simp only [hji3] at H ⊢;exact H)
  have hji3_ : (if 1048576 < (ji2) then 1048576 else (ji2)) = ji3:=hji3;obtain rfl:=Option.some.inj H;go_enter Tryd.func87,Tryd.ntmps87;go_wp2_with (first|((with_reducible refine gate_dst (N:=1) rfl ?_);refine box_event ?hg (N:=1) ?hd (cs:=#[.int .i64 a0_0,.int .i64 a0_1]) (t:=68) ?hr ?_;(case hd=>rfl);(case hg=>rfl);(case hr=>first|(go_simp;done)|(go_simp;rfl));intro gb148 hg w4 hbox hb;have n0_:=A0_ (below_step (by repeat (first|(with_reducible first|exact HB.out|apply ba_|apply pN_|apply b1_)|exact HB.out)) hb);have n1_:=A0_ (hbox);have n2_:=A0_ ((by rw [hg];exact (below_size (by repeat (first|(with_reducible first|exact HB.out|apply ba_|apply pN_|apply b1_)|exact HB.out))) : w.heap.size ≤ gb148));have n3_:=A0_ ((by rw [hg];exact (below_size (by repeat (first|(with_reducible first|exact HB.out|apply ba_|apply pN_|apply b1_)|exact HB.out))) : w.heap.size ≤ gb148));clear HB;have HB:=n0_;have BK148:=n1_;have GW148:=n2_;have GE148:=n3_;clear n0_ n1_ n2_ n3_;clear hb hbox hg;obtain ⟨hcz5_0,hcz5_1,hfz5_0,hfz5_1⟩:=cz2_ (w:=w4) BK148.out));go_ret;exact ⟨by first|rfl|(simp [errW_none,errW_some] <;> rfl)|(simp only [← hji2,← hji3];first|rfl|(simp [errW_none,errW_some] <;> rfl))|(simp [*,errW_none,errW_some] <;> rfl),by repeat (first|(with_reducible first|exact HB.out|apply ba_|apply pN_|apply b1_|refine bs_ ?_ GE148.out)|exact HB.out)⟩

/-! ### graph_comes: function 81 -/
def graph_comes.l0 : Nat → Int → Int → List (S68) → Int → Int → Int → List (S68) → Option (Bool)
  | 0,_,_,_,_,_,_,_=>none
  | k + 1,x1,x5,x9,x10,x11,x150000,x150001=>if x11 < x10 then (if 0 ≤ x11 then (if x11 < (x9.length : Int) then ((bits_Set_Has.f x1 ((rd_T68 x9 x11).f0)).bind fun t152=>(if t152 = true then ((graph_share.f ((rd_T68 x9 x11).f0) ((rd_T68 x9 x11).f1)).bind fun t153=>(graph_comes.l0 k x1 (wrap64 (x5 + t153)) x9 x10 (wrap64 (x11 + 1)) x150000 x150001)) else (graph_comes.l0 k x1 x5 x9 x10 (wrap64 (x11 + 1)) x150000 x150001))) else (none)) else (none)) else (some (decide (x5 ≥ x150000)))
def graph_comes.f (k : Nat) (a0_0 : Int) (l0_1 : List (S68)) (a1 : Int) : Option (Bool) := graph_comes.l0 k a1 0 l0_1 (l0_1.length : Int) 0 a0_0 l0_1
theorem graph_comes.mono_l : ∀ k, (∀ y0 y1 y2 y3 y4 y5 y6, LeO (graph_comes.l0 k y0 y1 y2 y3 y4 y5 y6) (graph_comes.l0 (k + 1) y0 y1 y2 y3 y4 y5 y6))
  | 0=>fun _ _ _ _ _ _ _ r h=>by simp [graph_comes.l0] at h
  | k + 1=>by
    have ih0:=graph_comes.mono_l k
    · intro y0 y1 y2 y3 y4 y5 y6
      unfold graph_comes.l0
      repeat' first
      | (with_reducible exact ih0 _ _ _ _ _ _ _)
      | (with_reducible exact LeO.refl _)
      | (with_reducible exact LeO.none _)
      | (with_reducible refine LeO.ite ?_ ?_)
      | (with_reducible refine LeO.bind ?_ (fun _=>?_))
      | exact ih0 _ _ _ _ _ _ _
      | exact LeO.none _
      | refine LeO.ite ?_ ?_
      | refine LeO.bind ?_ (fun _=>?_)
theorem graph_comes.mono : ∀ a0 a1 a2 k, LeO (graph_comes.f k a0 a1 a2) (graph_comes.f (k + 1) a0 a1 a2) := by
  intro a0 a1 a2 k
  have ih0:=graph_comes.mono_l k;unfold graph_comes.f
  repeat' first
      | (with_reducible exact ih0 _ _ _ _ _ _ _)
      | (with_reducible exact LeO.refl _)
      | (with_reducible exact LeO.none _)
      | (with_reducible refine LeO.ite ?_ ?_)
      | (with_reducible refine LeO.bind ?_ (fun _=>?_))
      | exact ih0 _ _ _ _ _ _ _
      | exact LeO.none _
      | refine LeO.ite ?_ ?_
      | refine LeO.bind ?_ (fun _=>?_)
set_option maxHeartbeats 8000000 in
set_option maxRecDepth 100000 in
theorem graph_comes.calls (k : Nat) (a0_0 : Int) (A0_1 : Option Addr) (c0_1 : Nat) (l0_1 : List (S68)) (a1 : Int) (r : Bool) (w : World) (hr0_1 : Kd.C k68 w A0_1 l0_1.length l0_1) (hc0_1 : l0_1.length ≤ c0_1) (h : graph_comes.f k a0_0 l0_1 a1 = some r) :
    Calls Tryd.prog 81 #[.agg #[.int .i64 a0_0,.slice A0_1 l0_1.length c0_1],.int .u64 a1] w fun e w'=>e = .returned (.bool r) ∧ Below w.heap.size w w':=by
  have hu66:=Tryd.underlying66;have hu68:=Tryd.underlying68;have HR0_1:=A0_ hr0_1;have HC0_1:=A0_ hc0_1;clear hr0_1 hc0_1;have HB:=A0_ (Below.refl w.heap.size w);have H : (graph_comes.l0 k a1 0 l0_1 (l0_1.length : Int) 0 a0_0 l0_1) = some r:=h;clear h;have H':=A0_ H;clear H;go_enter Tryd.func81,Tryd.ntmps81;go_wp2_with (first|((with_reducible refine gate_dst (N:=2) rfl ?_);refine box_event ?hg (N:=2) ?hd (cs:=#[.int .i64 a0_0,.slice A0_1 l0_1.length c0_1]) (t:=66) ?hr ?_;(case hd=>rfl);(case hg=>rfl);(case hr=>first|(go_simp;done)|(go_simp;rfl));intro gb149 hg w3 hbox hb;have n0_:=A0_ (below_step (by repeat (first|(with_reducible first|exact HB.out|apply ba_|apply pN_|apply b1_)|exact HB.out)) hb);have n1_:=A0_ (hbox);have n2_:=A0_ ((by rw [hg];exact (below_size (by repeat (first|(with_reducible first|exact HB.out|apply ba_|apply pN_|apply b1_)|exact HB.out))) : w.heap.size ≤ gb149));have n3_:=A0_ ((by rw [hg];exact (below_size (by repeat (first|(with_reducible first|exact HB.out|apply ba_|apply pN_|apply b1_)|exact HB.out))) : w.heap.size ≤ gb149));clear HB;have HB:=n0_;have BK149:=n1_;have GW149:=n2_;have GE149:=n3_;clear n0_ n1_ n2_ n3_;clear hb hbox hg;obtain ⟨hcz4_0,hcz4_1,hfz4_0,hfz4_1⟩:=cz2_ (w:=w3) BK149.out))
  go_loopg [5,11] k (fun kq v5 v11 w'=>∃ (x5_1 : Int) (x11_1 : Int),v5 = .int .i64 x5_1 ∧ v11 = .int .i64 x11_1 ∧ Aside0 (graph_comes.l0 kq a1 x5_1 l0_1 (l0_1.length : Int) x11_1 a0_0 l0_1 = some r) ∧ Aside0 (kq ≤ k) ∧ Aside0 (w'.heap[gb149]? = some (.cells #[.int .i64 a0_0,(.slice A0_1 l0_1.length c0_1)] 66 (0,0))) ∧ Aside0 (Below w.heap.size w w'))
  case atStart=>exact ⟨(0),(0),(by first|rfl|(simp;done)|(simp [*];done)),(by first|rfl|(simp;done)|(simp [*];done)),H',⟨Nat.le_refl _⟩,⟨by (with_reducible repeat first|refine bN_ ?_ _|refine bD_ ?_|refine bA_ ?_ _);exact BK149.out⟩,⟨by repeat (first|(with_reducible first|exact HB.out|apply ba_|apply pN_|apply b1_|refine bs_ ?_ GE149.out)|exact HB.out)⟩⟩
  case round =>
    clear H';(try clear p2);(try clear hcz4_0);(try clear hcz4_1);(try clear hfz4_0);(try clear hfz4_1);obtain ⟨x5_1,x11_1,rfl,rfl,HA,HK1,BK149,HB⟩:=hrel
    cases gk with
    | zero=>exact absurd HA.out (by simp [graph_comes.l0])
    | succ k1 =>
      have H:=HA.out;clear HA;simp only [graph_comes.l0] at H;by_cases c5 : x11_1 < (l0_1.length : Int);rotate_left
      · rw [if_neg c5] at H
        have c5b0 : decide (x11_1 < (l0_1.length : Int)) = false:=decide_eq_false c5;clear c5;obtain rfl:=Option.some.inj H;obtain ⟨hcz18_0,hcz18_1,hfz18_0,hfz18_1⟩:=cz2_ (w:=wr) BK149.out;go_wp2;go_ret;exact ⟨by first|rfl|(simp [errW_none,errW_some] <;> rfl)|(simp [*,errW_none,errW_some] <;> rfl),by repeat (first|(with_reducible first|exact HB.out|apply ba_|apply pN_|apply b1_|refine bs_ ?_ GE149.out)|exact HB.out)⟩

      rw [if_pos c5] at H;have c5b0 : decide (x11_1 < (l0_1.length : Int)) = true:=decide_eq_true c5;clear c5;by_cases c6 : 0 ≤ x11_1;rotate_left
      · rw [if_neg c6] at H
        exact absurd H (by simp)
      rw [if_pos c6] at H;have c6b0 : decide (0 ≤ x11_1) = true:=decide_eq_true c6;clear c6;by_cases c7 : x11_1 < (l0_1.length : Int);rotate_left
      · rw [if_neg c7] at H
        exact absurd H (by simp)
      rw [if_pos c7] at H;have c7b0 : decide (x11_1 < (l0_1.length : Int)) = true:=decide_eq_true c7;clear c7;replace H:=bm_ H;obtain ⟨t152,A80,H⟩:=H;replace H : (if t152 = true then ((graph_share.f ((rd_T68 l0_1 x11_1).f0) ((rd_T68 l0_1 x11_1).f1)).bind fun t153=>(graph_comes.l0 k1 a1 (wrap64 (x5_1 + t153)) l0_1 (l0_1.length : Int) (wrap64 (x11_1 + 1)) a0_0 l0_1)) else (graph_comes.l0 k1 a1 x5_1 l0_1 (l0_1.length : Int) (wrap64 (x11_1 + 1)) a0_0 l0_1)) = some r:=H;have A8:=A0_ A80;clear A80;by_cases c9 : t152 = true;rotate_left
      · replace c9:=Bool.eq_false_iff.mpr c9
        subst c9;have H1 : (graph_comes.l0 k1 a1 x5_1 l0_1 (l0_1.length : Int) (wrap64 (x11_1 + 1)) a0_0 l0_1) = some r:=by rw [if_neg (show ¬ (false = true) by decide)] at H;exact H
        clear H;have H:=H1;clear H1;have H':=A0_ H;clear H;have p150 : 0 ≤ (x11_1 : Int):=of_decide_eq_true (by first|(with_reducible assumption)|assumption);have q150 : x11_1 < (l0_1.length : Int):=of_decide_eq_true (by first|(with_reducible assumption)|assumption);obtain ⟨ad150,e150,hx150_0,hx150_1⟩:=at_T68 HR0_1.out x11_1 p150 q150;cases e150;replace hx150_0:=(HB.out.cell (bl_ w _ hx150_0)).trans hx150_0;replace hx150_1:=(HB.out.cell (bl_ w _ hx150_1)).trans hx150_1;replace p150:=eq_true p150;replace q150:=eq_true q150;go_wp2_with (first|((with_reducible refine gate_dst (N:=7) rfl ?_);refine box_event ?hg (N:=7) ?hd (cs:=#[.int .i64 0,.int .i64 0]) (t:=68) ?hr ?_;(case hd=>rfl);(case hg=>rfl);(case hr=>first|(go_simp;done)|(go_simp;rfl));intro gb151 hg w15 hbox hb;have n0_:=A0_ (blk_below (g:=gb149) (o:=.cells #[.int .i64 a0_0,.slice (some ad150) l0_1.length c0_1] 66 (0,0)) (by (with_reducible repeat first|refine bN_ ?_ _|refine bD_ ?_|refine bA_ ?_ _);exact BK149.out) hb);have n1_:=A0_ (below_step (by repeat (first|(with_reducible first|exact HB.out|apply ba_|apply pN_|apply b1_|refine bs_ ?_ GE149.out)|exact HB.out)) hb);have n2_:=A0_ (hbox);have n3_:=A0_ ((by rw [hg];exact (below_size (by repeat (first|(with_reducible first|exact HB.out|apply ba_|apply pN_|apply b1_|refine bs_ ?_ GE149.out)|exact HB.out))) : w.heap.size ≤ gb151));have n4_:=A0_ ((by rw [hg];exact (below_size (by repeat (first|(with_reducible first|exact HB.out|apply ba_|apply pN_|apply b1_|refine bs_ ?_ GE149.out)|exact HB.out))) : w.heap.size ≤ gb151));have n5_:=A0_ ((by rw [hg];exact Nat.ne_of_lt (blk_lt (g:=gb149) (o:=.cells #[.int .i64 a0_0,.slice (some ad150) l0_1.length c0_1] 66 (0,0)) (by (with_reducible repeat first|refine bN_ ?_ _|refine bD_ ?_|refine bA_ ?_ _);exact BK149.out)) : gb149 ≠ gb151));have n6_:=A0_ ((by rw [hg];exact Nat.ne_of_gt (blk_lt (g:=gb149) (o:=.cells #[.int .i64 a0_0,.slice (some ad150) l0_1.length c0_1] 66 (0,0)) (by (with_reducible repeat first|refine bN_ ?_ _|refine bD_ ?_|refine bA_ ?_ _);exact BK149.out)) : gb151 ≠ gb149));clear BK149;clear HB;have BK149:=n0_;have HB:=n1_;have BK151:=n2_;have GW151:=n3_;have GE151:=n4_;have NB149_151:=n5_;have NB151_149:=n6_;clear n0_ n1_ n2_ n3_ n4_ n5_ n6_;clear hb hbox hg;have hnb16:=NB151_149.out;have hnc16:=NB149_151.out;obtain ⟨hcz17_0,hcz17_1,hfz17_0,hfz17_1⟩:=cz2_ (w:=w15) BK151.out)|((with_reducible refine gate_callee (f:=49) rfl ?_);refine goesL_ (some 18) rfl rfl Tryd.func49 (by kernel_rfl) rfl #[.int .u64 a1,.int .i64 ((rd_T68 l0_1 x11_1).f0)] rfl (by first|(simp only [List.map_toArray,List.map_cons,List.map_nil] <;> rfl)|rfl|(simp only [List.length_drop,List.length_take];rfl)) ?_;(with_reducible refine (bits_Set_Has.calls a1 ((rd_T68 l0_1 x11_1).f0) false _ A8.out).mono ?_);rintro e w' ⟨rfl,⟨nd,rfl⟩⟩;refine ⟨_,rfl,?_⟩))
        go_roundg k1
        case measure=>have:=HK1.out;omega
        case rel=>exact ⟨(x5_1),(wrap64 (x11_1 + 1)),(by first|rfl|(simp;done)|(simp [*];done)),(by first|rfl|(simp;done)|(simp [*];done)),H',⟨by have:=HK1.out;omega⟩,⟨by (with_reducible repeat first|refine bN_ ?_ _|refine bD_ ?_|refine bA_ ?_ _);refine blk_far ?_ NB149_151.out _;(with_reducible repeat first|refine bN_ ?_ _|refine bD_ ?_|refine bA_ ?_ _);refine blk_far ?_ NB149_151.out _;(with_reducible repeat first|refine bN_ ?_ _|refine bD_ ?_|refine bA_ ?_ _);exact BK149.out⟩,⟨by repeat (first|(with_reducible first|exact HB.out|apply ba_|apply pN_|apply b1_|refine bs_ ?_ GE149.out|refine bs_ ?_ GE151.out)|exact HB.out)⟩⟩
      subst c9;have H1 : ((graph_share.f ((rd_T68 l0_1 x11_1).f0) ((rd_T68 l0_1 x11_1).f1)).bind fun t153=>(graph_comes.l0 k1 a1 (wrap64 (x5_1 + t153)) l0_1 (l0_1.length : Int) (wrap64 (x11_1 + 1)) a0_0 l0_1)) = some r:=by rw [if_pos rfl] at H;exact H
      clear H;have H:=H1;clear H1;replace H:=bm_ H;obtain ⟨t153,A100,H⟩:=H;replace H : (graph_comes.l0 k1 a1 (wrap64 (x5_1 + t153)) l0_1 (l0_1.length : Int) (wrap64 (x11_1 + 1)) a0_0 l0_1) = some r:=H;have A10:=A0_ A100;clear A100;have H':=A0_ H;clear H;have p150 : 0 ≤ (x11_1 : Int):=of_decide_eq_true (by first|(with_reducible assumption)|assumption);have q150 : x11_1 < (l0_1.length : Int):=of_decide_eq_true (by first|(with_reducible assumption)|assumption);obtain ⟨ad150,e150,hx150_0,hx150_1⟩:=at_T68 HR0_1.out x11_1 p150 q150;cases e150;replace hx150_0:=(HB.out.cell (bl_ w _ hx150_0)).trans hx150_0;replace hx150_1:=(HB.out.cell (bl_ w _ hx150_1)).trans hx150_1;replace p150:=eq_true p150;replace q150:=eq_true q150;go_wp2_with (first|((with_reducible refine gate_dst (N:=7) rfl ?_);refine box_event ?hg (N:=7) ?hd (cs:=#[.int .i64 0,.int .i64 0]) (t:=68) ?hr ?_;(case hd=>rfl);(case hg=>rfl);(case hr=>first|(go_simp;done)|(go_simp;rfl));intro gb151 hg w11 hbox hb;have n0_:=A0_ (blk_below (g:=gb149) (o:=.cells #[.int .i64 a0_0,.slice (some ad150) l0_1.length c0_1] 66 (0,0)) (by (with_reducible repeat first|refine bN_ ?_ _|refine bD_ ?_|refine bA_ ?_ _);exact BK149.out) hb);have n1_:=A0_ (below_step (by repeat (first|(with_reducible first|exact HB.out|apply ba_|apply pN_|apply b1_|refine bs_ ?_ GE149.out)|exact HB.out)) hb);have n2_:=A0_ (hbox);have n3_:=A0_ ((by rw [hg];exact (below_size (by repeat (first|(with_reducible first|exact HB.out|apply ba_|apply pN_|apply b1_|refine bs_ ?_ GE149.out)|exact HB.out))) : w.heap.size ≤ gb151));have n4_:=A0_ ((by rw [hg];exact (below_size (by repeat (first|(with_reducible first|exact HB.out|apply ba_|apply pN_|apply b1_|refine bs_ ?_ GE149.out)|exact HB.out))) : w.heap.size ≤ gb151));have n5_:=A0_ ((by rw [hg];exact Nat.ne_of_lt (blk_lt (g:=gb149) (o:=.cells #[.int .i64 a0_0,.slice (some ad150) l0_1.length c0_1] 66 (0,0)) (by (with_reducible repeat first|refine bN_ ?_ _|refine bD_ ?_|refine bA_ ?_ _);exact BK149.out)) : gb149 ≠ gb151));have n6_:=A0_ ((by rw [hg];exact Nat.ne_of_gt (blk_lt (g:=gb149) (o:=.cells #[.int .i64 a0_0,.slice (some ad150) l0_1.length c0_1] 66 (0,0)) (by (with_reducible repeat first|refine bN_ ?_ _|refine bD_ ?_|refine bA_ ?_ _);exact BK149.out)) : gb151 ≠ gb149));clear BK149;clear HB;have BK149:=n0_;have HB:=n1_;have BK151:=n2_;have GW151:=n3_;have GE151:=n4_;have NB149_151:=n5_;have NB151_149:=n6_;clear n0_ n1_ n2_ n3_ n4_ n5_ n6_;clear hb hbox hg;have hnb12:=NB151_149.out;have hnc12:=NB149_151.out;obtain ⟨hcz13_0,hcz13_1,hfz13_0,hfz13_1⟩:=cz2_ (w:=w11) BK151.out)|((with_reducible refine gate_callee (f:=49) rfl ?_);refine goesL_ (some 18) rfl rfl Tryd.func49 (by kernel_rfl) rfl #[.int .u64 a1,.int .i64 ((rd_T68 l0_1 x11_1).f0)] rfl (by first|(simp only [List.map_toArray,List.map_cons,List.map_nil] <;> rfl)|rfl|(simp only [List.length_drop,List.length_take];rfl)) ?_;(with_reducible refine (bits_Set_Has.calls a1 ((rd_T68 l0_1 x11_1).f0) true _ A8.out).mono ?_);rintro e w' ⟨rfl,⟨nd,rfl⟩⟩;refine ⟨_,rfl,?_⟩)|((with_reducible refine gate_callee (f:=87) rfl ?_);refine goesL_ (some 21) rfl rfl Tryd.func87 (by kernel_rfl) rfl #[.agg #[.int .i64 ((rd_T68 l0_1 x11_1).f0),.int .i64 ((rd_T68 l0_1 x11_1).f1)]] rfl (by first|(simp only [List.map_toArray,List.map_cons,List.map_nil] <;> rfl)|rfl|(simp only [List.length_drop,List.length_take];rfl)) ?_;(with_reducible refine (graph_share.calls ((rd_T68 l0_1 x11_1).f0) ((rd_T68 l0_1 x11_1).f1) t153 _ A10.out).mono ?_);rintro e w14 ⟨rfl,hb⟩;refine ⟨_,rfl,?_⟩;have n0_:=A0_ (blk_below (g:=gb149) (o:=.cells #[.int .i64 a0_0,.slice (some ad150) l0_1.length c0_1] 66 (0,0)) (by (with_reducible repeat first|refine bN_ ?_ _|refine bD_ ?_|refine bA_ ?_ _);refine blk_far ?_ NB149_151.out _;(with_reducible repeat first|refine bN_ ?_ _|refine bD_ ?_|refine bA_ ?_ _);refine blk_far ?_ NB149_151.out _;(with_reducible repeat first|refine bN_ ?_ _|refine bD_ ?_|refine bA_ ?_ _);exact BK149.out) hb);have n1_:=A0_ (blk_below (g:=gb151) (o:=.cells #[.int .i64 ((rd_T68 l0_1 x11_1).f0),.int .i64 ((rd_T68 l0_1 x11_1).f1)] 68 (0,0)) (by (with_reducible repeat first|refine bN_ ?_ _|refine bD_ ?_|refine bA_ ?_ _);refine blk_put (cs:=#[.int .i64 ((rd_T68 l0_1 x11_1).f0),.int .i64 0]) ?_ 1 _ rfl;(with_reducible repeat first|refine bN_ ?_ _|refine bD_ ?_|refine bA_ ?_ _);refine blk_put (cs:=#[.int .i64 0,.int .i64 0]) ?_ 0 _ rfl;(with_reducible repeat first|refine bN_ ?_ _|refine bD_ ?_|refine bA_ ?_ _);exact BK151.out) hb);have n2_:=A0_ (below_step (by repeat (first|(with_reducible first|exact HB.out|apply ba_|apply pN_|apply b1_|refine bs_ ?_ GE149.out|refine bs_ ?_ GE151.out)|exact HB.out)) hb);clear BK149;clear BK151;clear HB;have BK149:=n0_;have BK151:=n1_;have HB:=n2_;clear n0_ n1_ n2_;(try clear hb);(try clear hb2);(try clear hk);(try clear hi)))
      go_roundg k1
      case measure=>have:=HK1.out;omega
      case rel=>exact ⟨(wrap64 (x5_1 + t153)),(wrap64 (x11_1 + 1)),(by first|rfl|(simp;done)|(simp [*];done)),(by first|rfl|(simp;done)|(simp [*];done)),H',⟨by have:=HK1.out;omega⟩,⟨by (with_reducible repeat first|refine bN_ ?_ _|refine bD_ ?_|refine bA_ ?_ _);exact BK149.out⟩,⟨by repeat (first|(with_reducible first|exact HB.out|apply ba_|apply pN_|apply b1_|refine bs_ ?_ GE149.out|refine bs_ ?_ GE151.out)|exact HB.out)⟩⟩
-- NOT PRINTED: function 89 (api_Term_89)

-- NOT PRINTED: function 84 (api_Term_84)

end Go.Proofs.YtbfbegleffkafaaDoor.PGraphTells
