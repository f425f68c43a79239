/- Go functions as plain Lean functions, and that the calls come to them. Conditions: none. (Written by a program of this session.) -/
import Derived.Test.YtjcjhmnfknenlaaDoorPRightNilx0
namespace Go.Proofs.YtjcjhmnfknenlaaDoor.PRightNil
open Go.RowKit Go.Proofs.YtjcjhmnfknenlaaDoorW.PrintWords Go.Proofs.YtjcjhmnfknenlaaDoorW.PrintLast Go.Proofs.YtjcjhmnfknenlaaDoorW.PrintMore
attribute [local go_sem] max2_int min2_int max_two min_two max_three min_three max_four min_four   -- for this text's walks alone
set_option linter.unusedVariables false
set_option linter.unusedSimpArgs false

/-! ### bits_OnesCount64: function 38 -/
def bits_OnesCount64.f (a0 : Int) : Option (Int) := some (Go.bits .and .i64 (wrap64 (IntKind.u64.wrap ((IntKind.u64.wrap ((IntKind.u64.wrap ((Go.bits .and .u64 (IntKind.u64.wrap (((IntKind.u64.wrap ((Go.bits .and .u64 ((IntKind.u64.wrap ((Go.bits .and .u64 (a0 / 2) 6148914691236517205) + (Go.bits .and .u64 a0 6148914691236517205))) / 4) 3689348814741910323) + (Go.bits .and .u64 (IntKind.u64.wrap ((Go.bits .and .u64 (a0 / 2) 6148914691236517205) + (Go.bits .and .u64 a0 6148914691236517205))) 3689348814741910323))) / 16) + (IntKind.u64.wrap ((Go.bits .and .u64 ((IntKind.u64.wrap ((Go.bits .and .u64 (a0 / 2) 6148914691236517205) + (Go.bits .and .u64 a0 6148914691236517205))) / 4) 3689348814741910323) + (Go.bits .and .u64 (IntKind.u64.wrap ((Go.bits .and .u64 (a0 / 2) 6148914691236517205) + (Go.bits .and .u64 a0 6148914691236517205))) 3689348814741910323))))) 1085102592571150095) + ((Go.bits .and .u64 (IntKind.u64.wrap (((IntKind.u64.wrap ((Go.bits .and .u64 ((IntKind.u64.wrap ((Go.bits .and .u64 (a0 / 2) 6148914691236517205) + (Go.bits .and .u64 a0 6148914691236517205))) / 4) 3689348814741910323) + (Go.bits .and .u64 (IntKind.u64.wrap ((Go.bits .and .u64 (a0 / 2) 6148914691236517205) + (Go.bits .and .u64 a0 6148914691236517205))) 3689348814741910323))) / 16) + (IntKind.u64.wrap ((Go.bits .and .u64 ((IntKind.u64.wrap ((Go.bits .and .u64 (a0 / 2) 6148914691236517205) + (Go.bits .and .u64 a0 6148914691236517205))) / 4) 3689348814741910323) + (Go.bits .and .u64 (IntKind.u64.wrap ((Go.bits .and .u64 (a0 / 2) 6148914691236517205) + (Go.bits .and .u64 a0 6148914691236517205))) 3689348814741910323))))) 1085102592571150095) / 256))) + ((IntKind.u64.wrap ((Go.bits .and .u64 (IntKind.u64.wrap (((IntKind.u64.wrap ((Go.bits .and .u64 ((IntKind.u64.wrap ((Go.bits .and .u64 (a0 / 2) 6148914691236517205) + (Go.bits .and .u64 a0 6148914691236517205))) / 4) 3689348814741910323) + (Go.bits .and .u64 (IntKind.u64.wrap ((Go.bits .and .u64 (a0 / 2) 6148914691236517205) + (Go.bits .and .u64 a0 6148914691236517205))) 3689348814741910323))) / 16) + (IntKind.u64.wrap ((Go.bits .and .u64 ((IntKind.u64.wrap ((Go.bits .and .u64 (a0 / 2) 6148914691236517205) + (Go.bits .and .u64 a0 6148914691236517205))) / 4) 3689348814741910323) + (Go.bits .and .u64 (IntKind.u64.wrap ((Go.bits .and .u64 (a0 / 2) 6148914691236517205) + (Go.bits .and .u64 a0 6148914691236517205))) 3689348814741910323))))) 1085102592571150095) + ((Go.bits .and .u64 (IntKind.u64.wrap (((IntKind.u64.wrap ((Go.bits .and .u64 ((IntKind.u64.wrap ((Go.bits .and .u64 (a0 / 2) 6148914691236517205) + (Go.bits .and .u64 a0 6148914691236517205))) / 4) 3689348814741910323) + (Go.bits .and .u64 (IntKind.u64.wrap ((Go.bits .and .u64 (a0 / 2) 6148914691236517205) + (Go.bits .and .u64 a0 6148914691236517205))) 3689348814741910323))) / 16) + (IntKind.u64.wrap ((Go.bits .and .u64 ((IntKind.u64.wrap ((Go.bits .and .u64 (a0 / 2) 6148914691236517205) + (Go.bits .and .u64 a0 6148914691236517205))) / 4) 3689348814741910323) + (Go.bits .and .u64 (IntKind.u64.wrap ((Go.bits .and .u64 (a0 / 2) 6148914691236517205) + (Go.bits .and .u64 a0 6148914691236517205))) 3689348814741910323))))) 1085102592571150095) / 256))) / 65536))) + ((IntKind.u64.wrap ((IntKind.u64.wrap ((Go.bits .and .u64 (IntKind.u64.wrap (((IntKind.u64.wrap ((Go.bits .and .u64 ((IntKind.u64.wrap ((Go.bits .and .u64 (a0 / 2) 6148914691236517205) + (Go.bits .and .u64 a0 6148914691236517205))) / 4) 3689348814741910323) + (Go.bits .and .u64 (IntKind.u64.wrap ((Go.bits .and .u64 (a0 / 2) 6148914691236517205) + (Go.bits .and .u64 a0 6148914691236517205))) 3689348814741910323))) / 16) + (IntKind.u64.wrap ((Go.bits .and .u64 ((IntKind.u64.wrap ((Go.bits .and .u64 (a0 / 2) 6148914691236517205) + (Go.bits .and .u64 a0 6148914691236517205))) / 4) 3689348814741910323) + (Go.bits .and .u64 (IntKind.u64.wrap ((Go.bits .and .u64 (a0 / 2) 6148914691236517205) + (Go.bits .and .u64 a0 6148914691236517205))) 3689348814741910323))))) 1085102592571150095) + ((Go.bits .and .u64 (IntKind.u64.wrap (((IntKind.u64.wrap ((Go.bits .and .u64 ((IntKind.u64.wrap ((Go.bits .and .u64 (a0 / 2) 6148914691236517205) + (Go.bits .and .u64 a0 6148914691236517205))) / 4) 3689348814741910323) + (Go.bits .and .u64 (IntKind.u64.wrap ((Go.bits .and .u64 (a0 / 2) 6148914691236517205) + (Go.bits .and .u64 a0 6148914691236517205))) 3689348814741910323))) / 16) + (IntKind.u64.wrap ((Go.bits .and .u64 ((IntKind.u64.wrap ((Go.bits .and .u64 (a0 / 2) 6148914691236517205) + (Go.bits .and .u64 a0 6148914691236517205))) / 4) 3689348814741910323) + (Go.bits .and .u64 (IntKind.u64.wrap ((Go.bits .and .u64 (a0 / 2) 6148914691236517205) + (Go.bits .and .u64 a0 6148914691236517205))) 3689348814741910323))))) 1085102592571150095) / 256))) + ((IntKind.u64.wrap ((Go.bits .and .u64 (IntKind.u64.wrap (((IntKind.u64.wrap ((Go.bits .and .u64 ((IntKind.u64.wrap ((Go.bits .and .u64 (a0 / 2) 6148914691236517205) + (Go.bits .and .u64 a0 6148914691236517205))) / 4) 3689348814741910323) + (Go.bits .and .u64 (IntKind.u64.wrap ((Go.bits .and .u64 (a0 / 2) 6148914691236517205) + (Go.bits .and .u64 a0 6148914691236517205))) 3689348814741910323))) / 16) + (IntKind.u64.wrap ((Go.bits .and .u64 ((IntKind.u64.wrap ((Go.bits .and .u64 (a0 / 2) 6148914691236517205) + (Go.bits .and .u64 a0 6148914691236517205))) / 4) 3689348814741910323) + (Go.bits .and .u64 (IntKind.u64.wrap ((Go.bits .and .u64 (a0 / 2) 6148914691236517205) + (Go.bits .and .u64 a0 6148914691236517205))) 3689348814741910323))))) 1085102592571150095) + ((Go.bits .and .u64 (IntKind.u64.wrap (((IntKind.u64.wrap ((Go.bits .and .u64 ((IntKind.u64.wrap ((Go.bits .and .u64 (a0 / 2) 6148914691236517205) + (Go.bits .and .u64 a0 6148914691236517205))) / 4) 3689348814741910323) + (Go.bits .and .u64 (IntKind.u64.wrap ((Go.bits .and .u64 (a0 / 2) 6148914691236517205) + (Go.bits .and .u64 a0 6148914691236517205))) 3689348814741910323))) / 16) + (IntKind.u64.wrap ((Go.bits .and .u64 ((IntKind.u64.wrap ((Go.bits .and .u64 (a0 / 2) 6148914691236517205) + (Go.bits .and .u64 a0 6148914691236517205))) / 4) 3689348814741910323) + (Go.bits .and .u64 (IntKind.u64.wrap ((Go.bits .and .u64 (a0 / 2) 6148914691236517205) + (Go.bits .and .u64 a0 6148914691236517205))) 3689348814741910323))))) 1085102592571150095) / 256))) / 65536))) / 4294967296)))) 127)
set_option maxHeartbeats 8000000 in
set_option maxRecDepth 100000 in
theorem bits_OnesCount64.calls (a0 : Int) (r : Int) (w : World) (h : bits_OnesCount64.f a0 = some r) :
    Calls Tryd.prog 38 #[.int .u64 a0] w fun e w'=>e = .returned (.int .i64 r) ∧ Drawn0 w w':=by
  have H : (some (Go.bits .and .i64 (wrap64 (IntKind.u64.wrap ((IntKind.u64.wrap ((IntKind.u64.wrap ((Go.bits .and .u64 (IntKind.u64.wrap (((IntKind.u64.wrap ((Go.bits .and .u64 ((IntKind.u64.wrap ((Go.bits .and .u64 (a0 / 2) 6148914691236517205) + (Go.bits .and .u64 a0 6148914691236517205))) / 4) 3689348814741910323) + (Go.bits .and .u64 (IntKind.u64.wrap ((Go.bits .and .u64 (a0 / 2) 6148914691236517205) + (Go.bits .and .u64 a0 6148914691236517205))) 3689348814741910323))) / 16) + (IntKind.u64.wrap ((Go.bits .and .u64 ((IntKind.u64.wrap ((Go.bits .and .u64 (a0 / 2) 6148914691236517205) + (Go.bits .and .u64 a0 6148914691236517205))) / 4) 3689348814741910323) + (Go.bits .and .u64 (IntKind.u64.wrap ((Go.bits .and .u64 (a0 / 2) 6148914691236517205) + (Go.bits .and .u64 a0 6148914691236517205))) 3689348814741910323))))) 1085102592571150095) + ((Go.bits .and .u64 (IntKind.u64.wrap (((IntKind.u64.wrap ((Go.bits .and .u64 ((IntKind.u64.wrap ((Go.bits .and .u64 (a0 / 2) 6148914691236517205) + (Go.bits .and .u64 a0 6148914691236517205))) / 4) 3689348814741910323) + (Go.bits .and .u64 (IntKind.u64.wrap ((Go.bits .and .u64 (a0 / 2) 6148914691236517205) + (Go.bits .and .u64 a0 6148914691236517205))) 3689348814741910323))) / 16) + (IntKind.u64.wrap ((Go.bits .and .u64 ((IntKind.u64.wrap ((Go.bits .and .u64 (a0 / 2) 6148914691236517205) + (Go.bits .and .u64 a0 6148914691236517205))) / 4) 3689348814741910323) + (Go.bits .and .u64 (IntKind.u64.wrap ((Go.bits .and .u64 (a0 / 2) 6148914691236517205) + (Go.bits .and .u64 a0 6148914691236517205))) 3689348814741910323))))) 1085102592571150095) / 256))) + ((IntKind.u64.wrap ((Go.bits .and .u64 (IntKind.u64.wrap (((IntKind.u64.wrap ((Go.bits .and .u64 ((IntKind.u64.wrap ((Go.bits .and .u64 (a0 / 2) 6148914691236517205) + (Go.bits .and .u64 a0 6148914691236517205))) / 4) 3689348814741910323) + (Go.bits .and .u64 (IntKind.u64.wrap ((Go.bits .and .u64 (a0 / 2) 6148914691236517205) + (Go.bits .and .u64 a0 6148914691236517205))) 3689348814741910323))) / 16) + (IntKind.u64.wrap ((Go.bits .and .u64 ((IntKind.u64.wrap ((Go.bits .and .u64 (a0 / 2) 6148914691236517205) + (Go.bits .and .u64 a0 6148914691236517205))) / 4) 3689348814741910323) + (Go.bits .and .u64 (IntKind.u64.wrap ((Go.bits .and .u64 (a0 / 2) 6148914691236517205) + (Go.bits .and .u64 a0 6148914691236517205))) 3689348814741910323))))) 1085102592571150095) + ((Go.bits .and .u64 (IntKind.u64.wrap (((IntKind.u64.wrap ((Go.bits .and .u64 ((IntKind.u64.wrap ((Go.bits .and .u64 (a0 / 2) 6148914691236517205) + (Go.bits .and .u64 a0 6148914691236517205))) / 4) 3689348814741910323) + (Go.bits .and .u64 (IntKind.u64.wrap ((Go.bits .and .u64 (a0 / 2) 6148914691236517205) + (Go.bits .and .u64 a0 6148914691236517205))) 3689348814741910323))) / 16) + (IntKind.u64.wrap ((Go.bits .and .u64 ((IntKind.u64.wrap ((Go.bits .and .u64 (a0 / 2) 6148914691236517205) + (Go.bits .and .u64 a0 6148914691236517205))) / 4) 3689348814741910323) + (Go.bits .and .u64 (IntKind.u64.wrap ((Go.bits .and .u64 (a0 / 2) 6148914691236517205) + (Go.bits .and .u64 a0 6148914691236517205))) 3689348814741910323))))) 1085102592571150095) / 256))) / 65536))) + ((IntKind.u64.wrap ((IntKind.u64.wrap ((Go.bits .and .u64 (IntKind.u64.wrap (((IntKind.u64.wrap ((Go.bits .and .u64 ((IntKind.u64.wrap ((Go.bits .and .u64 (a0 / 2) 6148914691236517205) + (Go.bits .and .u64 a0 6148914691236517205))) / 4) 3689348814741910323) + (Go.bits .and .u64 (IntKind.u64.wrap ((Go.bits .and .u64 (a0 / 2) 6148914691236517205) + (Go.bits .and .u64 a0 6148914691236517205))) 3689348814741910323))) / 16) + (IntKind.u64.wrap ((Go.bits .and .u64 ((IntKind.u64.wrap ((Go.bits .and .u64 (a0 / 2) 6148914691236517205) + (Go.bits .and .u64 a0 6148914691236517205))) / 4) 3689348814741910323) + (Go.bits .and .u64 (IntKind.u64.wrap ((Go.bits .and .u64 (a0 / 2) 6148914691236517205) + (Go.bits .and .u64 a0 6148914691236517205))) 3689348814741910323))))) 1085102592571150095) + ((Go.bits .and .u64 (IntKind.u64.wrap (((IntKind.u64.wrap ((Go.bits .and .u64 ((IntKind.u64.wrap ((Go.bits .and .u64 (a0 / 2) 6148914691236517205) + (Go.bits .and .u64 a0 6148914691236517205))) / 4) 3689348814741910323) + (Go.bits .and .u64 (IntKind.u64.wrap ((Go.bits .and .u64 (a0 / 2) 6148914691236517205) + (Go.bits .and .u64 a0 6148914691236517205))) 3689348814741910323))) / 16) + (IntKind.u64.wrap ((Go.bits .and .u64 ((IntKind.u64.wrap ((Go.bits .and .u64 (a0 / 2) 6148914691236517205) + (Go.bits .and .u64 a0 6148914691236517205))) / 4) 3689348814741910323) + (Go.bits .and .u64 (IntKind.u64.wrap ((Go.bits .and .u64 (a0 / 2) 6148914691236517205) + (Go.bits .and .u64 a0 6148914691236517205))) 3689348814741910323))))) 1085102592571150095) / 256))) + ((IntKind.u64.wrap ((Go.bits .and .u64 (IntKind.u64.wrap (((IntKind.u64.wrap ((Go.bits .and .u64 ((IntKind.u64.wrap ((Go.bits .and .u64 (a0 / 2) 6148914691236517205) + (Go.bits .and .u64 a0 6148914691236517205))) / 4) 3689348814741910323) + (Go.bits .and .u64 (IntKind.u64.wrap ((Go.bits .and .u64 (a0 / 2) 6148914691236517205) + (Go.bits .and .u64 a0 6148914691236517205))) 3689348814741910323))) / 16) + (IntKind.u64.wrap ((Go.bits .and .u64 ((IntKind.u64.wrap ((Go.bits .and .u64 (a0 / 2) 6148914691236517205) + (Go.bits .and .u64 a0 6148914691236517205))) / 4) 3689348814741910323) + (Go.bits .and .u64 (IntKind.u64.wrap ((Go.bits .and .u64 (a0 / 2) 6148914691236517205) + (Go.bits .and .u64 a0 6148914691236517205))) 3689348814741910323))))) 1085102592571150095) + ((Go.bits .and .u64 (IntKind.u64.wrap (((IntKind.u64.wrap ((Go.bits .and .u64 ((IntKind.u64.wrap ((Go.bits .and .u64 (a0 / 2) 6148914691236517205) + (Go.bits .and .u64 a0 6148914691236517205))) / 4) 3689348814741910323) + (Go.bits .and .u64 (IntKind.u64.wrap ((Go.bits .and .u64 (a0 / 2) 6148914691236517205) + (Go.bits .and .u64 a0 6148914691236517205))) 3689348814741910323))) / 16) + (IntKind.u64.wrap ((Go.bits .and .u64 ((IntKind.u64.wrap ((Go.bits .and .u64 (a0 / 2) 6148914691236517205) + (Go.bits .and .u64 a0 6148914691236517205))) / 4) 3689348814741910323) + (Go.bits .and .u64 (IntKind.u64.wrap ((Go.bits .and .u64 (a0 / 2) 6148914691236517205) + (Go.bits .and .u64 a0 6148914691236517205))) 3689348814741910323))))) 1085102592571150095) / 256))) / 65536))) / 4294967296)))) 127)) = some r:=h
  clear h;obtain rfl:=Option.some.inj H;go_enter Tryd.func38,Tryd.ntmps38;go_wp2;go_ret;exact ⟨by first|rfl|(simp;done)|(simp [*];done),by repeat (first|exact Drawn0.refl _|apply Drawn0.step)⟩

/-! ### bits_Set_Count: function 35 -/
def bits_Set_Count.f (a0 : Int) : Option (Int) := (bits_OnesCount64.f a0).bind fun t101 => (some t101)
set_option maxHeartbeats 8000000 in
set_option maxRecDepth 100000 in
theorem bits_Set_Count.calls (a0 : Int) (r : Int) (w : World) (h : bits_Set_Count.f a0 = some r) :
    Calls Tryd.prog 35 #[.int .u64 a0] w fun e w'=>e = .returned (.int .i64 r) ∧ Drawn0 w w':=by
  have H : ((bits_OnesCount64.f a0).bind fun t101=>(some t101)) = some r:=h;clear h;replace H:=bm_ H;obtain ⟨t101,A20,H⟩:=H;replace H : (some t101) = some r:=H;have A2:=A0_ A20;clear A20;obtain rfl:=Option.some.inj H;go_enter Tryd.func35,Tryd.ntmps35;go_wp2_with (first|((with_reducible refine gate_callee (f:=38) rfl ?_);refine goesL_ (some 4) rfl rfl Tryd.func38 (by kernel_rfl) rfl #[.int .u64 a0] rfl (by first|(simp only [List.map_toArray,List.map_cons,List.map_nil] <;> rfl)|rfl|(simp only [List.length_drop,List.length_take];rfl)) ?_;(with_reducible refine (bits_OnesCount64.calls a0 t101 _ A2.out).mono ?_);rintro e w' ⟨rfl,⟨nd,rfl⟩⟩;refine ⟨_,rfl,?_⟩));go_ret;exact ⟨by first|rfl|(simp;done)|(simp [*];done),by repeat (first|exact Drawn0.refl _|apply Drawn0.step)⟩

/-! ### bits_TrailingZeros64: function 39 -/
-- by hand
def bits_TrailingZeros64.f (a0 : Int) : Option Int := if 0 ≤ a0 then if a0 < 18446744073709551616 then some (Lib.ctz 64 a0.toNat : Int) else none else none
theorem bits_TrailingZeros64.calls (a0 : Int) (r : Int) (w : World) (hT : Tb.Tab w) (h : bits_TrailingZeros64.f a0 = some r) :
    Calls Tryd.prog 39 #[.int .u64 a0] w fun e w' => e = .returned (.int .i64 r) ∧ Drawn0 w w' := by
  unfold bits_TrailingZeros64.f at h
  split at h
  case isFalse => cases h
  rename_i h0
  split at h
  case isFalse => cases h
  rename_i h1
  injection h with h
  subst h
  obtain ⟨n, rfl⟩ : ∃ n : Nat, a0 = (n : Int) := ⟨a0.toNat, by omega⟩
  rw [Int.toNat_natCast]
  exact (Tb.tz_any n (by omega) w hT).mono fun e w' ⟨h, h2⟩ => ⟨h, by rw [h2]; exact Drawn0.refl _⟩


/-! ### bits_Set_First: function 36 -/
def bits_Set_First.f (a0 : Int) : Option (Int) := if a0 = 0 then (some (-1)) else ((bits_TrailingZeros64.f a0).bind fun t102 => (some t102))
set_option maxHeartbeats 8000000 in
set_option maxRecDepth 100000 in
theorem bits_Set_First.calls (a0 : Int) (r : Int) (w : World) (hT : Tb.Tab w) (h : bits_Set_First.f a0 = some r) :
    Calls Tryd.prog 36 #[.int .u64 a0] w fun e w'=>e = .returned (.int .i64 r) ∧ Drawn0 w w':=by
  have HT:=A0_ hT;clear hT;have H : (if a0 = 0 then (some (-1)) else ((bits_TrailingZeros64.f a0).bind fun t102=>(some t102))) = some r:=h;clear h;by_cases c2 : a0 = 0
  · rw [if_pos c2] at H
    have c2b0 : (a0 == 0) = true:=beq_iff_eq.mpr c2;have c2b1 : (a0 != 0) = false:=bne_eq_false_iff_eq.mpr c2;clear c2;obtain rfl:=Option.some.inj H;go_enter Tryd.func36,Tryd.ntmps36;go_wp2;go_ret;exact ⟨by first|rfl|(simp;done)|(simp [*];done),by repeat (first|exact Drawn0.refl _|apply Drawn0.step)⟩
  rw [if_neg c2] at H;have c2b0 : (a0 == 0) = false:=beq_eq_false_iff_ne.mpr c2;have c2b1 : (a0 != 0) = true:=bne_iff_ne.mpr c2;replace H:=bm_ H;obtain ⟨t102,A30,H⟩:=H;replace H : (some t102) = some r:=H;have A3:=A0_ A30;clear A30;obtain rfl:=Option.some.inj H;go_enter Tryd.func36,Tryd.ntmps36;go_wp2_with (first|((with_reducible refine gate_callee (f:=39) rfl ?_);refine goesL_ (some 6) rfl rfl Tryd.func39 (by kernel_rfl) rfl #[.int .u64 a0] rfl (by first|(simp only [List.map_toArray,List.map_cons,List.map_nil] <;> rfl)|rfl|(simp only [List.length_drop,List.length_take];rfl)) ?_;(with_reducible refine (bits_TrailingZeros64.calls a0 t102 _ ?side1 A3.out).mono ?_);(case side1=>first|exact HT.out|(repeat (first|(with_reducible first|exact HT.out|apply Tb.alloc|apply Tb.drewN|apply Tb.drew)|exact HT.out));done|exact Tb.below HT.out (by exact Below.refl _ _));rintro e w' ⟨rfl,⟨nd,rfl⟩⟩;refine ⟨_,rfl,?_⟩));go_ret;exact ⟨by first|rfl|(simp;done)|(simp [*];done),by repeat (first|exact Drawn0.refl _|apply Drawn0.step)⟩

/-! ### bits_Set_List: function 30 -/
-- by hand
open Ch (Chg)
namespace Bl
def ints (l : List Nat) : List Int := l.map fun (n : Nat) => (n : Int)
theorem ints_len (l : List Nat) : (ints l).length = l.length := by simp [ints]
theorem ints_snoc (l : List Nat) (t : Nat) : ints l ++ [(t : Int)] = ints (l ++ [t]) := by unfold ints; simp
theorem low_least {D : Nat} (hD : D < Bt.top) (h0 : D ≠ 0) : ∃ rest, Gr.low D 64 = Lib.ctz 64 D :: rest := by
  obtain ⟨hlow, hk⟩ := Lib.lowest_bit 64 D h0 (Bt.top_pow ▸ hD)
  have hbit : D.testBit (Lib.ctz 64 D) = true := by
    have h1 : (D &&& (2 ^ 64 - D)).testBit (Lib.ctz 64 D) = true := by rw [hlow, Bt.tb_pow]; simp
    rw [Nat.testBit_and, Bool.and_eq_true] at h1
    exact h1.1
  have hmem : Lib.ctz 64 D ∈ Gr.low D 64 := Gr.mem_low.2 ⟨hk, hbit⟩
  cases hl : Gr.low D 64 with
  | nil => rw [hl] at hmem; cases hmem
  | cons x rest =>
    have hs : (Gr.low D 64).Pairwise (· < ·) := List.Pairwise.filter _ List.pairwise_lt_range
    rw [hl] at hs hmem
    rw [List.pairwise_cons] at hs
    have hx : x ∈ Gr.low D 64 := by rw [hl]; simp
    have hxb := (Gr.mem_low.1 hx).2
    have hxc : x = Lib.ctz 64 D := by
      rcases List.mem_cons.1 hmem with q | q
      · exact q.symm
      · exfalso
        have hlt := hs.1 _ q
        unfold Lib.ctz at hlt
        rw [if_neg h0] at hlt
        obtain ⟨m, hm, _⟩ := Lib.ctzFrom_spec 64 D (by omega) (Bt.top_pow ▸ hD)
        rw [hm, Nat.testBit_two_pow_mul] at hxb
        simp at hxb
        omega
    exact ⟨rest, by rw [hxc]⟩
/-- The least one cut off. -/
theorem tb_cut {s : Nat} (hs : s < Bt.top) (h0 : s ≠ 0) (i : Nat) : (s &&& (s - 1)).testBit i = (s.testBit i && !decide (i = Lib.ctz 64 s)) := by
  have e : Lib.ctz 64 s = Lib.ctzFrom 64 s := by simp [Lib.ctz, h0]
  rw [e]
  obtain ⟨m, hm, _⟩ := Lib.ctzFrom_spec 64 s (by omega) (Bt.top_pow ▸ hs)
  generalize Lib.ctzFrom 64 s = c at *
  have hp : 0 < 2 ^ c := Nat.two_pow_pos c
  have h1 : s - 1 = 2 ^ c * (2 * m) + (2 ^ c - 1) := by
    rw [hm, Nat.mul_add]
    omega
  rw [Nat.testBit_and, h1, Nat.testBit_two_pow_mul_add _ (by omega)]
  rw [hm, Nat.testBit_two_pow_mul]
  by_cases hi : i < c
  · have : ¬ c ≤ i := by omega
    simp [hi, this]
  · by_cases hic : i = c
    · subst hic
      simp
    · have h2 : c ≤ i := by omega
      obtain ⟨j, hj⟩ : ∃ j, i - c = j + 1 := ⟨i - c - 1, by omega⟩
      rw [if_neg hi, hj, Nat.testBit_succ, Nat.testBit_succ]
      have h3 : (2 * m + 1) / 2 = m := by omega
      have h4 : 2 * m / 2 = m := by omega
      rw [h3, h4]
      simp [h2, hic]
theorem low_step {s : Nat} (hs : s < Bt.top) (h0 : s ≠ 0) : Gr.low s 64 = Lib.ctz 64 s :: Gr.low (s &&& (s - 1)) 64 := by
  obtain ⟨rest, hl⟩ := low_least hs h0
  have hp : (Gr.low s 64).Pairwise (· < ·) := List.Pairwise.filter _ List.pairwise_lt_range
  have e : Gr.low (s &&& (s - 1)) 64 = (Gr.low s 64).filter fun i => !decide (i = Lib.ctz 64 s) := by
    unfold Gr.low
    rw [List.filter_filter]
    refine List.filter_congr fun i _ => ?_
    rw [tb_cut hs h0 i, Bool.and_comm]
  rw [e, hl, List.filter_cons]
  rw [hl, List.pairwise_cons] at hp
  simp only [decide_true, Bool.not_true, Bool.false_eq_true, if_false]
  congr 1
  symm
  rw [List.filter_eq_self]
  intro a ha
  have := hp.1 a ha
  simp
  omega
theorem low_zero : Gr.low 0 64 = [] := by
  unfold Gr.low
  rw [List.filter_eq_nil_iff]
  intro a _
  simp
theorem low_len (s : Nat) : (Gr.low s 64).length ≤ 64 := by
  unfold Gr.low
  exact Nat.le_trans (List.length_filter_le _ _) (by simp)
theorem mk_any (n : Nat) (hn : n ≤ 127) : ∀ W : World, (Instr.makeSlice 58 (.int .i64 0) (.int .i64 (n : Int))).run Tryd.prog W = .ok (.slice (some ⟨W.heap.size, 0, none⟩) 0 n) (W.alloc (.cells (madeCells #[.int .i64 0] n) 3)) := by
  intro W
  obtain ⟨i0, hi, hzz⟩ := Option.map_eq_some_iff.1 info3
  simp only [Prod.mk.injEq] at hzz
  obtain ⟨hz0, hz1, hz2⟩ := hzz
  have hr := run_make (P := Tryd.prog) W 58 3 i0 (.int .i64 0) Tryd.underlying58 hi hz0 .i64 .i64 0 (n : Int) (by omega) (by omega) (by rw [hz2]; omega) (by omega)
  rw [hz1] at hr
  simp only [Int.toNat_zero, Int.toNat_natCast, Nat.mul_one] at hr
  exact hr
theorem mk_own (W : World) (n : Nat) (hn : n ≤ 127) (base : Nat) (hb : base ≤ W.heap.size) : Kd.R (Kd.int .i64) 3 (W.alloc (.cells (madeCells #[.int .i64 0] n) 3)) base (fun _ => True) (.slice (some ⟨W.heap.size, 0, none⟩) 0 n) [] :=
  ⟨fun _ _ => trivial, [], World.ownsRow_made W _ n hb (by simp [maxLen]; omega) (by rw [size_madeCells]; show n = n * 1; omega), Reps.none _ _⟩
theorem count_f (a : Int) : ∃ n : Nat, n ≤ 127 ∧ bits_Set_Count.f a = some (n : Int) := by
  unfold bits_Set_Count.f bits_OnesCount64.f
  rw [Option.bind_some, i64_and127]
  generalize wrap64 _ = x
  exact ⟨(x % 128).toNat, by omega, by rw [Int.toNat_of_nonneg (by omega)]⟩
end Bl
def bits_Set_List.f (a0 : Int) : Option (List Int) := if 0 ≤ a0 then if a0 < 18446744073709551616 then some (Bl.ints (Gr.low a0.toNat 64)) else none else none
set_option maxHeartbeats 4000000 in
set_option maxRecDepth 100000 in
theorem bits_Set_List.calls (a0 : Int) (r : List Int) (w : World) (hT : Tb.Tab w) (h : bits_Set_List.f a0 = some r) :
    Calls Tryd.prog 30 #[.int .u64 a0] w fun e w' => ∃ v0_ : Value, e = .returned v0_ ∧ Kd.R (Kd.int .i64) 3 w' w.heap.size (fun _ => True) v0_ r ∧ Below w.heap.size w w' := by
  obtain ⟨s0, rfl, hs0, hr⟩ : ∃ s : Nat, a0 = (s : Int) ∧ s < Bt.top ∧ r = Bl.ints (Gr.low s 64) := by
    unfold bits_Set_List.f at h
    split at h
    · split at h
      · rename_i h1 h2
        refine ⟨a0.toNat, by omega, by unfold Bt.top; omega, (Option.some.inj h).symm⟩
      · cases h
    · cases h
  have HT := Aside0.mk hT
  have HS0 := Aside0.mk hs0
  have HRE := Aside0.mk hr
  clear hT hs0 hr h
  obtain ⟨n, hn, hcf⟩ := Bl.count_f (s0 : Int)
  have HN := Aside0.mk hn
  have HCF := Aside0.mk hcf
  have hmk := Bl.mk_any n hn
  clear hn hcf
  have HB0 := Aside0.mk (Below.refl w.heap.size w)
  go_enter Tryd.func30, Tryd.ntmps30
  go_upto_block 0 with (go_at_call 35; (with_reducible refine (bits_Set_Count.calls _ _ _ HCF.out).mono ?_); rintro e w' ⟨rfl, ⟨nd, rfl⟩⟩)
  clear hmk
  have HR0 := Aside0.mk (Bl.mk_own (w.drewN nd) n HN.out w.heap.size (Nat.le_refl _))
  have HB1 := Aside0.mk (show Below w.heap.size w ((w.drewN nd).alloc (.cells (madeCells #[.int .i64 0] n) 3)) from below_alloc (pw_below_drewN (Below.refl _ _) _) _)
  go_wp2
  go_loopg [0, 3] (Gr.low s0 64).length (fun kq v0 v3 w' => ∃ (s : Nat) (xs : List Nat), v0 = .int .u64 (s : Int) ∧ Aside0 (s < Bt.top) ∧ Aside0 ((Gr.low s 64).length = kq) ∧ Aside0 (xs ++ Gr.low s 64 = Gr.low s0 64) ∧ Aside0 (Kd.R (Kd.int .i64) 3 w' w.heap.size (fun _ => True) v3 (Bl.ints xs)) ∧ Aside0 (Below w.heap.size w w'))
  case atStart => exact ⟨s0, [], rfl, HS0, ⟨rfl⟩, ⟨rfl⟩, ⟨HR0.out⟩, HB1⟩
  case round =>
    clear HR0 HB1 HB0 HCF
    obtain ⟨s, xs, rfl, HS, HK, HX, HR, HB⟩ := hrel
    have HTw := Aside0.mk (Tb.below HT.out HB.out)
    rcases gk with _ | k1
    · have hz : s = 0 := by
        refine Classical.byContradiction fun h0 => ?_
        have h1 := HK.out
        rw [Bl.low_step HS.out h0] at h1
        simp at h1
      subst hz
      have HXE := Aside0.mk (show xs = Gr.low s0 64 from by have := HX.out; rwa [Bl.low_zero, List.append_nil] at this)
      go_wp2
      go_ret
      refine ⟨_, rfl, ?_, by repeat (first | exact HB.out | apply below_drew | apply pw_below_drewN)⟩
      rw [HRE.out, ← HXE.out]
      repeat (first | exact HR.out | apply Kd.R_drew | apply Kd.R_drewN)
    · have h0 : s ≠ 0 := by
        intro e
        have h1 := HK.out
        rw [e, Bl.low_zero] at h1
        simp at h1
      have HLS := Aside0.mk (Bl.low_step HS.out h0)
      have d1 : ((s : Int) != 0) = true := by rw [bne_iff_ne]; omega
      have d2 : ((s : Int) == 0) = false := by rw [beq_eq_false_iff_ne]; omega
      have e1 : IntKind.u64.wrap ((s : Int) - 1) = ((s - 1 : Nat) : Int) := by
        rw [show (s : Int) - 1 = ((s - 1 : Nat) : Int) from by omega]
        exact Bt.wrapU (by have := HS.out; omega)
      have e2 : Go.bits .and .u64 (s : Int) ((s - 1 : Nat) : Int) = ((s &&& (s - 1) : Nat) : Int) := Bt.and_nat HS.out (by have := HS.out; omega)
      have HFF := Aside0.mk (show bits_Set_First.f (s : Int) = some ((Lib.ctz 64 s : Nat) : Int) from by
        unfold bits_Set_First.f bits_TrailingZeros64.f
        rw [if_neg (by omega), if_pos (by omega), if_pos (by have := HS.out; unfold Bt.top at this; omega)]
        simp)
      have HXL := Aside0.mk (show xs.length < 64 from by
        have h1 := Bl.low_len s0
        rw [← HX.out, HLS.out] at h1
        simp at h1
        omega)
      obtain ⟨A0, c0, ev⟩ := Kd.R_slice HR.out
      subst ev
      obtain ⟨N, hN⟩ : ∃ N, N = (Bl.ints xs).length := ⟨_, rfl⟩
      rw [← hN] at HR
      try rw [← hN]
      have HNN := Aside0.mk hN
      clear hN
      generalize hq : Lib.ctz 64 s = q at *
      clear hq h0
      go_wp2_with (first
        | (go_at_call 36; (with_reducible refine (bits_Set_First.calls _ _ _ HTw.out HFF.out).mono ?_); rintro e w4 ⟨rfl, ⟨nd4, rfl⟩⟩)
        | (at_builtin; refine Kd.R_append (Kd.int .i64) (w0 := w) w.heap.size rfl (.tmp 13) (.tmp 16) 58 3 (.int .i64 0) 8 rfl Tryd.underlying58 info3 rfl (by decide) (by omega) (.slice A0 N c0) (Bl.ints xs) (q : Int) [.int .i64 (q : Int)] (fun _ => True) (fun _ => False) rfl (by first | (go_simp; done) | (go_simp; rfl)) ?aP (fun _ hk => hk.elim) ?aF ?aO ?aB ?aS ?aL ?_; (case aP => exact rfl); (case aB => exact pw_below_drewN HB.out nd4); (case aF => exact (fun _ _ => trivial)); (case aO => exact Kd.R_drewN HR.out nd4); (case aS => exact below_size (pw_below_drewN HB.out nd4)); (case aL => have h1 := HXL.out; rw [Bl.ints_len]; omega); intro v7 w7 ho hb hg hat; have HV7 := Aside0.mk ho; have HB7 := Aside0.mk hb; clear ho hb hg hat))
      go_roundg k1
      case measure => omega
      case rel =>
        have h3 := HV7.out
        rw [Bl.ints_snoc] at h3
        refine ⟨s &&& (s - 1), xs ++ [q], rfl, ⟨Bt.lt_and' HS.out⟩, ⟨?_⟩, ⟨?_⟩, ⟨h3⟩, HB7⟩
        · have h4 := HK.out
          rw [HLS.out] at h4
          simpa using h4
        · rw [← HX.out, HLS.out]
          simp


/-! ### right_may: function 34 -/
def right_may.f (a0 : Int) (a1 : Int) : Option (Bool) := if a0 ≥ 0 then (if a0 < 64 then (if a1 ≥ 0 then (some (decide (a1 < 32))) else (some false)) else (some false)) else (some false)
set_option maxHeartbeats 8000000 in
set_option maxRecDepth 100000 in
theorem right_may.calls (a0 : Int) (a1 : Int) (r : Bool) (w : World) (h : right_may.f a0 a1 = some r) :
    Calls Tryd.prog 34 #[.int .i64 a0,.int .i64 a1] w fun e w'=>e = .returned (.bool r) ∧ Drawn0 w w':=by
  have H : (if a0 ≥ 0 then (if a0 < 64 then (if a1 ≥ 0 then (some (decide (a1 < 32))) else (some false)) else (some false)) else (some false)) = some r:=h;clear h;by_cases c3 : a0 ≥ 0;rotate_left
  · rw [if_neg c3] at H
    have c3b0 : decide (0 ≤ a0) = false:=decide_eq_false c3;clear c3;obtain rfl:=Option.some.inj H;go_enter Tryd.func34,Tryd.ntmps34;go_wp2;go_ret;exact ⟨by first|rfl|(simp;done)|(simp [*];done),by repeat (first|exact Drawn0.refl _|apply Drawn0.step)⟩

  rw [if_pos c3] at H;have c3b0 : decide (0 ≤ a0) = true:=decide_eq_true c3;clear c3;by_cases c4 : a0 < 64;rotate_left
  · rw [if_neg c4] at H
    have c4b0 : decide (a0 < 64) = false:=decide_eq_false c4;clear c4;obtain rfl:=Option.some.inj H;go_enter Tryd.func34,Tryd.ntmps34;go_wp2;go_ret;exact ⟨by first|rfl|(simp;done)|(simp [*];done),by repeat (first|exact Drawn0.refl _|apply Drawn0.step)⟩
  rw [if_pos c4] at H;have c4b0 : decide (a0 < 64) = true:=decide_eq_true c4;clear c4;by_cases c5 : a1 ≥ 0
  · rw [if_pos c5] at H
    have c5b0 : decide (0 ≤ a1) = true:=decide_eq_true c5;clear c5;obtain rfl:=Option.some.inj H;go_enter Tryd.func34,Tryd.ntmps34;go_wp2;go_ret;exact ⟨by first|rfl|(simp;done)|(simp [*];done),by repeat (first|exact Drawn0.refl _|apply Drawn0.step)⟩
  rw [if_neg c5] at H;have c5b0 : decide (0 ≤ a1) = false:=decide_eq_false c5;clear c5;obtain rfl:=Option.some.inj H;go_enter Tryd.func34,Tryd.ntmps34;go_wp2;go_ret;exact ⟨by first|rfl|(simp;done)|(simp [*];done),by repeat (first|exact Drawn0.refl _|apply Drawn0.step)⟩
-- NOT PRINTED: function 28 (right_Rights_add)

/-! ### bits_All: function 29 -/
def bits_All.f (a0 : Int) : Option (Int) := if a0 ≤ 0 then (some 0) else (if a0 > 63 then (some 18446744073709551615) else (if 0 ≤ a0 then (some (IntKind.u64.wrap ((shl .u64 1 a0) - 1))) else (none)))
set_option maxHeartbeats 8000000 in
set_option maxRecDepth 100000 in
theorem bits_All.calls (a0 : Int) (r : Int) (w : World) (h : bits_All.f a0 = some r) :
    Calls Tryd.prog 29 #[.int .i64 a0] w fun e w'=>e = .returned (.int .u64 r) ∧ Drawn0 w w':=by
  have H : (if a0 ≤ 0 then (some 0) else (if a0 > 63 then (some 18446744073709551615) else (if 0 ≤ a0 then (some (IntKind.u64.wrap ((shl .u64 1 a0) - 1))) else (none)))) = some r:=h;clear h;by_cases c2 : a0 ≤ 0
  · rw [if_pos c2] at H
    have c2b0 : decide (a0 ≤ 0) = true:=decide_eq_true c2;clear c2;obtain rfl:=Option.some.inj H;go_enter Tryd.func29,Tryd.ntmps29;go_wp2;go_ret;exact ⟨by first|rfl|(simp;done)|(simp [*];done),by repeat (first|exact Drawn0.refl _|apply Drawn0.step)⟩
  rw [if_neg c2] at H;have c2b0 : decide (a0 ≤ 0) = false:=decide_eq_false c2;clear c2;by_cases c3 : a0 > 63
  · rw [if_pos c3] at H
    have c3b0 : decide (63 < a0) = true:=decide_eq_true c3;clear c3;obtain rfl:=Option.some.inj H;go_enter Tryd.func29,Tryd.ntmps29;go_wp2;go_ret;exact ⟨by first|rfl|(simp;done)|(simp [*];done),by repeat (first|exact Drawn0.refl _|apply Drawn0.step)⟩
  rw [if_neg c3] at H;have c3b0 : decide (63 < a0) = false:=decide_eq_false c3;clear c3;by_cases c4 : 0 ≤ a0;rotate_left
  · rw [if_neg c4] at H
    exact absurd H (by simp)

  rw [if_pos c4] at H;have c4b0:=eq_true c4;have c4b1 : decide (0 ≤ a0) = true:=decide_eq_true c4;clear c4;obtain ⟨ji5,hji5⟩ : ∃ j_ : Int,(shl .u64 1 a0) = j_:=⟨_,rfl⟩;replace H : (some (IntKind.u64.wrap ((ji5) - 1))) = some r:=by first|(rw [hji5] at H;exact H)|(simp only [hji5] at H ⊢;exact H)
  have hji5_ : (IntKind.u64.wrap (1 * 2 ^ min a0.toNat 64)) = ji5:=hji5;have hji5z : a0 ≤ 64 → (IntKind.u64.wrap (1 * 2 ^ a0.toNat)) = ji5:=shl_small hji5;have hji5u : (IntKind.u64.wrap (2 ^ min a0.toNat 64)) = ji5:=by have h_:=hji5_;rw [Int.one_mul] at h_;exact h_
  have hji5v : a0 ≤ 64 → (IntKind.u64.wrap (2 ^ a0.toNat)) = ji5:=fun hle_=>by have h_:=hji5z hle_;rw [Int.one_mul] at h_;exact h_
  obtain rfl:=Option.some.inj H;go_enter Tryd.func29,Tryd.ntmps29;go_wp2;go_ret;exact ⟨by first|rfl|(simp;done)|(simp only [← hji5] <;> (first|rfl|simp))|(simp [*];done),by repeat (first|exact Drawn0.refl _|apply Drawn0.step)⟩
-- NOT PRINTED: function 17 (right_Rights_Root)

/-! ### bits_one: function 32 -/
def bits_one.f (a0 : Int) : Option (Int) := if a0 < 0 then (some 0) else (if a0 > 63 then (some 0) else (if 0 ≤ a0 then (some (shl .u64 1 a0)) else (none)))
set_option maxHeartbeats 8000000 in
set_option maxRecDepth 100000 in
theorem bits_one.calls (a0 : Int) (r : Int) (w : World) (h : bits_one.f a0 = some r) :
    Calls Tryd.prog 32 #[.int .i64 a0] w fun e w'=>e = .returned (.int .u64 r) ∧ Drawn0 w w':=by
  have H : (if a0 < 0 then (some 0) else (if a0 > 63 then (some 0) else (if 0 ≤ a0 then (some (shl .u64 1 a0)) else (none)))) = some r:=h;clear h;by_cases c2 : a0 < 0
  · rw [if_pos c2] at H
    have c2b0 : decide (a0 < 0) = true:=decide_eq_true c2;clear c2;obtain rfl:=Option.some.inj H;go_enter Tryd.func32,Tryd.ntmps32;go_wp2;go_ret;exact ⟨by first|rfl|(simp;done)|(simp [*];done),by repeat (first|exact Drawn0.refl _|apply Drawn0.step)⟩
  rw [if_neg c2] at H;have c2b0 : decide (a0 < 0) = false:=decide_eq_false c2;clear c2;by_cases c3 : a0 > 63
  · rw [if_pos c3] at H
    have c3b0 : decide (63 < a0) = true:=decide_eq_true c3;clear c3;obtain rfl:=Option.some.inj H;go_enter Tryd.func32,Tryd.ntmps32;go_wp2;go_ret;exact ⟨by first|rfl|(simp;done)|(simp [*];done),by repeat (first|exact Drawn0.refl _|apply Drawn0.step)⟩
  rw [if_neg c3] at H;have c3b0 : decide (63 < a0) = false:=decide_eq_false c3;clear c3;by_cases c4 : 0 ≤ a0;rotate_left
  · rw [if_neg c4] at H
    exact absurd H (by simp)

  rw [if_pos c4] at H;have c4b0:=eq_true c4;have c4b1 : decide (0 ≤ a0) = true:=decide_eq_true c4;clear c4;obtain ⟨ji5,hji5⟩ : ∃ j_ : Int,(shl .u64 1 a0) = j_:=⟨_,rfl⟩;replace H : (some ji5) = some r:=by first|(rw [hji5] at H;exact H)|(simp only [hji5] at H ⊢;exact H)
  have hji5_ : (IntKind.u64.wrap (1 * 2 ^ min a0.toNat 64)) = ji5:=hji5;have hji5z : a0 ≤ 64 → (IntKind.u64.wrap (1 * 2 ^ a0.toNat)) = ji5:=shl_small hji5;have hji5u : (IntKind.u64.wrap (2 ^ min a0.toNat 64)) = ji5:=by have h_:=hji5_;rw [Int.one_mul] at h_;exact h_
  have hji5v : a0 ≤ 64 → (IntKind.u64.wrap (2 ^ a0.toNat)) = ji5:=fun hle_=>by have h_:=hji5z hle_;rw [Int.one_mul] at h_;exact h_
  obtain rfl:=Option.some.inj H;go_enter Tryd.func32,Tryd.ntmps32;go_wp2;go_ret;exact ⟨by first|rfl|(simp;done)|(simp only [← hji5] <;> (first|rfl|simp))|(simp [*];done),by repeat (first|exact Drawn0.refl _|apply Drawn0.step)⟩
/-! ### bits_Set_With: function 26 -/
def bits_Set_With.f (a0 : Int) (a1 : Int) : Option (Int) := (bits_one.f a1).bind fun t103 => (some (Go.bits .or .u64 a0 t103))
set_option maxHeartbeats 8000000 in
set_option maxRecDepth 100000 in
theorem bits_Set_With.calls (a0 : Int) (a1 : Int) (r : Int) (w : World) (h : bits_Set_With.f a0 a1 = some r) :
    Calls Tryd.prog 26 #[.int .u64 a0,.int .i64 a1] w fun e w'=>e = .returned (.int .u64 r) ∧ Drawn0 w w':=by
  have H : ((bits_one.f a1).bind fun t103=>(some (Go.bits .or .u64 a0 t103))) = some r:=h;clear h;replace H:=bm_ H;obtain ⟨t103,A30,H⟩:=H;replace H : (some (Go.bits .or .u64 a0 t103)) = some r:=H;have A3:=A0_ A30;clear A30;obtain rfl:=Option.some.inj H;go_enter Tryd.func26,Tryd.ntmps26;go_wp2_with (first|((with_reducible refine gate_callee (f:=32) rfl ?_);refine goesL_ (some 7) rfl rfl Tryd.func32 (by kernel_rfl) rfl #[.int .i64 a1] rfl (by first|(simp only [List.map_toArray,List.map_cons,List.map_nil] <;> rfl)|rfl|(simp only [List.length_drop,List.length_take];rfl)) ?_;(with_reducible refine (bits_one.calls a1 t103 _ A3.out).mono ?_);rintro e w' ⟨rfl,⟨nd,rfl⟩⟩;refine ⟨_,rfl,?_⟩));go_ret;exact ⟨by first|rfl|(simp;done)|(simp [*];done),by repeat (first|exact Drawn0.refl _|apply Drawn0.step)⟩

-- NOT PRINTED: function 11 (right_Rights_Of)

-- NOT PRINTED: function 20 (right_Rights_Waive)

-- NOT PRINTED: function 21 (right_Rights_Clear)

-- NOT PRINTED: function 18 (right_Rights_Child)

-- NOT PRINTED: function 19 (right_Rights_Give)

-- NOT PRINTED: function 8 (logjamlaw21_do)

-- NOT PRINTED: function 16 (logjamref21_Of)

-- NOT PRINTED: function 22 (logjamref21_set)

/-! ### logjamref21_all: function 23 -/
def logjamref21_all.f  : Option (Int) := some 4294967295
set_option maxHeartbeats 8000000 in
set_option maxRecDepth 100000 in
theorem logjamref21_all.calls  (r : Int) (w : World) (h : logjamref21_all.f  = some r) :
    Calls Tryd.prog 23 #[] w fun e w'=>e = .returned (.int .u64 r) ∧ Drawn0 w w':=by
  have H : (some 4294967295) = some r:=h;clear h;obtain rfl:=Option.some.inj H;go_enter Tryd.func23,Tryd.ntmps23;go_wp2;go_ret;exact ⟨by first|rfl|(simp;done)|(simp [*];done),by repeat (first|exact Drawn0.refl _|apply Drawn0.step)⟩

-- NOT PRINTED: function 9 (logjamref21_Do)

-- NOT PRINTED: function 7 (right_New)

-- NOT PRINTED: function 13 (right_Rights_Who)

-- NOT PRINTED: function 15 (right_Rights_Has)

-- NOT PRINTED: function 12 (logjamlaw21_lives)

-- NOT PRINTED: function 33 (maps_clone)

-- NOT PRINTED: function 27 (right_key_struct)

-- NOT PRINTED: function 14 (right_Rights_Clone)

-- NOT PRINTED: function 6 (logjamlaw21_RightNil)

end Go.Proofs.YtjcjhmnfknenlaaDoor.PRightNil
