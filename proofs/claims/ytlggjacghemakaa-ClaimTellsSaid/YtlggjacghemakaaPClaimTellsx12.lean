/- Go functions as plain Lean functions, and that the calls come to them. Conditions: none. (Written by a program of this session.) -/
import Derived.Test.YtlggjacghemakaaPClaimTellsx0
import Derived.Test.YtlggjacghemakaaPClaimTellsx10
import Derived.Test.YtlggjacghemakaaPClaimTellsx11
namespace Go.Proofs.Ytlggjacghemakaa.PClaimTells
open Go.RowKit Go.Proofs.YtlggjacghemakaaW.PrintWords Go.Proofs.YtlggjacghemakaaW.PrintLast Go.Proofs.YtlggjacghemakaaW.PrintMore
attribute [local go_sem] max2_int min2_int max_two min_two max_three min_three max_four min_four   -- for this text's walks alone
set_option linter.unusedVariables false
set_option linter.unusedSimpArgs false

/-! ### logjamref25_Given: function 34 -/
mutual
def logjamref25_Given.j0 : Nat → Int → List Int → Bool → List Int → List (List Int) → List (List Int) → Option (List Int × (List (List Int)) × (List (List Int)) × Bool)
  | 0,_,_,_,_,_,_=>none
  | k + 1,x1,x2,x28,x334000,x334001,x334002=>if x28 = true then (some (x334000,x334001,x334002,false)) else ((logjamref25_Left.f k x334000 x334001 x334002 x1).bind fun t335=>(logjamref25_Given.l0 k x1 x2 t335 0 x334000 x334001 x334002 ([] : List Int) x334002))
def logjamref25_Given.l0 : Nat → Int → List Int → List Int → Int → List Int → List (List Int) → List (List Int) → List Int → List (List Int) → Option (List Int × (List (List Int)) × (List (List Int)) × Bool)
  | 0,_,_,_,_,_,_,_,_,_=>none
  | k + 1,x1,x2,x8,x10,x334000,x334001,x334002,x339000,x339002=>if x10 < (x2.length : Int) then (if 0 ≤ x10 then (if (rd x2 x10) < 0 then (logjamref25_Given.j2 k x1 x2 x8 x10 true x334000 x334001 x334002 x339000 x339002) else (if x10 < (x8.length : Int) then (if (rd x2 x10) > (rd x8 x10) then (logjamref25_Given.j2 k x1 x2 x8 x10 true x334000 x334001 x334002 x339000 x339002) else (if x10 < (x334000.length : Int) then (logjamref25_Given.j2 k x1 x2 x8 x10 (decide ((rd x2 x10) > (rd x334000 x10))) x334000 x334001 x334002 x339000 x339002) else (none))) else (none))) else (none)) else (logjamref25_Given.l1 k x1 x2 0 x334000 x334001 x334002 x339000 ([] : List (List Int)) x339002)
def logjamref25_Given.j2 : Nat → Int → List Int → List Int → Int → Bool → List Int → List (List Int) → List (List Int) → List Int → List (List Int) → Option (List Int × (List (List Int)) × (List (List Int)) × Bool)
  | 0,_,_,_,_,_,_,_,_,_,_=>none
  | k + 1,x1,x2,x8,x10,x69,x334000,x334001,x334002,x339000,x339002=>if x69 = true then (some (x334000,x334001,x334002,false)) else (if 0 ≤ x10 then (if x10 < (x334000.length : Int) then (if x10 < (x2.length : Int) then (if x339000.length < 17592186044416 then (logjamref25_Given.l0 k x1 x2 x8 (wrap64 (x10 + 1)) x334000 x334001 x334002 (x339000 ++ [wrap64 ((rd x334000 x10) - (rd x2 x10))]) x339002) else (none)) else (none)) else (none)) else (none))
def logjamref25_Given.l1 : Nat → Int → List Int → Int → List Int → List (List Int) → List (List Int) → List Int → List (List Int) → List (List Int) → Option (List Int × (List (List Int)) × (List (List Int)) × Bool)
  | 0,_,_,_,_,_,_,_,_,_=>none
  | k + 1,x1,x2,x11,x334000,x334001,x334002,x339000,x339001,x339002=>if x11 < (x334001.length : Int) then (if x11 = x1 then (if 0 ≤ x11 then ((logjamref25_sum.f k (rd_L1 x334001 x11) x2).bind fun t350=>(if x339001.length < 5864062014805 then (logjamref25_Given.l1 k x1 x2 (wrap64 (x11 + 1)) x334000 x334001 x334002 x339000 (x339001 ++ [t350]) x339002) else (none))) else (none)) else (if 0 ≤ x11 then (if x339001.length < 5864062014805 then (logjamref25_Given.l1 k x1 x2 (wrap64 (x11 + 1)) x334000 x334001 x334002 x339000 (x339001 ++ [rd_L1 x334001 x11]) x339002) else (none)) else (none))) else (some (x339000,x339001,x339002,true))
end
def logjamref25_Given.f (k : Nat) (l0_0 : List Int) (l0_1 : List (List Int)) (l0_2 : List (List Int)) (a1 : Int) (l2 : List Int) : Option (List Int × (List (List Int)) × (List (List Int)) × Bool) := if a1 < 0 then (logjamref25_Given.j0 k a1 l2 true l0_0 l0_1 l0_2) else (if a1 ≥ (l0_1.length : Int) then (logjamref25_Given.j0 k a1 l2 true l0_0 l0_1 l0_2) else (logjamref25_Given.j0 k a1 l2 ((l2.length : Int) != (l0_0.length : Int)) l0_0 l0_1 l0_2))
theorem logjamref25_Given.mono_l : ∀ k, (∀ y0 y1 y2 y3 y4 y5, LeO (logjamref25_Given.j0 k y0 y1 y2 y3 y4 y5) (logjamref25_Given.j0 (k + 1) y0 y1 y2 y3 y4 y5)) ∧ (∀ y0 y1 y2 y3 y4 y5 y6 y7 y8, LeO (logjamref25_Given.l0 k y0 y1 y2 y3 y4 y5 y6 y7 y8) (logjamref25_Given.l0 (k + 1) y0 y1 y2 y3 y4 y5 y6 y7 y8)) ∧ (∀ y0 y1 y2 y3 y4 y5 y6 y7 y8 y9, LeO (logjamref25_Given.j2 k y0 y1 y2 y3 y4 y5 y6 y7 y8 y9) (logjamref25_Given.j2 (k + 1) y0 y1 y2 y3 y4 y5 y6 y7 y8 y9)) ∧ (∀ y0 y1 y2 y3 y4 y5 y6 y7 y8, LeO (logjamref25_Given.l1 k y0 y1 y2 y3 y4 y5 y6 y7 y8) (logjamref25_Given.l1 (k + 1) y0 y1 y2 y3 y4 y5 y6 y7 y8))
  | 0=>⟨fun _ _ _ _ _ _ r h=>by simp [logjamref25_Given.j0] at h,fun _ _ _ _ _ _ _ _ _ r h=>by simp [logjamref25_Given.l0] at h,fun _ _ _ _ _ _ _ _ _ _ r h=>by simp [logjamref25_Given.j2] at h,fun _ _ _ _ _ _ _ _ _ r h=>by simp [logjamref25_Given.l1] at h⟩
  | k + 1=>by
    obtain ⟨ih0,ih1,ih2,ih3⟩:=logjamref25_Given.mono_l k;refine ⟨?_,?_,?_,?_⟩
    all_goals intros
    all_goals first | unfold logjamref25_Given.j0 | unfold logjamref25_Given.l0 | unfold logjamref25_Given.j2 | unfold logjamref25_Given.l1
    all_goals
      repeat' first
      | (with_reducible exact ih0 _ _ _ _ _ _)
      | (with_reducible exact ih1 _ _ _ _ _ _ _ _ _)
      | (with_reducible exact ih2 _ _ _ _ _ _ _ _ _ _)
      | (with_reducible exact ih3 _ _ _ _ _ _ _ _ _)
      | (with_reducible exact logjamref25_Left.mono _ _ _ _ _)
      | (with_reducible exact logjamref25_sum.mono _ _ _)
      | (with_reducible exact LeO.refl _)
      | (with_reducible exact LeO.none _)
      | (with_reducible refine LeO.ite ?_ ?_)
      | (with_reducible refine LeO.bind ?_ (fun _=>?_))
      | exact ih0 _ _ _ _ _ _
      | exact ih1 _ _ _ _ _ _ _ _ _
      | exact ih2 _ _ _ _ _ _ _ _ _ _
      | exact ih3 _ _ _ _ _ _ _ _ _
      | exact logjamref25_Left.mono _ _ _ _ _
      | exact logjamref25_sum.mono _ _ _
      | exact LeO.none _
      | refine LeO.ite ?_ ?_
      | refine LeO.bind ?_ (fun _=>?_)
theorem logjamref25_Given.mono : ∀ a0 a1 a2 a3 a4 k, LeO (logjamref25_Given.f k a0 a1 a2 a3 a4) (logjamref25_Given.f (k + 1) a0 a1 a2 a3 a4) := by
  intro a0 a1 a2 a3 a4 k
  obtain ⟨ih0,ih1,ih2,ih3⟩:=logjamref25_Given.mono_l k;unfold logjamref25_Given.f
  repeat' first
      | (with_reducible exact ih0 _ _ _ _ _ _)
      | (with_reducible exact ih1 _ _ _ _ _ _ _ _ _)
      | (with_reducible exact ih2 _ _ _ _ _ _ _ _ _ _)
      | (with_reducible exact ih3 _ _ _ _ _ _ _ _ _)
      | (with_reducible exact logjamref25_Left.mono _ _ _ _ _)
      | (with_reducible exact logjamref25_sum.mono _ _ _)
      | (with_reducible exact LeO.refl _)
      | (with_reducible exact LeO.none _)
      | (with_reducible refine LeO.ite ?_ ?_)
      | (with_reducible refine LeO.bind ?_ (fun _=>?_))
      | exact ih0 _ _ _ _ _ _
      | exact ih1 _ _ _ _ _ _ _ _ _
      | exact ih2 _ _ _ _ _ _ _ _ _ _
      | exact ih3 _ _ _ _ _ _ _ _ _
      | exact logjamref25_Left.mono _ _ _ _ _
      | exact logjamref25_sum.mono _ _ _
      | exact LeO.none _
      | refine LeO.ite ?_ ?_
      | refine LeO.bind ?_ (fun _=>?_)
def logjamref25_Given.T3 : Bool × List (List Nat × List Nat) := (true, [([], []), ([], []), ([0, 1], [0, 1]), ([], []), ([3], [3]), ([4], [4]), ([], []), ([2, 2, 0, 1, 2, 6], [2]), ([6, 5, 7, 0, 1, 2, 3, 4, 5, 6, 7], [5, 6])])
def logjamref25_Given.B3 : List Nat := [0, 0, 3, 0, 8, 24, 0, 71, 255]
theorem logjamref25_Given.tab3 : rtab .any (opsOf Try.f34 3) = logjamref25_Given.T3 := by kernel_rfl
theorem logjamref25_Given.bits3 : waitsOk logjamref25_Given.T3.2 logjamref25_Given.B3 = true := by kernel_rfl
def logjamref25_Given.T7 : Bool × List (List Nat × List Nat) := (true, [([], []), ([], []), ([0, 1], [0, 1]), ([2], [2]), ([3], [3]), ([4], [4]), ([5], [5]), ([5], [5]), ([6, 7, 5], [5, 6, 7]), ([8, 5], [5, 8]), ([5], [5]), ([5], [5]), ([10, 11, 5], [5, 10, 11]), ([12, 5], [5, 12]), ([9, 13, 5], [5, 9, 13]), ([5, 14], [5, 14]), ([15, 5], [15]), ([16], [16]), ([16], [16]), ([17, 18, 16], [16, 17, 18]), ([19, 16], [16, 19]), ([16], [16]), ([21, 16], [16, 21]), ([16], [16]), ([22, 23, 16], [16, 22, 23]), ([24, 16], [16, 24]), ([20, 25, 16], [16, 20, 25]), ([16, 26], [16, 26])])
def logjamref25_Given.B7 : List Nat := [0, 0, 3, 7, 15, 31, 63, 63, 255, 511, 63, 63, 3135, 7231, 16383, 32767, 65535, 131071, 131071, 524287, 1048575, 131071, 2228223, 131071, 14811135, 31588351, 67108863, 134217727]
theorem logjamref25_Given.tab7 : rtab .any (opsOf Try.f34 7) = logjamref25_Given.T7 := by kernel_rfl
theorem logjamref25_Given.bits7 : waitsOk logjamref25_Given.T7.2 logjamref25_Given.B7 = true := by kernel_rfl
def logjamref25_Given.T9 : Bool × List (List Nat × List Nat) := (true, [([], []), ([0], [0]), ([], []), ([2], [2]), ([], []), ([3, 4], [3, 4]), ([5], [5]), ([], []), ([], []), ([7, 8], [7, 8]), ([9], [9]), ([6, 10], [6, 10]), ([11], [11]), ([1, 12], [1, 12]), ([0, 1, 2, 3, 4, 5, 6, 7, 8, 9, 10, 11, 12, 13], []), ([14, 13, 13, 0, 1, 2, 3, 4, 5, 6, 7, 8, 9, 10, 11, 12, 13], [13, 14])])
def logjamref25_Given.B9 : List Nat := [0, 1, 0, 4, 0, 28, 60, 0, 0, 384, 896, 2044, 4092, 8191, 16383, 32767]
theorem logjamref25_Given.tab9 : rtab .any (opsOf Try.f34 9) = logjamref25_Given.T9 := by kernel_rfl
theorem logjamref25_Given.bits9 : waitsOk logjamref25_Given.T9.2 logjamref25_Given.B9 = true := by kernel_rfl
def logjamref25_Given.T14 : Bool × List (List Nat × List Nat) := (true, [([], []), ([0], [0]), ([], []), ([2], [2]), ([], []), ([3, 4], [3, 4]), ([5], [5]), ([], []), ([6, 7], [6, 7]), ([8], [8]), ([1, 9, 8], [1, 9]), ([0, 1, 2, 3, 4, 5, 6, 7, 8, 9, 10], []), ([11, 10, 10, 0, 1, 2, 3, 4, 5, 6, 7, 8, 9, 10], [10, 11])])
def logjamref25_Given.B14 : List Nat := [0, 1, 0, 4, 0, 28, 60, 0, 252, 508, 1023, 2047, 4095]
theorem logjamref25_Given.tab14 : rtab .any (opsOf Try.f34 14) = logjamref25_Given.T14 := by kernel_rfl
theorem logjamref25_Given.bits14 : waitsOk logjamref25_Given.T14.2 logjamref25_Given.B14 = true := by kernel_rfl
def logjamref25_Given.T15 : Bool × List (List Nat × List Nat) := (true, [([], []), ([0], [0]), ([], []), ([2], [2]), ([], []), ([3, 4], [3, 4]), ([5], [5]), ([6], [6]), ([1, 7], [1, 7]), ([0, 1, 2, 3, 4, 5, 6, 7, 8], []), ([9, 8, 8, 0, 1, 2, 3, 4, 5, 6, 7, 8], [8, 9])])
def logjamref25_Given.B15 : List Nat := [0, 1, 0, 4, 0, 28, 60, 124, 255, 511, 1023]
theorem logjamref25_Given.tab15 : rtab .any (opsOf Try.f34 15) = logjamref25_Given.T15 := by kernel_rfl
theorem logjamref25_Given.bits15 : waitsOk logjamref25_Given.T15.2 logjamref25_Given.B15 = true := by kernel_rfl
set_option maxHeartbeats 8000000 in
set_option maxRecDepth 100000 in
theorem logjamref25_Given.calls (k : Nat) (P0_0_ : Nat → Prop) (A0_0 : Option Addr) (c0_0 : Nat) (l0_0 : List Int) (P0_1_ : Nat → Prop) (A0_1 : Option Addr) (c0_1 : Nat) (l0_1 : List (List Int)) (P0_2_ : Nat → Prop) (A0_2 : Option Addr) (c0_2 : Nat) (l0_2 : List (List Int)) (a1 : Int) (A2 : Option Addr) (c2 : Nat) (l2 : List Int) (r1 : List Int) (r2 : List (List Int)) (r3 : List (List Int)) (r4 : Bool) (w : World) (hs0_0 : Kd.V (Kd.int .i64) 3 w w.heap.size (fun k_ => P0_0_ k_) (.slice A0_0 l0_0.length c0_0) l0_0) (hs0_1 : Kd.V (Kd.slice 3 (Kd.int .i64)) 23 w w.heap.size (fun k_ => P0_1_ k_) (.slice A0_1 l0_1.length c0_1) l0_1) (hs0_2 : Kd.V (Kd.slice 3 (Kd.int .i64)) 23 w w.heap.size (fun k_ => P0_2_ k_) (.slice A0_2 l0_2.length c0_2) l0_2) (hr2 : Kd.C (Kd.int .i64) w A2 l2.length l2) (hc2 : l2.length ≤ c2) (h : logjamref25_Given.f k l0_0 l0_1 l0_2 a1 l2 = some (r1, r2, r3, r4)) :
    Calls Try.prog 34 #[.agg #[.slice A0_0 l0_0.length c0_0,.slice A0_1 l0_1.length c0_1,.slice A0_2 l0_2.length c0_2],.int .i64 a1,.slice A2 l2.length c2] w fun e w'=>∃ v0_ v1_ v2_ : Value,e = .returned (.tuple #[.agg #[v0_,v1_,v2_],.bool r4]) ∧ Kd.V (Kd.int .i64) 3 w' w.heap.size (fun k_=>((P0_0_ k_ ∨ P0_1_ k_ ∨ P0_2_ k_) ∨ w.heap.size ≤ k_)) v0_ r1 ∧ Kd.V (Kd.slice 3 (Kd.int .i64)) 23 w' w.heap.size (fun k_=>((P0_0_ k_ ∨ P0_1_ k_ ∨ P0_2_ k_) ∨ w.heap.size ≤ k_)) v1_ r2 ∧ Kd.V (Kd.slice 3 (Kd.int .i64)) 23 w' w.heap.size (fun k_=>((P0_0_ k_ ∨ P0_1_ k_ ∨ P0_2_ k_) ∨ w.heap.size ≤ k_)) v2_ r3 ∧ Below w.heap.size w w':=by
  have hu55:=Try.underlying55;have HO0_0:=A0_ (show Kd.V (Kd.int .i64) 3 w w.heap.size (fun k_=>((P0_0_ k_ ∨ P0_1_ k_ ∨ P0_2_ k_) ∨ w.heap.size ≤ k_)) (.slice A0_0 l0_0.length c0_0) l0_0 from Kd.V_mono hs0_0 (fun k_ hk=>.inl (.inl hk)));have HO0_1:=A0_ (show Kd.V (Kd.slice 3 (Kd.int .i64)) 23 w w.heap.size (fun k_=>((P0_0_ k_ ∨ P0_1_ k_ ∨ P0_2_ k_) ∨ w.heap.size ≤ k_)) (.slice A0_1 l0_1.length c0_1) l0_1 from Kd.V_mono hs0_1 (fun k_ hk=>.inl (.inr (.inl hk))));have HO0_2:=A0_ (show Kd.V (Kd.slice 3 (Kd.int .i64)) 23 w w.heap.size (fun k_=>((P0_0_ k_ ∨ P0_1_ k_ ∨ P0_2_ k_) ∨ w.heap.size ≤ k_)) (.slice A0_2 l0_2.length c0_2) l0_2 from Kd.V_mono hs0_2 (fun k_ hk=>.inl (.inr (.inr hk))));have HR2:=A0_ hr2;have HC2:=A0_ hc2;clear hr2 hc2;have HB:=A0_ (Below.refl w.heap.size w);have H : (if a1 < 0 then (logjamref25_Given.j0 k a1 l2 true l0_0 l0_1 l0_2) else (if a1 ≥ (l0_1.length : Int) then (logjamref25_Given.j0 k a1 l2 true l0_0 l0_1 l0_2) else (logjamref25_Given.j0 k a1 l2 ((l2.length : Int) != (l0_0.length : Int)) l0_0 l0_1 l0_2))) = some (r1,r2,r3,r4):=h;clear h;have HC4:=A0_ H;clear H;go_enter Try.func34,Try.ntmps34
  go_upto_region 1 with (first|((with_reducible refine gate_dst (N:=3) rfl ?_);(try (refine gate_guard (by rfl) ?_;dsimp only));refine box_event ?hg (N:=3) ?hd (cs:=#[.slice A0_0 l0_0.length c0_0,.slice A0_1 l0_1.length c0_1,.slice A0_2 l0_2.length c0_2]) (t:=55) ?hr ?_;(case hd=>rfl);(case hg=>rfl);(case hr=>first|(go_simp;done)|(go_simp;rfl));intro gb333 hg w5 hbox hb;have n0_:=A0_ (Kd.V_below (Kd.V_elderB (by (with_reducible repeat first|apply Va_|apply Vn_|apply Vd_);exact HO0_0.out) gb333 (Nat.le_of_eq hg.symm)) hb);have n1_:=A0_ (Kd.V_below (Kd.V_elderB (by (with_reducible repeat first|apply Va_|apply Vn_|apply Vd_);exact HO0_1.out) gb333 (Nat.le_of_eq hg.symm)) hb);have n2_:=A0_ (Kd.V_below (Kd.V_elderB (by (with_reducible repeat first|apply Va_|apply Vn_|apply Vd_);exact HO0_2.out) gb333 (Nat.le_of_eq hg.symm)) hb);have n3_:=A0_ (below_step (by repeat (first|(with_reducible first|exact HB.out|apply ba_|apply pN_|apply b1_)|exact HB.out)) hb);have n4_:=A0_ (hbox);have n5_:=A0_ ((by rw [hg];exact (below_size (by repeat (first|(with_reducible first|exact HB.out|apply ba_|apply pN_|apply b1_)|exact HB.out))) : w.heap.size ≤ gb333));have n6_:=A0_ ((by rw [hg];exact (below_size (by repeat (first|(with_reducible first|exact HB.out|apply ba_|apply pN_|apply b1_)|exact HB.out))) : w.heap.size ≤ gb333));clear HO0_0;clear HO0_1;clear HO0_2;clear HB;have HO0_0:=n0_;have HO0_1:=n1_;have HO0_2:=n2_;have HB:=n3_;have BK333:=n4_;have GW333:=n5_;have GE333:=n6_;clear n0_ n1_ n2_ n3_ n4_ n5_ n6_;clear hb hbox hg)|((with_reducible refine gate_dst (N:=6) rfl ?_);(try (refine gate_guard (by rfl) ?_;dsimp only));refine box_event ?hg (N:=6) ?hd (cs:=#[.slice none 0 0,.slice none 0 0,.slice none 0 0]) (t:=55) ?hr ?_;(case hd=>rfl);(case hg=>rfl);(case hr=>first|(go_simp;done)|(go_simp;rfl));intro gb334 hg w6 hbox hb;have n0_:=A0_ (Kd.V_below (Kd.V_elderB (by (with_reducible repeat first|apply Va_|apply Vn_|apply Vd_);exact HO0_0.out) gb334 (Nat.le_of_eq hg.symm)) hb);have n1_:=A0_ (Kd.V_below (Kd.V_elderB (by (with_reducible repeat first|apply Va_|apply Vn_|apply Vd_);exact HO0_1.out) gb334 (Nat.le_of_eq hg.symm)) hb);have n2_:=A0_ (Kd.V_below (Kd.V_elderB (by (with_reducible repeat first|apply Va_|apply Vn_|apply Vd_);exact HO0_2.out) gb334 (Nat.le_of_eq hg.symm)) hb);have n3_:=A0_ (blk_below (g:=gb333) (o:=.cells #[.slice A0_0 l0_0.length c0_0,.slice A0_1 l0_1.length c0_1,.slice A0_2 l0_2.length c0_2] 55 (0,0)) (by (with_reducible repeat first|refine bN_ ?_ _|refine bD_ ?_|refine bA_ ?_ _);exact BK333.out) hb);have n4_:=A0_ (below_step (by repeat (first|(with_reducible first|exact HB.out|apply ba_|apply pN_|apply b1_|refine bs_ ?_ GE333.out)|exact HB.out)) hb);have n5_:=A0_ (hbox);have n6_:=A0_ ((by rw [hg];exact (below_size (by repeat (first|(with_reducible first|exact HB.out|apply ba_|apply pN_|apply b1_|refine bs_ ?_ GE333.out)|exact HB.out))) : w.heap.size ≤ gb334));have n7_:=A0_ ((by rw [hg];exact (below_size (by repeat (first|(with_reducible first|exact HB.out|apply ba_|apply pN_|apply b1_|refine bs_ ?_ GE333.out)|exact HB.out))) : w.heap.size ≤ gb334));have n8_:=A0_ ((by rw [hg];exact Nat.ne_of_lt (blk_lt (g:=gb333) (o:=.cells #[.slice A0_0 l0_0.length c0_0,.slice A0_1 l0_1.length c0_1,.slice A0_2 l0_2.length c0_2] 55 (0,0)) (by (with_reducible repeat first|refine bN_ ?_ _|refine bD_ ?_|refine bA_ ?_ _);exact BK333.out)) : gb333 ≠ gb334));have n9_:=A0_ ((by rw [hg];exact Nat.ne_of_gt (blk_lt (g:=gb333) (o:=.cells #[.slice A0_0 l0_0.length c0_0,.slice A0_1 l0_1.length c0_1,.slice A0_2 l0_2.length c0_2] 55 (0,0)) (by (with_reducible repeat first|refine bN_ ?_ _|refine bD_ ?_|refine bA_ ?_ _);exact BK333.out)) : gb334 ≠ gb333));clear HO0_0;clear HO0_1;clear HO0_2;clear BK333;clear HB;have HO0_0:=n0_;have HO0_1:=n1_;have HO0_2:=n2_;have BK333:=n3_;have HB:=n4_;have BK334:=n5_;have GW334:=n6_;have GE334:=n7_;have NB333_334:=n8_;have NB334_333:=n9_;clear n0_ n1_ n2_ n3_ n4_ n5_ n6_ n7_ n8_ n9_;clear hb hbox hg))
  (try simp only [Act.put,sA_,sZ_,sS_])
  go_cut [28] (fun v28 wc=>∃ (kq : Nat) (x28_3 : Bool),v28 = .bool x28_3 ∧ Aside0 (logjamref25_Given.j0 kq a1 l2 x28_3 l0_0 l0_1 l0_2 = some (r1,r2,r3,r4)) ∧ Aside0 (kq ≤ k) ∧ Aside0 (Kd.V (Kd.int .i64) 3 wc w.heap.size (fun k_=>((P0_0_ k_ ∨ P0_1_ k_ ∨ P0_2_ k_) ∨ w.heap.size ≤ k_) ∧ k_ ≠ gb333 ∧ k_ ≠ gb334) (.slice A0_0 l0_0.length c0_0) l0_0) ∧ Aside0 (Kd.V (Kd.slice 3 (Kd.int .i64)) 23 wc w.heap.size (fun k_=>((P0_0_ k_ ∨ P0_1_ k_ ∨ P0_2_ k_) ∨ w.heap.size ≤ k_) ∧ k_ ≠ gb333 ∧ k_ ≠ gb334) (.slice A0_1 l0_1.length c0_1) l0_1) ∧ Aside0 (Kd.V (Kd.slice 3 (Kd.int .i64)) 23 wc w.heap.size (fun k_=>((P0_0_ k_ ∨ P0_1_ k_ ∨ P0_2_ k_) ∨ w.heap.size ≤ k_) ∧ k_ ≠ gb333 ∧ k_ ≠ gb334) (.slice A0_2 l0_2.length c0_2) l0_2) ∧ Aside0 (wc.heap[gb333]? = some (.cells #[(.slice A0_0 l0_0.length c0_0),(.slice A0_1 l0_1.length c0_1),(.slice A0_2 l0_2.length c0_2)] 55 (0,0))) ∧ Aside0 (wc.heap[gb334]? = some (.cells #[(.slice none 0 0),(.slice none 0 0),(.slice none 0 0)] 55 (0,0))) ∧ Aside0 (Below w.heap.size w wc))
  case first =>
    have H:=HC4.out;clear HC4;by_cases c7 : a1 < 0
    · rw [if_pos c7] at H
      have c7b0 : decide (a1 < 0) = true:=decide_eq_true c7;clear c7
      (first|rw [c7b0]|(simp only [i64_w,i32_w];rw [c7b0])|skip)
      have H':=A0_ H;clear H;go_wp2;go_meet
      case rel=>exact ⟨_,(true),(by first|rfl|(simp;done)|(simp [*];done)),H',⟨by first|omega|exact Nat.le_refl _⟩,⟨by (with_reducible repeat first|apply Va_|apply Vn_|apply Vd_);exact Kd.V_mono HO0_0.out (fun _ hk=>⟨hk.1.1,⟨hk.1.2,hk.2⟩⟩)⟩,⟨by (with_reducible repeat first|apply Va_|apply Vn_|apply Vd_);exact Kd.V_mono HO0_1.out (fun _ hk=>⟨hk.1.1,⟨hk.1.2,hk.2⟩⟩)⟩,⟨by (with_reducible repeat first|apply Va_|apply Vn_|apply Vd_);exact Kd.V_mono HO0_2.out (fun _ hk=>⟨hk.1.1,⟨hk.1.2,hk.2⟩⟩)⟩,⟨by (with_reducible repeat first|refine bN_ ?_ _|refine bD_ ?_|refine bA_ ?_ _);exact BK333.out⟩,⟨by (with_reducible repeat first|refine bN_ ?_ _|refine bD_ ?_|refine bA_ ?_ _);exact BK334.out⟩,⟨by repeat (first|(with_reducible first|exact HB.out|apply ba_|apply pN_|apply b1_|refine bs_ ?_ GE333.out|refine bs_ ?_ GE334.out)|exact HB.out)⟩⟩
    rw [if_neg c7] at H;have c7b0 : decide (a1 < 0) = false:=decide_eq_false c7;clear c7
    (first|rw [c7b0]|(simp only [i64_w,i32_w];rw [c7b0])|skip)
    by_cases c8 : a1 ≥ (l0_1.length : Int)
    · rw [if_pos c8] at H
      have c8b0 : decide ((l0_1.length : Int) ≤ a1) = true:=decide_eq_true c8;clear c8;have H':=A0_ H;clear H;have hnb9:=NB333_334.out;have hnc9:=NB334_333.out;obtain ⟨hcz10_0,hcz10_1,hcz10_2,hfz10_0,hfz10_1,hfz10_2⟩:=cz3_ (w:=w6) BK333.out;go_wp2;go_meet
      case rel=>exact ⟨_,(true),(by first|rfl|(simp;done)|(simp [*];done)),H',⟨by first|omega|exact Nat.le_refl _⟩,⟨by (with_reducible repeat first|apply Va_|apply Vn_|apply Vd_);exact Kd.V_mono HO0_0.out (fun _ hk=>⟨hk.1.1,⟨hk.1.2,hk.2⟩⟩)⟩,⟨by (with_reducible repeat first|apply Va_|apply Vn_|apply Vd_);exact Kd.V_mono HO0_1.out (fun _ hk=>⟨hk.1.1,⟨hk.1.2,hk.2⟩⟩)⟩,⟨by (with_reducible repeat first|apply Va_|apply Vn_|apply Vd_);exact Kd.V_mono HO0_2.out (fun _ hk=>⟨hk.1.1,⟨hk.1.2,hk.2⟩⟩)⟩,⟨by (with_reducible repeat first|refine bN_ ?_ _|refine bD_ ?_|refine bA_ ?_ _);exact BK333.out⟩,⟨by (with_reducible repeat first|refine bN_ ?_ _|refine bD_ ?_|refine bA_ ?_ _);exact BK334.out⟩,⟨by repeat (first|(with_reducible first|exact HB.out|apply ba_|apply pN_|apply b1_|refine bs_ ?_ GE333.out|refine bs_ ?_ GE334.out)|exact HB.out)⟩⟩
    rw [if_neg c8] at H;have c8b0 : decide ((l0_1.length : Int) ≤ a1) = false:=decide_eq_false c8;clear c8;have H':=A0_ H;clear H;have hnb11:=NB333_334.out;have hnc11:=NB334_333.out;obtain ⟨hcz12_0,hcz12_1,hcz12_2,hfz12_0,hfz12_1,hfz12_2⟩:=cz3_ (w:=w6) BK333.out;go_wp2;go_meet
    case rel=>exact ⟨_,(((l2.length : Int) != (l0_0.length : Int))),(by first|rfl|(simp;done)|(simp [*];done)),H',⟨by first|omega|exact Nat.le_refl _⟩,⟨by (with_reducible repeat first|apply Va_|apply Vn_|apply Vd_);exact Kd.V_mono HO0_0.out (fun _ hk=>⟨hk.1.1,⟨hk.1.2,hk.2⟩⟩)⟩,⟨by (with_reducible repeat first|apply Va_|apply Vn_|apply Vd_);exact Kd.V_mono HO0_1.out (fun _ hk=>⟨hk.1.1,⟨hk.1.2,hk.2⟩⟩)⟩,⟨by (with_reducible repeat first|apply Va_|apply Vn_|apply Vd_);exact Kd.V_mono HO0_2.out (fun _ hk=>⟨hk.1.1,⟨hk.1.2,hk.2⟩⟩)⟩,⟨by (with_reducible repeat first|refine bN_ ?_ _|refine bD_ ?_|refine bA_ ?_ _);exact BK333.out⟩,⟨by (with_reducible repeat first|refine bN_ ?_ _|refine bD_ ?_|refine bA_ ?_ _);exact BK334.out⟩,⟨by repeat (first|(with_reducible first|exact HB.out|apply ba_|apply pN_|apply b1_|refine bs_ ?_ GE333.out|refine bs_ ?_ GE334.out)|exact HB.out)⟩⟩
  case rest =>
    clear HC4;(try clear c1);(try clear c2);(try clear p2);(try clear c3);(try clear c7);(try clear c7b0);(try clear c8);(try clear c8b0);(try clear c9);(try clear c11);(try clear hcz10_0);(try clear hcz10_1);(try clear hcz10_2);(try clear hcz12_0);(try clear hcz12_1);(try clear hcz12_2);(try clear hfz10_0);(try clear hfz10_1);(try clear hfz10_2);(try clear hfz12_0);(try clear hfz12_1);(try clear hfz12_2);obtain ⟨kq,x28_3,rfl,HA,HJ3,HO_334000,HO_334001,HO_334002,BK333,BK334,HB⟩:=hcut
    cases kq with
    | zero=>exact absurd HA.out (by simp [logjamref25_Given.j0])
    | succ kj3 =>
      have H:=HA.out;clear HA;simp only [logjamref25_Given.j0] at H;by_cases c13 : x28_3 = true
      · subst c13
        have H1 : (some (l0_0,l0_1,l0_2,false)) = some (r1,r2,r3,r4):=by rw [if_pos rfl] at H;exact H
        clear H;have H:=H1;clear H1;simp only [Option.some.injEq,Prod.mk.injEq] at H;obtain ⟨rfl,rfl,rfl,rfl⟩:=H;have hnb14:=NB333_334.out;have hnc14:=NB334_333.out;obtain ⟨hcz15_0,hcz15_1,hcz15_2,hfz15_0,hfz15_1,hfz15_2⟩:=cz3_ (w:=wc) BK333.out;obtain ⟨hcz16_0,hcz16_1,hcz16_2,hfz16_0,hfz16_1,hfz16_2⟩:=cz3_ (w:=wc) BK334.out;go_wp2;refine bodyPost_ret (results_ct rfl _ _ gb334 55 #[.slice A0_0 l0_0.length c0_0,.slice A0_1 l0_1.length c0_1,.slice A0_2 l0_2.length c0_2] (0,0) _ rfl (by (with_reducible repeat first|refine bN_ ?_ _|refine bD_ ?_|refine bA_ ?_ _);refine blk_put (cs:=#[.slice A0_0 l0_0.length c0_0,.slice A0_1 l0_1.length c0_1,.slice none 0 0]) ?_ 2 _ rfl;(with_reducible repeat first|refine bN_ ?_ _|refine bD_ ?_|refine bA_ ?_ _);refine blk_put (cs:=#[.slice A0_0 l0_0.length c0_0,.slice none 0 0,.slice none 0 0]) ?_ 1 _ rfl;(with_reducible repeat first|refine bN_ ?_ _|refine bD_ ?_|refine bA_ ?_ _);refine blk_put (cs:=#[.slice none 0 0,.slice none 0 0,.slice none 0 0]) ?_ 0 _ rfl;(with_reducible repeat first|refine bN_ ?_ _|refine bD_ ?_|refine bA_ ?_ _);exact BK334.out) Try.underlying55 rfl (by kernel_rfl)) rfl ?_;exact ⟨_,_,_,by first|rfl|(simp [errW_none,errW_some] <;> rfl)|(simp [*,errW_none,errW_some] <;> rfl),by (with_reducible repeat first|apply Va_|apply Vn_|apply Vd_);exact Kd.V_mono (Kd.V_far (p:=⟨gb334,2,none⟩) (Kd.V_far (p:=⟨gb334,1,none⟩) (Kd.V_far (p:=⟨gb334,0,none⟩) (Kd.V_mono HO_334000.out (fun k_ hk=>(⟨hk,hk.2.2⟩ : _ ∧ k_ ≠ gb334))) (fun _ hk=>hk.2) (.slice A0_0 l0_0.length c0_0)) (fun _ hk=>hk.2) (.slice A0_1 l0_1.length c0_1)) (fun _ hk=>hk.2) (.slice A0_2 l0_2.length c0_2)) (fun _ hk=>hk.1.1),by (with_reducible repeat first|apply Va_|apply Vn_|apply Vd_);exact Kd.V_mono (Kd.V_far (p:=⟨gb334,2,none⟩) (Kd.V_far (p:=⟨gb334,1,none⟩) (Kd.V_far (p:=⟨gb334,0,none⟩) (Kd.V_mono HO_334001.out (fun k_ hk=>(⟨hk,hk.2.2⟩ : _ ∧ k_ ≠ gb334))) (fun _ hk=>hk.2) (.slice A0_0 l0_0.length c0_0)) (fun _ hk=>hk.2) (.slice A0_1 l0_1.length c0_1)) (fun _ hk=>hk.2) (.slice A0_2 l0_2.length c0_2)) (fun _ hk=>hk.1.1),by (with_reducible repeat first|apply Va_|apply Vn_|apply Vd_);exact Kd.V_mono (Kd.V_far (p:=⟨gb334,2,none⟩) (Kd.V_far (p:=⟨gb334,1,none⟩) (Kd.V_far (p:=⟨gb334,0,none⟩) (Kd.V_mono HO_334002.out (fun k_ hk=>(⟨hk,hk.2.2⟩ : _ ∧ k_ ≠ gb334))) (fun _ hk=>hk.2) (.slice A0_0 l0_0.length c0_0)) (fun _ hk=>hk.2) (.slice A0_1 l0_1.length c0_1)) (fun _ hk=>hk.2) (.slice A0_2 l0_2.length c0_2)) (fun _ hk=>hk.1.1),by repeat (first|(with_reducible first|exact HB.out|apply ba_|apply pN_|apply b1_|refine bs_ ?_ GE333.out|refine bs_ ?_ GE334.out)|exact HB.out)⟩
      replace c13:=Bool.eq_false_iff.mpr c13;subst c13;have H1 : ((logjamref25_Left.f kj3 l0_0 l0_1 l0_2 a1).bind fun t335=>(logjamref25_Given.l0 kj3 a1 l2 t335 0 l0_0 l0_1 l0_2 ([] : List Int) l0_2)) = some (r1,r2,r3,r4):=by rw [if_neg (show ¬ (false = true) by decide)] at H;exact H
      clear H;have H:=H1;clear H1;replace H:=bm_ H;obtain ⟨t335,A170,H⟩:=H;replace H : (logjamref25_Given.l0 kj3 a1 l2 t335 0 l0_0 l0_1 l0_2 ([] : List Int) l0_2) = some (r1,r2,r3,r4):=H;have A17:=A0_ A170;clear A170;have H':=A0_ H;clear H
      try go_wp2
      have n0_:=A0_ (Kd.V_drew HO_334000.out);have n1_:=A0_ (Kd.V_drew HO_334001.out);have n2_:=A0_ (Kd.V_drew HO_334002.out);have n3_:=A0_ (blk_drew BK333.out);have n4_:=A0_ (blk_drew BK334.out);have n5_:=A0_ (b1_ HB.out);clear HO_334000;clear HO_334001;clear HO_334002;clear BK333;clear BK334;clear HB;have HO_334000:=n0_;have HO_334001:=n1_;have HO_334002:=n2_;have BK333:=n3_;have BK334:=n4_;have HB:=n5_;clear n0_ n1_ n2_ n3_ n4_ n5_;refine start_ (n:=9) (S:=fun w'=>w'.cell? ⟨gb333,0,none⟩ = some (.slice A0_0 l0_0.length c0_0) ∧ w'.cell? ⟨gb333,1,none⟩ = some (.slice A0_1 l0_1.length c0_1) ∧ w'.cell? ⟨gb333,2,none⟩ = some (.slice A0_2 l0_2.length c0_2)) (ds:=[]) #[false,false,false,false,false,false,false,false,false] (by kernel_rfl) rfl rfl ⟨(blk_cell BK333.out 0).trans rfl,(blk_cell BK333.out 1).trans rfl,(blk_cell BK333.out 2).trans rfl⟩ (fun hHeld=>?_);refine with_tabW logjamref25_Given.tab3 logjamref25_Given.bits3 (fun HT_ HW_=>?_)
      generalize wc.drew = w18 at HO_334000 HO_334001 HO_334002 BK333 BK334 HB hHeld ⊢
      refine pure_ (i:=1) (N:=some 31) (v:=?_) (a':=?_) #[false,true,false,false,false,false,false,false,false] rfl rfl (any_of HT_.out (by kernel_rfl)) (fun _ _ _ h=>h) (Or.inl ⟨by rfl,?_⟩) ?_ ?_;rotate_left
      · intro w'
        go_simp
        with_reducible rfl
      rotate_left
      · simp only [Act.put,sA_,sZ_,sS_,i64_w,i32_w]
        rfl
      refine pure_ (i:=3) (N:=some 33) (v:=?_) (a':=?_) #[false,true,false,true,false,false,false,false,false] rfl rfl (any_of HT_.out (by kernel_rfl)) (fun _ _ _ h=>h) (Or.inl ⟨by rfl,?_⟩) ?_ ?_;rotate_left
      · intro w'
        go_simp
        with_reducible rfl
      rotate_left
      · simp only [Act.put,sA_,sZ_,sS_,i64_w,i32_w]
        rfl
      refine take_ (i:=0) (N:=some 30) (v:=?_) (a':=?_) #[true,true,false,true,false,false,false,false,false] rfl rfl (take_ofW HT_.out HW_.out (by kernel_rfl)) (fun _ _ _ h=>h) (Or.inl ⟨by rfl,?_⟩) hHeld ?_ ?_;rotate_left
      · rintro w' ⟨s0,s1,s2⟩
        go_simp
        with_reducible rfl
      rotate_left
      · simp only [Act.put,sA_,sZ_,sS_,i64_w,i32_w]
        rfl
      refine take_ (i:=4) (N:=some 34) (v:=?_) (a':=?_) #[true,true,false,true,true,false,false,false,false] rfl rfl (take_ofW HT_.out HW_.out (by kernel_rfl)) (fun _ _ _ h=>h) (Or.inl ⟨by rfl,?_⟩) hHeld ?_ ?_;rotate_left
      · rintro w' ⟨s0,s1,s2⟩
        go_simp
        with_reducible rfl
      rotate_left
      · simp only [Act.put,sA_,sZ_,sS_,i64_w,i32_w]
        rfl
      refine pure_ (i:=5) (N:=some 35) (v:=?_) (a':=?_) #[true,true,false,true,true,true,false,false,false] rfl rfl (any_of HT_.out (by kernel_rfl)) (fun _ _ _ h=>h) (Or.inl ⟨by rfl,?_⟩) ?_ ?_;rotate_left
      · intro w'
        go_simp
        with_reducible rfl
      rotate_left
      · simp only [Act.put,sA_,sZ_,sS_,i64_w,i32_w]
        rfl
      refine join_ (σ:=Value × Nat) 2 #[true,true,true,true,true,true,true,false,false] (fun s_=>[(32,s_.1),(9,.pointer (some ⟨s_.2,0,none⟩))]) (fun s_ w'=>(w'.cell? ⟨gb333,0,none⟩ = some (.slice A0_0 l0_0.length c0_0) ∧ w'.cell? ⟨gb333,1,none⟩ = some (.slice A0_1 l0_1.length c0_1) ∧ w'.cell? ⟨gb333,2,none⟩ = some (.slice A0_2 l0_2.length c0_2)) ∧ (Kd.R (Kd.int .i64) 3 w' w.heap.size (fun k_=>(w.heap.size ≤ k_)) s_.1 t335) ∧ (Kd.V (Kd.int .i64) 3 w' w.heap.size (fun k_=>((P0_0_ k_ ∨ P0_1_ k_ ∨ P0_2_ k_) ∨ w.heap.size ≤ k_) ∧ some k_ ≠ (s_.1 : Value).ownBlock ∧ k_ ≠ gb333 ∧ k_ ≠ gb334 ∧ k_ ≠ s_.2) (.slice A0_0 l0_0.length c0_0) l0_0) ∧ (Kd.V (Kd.slice 3 (Kd.int .i64)) 23 w' w.heap.size (fun k_=>((P0_0_ k_ ∨ P0_1_ k_ ∨ P0_2_ k_) ∨ w.heap.size ≤ k_) ∧ some k_ ≠ (s_.1 : Value).ownBlock ∧ k_ ≠ gb333 ∧ k_ ≠ gb334 ∧ k_ ≠ s_.2) (.slice A0_1 l0_1.length c0_1) l0_1) ∧ (Kd.V (Kd.slice 3 (Kd.int .i64)) 23 w' w.heap.size (fun k_=>((P0_0_ k_ ∨ P0_1_ k_ ∨ P0_2_ k_) ∨ w.heap.size ≤ k_) ∧ some k_ ≠ (s_.1 : Value).ownBlock ∧ k_ ≠ gb333 ∧ k_ ≠ gb334 ∧ k_ ≠ s_.2) (.slice A0_2 l0_2.length c0_2) l0_2) ∧ (w'.heap[gb333]? = some (.cells #[.slice A0_0 l0_0.length c0_0,.slice A0_1 l0_1.length c0_1,.slice A0_2 l0_2.length c0_2] 55 (0,0))) ∧ (w'.heap[gb334]? = some (.cells #[.slice none 0 0,.slice none 0 0,.slice none 0 0] 55 (0,0))) ∧ (w'.heap[s_.2]? = some (.cells #[.slice none 0 0,.slice none 0 0,.slice none 0 0] 55 (0,0))) ∧ (w.heap.size ≤ s_.2) ∧ (w.heap.size ≤ s_.2) ∧ (gb333 ≠ s_.2) ∧ (s_.2 ≠ gb333) ∧ (gb334 ≠ s_.2) ∧ (s_.2 ≠ gb334) ∧ (Below w.heap.size w w')) ?_ ?_;rotate_left
      · intro hCont
        refine two_ (i:=2) (j:=6) (Ni:=some 32) (Nj:=some 9) #[true,true,true,true,true,true,false,false,false] #[true,true,false,true,true,true,true,false,false] rfl rfl rfl rfl (two_of HT_.out (by kernel_rfl)) (by decide) (by decide) (fun K hK=>?_) (fun K hK=>?_)
        · skip
          refine goes_ Try.func35 (by kernel_rfl) rfl #[.agg #[.slice A0_0 l0_0.length c0_0,.slice A0_1 l0_1.length c0_1,.slice A0_2 l0_2.length c0_2],.int .i64 a1] (by rfl) rfl rfl (by first|(simp only [List.map_toArray,List.map_cons,List.map_nil] <;> rfl)|rfl|(simp only [List.length_drop,List.length_take];rfl)) ?_
          with_reducible refine (logjamref25_Left.calls kj3 _ _ l0_0 _ _ l0_1 _ _ l0_2 a1 t335 _ ?side1 ?side2 ?side3 ?side4 ?side5 ?side6 A17.out).mono ?_
          (case side1=>repeat (first|exact (Kd.V_reads' HO_334000.out).2.2|(with_reducible first|refine Ca_ ?_ _|refine Cn_ ?_ _|refine Cd_ ?_)))
          (case side2=>exact (Kd.V_reads' HO_334000.out).2.1)
          (case side3=>repeat (first|exact (Kd.V_reads' HO_334001.out).2.2|(with_reducible first|refine Ca_ ?_ _|refine Cn_ ?_ _|refine Cd_ ?_)))
          (case side4=>exact (Kd.V_reads' HO_334001.out).2.1)
          (case side5=>repeat (first|exact (Kd.V_reads' HO_334002.out).2.2|(with_reducible first|refine Ca_ ?_ _|refine Cn_ ?_ _|refine Cd_ ?_)))
          (case side6=>exact (Kd.V_reads' HO_334002.out).2.1)
          rintro e w19 ⟨v336,rfl,ho0,hb⟩
          refine ⟨_,rfl,?_⟩;have n0_:=A0_ (Kd.V_elder' (by (with_reducible repeat first|apply Va_|apply Vn_|apply Vd_);exact HO_334000.out) (Kd.R_base ho0) hb);have n1_:=A0_ (Kd.V_elder' (by (with_reducible repeat first|apply Va_|apply Vn_|apply Vd_);exact HO_334001.out) (Kd.R_base ho0) hb);have n2_:=A0_ (Kd.V_elder' (by (with_reducible repeat first|apply Va_|apply Vn_|apply Vd_);exact HO_334002.out) (Kd.R_base ho0) hb);have n3_:=A0_ (Kd.R_lower (Kd.R_newM (M:=fun k_=>(w.heap.size ≤ k_)) ho0 (below_size (by repeat (first|(with_reducible first|exact HB.out|apply ba_|apply pN_|apply b1_|refine bs_ ?_ GE333.out|refine bs_ ?_ GE334.out)|exact HB.out))) (fun k_ h_=>h_)) (below_size (by repeat (first|(with_reducible first|exact HB.out|apply ba_|apply pN_|apply b1_|refine bs_ ?_ GE333.out|refine bs_ ?_ GE334.out)|exact HB.out))));have n4_:=A0_ (blk_below (g:=gb333) (o:=.cells #[.slice A0_0 l0_0.length c0_0,.slice A0_1 l0_1.length c0_1,.slice A0_2 l0_2.length c0_2] 55 (0,0)) (by (with_reducible repeat first|refine bN_ ?_ _|refine bD_ ?_|refine bA_ ?_ _);exact BK333.out) hb);have n5_:=A0_ (blk_below (g:=gb334) (o:=.cells #[.slice none 0 0,.slice none 0 0,.slice none 0 0] 55 (0,0)) (by (with_reducible repeat first|refine bN_ ?_ _|refine bD_ ?_|refine bA_ ?_ _);exact BK334.out) hb);have n6_:=A0_ (below_step (by repeat (first|(with_reducible first|exact HB.out|apply ba_|apply pN_|apply b1_|refine bs_ ?_ GE333.out|refine bs_ ?_ GE334.out)|exact HB.out)) hb);clear HO_334000;clear HO_334001;clear HO_334002;clear BK333;clear BK334;clear HB;have HO_334000:=n0_;have HO_334001:=n1_;have HO_334002:=n2_;have HO337:=n3_;have BK333:=n4_;have BK334:=n5_;have HB:=n6_;clear n0_ n1_ n2_ n3_ n4_ n5_ n6_;(try clear hb);(try clear hb2);(try clear hk);(try clear hi);(try clear ho0);refine hK.out _ _ ⟨(blk_cell BK333.out 0).trans rfl,(blk_cell BK333.out 1).trans rfl,(blk_cell BK333.out 2).trans rfl⟩ (fun hHeld=>?_);clear hK K;refine norm_ (a':=?_) ?_ ?_;rotate_left
          · show Act.put _ (some 32) _ = _
            simp only [Act.put,sA_,sZ_,sS_,i64_w,i32_w]
            rfl
          refine one_ (i:=6) (N:=some 9) #[true,true,true,true,true,true,true,false,false] rfl rfl (one_of HT_.out (by kernel_rfl)) (by decide) (fun K hK=>?_);refine box_step ?hg (N:=9) ?hd (cs:=#[.slice none 0 0,.slice none 0 0,.slice none 0 0]) (t:=55) ?hr ?_;(case hd=>rfl);(case hg=>rfl);(case hr=>first|(go_simp;done)|(go_simp;rfl))
          intro gb338 hg w20 hbox hb
          have n0_:=A0_ (Kd.V_below (Kd.V_elderB (by (with_reducible repeat first|apply Va_|apply Vn_|apply Vd_);exact HO_334000.out) gb338 (Nat.le_of_eq hg.symm)) hb);have n1_:=A0_ (Kd.V_below (Kd.V_elderB (by (with_reducible repeat first|apply Va_|apply Vn_|apply Vd_);exact HO_334001.out) gb338 (Nat.le_of_eq hg.symm)) hb);have n2_:=A0_ (Kd.V_below (Kd.V_elderB (by (with_reducible repeat first|apply Va_|apply Vn_|apply Vd_);exact HO_334002.out) gb338 (Nat.le_of_eq hg.symm)) hb);have n3_:=A0_ (Kd.R_below (by (with_reducible repeat first|apply Ra_|apply Rn_|apply Rd_);exact HO337.out) hb);have n4_:=A0_ (blk_below (g:=gb333) (o:=.cells #[.slice A0_0 l0_0.length c0_0,.slice A0_1 l0_1.length c0_1,.slice A0_2 l0_2.length c0_2] 55 (0,0)) (by (with_reducible repeat first|refine bN_ ?_ _|refine bD_ ?_|refine bA_ ?_ _);exact BK333.out) hb);have n5_:=A0_ (blk_below (g:=gb334) (o:=.cells #[.slice none 0 0,.slice none 0 0,.slice none 0 0] 55 (0,0)) (by (with_reducible repeat first|refine bN_ ?_ _|refine bD_ ?_|refine bA_ ?_ _);exact BK334.out) hb);have n6_:=A0_ (below_step (by repeat (first|(with_reducible first|exact HB.out|apply ba_|apply pN_|apply b1_|refine bs_ ?_ GE333.out|refine bs_ ?_ GE334.out)|exact HB.out)) hb);have n7_:=A0_ (hbox);have n8_:=A0_ ((by rw [hg];exact (below_size (by repeat (first|(with_reducible first|exact HB.out|apply ba_|apply pN_|apply b1_|refine bs_ ?_ GE333.out|refine bs_ ?_ GE334.out)|exact HB.out))) : w.heap.size ≤ gb338));have n9_:=A0_ ((by rw [hg];exact (below_size (by repeat (first|(with_reducible first|exact HB.out|apply ba_|apply pN_|apply b1_|refine bs_ ?_ GE333.out|refine bs_ ?_ GE334.out)|exact HB.out))) : w.heap.size ≤ gb338));have n10_:=A0_ ((by rw [hg];exact Nat.ne_of_lt (blk_lt (g:=gb333) (o:=.cells #[.slice A0_0 l0_0.length c0_0,.slice A0_1 l0_1.length c0_1,.slice A0_2 l0_2.length c0_2] 55 (0,0)) (by (with_reducible repeat first|refine bN_ ?_ _|refine bD_ ?_|refine bA_ ?_ _);exact BK333.out)) : gb333 ≠ gb338));have n11_:=A0_ ((by rw [hg];exact Nat.ne_of_gt (blk_lt (g:=gb333) (o:=.cells #[.slice A0_0 l0_0.length c0_0,.slice A0_1 l0_1.length c0_1,.slice A0_2 l0_2.length c0_2] 55 (0,0)) (by (with_reducible repeat first|refine bN_ ?_ _|refine bD_ ?_|refine bA_ ?_ _);exact BK333.out)) : gb338 ≠ gb333));have n12_:=A0_ ((by rw [hg];exact Nat.ne_of_lt (blk_lt (g:=gb334) (o:=.cells #[.slice none 0 0,.slice none 0 0,.slice none 0 0] 55 (0,0)) (by (with_reducible repeat first|refine bN_ ?_ _|refine bD_ ?_|refine bA_ ?_ _);exact BK334.out)) : gb334 ≠ gb338));have n13_:=A0_ ((by rw [hg];exact Nat.ne_of_gt (blk_lt (g:=gb334) (o:=.cells #[.slice none 0 0,.slice none 0 0,.slice none 0 0] 55 (0,0)) (by (with_reducible repeat first|refine bN_ ?_ _|refine bD_ ?_|refine bA_ ?_ _);exact BK334.out)) : gb338 ≠ gb334));clear HO_334000;clear HO_334001;clear HO_334002;clear HO337;clear BK333;clear BK334;clear HB;have HO_334000:=n0_;have HO_334001:=n1_;have HO_334002:=n2_;have HO337:=n3_;have BK333:=n4_;have BK334:=n5_;have HB:=n6_;have BK338:=n7_;have GW338:=n8_;have GE338:=n9_;have NB333_338:=n10_;have NB338_333:=n11_;have NB334_338:=n12_;have NB338_334:=n13_;clear n0_ n1_ n2_ n3_ n4_ n5_ n6_ n7_ n8_ n9_ n10_ n11_ n12_ n13_;clear hb hbox hg;refine hK.out _ _ ⟨(blk_cell BK333.out 0).trans rfl,(blk_cell BK333.out 1).trans rfl,(blk_cell BK333.out 2).trans rfl⟩ (fun hHeld=>?_);clear hK K;refine norm_ (a':=?_) ?_ ?_;rotate_left
          · show Act.put _ (some 9) _ = _
            simp only [Act.put,sA_,sZ_,sS_,i64_w,i32_w]
            rfl
          exact norm_ (by simp only [putAll,Act.put,sA_,sZ_,sS_]) (hCont (v336,gb338) _ ⟨hHeld,(by (with_reducible repeat first|apply Ra_|apply Rn_|apply Rd_);exact Kd.R_mono HO337.out (fun _ hk=>hk.1)),(by (with_reducible repeat first|apply Va_|apply Vn_|apply Vd_);exact Kd.V_mono HO_334000.out (fun _ hk=>⟨hk.1.1.1,⟨hk.1.2,⟨hk.1.1.2.1,⟨hk.1.1.2.2,hk.2⟩⟩⟩⟩)),(by (with_reducible repeat first|apply Va_|apply Vn_|apply Vd_);exact Kd.V_mono HO_334001.out (fun _ hk=>⟨hk.1.1.1,⟨hk.1.2,⟨hk.1.1.2.1,⟨hk.1.1.2.2,hk.2⟩⟩⟩⟩)),(by (with_reducible repeat first|apply Va_|apply Vn_|apply Vd_);exact Kd.V_mono HO_334002.out (fun _ hk=>⟨hk.1.1.1,⟨hk.1.2,⟨hk.1.1.2.1,⟨hk.1.1.2.2,hk.2⟩⟩⟩⟩)),(by (with_reducible repeat first|refine bN_ ?_ _|refine bD_ ?_|refine bA_ ?_ _);exact BK333.out),(by (with_reducible repeat first|refine bN_ ?_ _|refine bD_ ?_|refine bA_ ?_ _);exact BK334.out),(by (with_reducible repeat first|refine bN_ ?_ _|refine bD_ ?_|refine bA_ ?_ _);exact BK338.out),GW338.out,GE338.out,NB333_338.out,NB338_333.out,NB334_338.out,NB338_334.out,(by repeat (first|(with_reducible first|exact HB.out|apply ba_|apply pN_|apply b1_|refine bs_ ?_ GE333.out|refine bs_ ?_ GE334.out|refine bs_ ?_ GE338.out)|exact HB.out))⟩)
        · skip
          refine box_step ?hg (N:=9) ?hd (cs:=#[.slice none 0 0,.slice none 0 0,.slice none 0 0]) (t:=55) ?hr ?_;(case hd=>rfl);(case hg=>rfl);(case hr=>first|(go_simp;done)|(go_simp;rfl))
          intro gb338 hg w19 hbox hb
          have n0_:=A0_ (Kd.V_below (Kd.V_elderB (by (with_reducible repeat first|apply Va_|apply Vn_|apply Vd_);exact HO_334000.out) gb338 (Nat.le_of_eq hg.symm)) hb);have n1_:=A0_ (Kd.V_below (Kd.V_elderB (by (with_reducible repeat first|apply Va_|apply Vn_|apply Vd_);exact HO_334001.out) gb338 (Nat.le_of_eq hg.symm)) hb);have n2_:=A0_ (Kd.V_below (Kd.V_elderB (by (with_reducible repeat first|apply Va_|apply Vn_|apply Vd_);exact HO_334002.out) gb338 (Nat.le_of_eq hg.symm)) hb);have n3_:=A0_ (blk_below (g:=gb333) (o:=.cells #[.slice A0_0 l0_0.length c0_0,.slice A0_1 l0_1.length c0_1,.slice A0_2 l0_2.length c0_2] 55 (0,0)) (by (with_reducible repeat first|refine bN_ ?_ _|refine bD_ ?_|refine bA_ ?_ _);exact BK333.out) hb);have n4_:=A0_ (blk_below (g:=gb334) (o:=.cells #[.slice none 0 0,.slice none 0 0,.slice none 0 0] 55 (0,0)) (by (with_reducible repeat first|refine bN_ ?_ _|refine bD_ ?_|refine bA_ ?_ _);exact BK334.out) hb);have n5_:=A0_ (below_step (by repeat (first|(with_reducible first|exact HB.out|apply ba_|apply pN_|apply b1_|refine bs_ ?_ GE333.out|refine bs_ ?_ GE334.out)|exact HB.out)) hb);have n6_:=A0_ (hbox);have n7_:=A0_ ((by rw [hg];exact (below_size (by repeat (first|(with_reducible first|exact HB.out|apply ba_|apply pN_|apply b1_|refine bs_ ?_ GE333.out|refine bs_ ?_ GE334.out)|exact HB.out))) : w.heap.size ≤ gb338));have n8_:=A0_ ((by rw [hg];exact (below_size (by repeat (first|(with_reducible first|exact HB.out|apply ba_|apply pN_|apply b1_|refine bs_ ?_ GE333.out|refine bs_ ?_ GE334.out)|exact HB.out))) : w.heap.size ≤ gb338));have n9_:=A0_ ((by rw [hg];exact Nat.ne_of_lt (blk_lt (g:=gb333) (o:=.cells #[.slice A0_0 l0_0.length c0_0,.slice A0_1 l0_1.length c0_1,.slice A0_2 l0_2.length c0_2] 55 (0,0)) (by (with_reducible repeat first|refine bN_ ?_ _|refine bD_ ?_|refine bA_ ?_ _);exact BK333.out)) : gb333 ≠ gb338));have n10_:=A0_ ((by rw [hg];exact Nat.ne_of_gt (blk_lt (g:=gb333) (o:=.cells #[.slice A0_0 l0_0.length c0_0,.slice A0_1 l0_1.length c0_1,.slice A0_2 l0_2.length c0_2] 55 (0,0)) (by (with_reducible repeat first|refine bN_ ?_ _|refine bD_ ?_|refine bA_ ?_ _);exact BK333.out)) : gb338 ≠ gb333));have n11_:=A0_ ((by rw [hg];exact Nat.ne_of_lt (blk_lt (g:=gb334) (o:=.cells #[.slice none 0 0,.slice none 0 0,.slice none 0 0] 55 (0,0)) (by (with_reducible repeat first|refine bN_ ?_ _|refine bD_ ?_|refine bA_ ?_ _);exact BK334.out)) : gb334 ≠ gb338));have n12_:=A0_ ((by rw [hg];exact Nat.ne_of_gt (blk_lt (g:=gb334) (o:=.cells #[.slice none 0 0,.slice none 0 0,.slice none 0 0] 55 (0,0)) (by (with_reducible repeat first|refine bN_ ?_ _|refine bD_ ?_|refine bA_ ?_ _);exact BK334.out)) : gb338 ≠ gb334));clear HO_334000;clear HO_334001;clear HO_334002;clear BK333;clear BK334;clear HB;have HO_334000:=n0_;have HO_334001:=n1_;have HO_334002:=n2_;have BK333:=n3_;have BK334:=n4_;have HB:=n5_;have BK338:=n6_;have GW338:=n7_;have GE338:=n8_;have NB333_338:=n9_;have NB338_333:=n10_;have NB334_338:=n11_;have NB338_334:=n12_;clear n0_ n1_ n2_ n3_ n4_ n5_ n6_ n7_ n8_ n9_ n10_ n11_ n12_;clear hb hbox hg;refine hK.out _ _ ⟨(blk_cell BK333.out 0).trans rfl,(blk_cell BK333.out 1).trans rfl,(blk_cell BK333.out 2).trans rfl⟩ (fun hHeld=>?_);clear hK K;refine norm_ (a':=?_) ?_ ?_;rotate_left
          · show Act.put _ (some 9) _ = _
            simp only [Act.put,sA_,sZ_,sS_,i64_w,i32_w]
            rfl
          refine one_ (i:=2) (N:=some 32) #[true,true,true,true,true,true,true,false,false] rfl rfl (one_of HT_.out (by kernel_rfl)) (by decide) (fun K hK=>?_);refine goes_ Try.func35 (by kernel_rfl) rfl #[.agg #[.slice A0_0 l0_0.length c0_0,.slice A0_1 l0_1.length c0_1,.slice A0_2 l0_2.length c0_2],.int .i64 a1] (by rfl) rfl rfl (by first|(simp only [List.map_toArray,List.map_cons,List.map_nil] <;> rfl)|rfl|(simp only [List.length_drop,List.length_take];rfl)) ?_
          with_reducible refine (logjamref25_Left.calls kj3 _ _ l0_0 _ _ l0_1 _ _ l0_2 a1 t335 _ ?side1 ?side2 ?side3 ?side4 ?side5 ?side6 A17.out).mono ?_
          (case side1=>repeat (first|exact (Kd.V_reads' HO_334000.out).2.2|(with_reducible first|refine Ca_ ?_ _|refine Cn_ ?_ _|refine Cd_ ?_)))
          (case side2=>exact (Kd.V_reads' HO_334000.out).2.1)
          (case side3=>repeat (first|exact (Kd.V_reads' HO_334001.out).2.2|(with_reducible first|refine Ca_ ?_ _|refine Cn_ ?_ _|refine Cd_ ?_)))
          (case side4=>exact (Kd.V_reads' HO_334001.out).2.1)
          (case side5=>repeat (first|exact (Kd.V_reads' HO_334002.out).2.2|(with_reducible first|refine Ca_ ?_ _|refine Cn_ ?_ _|refine Cd_ ?_)))
          (case side6=>exact (Kd.V_reads' HO_334002.out).2.1)
          rintro e w20 ⟨v336,rfl,ho0,hb⟩
          refine ⟨_,rfl,?_⟩;have n0_:=A0_ (Kd.V_elder' (by (with_reducible repeat first|apply Va_|apply Vn_|apply Vd_);exact HO_334000.out) (Kd.R_base ho0) hb);have n1_:=A0_ (Kd.V_elder' (by (with_reducible repeat first|apply Va_|apply Vn_|apply Vd_);exact HO_334001.out) (Kd.R_base ho0) hb);have n2_:=A0_ (Kd.V_elder' (by (with_reducible repeat first|apply Va_|apply Vn_|apply Vd_);exact HO_334002.out) (Kd.R_base ho0) hb);have n3_:=A0_ (Kd.R_lower (Kd.R_newM (M:=fun k_=>(w.heap.size ≤ k_)) ho0 (below_size (by repeat (first|(with_reducible first|exact HB.out|apply ba_|apply pN_|apply b1_|refine bs_ ?_ GE333.out|refine bs_ ?_ GE334.out|refine bs_ ?_ GE338.out)|exact HB.out))) (fun k_ h_=>h_)) (below_size (by repeat (first|(with_reducible first|exact HB.out|apply ba_|apply pN_|apply b1_|refine bs_ ?_ GE333.out|refine bs_ ?_ GE334.out|refine bs_ ?_ GE338.out)|exact HB.out))));have n4_:=A0_ (blk_below (g:=gb333) (o:=.cells #[.slice A0_0 l0_0.length c0_0,.slice A0_1 l0_1.length c0_1,.slice A0_2 l0_2.length c0_2] 55 (0,0)) (by (with_reducible repeat first|refine bN_ ?_ _|refine bD_ ?_|refine bA_ ?_ _);exact BK333.out) hb);have n5_:=A0_ (blk_below (g:=gb334) (o:=.cells #[.slice none 0 0,.slice none 0 0,.slice none 0 0] 55 (0,0)) (by (with_reducible repeat first|refine bN_ ?_ _|refine bD_ ?_|refine bA_ ?_ _);exact BK334.out) hb);have n6_:=A0_ (blk_below (g:=gb338) (o:=.cells #[.slice none 0 0,.slice none 0 0,.slice none 0 0] 55 (0,0)) (by (with_reducible repeat first|refine bN_ ?_ _|refine bD_ ?_|refine bA_ ?_ _);exact BK338.out) hb);have n7_:=A0_ (below_step (by repeat (first|(with_reducible first|exact HB.out|apply ba_|apply pN_|apply b1_|refine bs_ ?_ GE333.out|refine bs_ ?_ GE334.out|refine bs_ ?_ GE338.out)|exact HB.out)) hb);clear HO_334000;clear HO_334001;clear HO_334002;clear BK333;clear BK334;clear BK338;clear HB;have HO_334000:=n0_;have HO_334001:=n1_;have HO_334002:=n2_;have HO337:=n3_;have BK333:=n4_;have BK334:=n5_;have BK338:=n6_;have HB:=n7_;clear n0_ n1_ n2_ n3_ n4_ n5_ n6_ n7_;(try clear hb);(try clear hb2);(try clear hk);(try clear hi);(try clear ho0);refine hK.out _ _ ⟨(blk_cell BK333.out 0).trans rfl,(blk_cell BK333.out 1).trans rfl,(blk_cell BK333.out 2).trans rfl⟩ (fun hHeld=>?_);clear hK K;refine norm_ (a':=?_) ?_ ?_;rotate_left
          · show Act.put _ (some 32) _ = _
            simp only [Act.put,sA_,sZ_,sS_,i64_w,i32_w]
            rfl
          exact norm_ (by simp only [putAll,Act.put,sA_,sZ_,sS_]) (hCont (v336,gb338) _ ⟨hHeld,(by (with_reducible repeat first|apply Ra_|apply Rn_|apply Rd_);exact Kd.R_mono HO337.out (fun _ hk=>hk.1)),(by (with_reducible repeat first|apply Va_|apply Vn_|apply Vd_);exact Kd.V_mono HO_334000.out (fun _ hk=>⟨hk.1.1.1,⟨hk.2,⟨hk.1.1.2.1,⟨hk.1.1.2.2,hk.1.2⟩⟩⟩⟩)),(by (with_reducible repeat first|apply Va_|apply Vn_|apply Vd_);exact Kd.V_mono HO_334001.out (fun _ hk=>⟨hk.1.1.1,⟨hk.2,⟨hk.1.1.2.1,⟨hk.1.1.2.2,hk.1.2⟩⟩⟩⟩)),(by (with_reducible repeat first|apply Va_|apply Vn_|apply Vd_);exact Kd.V_mono HO_334002.out (fun _ hk=>⟨hk.1.1.1,⟨hk.2,⟨hk.1.1.2.1,⟨hk.1.1.2.2,hk.1.2⟩⟩⟩⟩)),(by (with_reducible repeat first|refine bN_ ?_ _|refine bD_ ?_|refine bA_ ?_ _);exact BK333.out),(by (with_reducible repeat first|refine bN_ ?_ _|refine bD_ ?_|refine bA_ ?_ _);exact BK334.out),(by (with_reducible repeat first|refine bN_ ?_ _|refine bD_ ?_|refine bA_ ?_ _);exact BK338.out),GW338.out,GE338.out,NB333_338.out,NB338_333.out,NB334_338.out,NB338_334.out,(by repeat (first|(with_reducible first|exact HB.out|apply ba_|apply pN_|apply b1_|refine bs_ ?_ GE333.out|refine bs_ ?_ GE334.out|refine bs_ ?_ GE338.out)|exact HB.out))⟩)
      rintro ⟨v336,gb338⟩ w21 ⟨hS_,h0_,h1_,h2_,h3_,h4_,h5_,h6_,h7_,h8_,h9_,h10_,h11_,h12_,h13_⟩
      have n0_ : Aside0 (Kd.R (Kd.int .i64) 3 w21 w.heap.size (fun k_=>(w.heap.size ≤ k_)) v336 t335):=⟨h0_⟩;have n1_ : Aside0 (Kd.V (Kd.int .i64) 3 w21 w.heap.size (fun k_=>((P0_0_ k_ ∨ P0_1_ k_ ∨ P0_2_ k_) ∨ w.heap.size ≤ k_) ∧ some k_ ≠ (v336 : Value).ownBlock ∧ k_ ≠ gb333 ∧ k_ ≠ gb334 ∧ k_ ≠ gb338) (.slice A0_0 l0_0.length c0_0) l0_0):=⟨h1_⟩;have n2_ : Aside0 (Kd.V (Kd.slice 3 (Kd.int .i64)) 23 w21 w.heap.size (fun k_=>((P0_0_ k_ ∨ P0_1_ k_ ∨ P0_2_ k_) ∨ w.heap.size ≤ k_) ∧ some k_ ≠ (v336 : Value).ownBlock ∧ k_ ≠ gb333 ∧ k_ ≠ gb334 ∧ k_ ≠ gb338) (.slice A0_1 l0_1.length c0_1) l0_1):=⟨h2_⟩;have n3_ : Aside0 (Kd.V (Kd.slice 3 (Kd.int .i64)) 23 w21 w.heap.size (fun k_=>((P0_0_ k_ ∨ P0_1_ k_ ∨ P0_2_ k_) ∨ w.heap.size ≤ k_) ∧ some k_ ≠ (v336 : Value).ownBlock ∧ k_ ≠ gb333 ∧ k_ ≠ gb334 ∧ k_ ≠ gb338) (.slice A0_2 l0_2.length c0_2) l0_2):=⟨h3_⟩;have n4_ : Aside0 (w21.heap[gb333]? = some (.cells #[.slice A0_0 l0_0.length c0_0,.slice A0_1 l0_1.length c0_1,.slice A0_2 l0_2.length c0_2] 55 (0,0))):=⟨h4_⟩;have n5_ : Aside0 (w21.heap[gb334]? = some (.cells #[.slice none 0 0,.slice none 0 0,.slice none 0 0] 55 (0,0))):=⟨h5_⟩;have n6_ : Aside0 (w21.heap[gb338]? = some (.cells #[.slice none 0 0,.slice none 0 0,.slice none 0 0] 55 (0,0))):=⟨h6_⟩;have n7_ : Aside0 (w.heap.size ≤ gb338):=⟨h7_⟩;have n8_ : Aside0 (w.heap.size ≤ gb338):=⟨h8_⟩;have n9_ : Aside0 (gb333 ≠ gb338):=⟨h9_⟩;have n10_ : Aside0 (gb338 ≠ gb333):=⟨h10_⟩;have n11_ : Aside0 (gb334 ≠ gb338):=⟨h11_⟩;have n12_ : Aside0 (gb338 ≠ gb334):=⟨h12_⟩;have n13_ : Aside0 (Below w.heap.size w w21):=⟨h13_⟩;clear HO_334000;clear HO_334001;clear HO_334002;clear BK333;clear BK334;clear HB;clear h0_ h1_ h2_ h3_ h4_ h5_ h6_ h7_ h8_ h9_ h10_ h11_ h12_ h13_;have HO337:=n0_;have HO_334000:=n1_;have HO_334001:=n2_;have HO_334002:=n3_;have BK333:=n4_;have BK334:=n5_;have BK338:=n6_;have GW338:=n7_;have GE338:=n8_;have NB333_338:=n9_;have NB338_333:=n10_;have NB334_338:=n11_;have NB338_334:=n12_;have HB:=n13_;clear n0_ n1_ n2_ n3_ n4_ n5_ n6_ n7_ n8_ n9_ n10_ n11_ n12_ n13_;have hHeld : w21.cell? ⟨gb333,0,none⟩ = some (.slice A0_0 l0_0.length c0_0) ∧ w21.cell? ⟨gb333,1,none⟩ = some (.slice A0_1 l0_1.length c0_1) ∧ w21.cell? ⟨gb333,2,none⟩ = some (.slice A0_2 l0_2.length c0_2):=hS_;refine norm_ (a':=?_) ?_ ?_;rotate_left
      · simp only [putAll,Act.put,sA_,sZ_,sS_]
        rfl
      refine pure_ (i:=7) (N:=some 8) (v:=?_) (a':=?_) #[true,true,true,true,true,true,true,true,false] rfl rfl (any_of HT_.out (by kernel_rfl)) (fun _ _ _ h=>h) (Or.inl ⟨by rfl,?_⟩) ?_ ?_;rotate_left
      · intro w'
        go_simp
        with_reducible rfl
      rotate_left
      · simp only [Act.put,sA_,sZ_,sS_,i64_w,i32_w]
        rfl
      refine one_ (i:=8) (N:=none) #[true,true,true,true,true,true,true,true,true] rfl rfl (one_of HT_.out (by kernel_rfl)) (by decide) (fun K hK=>?_);have hs22 : w21.cell? ⟨gb338,0,none⟩ = some (.slice none 0 0):=(blk_cell BK338.out 0).trans rfl;have hfs22:=blk_frozen BK338.out 0;have hns22_0:=NB333_338.out;have hns22_1:=NB334_338.out;have hms22_0:=NB338_333.out;have hms22_1:=NB338_334.out;have hs23 : w21.cell? ⟨gb338,1,none⟩ = some (.slice none 0 0):=(blk_cell BK338.out 1).trans rfl;have hfs23:=blk_frozen BK338.out 1;have hns23_0:=NB333_338.out;have hns23_1:=NB334_338.out;have hms23_0:=NB338_333.out;have hms23_1:=NB338_334.out;have hs24 : w21.cell? ⟨gb338,2,none⟩ = some (.slice none 0 0):=(blk_cell BK338.out 2).trans rfl;have hfs24:=blk_frozen BK338.out 2;have hns24_0:=NB333_338.out;have hns24_1:=NB334_338.out;have hms24_0:=NB338_333.out;have hms24_1:=NB338_334.out;refine skip_ (w1:=?_) (by rfl) rfl ?_ ?_;rotate_left
      · go_simp
        rfl
      refine hK.out _ _ ⟨((cell_far (p:=⟨gb338,_,none⟩) NB333_338.out _).trans (((cell_far (p:=⟨gb338,_,none⟩) NB333_338.out _).trans (((cell_far (p:=⟨gb338,_,none⟩) NB333_338.out _).trans (hHeld.1)))))),((cell_far (p:=⟨gb338,_,none⟩) NB333_338.out _).trans (((cell_far (p:=⟨gb338,_,none⟩) NB333_338.out _).trans (((cell_far (p:=⟨gb338,_,none⟩) NB333_338.out _).trans (hHeld.2.1)))))),((cell_far (p:=⟨gb338,_,none⟩) NB333_338.out _).trans (((cell_far (p:=⟨gb338,_,none⟩) NB333_338.out _).trans (((cell_far (p:=⟨gb338,_,none⟩) NB333_338.out _).trans (hHeld.2.2))))))⟩ (fun hHeld=>?_);clear hK K;refine done_ (done_of HT_.out (by kernel_rfl)) ?_
      try go_wp2
      go_loopg [10] kj3 (fun kq v10 w'=>∃ (x10_2 : Int) (x339000_2 : List Int) (u339000 : Value),v10 = .int .i64 x10_2 ∧ Aside0 (logjamref25_Given.l0 kq a1 l2 t335 x10_2 l0_0 l0_1 l0_2 x339000_2 l0_2 = some (r1,r2,r3,r4)) ∧ Aside0 (kq ≤ kj3) ∧ Aside0 (Kd.R (Kd.int .i64) 3 w' w.heap.size (fun k_=>(w.heap.size ≤ k_) ∧ some k_ ≠ (u339000 : Value).ownBlock) v336 t335) ∧ Aside0 (Kd.V (Kd.int .i64) 3 w' w.heap.size (fun k_=>((P0_0_ k_ ∨ P0_1_ k_ ∨ P0_2_ k_) ∨ w.heap.size ≤ k_) ∧ some k_ ≠ (v336 : Value).ownBlock ∧ some k_ ≠ (u339000 : Value).ownBlock ∧ k_ ≠ gb333 ∧ k_ ≠ gb334 ∧ k_ ≠ gb338) (.slice A0_0 l0_0.length c0_0) l0_0) ∧ Aside0 (Kd.V (Kd.slice 3 (Kd.int .i64)) 23 w' w.heap.size (fun k_=>((P0_0_ k_ ∨ P0_1_ k_ ∨ P0_2_ k_) ∨ w.heap.size ≤ k_) ∧ some k_ ≠ (v336 : Value).ownBlock ∧ some k_ ≠ (u339000 : Value).ownBlock ∧ k_ ≠ gb333 ∧ k_ ≠ gb334 ∧ k_ ≠ gb338) (.slice A0_1 l0_1.length c0_1) l0_1) ∧ Aside0 (Kd.V (Kd.slice 3 (Kd.int .i64)) 23 w' w.heap.size (fun k_=>((P0_0_ k_ ∨ P0_1_ k_ ∨ P0_2_ k_) ∨ w.heap.size ≤ k_) ∧ some k_ ≠ (v336 : Value).ownBlock ∧ some k_ ≠ (u339000 : Value).ownBlock ∧ k_ ≠ gb333 ∧ k_ ≠ gb334 ∧ k_ ≠ gb338) (.slice A0_2 l0_2.length c0_2) l0_2) ∧ Aside0 (Kd.R (Kd.int .i64) 3 w' w.heap.size (fun k_=>(w.heap.size ≤ k_) ∧ some k_ ≠ (v336 : Value).ownBlock) u339000 x339000_2) ∧ Aside0 (Kd.V (Kd.slice 3 (Kd.int .i64)) 23 w' w.heap.size (fun k_=>((P0_0_ k_ ∨ P0_1_ k_ ∨ P0_2_ k_) ∨ w.heap.size ≤ k_) ∧ some k_ ≠ (v336 : Value).ownBlock ∧ some k_ ≠ (u339000 : Value).ownBlock ∧ k_ ≠ gb333 ∧ k_ ≠ gb334 ∧ k_ ≠ gb338) (.slice A0_2 l0_2.length c0_2) l0_2) ∧ Aside0 (w'.heap[gb333]? = some (.cells #[(.slice A0_0 l0_0.length c0_0),(.slice A0_1 l0_1.length c0_1),(.slice A0_2 l0_2.length c0_2)] 55 (0,0))) ∧ Aside0 (w'.heap[gb334]? = some (.cells #[(.slice none 0 0),(.slice none 0 0),(.slice none 0 0)] 55 (0,0))) ∧ Aside0 (w'.heap[gb338]? = some (.cells #[u339000,(.slice none 0 0),(.slice A0_2 l0_2.length c0_2)] 55 (0,0))) ∧ Aside0 (Below w.heap.size w w'))
      case atStart=>exact ⟨(0),(([] : List Int)),(.slice none 0 0),(by first|rfl|(simp;done)|(simp [*];done)),H',⟨Nat.le_refl _⟩,⟨by (with_reducible repeat first|apply Ra_|apply Rn_|apply Rd_);exact Kd.R_mono (Kd.R_far (p:=⟨gb338,2,none⟩) (Kd.R_far (p:=⟨gb338,1,none⟩) (Kd.R_far (p:=⟨gb338,0,none⟩) (Kd.R_types HO337.out BK338.out (by decide)) (fun _ hk=>hk.2) (.slice none 0 0)) (fun _ hk=>hk.2) (.slice none 0 0)) (fun _ hk=>hk.2) (.slice A0_2 l0_2.length c0_2)) (fun _ hk=>⟨hk.1,(by simp [Value.ownBlock])⟩)⟩,⟨by (with_reducible repeat first|apply Va_|apply Vn_|apply Vd_);exact Kd.V_mono (Kd.V_far (p:=⟨gb338,2,none⟩) (Kd.V_far (p:=⟨gb338,1,none⟩) (Kd.V_far (p:=⟨gb338,0,none⟩) (Kd.V_mono HO_334000.out (fun k_ hk=>(⟨hk,hk.2.2.2.2⟩ : _ ∧ k_ ≠ gb338))) (fun _ hk=>hk.2) (.slice none 0 0)) (fun _ hk=>hk.2) (.slice none 0 0)) (fun _ hk=>hk.2) (.slice A0_2 l0_2.length c0_2)) (fun _ hk=>⟨hk.1.1,⟨hk.1.2.1,⟨(by simp [Value.ownBlock]),⟨hk.1.2.2.1,⟨hk.1.2.2.2.1,hk.1.2.2.2.2⟩⟩⟩⟩⟩)⟩,⟨by (with_reducible repeat first|apply Va_|apply Vn_|apply Vd_);exact Kd.V_mono (Kd.V_far (p:=⟨gb338,2,none⟩) (Kd.V_far (p:=⟨gb338,1,none⟩) (Kd.V_far (p:=⟨gb338,0,none⟩) (Kd.V_mono HO_334001.out (fun k_ hk=>(⟨hk,hk.2.2.2.2⟩ : _ ∧ k_ ≠ gb338))) (fun _ hk=>hk.2) (.slice none 0 0)) (fun _ hk=>hk.2) (.slice none 0 0)) (fun _ hk=>hk.2) (.slice A0_2 l0_2.length c0_2)) (fun _ hk=>⟨hk.1.1,⟨hk.1.2.1,⟨(by simp [Value.ownBlock]),⟨hk.1.2.2.1,⟨hk.1.2.2.2.1,hk.1.2.2.2.2⟩⟩⟩⟩⟩)⟩,⟨by (with_reducible repeat first|apply Va_|apply Vn_|apply Vd_);exact Kd.V_mono (Kd.V_far (p:=⟨gb338,2,none⟩) (Kd.V_far (p:=⟨gb338,1,none⟩) (Kd.V_far (p:=⟨gb338,0,none⟩) (Kd.V_mono HO_334002.out (fun k_ hk=>(⟨hk,hk.2.2.2.2⟩ : _ ∧ k_ ≠ gb338))) (fun _ hk=>hk.2) (.slice none 0 0)) (fun _ hk=>hk.2) (.slice none 0 0)) (fun _ hk=>hk.2) (.slice A0_2 l0_2.length c0_2)) (fun _ hk=>⟨hk.1.1,⟨hk.1.2.1,⟨(by simp [Value.ownBlock]),⟨hk.1.2.2.1,⟨hk.1.2.2.2.1,hk.1.2.2.2.2⟩⟩⟩⟩⟩)⟩,⟨by first|exact Kd.R_nil _ _ _ _ _|exact Kd.N_nil _ _ _ _ _|exact Kd.V_nil _ _ _ _ _|exact Kd.Q_nil _ _ _ _ _|exact Kd.S_nil _ _ _ _ _⟩,⟨by (with_reducible repeat first|apply Va_|apply Vn_|apply Vd_);exact Kd.V_mono (Kd.V_far (p:=⟨gb338,2,none⟩) (Kd.V_far (p:=⟨gb338,1,none⟩) (Kd.V_far (p:=⟨gb338,0,none⟩) (Kd.V_mono HO_334002.out (fun k_ hk=>(⟨hk,hk.2.2.2.2⟩ : _ ∧ k_ ≠ gb338))) (fun _ hk=>hk.2) (.slice none 0 0)) (fun _ hk=>hk.2) (.slice none 0 0)) (fun _ hk=>hk.2) (.slice A0_2 l0_2.length c0_2)) (fun _ hk=>⟨hk.1.1,⟨hk.1.2.1,⟨(by simp [Value.ownBlock]),⟨hk.1.2.2.1,⟨hk.1.2.2.2.1,hk.1.2.2.2.2⟩⟩⟩⟩⟩)⟩,⟨by (with_reducible repeat first|refine bN_ ?_ _|refine bD_ ?_|refine bA_ ?_ _);refine blk_far ?_ NB333_338.out _;(with_reducible repeat first|refine bN_ ?_ _|refine bD_ ?_|refine bA_ ?_ _);refine blk_far ?_ NB333_338.out _;(with_reducible repeat first|refine bN_ ?_ _|refine bD_ ?_|refine bA_ ?_ _);refine blk_far ?_ NB333_338.out _;(with_reducible repeat first|refine bN_ ?_ _|refine bD_ ?_|refine bA_ ?_ _);exact BK333.out⟩,⟨by (with_reducible repeat first|refine bN_ ?_ _|refine bD_ ?_|refine bA_ ?_ _);refine blk_far ?_ NB334_338.out _;(with_reducible repeat first|refine bN_ ?_ _|refine bD_ ?_|refine bA_ ?_ _);refine blk_far ?_ NB334_338.out _;(with_reducible repeat first|refine bN_ ?_ _|refine bD_ ?_|refine bA_ ?_ _);refine blk_far ?_ NB334_338.out _;(with_reducible repeat first|refine bN_ ?_ _|refine bD_ ?_|refine bA_ ?_ _);exact BK334.out⟩,⟨by (with_reducible repeat first|refine bN_ ?_ _|refine bD_ ?_|refine bA_ ?_ _);refine blk_put (cs:=#[.slice none 0 0,.slice none 0 0,.slice none 0 0]) ?_ 2 _ rfl;(with_reducible repeat first|refine bN_ ?_ _|refine bD_ ?_|refine bA_ ?_ _);refine blk_put (cs:=#[.slice none 0 0,.slice none 0 0,.slice none 0 0]) ?_ 1 _ rfl;(with_reducible repeat first|refine bN_ ?_ _|refine bD_ ?_|refine bA_ ?_ _);refine blk_put (cs:=#[.slice none 0 0,.slice none 0 0,.slice none 0 0]) ?_ 0 _ rfl;(with_reducible repeat first|refine bN_ ?_ _|refine bD_ ?_|refine bA_ ?_ _);exact BK338.out⟩,⟨by repeat (first|(with_reducible first|exact HB.out|apply ba_|apply pN_|apply b1_|refine bs_ ?_ GE333.out|refine bs_ ?_ GE334.out|refine bs_ ?_ GE338.out)|exact HB.out)⟩⟩
      case round =>
        clear H';(try clear c1);(try clear c2);(try clear p2);(try clear c3);(try clear c7);(try clear c7b0);(try clear c8);(try clear c8b0);(try clear c9);(try clear c11);(try clear c13);(try clear c14);(try clear hcz10_0);(try clear hcz10_1);(try clear hcz10_2);(try clear hcz12_0);(try clear hcz12_1);(try clear hcz12_2);(try clear hcz15_0);(try clear hcz15_1);(try clear hcz15_2);(try clear hcz16_0);(try clear hcz16_1);(try clear hcz16_2);(try clear hfz10_0);(try clear hfz10_1);(try clear hfz10_2);(try clear hfz12_0);(try clear hfz12_1);(try clear hfz12_2);(try clear hfz15_0);(try clear hfz15_1);(try clear hfz15_2);(try clear hfz16_0);(try clear hfz16_1);(try clear hfz16_2);(try clear p2);obtain ⟨x10_2,x339000_2,u339000,rfl,HA,HK2,HO_8,HO_334000,HO_334001,HO_334002,HO_339000,HO_339002,BK333,BK334,BK338,HB⟩:=hrel
        cases gk with
        | zero=>exact absurd HA.out (by simp [logjamref25_Given.l0])
        | succ k2 =>
          have H:=HA.out;clear HA;simp only [logjamref25_Given.l0] at H;by_cases c25 : x10_2 < (l2.length : Int);rotate_left
          · rw [if_neg c25] at H
            have c25b0 : decide (x10_2 < (l2.length : Int)) = false:=decide_eq_false c25;clear c25;have H':=A0_ H;clear H;go_wp2
            go_loopg [11] k2 (fun kq v11 w'=>∃ (x11_3 : Int) (x339001_3 : List (List Int)) (u339001 : Value),v11 = .int .i64 x11_3 ∧ Aside0 (logjamref25_Given.l1 kq a1 l2 x11_3 l0_0 l0_1 l0_2 x339000_2 x339001_3 l0_2 = some (r1,r2,r3,r4)) ∧ Aside0 (kq ≤ k2) ∧ Aside0 (Kd.V (Kd.int .i64) 3 w' w.heap.size (fun k_=>((P0_0_ k_ ∨ P0_1_ k_ ∨ P0_2_ k_) ∨ w.heap.size ≤ k_) ∧ some k_ ≠ (u339000 : Value).ownBlock ∧ some k_ ≠ (u339001 : Value).ownBlock ∧ k_ ≠ gb333 ∧ k_ ≠ gb334 ∧ k_ ≠ gb338) (.slice A0_0 l0_0.length c0_0) l0_0) ∧ Aside0 (Kd.V (Kd.slice 3 (Kd.int .i64)) 23 w' w.heap.size (fun k_=>((P0_0_ k_ ∨ P0_1_ k_ ∨ P0_2_ k_) ∨ w.heap.size ≤ k_) ∧ some k_ ≠ (u339000 : Value).ownBlock ∧ some k_ ≠ (u339001 : Value).ownBlock ∧ k_ ≠ gb333 ∧ k_ ≠ gb334 ∧ k_ ≠ gb338) (.slice A0_1 l0_1.length c0_1) l0_1) ∧ Aside0 (Kd.V (Kd.slice 3 (Kd.int .i64)) 23 w' w.heap.size (fun k_=>((P0_0_ k_ ∨ P0_1_ k_ ∨ P0_2_ k_) ∨ w.heap.size ≤ k_) ∧ some k_ ≠ (u339000 : Value).ownBlock ∧ some k_ ≠ (u339001 : Value).ownBlock ∧ k_ ≠ gb333 ∧ k_ ≠ gb334 ∧ k_ ≠ gb338) (.slice A0_2 l0_2.length c0_2) l0_2) ∧ Aside0 (Kd.R (Kd.int .i64) 3 w' w.heap.size (fun k_=>(w.heap.size ≤ k_)) u339000 x339000_2) ∧ Aside0 (Kd.N (Kd.slice 3 (Kd.int .i64)) 23 w' w.heap.size (fun k_=>((P0_0_ k_ ∨ P0_1_ k_ ∨ P0_2_ k_) ∨ w.heap.size ≤ k_) ∧ some k_ ≠ (u339000 : Value).ownBlock ∧ k_ ≠ gb333 ∧ k_ ≠ gb334 ∧ k_ ≠ gb338) u339001 x339001_3) ∧ Aside0 (Kd.V (Kd.slice 3 (Kd.int .i64)) 23 w' w.heap.size (fun k_=>((P0_0_ k_ ∨ P0_1_ k_ ∨ P0_2_ k_) ∨ w.heap.size ≤ k_) ∧ some k_ ≠ (u339000 : Value).ownBlock ∧ some k_ ≠ (u339001 : Value).ownBlock ∧ k_ ≠ gb333 ∧ k_ ≠ gb334 ∧ k_ ≠ gb338) (.slice A0_2 l0_2.length c0_2) l0_2) ∧ Aside0 (w'.heap[gb333]? = some (.cells #[(.slice A0_0 l0_0.length c0_0),(.slice A0_1 l0_1.length c0_1),(.slice A0_2 l0_2.length c0_2)] 55 (0,0))) ∧ Aside0 (w'.heap[gb334]? = some (.cells #[(.slice none 0 0),(.slice none 0 0),(.slice none 0 0)] 55 (0,0))) ∧ Aside0 (w'.heap[gb338]? = some (.cells #[u339000,u339001,(.slice A0_2 l0_2.length c0_2)] 55 (0,0))) ∧ Aside0 (Below w.heap.size w w'))
            case atStart=>exact ⟨(0),(([] : List (List Int))),(.slice none 0 0),(by first|rfl|(simp;done)|(simp [*];done)),H',⟨Nat.le_refl _⟩,⟨by (with_reducible repeat first|apply Va_|apply Vn_|apply Vd_);exact Kd.V_mono HO_334000.out (fun _ hk=>⟨hk.1,⟨hk.2.2.1,⟨(by simp [Value.ownBlock]),⟨hk.2.2.2.1,⟨hk.2.2.2.2.1,hk.2.2.2.2.2⟩⟩⟩⟩⟩)⟩,⟨by (with_reducible repeat first|apply Va_|apply Vn_|apply Vd_);exact Kd.V_mono HO_334001.out (fun _ hk=>⟨hk.1,⟨hk.2.2.1,⟨(by simp [Value.ownBlock]),⟨hk.2.2.2.1,⟨hk.2.2.2.2.1,hk.2.2.2.2.2⟩⟩⟩⟩⟩)⟩,⟨by (with_reducible repeat first|apply Va_|apply Vn_|apply Vd_);exact Kd.V_mono HO_334002.out (fun _ hk=>⟨hk.1,⟨hk.2.2.1,⟨(by simp [Value.ownBlock]),⟨hk.2.2.2.1,⟨hk.2.2.2.2.1,hk.2.2.2.2.2⟩⟩⟩⟩⟩)⟩,⟨by (with_reducible repeat first|apply Ra_|apply Rn_|apply Rd_);exact Kd.R_mono HO_339000.out (fun _ hk=>hk.1)⟩,⟨by first|exact Kd.S_nil _ _ _ _ _|exact Kd.N_nil _ _ _ _ _|exact Kd.V_nil _ _ _ _ _|exact Kd.Q_nil _ _ _ _ _|exact Kd.R_nil _ _ _ _ _⟩,⟨by (with_reducible repeat first|apply Va_|apply Vn_|apply Vd_);exact Kd.V_mono HO_339002.out (fun _ hk=>⟨hk.1,⟨hk.2.2.1,⟨(by simp [Value.ownBlock]),⟨hk.2.2.2.1,⟨hk.2.2.2.2.1,hk.2.2.2.2.2⟩⟩⟩⟩⟩)⟩,⟨by (with_reducible repeat first|refine bN_ ?_ _|refine bD_ ?_|refine bA_ ?_ _);exact BK333.out⟩,⟨by (with_reducible repeat first|refine bN_ ?_ _|refine bD_ ?_|refine bA_ ?_ _);exact BK334.out⟩,⟨by (with_reducible repeat first|refine bN_ ?_ _|refine bD_ ?_|refine bA_ ?_ _);exact BK338.out⟩,⟨by repeat (first|(with_reducible first|exact HB.out|apply ba_|apply pN_|apply b1_|refine bs_ ?_ GE333.out|refine bs_ ?_ GE334.out|refine bs_ ?_ GE338.out)|exact HB.out)⟩⟩
            case round =>
              clear H';(try clear c2);(try clear p2);(try clear c3);(try clear p3);(try clear q3);(try clear hx3);(try clear c4);(try clear p6);(try clear c25);(try clear c25b0);(try clear c27);(try clear c28);(try clear c28b0);(try clear c30);(try clear c30b0);(try clear c31);(try clear c31b0);(try clear p33);(try clear q33);(try clear hx33);(try clear c34);(try clear c34b0);(try clear p34);(try clear q34);(try clear hx34);(try clear c37);(try clear c38);(try clear c39);(try clear c41);(try clear c43);(try clear c43b0);(try clear c44);(try clear c44b0);(try clear c45);(try clear c45b0);(try clear c46);(try clear hcz40_0);(try clear hcz40_1);(try clear hcz40_2);(try clear hcz42_0);(try clear hcz42_1);(try clear hcz42_2);(try clear hfz40_0);(try clear hfz40_1);(try clear hfz40_2);(try clear hfz42_0);(try clear hfz42_1);(try clear hfz42_2);(try clear hx339_0);(try clear hx340_0);(try clear hx341_0);(try clear hx342_0);(try clear hx343_0);(try clear hx344_0);(try clear hx345_0);(try clear p2);(try clear p3);(try clear p33);(try clear p339);(try clear p34);(try clear p340);(try clear p341);(try clear p342);(try clear p343);(try clear p344);(try clear p345);(try clear q3);(try clear q33);(try clear q339);(try clear q34);(try clear q340);(try clear q341);(try clear q342);(try clear q343);(try clear q344);(try clear q345);obtain ⟨x11_3,x339001_3,u339001,rfl,HA,HK3,HO_334000,HO_334001,HO_334002,HO_339000,HO_339001,HO_339002,BK333,BK334,BK338,HB⟩:=hrel
              cases gk with
              | zero=>exact absurd HA.out (by simp [logjamref25_Given.l1])
              | succ k3 =>
                have H:=HA.out;clear HA;simp only [logjamref25_Given.l1] at H;by_cases c51 : x11_3 < (l0_1.length : Int);rotate_left
                · rw [if_neg c51] at H
                  have c51b0 : decide (x11_3 < (l0_1.length : Int)) = false:=decide_eq_false c51;clear c51;simp only [Option.some.injEq,Prod.mk.injEq] at H;obtain ⟨rfl,rfl,rfl,rfl⟩:=H;have hnb74:=NB333_334.out;have hnc74:=NB334_333.out;have hnb75:=NB333_338.out;have hnc75:=NB338_333.out;obtain ⟨hcz76_0,hcz76_1,hcz76_2,hfz76_0,hfz76_1,hfz76_2⟩:=cz3_ (w:=wr) BK333.out;have hnb77:=NB338_334.out;have hnc77:=NB334_338.out;obtain ⟨hcz78_0,hcz78_1,hcz78_2,hfz78_0,hfz78_1,hfz78_2⟩:=cz3_ (w:=wr) BK338.out;obtain ⟨Ao79,co79,eo79⟩:=Kd.R_slice HO_339000.out;subst eo79;obtain ⟨hcz80_0,hcz80_1,hcz80_2,hfz80_0,hfz80_1,hfz80_2⟩:=cz3_ (w:=wr) BK334.out;obtain ⟨Ao81,co81,eo81⟩:=Kd.N_slice HO_339001.out;subst eo81;go_wp2;refine bodyPost_ret (results_ct rfl _ _ gb334 55 #[.slice Ao79 x339000_2.length co79,.slice Ao81 x339001_3.length co81,.slice A0_2 l0_2.length c0_2] (0,0) _ rfl (by (with_reducible repeat first|refine bN_ ?_ _|refine bD_ ?_|refine bA_ ?_ _);refine blk_put (cs:=#[.slice Ao79 x339000_2.length co79,.slice Ao81 x339001_3.length co81,.slice none 0 0]) ?_ 2 _ rfl;(with_reducible repeat first|refine bN_ ?_ _|refine bD_ ?_|refine bA_ ?_ _);refine blk_put (cs:=#[.slice Ao79 x339000_2.length co79,.slice none 0 0,.slice none 0 0]) ?_ 1 _ rfl;(with_reducible repeat first|refine bN_ ?_ _|refine bD_ ?_|refine bA_ ?_ _);refine blk_put (cs:=#[.slice none 0 0,.slice none 0 0,.slice none 0 0]) ?_ 0 _ rfl;(with_reducible repeat first|refine bN_ ?_ _|refine bD_ ?_|refine bA_ ?_ _);exact BK334.out) Try.underlying55 rfl (by kernel_rfl)) rfl ?_;exact ⟨_,_,_,by first|rfl|(simp [errW_none,errW_some] <;> rfl)|(simp [*,errW_none,errW_some] <;> rfl),Kd.V_mono (Kd.R_V (by (with_reducible repeat first|apply Ra_|apply Rn_|apply Rd_);exact Kd.R_mono (Kd.R_far (p:=⟨gb334,2,none⟩) (Kd.R_far (p:=⟨gb334,1,none⟩) (Kd.R_far (p:=⟨gb334,0,none⟩) (Kd.R_types HO_339000.out BK334.out (by decide)) (fun _ hk=>hk.2) (.slice Ao79 x339000_2.length co79)) (fun _ hk=>hk.2) (.slice Ao81 x339001_3.length co81)) (fun _ hk=>hk.2) (.slice A0_2 l0_2.length c0_2)) (fun _ hk=>hk.1))) (fun k_ hk=>by first|exact ⟨(.inr (hk.1)),hk.2⟩|exact (.inr (hk))),Kd.N_V (by (with_reducible repeat first|apply Na_|apply Nn_|apply Nd_);exact Kd.N_mono (Kd.N_far (p:=⟨gb334,2,none⟩) (Kd.N_far (p:=⟨gb334,1,none⟩) (Kd.N_far (p:=⟨gb334,0,none⟩) (Kd.N_mono HO_339001.out (fun k_ hk=>(⟨hk,hk.2.2.2.1⟩ : _ ∧ k_ ≠ gb334))) (fun _ hk=>hk.2) (.slice Ao79 x339000_2.length co79)) (fun _ hk=>hk.2) (.slice Ao81 x339001_3.length co81)) (fun _ hk=>hk.2) (.slice A0_2 l0_2.length c0_2)) (fun _ hk=>hk.1.1)),by (with_reducible repeat first|apply Va_|apply Vn_|apply Vd_);exact Kd.V_mono (Kd.V_far (p:=⟨gb334,2,none⟩) (Kd.V_far (p:=⟨gb334,1,none⟩) (Kd.V_far (p:=⟨gb334,0,none⟩) (Kd.V_mono HO_339002.out (fun k_ hk=>(⟨hk,hk.2.2.2.2.1⟩ : _ ∧ k_ ≠ gb334))) (fun _ hk=>hk.2) (.slice Ao79 x339000_2.length co79)) (fun _ hk=>hk.2) (.slice Ao81 x339001_3.length co81)) (fun _ hk=>hk.2) (.slice A0_2 l0_2.length c0_2)) (fun _ hk=>hk.1.1),by repeat (first|(with_reducible first|exact HB.out|apply ba_|apply pN_|apply b1_|refine bs_ ?_ GE333.out|refine bs_ ?_ GE334.out|refine bs_ ?_ GE338.out)|exact HB.out)⟩

                rw [if_pos c51] at H;have c51b0 : decide (x11_3 < (l0_1.length : Int)) = true:=decide_eq_true c51;clear c51;by_cases c52 : x11_3 = a1;rotate_left
                · rw [if_neg c52] at H
                  have c52b0 : (x11_3 == a1) = false:=beq_eq_false_iff_ne.mpr c52;have c52b1 : (x11_3 != a1) = true:=bne_iff_ne.mpr c52;by_cases c65 : 0 ≤ x11_3;rotate_left
                  · rw [if_neg c65] at H
                    exact absurd H (by simp)
                  rw [if_pos c65] at H;have c65b0 : decide (0 ≤ x11_3) = true:=decide_eq_true c65;clear c65;by_cases c66 : x339001_3.length < 5864062014805;rotate_left
                  · rw [if_neg c66] at H
                    exact absurd H (by simp)
                  rw [if_pos c66] at H;have LMc66:=A0_ c66;clear c66;obtain ⟨y357,hy357⟩ : ∃ y_ : List (List Int),y_ = (x339001_3 ++ [rd_L1 l0_1 x11_3]):=⟨_,rfl⟩;replace H : (logjamref25_Given.l1 k3 a1 l2 (wrap64 (x11_3 + 1)) l0_0 l0_1 l0_2 x339000_2 y357 l0_2) = some (r1,r2,r3,r4):=by first|(rw [hy357];with_reducible exact H)|(have H2_:=(Option.bind_some _ _).symm.trans H;rw [hy357];with_reducible exact H2_)|(have H2_:=(Option.bind_some _ _).symm.trans H;with_reducible exact H2_)|with_reducible exact H|(rw [hy357];exact H)|exact H
                  have Ny357:=A0_ hy357;clear hy357;have H':=A0_ H;clear H;have hnb67:=NB333_334.out;have hnc67:=NB334_333.out;have hnb68:=NB333_338.out;have hnc68:=NB338_333.out;obtain ⟨hcz69_0,hcz69_1,hcz69_2,hfz69_0,hfz69_1,hfz69_2⟩:=cz3_ (w:=wr) BK333.out
                  try go_wp2
                  have n0_:=A0_ (Kd.V_drew HO_334000.out);have n1_:=A0_ (Kd.V_drew HO_334001.out);have n2_:=A0_ (Kd.V_drew HO_334002.out);have n3_:=A0_ (Kd.R_drew HO_339000.out);have n4_:=A0_ (Kd.N_drew HO_339001.out);have n5_:=A0_ (Kd.V_drew HO_339002.out);have n6_:=A0_ (blk_drew BK333.out);have n7_:=A0_ (blk_drew BK334.out);have n8_:=A0_ (blk_drew BK338.out);have n9_:=A0_ (b1_ HB.out);clear HO_334000;clear HO_334001;clear HO_334002;clear HO_339000;clear HO_339001;clear HO_339002;clear BK333;clear BK334;clear BK338;clear HB;have HO_334000:=n0_;have HO_334001:=n1_;have HO_334002:=n2_;have HO_339000:=n3_;have HO_339001:=n4_;have HO_339002:=n5_;have BK333:=n6_;have BK334:=n7_;have BK338:=n8_;have HB:=n9_;clear n0_ n1_ n2_ n3_ n4_ n5_ n6_ n7_ n8_ n9_;have p356 : 0 ≤ (x11_3 : Int):=of_decide_eq_true (by first|(with_reducible assumption)|assumption);have q356 : x11_3 < (l0_1.length : Int):=of_decide_eq_true (by first|(with_reducible assumption)|assumption);obtain ⟨ad356,A356_0,c356_0,e356,hx356_0,hl356_0,hi356_0⟩:=at_L1 (Kd.V_reads' HO_334001.out).2.2 x11_3 p356 q356;cases e356;obtain ⟨ce356,hce356,hMe356,hcc356⟩:=Kd.V_get HO_334001.out [] x11_3 p356 (by first|exact q356|exact of_decide_eq_true (by first|(with_reducible assumption)|assumption)|(have e_:=(Kd.V_reads' HO_334001.out).1;omega));obtain ⟨ua356_0,uc356_0,rfl,ul356_0,ge356_0⟩:=Kd.FK_slice_open hMe356;have hv356_0:=hcc356 0 _ rfl;rw [Nat.add_zero,show ((Kd.slice 3 (Kd.int .i64))).sz = 1 from rfl,Nat.mul_one] at hv356_0;replace hv356_0:=Option.some.inj (hv356_0.symm.trans hx356_0);injection hv356_0 with hva_ hvn_ hvc_
                  rw [hva_] at ge356_0;rw [hvc_] at ul356_0;have HL356_0:=A0_ (show Kd.V (Kd.int .i64) 3 _ w.heap.size _ _ (rd_L1 l0_1 x11_3) from Kd.V_mk ul356_0 ge356_0);clear hva_ hvn_ hvc_ ge356_0 ul356_0;clear hcc356 hce356;have HR356_0:=A0_ hi356_0;have HC356_0:=A0_ hl356_0;clear hi356_0 hl356_0;replace p356:=eq_true p356;replace q356:=eq_true q356;refine start_ (n:=11) (S:=fun w'=>w'.cell? ⟨gb338,0,none⟩ = some (u339000) ∧ w'.cell? ⟨gb338,1,none⟩ = some (u339001) ∧ w'.cell? ⟨gb338,2,none⟩ = some (.slice A0_2 l0_2.length c0_2) ∧ w'.cell? ⟨gb333,0,none⟩ = some (.slice A0_0 l0_0.length c0_0) ∧ w'.cell? ⟨gb333,1,none⟩ = some (.slice (some ad356) l0_1.length c0_1) ∧ w'.cell? ⟨gb333,2,none⟩ = some (.slice A0_2 l0_2.length c0_2) ∧ w'.cell? (ad356.add (x11_3).toNat) = some (.slice A356_0 (rd_L1 l0_1 x11_3).length c356_0)) (ds:=[8,10]) #[false,false,false,false,false,false,false,false,false,false,false] (by kernel_rfl) rfl rfl ⟨(blk_cell BK338.out 0).trans rfl,(blk_cell BK338.out 1).trans rfl,(blk_cell BK338.out 2).trans rfl,(blk_cell BK333.out 0).trans rfl,(blk_cell BK333.out 1).trans rfl,(blk_cell BK333.out 2).trans rfl,hx356_0⟩ (fun hHeld=>?_);refine with_tabW logjamref25_Given.tab15 logjamref25_Given.bits15 (fun HT_ HW_=>?_)
                  generalize wr.drew = w70 at HO_334000 HO_334001 HO_334002 HO_339000 HO_339001 HO_339002 BK333 BK334 BK338 HB HL356_0 HR356_0 hx356_0 hHeld ⊢
                  refine pure_ (i:=0) (N:=some 108) (v:=?_) (a':=?_) #[true,false,false,false,false,false,false,false,false,false,false] rfl rfl (any_of HT_.out (by kernel_rfl)) (fun _ _ _ h=>h) (Or.inl ⟨by rfl,?_⟩) ?_ ?_;rotate_left
                  · intro w'
                    go_simp
                    with_reducible rfl
                  rotate_left
                  · simp only [Act.put,sA_,sZ_,sS_,i64_w,i32_w]
                    rfl
                  refine pure_ (i:=2) (N:=some 110) (v:=?_) (a':=?_) #[true,false,true,false,false,false,false,false,false,false,false] rfl rfl (any_of HT_.out (by kernel_rfl)) (fun _ _ _ h=>h) (Or.inl ⟨by rfl,?_⟩) ?_ ?_;rotate_left
                  · intro w'
                    go_simp
                    with_reducible rfl
                  rotate_left
                  · simp only [Act.put,sA_,sZ_,sS_,i64_w,i32_w]
                    rfl
                  refine pure_ (i:=4) (N:=some 112) (v:=?_) (a':=?_) #[true,false,true,false,true,false,false,false,false,false,false] rfl rfl (any_of HT_.out (by kernel_rfl)) (fun _ _ _ h=>h) (Or.inl ⟨by rfl,?_⟩) ?_ ?_;rotate_left
                  · intro w'
                    go_simp
                    with_reducible rfl
                  rotate_left
                  · simp only [Act.put,sA_,sZ_,sS_,i64_w,i32_w]
                    rfl
                  refine take_ (i:=1) (N:=some 109) (v:=?_) (a':=?_) #[true,true,true,false,true,false,false,false,false,false,false] rfl rfl (take_ofW HT_.out HW_.out (by kernel_rfl)) (fun _ _ _ h=>h) (Or.inl ⟨by rfl,?_⟩) hHeld ?_ ?_;rotate_left
                  · rintro w' ⟨s0,s1,s2,s3,s4,s5,s6⟩
                    go_simp
                    with_reducible rfl
                  rotate_left
                  · simp only [Act.put,sA_,sZ_,sS_,i64_w,i32_w]
                    rfl
                  refine take_ (i:=3) (N:=some 111) (v:=?_) (a':=?_) #[true,true,true,true,true,false,false,false,false,false,false] rfl rfl (take_ofW HT_.out HW_.out (by kernel_rfl)) (fun _ _ _ h=>h) (Or.inl ⟨by rfl,?_⟩) hHeld ?_ ?_;rotate_left
                  · rintro w' ⟨s0,s1,s2,s3,s4,s5,s6⟩
                    go_simp
                    with_reducible rfl
                  rotate_left
                  · simp only [Act.put,sA_,sZ_,sS_,i64_w,i32_w]
                    rfl
                  refine pure_ (i:=5) (N:=some 113) (v:=?_) (a':=?_) #[true,true,true,true,true,true,false,false,false,false,false] rfl rfl (any_of HT_.out (by kernel_rfl)) (fun _ _ _ h=>h) (Or.inl ⟨by rfl,?_⟩) ?_ ?_;rotate_left
                  · intro w'
                    go_simp
                    with_reducible rfl
                  rotate_left
                  · simp only [Act.put,sA_,sZ_,sS_,i64_w,i32_w]
                    rfl
                  refine take_ (i:=6) (N:=some 114) (v:=?_) (a':=?_) #[true,true,true,true,true,true,true,false,false,false,false] rfl rfl (take_ofW HT_.out HW_.out (by kernel_rfl)) (fun _ _ _ h=>h) (Or.inl ⟨by rfl,?_⟩) hHeld ?_ ?_;rotate_left
                  · rintro w' ⟨s0,s1,s2,s3,s4,s5,s6⟩
                    go_simp
                    with_reducible rfl
                  rotate_left
                  · simp only [Act.put,sA_,sZ_,sS_,i64_w,i32_w]
                    rfl
                  refine one_ (i:=7) (N:=some 115) #[true,true,true,true,true,true,true,true,false,false,false] rfl rfl (one_of HT_.out (by kernel_rfl)) (by decide) (fun K hK=>?_);refine value_ (w1:=?_) (v:=?_) (by rfl) rfl ?_ ?_;rotate_left 2
                  · go_simp
                    constructor
                    · rfl
                    · rfl
                  refine hK.out _ _ ⟨(blk_cell (blk_alloc BK338.out _) 0).trans rfl,(blk_cell (blk_alloc BK338.out _) 1).trans rfl,(blk_cell (blk_alloc BK338.out _) 2).trans rfl,(blk_cell (blk_alloc BK333.out _) 0).trans rfl,(blk_cell (blk_alloc BK333.out _) 1).trans rfl,(blk_cell (blk_alloc BK333.out _) 2).trans rfl,(World.cell?_alloc_lt _ _ _ (bl_ _ _ (hHeld.2.2.2.2.2.2))).trans (hHeld.2.2.2.2.2.2)⟩ (fun hHeld=>?_);clear hK K;refine norm_ (a':=?_) ?_ ?_;rotate_left
                  · show Act.put _ (some 115) _ = _
                    simp only [Act.put,sA_,sZ_,sS_,i64_w,i32_w]
                    rfl
                  refine last_ (i:=8) (N:=some 116) #[true,true,true,true,true,true,true,true,true,false,false] rfl rfl (one_of HT_.out (by kernel_rfl)) (by decide) (fun K hK=>?_);refine Kd.N_append_step (Kd.slice 3 (Kd.int .i64)) (w0:=w) w.heap.size (by rfl) (.tmp 109) (.tmp 115) 53 23 (.slice none 0 0) 24 rfl Try.underlying53 info23 rfl (by decide) (by omega) u339001 x339001_3 (rd_L1 l0_1 x11_3) [.slice A356_0 (rd_L1 l0_1 x11_3).length c356_0] (fun k_=>((P0_0_ k_ ∨ P0_1_ k_ ∨ P0_2_ k_) ∨ w.heap.size ≤ k_) ∧ some k_ ≠ (u339000 : Value).ownBlock ∧ k_ ≠ gb333 ∧ k_ ≠ gb334 ∧ k_ ≠ gb338) (fun k_=>((fun k_=>((P0_0_ k_ ∨ P0_1_ k_ ∨ P0_2_ k_) ∨ w.heap.size ≤ k_) ∧ some k_ ≠ (u339000 : Value).ownBlock ∧ k_ ≠ gb333 ∧ k_ ≠ gb334 ∧ k_ ≠ gb338)) k_ ∧ some k_ ≠ (u339001 : Value).ownBlock) rfl rfl ?aP (fun _ hk=>hk) ?aF ?aO ?aB ?aS ?aL ?_
                  (case aP=>exact (Kd.FK_slice_mk (Kd.V_reads' (Kd.V_mono (ok':=(fun k_=>((fun k_=>((P0_0_ k_ ∨ P0_1_ k_ ∨ P0_2_ k_) ∨ w.heap.size ≤ k_) ∧ some k_ ≠ (u339000 : Value).ownBlock ∧ k_ ≠ gb333 ∧ k_ ≠ gb334 ∧ k_ ≠ gb338)) k_ ∧ some k_ ≠ (u339001 : Value).ownBlock)) (HL356_0.out) (fun k_ hk=>⟨⟨hk.1,⟨hk.2.1,⟨hk.2.2.2.1,⟨hk.2.2.2.2.1,hk.2.2.2.2.2⟩⟩⟩⟩,hk.2.2.1⟩))).2.1 (Kd.V_F (Kd.V_mono (ok':=(fun k_=>((fun k_=>((P0_0_ k_ ∨ P0_1_ k_ ∨ P0_2_ k_) ∨ w.heap.size ≤ k_) ∧ some k_ ≠ (u339000 : Value).ownBlock ∧ k_ ≠ gb333 ∧ k_ ≠ gb334 ∧ k_ ≠ gb338)) k_ ∧ some k_ ≠ (u339001 : Value).ownBlock)) (HL356_0.out) (fun k_ hk=>⟨⟨hk.1,⟨hk.2.1,⟨hk.2.2.2.1,⟨hk.2.2.2.2.1,hk.2.2.2.2.2⟩⟩⟩⟩,hk.2.2.1⟩)))))
                  (case aB=>exact (by repeat (first|(with_reducible first|exact HB.out|apply ba_|apply pN_|apply b1_|refine bs_ ?_ GE333.out|refine bs_ ?_ GE334.out|refine bs_ ?_ GE338.out)|exact HB.out)))
                  (case aF=>exact (fun k_ hk=>⟨(.inr (Nat.le_trans (below_size (by repeat (first|(with_reducible first|exact HB.out|apply ba_|apply pN_|apply b1_|refine bs_ ?_ GE333.out|refine bs_ ?_ GE334.out|refine bs_ ?_ GE338.out)|exact HB.out))) hk)),Kd.fresh' (Kd.R_lt (by (with_reducible repeat first|apply Ra_|apply Rn_|apply Rd_);exact HO_339000.out)) k_ hk,Kd.freshB (g:=gb333) (o:=.cells #[.slice A0_0 l0_0.length c0_0,.slice (some ad356) l0_1.length c0_1,.slice A0_2 l0_2.length c0_2] 55 (0,0)) (by (with_reducible repeat first|refine bN_ ?_ _|refine bD_ ?_|refine bA_ ?_ _);exact BK333.out) k_ hk,Kd.freshB (g:=gb334) (o:=.cells #[.slice none 0 0,.slice none 0 0,.slice none 0 0] 55 (0,0)) (by (with_reducible repeat first|refine bN_ ?_ _|refine bD_ ?_|refine bA_ ?_ _);exact BK334.out) k_ hk,Kd.freshB (g:=gb338) (o:=.cells #[u339000,u339001,.slice A0_2 l0_2.length c0_2] 55 (0,0)) (by (with_reducible repeat first|refine bN_ ?_ _|refine bD_ ?_|refine bA_ ?_ _);exact BK338.out) k_ hk⟩))
                  (case aO=>exact (by (with_reducible repeat first|apply Na_|apply Nn_|apply Nd_);exact HO_339001.out))
                  (case aS=>exact (below_size (by repeat (first|(with_reducible first|exact HB.out|apply ba_|apply pN_|apply b1_|refine bs_ ?_ GE333.out|refine bs_ ?_ GE334.out|refine bs_ ?_ GE338.out)|exact HB.out))))
                  (case aL=>have:=LMc66.out;omega)
                  intro v358 w71 ho hb hg hat
                  rw [← Ny357.out] at ho;have n0_:=A0_ (Kd.V_afterv (ok:=(fun k_=>((P0_0_ k_ ∨ P0_1_ k_ ∨ P0_2_ k_) ∨ w.heap.size ≤ k_) ∧ some k_ ≠ (u339000 : Value).ownBlock ∧ k_ ≠ gb333 ∧ k_ ≠ gb334 ∧ k_ ≠ gb338)) (by (with_reducible repeat first|apply Va_|apply Vn_|apply Vd_);exact Kd.V_mono HO_334000.out (fun _ hk=>⟨⟨hk.1,⟨hk.2.1,⟨hk.2.2.2.1,⟨hk.2.2.2.2.1,hk.2.2.2.2.2⟩⟩⟩⟩,hk.2.2.1⟩)) hg hat);have n1_:=A0_ (Kd.V_afterv (ok:=(fun k_=>((P0_0_ k_ ∨ P0_1_ k_ ∨ P0_2_ k_) ∨ w.heap.size ≤ k_) ∧ some k_ ≠ (u339000 : Value).ownBlock ∧ k_ ≠ gb333 ∧ k_ ≠ gb334 ∧ k_ ≠ gb338)) (by (with_reducible repeat first|apply Va_|apply Vn_|apply Vd_);exact Kd.V_mono HO_334001.out (fun _ hk=>⟨⟨hk.1,⟨hk.2.1,⟨hk.2.2.2.1,⟨hk.2.2.2.2.1,hk.2.2.2.2.2⟩⟩⟩⟩,hk.2.2.1⟩)) hg hat);have n2_:=A0_ (Kd.V_afterv (ok:=(fun k_=>((P0_0_ k_ ∨ P0_1_ k_ ∨ P0_2_ k_) ∨ w.heap.size ≤ k_) ∧ some k_ ≠ (u339000 : Value).ownBlock ∧ k_ ≠ gb333 ∧ k_ ≠ gb334 ∧ k_ ≠ gb338)) (by (with_reducible repeat first|apply Va_|apply Vn_|apply Vd_);exact Kd.V_mono HO_334002.out (fun _ hk=>⟨⟨hk.1,⟨hk.2.1,⟨hk.2.2.2.1,⟨hk.2.2.2.2.1,hk.2.2.2.2.2⟩⟩⟩⟩,hk.2.2.1⟩)) hg hat);have n3_:=A0_ (Kd.R_over' (by (with_reducible repeat first|apply Ra_|apply Rn_|apply Rd_);exact HO_339000.out) (Kd.N_typed (by (with_reducible repeat first|apply Na_|apply Nn_|apply Nd_);exact HO_339001.out)) (by decide) hg);have n4_:=A0_ (Kd.V_afterv (ok:=(fun k_=>((P0_0_ k_ ∨ P0_1_ k_ ∨ P0_2_ k_) ∨ w.heap.size ≤ k_) ∧ some k_ ≠ (u339000 : Value).ownBlock ∧ k_ ≠ gb333 ∧ k_ ≠ gb334 ∧ k_ ≠ gb338)) (by (with_reducible repeat first|apply Va_|apply Vn_|apply Vd_);exact Kd.V_mono HO_339002.out (fun _ hk=>⟨⟨hk.1,⟨hk.2.1,⟨hk.2.2.2.1,⟨hk.2.2.2.2.1,hk.2.2.2.2.2⟩⟩⟩⟩,hk.2.2.1⟩)) hg hat);have n5_:=A0_ (blk_grown (g:=gb333) (o:=.cells #[.slice A0_0 l0_0.length c0_0,.slice (some ad356) l0_1.length c0_1,.slice A0_2 l0_2.length c0_2] 55 (0,0)) (by (with_reducible repeat first|refine bN_ ?_ _|refine bD_ ?_|refine bA_ ?_ _);exact BK333.out) hg (Kd.N_ne HO_339001.out BK333.out (by decide)));have n6_:=A0_ (blk_grown (g:=gb334) (o:=.cells #[.slice none 0 0,.slice none 0 0,.slice none 0 0] 55 (0,0)) (by (with_reducible repeat first|refine bN_ ?_ _|refine bD_ ?_|refine bA_ ?_ _);exact BK334.out) hg (Kd.N_ne HO_339001.out BK334.out (by decide)));have n7_:=A0_ (blk_grown (g:=gb338) (o:=.cells #[u339000,u339001,.slice A0_2 l0_2.length c0_2] 55 (0,0)) (by (with_reducible repeat first|refine bN_ ?_ _|refine bD_ ?_|refine bA_ ?_ _);exact BK338.out) hg (Kd.N_ne HO_339001.out BK338.out (by decide)));have n8_:=A0_ (Kd.V_afterv (ok:=(fun k_=>((P0_0_ k_ ∨ P0_1_ k_ ∨ P0_2_ k_) ∨ w.heap.size ≤ k_) ∧ some k_ ≠ (u339000 : Value).ownBlock ∧ k_ ≠ gb333 ∧ k_ ≠ gb334 ∧ k_ ≠ gb338)) (by (with_reducible repeat first|apply Va_|apply Vn_|apply Vd_);exact Kd.V_mono HL356_0.out (fun _ hk=>⟨⟨hk.1,⟨hk.2.1,⟨hk.2.2.2.1,⟨hk.2.2.2.2.1,hk.2.2.2.2.2⟩⟩⟩⟩,hk.2.2.1⟩)) hg hat);have n9_:=A0_ (hb);have n10_:=A0_ (ho);clear HO_334000;clear HO_334001;clear HO_334002;clear HO_339000;clear HO_339002;clear BK333;clear BK334;clear BK338;clear HL356_0;clear HB;clear HO_339001;have HO_334000:=n0_;have HO_334001:=n1_;have HO_334002:=n2_;have HO_339000:=n3_;have HO_339002:=n4_;have BK333:=n5_;have BK334:=n6_;have BK338:=n7_;have HL356_0:=n8_;have HB:=n9_;have HO359:=n10_;clear n0_ n1_ n2_ n3_ n4_ n5_ n6_ n7_ n8_ n9_ n10_;clear ho hb hg hat;obtain ⟨Ao72,co72,eo72⟩:=Kd.N_slice HO359.out
                  (first|subst eo72|(injection eo72 with f1_ f2_ f3_;have f4_:=f1_.symm;have f5_:=f3_.symm;clear f1_ f2_ f3_;subst f4_;subst f5_))
                  refine hK.out _ _ ?_;clear hK K;refine norm_ (a':=?_) ?_ ?_;rotate_left
                  · show Act.put _ (some 116) _ = _
                    simp only [Act.put,sA_,sZ_,sS_,i64_w,i32_w]
                    rfl
                  refine pure_ (i:=9) (N:=some 117) (v:=?_) (a':=?_) #[true,true,true,true,true,true,true,true,true,true,false] rfl rfl (any_of HT_.out (by kernel_rfl)) (fun _ _ _ h=>h) (Or.inl ⟨by rfl,?_⟩) ?_ ?_;rotate_left
                  · intro w'
                    go_simp
                    with_reducible rfl
                  rotate_left
                  · simp only [Act.put,sA_,sZ_,sS_,i64_w,i32_w]
                    rfl
                  refine last_ (i:=10) (N:=none) #[true,true,true,true,true,true,true,true,true,true,true] rfl rfl (one_of HT_.out (by kernel_rfl)) (by decide) (fun K hK=>?_);have hs73 : w71.cell? ⟨gb338,1,none⟩ = some (u339001):=(blk_cell BK338.out 1).trans rfl;have hfs73:=blk_frozen BK338.out 1;have hns73_0:=NB333_338.out;have hns73_1:=NB334_338.out;have hms73_0:=NB338_333.out;have hms73_1:=NB338_334.out;refine skip_ (w1:=?_) (by rfl) rfl ?_ ?_;rotate_left
                  · go_simp
                    rfl
                  refine hK.out _ _ ?_;clear hK K;refine done_ (done_of HT_.out (by kernel_rfl)) ?_
                  try go_wp2
                  go_roundg k3
                  case measure=>have:=HJ3.out;have:=HK2.out;have:=HK3.out;omega
                  case rel=>exact ⟨(wrap64 (x11_3 + 1)),(y357),(.slice Ao72 y357.length co72),(by first|rfl|(simp;done)|(simp [*];done)),H',⟨by have:=HJ3.out;have:=HK2.out;have:=HK3.out;omega⟩,⟨by (with_reducible repeat first|apply Va_|apply Vn_|apply Vd_);exact Kd.V_mono (Kd.V_far (p:=⟨gb338,1,none⟩) (Kd.V_mono HO_334000.out (fun k_ hk=>(⟨hk,hk.1.2.2.2.2⟩ : _ ∧ k_ ≠ gb338))) (fun _ hk=>hk.2) (.slice Ao72 y357.length co72)) (fun _ hk=>⟨hk.1.1.1,⟨hk.1.1.2.1,⟨hk.1.2,⟨hk.1.1.2.2.1,⟨hk.1.1.2.2.2.1,hk.1.1.2.2.2.2⟩⟩⟩⟩⟩)⟩,⟨by (with_reducible repeat first|apply Va_|apply Vn_|apply Vd_);exact Kd.V_mono (Kd.V_far (p:=⟨gb338,1,none⟩) (Kd.V_mono HO_334001.out (fun k_ hk=>(⟨hk,hk.1.2.2.2.2⟩ : _ ∧ k_ ≠ gb338))) (fun _ hk=>hk.2) (.slice Ao72 y357.length co72)) (fun _ hk=>⟨hk.1.1.1,⟨hk.1.1.2.1,⟨hk.1.2,⟨hk.1.1.2.2.1,⟨hk.1.1.2.2.2.1,hk.1.1.2.2.2.2⟩⟩⟩⟩⟩)⟩,⟨by (with_reducible repeat first|apply Va_|apply Vn_|apply Vd_);exact Kd.V_mono (Kd.V_far (p:=⟨gb338,1,none⟩) (Kd.V_mono HO_334002.out (fun k_ hk=>(⟨hk,hk.1.2.2.2.2⟩ : _ ∧ k_ ≠ gb338))) (fun _ hk=>hk.2) (.slice Ao72 y357.length co72)) (fun _ hk=>⟨hk.1.1.1,⟨hk.1.1.2.1,⟨hk.1.2,⟨hk.1.1.2.2.1,⟨hk.1.1.2.2.2.1,hk.1.1.2.2.2.2⟩⟩⟩⟩⟩)⟩,⟨by (with_reducible repeat first|apply Ra_|apply Rn_|apply Rd_);exact Kd.R_mono (Kd.R_far (p:=⟨gb338,1,none⟩) (Kd.R_types HO_339000.out BK338.out (by decide)) (fun _ hk=>hk.2) (.slice Ao72 y357.length co72)) (fun _ hk=>hk.1)⟩,⟨by (with_reducible repeat first|apply Na_|apply Nn_|apply Nd_);exact Kd.N_mono (Kd.N_far (p:=⟨gb338,1,none⟩) (Kd.N_mono HO359.out (fun k_ hk=>(⟨hk,hk.2.2.2.2⟩ : _ ∧ k_ ≠ gb338))) (fun _ hk=>hk.2) (.slice Ao72 y357.length co72)) (fun _ hk=>⟨hk.1.1,⟨hk.1.2.1,⟨hk.1.2.2.1,⟨hk.1.2.2.2.1,hk.1.2.2.2.2⟩⟩⟩⟩)⟩,⟨by (with_reducible repeat first|apply Va_|apply Vn_|apply Vd_);exact Kd.V_mono (Kd.V_far (p:=⟨gb338,1,none⟩) (Kd.V_mono HO_339002.out (fun k_ hk=>(⟨hk,hk.1.2.2.2.2⟩ : _ ∧ k_ ≠ gb338))) (fun _ hk=>hk.2) (.slice Ao72 y357.length co72)) (fun _ hk=>⟨hk.1.1.1,⟨hk.1.1.2.1,⟨hk.1.2,⟨hk.1.1.2.2.1,⟨hk.1.1.2.2.2.1,hk.1.1.2.2.2.2⟩⟩⟩⟩⟩)⟩,⟨by (with_reducible repeat first|refine bN_ ?_ _|refine bD_ ?_|refine bA_ ?_ _);refine blk_far ?_ NB333_338.out _;(with_reducible repeat first|refine bN_ ?_ _|refine bD_ ?_|refine bA_ ?_ _);exact BK333.out⟩,⟨by (with_reducible repeat first|refine bN_ ?_ _|refine bD_ ?_|refine bA_ ?_ _);refine blk_far ?_ NB334_338.out _;(with_reducible repeat first|refine bN_ ?_ _|refine bD_ ?_|refine bA_ ?_ _);exact BK334.out⟩,⟨by (with_reducible repeat first|refine bN_ ?_ _|refine bD_ ?_|refine bA_ ?_ _);refine blk_put (cs:=#[u339000,u339001,.slice A0_2 l0_2.length c0_2]) ?_ 1 _ rfl;(with_reducible repeat first|refine bN_ ?_ _|refine bD_ ?_|refine bA_ ?_ _);exact BK338.out⟩,⟨by repeat (first|(with_reducible first|exact HB.out|apply ba_|apply pN_|apply b1_|refine bs_ ?_ GE333.out|refine bs_ ?_ GE334.out|refine bs_ ?_ GE338.out)|exact HB.out)⟩⟩
                rw [if_pos c52] at H;have c52b0 : (x11_3 == a1) = true:=beq_iff_eq.mpr c52;have c52b1 : (x11_3 != a1) = false:=bne_eq_false_iff_eq.mpr c52;clear c52;by_cases c53 : 0 ≤ x11_3;rotate_left
                · rw [if_neg c53] at H
                  exact absurd H (by simp)
                rw [if_pos c53] at H;have c53b0 : decide (0 ≤ x11_3) = true:=decide_eq_true c53;clear c53;replace H:=bm_ H;obtain ⟨t350,A540,H⟩:=H;replace H : (if x339001_3.length < 5864062014805 then (logjamref25_Given.l1 k3 a1 l2 (wrap64 (x11_3 + 1)) l0_0 l0_1 l0_2 x339000_2 (x339001_3 ++ [t350]) l0_2) else (none)) = some (r1,r2,r3,r4):=H;have A54:=A0_ A540;clear A540;by_cases c55 : x339001_3.length < 5864062014805;rotate_left
                · rw [if_neg c55] at H
                  exact absurd H (by simp)
                rw [if_pos c55] at H;have LMc55:=A0_ c55;clear c55;obtain ⟨y353,hy353⟩ : ∃ y_ : List (List Int),y_ = (x339001_3 ++ [t350]):=⟨_,rfl⟩;replace H : (logjamref25_Given.l1 k3 a1 l2 (wrap64 (x11_3 + 1)) l0_0 l0_1 l0_2 x339000_2 y353 l0_2) = some (r1,r2,r3,r4):=by first|(rw [hy353];with_reducible exact H)|(have H2_:=(Option.bind_some _ _).symm.trans H;rw [hy353];with_reducible exact H2_)|(have H2_:=(Option.bind_some _ _).symm.trans H;with_reducible exact H2_)|with_reducible exact H|(rw [hy353];exact H)|exact H
                have Ny353:=A0_ hy353;clear hy353;have H':=A0_ H;clear H;have hnb56:=NB333_334.out;have hnc56:=NB334_333.out;have hnb57:=NB333_338.out;have hnc57:=NB338_333.out;obtain ⟨hcz58_0,hcz58_1,hcz58_2,hfz58_0,hfz58_1,hfz58_2⟩:=cz3_ (w:=wr) BK333.out
                try go_wp2
                have n0_:=A0_ (Kd.V_drew HO_334000.out);have n1_:=A0_ (Kd.V_drew HO_334001.out);have n2_:=A0_ (Kd.V_drew HO_334002.out);have n3_:=A0_ (Kd.R_drew HO_339000.out);have n4_:=A0_ (Kd.N_drew HO_339001.out);have n5_:=A0_ (Kd.V_drew HO_339002.out);have n6_:=A0_ (blk_drew BK333.out);have n7_:=A0_ (blk_drew BK334.out);have n8_:=A0_ (blk_drew BK338.out);have n9_:=A0_ (b1_ HB.out);clear HO_334000;clear HO_334001;clear HO_334002;clear HO_339000;clear HO_339001;clear HO_339002;clear BK333;clear BK334;clear BK338;clear HB;have HO_334000:=n0_;have HO_334001:=n1_;have HO_334002:=n2_;have HO_339000:=n3_;have HO_339001:=n4_;have HO_339002:=n5_;have BK333:=n6_;have BK334:=n7_;have BK338:=n8_;have HB:=n9_;clear n0_ n1_ n2_ n3_ n4_ n5_ n6_ n7_ n8_ n9_;have p349 : 0 ≤ (x11_3 : Int):=of_decide_eq_true (by first|(with_reducible assumption)|assumption);have q349 : x11_3 < (l0_1.length : Int):=of_decide_eq_true (by first|(with_reducible assumption)|assumption);obtain ⟨ad349,A349_0,c349_0,e349,hx349_0,hl349_0,hi349_0⟩:=at_L1 (Kd.V_reads' HO_334001.out).2.2 x11_3 p349 q349;cases e349;obtain ⟨ce349,hce349,hMe349,hcc349⟩:=Kd.V_get HO_334001.out [] x11_3 p349 (by first|exact q349|exact of_decide_eq_true (by first|(with_reducible assumption)|assumption)|(have e_:=(Kd.V_reads' HO_334001.out).1;omega));obtain ⟨ua349_0,uc349_0,rfl,ul349_0,ge349_0⟩:=Kd.FK_slice_open hMe349;have hv349_0:=hcc349 0 _ rfl;rw [Nat.add_zero,show ((Kd.slice 3 (Kd.int .i64))).sz = 1 from rfl,Nat.mul_one] at hv349_0;replace hv349_0:=Option.some.inj (hv349_0.symm.trans hx349_0);injection hv349_0 with hva_ hvn_ hvc_
                rw [hva_] at ge349_0;rw [hvc_] at ul349_0;have HL349_0:=A0_ (show Kd.V (Kd.int .i64) 3 _ w.heap.size _ _ (rd_L1 l0_1 x11_3) from Kd.V_mk ul349_0 ge349_0);clear hva_ hvn_ hvc_ ge349_0 ul349_0;clear hcc349 hce349;have HR349_0:=A0_ hi349_0;have HC349_0:=A0_ hl349_0;clear hi349_0 hl349_0;replace p349:=eq_true p349;replace q349:=eq_true q349;refine start_ (n:=13) (S:=fun w'=>w'.cell? ⟨gb338,0,none⟩ = some (u339000) ∧ w'.cell? ⟨gb338,1,none⟩ = some (u339001) ∧ w'.cell? ⟨gb338,2,none⟩ = some (.slice A0_2 l0_2.length c0_2) ∧ w'.cell? ⟨gb333,0,none⟩ = some (.slice A0_0 l0_0.length c0_0) ∧ w'.cell? ⟨gb333,1,none⟩ = some (.slice (some ad349) l0_1.length c0_1) ∧ w'.cell? ⟨gb333,2,none⟩ = some (.slice A0_2 l0_2.length c0_2) ∧ w'.cell? (ad349.add (x11_3).toNat) = some (.slice A349_0 (rd_L1 l0_1 x11_3).length c349_0)) (ds:=[10,12]) #[false,false,false,false,false,false,false,false,false,false,false,false,false] (by kernel_rfl) rfl rfl ⟨(blk_cell BK338.out 0).trans rfl,(blk_cell BK338.out 1).trans rfl,(blk_cell BK338.out 2).trans rfl,(blk_cell BK333.out 0).trans rfl,(blk_cell BK333.out 1).trans rfl,(blk_cell BK333.out 2).trans rfl,hx349_0⟩ (fun hHeld=>?_);refine with_tabW logjamref25_Given.tab14 logjamref25_Given.bits14 (fun HT_ HW_=>?_)
                generalize wr.drew = w59 at HO_334000 HO_334001 HO_334002 HO_339000 HO_339001 HO_339002 BK333 BK334 BK338 HB HL349_0 HR349_0 hx349_0 hHeld ⊢
                refine pure_ (i:=0) (N:=some 96) (v:=?_) (a':=?_) #[true,false,false,false,false,false,false,false,false,false,false,false,false] rfl rfl (any_of HT_.out (by kernel_rfl)) (fun _ _ _ h=>h) (Or.inl ⟨by rfl,?_⟩) ?_ ?_;rotate_left
                · intro w'
                  go_simp
                  with_reducible rfl
                rotate_left
                · simp only [Act.put,sA_,sZ_,sS_,i64_w,i32_w]
                  rfl
                refine pure_ (i:=2) (N:=some 98) (v:=?_) (a':=?_) #[true,false,true,false,false,false,false,false,false,false,false,false,false] rfl rfl (any_of HT_.out (by kernel_rfl)) (fun _ _ _ h=>h) (Or.inl ⟨by rfl,?_⟩) ?_ ?_;rotate_left
                · intro w'
                  go_simp
                  with_reducible rfl
                rotate_left
                · simp only [Act.put,sA_,sZ_,sS_,i64_w,i32_w]
                  rfl
                refine pure_ (i:=4) (N:=some 100) (v:=?_) (a':=?_) #[true,false,true,false,true,false,false,false,false,false,false,false,false] rfl rfl (any_of HT_.out (by kernel_rfl)) (fun _ _ _ h=>h) (Or.inl ⟨by rfl,?_⟩) ?_ ?_;rotate_left
                · intro w'
                  go_simp
                  with_reducible rfl
                rotate_left
                · simp only [Act.put,sA_,sZ_,sS_,i64_w,i32_w]
                  rfl
                refine pure_ (i:=7) (N:=some 103) (v:=?_) (a':=?_) #[true,false,true,false,true,false,false,true,false,false,false,false,false] rfl rfl (any_of HT_.out (by kernel_rfl)) (fun _ _ _ h=>h) (Or.inl ⟨by rfl,?_⟩) ?_ ?_;rotate_left
                · intro w'
                  go_simp
                  with_reducible rfl
                rotate_left
                · simp only [Act.put,sA_,sZ_,sS_,i64_w,i32_w]
                  rfl
                refine take_ (i:=1) (N:=some 97) (v:=?_) (a':=?_) #[true,true,true,false,true,false,false,true,false,false,false,false,false] rfl rfl (take_ofW HT_.out HW_.out (by kernel_rfl)) (fun _ _ _ h=>h) (Or.inl ⟨by rfl,?_⟩) hHeld ?_ ?_;rotate_left
                · rintro w' ⟨s0,s1,s2,s3,s4,s5,s6⟩
                  go_simp
                  with_reducible rfl
                rotate_left
                · simp only [Act.put,sA_,sZ_,sS_,i64_w,i32_w]
                  rfl
                refine take_ (i:=3) (N:=some 99) (v:=?_) (a':=?_) #[true,true,true,true,true,false,false,true,false,false,false,false,false] rfl rfl (take_ofW HT_.out HW_.out (by kernel_rfl)) (fun _ _ _ h=>h) (Or.inl ⟨by rfl,?_⟩) hHeld ?_ ?_;rotate_left
                · rintro w' ⟨s0,s1,s2,s3,s4,s5,s6⟩
                  go_simp
                  with_reducible rfl
                rotate_left
                · simp only [Act.put,sA_,sZ_,sS_,i64_w,i32_w]
                  rfl
                refine pure_ (i:=5) (N:=some 101) (v:=?_) (a':=?_) #[true,true,true,true,true,true,false,true,false,false,false,false,false] rfl rfl (any_of HT_.out (by kernel_rfl)) (fun _ _ _ h=>h) (Or.inl ⟨by rfl,?_⟩) ?_ ?_;rotate_left
                · intro w'
                  go_simp
                  with_reducible rfl
                rotate_left
                · simp only [Act.put,sA_,sZ_,sS_,i64_w,i32_w]
                  rfl
                refine take_ (i:=6) (N:=some 102) (v:=?_) (a':=?_) #[true,true,true,true,true,true,true,true,false,false,false,false,false] rfl rfl (take_ofW HT_.out HW_.out (by kernel_rfl)) (fun _ _ _ h=>h) (Or.inl ⟨by rfl,?_⟩) hHeld ?_ ?_;rotate_left
                · rintro w' ⟨s0,s1,s2,s3,s4,s5,s6⟩
                  go_simp
                  with_reducible rfl
                rotate_left
                · simp only [Act.put,sA_,sZ_,sS_,i64_w,i32_w]
                  rfl
                refine one_ (i:=8) (N:=some 104) #[true,true,true,true,true,true,true,true,true,false,false,false,false] rfl rfl (one_of HT_.out (by kernel_rfl)) (by decide) (fun K hK=>?_);refine goes_ Try.func52 (by kernel_rfl) rfl #[.slice A349_0 (rd_L1 l0_1 x11_3).length c349_0,.slice A2 l2.length c2] (by rfl) rfl rfl (by first|(simp only [List.map_toArray,List.map_cons,List.map_nil] <;> rfl)|rfl|(simp only [List.length_drop,List.length_take];rfl)) ?_
                with_reducible refine (logjamref25_sum.calls k3 _ _ (rd_L1 l0_1 x11_3) _ _ l2 t350 _ ?side1 ?side2 ?side3 ?side4 A54.out).mono ?_
                (case side1=>repeat (first|exact (by repeat (first|(with_reducible exact HR349_0.out)|(with_reducible first|refine Ca_ ?_ _|refine Cn_ ?_ _|refine Cd_ ?_)|exact HR349_0.out))|(with_reducible first|refine Ca_ ?_ _|refine Cn_ ?_ _|refine Cd_ ?_)))
                (case side2=>exact HC349_0.out)
                (case side3=>repeat (first|exact (Kd.C_below HR2.out HB.out)|(with_reducible first|refine Ca_ ?_ _|refine Cn_ ?_ _|refine Cd_ ?_)))
                (case side4=>exact HC2.out)
                rintro e w60 ⟨v351,rfl,ho0,hb⟩
                have HS6_:=(hb.cell (bl_ _ _ (hHeld.2.2.2.2.2.2))).trans (hHeld.2.2.2.2.2.2);refine ⟨_,rfl,?_⟩;have n0_:=A0_ (Kd.V_elder' (by (with_reducible repeat first|apply Va_|apply Vn_|apply Vd_);exact HO_334000.out) (Kd.R_base ho0) hb);have n1_:=A0_ (Kd.V_elder' (by (with_reducible repeat first|apply Va_|apply Vn_|apply Vd_);exact HO_334001.out) (Kd.R_base ho0) hb);have n2_:=A0_ (Kd.V_elder' (by (with_reducible repeat first|apply Va_|apply Vn_|apply Vd_);exact HO_334002.out) (Kd.R_base ho0) hb);have n3_:=A0_ (Kd.R_elder' (by (with_reducible repeat first|apply Ra_|apply Rn_|apply Rd_);exact HO_339000.out) (Kd.R_base ho0) hb);have n4_:=A0_ (Kd.N_elder' (by (with_reducible repeat first|apply Na_|apply Nn_|apply Nd_);exact HO_339001.out) (Kd.R_base ho0) hb);have n5_:=A0_ (Kd.V_elder' (by (with_reducible repeat first|apply Va_|apply Vn_|apply Vd_);exact HO_339002.out) (Kd.R_base ho0) hb);have n6_:=A0_ (Kd.V_elder' (by (with_reducible repeat first|apply Va_|apply Vn_|apply Vd_);exact HL349_0.out) (Kd.R_base ho0) hb);have n7_:=A0_ (Kd.R_lower (Kd.R_new' (Kd.R_newM (M:=fun k_=>(w.heap.size ≤ k_)) ho0 (below_size (by repeat (first|(with_reducible first|exact HB.out|apply ba_|apply pN_|apply b1_|refine bs_ ?_ GE333.out|refine bs_ ?_ GE334.out|refine bs_ ?_ GE338.out)|exact HB.out))) (fun k_ h_=>h_)) (Kd.R_lt (by (with_reducible repeat first|apply Ra_|apply Rn_|apply Rd_);exact HO_339000.out))) (below_size (by repeat (first|(with_reducible first|exact HB.out|apply ba_|apply pN_|apply b1_|refine bs_ ?_ GE333.out|refine bs_ ?_ GE334.out|refine bs_ ?_ GE338.out)|exact HB.out))));have n8_:=A0_ (blk_below (g:=gb333) (o:=.cells #[.slice A0_0 l0_0.length c0_0,.slice (some ad349) l0_1.length c0_1,.slice A0_2 l0_2.length c0_2] 55 (0,0)) (by (with_reducible repeat first|refine bN_ ?_ _|refine bD_ ?_|refine bA_ ?_ _);exact BK333.out) hb);have n9_:=A0_ (blk_below (g:=gb334) (o:=.cells #[.slice none 0 0,.slice none 0 0,.slice none 0 0] 55 (0,0)) (by (with_reducible repeat first|refine bN_ ?_ _|refine bD_ ?_|refine bA_ ?_ _);exact BK334.out) hb);have n10_:=A0_ (blk_below (g:=gb338) (o:=.cells #[u339000,u339001,.slice A0_2 l0_2.length c0_2] 55 (0,0)) (by (with_reducible repeat first|refine bN_ ?_ _|refine bD_ ?_|refine bA_ ?_ _);exact BK338.out) hb);have n11_:=A0_ (Kd.C_below (by repeat (first|(with_reducible exact HR349_0.out)|(with_reducible first|refine Ca_ ?_ _|refine Cn_ ?_ _|refine Cd_ ?_)|exact HR349_0.out)) hb);have n12_:=A0_ (below_step (by repeat (first|(with_reducible first|exact HB.out|apply ba_|apply pN_|apply b1_|refine bs_ ?_ GE333.out|refine bs_ ?_ GE334.out|refine bs_ ?_ GE338.out)|exact HB.out)) hb);clear HO_334000;clear HO_334001;clear HO_334002;clear HO_339000;clear HO_339001;clear HO_339002;clear HL349_0;clear BK333;clear BK334;clear BK338;clear HR349_0;clear HB;have HO_334000:=n0_;have HO_334001:=n1_;have HO_334002:=n2_;have HO_339000:=n3_;have HO_339001:=n4_;have HO_339002:=n5_;have HL349_0:=n6_;have HO352:=n7_;have BK333:=n8_;have BK334:=n9_;have BK338:=n10_;have HR349_0:=n11_;have HB:=n12_;clear n0_ n1_ n2_ n3_ n4_ n5_ n6_ n7_ n8_ n9_ n10_ n11_ n12_;(try clear hb);(try clear hb2);(try clear hk);(try clear hi);(try clear ho0);obtain ⟨Ao62,co62,eo62⟩:=Kd.R_slice HO352.out
                (first|subst eo62|(injection eo62 with f1_ f2_ f3_;have f4_:=f1_.symm;have f5_:=f3_.symm;clear f1_ f2_ f3_;subst f4_;subst f5_))
                refine hK.out _ _ ⟨(blk_cell BK338.out 0).trans rfl,(blk_cell BK338.out 1).trans rfl,(blk_cell BK338.out 2).trans rfl,(blk_cell BK333.out 0).trans rfl,(blk_cell BK333.out 1).trans rfl,(blk_cell BK333.out 2).trans rfl,HS6_⟩ (fun hHeld=>?_);clear hK K;refine norm_ (a':=?_) ?_ ?_;rotate_left
                · show Act.put _ (some 104) _ = _
                  simp only [Act.put,sA_,sZ_,sS_,i64_w,i32_w]
                  rfl
                refine one_ (i:=9) (N:=some 105) #[true,true,true,true,true,true,true,true,true,true,false,false,false] rfl rfl (one_of HT_.out (by kernel_rfl)) (by decide) (fun K hK=>?_);refine value_ (w1:=?_) (v:=?_) (by rfl) rfl ?_ ?_;rotate_left 2
                · go_simp
                  constructor
                  · rfl
                  · rfl
                refine hK.out _ _ ⟨(blk_cell (blk_alloc BK338.out _) 0).trans rfl,(blk_cell (blk_alloc BK338.out _) 1).trans rfl,(blk_cell (blk_alloc BK338.out _) 2).trans rfl,(blk_cell (blk_alloc BK333.out _) 0).trans rfl,(blk_cell (blk_alloc BK333.out _) 1).trans rfl,(blk_cell (blk_alloc BK333.out _) 2).trans rfl,(World.cell?_alloc_lt _ _ _ (bl_ _ _ (hHeld.2.2.2.2.2.2))).trans (hHeld.2.2.2.2.2.2)⟩ (fun hHeld=>?_);clear hK K;refine norm_ (a':=?_) ?_ ?_;rotate_left
                · show Act.put _ (some 105) _ = _
                  simp only [Act.put,sA_,sZ_,sS_,i64_w,i32_w]
                  rfl
                refine last_ (i:=10) (N:=some 106) #[true,true,true,true,true,true,true,true,true,true,true,false,false] rfl rfl (one_of HT_.out (by kernel_rfl)) (by decide) (fun K hK=>?_);refine Kd.N_append_step (Kd.slice 3 (Kd.int .i64)) (w0:=w) w.heap.size (by rfl) (.tmp 97) (.tmp 105) 53 23 (.slice none 0 0) 24 rfl Try.underlying53 info23 rfl (by decide) (by omega) u339001 x339001_3 t350 [.slice Ao62 t350.length co62] (fun k_=>((P0_0_ k_ ∨ P0_1_ k_ ∨ P0_2_ k_) ∨ w.heap.size ≤ k_) ∧ some k_ ≠ (u339000 : Value).ownBlock ∧ k_ ≠ gb333 ∧ k_ ≠ gb334 ∧ k_ ≠ gb338) (fun k_=>((fun k_=>((P0_0_ k_ ∨ P0_1_ k_ ∨ P0_2_ k_) ∨ w.heap.size ≤ k_) ∧ some k_ ≠ (u339000 : Value).ownBlock ∧ k_ ≠ gb333 ∧ k_ ≠ gb334 ∧ k_ ≠ gb338)) k_ ∧ some k_ ≠ (u339001 : Value).ownBlock) rfl rfl ?aP (fun _ hk=>hk) ?aF ?aO ?aB ?aS ?aL ?_
                (case aP=>exact (Kd.FK_slice_mk (Kd.R_reads' (Kd.R_mono (ok':=(fun k_=>((fun k_=>((P0_0_ k_ ∨ P0_1_ k_ ∨ P0_2_ k_) ∨ w.heap.size ≤ k_) ∧ some k_ ≠ (u339000 : Value).ownBlock ∧ k_ ≠ gb333 ∧ k_ ≠ gb334 ∧ k_ ≠ gb338)) k_ ∧ some k_ ≠ (u339001 : Value).ownBlock)) (Kd.R_types (Kd.R_types (Kd.R_types (Kd.R_apart' (HO352.out) (Kd.N_typed HO_339001.out) (by decide)) BK333.out (by decide)) BK334.out (by decide)) BK338.out (by decide)) (fun k_ hk=>⟨⟨(.inr (hk.1.1.1.1.1.1)),⟨hk.1.1.1.1.2,⟨hk.1.1.2,⟨hk.1.2,hk.2⟩⟩⟩⟩,hk.1.1.1.2⟩))).2.1 (Kd.R_F (Kd.R_mono (ok':=(fun k_=>((fun k_=>((P0_0_ k_ ∨ P0_1_ k_ ∨ P0_2_ k_) ∨ w.heap.size ≤ k_) ∧ some k_ ≠ (u339000 : Value).ownBlock ∧ k_ ≠ gb333 ∧ k_ ≠ gb334 ∧ k_ ≠ gb338)) k_ ∧ some k_ ≠ (u339001 : Value).ownBlock)) (Kd.R_types (Kd.R_types (Kd.R_types (Kd.R_apart' (HO352.out) (Kd.N_typed HO_339001.out) (by decide)) BK333.out (by decide)) BK334.out (by decide)) BK338.out (by decide)) (fun k_ hk=>⟨⟨(.inr (hk.1.1.1.1.1.1)),⟨hk.1.1.1.1.2,⟨hk.1.1.2,⟨hk.1.2,hk.2⟩⟩⟩⟩,hk.1.1.1.2⟩)))))
                (case aB=>exact (by repeat (first|(with_reducible first|exact HB.out|apply ba_|apply pN_|apply b1_|refine bs_ ?_ GE333.out|refine bs_ ?_ GE334.out|refine bs_ ?_ GE338.out)|exact HB.out)))
                (case aF=>exact (fun k_ hk=>⟨(.inr (Nat.le_trans (below_size (by repeat (first|(with_reducible first|exact HB.out|apply ba_|apply pN_|apply b1_|refine bs_ ?_ GE333.out|refine bs_ ?_ GE334.out|refine bs_ ?_ GE338.out)|exact HB.out))) hk)),Kd.fresh' (Kd.R_lt (by (with_reducible repeat first|apply Ra_|apply Rn_|apply Rd_);exact HO_339000.out)) k_ hk,Kd.freshB (g:=gb333) (o:=.cells #[.slice A0_0 l0_0.length c0_0,.slice (some ad349) l0_1.length c0_1,.slice A0_2 l0_2.length c0_2] 55 (0,0)) (by (with_reducible repeat first|refine bN_ ?_ _|refine bD_ ?_|refine bA_ ?_ _);exact BK333.out) k_ hk,Kd.freshB (g:=gb334) (o:=.cells #[.slice none 0 0,.slice none 0 0,.slice none 0 0] 55 (0,0)) (by (with_reducible repeat first|refine bN_ ?_ _|refine bD_ ?_|refine bA_ ?_ _);exact BK334.out) k_ hk,Kd.freshB (g:=gb338) (o:=.cells #[u339000,u339001,.slice A0_2 l0_2.length c0_2] 55 (0,0)) (by (with_reducible repeat first|refine bN_ ?_ _|refine bD_ ?_|refine bA_ ?_ _);exact BK338.out) k_ hk⟩))
                (case aO=>exact (by (with_reducible repeat first|apply Na_|apply Nn_|apply Nd_);exact Kd.N_mono HO_339001.out (fun _ hk=>⟨hk.1.1,⟨hk.1.2.1,⟨hk.1.2.2.1,⟨hk.1.2.2.2.1,hk.1.2.2.2.2⟩⟩⟩⟩)))
                (case aS=>exact (below_size (by repeat (first|(with_reducible first|exact HB.out|apply ba_|apply pN_|apply b1_|refine bs_ ?_ GE333.out|refine bs_ ?_ GE334.out|refine bs_ ?_ GE338.out)|exact HB.out))))
                (case aL=>have:=LMc55.out;omega)
                intro v354 w61 ho hb hg hat
                rw [← Ny353.out] at ho;have n0_:=A0_ (Kd.V_afterv (ok:=(fun k_=>((P0_0_ k_ ∨ P0_1_ k_ ∨ P0_2_ k_) ∨ w.heap.size ≤ k_) ∧ some k_ ≠ (u339000 : Value).ownBlock ∧ some k_ ≠ (.slice Ao62 t350.length co62 : Value).ownBlock ∧ k_ ≠ gb333 ∧ k_ ≠ gb334 ∧ k_ ≠ gb338)) (by (with_reducible repeat first|apply Va_|apply Vn_|apply Vd_);exact Kd.V_mono HO_334000.out (fun _ hk=>⟨⟨hk.1.1,⟨hk.1.2.1,⟨hk.2,⟨hk.1.2.2.2.1,⟨hk.1.2.2.2.2.1,hk.1.2.2.2.2.2⟩⟩⟩⟩⟩,hk.1.2.2.1⟩)) hg hat);have n1_:=A0_ (Kd.V_afterv (ok:=(fun k_=>((P0_0_ k_ ∨ P0_1_ k_ ∨ P0_2_ k_) ∨ w.heap.size ≤ k_) ∧ some k_ ≠ (u339000 : Value).ownBlock ∧ some k_ ≠ (.slice Ao62 t350.length co62 : Value).ownBlock ∧ k_ ≠ gb333 ∧ k_ ≠ gb334 ∧ k_ ≠ gb338)) (by (with_reducible repeat first|apply Va_|apply Vn_|apply Vd_);exact Kd.V_mono HO_334001.out (fun _ hk=>⟨⟨hk.1.1,⟨hk.1.2.1,⟨hk.2,⟨hk.1.2.2.2.1,⟨hk.1.2.2.2.2.1,hk.1.2.2.2.2.2⟩⟩⟩⟩⟩,hk.1.2.2.1⟩)) hg hat);have n2_:=A0_ (Kd.V_afterv (ok:=(fun k_=>((P0_0_ k_ ∨ P0_1_ k_ ∨ P0_2_ k_) ∨ w.heap.size ≤ k_) ∧ some k_ ≠ (u339000 : Value).ownBlock ∧ some k_ ≠ (.slice Ao62 t350.length co62 : Value).ownBlock ∧ k_ ≠ gb333 ∧ k_ ≠ gb334 ∧ k_ ≠ gb338)) (by (with_reducible repeat first|apply Va_|apply Vn_|apply Vd_);exact Kd.V_mono HO_334002.out (fun _ hk=>⟨⟨hk.1.1,⟨hk.1.2.1,⟨hk.2,⟨hk.1.2.2.2.1,⟨hk.1.2.2.2.2.1,hk.1.2.2.2.2.2⟩⟩⟩⟩⟩,hk.1.2.2.1⟩)) hg hat);have n3_:=A0_ (Kd.R_over' (by (with_reducible repeat first|apply Ra_|apply Rn_|apply Rd_);exact HO_339000.out) (Kd.N_typed (by (with_reducible repeat first|apply Na_|apply Nn_|apply Nd_);exact HO_339001.out)) (by decide) hg);have n4_:=A0_ (Kd.V_afterv (ok:=(fun k_=>((P0_0_ k_ ∨ P0_1_ k_ ∨ P0_2_ k_) ∨ w.heap.size ≤ k_) ∧ some k_ ≠ (u339000 : Value).ownBlock ∧ some k_ ≠ (.slice Ao62 t350.length co62 : Value).ownBlock ∧ k_ ≠ gb333 ∧ k_ ≠ gb334 ∧ k_ ≠ gb338)) (by (with_reducible repeat first|apply Va_|apply Vn_|apply Vd_);exact Kd.V_mono HO_339002.out (fun _ hk=>⟨⟨hk.1.1,⟨hk.1.2.1,⟨hk.2,⟨hk.1.2.2.2.1,⟨hk.1.2.2.2.2.1,hk.1.2.2.2.2.2⟩⟩⟩⟩⟩,hk.1.2.2.1⟩)) hg hat);have n5_:=A0_ (blk_grown (g:=gb333) (o:=.cells #[.slice A0_0 l0_0.length c0_0,.slice (some ad349) l0_1.length c0_1,.slice A0_2 l0_2.length c0_2] 55 (0,0)) (by (with_reducible repeat first|refine bN_ ?_ _|refine bD_ ?_|refine bA_ ?_ _);exact BK333.out) hg (Kd.N_ne HO_339001.out BK333.out (by decide)));have n6_:=A0_ (blk_grown (g:=gb334) (o:=.cells #[.slice none 0 0,.slice none 0 0,.slice none 0 0] 55 (0,0)) (by (with_reducible repeat first|refine bN_ ?_ _|refine bD_ ?_|refine bA_ ?_ _);exact BK334.out) hg (Kd.N_ne HO_339001.out BK334.out (by decide)));have n7_:=A0_ (blk_grown (g:=gb338) (o:=.cells #[u339000,u339001,.slice A0_2 l0_2.length c0_2] 55 (0,0)) (by (with_reducible repeat first|refine bN_ ?_ _|refine bD_ ?_|refine bA_ ?_ _);exact BK338.out) hg (Kd.N_ne HO_339001.out BK338.out (by decide)));have n8_:=A0_ (Kd.V_afterv (ok:=(fun k_=>((P0_0_ k_ ∨ P0_1_ k_ ∨ P0_2_ k_) ∨ w.heap.size ≤ k_) ∧ some k_ ≠ (u339000 : Value).ownBlock ∧ some k_ ≠ (.slice Ao62 t350.length co62 : Value).ownBlock ∧ k_ ≠ gb333 ∧ k_ ≠ gb334 ∧ k_ ≠ gb338)) (by (with_reducible repeat first|apply Va_|apply Vn_|apply Vd_);exact Kd.V_mono HL349_0.out (fun _ hk=>⟨⟨hk.1.1,⟨hk.1.2.1,⟨hk.2,⟨hk.1.2.2.2.1,⟨hk.1.2.2.2.2.1,hk.1.2.2.2.2.2⟩⟩⟩⟩⟩,hk.1.2.2.1⟩)) hg hat);have n9_:=A0_ (hb);have n10_:=A0_ (ho);clear HO_334000;clear HO_334001;clear HO_334002;clear HO_339000;clear HO_339002;clear BK333;clear BK334;clear BK338;clear HL349_0;clear HB;clear HO_339001;clear HO352;have HO_334000:=n0_;have HO_334001:=n1_;have HO_334002:=n2_;have HO_339000:=n3_;have HO_339002:=n4_;have BK333:=n5_;have BK334:=n6_;have BK338:=n7_;have HL349_0:=n8_;have HB:=n9_;have HO355:=n10_;clear n0_ n1_ n2_ n3_ n4_ n5_ n6_ n7_ n8_ n9_ n10_;clear ho hb hg hat;obtain ⟨Ao63,co63,eo63⟩:=Kd.N_slice HO355.out
                (first|subst eo63|(injection eo63 with f1_ f2_ f3_;have f4_:=f1_.symm;have f5_:=f3_.symm;clear f1_ f2_ f3_;subst f4_;subst f5_))
                refine hK.out _ _ ?_;clear hK K;refine norm_ (a':=?_) ?_ ?_;rotate_left
                · show Act.put _ (some 106) _ = _
                  simp only [Act.put,sA_,sZ_,sS_,i64_w,i32_w]
                  rfl
                refine pure_ (i:=11) (N:=some 107) (v:=?_) (a':=?_) #[true,true,true,true,true,true,true,true,true,true,true,true,false] rfl rfl (any_of HT_.out (by kernel_rfl)) (fun _ _ _ h=>h) (Or.inl ⟨by rfl,?_⟩) ?_ ?_;rotate_left
                · intro w'
                  go_simp
                  with_reducible rfl
                rotate_left
                · simp only [Act.put,sA_,sZ_,sS_,i64_w,i32_w]
                  rfl
                refine last_ (i:=12) (N:=none) #[true,true,true,true,true,true,true,true,true,true,true,true,true] rfl rfl (one_of HT_.out (by kernel_rfl)) (by decide) (fun K hK=>?_);have hs64 : w61.cell? ⟨gb338,1,none⟩ = some (u339001):=(blk_cell BK338.out 1).trans rfl;have hfs64:=blk_frozen BK338.out 1;have hns64_0:=NB333_338.out;have hns64_1:=NB334_338.out;have hms64_0:=NB338_333.out;have hms64_1:=NB338_334.out;refine skip_ (w1:=?_) (by rfl) rfl ?_ ?_;rotate_left
                · go_simp
                  rfl
                refine hK.out _ _ ?_;clear hK K;refine done_ (done_of HT_.out (by kernel_rfl)) ?_
                try go_wp2
                go_roundg k3
                case measure=>have:=HJ3.out;have:=HK2.out;have:=HK3.out;omega
                case rel=>exact ⟨(wrap64 (x11_3 + 1)),(y353),(.slice Ao63 y353.length co63),(by first|rfl|(simp;done)|(simp [*];done)),H',⟨by have:=HJ3.out;have:=HK2.out;have:=HK3.out;omega⟩,⟨by (with_reducible repeat first|apply Va_|apply Vn_|apply Vd_);exact Kd.V_mono (Kd.V_far (p:=⟨gb338,1,none⟩) (Kd.V_mono HO_334000.out (fun k_ hk=>(⟨hk,hk.1.2.2.2.2.2⟩ : _ ∧ k_ ≠ gb338))) (fun _ hk=>hk.2) (.slice Ao63 y353.length co63)) (fun _ hk=>⟨hk.1.1.1,⟨hk.1.1.2.1,⟨hk.1.2,⟨hk.1.1.2.2.2.1,⟨hk.1.1.2.2.2.2.1,hk.1.1.2.2.2.2.2⟩⟩⟩⟩⟩)⟩,⟨by (with_reducible repeat first|apply Va_|apply Vn_|apply Vd_);exact Kd.V_mono (Kd.V_far (p:=⟨gb338,1,none⟩) (Kd.V_mono HO_334001.out (fun k_ hk=>(⟨hk,hk.1.2.2.2.2.2⟩ : _ ∧ k_ ≠ gb338))) (fun _ hk=>hk.2) (.slice Ao63 y353.length co63)) (fun _ hk=>⟨hk.1.1.1,⟨hk.1.1.2.1,⟨hk.1.2,⟨hk.1.1.2.2.2.1,⟨hk.1.1.2.2.2.2.1,hk.1.1.2.2.2.2.2⟩⟩⟩⟩⟩)⟩,⟨by (with_reducible repeat first|apply Va_|apply Vn_|apply Vd_);exact Kd.V_mono (Kd.V_far (p:=⟨gb338,1,none⟩) (Kd.V_mono HO_334002.out (fun k_ hk=>(⟨hk,hk.1.2.2.2.2.2⟩ : _ ∧ k_ ≠ gb338))) (fun _ hk=>hk.2) (.slice Ao63 y353.length co63)) (fun _ hk=>⟨hk.1.1.1,⟨hk.1.1.2.1,⟨hk.1.2,⟨hk.1.1.2.2.2.1,⟨hk.1.1.2.2.2.2.1,hk.1.1.2.2.2.2.2⟩⟩⟩⟩⟩)⟩,⟨by (with_reducible repeat first|apply Ra_|apply Rn_|apply Rd_);exact Kd.R_mono (Kd.R_far (p:=⟨gb338,1,none⟩) (Kd.R_types HO_339000.out BK338.out (by decide)) (fun _ hk=>hk.2) (.slice Ao63 y353.length co63)) (fun _ hk=>hk.1.1)⟩,⟨by (with_reducible repeat first|apply Na_|apply Nn_|apply Nd_);exact Kd.N_mono (Kd.N_far (p:=⟨gb338,1,none⟩) (Kd.N_mono HO355.out (fun k_ hk=>(⟨hk,hk.2.2.2.2⟩ : _ ∧ k_ ≠ gb338))) (fun _ hk=>hk.2) (.slice Ao63 y353.length co63)) (fun _ hk=>⟨hk.1.1,⟨hk.1.2.1,⟨hk.1.2.2.1,⟨hk.1.2.2.2.1,hk.1.2.2.2.2⟩⟩⟩⟩)⟩,⟨by (with_reducible repeat first|apply Va_|apply Vn_|apply Vd_);exact Kd.V_mono (Kd.V_far (p:=⟨gb338,1,none⟩) (Kd.V_mono HO_339002.out (fun k_ hk=>(⟨hk,hk.1.2.2.2.2.2⟩ : _ ∧ k_ ≠ gb338))) (fun _ hk=>hk.2) (.slice Ao63 y353.length co63)) (fun _ hk=>⟨hk.1.1.1,⟨hk.1.1.2.1,⟨hk.1.2,⟨hk.1.1.2.2.2.1,⟨hk.1.1.2.2.2.2.1,hk.1.1.2.2.2.2.2⟩⟩⟩⟩⟩)⟩,⟨by (with_reducible repeat first|refine bN_ ?_ _|refine bD_ ?_|refine bA_ ?_ _);refine blk_far ?_ NB333_338.out _;(with_reducible repeat first|refine bN_ ?_ _|refine bD_ ?_|refine bA_ ?_ _);exact BK333.out⟩,⟨by (with_reducible repeat first|refine bN_ ?_ _|refine bD_ ?_|refine bA_ ?_ _);refine blk_far ?_ NB334_338.out _;(with_reducible repeat first|refine bN_ ?_ _|refine bD_ ?_|refine bA_ ?_ _);exact BK334.out⟩,⟨by (with_reducible repeat first|refine bN_ ?_ _|refine bD_ ?_|refine bA_ ?_ _);refine blk_put (cs:=#[u339000,u339001,.slice A0_2 l0_2.length c0_2]) ?_ 1 _ rfl;(with_reducible repeat first|refine bN_ ?_ _|refine bD_ ?_|refine bA_ ?_ _);exact BK338.out⟩,⟨by repeat (first|(with_reducible first|exact HB.out|apply ba_|apply pN_|apply b1_|refine bs_ ?_ GE333.out|refine bs_ ?_ GE334.out|refine bs_ ?_ GE338.out)|exact HB.out)⟩⟩
          rw [if_pos c25] at H;have c25b0 : decide (x10_2 < (l2.length : Int)) = true:=decide_eq_true c25;clear c25;have HC26:=A0_ H;clear H
          go_upto_region 7 with (fail)
          go_cut [69] (fun v69 wc=>∃ (kq : Nat) (x69_25 : Bool),v69 = .bool x69_25 ∧ Aside0 (logjamref25_Given.j2 kq a1 l2 t335 x10_2 x69_25 l0_0 l0_1 l0_2 x339000_2 l0_2 = some (r1,r2,r3,r4)) ∧ Aside0 (kq ≤ k2) ∧ Aside0 (Kd.R (Kd.int .i64) 3 wc w.heap.size (fun k_=>(w.heap.size ≤ k_) ∧ some k_ ≠ (u339000 : Value).ownBlock) v336 t335) ∧ Aside0 (Kd.V (Kd.int .i64) 3 wc w.heap.size (fun k_=>((P0_0_ k_ ∨ P0_1_ k_ ∨ P0_2_ k_) ∨ w.heap.size ≤ k_) ∧ some k_ ≠ (v336 : Value).ownBlock ∧ some k_ ≠ (u339000 : Value).ownBlock ∧ k_ ≠ gb333 ∧ k_ ≠ gb334 ∧ k_ ≠ gb338) (.slice A0_0 l0_0.length c0_0) l0_0) ∧ Aside0 (Kd.V (Kd.slice 3 (Kd.int .i64)) 23 wc w.heap.size (fun k_=>((P0_0_ k_ ∨ P0_1_ k_ ∨ P0_2_ k_) ∨ w.heap.size ≤ k_) ∧ some k_ ≠ (v336 : Value).ownBlock ∧ some k_ ≠ (u339000 : Value).ownBlock ∧ k_ ≠ gb333 ∧ k_ ≠ gb334 ∧ k_ ≠ gb338) (.slice A0_1 l0_1.length c0_1) l0_1) ∧ Aside0 (Kd.V (Kd.slice 3 (Kd.int .i64)) 23 wc w.heap.size (fun k_=>((P0_0_ k_ ∨ P0_1_ k_ ∨ P0_2_ k_) ∨ w.heap.size ≤ k_) ∧ some k_ ≠ (v336 : Value).ownBlock ∧ some k_ ≠ (u339000 : Value).ownBlock ∧ k_ ≠ gb333 ∧ k_ ≠ gb334 ∧ k_ ≠ gb338) (.slice A0_2 l0_2.length c0_2) l0_2) ∧ Aside0 (Kd.R (Kd.int .i64) 3 wc w.heap.size (fun k_=>(w.heap.size ≤ k_) ∧ some k_ ≠ (v336 : Value).ownBlock) u339000 x339000_2) ∧ Aside0 (Kd.V (Kd.slice 3 (Kd.int .i64)) 23 wc w.heap.size (fun k_=>((P0_0_ k_ ∨ P0_1_ k_ ∨ P0_2_ k_) ∨ w.heap.size ≤ k_) ∧ some k_ ≠ (v336 : Value).ownBlock ∧ some k_ ≠ (u339000 : Value).ownBlock ∧ k_ ≠ gb333 ∧ k_ ≠ gb334 ∧ k_ ≠ gb338) (.slice A0_2 l0_2.length c0_2) l0_2) ∧ Aside0 (wc.heap[gb333]? = some (.cells #[(.slice A0_0 l0_0.length c0_0),(.slice A0_1 l0_1.length c0_1),(.slice A0_2 l0_2.length c0_2)] 55 (0,0))) ∧ Aside0 (wc.heap[gb334]? = some (.cells #[(.slice none 0 0),(.slice none 0 0),(.slice none 0 0)] 55 (0,0))) ∧ Aside0 (wc.heap[gb338]? = some (.cells #[u339000,(.slice none 0 0),(.slice A0_2 l0_2.length c0_2)] 55 (0,0))) ∧ Aside0 (Below w.heap.size w wc))
          case first =>
            have H:=HC26.out;clear HC26;by_cases c27 : 0 ≤ x10_2;rotate_left
            · rw [if_neg c27] at H
              exact absurd H (by simp)
            rw [if_pos c27] at H;have c27b0 : decide (0 ≤ x10_2) = true:=decide_eq_true c27;clear c27
            (first|rw [c27b0]|(simp only [i64_w,i32_w];rw [c27b0])|skip)
            by_cases c28 : (rd l2 x10_2) < 0
            · rw [if_pos c28] at H
              have c28b0 : decide ((rd l2 x10_2) < 0) = true:=decide_eq_true c28;clear c28;have H':=A0_ H;clear H
              try go_wp2
              have n0_:=A0_ (Kd.R_drew HO_8.out);have n1_:=A0_ (Kd.V_drew HO_334000.out);have n2_:=A0_ (Kd.V_drew HO_334001.out);have n3_:=A0_ (Kd.V_drew HO_334002.out);have n4_:=A0_ (Kd.R_drew HO_339000.out);have n5_:=A0_ (Kd.V_drew HO_339002.out);have n6_:=A0_ (blk_drew BK333.out);have n7_:=A0_ (blk_drew BK334.out);have n8_:=A0_ (blk_drew BK338.out);have n9_:=A0_ (b1_ HB.out);clear HO_8;clear HO_334000;clear HO_334001;clear HO_334002;clear HO_339000;clear HO_339002;clear BK333;clear BK334;clear BK338;clear HB;have HO_8:=n0_;have HO_334000:=n1_;have HO_334001:=n2_;have HO_334002:=n3_;have HO_339000:=n4_;have HO_339002:=n5_;have BK333:=n6_;have BK334:=n7_;have BK338:=n8_;have HB:=n9_;clear n0_ n1_ n2_ n3_ n4_ n5_ n6_ n7_ n8_ n9_;have p339 : 0 ≤ (x10_2 : Int):=of_decide_eq_true (by first|(with_reducible assumption)|assumption);have q339 : x10_2 < (l2.length : Int):=of_decide_eq_true (by first|(with_reducible assumption)|assumption);obtain ⟨ad339,e339,hx339_0⟩:=Kd.at_int HR2.out x10_2 p339 q339;have hw339_0:=hx339_0;cases e339;replace hx339_0:=(HB.out.cell (bl_ w _ hx339_0)).trans hx339_0;replace p339:=eq_true p339;replace q339:=eq_true q339;refine start_ (n:=28) (S:=fun w'=>w'.cell? (ad339.add (x10_2).toNat) = some (.int .i64 (rd l2 x10_2))) (ds:=[]) #[false,false,false,false,false,false,false,false,false,false,false,false,false,false,false,false,false,false,false,false,false,false,false,false,false,false,false,false] (by kernel_rfl) rfl rfl (((HB.out.cell (bl_ w _ hw339_0)).trans hw339_0)) (fun hHeld=>?_);refine with_tabW logjamref25_Given.tab7 logjamref25_Given.bits7 (fun HT_ HW_=>?_)
              generalize wr.drew = w29 at HO_8 HO_334000 HO_334001 HO_334002 HO_339000 HO_339002 BK333 BK334 BK338 HB hx339_0 hHeld ⊢
              refine pure_ (i:=0) (N:=some 42) (v:=?_) (a':=?_) #[true,false,false,false,false,false,false,false,false,false,false,false,false,false,false,false,false,false,false,false,false,false,false,false,false,false,false,false] rfl rfl (any_of HT_.out (by kernel_rfl)) (fun _ _ _ h=>h) (Or.inl ⟨by rfl,?_⟩) ?_ ?_;rotate_left
              · intro w'
                go_simp
                with_reducible rfl
              rotate_left
              · simp only [Act.put,sA_,sZ_,sS_,i64_w,i32_w]
                rfl
              refine pure_ (i:=1) (N:=some 43) (v:=?_) (a':=?_) #[true,true,false,false,false,false,false,false,false,false,false,false,false,false,false,false,false,false,false,false,false,false,false,false,false,false,false,false] rfl rfl (any_of HT_.out (by kernel_rfl)) (fun _ _ _ h=>h) (Or.inl ⟨by rfl,?_⟩) ?_ ?_;rotate_left
              · intro w'
                go_simp
                with_reducible rfl
              rotate_left
              · simp only [Act.put,sA_,sZ_,sS_,i64_w,i32_w]
                rfl
              refine pure_ (i:=2) (N:=some 44) (v:=?_) (a':=?_) #[true,true,true,false,false,false,false,false,false,false,false,false,false,false,false,false,false,false,false,false,false,false,false,false,false,false,false,false] rfl rfl (any_of HT_.out (by kernel_rfl)) (fun _ _ _ h=>h) (Or.inl ⟨by rfl,?_⟩) ?_ ?_;rotate_left
              · intro w'
                go_simp
                with_reducible rfl
              rotate_left
              · simp only [Act.put,sA_,sZ_,sS_,i64_w,i32_w]
                rfl
              refine take_ (i:=3) (N:=some 45) (v:=?_) (a':=?_) #[true,true,true,true,false,false,false,false,false,false,false,false,false,false,false,false,false,false,false,false,false,false,false,false,false,false,false,false] rfl rfl (take_ofW HT_.out HW_.out (by kernel_rfl)) (fun _ _ _ h=>h) (Or.inl ⟨by rfl,?_⟩) hHeld ?_ ?_;rotate_left
              · intro w' s0
                go_simp
                with_reducible rfl
              rotate_left
              · simp only [Act.put,sA_,sZ_,sS_,i64_w,i32_w]
                rfl
              refine pure_ (i:=4) (N:=some 46) (v:=?_) (a':=?_) #[true,true,true,true,true,false,false,false,false,false,false,false,false,false,false,false,false,false,false,false,false,false,false,false,false,false,false,false] rfl rfl (any_of HT_.out (by kernel_rfl)) (fun _ _ _ h=>h) (Or.inl ⟨by rfl,?_⟩) ?_ ?_;rotate_left
              · intro w'
                go_simp
                with_reducible rfl
              rotate_left
              · simp only [Act.put,sA_,sZ_,sS_,i64_w,i32_w]
                rfl
              refine pure_ (i:=5) (N:=some 47) (v:=?_) (a':=?_) #[true,true,true,true,true,true,false,false,false,false,false,false,false,false,false,false,false,false,false,false,false,false,false,false,false,false,false,false] rfl rfl (any_of HT_.out (by kernel_rfl)) (fun _ _ _ h=>h) (Or.inl ⟨by rfl,?_⟩) ?_ ?_;rotate_left
              · intro w'
                go_simp
                with_reducible rfl
              rotate_left
              · simp only [Act.put,sA_,sZ_,sS_,i64_w,i32_w]
                rfl
              refine pure_ (i:=6) (N:=some 48) (v:=undef) (a':=?_) #[true,true,true,true,true,true,true,false,false,false,false,false,false,false,false,false,false,false,false,false,false,false,false,false,false,false,false,false] rfl rfl (any_of HT_.out (by kernel_rfl)) (fun _ _ _ h=>h) (Or.inr ⟨by rfl,rfl⟩) ?_ ?_;rotate_left
              · simp only [Act.put,sA_,sZ_,sS_,i64_w,i32_w]
                rfl
              refine pure_ (i:=7) (N:=some 49) (v:=undef) (a':=?_) #[true,true,true,true,true,true,true,true,false,false,false,false,false,false,false,false,false,false,false,false,false,false,false,false,false,false,false,false] rfl rfl (any_of HT_.out (by kernel_rfl)) (fun _ _ _ h=>h) (Or.inr ⟨by rfl,rfl⟩) ?_ ?_;rotate_left
              · simp only [Act.put,sA_,sZ_,sS_,i64_w,i32_w]
                rfl
              refine pure_ (i:=8) (N:=some 50) (v:=undef) (a':=?_) #[true,true,true,true,true,true,true,true,true,false,false,false,false,false,false,false,false,false,false,false,false,false,false,false,false,false,false,false] rfl rfl (any_of HT_.out (by kernel_rfl)) (fun _ _ _ h=>h) (Or.inr ⟨by rfl,rfl⟩) ?_ ?_;rotate_left
              · simp only [Act.put,sA_,sZ_,sS_,i64_w,i32_w]
                rfl
              refine pure_ (i:=9) (N:=some 51) (v:=undef) (a':=?_) #[true,true,true,true,true,true,true,true,true,true,false,false,false,false,false,false,false,false,false,false,false,false,false,false,false,false,false,false] rfl rfl (any_of HT_.out (by kernel_rfl)) (fun _ _ _ h=>h) (Or.inr ⟨by rfl,rfl⟩) ?_ ?_;rotate_left
              · simp only [Act.put,sA_,sZ_,sS_,i64_w,i32_w]
                rfl
              refine pure_ (i:=10) (N:=some 52) (v:=undef) (a':=?_) #[true,true,true,true,true,true,true,true,true,true,true,false,false,false,false,false,false,false,false,false,false,false,false,false,false,false,false,false] rfl rfl (any_of HT_.out (by kernel_rfl)) (fun _ _ _ h=>h) (Or.inr ⟨by rfl,rfl⟩) ?_ ?_;rotate_left
              · simp only [Act.put,sA_,sZ_,sS_,i64_w,i32_w]
                rfl
              refine pure_ (i:=11) (N:=some 53) (v:=undef) (a':=?_) #[true,true,true,true,true,true,true,true,true,true,true,true,false,false,false,false,false,false,false,false,false,false,false,false,false,false,false,false] rfl rfl (any_of HT_.out (by kernel_rfl)) (fun _ _ _ h=>h) (Or.inr ⟨by rfl,rfl⟩) ?_ ?_;rotate_left
              · simp only [Act.put,sA_,sZ_,sS_,i64_w,i32_w]
                rfl
              refine pure_ (i:=12) (N:=some 54) (v:=undef) (a':=?_) #[true,true,true,true,true,true,true,true,true,true,true,true,true,false,false,false,false,false,false,false,false,false,false,false,false,false,false,false] rfl rfl (any_of HT_.out (by kernel_rfl)) (fun _ _ _ h=>h) (Or.inr ⟨by rfl,rfl⟩) ?_ ?_;rotate_left
              · simp only [Act.put,sA_,sZ_,sS_,i64_w,i32_w]
                rfl
              refine pure_ (i:=13) (N:=some 55) (v:=undef) (a':=?_) #[true,true,true,true,true,true,true,true,true,true,true,true,true,true,false,false,false,false,false,false,false,false,false,false,false,false,false,false] rfl rfl (any_of HT_.out (by kernel_rfl)) (fun _ _ _ h=>h) (Or.inr ⟨by rfl,rfl⟩) ?_ ?_;rotate_left
              · simp only [Act.put,sA_,sZ_,sS_,i64_w,i32_w]
                rfl
              refine pure_ (i:=14) (N:=some 56) (v:=undef) (a':=?_) #[true,true,true,true,true,true,true,true,true,true,true,true,true,true,true,false,false,false,false,false,false,false,false,false,false,false,false,false] rfl rfl (any_of HT_.out (by kernel_rfl)) (fun _ _ _ h=>h) (Or.inr ⟨by rfl,rfl⟩) ?_ ?_;rotate_left
              · simp only [Act.put,sA_,sZ_,sS_,i64_w,i32_w]
                rfl
              refine pure_ (i:=15) (N:=some 57) (v:=?_) (a':=?_) #[true,true,true,true,true,true,true,true,true,true,true,true,true,true,true,true,false,false,false,false,false,false,false,false,false,false,false,false] rfl rfl (any_of HT_.out (by kernel_rfl)) (fun _ _ _ h=>h) (Or.inl ⟨by rfl,?_⟩) ?_ ?_;rotate_left
              · intro w'
                go_simp
                with_reducible rfl
              rotate_left
              · simp only [Act.put,sA_,sZ_,sS_,i64_w,i32_w]
                rfl
              refine pure_ (i:=16) (N:=some 58) (v:=?_) (a':=?_) #[true,true,true,true,true,true,true,true,true,true,true,true,true,true,true,true,true,false,false,false,false,false,false,false,false,false,false,false] rfl rfl (any_of HT_.out (by kernel_rfl)) (fun _ _ _ h=>h) (Or.inl ⟨by rfl,?_⟩) ?_ ?_;rotate_left
              · intro w'
                go_simp
                with_reducible rfl
              rotate_left
              · simp only [Act.put,sA_,sZ_,sS_,i64_w,i32_w]
                rfl
              refine pure_ (i:=17) (N:=some 59) (v:=undef) (a':=?_) #[true,true,true,true,true,true,true,true,true,true,true,true,true,true,true,true,true,true,false,false,false,false,false,false,false,false,false,false] rfl rfl (any_of HT_.out (by kernel_rfl)) (fun _ _ _ h=>h) (Or.inr ⟨by rfl,rfl⟩) ?_ ?_;rotate_left
              · simp only [Act.put,sA_,sZ_,sS_,i64_w,i32_w]
                rfl
              refine pure_ (i:=18) (N:=some 60) (v:=undef) (a':=?_) #[true,true,true,true,true,true,true,true,true,true,true,true,true,true,true,true,true,true,true,false,false,false,false,false,false,false,false,false] rfl rfl (any_of HT_.out (by kernel_rfl)) (fun _ _ _ h=>h) (Or.inr ⟨by rfl,rfl⟩) ?_ ?_;rotate_left
              · simp only [Act.put,sA_,sZ_,sS_,i64_w,i32_w]
                rfl
              refine pure_ (i:=19) (N:=some 61) (v:=undef) (a':=?_) #[true,true,true,true,true,true,true,true,true,true,true,true,true,true,true,true,true,true,true,true,false,false,false,false,false,false,false,false] rfl rfl (any_of HT_.out (by kernel_rfl)) (fun _ _ _ h=>h) (Or.inr ⟨by rfl,rfl⟩) ?_ ?_;rotate_left
              · simp only [Act.put,sA_,sZ_,sS_,i64_w,i32_w]
                rfl
              refine pure_ (i:=20) (N:=some 62) (v:=undef) (a':=?_) #[true,true,true,true,true,true,true,true,true,true,true,true,true,true,true,true,true,true,true,true,true,false,false,false,false,false,false,false] rfl rfl (any_of HT_.out (by kernel_rfl)) (fun _ _ _ h=>h) (Or.inr ⟨by rfl,rfl⟩) ?_ ?_;rotate_left
              · simp only [Act.put,sA_,sZ_,sS_,i64_w,i32_w]
                rfl
              refine pure_ (i:=21) (N:=some 63) (v:=undef) (a':=?_) #[true,true,true,true,true,true,true,true,true,true,true,true,true,true,true,true,true,true,true,true,true,true,false,false,false,false,false,false] rfl rfl (any_of HT_.out (by kernel_rfl)) (fun _ _ _ h=>h) (Or.inr ⟨by rfl,rfl⟩) ?_ ?_;rotate_left
              · simp only [Act.put,sA_,sZ_,sS_,i64_w,i32_w]
                rfl
              refine pure_ (i:=22) (N:=some 64) (v:=undef) (a':=?_) #[true,true,true,true,true,true,true,true,true,true,true,true,true,true,true,true,true,true,true,true,true,true,true,false,false,false,false,false] rfl rfl (any_of HT_.out (by kernel_rfl)) (fun _ _ _ h=>h) (Or.inr ⟨by rfl,rfl⟩) ?_ ?_;rotate_left
              · simp only [Act.put,sA_,sZ_,sS_,i64_w,i32_w]
                rfl
              refine pure_ (i:=23) (N:=some 65) (v:=undef) (a':=?_) #[true,true,true,true,true,true,true,true,true,true,true,true,true,true,true,true,true,true,true,true,true,true,true,true,false,false,false,false] rfl rfl (any_of HT_.out (by kernel_rfl)) (fun _ _ _ h=>h) (Or.inr ⟨by rfl,rfl⟩) ?_ ?_;rotate_left
              · simp only [Act.put,sA_,sZ_,sS_,i64_w,i32_w]
                rfl
              refine pure_ (i:=24) (N:=some 66) (v:=undef) (a':=?_) #[true,true,true,true,true,true,true,true,true,true,true,true,true,true,true,true,true,true,true,true,true,true,true,true,true,false,false,false] rfl rfl (any_of HT_.out (by kernel_rfl)) (fun _ _ _ h=>h) (Or.inr ⟨by rfl,rfl⟩) ?_ ?_;rotate_left
              · simp only [Act.put,sA_,sZ_,sS_,i64_w,i32_w]
                rfl
              refine pure_ (i:=25) (N:=some 67) (v:=undef) (a':=?_) #[true,true,true,true,true,true,true,true,true,true,true,true,true,true,true,true,true,true,true,true,true,true,true,true,true,true,false,false] rfl rfl (any_of HT_.out (by kernel_rfl)) (fun _ _ _ h=>h) (Or.inr ⟨by rfl,rfl⟩) ?_ ?_;rotate_left
              · simp only [Act.put,sA_,sZ_,sS_,i64_w,i32_w]
                rfl
              refine pure_ (i:=26) (N:=some 68) (v:=undef) (a':=?_) #[true,true,true,true,true,true,true,true,true,true,true,true,true,true,true,true,true,true,true,true,true,true,true,true,true,true,true,false] rfl rfl (any_of HT_.out (by kernel_rfl)) (fun _ _ _ h=>h) (Or.inr ⟨by rfl,rfl⟩) ?_ ?_;rotate_left
              · simp only [Act.put,sA_,sZ_,sS_,i64_w,i32_w]
                rfl
              refine pure_ (i:=27) (N:=some 69) (v:=?_) (a':=?_) #[true,true,true,true,true,true,true,true,true,true,true,true,true,true,true,true,true,true,true,true,true,true,true,true,true,true,true,true] rfl rfl (any_of HT_.out (by kernel_rfl)) (fun _ _ _ h=>h) (Or.inl ⟨by rfl,?_⟩) ?_ ?_;rotate_left
              · intro w'
                go_simp
                with_reducible rfl
              rotate_left
              · simp only [Act.put,sA_,sZ_,sS_,i64_w,i32_w]
                rfl
              refine done_ (done_of HT_.out (by kernel_rfl)) ?_
              try go_wp2
              go_meet
              case rel=>exact ⟨_,(true),(by first|rfl|(simp;done)|(simp [*];done)),H',⟨by have:=HJ3.out;have:=HK2.out;first|omega|exact Nat.le_refl _⟩,⟨by (with_reducible repeat first|apply Ra_|apply Rn_|apply Rd_);exact HO_8.out⟩,⟨by (with_reducible repeat first|apply Va_|apply Vn_|apply Vd_);exact HO_334000.out⟩,⟨by (with_reducible repeat first|apply Va_|apply Vn_|apply Vd_);exact HO_334001.out⟩,⟨by (with_reducible repeat first|apply Va_|apply Vn_|apply Vd_);exact HO_334002.out⟩,⟨by (with_reducible repeat first|apply Ra_|apply Rn_|apply Rd_);exact HO_339000.out⟩,⟨by (with_reducible repeat first|apply Va_|apply Vn_|apply Vd_);exact HO_339002.out⟩,⟨by (with_reducible repeat first|refine bN_ ?_ _|refine bD_ ?_|refine bA_ ?_ _);exact BK333.out⟩,⟨by (with_reducible repeat first|refine bN_ ?_ _|refine bD_ ?_|refine bA_ ?_ _);exact BK334.out⟩,⟨by (with_reducible repeat first|refine bN_ ?_ _|refine bD_ ?_|refine bA_ ?_ _);exact BK338.out⟩,⟨by repeat (first|(with_reducible first|exact HB.out|apply ba_|apply pN_|apply b1_|refine bs_ ?_ GE333.out|refine bs_ ?_ GE334.out|refine bs_ ?_ GE338.out)|exact HB.out)⟩⟩
            rw [if_neg c28] at H;have c28b0 : decide ((rd l2 x10_2) < 0) = false:=decide_eq_false c28;clear c28;by_cases c30 : x10_2 < (t335.length : Int);rotate_left
            · rw [if_neg c30] at H
              exact absurd H (by simp)
            rw [if_pos c30] at H;have c30b0 : decide (x10_2 < (t335.length : Int)) = true:=decide_eq_true c30;clear c30;by_cases c31 : (rd l2 x10_2) > (rd t335 x10_2)
            · rw [if_pos c31] at H
              have c31b0 : decide ((rd t335 x10_2) < (rd l2 x10_2)) = true:=decide_eq_true c31;clear c31;have H':=A0_ H;clear H
              try go_wp2
              have n0_:=A0_ (Kd.R_drew HO_8.out);have n1_:=A0_ (Kd.V_drew HO_334000.out);have n2_:=A0_ (Kd.V_drew HO_334001.out);have n3_:=A0_ (Kd.V_drew HO_334002.out);have n4_:=A0_ (Kd.R_drew HO_339000.out);have n5_:=A0_ (Kd.V_drew HO_339002.out);have n6_:=A0_ (blk_drew BK333.out);have n7_:=A0_ (blk_drew BK334.out);have n8_:=A0_ (blk_drew BK338.out);have n9_:=A0_ (b1_ HB.out);clear HO_8;clear HO_334000;clear HO_334001;clear HO_334002;clear HO_339000;clear HO_339002;clear BK333;clear BK334;clear BK338;clear HB;have HO_8:=n0_;have HO_334000:=n1_;have HO_334001:=n2_;have HO_334002:=n3_;have HO_339000:=n4_;have HO_339002:=n5_;have BK333:=n6_;have BK334:=n7_;have BK338:=n8_;have HB:=n9_;clear n0_ n1_ n2_ n3_ n4_ n5_ n6_ n7_ n8_ n9_;have p339 : 0 ≤ (x10_2 : Int):=of_decide_eq_true (by first|(with_reducible assumption)|assumption);have q339 : x10_2 < (l2.length : Int):=of_decide_eq_true (by first|(with_reducible assumption)|assumption);obtain ⟨ad339,e339,hx339_0⟩:=Kd.at_int HR2.out x10_2 p339 q339;have hw339_0:=hx339_0;cases e339;replace hx339_0:=(HB.out.cell (bl_ w _ hx339_0)).trans hx339_0;replace p339:=eq_true p339;replace q339:=eq_true q339;have p340 : 0 ≤ (x10_2 : Int):=of_decide_eq_true (by first|(with_reducible assumption)|assumption);have q340 : x10_2 < (l2.length : Int):=of_decide_eq_true (by first|(with_reducible assumption)|assumption);obtain ⟨ad340,e340,hx340_0⟩:=Kd.at_int HR2.out x10_2 p340 q340;have hw340_0:=hx340_0;obtain rfl : ad339 = ad340:=(by injection e340);replace hx340_0:=(HB.out.cell (bl_ w _ hx340_0)).trans hx340_0;replace p340:=eq_true p340;replace q340:=eq_true q340;obtain ⟨Ao33,co33,eo33⟩:=Kd.R_slice HO_8.out
              (first|subst eo33|(injection eo33 with f1_ f2_ f3_;have f4_:=f1_.symm;have f5_:=f3_.symm;clear f1_ f2_ f3_;subst f4_;subst f5_))
              have p341 : 0 ≤ (x10_2 : Int):=of_decide_eq_true (by first|(with_reducible assumption)|assumption);have q341 : x10_2 < (t335.length : Int):=of_decide_eq_true (by first|(with_reducible assumption)|assumption);obtain ⟨ad341,e341,hx341_0⟩:=Kd.at_int (Kd.R_reads' HO_8.out).2.2 x10_2 p341 q341;cases e341;replace p341:=eq_true p341;replace q341:=eq_true q341;refine start_ (n:=28) (S:=fun w'=>w'.cell? (ad339.add (x10_2).toNat) = some (.int .i64 (rd l2 x10_2)) ∧ w'.cell? (ad339.add (x10_2).toNat) = some (.int .i64 (rd l2 x10_2)) ∧ w'.cell? (ad341.add (x10_2).toNat) = some (.int .i64 (rd t335 x10_2))) (ds:=[]) #[false,false,false,false,false,false,false,false,false,false,false,false,false,false,false,false,false,false,false,false,false,false,false,false,false,false,false,false] (by kernel_rfl) rfl rfl ⟨((HB.out.cell (bl_ w _ hw339_0)).trans hw339_0),((HB.out.cell (bl_ w _ hw340_0)).trans hw340_0),hx341_0⟩ (fun hHeld=>?_);refine with_tabW logjamref25_Given.tab7 logjamref25_Given.bits7 (fun HT_ HW_=>?_)
              generalize wr.drew = w32 at HO_8 HO_334000 HO_334001 HO_334002 HO_339000 HO_339002 BK333 BK334 BK338 HB hx339_0 hx340_0 hx341_0 hHeld ⊢
              refine pure_ (i:=0) (N:=some 42) (v:=?_) (a':=?_) #[true,false,false,false,false,false,false,false,false,false,false,false,false,false,false,false,false,false,false,false,false,false,false,false,false,false,false,false] rfl rfl (any_of HT_.out (by kernel_rfl)) (fun _ _ _ h=>h) (Or.inl ⟨by rfl,?_⟩) ?_ ?_;rotate_left
              · intro w'
                go_simp
                with_reducible rfl
              rotate_left
              · simp only [Act.put,sA_,sZ_,sS_,i64_w,i32_w]
                rfl
              refine pure_ (i:=1) (N:=some 43) (v:=?_) (a':=?_) #[true,true,false,false,false,false,false,false,false,false,false,false,false,false,false,false,false,false,false,false,false,false,false,false,false,false,false,false] rfl rfl (any_of HT_.out (by kernel_rfl)) (fun _ _ _ h=>h) (Or.inl ⟨by rfl,?_⟩) ?_ ?_;rotate_left
              · intro w'
                go_simp
                with_reducible rfl
              rotate_left
              · simp only [Act.put,sA_,sZ_,sS_,i64_w,i32_w]
                rfl
              refine pure_ (i:=2) (N:=some 44) (v:=?_) (a':=?_) #[true,true,true,false,false,false,false,false,false,false,false,false,false,false,false,false,false,false,false,false,false,false,false,false,false,false,false,false] rfl rfl (any_of HT_.out (by kernel_rfl)) (fun _ _ _ h=>h) (Or.inl ⟨by rfl,?_⟩) ?_ ?_;rotate_left
              · intro w'
                go_simp
                with_reducible rfl
              rotate_left
              · simp only [Act.put,sA_,sZ_,sS_,i64_w,i32_w]
                rfl
              refine take_ (i:=3) (N:=some 45) (v:=?_) (a':=?_) #[true,true,true,true,false,false,false,false,false,false,false,false,false,false,false,false,false,false,false,false,false,false,false,false,false,false,false,false] rfl rfl (take_ofW HT_.out HW_.out (by kernel_rfl)) (fun _ _ _ h=>h) (Or.inl ⟨by rfl,?_⟩) hHeld ?_ ?_;rotate_left
              · rintro w' ⟨s0,s1,s2⟩
                go_simp
                with_reducible rfl
              rotate_left
              · simp only [Act.put,sA_,sZ_,sS_,i64_w,i32_w]
                rfl
              refine pure_ (i:=4) (N:=some 46) (v:=?_) (a':=?_) #[true,true,true,true,true,false,false,false,false,false,false,false,false,false,false,false,false,false,false,false,false,false,false,false,false,false,false,false] rfl rfl (any_of HT_.out (by kernel_rfl)) (fun _ _ _ h=>h) (Or.inl ⟨by rfl,?_⟩) ?_ ?_;rotate_left
              · intro w'
                go_simp
                with_reducible rfl
              rotate_left
              · simp only [Act.put,sA_,sZ_,sS_,i64_w,i32_w]
                rfl
              refine pure_ (i:=5) (N:=some 47) (v:=?_) (a':=?_) #[true,true,true,true,true,true,false,false,false,false,false,false,false,false,false,false,false,false,false,false,false,false,false,false,false,false,false,false] rfl rfl (any_of HT_.out (by kernel_rfl)) (fun _ _ _ h=>h) (Or.inl ⟨by rfl,?_⟩) ?_ ?_;rotate_left
              · intro w'
                go_simp
                with_reducible rfl
              rotate_left
              · simp only [Act.put,sA_,sZ_,sS_,i64_w,i32_w]
                rfl
              refine pure_ (i:=6) (N:=some 48) (v:=?_) (a':=?_) #[true,true,true,true,true,true,true,false,false,false,false,false,false,false,false,false,false,false,false,false,false,false,false,false,false,false,false,false] rfl rfl (any_of HT_.out (by kernel_rfl)) (fun _ _ _ h=>h) (Or.inl ⟨by rfl,?_⟩) ?_ ?_;rotate_left
              · intro w'
                go_simp
                with_reducible rfl
              rotate_left
              · simp only [Act.put,sA_,sZ_,sS_,i64_w,i32_w]
                rfl
              refine pure_ (i:=7) (N:=some 49) (v:=?_) (a':=?_) #[true,true,true,true,true,true,true,true,false,false,false,false,false,false,false,false,false,false,false,false,false,false,false,false,false,false,false,false] rfl rfl (any_of HT_.out (by kernel_rfl)) (fun _ _ _ h=>h) (Or.inl ⟨by rfl,?_⟩) ?_ ?_;rotate_left
              · intro w'
                go_simp
                with_reducible rfl
              rotate_left
              · simp only [Act.put,sA_,sZ_,sS_,i64_w,i32_w]
                rfl
              refine pure_ (i:=8) (N:=some 50) (v:=?_) (a':=?_) #[true,true,true,true,true,true,true,true,true,false,false,false,false,false,false,false,false,false,false,false,false,false,false,false,false,false,false,false] rfl rfl (any_of HT_.out (by kernel_rfl)) (fun _ _ _ h=>h) (Or.inl ⟨by rfl,?_⟩) ?_ ?_;rotate_left
              · intro w'
                go_simp
                with_reducible rfl
              rotate_left
              · simp only [Act.put,sA_,sZ_,sS_,i64_w,i32_w]
                rfl
              refine pure_ (i:=10) (N:=some 52) (v:=?_) (a':=?_) #[true,true,true,true,true,true,true,true,true,false,true,false,false,false,false,false,false,false,false,false,false,false,false,false,false,false,false,false] rfl rfl (any_of HT_.out (by kernel_rfl)) (fun _ _ _ h=>h) (Or.inl ⟨by rfl,?_⟩) ?_ ?_;rotate_left
              · intro w'
                go_simp
                with_reducible rfl
              rotate_left
              · simp only [Act.put,sA_,sZ_,sS_,i64_w,i32_w]
                rfl
              refine pure_ (i:=11) (N:=some 53) (v:=?_) (a':=?_) #[true,true,true,true,true,true,true,true,true,false,true,true,false,false,false,false,false,false,false,false,false,false,false,false,false,false,false,false] rfl rfl (any_of HT_.out (by kernel_rfl)) (fun _ _ _ h=>h) (Or.inl ⟨by rfl,?_⟩) ?_ ?_;rotate_left
              · intro w'
                go_simp
                with_reducible rfl
              rotate_left
              · simp only [Act.put,sA_,sZ_,sS_,i64_w,i32_w]
                rfl
              refine pure_ (i:=12) (N:=some 54) (v:=?_) (a':=?_) #[true,true,true,true,true,true,true,true,true,false,true,true,true,false,false,false,false,false,false,false,false,false,false,false,false,false,false,false] rfl rfl (any_of HT_.out (by kernel_rfl)) (fun _ _ _ h=>h) (Or.inl ⟨by rfl,?_⟩) ?_ ?_;rotate_left
              · intro w'
                go_simp
                with_reducible rfl
              rotate_left
              · simp only [Act.put,sA_,sZ_,sS_,i64_w,i32_w]
                rfl
              refine take_ (i:=9) (N:=some 51) (v:=?_) (a':=?_) #[true,true,true,true,true,true,true,true,true,true,true,true,true,false,false,false,false,false,false,false,false,false,false,false,false,false,false,false] rfl rfl (take_ofW HT_.out HW_.out (by kernel_rfl)) (fun _ _ _ h=>h) (Or.inl ⟨by rfl,?_⟩) hHeld ?_ ?_;rotate_left
              · rintro w' ⟨s0,s1,s2⟩
                go_simp
                with_reducible rfl
              rotate_left
              · simp only [Act.put,sA_,sZ_,sS_,i64_w,i32_w]
                rfl
              refine take_ (i:=13) (N:=some 55) (v:=?_) (a':=?_) #[true,true,true,true,true,true,true,true,true,true,true,true,true,true,false,false,false,false,false,false,false,false,false,false,false,false,false,false] rfl rfl (take_ofW HT_.out HW_.out (by kernel_rfl)) (fun _ _ _ h=>h) (Or.inl ⟨by rfl,?_⟩) hHeld ?_ ?_;rotate_left
              · rintro w' ⟨s0,s1,s2⟩
                go_simp
                with_reducible rfl
              rotate_left
              · simp only [Act.put,sA_,sZ_,sS_,i64_w,i32_w]
                rfl
              refine pure_ (i:=14) (N:=some 56) (v:=?_) (a':=?_) #[true,true,true,true,true,true,true,true,true,true,true,true,true,true,true,false,false,false,false,false,false,false,false,false,false,false,false,false] rfl rfl (any_of HT_.out (by kernel_rfl)) (fun _ _ _ h=>h) (Or.inl ⟨by rfl,?_⟩) ?_ ?_;rotate_left
              · intro w'
                go_simp
                with_reducible rfl
              rotate_left
              · simp only [Act.put,sA_,sZ_,sS_,i64_w,i32_w]
                rfl
              refine pure_ (i:=15) (N:=some 57) (v:=?_) (a':=?_) #[true,true,true,true,true,true,true,true,true,true,true,true,true,true,true,true,false,false,false,false,false,false,false,false,false,false,false,false] rfl rfl (any_of HT_.out (by kernel_rfl)) (fun _ _ _ h=>h) (Or.inl ⟨by rfl,?_⟩) ?_ ?_;rotate_left
              · intro w'
                go_simp
                with_reducible rfl
              rotate_left
              · simp only [Act.put,sA_,sZ_,sS_,i64_w,i32_w]
                rfl
              refine pure_ (i:=16) (N:=some 58) (v:=?_) (a':=?_) #[true,true,true,true,true,true,true,true,true,true,true,true,true,true,true,true,true,false,false,false,false,false,false,false,false,false,false,false] rfl rfl (any_of HT_.out (by kernel_rfl)) (fun _ _ _ h=>h) (Or.inl ⟨by rfl,?_⟩) ?_ ?_;rotate_left
              · intro w'
                go_simp
                with_reducible rfl
              rotate_left
              · simp only [Act.put,sA_,sZ_,sS_,i64_w,i32_w]
                rfl
              refine pure_ (i:=17) (N:=some 59) (v:=undef) (a':=?_) #[true,true,true,true,true,true,true,true,true,true,true,true,true,true,true,true,true,true,false,false,false,false,false,false,false,false,false,false] rfl rfl (any_of HT_.out (by kernel_rfl)) (fun _ _ _ h=>h) (Or.inr ⟨by rfl,rfl⟩) ?_ ?_;rotate_left
              · simp only [Act.put,sA_,sZ_,sS_,i64_w,i32_w]
                rfl
              refine pure_ (i:=18) (N:=some 60) (v:=undef) (a':=?_) #[true,true,true,true,true,true,true,true,true,true,true,true,true,true,true,true,true,true,true,false,false,false,false,false,false,false,false,false] rfl rfl (any_of HT_.out (by kernel_rfl)) (fun _ _ _ h=>h) (Or.inr ⟨by rfl,rfl⟩) ?_ ?_;rotate_left
              · simp only [Act.put,sA_,sZ_,sS_,i64_w,i32_w]
                rfl
              refine pure_ (i:=19) (N:=some 61) (v:=undef) (a':=?_) #[true,true,true,true,true,true,true,true,true,true,true,true,true,true,true,true,true,true,true,true,false,false,false,false,false,false,false,false] rfl rfl (any_of HT_.out (by kernel_rfl)) (fun _ _ _ h=>h) (Or.inr ⟨by rfl,rfl⟩) ?_ ?_;rotate_left
              · simp only [Act.put,sA_,sZ_,sS_,i64_w,i32_w]
                rfl
              refine pure_ (i:=20) (N:=some 62) (v:=undef) (a':=?_) #[true,true,true,true,true,true,true,true,true,true,true,true,true,true,true,true,true,true,true,true,true,false,false,false,false,false,false,false] rfl rfl (any_of HT_.out (by kernel_rfl)) (fun _ _ _ h=>h) (Or.inr ⟨by rfl,rfl⟩) ?_ ?_;rotate_left
              · simp only [Act.put,sA_,sZ_,sS_,i64_w,i32_w]
                rfl
              refine pure_ (i:=21) (N:=some 63) (v:=undef) (a':=?_) #[true,true,true,true,true,true,true,true,true,true,true,true,true,true,true,true,true,true,true,true,true,true,false,false,false,false,false,false] rfl rfl (any_of HT_.out (by kernel_rfl)) (fun _ _ _ h=>h) (Or.inr ⟨by rfl,rfl⟩) ?_ ?_;rotate_left
              · simp only [Act.put,sA_,sZ_,sS_,i64_w,i32_w]
                rfl
              refine pure_ (i:=22) (N:=some 64) (v:=undef) (a':=?_) #[true,true,true,true,true,true,true,true,true,true,true,true,true,true,true,true,true,true,true,true,true,true,true,false,false,false,false,false] rfl rfl (any_of HT_.out (by kernel_rfl)) (fun _ _ _ h=>h) (Or.inr ⟨by rfl,rfl⟩) ?_ ?_;rotate_left
              · simp only [Act.put,sA_,sZ_,sS_,i64_w,i32_w]
                rfl
              refine pure_ (i:=23) (N:=some 65) (v:=undef) (a':=?_) #[true,true,true,true,true,true,true,true,true,true,true,true,true,true,true,true,true,true,true,true,true,true,true,true,false,false,false,false] rfl rfl (any_of HT_.out (by kernel_rfl)) (fun _ _ _ h=>h) (Or.inr ⟨by rfl,rfl⟩) ?_ ?_;rotate_left
              · simp only [Act.put,sA_,sZ_,sS_,i64_w,i32_w]
                rfl
              refine pure_ (i:=24) (N:=some 66) (v:=undef) (a':=?_) #[true,true,true,true,true,true,true,true,true,true,true,true,true,true,true,true,true,true,true,true,true,true,true,true,true,false,false,false] rfl rfl (any_of HT_.out (by kernel_rfl)) (fun _ _ _ h=>h) (Or.inr ⟨by rfl,rfl⟩) ?_ ?_;rotate_left
              · simp only [Act.put,sA_,sZ_,sS_,i64_w,i32_w]
                rfl
              refine pure_ (i:=25) (N:=some 67) (v:=undef) (a':=?_) #[true,true,true,true,true,true,true,true,true,true,true,true,true,true,true,true,true,true,true,true,true,true,true,true,true,true,false,false] rfl rfl (any_of HT_.out (by kernel_rfl)) (fun _ _ _ h=>h) (Or.inr ⟨by rfl,rfl⟩) ?_ ?_;rotate_left
              · simp only [Act.put,sA_,sZ_,sS_,i64_w,i32_w]
                rfl
              refine pure_ (i:=26) (N:=some 68) (v:=undef) (a':=?_) #[true,true,true,true,true,true,true,true,true,true,true,true,true,true,true,true,true,true,true,true,true,true,true,true,true,true,true,false] rfl rfl (any_of HT_.out (by kernel_rfl)) (fun _ _ _ h=>h) (Or.inr ⟨by rfl,rfl⟩) ?_ ?_;rotate_left
              · simp only [Act.put,sA_,sZ_,sS_,i64_w,i32_w]
                rfl
              refine pure_ (i:=27) (N:=some 69) (v:=?_) (a':=?_) #[true,true,true,true,true,true,true,true,true,true,true,true,true,true,true,true,true,true,true,true,true,true,true,true,true,true,true,true] rfl rfl (any_of HT_.out (by kernel_rfl)) (fun _ _ _ h=>h) (Or.inl ⟨by rfl,?_⟩) ?_ ?_;rotate_left
              · intro w'
                go_simp
                with_reducible rfl
              rotate_left
              · simp only [Act.put,sA_,sZ_,sS_,i64_w,i32_w]
                rfl
              refine done_ (done_of HT_.out (by kernel_rfl)) ?_
              try go_wp2
              go_meet
              case rel=>exact ⟨_,(true),(by first|rfl|(simp;done)|(simp [*];done)),H',⟨by have:=HJ3.out;have:=HK2.out;first|omega|exact Nat.le_refl _⟩,⟨by (with_reducible repeat first|apply Ra_|apply Rn_|apply Rd_);exact HO_8.out⟩,⟨by (with_reducible repeat first|apply Va_|apply Vn_|apply Vd_);exact HO_334000.out⟩,⟨by (with_reducible repeat first|apply Va_|apply Vn_|apply Vd_);exact HO_334001.out⟩,⟨by (with_reducible repeat first|apply Va_|apply Vn_|apply Vd_);exact HO_334002.out⟩,⟨by (with_reducible repeat first|apply Ra_|apply Rn_|apply Rd_);exact HO_339000.out⟩,⟨by (with_reducible repeat first|apply Va_|apply Vn_|apply Vd_);exact HO_339002.out⟩,⟨by (with_reducible repeat first|refine bN_ ?_ _|refine bD_ ?_|refine bA_ ?_ _);exact BK333.out⟩,⟨by (with_reducible repeat first|refine bN_ ?_ _|refine bD_ ?_|refine bA_ ?_ _);exact BK334.out⟩,⟨by (with_reducible repeat first|refine bN_ ?_ _|refine bD_ ?_|refine bA_ ?_ _);exact BK338.out⟩,⟨by repeat (first|(with_reducible first|exact HB.out|apply ba_|apply pN_|apply b1_|refine bs_ ?_ GE333.out|refine bs_ ?_ GE334.out|refine bs_ ?_ GE338.out)|exact HB.out)⟩⟩
            rw [if_neg c31] at H;have c31b0 : decide ((rd t335 x10_2) < (rd l2 x10_2)) = false:=decide_eq_false c31;clear c31;by_cases c34 : x10_2 < (l0_0.length : Int);rotate_left
            · rw [if_neg c34] at H
              exact absurd H (by simp)
            rw [if_pos c34] at H;have c34b0 : decide (x10_2 < (l0_0.length : Int)) = true:=decide_eq_true c34;clear c34;have H':=A0_ H;clear H
            try go_wp2
            have n0_:=A0_ (Kd.R_drew HO_8.out);have n1_:=A0_ (Kd.V_drew HO_334000.out);have n2_:=A0_ (Kd.V_drew HO_334001.out);have n3_:=A0_ (Kd.V_drew HO_334002.out);have n4_:=A0_ (Kd.R_drew HO_339000.out);have n5_:=A0_ (Kd.V_drew HO_339002.out);have n6_:=A0_ (blk_drew BK333.out);have n7_:=A0_ (blk_drew BK334.out);have n8_:=A0_ (blk_drew BK338.out);have n9_:=A0_ (b1_ HB.out);clear HO_8;clear HO_334000;clear HO_334001;clear HO_334002;clear HO_339000;clear HO_339002;clear BK333;clear BK334;clear BK338;clear HB;have HO_8:=n0_;have HO_334000:=n1_;have HO_334001:=n2_;have HO_334002:=n3_;have HO_339000:=n4_;have HO_339002:=n5_;have BK333:=n6_;have BK334:=n7_;have BK338:=n8_;have HB:=n9_;clear n0_ n1_ n2_ n3_ n4_ n5_ n6_ n7_ n8_ n9_;have p339 : 0 ≤ (x10_2 : Int):=of_decide_eq_true (by first|(with_reducible assumption)|assumption);have q339 : x10_2 < (l2.length : Int):=of_decide_eq_true (by first|(with_reducible assumption)|assumption);obtain ⟨ad339,e339,hx339_0⟩:=Kd.at_int HR2.out x10_2 p339 q339;have hw339_0:=hx339_0;cases e339;replace hx339_0:=(HB.out.cell (bl_ w _ hx339_0)).trans hx339_0;replace p339:=eq_true p339;replace q339:=eq_true q339;have p340 : 0 ≤ (x10_2 : Int):=of_decide_eq_true (by first|(with_reducible assumption)|assumption);have q340 : x10_2 < (l2.length : Int):=of_decide_eq_true (by first|(with_reducible assumption)|assumption);obtain ⟨ad340,e340,hx340_0⟩:=Kd.at_int HR2.out x10_2 p340 q340;have hw340_0:=hx340_0;obtain rfl : ad339 = ad340:=(by injection e340);replace hx340_0:=(HB.out.cell (bl_ w _ hx340_0)).trans hx340_0;replace p340:=eq_true p340;replace q340:=eq_true q340;obtain ⟨Ao36,co36,eo36⟩:=Kd.R_slice HO_8.out
            (first|subst eo36|(injection eo36 with f1_ f2_ f3_;have f4_:=f1_.symm;have f5_:=f3_.symm;clear f1_ f2_ f3_;subst f4_;subst f5_))
            have p341 : 0 ≤ (x10_2 : Int):=of_decide_eq_true (by first|(with_reducible assumption)|assumption);have q341 : x10_2 < (t335.length : Int):=of_decide_eq_true (by first|(with_reducible assumption)|assumption);obtain ⟨ad341,e341,hx341_0⟩:=Kd.at_int (Kd.R_reads' HO_8.out).2.2 x10_2 p341 q341;cases e341;replace p341:=eq_true p341;replace q341:=eq_true q341;have p342 : 0 ≤ (x10_2 : Int):=of_decide_eq_true (by first|(with_reducible assumption)|assumption);have q342 : x10_2 < (l2.length : Int):=of_decide_eq_true (by first|(with_reducible assumption)|assumption);obtain ⟨ad342,e342,hx342_0⟩:=Kd.at_int HR2.out x10_2 p342 q342;have hw342_0:=hx342_0;obtain rfl : ad339 = ad342:=(by injection e342);replace hx342_0:=(HB.out.cell (bl_ w _ hx342_0)).trans hx342_0;replace p342:=eq_true p342;replace q342:=eq_true q342;have p343 : 0 ≤ (x10_2 : Int):=of_decide_eq_true (by first|(with_reducible assumption)|assumption);have q343 : x10_2 < (l0_0.length : Int):=of_decide_eq_true (by first|(with_reducible assumption)|assumption);obtain ⟨ad343,e343,hx343_0⟩:=Kd.at_int (Kd.V_reads' HO_334000.out).2.2 x10_2 p343 q343;cases e343;replace p343:=eq_true p343;replace q343:=eq_true q343;refine start_ (n:=28) (S:=fun w'=>w'.cell? ⟨gb333,0,none⟩ = some (.slice (some ad343) l0_0.length c0_0) ∧ w'.cell? ⟨gb333,1,none⟩ = some (.slice A0_1 l0_1.length c0_1) ∧ w'.cell? ⟨gb333,2,none⟩ = some (.slice A0_2 l0_2.length c0_2) ∧ w'.cell? (ad339.add (x10_2).toNat) = some (.int .i64 (rd l2 x10_2)) ∧ w'.cell? (ad339.add (x10_2).toNat) = some (.int .i64 (rd l2 x10_2)) ∧ w'.cell? (ad341.add (x10_2).toNat) = some (.int .i64 (rd t335 x10_2)) ∧ w'.cell? (ad339.add (x10_2).toNat) = some (.int .i64 (rd l2 x10_2)) ∧ w'.cell? (ad343.add (x10_2).toNat) = some (.int .i64 (rd l0_0 x10_2))) (ds:=[]) #[false,false,false,false,false,false,false,false,false,false,false,false,false,false,false,false,false,false,false,false,false,false,false,false,false,false,false,false] (by kernel_rfl) rfl rfl ⟨(blk_cell BK333.out 0).trans rfl,(blk_cell BK333.out 1).trans rfl,(blk_cell BK333.out 2).trans rfl,((HB.out.cell (bl_ w _ hw339_0)).trans hw339_0),((HB.out.cell (bl_ w _ hw340_0)).trans hw340_0),hx341_0,((HB.out.cell (bl_ w _ hw342_0)).trans hw342_0),hx343_0⟩ (fun hHeld=>?_);refine with_tabW logjamref25_Given.tab7 logjamref25_Given.bits7 (fun HT_ HW_=>?_)
            generalize wr.drew = w35 at HO_8 HO_334000 HO_334001 HO_334002 HO_339000 HO_339002 BK333 BK334 BK338 HB hx339_0 hx340_0 hx341_0 hx342_0 hx343_0 hHeld ⊢
            refine pure_ (i:=0) (N:=some 42) (v:=?_) (a':=?_) #[true,false,false,false,false,false,false,false,false,false,false,false,false,false,false,false,false,false,false,false,false,false,false,false,false,false,false,false] rfl rfl (any_of HT_.out (by kernel_rfl)) (fun _ _ _ h=>h) (Or.inl ⟨by rfl,?_⟩) ?_ ?_;rotate_left
            · intro w'
              go_simp
              with_reducible rfl
            rotate_left
            · simp only [Act.put,sA_,sZ_,sS_,i64_w,i32_w]
              rfl
            refine pure_ (i:=1) (N:=some 43) (v:=?_) (a':=?_) #[true,true,false,false,false,false,false,false,false,false,false,false,false,false,false,false,false,false,false,false,false,false,false,false,false,false,false,false] rfl rfl (any_of HT_.out (by kernel_rfl)) (fun _ _ _ h=>h) (Or.inl ⟨by rfl,?_⟩) ?_ ?_;rotate_left
            · intro w'
              go_simp
              with_reducible rfl
            rotate_left
            · simp only [Act.put,sA_,sZ_,sS_,i64_w,i32_w]
              rfl
            refine pure_ (i:=2) (N:=some 44) (v:=?_) (a':=?_) #[true,true,true,false,false,false,false,false,false,false,false,false,false,false,false,false,false,false,false,false,false,false,false,false,false,false,false,false] rfl rfl (any_of HT_.out (by kernel_rfl)) (fun _ _ _ h=>h) (Or.inl ⟨by rfl,?_⟩) ?_ ?_;rotate_left
            · intro w'
              go_simp
              with_reducible rfl
            rotate_left
            · simp only [Act.put,sA_,sZ_,sS_,i64_w,i32_w]
              rfl
            refine take_ (i:=3) (N:=some 45) (v:=?_) (a':=?_) #[true,true,true,true,false,false,false,false,false,false,false,false,false,false,false,false,false,false,false,false,false,false,false,false,false,false,false,false] rfl rfl (take_ofW HT_.out HW_.out (by kernel_rfl)) (fun _ _ _ h=>h) (Or.inl ⟨by rfl,?_⟩) hHeld ?_ ?_;rotate_left
            · rintro w' ⟨s0,s1,s2,s3,s4,s5,s6,s7⟩
              go_simp
              with_reducible rfl
            rotate_left
            · simp only [Act.put,sA_,sZ_,sS_,i64_w,i32_w]
              rfl
            refine pure_ (i:=4) (N:=some 46) (v:=?_) (a':=?_) #[true,true,true,true,true,false,false,false,false,false,false,false,false,false,false,false,false,false,false,false,false,false,false,false,false,false,false,false] rfl rfl (any_of HT_.out (by kernel_rfl)) (fun _ _ _ h=>h) (Or.inl ⟨by rfl,?_⟩) ?_ ?_;rotate_left
            · intro w'
              go_simp
              with_reducible rfl
            rotate_left
            · simp only [Act.put,sA_,sZ_,sS_,i64_w,i32_w]
              rfl
            refine pure_ (i:=5) (N:=some 47) (v:=?_) (a':=?_) #[true,true,true,true,true,true,false,false,false,false,false,false,false,false,false,false,false,false,false,false,false,false,false,false,false,false,false,false] rfl rfl (any_of HT_.out (by kernel_rfl)) (fun _ _ _ h=>h) (Or.inl ⟨by rfl,?_⟩) ?_ ?_;rotate_left
            · intro w'
              go_simp
              with_reducible rfl
            rotate_left
            · simp only [Act.put,sA_,sZ_,sS_,i64_w,i32_w]
              rfl
            refine pure_ (i:=6) (N:=some 48) (v:=?_) (a':=?_) #[true,true,true,true,true,true,true,false,false,false,false,false,false,false,false,false,false,false,false,false,false,false,false,false,false,false,false,false] rfl rfl (any_of HT_.out (by kernel_rfl)) (fun _ _ _ h=>h) (Or.inl ⟨by rfl,?_⟩) ?_ ?_;rotate_left
            · intro w'
              go_simp
              with_reducible rfl
            rotate_left
            · simp only [Act.put,sA_,sZ_,sS_,i64_w,i32_w]
              rfl
            refine pure_ (i:=7) (N:=some 49) (v:=?_) (a':=?_) #[true,true,true,true,true,true,true,true,false,false,false,false,false,false,false,false,false,false,false,false,false,false,false,false,false,false,false,false] rfl rfl (any_of HT_.out (by kernel_rfl)) (fun _ _ _ h=>h) (Or.inl ⟨by rfl,?_⟩) ?_ ?_;rotate_left
            · intro w'
              go_simp
              with_reducible rfl
            rotate_left
            · simp only [Act.put,sA_,sZ_,sS_,i64_w,i32_w]
              rfl
            refine pure_ (i:=8) (N:=some 50) (v:=?_) (a':=?_) #[true,true,true,true,true,true,true,true,true,false,false,false,false,false,false,false,false,false,false,false,false,false,false,false,false,false,false,false] rfl rfl (any_of HT_.out (by kernel_rfl)) (fun _ _ _ h=>h) (Or.inl ⟨by rfl,?_⟩) ?_ ?_;rotate_left
            · intro w'
              go_simp
              with_reducible rfl
            rotate_left
            · simp only [Act.put,sA_,sZ_,sS_,i64_w,i32_w]
              rfl
            refine pure_ (i:=10) (N:=some 52) (v:=?_) (a':=?_) #[true,true,true,true,true,true,true,true,true,false,true,false,false,false,false,false,false,false,false,false,false,false,false,false,false,false,false,false] rfl rfl (any_of HT_.out (by kernel_rfl)) (fun _ _ _ h=>h) (Or.inl ⟨by rfl,?_⟩) ?_ ?_;rotate_left
            · intro w'
              go_simp
              with_reducible rfl
            rotate_left
            · simp only [Act.put,sA_,sZ_,sS_,i64_w,i32_w]
              rfl
            refine pure_ (i:=11) (N:=some 53) (v:=?_) (a':=?_) #[true,true,true,true,true,true,true,true,true,false,true,true,false,false,false,false,false,false,false,false,false,false,false,false,false,false,false,false] rfl rfl (any_of HT_.out (by kernel_rfl)) (fun _ _ _ h=>h) (Or.inl ⟨by rfl,?_⟩) ?_ ?_;rotate_left
            · intro w'
              go_simp
              with_reducible rfl
            rotate_left
            · simp only [Act.put,sA_,sZ_,sS_,i64_w,i32_w]
              rfl
            refine pure_ (i:=12) (N:=some 54) (v:=?_) (a':=?_) #[true,true,true,true,true,true,true,true,true,false,true,true,true,false,false,false,false,false,false,false,false,false,false,false,false,false,false,false] rfl rfl (any_of HT_.out (by kernel_rfl)) (fun _ _ _ h=>h) (Or.inl ⟨by rfl,?_⟩) ?_ ?_;rotate_left
            · intro w'
              go_simp
              with_reducible rfl
            rotate_left
            · simp only [Act.put,sA_,sZ_,sS_,i64_w,i32_w]
              rfl
            refine take_ (i:=9) (N:=some 51) (v:=?_) (a':=?_) #[true,true,true,true,true,true,true,true,true,true,true,true,true,false,false,false,false,false,false,false,false,false,false,false,false,false,false,false] rfl rfl (take_ofW HT_.out HW_.out (by kernel_rfl)) (fun _ _ _ h=>h) (Or.inl ⟨by rfl,?_⟩) hHeld ?_ ?_;rotate_left
            · rintro w' ⟨s0,s1,s2,s3,s4,s5,s6,s7⟩
              go_simp
              with_reducible rfl
            rotate_left
            · simp only [Act.put,sA_,sZ_,sS_,i64_w,i32_w]
              rfl
            refine take_ (i:=13) (N:=some 55) (v:=?_) (a':=?_) #[true,true,true,true,true,true,true,true,true,true,true,true,true,true,false,false,false,false,false,false,false,false,false,false,false,false,false,false] rfl rfl (take_ofW HT_.out HW_.out (by kernel_rfl)) (fun _ _ _ h=>h) (Or.inl ⟨by rfl,?_⟩) hHeld ?_ ?_;rotate_left
            · rintro w' ⟨s0,s1,s2,s3,s4,s5,s6,s7⟩
              go_simp
              with_reducible rfl
            rotate_left
            · simp only [Act.put,sA_,sZ_,sS_,i64_w,i32_w]
              rfl
            refine pure_ (i:=14) (N:=some 56) (v:=?_) (a':=?_) #[true,true,true,true,true,true,true,true,true,true,true,true,true,true,true,false,false,false,false,false,false,false,false,false,false,false,false,false] rfl rfl (any_of HT_.out (by kernel_rfl)) (fun _ _ _ h=>h) (Or.inl ⟨by rfl,?_⟩) ?_ ?_;rotate_left
            · intro w'
              go_simp
              with_reducible rfl
            rotate_left
            · simp only [Act.put,sA_,sZ_,sS_,i64_w,i32_w]
              rfl
            refine pure_ (i:=15) (N:=some 57) (v:=?_) (a':=?_) #[true,true,true,true,true,true,true,true,true,true,true,true,true,true,true,true,false,false,false,false,false,false,false,false,false,false,false,false] rfl rfl (any_of HT_.out (by kernel_rfl)) (fun _ _ _ h=>h) (Or.inl ⟨by rfl,?_⟩) ?_ ?_;rotate_left
            · intro w'
              go_simp
              with_reducible rfl
            rotate_left
            · simp only [Act.put,sA_,sZ_,sS_,i64_w,i32_w]
              rfl
            refine pure_ (i:=16) (N:=some 58) (v:=?_) (a':=?_) #[true,true,true,true,true,true,true,true,true,true,true,true,true,true,true,true,true,false,false,false,false,false,false,false,false,false,false,false] rfl rfl (any_of HT_.out (by kernel_rfl)) (fun _ _ _ h=>h) (Or.inl ⟨by rfl,?_⟩) ?_ ?_;rotate_left
            · intro w'
              go_simp
              with_reducible rfl
            rotate_left
            · simp only [Act.put,sA_,sZ_,sS_,i64_w,i32_w]
              rfl
            refine pure_ (i:=17) (N:=some 59) (v:=?_) (a':=?_) #[true,true,true,true,true,true,true,true,true,true,true,true,true,true,true,true,true,true,false,false,false,false,false,false,false,false,false,false] rfl rfl (any_of HT_.out (by kernel_rfl)) (fun _ _ _ h=>h) (Or.inl ⟨by rfl,?_⟩) ?_ ?_;rotate_left
            · intro w'
              go_simp
              with_reducible rfl
            rotate_left
            · simp only [Act.put,sA_,sZ_,sS_,i64_w,i32_w]
              rfl
            refine pure_ (i:=18) (N:=some 60) (v:=?_) (a':=?_) #[true,true,true,true,true,true,true,true,true,true,true,true,true,true,true,true,true,true,true,false,false,false,false,false,false,false,false,false] rfl rfl (any_of HT_.out (by kernel_rfl)) (fun _ _ _ h=>h) (Or.inl ⟨by rfl,?_⟩) ?_ ?_;rotate_left
            · intro w'
              go_simp
              with_reducible rfl
            rotate_left
            · simp only [Act.put,sA_,sZ_,sS_,i64_w,i32_w]
              rfl
            refine pure_ (i:=19) (N:=some 61) (v:=?_) (a':=?_) #[true,true,true,true,true,true,true,true,true,true,true,true,true,true,true,true,true,true,true,true,false,false,false,false,false,false,false,false] rfl rfl (any_of HT_.out (by kernel_rfl)) (fun _ _ _ h=>h) (Or.inl ⟨by rfl,?_⟩) ?_ ?_;rotate_left
            · intro w'
              go_simp
              with_reducible rfl
            rotate_left
            · simp only [Act.put,sA_,sZ_,sS_,i64_w,i32_w]
              rfl
            refine pure_ (i:=21) (N:=some 63) (v:=?_) (a':=?_) #[true,true,true,true,true,true,true,true,true,true,true,true,true,true,true,true,true,true,true,true,false,true,false,false,false,false,false,false] rfl rfl (any_of HT_.out (by kernel_rfl)) (fun _ _ _ h=>h) (Or.inl ⟨by rfl,?_⟩) ?_ ?_;rotate_left
            · intro w'
              go_simp
              with_reducible rfl
            rotate_left
            · simp only [Act.put,sA_,sZ_,sS_,i64_w,i32_w]
              rfl
            refine pure_ (i:=23) (N:=some 65) (v:=?_) (a':=?_) #[true,true,true,true,true,true,true,true,true,true,true,true,true,true,true,true,true,true,true,true,false,true,false,true,false,false,false,false] rfl rfl (any_of HT_.out (by kernel_rfl)) (fun _ _ _ h=>h) (Or.inl ⟨by rfl,?_⟩) ?_ ?_;rotate_left
            · intro w'
              go_simp
              with_reducible rfl
            rotate_left
            · simp only [Act.put,sA_,sZ_,sS_,i64_w,i32_w]
              rfl
            refine take_ (i:=20) (N:=some 62) (v:=?_) (a':=?_) #[true,true,true,true,true,true,true,true,true,true,true,true,true,true,true,true,true,true,true,true,true,true,false,true,false,false,false,false] rfl rfl (take_ofW HT_.out HW_.out (by kernel_rfl)) (fun _ _ _ h=>h) (Or.inl ⟨by rfl,?_⟩) hHeld ?_ ?_;rotate_left
            · rintro w' ⟨s0,s1,s2,s3,s4,s5,s6,s7⟩
              go_simp
              with_reducible rfl
            rotate_left
            · simp only [Act.put,sA_,sZ_,sS_,i64_w,i32_w]
              rfl
            refine take_ (i:=22) (N:=some 64) (v:=?_) (a':=?_) #[true,true,true,true,true,true,true,true,true,true,true,true,true,true,true,true,true,true,true,true,true,true,true,true,false,false,false,false] rfl rfl (take_ofW HT_.out HW_.out (by kernel_rfl)) (fun _ _ _ h=>h) (Or.inl ⟨by rfl,?_⟩) hHeld ?_ ?_;rotate_left
            · rintro w' ⟨s0,s1,s2,s3,s4,s5,s6,s7⟩
              go_simp
              with_reducible rfl
            rotate_left
            · simp only [Act.put,sA_,sZ_,sS_,i64_w,i32_w]
              rfl
            refine pure_ (i:=24) (N:=some 66) (v:=?_) (a':=?_) #[true,true,true,true,true,true,true,true,true,true,true,true,true,true,true,true,true,true,true,true,true,true,true,true,true,false,false,false] rfl rfl (any_of HT_.out (by kernel_rfl)) (fun _ _ _ h=>h) (Or.inl ⟨by rfl,?_⟩) ?_ ?_;rotate_left
            · intro w'
              go_simp
              with_reducible rfl
            rotate_left
            · simp only [Act.put,sA_,sZ_,sS_,i64_w,i32_w]
              rfl
            refine take_ (i:=25) (N:=some 67) (v:=?_) (a':=?_) #[true,true,true,true,true,true,true,true,true,true,true,true,true,true,true,true,true,true,true,true,true,true,true,true,true,true,false,false] rfl rfl (take_ofW HT_.out HW_.out (by kernel_rfl)) (fun _ _ _ h=>h) (Or.inl ⟨by rfl,?_⟩) hHeld ?_ ?_;rotate_left
            · rintro w' ⟨s0,s1,s2,s3,s4,s5,s6,s7⟩
              go_simp
              with_reducible rfl
            rotate_left
            · simp only [Act.put,sA_,sZ_,sS_,i64_w,i32_w]
              rfl
            refine pure_ (i:=26) (N:=some 68) (v:=?_) (a':=?_) #[true,true,true,true,true,true,true,true,true,true,true,true,true,true,true,true,true,true,true,true,true,true,true,true,true,true,true,false] rfl rfl (any_of HT_.out (by kernel_rfl)) (fun _ _ _ h=>h) (Or.inl ⟨by rfl,?_⟩) ?_ ?_;rotate_left
            · intro w'
              go_simp
              with_reducible rfl
            rotate_left
            · simp only [Act.put,sA_,sZ_,sS_,i64_w,i32_w]
              rfl
            refine pure_ (i:=27) (N:=some 69) (v:=?_) (a':=?_) #[true,true,true,true,true,true,true,true,true,true,true,true,true,true,true,true,true,true,true,true,true,true,true,true,true,true,true,true] rfl rfl (any_of HT_.out (by kernel_rfl)) (fun _ _ _ h=>h) (Or.inl ⟨by rfl,?_⟩) ?_ ?_;rotate_left
            · intro w'
              go_simp
              with_reducible rfl
            rotate_left
            · simp only [Act.put,sA_,sZ_,sS_,i64_w,i32_w]
              rfl
            refine done_ (done_of HT_.out (by kernel_rfl)) ?_
            try go_wp2
            go_meet
            case rel=>exact ⟨_,(decide ((rd l2 x10_2) > (rd l0_0 x10_2))),(by first|rfl|(simp;done)|(simp [*];done)),H',⟨by have:=HJ3.out;have:=HK2.out;first|omega|exact Nat.le_refl _⟩,⟨by (with_reducible repeat first|apply Ra_|apply Rn_|apply Rd_);exact HO_8.out⟩,⟨by (with_reducible repeat first|apply Va_|apply Vn_|apply Vd_);exact HO_334000.out⟩,⟨by (with_reducible repeat first|apply Va_|apply Vn_|apply Vd_);exact HO_334001.out⟩,⟨by (with_reducible repeat first|apply Va_|apply Vn_|apply Vd_);exact HO_334002.out⟩,⟨by (with_reducible repeat first|apply Ra_|apply Rn_|apply Rd_);exact HO_339000.out⟩,⟨by (with_reducible repeat first|apply Va_|apply Vn_|apply Vd_);exact HO_339002.out⟩,⟨by (with_reducible repeat first|refine bN_ ?_ _|refine bD_ ?_|refine bA_ ?_ _);exact BK333.out⟩,⟨by (with_reducible repeat first|refine bN_ ?_ _|refine bD_ ?_|refine bA_ ?_ _);exact BK334.out⟩,⟨by (with_reducible repeat first|refine bN_ ?_ _|refine bD_ ?_|refine bA_ ?_ _);exact BK338.out⟩,⟨by repeat (first|(with_reducible first|exact HB.out|apply ba_|apply pN_|apply b1_|refine bs_ ?_ GE333.out|refine bs_ ?_ GE334.out|refine bs_ ?_ GE338.out)|exact HB.out)⟩⟩
          case rest =>
            clear HC26;(try clear c2);(try clear p2);(try clear c3);(try clear p3);(try clear q3);(try clear hx3);(try clear c27);(try clear c28);(try clear c28b0);(try clear c30);(try clear c30b0);(try clear c31);(try clear c31b0);(try clear p33);(try clear q33);(try clear hx33);(try clear c34);(try clear c34b0);(try clear p34);(try clear q34);(try clear hx34);(try clear hx339_0);(try clear hx340_0);(try clear hx341_0);(try clear hx342_0);(try clear hx343_0);(try clear p339);(try clear p340);(try clear p341);(try clear p342);(try clear p343);(try clear q339);(try clear q340);(try clear q341);(try clear q342);(try clear q343);obtain ⟨kq,x69_25,rfl,HA,HJ25,HO_8,HO_334000,HO_334001,HO_334002,HO_339000,HO_339002,BK333,BK334,BK338,HB⟩:=hcut
            cases kq with
            | zero=>exact absurd HA.out (by simp [logjamref25_Given.j2])
            | succ kj25 =>
              have H:=HA.out;clear HA;simp only [logjamref25_Given.j2] at H;by_cases c37 : x69_25 = true
              · subst c37
                have H1 : (some (l0_0,l0_1,l0_2,false)) = some (r1,r2,r3,r4):=by rw [if_pos rfl] at H;exact H
                clear H;have H:=H1;clear H1;simp only [Option.some.injEq,Prod.mk.injEq] at H;obtain ⟨rfl,rfl,rfl,rfl⟩:=H;have hnb38:=NB333_334.out;have hnc38:=NB334_333.out;have hnb39:=NB333_338.out;have hnc39:=NB338_333.out;obtain ⟨hcz40_0,hcz40_1,hcz40_2,hfz40_0,hfz40_1,hfz40_2⟩:=cz3_ (w:=wc) BK333.out;have hnb41:=NB334_338.out;have hnc41:=NB338_334.out;obtain ⟨hcz42_0,hcz42_1,hcz42_2,hfz42_0,hfz42_1,hfz42_2⟩:=cz3_ (w:=wc) BK334.out;go_wp2;refine bodyPost_ret (results_ct rfl _ _ gb334 55 #[.slice A0_0 l0_0.length c0_0,.slice A0_1 l0_1.length c0_1,.slice A0_2 l0_2.length c0_2] (0,0) _ rfl (by (with_reducible repeat first|refine bN_ ?_ _|refine bD_ ?_|refine bA_ ?_ _);refine blk_put (cs:=#[.slice A0_0 l0_0.length c0_0,.slice A0_1 l0_1.length c0_1,.slice none 0 0]) ?_ 2 _ rfl;(with_reducible repeat first|refine bN_ ?_ _|refine bD_ ?_|refine bA_ ?_ _);refine blk_put (cs:=#[.slice A0_0 l0_0.length c0_0,.slice none 0 0,.slice none 0 0]) ?_ 1 _ rfl;(with_reducible repeat first|refine bN_ ?_ _|refine bD_ ?_|refine bA_ ?_ _);refine blk_put (cs:=#[.slice none 0 0,.slice none 0 0,.slice none 0 0]) ?_ 0 _ rfl;(with_reducible repeat first|refine bN_ ?_ _|refine bD_ ?_|refine bA_ ?_ _);exact BK334.out) Try.underlying55 rfl (by kernel_rfl)) rfl ?_;exact ⟨_,_,_,by first|rfl|(simp [errW_none,errW_some] <;> rfl)|(simp [*,errW_none,errW_some] <;> rfl),by (with_reducible repeat first|apply Va_|apply Vn_|apply Vd_);exact Kd.V_mono (Kd.V_far (p:=⟨gb334,2,none⟩) (Kd.V_far (p:=⟨gb334,1,none⟩) (Kd.V_far (p:=⟨gb334,0,none⟩) (Kd.V_mono HO_334000.out (fun k_ hk=>(⟨hk,hk.2.2.2.2.1⟩ : _ ∧ k_ ≠ gb334))) (fun _ hk=>hk.2) (.slice A0_0 l0_0.length c0_0)) (fun _ hk=>hk.2) (.slice A0_1 l0_1.length c0_1)) (fun _ hk=>hk.2) (.slice A0_2 l0_2.length c0_2)) (fun _ hk=>hk.1.1),by (with_reducible repeat first|apply Va_|apply Vn_|apply Vd_);exact Kd.V_mono (Kd.V_far (p:=⟨gb334,2,none⟩) (Kd.V_far (p:=⟨gb334,1,none⟩) (Kd.V_far (p:=⟨gb334,0,none⟩) (Kd.V_mono HO_334001.out (fun k_ hk=>(⟨hk,hk.2.2.2.2.1⟩ : _ ∧ k_ ≠ gb334))) (fun _ hk=>hk.2) (.slice A0_0 l0_0.length c0_0)) (fun _ hk=>hk.2) (.slice A0_1 l0_1.length c0_1)) (fun _ hk=>hk.2) (.slice A0_2 l0_2.length c0_2)) (fun _ hk=>hk.1.1),by (with_reducible repeat first|apply Va_|apply Vn_|apply Vd_);exact Kd.V_mono (Kd.V_far (p:=⟨gb334,2,none⟩) (Kd.V_far (p:=⟨gb334,1,none⟩) (Kd.V_far (p:=⟨gb334,0,none⟩) (Kd.V_mono HO_334002.out (fun k_ hk=>(⟨hk,hk.2.2.2.2.1⟩ : _ ∧ k_ ≠ gb334))) (fun _ hk=>hk.2) (.slice A0_0 l0_0.length c0_0)) (fun _ hk=>hk.2) (.slice A0_1 l0_1.length c0_1)) (fun _ hk=>hk.2) (.slice A0_2 l0_2.length c0_2)) (fun _ hk=>hk.1.1),by repeat (first|(with_reducible first|exact HB.out|apply ba_|apply pN_|apply b1_|refine bs_ ?_ GE333.out|refine bs_ ?_ GE334.out|refine bs_ ?_ GE338.out)|exact HB.out)⟩
              replace c37:=Bool.eq_false_iff.mpr c37;subst c37;have H1 : (if 0 ≤ x10_2 then (if x10_2 < (l0_0.length : Int) then (if x10_2 < (l2.length : Int) then (if x339000_2.length < 17592186044416 then (logjamref25_Given.l0 kj25 a1 l2 t335 (wrap64 (x10_2 + 1)) l0_0 l0_1 l0_2 (x339000_2 ++ [wrap64 ((rd l0_0 x10_2) - (rd l2 x10_2))]) l0_2) else (none)) else (none)) else (none)) else (none)) = some (r1,r2,r3,r4):=by rw [if_neg (show ¬ (false = true) by decide)] at H;exact H
              clear H;have H:=H1;clear H1;by_cases c43 : 0 ≤ x10_2;rotate_left
              · rw [if_neg c43] at H
                exact absurd H (by simp)
              rw [if_pos c43] at H;have c43b0 : decide (0 ≤ x10_2) = true:=decide_eq_true c43;clear c43;by_cases c44 : x10_2 < (l0_0.length : Int);rotate_left
              · rw [if_neg c44] at H
                exact absurd H (by simp)
              rw [if_pos c44] at H;have c44b0 : decide (x10_2 < (l0_0.length : Int)) = true:=decide_eq_true c44;clear c44;by_cases c45 : x10_2 < (l2.length : Int);rotate_left
              · rw [if_neg c45] at H
                exact absurd H (by simp)
              rw [if_pos c45] at H;have c45b0 : decide (x10_2 < (l2.length : Int)) = true:=decide_eq_true c45;clear c45;by_cases c46 : x339000_2.length < 17592186044416;rotate_left
              · rw [if_neg c46] at H
                exact absurd H (by simp)
              rw [if_pos c46] at H;have LMc46:=A0_ c46;clear c46;obtain ⟨y346,hy346⟩ : ∃ y_ : List Int,y_ = (x339000_2 ++ [wrap64 ((rd l0_0 x10_2) - (rd l2 x10_2))]):=⟨_,rfl⟩;replace H : (logjamref25_Given.l0 kj25 a1 l2 t335 (wrap64 (x10_2 + 1)) l0_0 l0_1 l0_2 y346 l0_2) = some (r1,r2,r3,r4):=by first|(rw [hy346];with_reducible exact H)|(have H2_:=(Option.bind_some _ _).symm.trans H;rw [hy346];with_reducible exact H2_)|(have H2_:=(Option.bind_some _ _).symm.trans H;with_reducible exact H2_)|with_reducible exact H|(rw [hy346];exact H)|exact H
              have Ny346:=A0_ hy346;clear hy346;have H':=A0_ H;clear H
              try go_wp2
              have n0_:=A0_ (Kd.R_drew HO_8.out);have n1_:=A0_ (Kd.V_drew HO_334000.out);have n2_:=A0_ (Kd.V_drew HO_334001.out);have n3_:=A0_ (Kd.V_drew HO_334002.out);have n4_:=A0_ (Kd.R_drew HO_339000.out);have n5_:=A0_ (Kd.V_drew HO_339002.out);have n6_:=A0_ (blk_drew BK333.out);have n7_:=A0_ (blk_drew BK334.out);have n8_:=A0_ (blk_drew BK338.out);have n9_:=A0_ (b1_ HB.out);clear HO_8;clear HO_334000;clear HO_334001;clear HO_334002;clear HO_339000;clear HO_339002;clear BK333;clear BK334;clear BK338;clear HB;have HO_8:=n0_;have HO_334000:=n1_;have HO_334001:=n2_;have HO_334002:=n3_;have HO_339000:=n4_;have HO_339002:=n5_;have BK333:=n6_;have BK334:=n7_;have BK338:=n8_;have HB:=n9_;clear n0_ n1_ n2_ n3_ n4_ n5_ n6_ n7_ n8_ n9_;have p344 : 0 ≤ (x10_2 : Int):=of_decide_eq_true (by first|(with_reducible assumption)|assumption);have q344 : x10_2 < (l0_0.length : Int):=of_decide_eq_true (by first|(with_reducible assumption)|assumption);obtain ⟨ad344,e344,hx344_0⟩:=Kd.at_int (Kd.V_reads' HO_334000.out).2.2 x10_2 p344 q344;cases e344;replace p344:=eq_true p344;replace q344:=eq_true q344;have p345 : 0 ≤ (x10_2 : Int):=of_decide_eq_true (by first|(with_reducible assumption)|assumption);have q345 : x10_2 < (l2.length : Int):=of_decide_eq_true (by first|(with_reducible assumption)|assumption);obtain ⟨ad345,e345,hx345_0⟩:=Kd.at_int HR2.out x10_2 p345 q345;have hw345_0:=hx345_0;cases e345;replace hx345_0:=(HB.out.cell (bl_ w _ hx345_0)).trans hx345_0;replace p345:=eq_true p345;replace q345:=eq_true q345;refine start_ (n:=16) (S:=fun w'=>w'.cell? ⟨gb338,0,none⟩ = some (u339000) ∧ w'.cell? ⟨gb338,1,none⟩ = some (.slice none 0 0) ∧ w'.cell? ⟨gb338,2,none⟩ = some (.slice A0_2 l0_2.length c0_2) ∧ w'.cell? ⟨gb333,0,none⟩ = some (.slice (some ad344) l0_0.length c0_0) ∧ w'.cell? ⟨gb333,1,none⟩ = some (.slice A0_1 l0_1.length c0_1) ∧ w'.cell? ⟨gb333,2,none⟩ = some (.slice A0_2 l0_2.length c0_2) ∧ w'.cell? (ad344.add (x10_2).toNat) = some (.int .i64 (rd l0_0 x10_2)) ∧ w'.cell? (ad345.add (x10_2).toNat) = some (.int .i64 (rd l2 x10_2))) (ds:=[13,15]) #[false,false,false,false,false,false,false,false,false,false,false,false,false,false,false,false] (by kernel_rfl) rfl rfl ⟨(blk_cell BK338.out 0).trans rfl,(blk_cell BK338.out 1).trans rfl,(blk_cell BK338.out 2).trans rfl,(blk_cell BK333.out 0).trans rfl,(blk_cell BK333.out 1).trans rfl,(blk_cell BK333.out 2).trans rfl,hx344_0,((HB.out.cell (bl_ w _ hw345_0)).trans hw345_0)⟩ (fun hHeld=>?_);refine with_tabW logjamref25_Given.tab9 logjamref25_Given.bits9 (fun HT_ HW_=>?_)
              generalize wc.drew = w47 at HO_8 HO_334000 HO_334001 HO_334002 HO_339000 HO_339002 BK333 BK334 BK338 HB hx344_0 hx345_0 hHeld ⊢
              refine pure_ (i:=0) (N:=some 71) (v:=?_) (a':=?_) #[true,false,false,false,false,false,false,false,false,false,false,false,false,false,false,false] rfl rfl (any_of HT_.out (by kernel_rfl)) (fun _ _ _ h=>h) (Or.inl ⟨by rfl,?_⟩) ?_ ?_;rotate_left
              · intro w'
                go_simp
                with_reducible rfl
              rotate_left
              · simp only [Act.put,sA_,sZ_,sS_,i64_w,i32_w]
                rfl
              refine pure_ (i:=2) (N:=some 73) (v:=?_) (a':=?_) #[true,false,true,false,false,false,false,false,false,false,false,false,false,false,false,false] rfl rfl (any_of HT_.out (by kernel_rfl)) (fun _ _ _ h=>h) (Or.inl ⟨by rfl,?_⟩) ?_ ?_;rotate_left
              · intro w'
                go_simp
                with_reducible rfl
              rotate_left
              · simp only [Act.put,sA_,sZ_,sS_,i64_w,i32_w]
                rfl
              refine pure_ (i:=4) (N:=some 75) (v:=?_) (a':=?_) #[true,false,true,false,true,false,false,false,false,false,false,false,false,false,false,false] rfl rfl (any_of HT_.out (by kernel_rfl)) (fun _ _ _ h=>h) (Or.inl ⟨by rfl,?_⟩) ?_ ?_;rotate_left
              · intro w'
                go_simp
                with_reducible rfl
              rotate_left
              · simp only [Act.put,sA_,sZ_,sS_,i64_w,i32_w]
                rfl
              refine pure_ (i:=7) (N:=some 78) (v:=?_) (a':=?_) #[true,false,true,false,true,false,false,true,false,false,false,false,false,false,false,false] rfl rfl (any_of HT_.out (by kernel_rfl)) (fun _ _ _ h=>h) (Or.inl ⟨by rfl,?_⟩) ?_ ?_;rotate_left
              · intro w'
                go_simp
                with_reducible rfl
              rotate_left
              · simp only [Act.put,sA_,sZ_,sS_,i64_w,i32_w]
                rfl
              refine pure_ (i:=8) (N:=some 79) (v:=?_) (a':=?_) #[true,false,true,false,true,false,false,true,true,false,false,false,false,false,false,false] rfl rfl (any_of HT_.out (by kernel_rfl)) (fun _ _ _ h=>h) (Or.inl ⟨by rfl,?_⟩) ?_ ?_;rotate_left
              · intro w'
                go_simp
                with_reducible rfl
              rotate_left
              · simp only [Act.put,sA_,sZ_,sS_,i64_w,i32_w]
                rfl
              refine pure_ (i:=9) (N:=some 80) (v:=?_) (a':=?_) #[true,false,true,false,true,false,false,true,true,true,false,false,false,false,false,false] rfl rfl (any_of HT_.out (by kernel_rfl)) (fun _ _ _ h=>h) (Or.inl ⟨by rfl,?_⟩) ?_ ?_;rotate_left
              · intro w'
                go_simp
                with_reducible rfl
              rotate_left
              · simp only [Act.put,sA_,sZ_,sS_,i64_w,i32_w]
                rfl
              refine take_ (i:=1) (N:=some 72) (v:=?_) (a':=?_) #[true,true,true,false,true,false,false,true,true,true,false,false,false,false,false,false] rfl rfl (take_ofW HT_.out HW_.out (by kernel_rfl)) (fun _ _ _ h=>h) (Or.inl ⟨by rfl,?_⟩) hHeld ?_ ?_;rotate_left
              · rintro w' ⟨s0,s1,s2,s3,s4,s5,s6,s7⟩
                go_simp
                with_reducible rfl
              rotate_left
              · simp only [Act.put,sA_,sZ_,sS_,i64_w,i32_w]
                rfl
              refine take_ (i:=3) (N:=some 74) (v:=?_) (a':=?_) #[true,true,true,true,true,false,false,true,true,true,false,false,false,false,false,false] rfl rfl (take_ofW HT_.out HW_.out (by kernel_rfl)) (fun _ _ _ h=>h) (Or.inl ⟨by rfl,?_⟩) hHeld ?_ ?_;rotate_left
              · rintro w' ⟨s0,s1,s2,s3,s4,s5,s6,s7⟩
                go_simp
                with_reducible rfl
              rotate_left
              · simp only [Act.put,sA_,sZ_,sS_,i64_w,i32_w]
                rfl
              refine pure_ (i:=5) (N:=some 76) (v:=?_) (a':=?_) #[true,true,true,true,true,true,false,true,true,true,false,false,false,false,false,false] rfl rfl (any_of HT_.out (by kernel_rfl)) (fun _ _ _ h=>h) (Or.inl ⟨by rfl,?_⟩) ?_ ?_;rotate_left
              · intro w'
                go_simp
                with_reducible rfl
              rotate_left
              · simp only [Act.put,sA_,sZ_,sS_,i64_w,i32_w]
                rfl
              refine take_ (i:=6) (N:=some 77) (v:=?_) (a':=?_) #[true,true,true,true,true,true,true,true,true,true,false,false,false,false,false,false] rfl rfl (take_ofW HT_.out HW_.out (by kernel_rfl)) (fun _ _ _ h=>h) (Or.inl ⟨by rfl,?_⟩) hHeld ?_ ?_;rotate_left
              · rintro w' ⟨s0,s1,s2,s3,s4,s5,s6,s7⟩
                go_simp
                with_reducible rfl
              rotate_left
              · simp only [Act.put,sA_,sZ_,sS_,i64_w,i32_w]
                rfl
              refine take_ (i:=10) (N:=some 81) (v:=?_) (a':=?_) #[true,true,true,true,true,true,true,true,true,true,true,false,false,false,false,false] rfl rfl (take_ofW HT_.out HW_.out (by kernel_rfl)) (fun _ _ _ h=>h) (Or.inl ⟨by rfl,?_⟩) hHeld ?_ ?_;rotate_left
              · rintro w' ⟨s0,s1,s2,s3,s4,s5,s6,s7⟩
                go_simp
                with_reducible rfl
              rotate_left
              · simp only [Act.put,sA_,sZ_,sS_,i64_w,i32_w]
                rfl
              refine pure_ (i:=11) (N:=some 82) (v:=?_) (a':=?_) #[true,true,true,true,true,true,true,true,true,true,true,true,false,false,false,false] rfl rfl (any_of HT_.out (by kernel_rfl)) (fun _ _ _ h=>h) (Or.inl ⟨by rfl,?_⟩) ?_ ?_;rotate_left
              · intro w'
                go_simp
                with_reducible rfl
              rotate_left
              · simp only [Act.put,sA_,sZ_,sS_,i64_w,i32_w]
                rfl
              refine one_ (i:=12) (N:=some 83) #[true,true,true,true,true,true,true,true,true,true,true,true,true,false,false,false] rfl rfl (one_of HT_.out (by kernel_rfl)) (by decide) (fun K hK=>?_);refine value_ (w1:=?_) (v:=?_) (by rfl) rfl ?_ ?_;rotate_left 2
              · go_simp
                constructor
                · rfl
                · rfl
              refine hK.out _ _ ⟨(blk_cell (blk_alloc BK338.out _) 0).trans rfl,(blk_cell (blk_alloc BK338.out _) 1).trans rfl,(blk_cell (blk_alloc BK338.out _) 2).trans rfl,(blk_cell (blk_alloc BK333.out _) 0).trans rfl,(blk_cell (blk_alloc BK333.out _) 1).trans rfl,(blk_cell (blk_alloc BK333.out _) 2).trans rfl,(World.cell?_alloc_lt _ _ _ (bl_ _ _ (hHeld.2.2.2.2.2.2.1))).trans (hHeld.2.2.2.2.2.2.1),(World.cell?_alloc_lt _ _ _ (bl_ _ _ (((HB.out.cell (bl_ w _ hw345_0)).trans hw345_0)))).trans (((HB.out.cell (bl_ w _ hw345_0)).trans hw345_0))⟩ (fun hHeld=>?_);clear hK K;refine norm_ (a':=?_) ?_ ?_;rotate_left
              · show Act.put _ (some 83) _ = _
                simp only [Act.put,sA_,sZ_,sS_,i64_w,i32_w]
                rfl
              refine last_ (i:=13) (N:=some 84) #[true,true,true,true,true,true,true,true,true,true,true,true,true,true,false,false] rfl rfl (one_of HT_.out (by kernel_rfl)) (by decide) (fun K hK=>?_);refine Kd.R_append_step (Kd.int .i64) (w0:=w) w.heap.size (by rfl) (.tmp 72) (.tmp 83) 23 3 (.int .i64 0) 8 rfl Try.underlying23 info3 rfl (by decide) (by omega) u339000 x339000_2 (wrap64 ((rd l0_0 x10_2) - (rd l2 x10_2))) [.int .i64 (wrap64 ((rd l0_0 x10_2) - (rd l2 x10_2)))] (fun k_=>(w.heap.size ≤ k_) ∧ some k_ ≠ (v336 : Value).ownBlock) (fun _=>False) rfl rfl ?aP (fun _ hk=>hk.elim) ?aF ?aO ?aB ?aS ?aL ?_
              (case aP=>exact rfl)
              (case aB=>exact (by repeat (first|(with_reducible first|exact HB.out|apply ba_|apply pN_|apply b1_|refine bs_ ?_ GE333.out|refine bs_ ?_ GE334.out|refine bs_ ?_ GE338.out)|exact HB.out)))
              (case aF=>exact (fun k_ hk=>⟨(Nat.le_trans (below_size (by repeat (first|(with_reducible first|exact HB.out|apply ba_|apply pN_|apply b1_|refine bs_ ?_ GE333.out|refine bs_ ?_ GE334.out|refine bs_ ?_ GE338.out)|exact HB.out))) hk),Kd.fresh' (Kd.R_lt (by (with_reducible repeat first|apply Ra_|apply Rn_|apply Rd_);exact HO_8.out)) k_ hk⟩))
              (case aO=>exact (by (with_reducible repeat first|apply Ra_|apply Rn_|apply Rd_);exact HO_339000.out))
              (case aS=>exact (below_size (by repeat (first|(with_reducible first|exact HB.out|apply ba_|apply pN_|apply b1_|refine bs_ ?_ GE333.out|refine bs_ ?_ GE334.out|refine bs_ ?_ GE338.out)|exact HB.out))))
              (case aL=>have:=LMc46.out;omega)
              intro v347 w48 ho hb hg hat
              rw [← Ny346.out] at ho;have n0_:=A0_ (Kd.R_after (ok:=(fun k_=>(w.heap.size ≤ k_))) (by (with_reducible repeat first|apply Ra_|apply Rn_|apply Rd_);exact HO_8.out) hg hat);have n1_:=A0_ (Kd.V_afterv (ok:=(fun k_=>((P0_0_ k_ ∨ P0_1_ k_ ∨ P0_2_ k_) ∨ w.heap.size ≤ k_) ∧ some k_ ≠ (v336 : Value).ownBlock ∧ k_ ≠ gb333 ∧ k_ ≠ gb334 ∧ k_ ≠ gb338)) (by (with_reducible repeat first|apply Va_|apply Vn_|apply Vd_);exact Kd.V_mono HO_334000.out (fun _ hk=>⟨⟨hk.1,⟨hk.2.1,⟨hk.2.2.2.1,⟨hk.2.2.2.2.1,hk.2.2.2.2.2⟩⟩⟩⟩,hk.2.2.1⟩)) hg hat);have n2_:=A0_ (Kd.V_afterv (ok:=(fun k_=>((P0_0_ k_ ∨ P0_1_ k_ ∨ P0_2_ k_) ∨ w.heap.size ≤ k_) ∧ some k_ ≠ (v336 : Value).ownBlock ∧ k_ ≠ gb333 ∧ k_ ≠ gb334 ∧ k_ ≠ gb338)) (by (with_reducible repeat first|apply Va_|apply Vn_|apply Vd_);exact Kd.V_mono HO_334001.out (fun _ hk=>⟨⟨hk.1,⟨hk.2.1,⟨hk.2.2.2.1,⟨hk.2.2.2.2.1,hk.2.2.2.2.2⟩⟩⟩⟩,hk.2.2.1⟩)) hg hat);have n3_:=A0_ (Kd.V_afterv (ok:=(fun k_=>((P0_0_ k_ ∨ P0_1_ k_ ∨ P0_2_ k_) ∨ w.heap.size ≤ k_) ∧ some k_ ≠ (v336 : Value).ownBlock ∧ k_ ≠ gb333 ∧ k_ ≠ gb334 ∧ k_ ≠ gb338)) (by (with_reducible repeat first|apply Va_|apply Vn_|apply Vd_);exact Kd.V_mono HO_334002.out (fun _ hk=>⟨⟨hk.1,⟨hk.2.1,⟨hk.2.2.2.1,⟨hk.2.2.2.2.1,hk.2.2.2.2.2⟩⟩⟩⟩,hk.2.2.1⟩)) hg hat);have n4_:=A0_ (Kd.V_afterv (ok:=(fun k_=>((P0_0_ k_ ∨ P0_1_ k_ ∨ P0_2_ k_) ∨ w.heap.size ≤ k_) ∧ some k_ ≠ (v336 : Value).ownBlock ∧ k_ ≠ gb333 ∧ k_ ≠ gb334 ∧ k_ ≠ gb338)) (by (with_reducible repeat first|apply Va_|apply Vn_|apply Vd_);exact Kd.V_mono HO_339002.out (fun _ hk=>⟨⟨hk.1,⟨hk.2.1,⟨hk.2.2.2.1,⟨hk.2.2.2.2.1,hk.2.2.2.2.2⟩⟩⟩⟩,hk.2.2.1⟩)) hg hat);have n5_:=A0_ (blk_grown (g:=gb333) (o:=.cells #[.slice (some ad344) l0_0.length c0_0,.slice A0_1 l0_1.length c0_1,.slice A0_2 l0_2.length c0_2] 55 (0,0)) (by (with_reducible repeat first|refine bN_ ?_ _|refine bD_ ?_|refine bA_ ?_ _);exact BK333.out) hg (Kd.R_ne HO_339000.out BK333.out (by decide)));have n6_:=A0_ (blk_grown (g:=gb334) (o:=.cells #[.slice none 0 0,.slice none 0 0,.slice none 0 0] 55 (0,0)) (by (with_reducible repeat first|refine bN_ ?_ _|refine bD_ ?_|refine bA_ ?_ _);exact BK334.out) hg (Kd.R_ne HO_339000.out BK334.out (by decide)));have n7_:=A0_ (blk_grown (g:=gb338) (o:=.cells #[u339000,.slice none 0 0,.slice A0_2 l0_2.length c0_2] 55 (0,0)) (by (with_reducible repeat first|refine bN_ ?_ _|refine bD_ ?_|refine bA_ ?_ _);exact BK338.out) hg (Kd.R_ne HO_339000.out BK338.out (by decide)));have n8_:=A0_ (hb);have n9_:=A0_ (ho);clear HO_8;clear HO_334000;clear HO_334001;clear HO_334002;clear HO_339002;clear BK333;clear BK334;clear BK338;clear HB;clear HO_339000;have HO_8:=n0_;have HO_334000:=n1_;have HO_334001:=n2_;have HO_334002:=n3_;have HO_339002:=n4_;have BK333:=n5_;have BK334:=n6_;have BK338:=n7_;have HB:=n8_;have HO348:=n9_;clear n0_ n1_ n2_ n3_ n4_ n5_ n6_ n7_ n8_ n9_;clear ho hb hg hat;obtain ⟨Ao49,co49,eo49⟩:=Kd.R_slice HO348.out
              (first|subst eo49|(injection eo49 with f1_ f2_ f3_;have f4_:=f1_.symm;have f5_:=f3_.symm;clear f1_ f2_ f3_;subst f4_;subst f5_))
              refine hK.out _ _ ?_;clear hK K;refine norm_ (a':=?_) ?_ ?_;rotate_left
              · show Act.put _ (some 84) _ = _
                simp only [Act.put,sA_,sZ_,sS_,i64_w,i32_w]
                rfl
              refine pure_ (i:=14) (N:=some 85) (v:=?_) (a':=?_) #[true,true,true,true,true,true,true,true,true,true,true,true,true,true,true,false] rfl rfl (any_of HT_.out (by kernel_rfl)) (fun _ _ _ h=>h) (Or.inl ⟨by rfl,?_⟩) ?_ ?_;rotate_left
              · intro w'
                go_simp
                with_reducible rfl
              rotate_left
              · simp only [Act.put,sA_,sZ_,sS_,i64_w,i32_w]
                rfl
              refine last_ (i:=15) (N:=none) #[true,true,true,true,true,true,true,true,true,true,true,true,true,true,true,true] rfl rfl (one_of HT_.out (by kernel_rfl)) (by decide) (fun K hK=>?_);have hs50 : w48.cell? ⟨gb338,0,none⟩ = some (u339000):=(blk_cell BK338.out 0).trans rfl;have hfs50:=blk_frozen BK338.out 0;have hns50_0:=NB333_338.out;have hns50_1:=NB334_338.out;have hms50_0:=NB338_333.out;have hms50_1:=NB338_334.out;refine skip_ (w1:=?_) (by rfl) rfl ?_ ?_;rotate_left
              · go_simp
                rfl
              refine hK.out _ _ ?_;clear hK K;refine done_ (done_of HT_.out (by kernel_rfl)) ?_
              try go_wp2
              go_roundg kj25
              case measure=>have:=HJ3.out;have:=HK2.out;have:=HJ25.out;omega
              case rel=>exact ⟨(wrap64 (x10_2 + 1)),(y346),(.slice Ao49 y346.length co49),(by first|rfl|(simp;done)|(simp [*];done)),H',⟨by have:=HJ3.out;have:=HK2.out;have:=HJ25.out;omega⟩,⟨by (with_reducible repeat first|apply Ra_|apply Rn_|apply Rd_);exact Kd.R_mono (Kd.R_far (p:=⟨gb338,0,none⟩) (Kd.R_types HO_8.out BK338.out (by decide)) (fun _ hk=>hk.2) (.slice Ao49 y346.length co49)) (fun _ hk=>⟨hk.1.1,hk.1.2⟩)⟩,⟨by (with_reducible repeat first|apply Va_|apply Vn_|apply Vd_);exact Kd.V_mono (Kd.V_far (p:=⟨gb338,0,none⟩) (Kd.V_mono HO_334000.out (fun k_ hk=>(⟨hk,hk.1.2.2.2.2⟩ : _ ∧ k_ ≠ gb338))) (fun _ hk=>hk.2) (.slice Ao49 y346.length co49)) (fun _ hk=>⟨hk.1.1.1,⟨hk.1.1.2.1,⟨hk.1.2,⟨hk.1.1.2.2.1,⟨hk.1.1.2.2.2.1,hk.1.1.2.2.2.2⟩⟩⟩⟩⟩)⟩,⟨by (with_reducible repeat first|apply Va_|apply Vn_|apply Vd_);exact Kd.V_mono (Kd.V_far (p:=⟨gb338,0,none⟩) (Kd.V_mono HO_334001.out (fun k_ hk=>(⟨hk,hk.1.2.2.2.2⟩ : _ ∧ k_ ≠ gb338))) (fun _ hk=>hk.2) (.slice Ao49 y346.length co49)) (fun _ hk=>⟨hk.1.1.1,⟨hk.1.1.2.1,⟨hk.1.2,⟨hk.1.1.2.2.1,⟨hk.1.1.2.2.2.1,hk.1.1.2.2.2.2⟩⟩⟩⟩⟩)⟩,⟨by (with_reducible repeat first|apply Va_|apply Vn_|apply Vd_);exact Kd.V_mono (Kd.V_far (p:=⟨gb338,0,none⟩) (Kd.V_mono HO_334002.out (fun k_ hk=>(⟨hk,hk.1.2.2.2.2⟩ : _ ∧ k_ ≠ gb338))) (fun _ hk=>hk.2) (.slice Ao49 y346.length co49)) (fun _ hk=>⟨hk.1.1.1,⟨hk.1.1.2.1,⟨hk.1.2,⟨hk.1.1.2.2.1,⟨hk.1.1.2.2.2.1,hk.1.1.2.2.2.2⟩⟩⟩⟩⟩)⟩,⟨by (with_reducible repeat first|apply Ra_|apply Rn_|apply Rd_);exact Kd.R_mono (Kd.R_far (p:=⟨gb338,0,none⟩) (Kd.R_types HO348.out BK338.out (by decide)) (fun _ hk=>hk.2) (.slice Ao49 y346.length co49)) (fun _ hk=>⟨hk.1.1,hk.1.2⟩)⟩,⟨by (with_reducible repeat first|apply Va_|apply Vn_|apply Vd_);exact Kd.V_mono (Kd.V_far (p:=⟨gb338,0,none⟩) (Kd.V_mono HO_339002.out (fun k_ hk=>(⟨hk,hk.1.2.2.2.2⟩ : _ ∧ k_ ≠ gb338))) (fun _ hk=>hk.2) (.slice Ao49 y346.length co49)) (fun _ hk=>⟨hk.1.1.1,⟨hk.1.1.2.1,⟨hk.1.2,⟨hk.1.1.2.2.1,⟨hk.1.1.2.2.2.1,hk.1.1.2.2.2.2⟩⟩⟩⟩⟩)⟩,⟨by (with_reducible repeat first|refine bN_ ?_ _|refine bD_ ?_|refine bA_ ?_ _);refine blk_far ?_ NB333_338.out _;(with_reducible repeat first|refine bN_ ?_ _|refine bD_ ?_|refine bA_ ?_ _);exact BK333.out⟩,⟨by (with_reducible repeat first|refine bN_ ?_ _|refine bD_ ?_|refine bA_ ?_ _);refine blk_far ?_ NB334_338.out _;(with_reducible repeat first|refine bN_ ?_ _|refine bD_ ?_|refine bA_ ?_ _);exact BK334.out⟩,⟨by (with_reducible repeat first|refine bN_ ?_ _|refine bD_ ?_|refine bA_ ?_ _);refine blk_put (cs:=#[u339000,.slice none 0 0,.slice A0_2 l0_2.length c0_2]) ?_ 0 _ rfl;(with_reducible repeat first|refine bN_ ?_ _|refine bD_ ?_|refine bA_ ?_ _);exact BK338.out⟩,⟨by repeat (first|(with_reducible first|exact HB.out|apply ba_|apply pN_|apply b1_|refine bs_ ?_ GE333.out|refine bs_ ?_ GE334.out|refine bs_ ?_ GE338.out)|exact HB.out)⟩⟩
end Go.Proofs.Ytlggjacghemakaa.PClaimTells
