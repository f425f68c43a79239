/- Go functions as plain Lean functions, and that the calls come to them. Conditions: none. (Written by a program of this session.) -/
import Derived.Test.YtlggjacghemakaaPClaimBackx0
import Derived.Test.YtlggjacghemakaaPClaimBackx10
namespace Go.Proofs.Ytlggjacghemakaa.PClaimBack
open Go.RowKit Go.Proofs.YtlggjacghemakaaW.PrintWords Go.Proofs.YtlggjacghemakaaW.PrintLast Go.Proofs.YtlggjacghemakaaW.PrintMore
attribute [local go_sem] max2_int min2_int max_two min_two max_three min_three max_four min_four   -- for this text's walks alone
set_option linter.unusedVariables false
set_option linter.unusedSimpArgs false

/-! ### logjamref25_Given: function 34 -/
mutual
def logjamref25_Given.j0 : Nat → Int → List Int → Bool → List Int → List (List Int) → List (List Int) → Option (List Int × (List (List Int)) × (List (List Int)) × Bool)
  | 0,_,_,_,_,_,_=>none
  | k + 1,x1,x2,x28,x315000,x315001,x315002=>if x28 = true then (some (x315000,x315001,x315002,false)) else ((logjamref25_Left.f k x315000 x315001 x315002 x1).bind fun t316=>(logjamref25_Given.l0 k x1 x2 t316 0 x315000 x315001 x315002 ([] : List Int) x315002))
def logjamref25_Given.l0 : Nat → Int → List Int → List Int → Int → List Int → List (List Int) → List (List Int) → List Int → List (List Int) → Option (List Int × (List (List Int)) × (List (List Int)) × Bool)
  | 0,_,_,_,_,_,_,_,_,_=>none
  | k + 1,x1,x2,x8,x10,x315000,x315001,x315002,x320000,x320002=>if x10 < (x2.length : Int) then (if 0 ≤ x10 then (if (rd x2 x10) < 0 then (logjamref25_Given.j2 k x1 x2 x8 x10 true x315000 x315001 x315002 x320000 x320002) else (if x10 < (x8.length : Int) then (if (rd x2 x10) > (rd x8 x10) then (logjamref25_Given.j2 k x1 x2 x8 x10 true x315000 x315001 x315002 x320000 x320002) else (if x10 < (x315000.length : Int) then (logjamref25_Given.j2 k x1 x2 x8 x10 (decide ((rd x2 x10) > (rd x315000 x10))) x315000 x315001 x315002 x320000 x320002) else (none))) else (none))) else (none)) else (logjamref25_Given.l1 k x1 x2 0 x315000 x315001 x315002 x320000 ([] : List (List Int)) x320002)
def logjamref25_Given.j2 : Nat → Int → List Int → List Int → Int → Bool → List Int → List (List Int) → List (List Int) → List Int → List (List Int) → Option (List Int × (List (List Int)) × (List (List Int)) × Bool)
  | 0,_,_,_,_,_,_,_,_,_,_=>none
  | k + 1,x1,x2,x8,x10,x69,x315000,x315001,x315002,x320000,x320002=>if x69 = true then (some (x315000,x315001,x315002,false)) else (if 0 ≤ x10 then (if x10 < (x315000.length : Int) then (if x10 < (x2.length : Int) then (if x320000.length < 17592186044416 then (logjamref25_Given.l0 k x1 x2 x8 (wrap64 (x10 + 1)) x315000 x315001 x315002 (x320000 ++ [wrap64 ((rd x315000 x10) - (rd x2 x10))]) x320002) else (none)) else (none)) else (none)) else (none))
def logjamref25_Given.l1 : Nat → Int → List Int → Int → List Int → List (List Int) → List (List Int) → List Int → List (List Int) → List (List Int) → Option (List Int × (List (List Int)) × (List (List Int)) × Bool)
  | 0,_,_,_,_,_,_,_,_,_=>none
  | k + 1,x1,x2,x11,x315000,x315001,x315002,x320000,x320001,x320002=>if x11 < (x315001.length : Int) then (if x11 = x1 then (if 0 ≤ x11 then ((logjamref25_sum.f k (rd_L1 x315001 x11) x2).bind fun t331=>(if x320001.length < 5864062014805 then (logjamref25_Given.l1 k x1 x2 (wrap64 (x11 + 1)) x315000 x315001 x315002 x320000 (x320001 ++ [t331]) x320002) else (none))) else (none)) else (if 0 ≤ x11 then (if x320001.length < 5864062014805 then (logjamref25_Given.l1 k x1 x2 (wrap64 (x11 + 1)) x315000 x315001 x315002 x320000 (x320001 ++ [rd_L1 x315001 x11]) x320002) else (none)) else (none))) else (some (x320000,x320001,x320002,true))
end
def logjamref25_Given.f (k : Nat) (l0_0 : List Int) (l0_1 : List (List Int)) (l0_2 : List (List Int)) (a1 : Int) (l2 : List Int) : Option (List Int × (List (List Int)) × (List (List Int)) × Bool) := if a1 < 0 then (logjamref25_Given.j0 k a1 l2 true l0_0 l0_1 l0_2) else (if a1 ≥ (l0_1.length : Int) then (logjamref25_Given.j0 k a1 l2 true l0_0 l0_1 l0_2) else (logjamref25_Given.j0 k a1 l2 ((l2.length : Int) != (l0_0.length : Int)) l0_0 l0_1 l0_2))
theorem logjamref25_Given.mono_l : ∀ k, (∀ y0 y1 y2 y3 y4 y5, LeO (logjamref25_Given.j0 k y0 y1 y2 y3 y4 y5) (logjamref25_Given.j0 (k + 1) y0 y1 y2 y3 y4 y5)) ∧ (∀ y0 y1 y2 y3 y4 y5 y6 y7 y8, LeO (logjamref25_Given.l0 k y0 y1 y2 y3 y4 y5 y6 y7 y8) (logjamref25_Given.l0 (k + 1) y0 y1 y2 y3 y4 y5 y6 y7 y8)) ∧ (∀ y0 y1 y2 y3 y4 y5 y6 y7 y8 y9, LeO (logjamref25_Given.j2 k y0 y1 y2 y3 y4 y5 y6 y7 y8 y9) (logjamref25_Given.j2 (k + 1) y0 y1 y2 y3 y4 y5 y6 y7 y8 y9)) ∧ (∀ y0 y1 y2 y3 y4 y5 y6 y7 y8, LeO (logjamref25_Given.l1 k y0 y1 y2 y3 y4 y5 y6 y7 y8) (logjamref25_Given.l1 (k + 1) y0 y1 y2 y3 y4 y5 y6 y7 y8))
  | 0=>⟨fun _ _ _ _ _ _ r h=>by simp [logjamref25_Given.j0] at h,fun _ _ _ _ _ _ _ _ _ r h=>by simp [logjamref25_Given.l0] at h,fun _ _ _ _ _ _ _ _ _ _ r h=>by simp [logjamref25_Given.j2] at h,fun _ _ _ _ _ _ _ _ _ r h=>by simp [logjamref25_Given.l1] at h⟩
  | k + 1=>by
    obtain ⟨ih0,ih1,ih2,ih3⟩:=logjamref25_Given.mono_l k;refine ⟨?_,?_,?_,?_⟩
    all_goals intros
    all_goals first | unfold logjamref25_Given.j0 | unfold logjamref25_Given.l0 | unfold logjamref25_Given.j2 | unfold logjamref25_Given.l1
    all_goals
      repeat' first
      | (with_reducible exact ih0 _ _ _ _ _ _)
      | (with_reducible exact ih1 _ _ _ _ _ _ _ _ _)
      | (with_reducible exact ih2 _ _ _ _ _ _ _ _ _ _)
      | (with_reducible exact ih3 _ _ _ _ _ _ _ _ _)
      | (with_reducible exact logjamref25_Left.mono _ _ _ _ _)
      | (with_reducible exact logjamref25_sum.mono _ _ _)
      | (with_reducible exact LeO.refl _)
      | (with_reducible exact LeO.none _)
      | (with_reducible refine LeO.ite ?_ ?_)
      | (with_reducible refine LeO.bind ?_ (fun _=>?_))
      | exact ih0 _ _ _ _ _ _
      | exact ih1 _ _ _ _ _ _ _ _ _
      | exact ih2 _ _ _ _ _ _ _ _ _ _
      | exact ih3 _ _ _ _ _ _ _ _ _
      | exact logjamref25_Left.mono _ _ _ _ _
      | exact logjamref25_sum.mono _ _ _
      | exact LeO.none _
      | refine LeO.ite ?_ ?_
      | refine LeO.bind ?_ (fun _=>?_)
theorem logjamref25_Given.mono : ∀ a0 a1 a2 a3 a4 k, LeO (logjamref25_Given.f k a0 a1 a2 a3 a4) (logjamref25_Given.f (k + 1) a0 a1 a2 a3 a4) := by
  intro a0 a1 a2 a3 a4 k
  obtain ⟨ih0,ih1,ih2,ih3⟩:=logjamref25_Given.mono_l k;unfold logjamref25_Given.f
  repeat' first
      | (with_reducible exact ih0 _ _ _ _ _ _)
      | (with_reducible exact ih1 _ _ _ _ _ _ _ _ _)
      | (with_reducible exact ih2 _ _ _ _ _ _ _ _ _ _)
      | (with_reducible exact ih3 _ _ _ _ _ _ _ _ _)
      | (with_reducible exact logjamref25_Left.mono _ _ _ _ _)
      | (with_reducible exact logjamref25_sum.mono _ _ _)
      | (with_reducible exact LeO.refl _)
      | (with_reducible exact LeO.none _)
      | (with_reducible refine LeO.ite ?_ ?_)
      | (with_reducible refine LeO.bind ?_ (fun _=>?_))
      | exact ih0 _ _ _ _ _ _
      | exact ih1 _ _ _ _ _ _ _ _ _
      | exact ih2 _ _ _ _ _ _ _ _ _ _
      | exact ih3 _ _ _ _ _ _ _ _ _
      | exact logjamref25_Left.mono _ _ _ _ _
      | exact logjamref25_sum.mono _ _ _
      | exact LeO.none _
      | refine LeO.ite ?_ ?_
      | refine LeO.bind ?_ (fun _=>?_)
def logjamref25_Given.T3 : Bool × List (List Nat × List Nat) := (true, [([], []), ([], []), ([0, 1], [0, 1]), ([], []), ([3], [3]), ([4], [4]), ([], []), ([2, 2, 0, 1, 2, 6], [2]), ([6, 5, 7, 0, 1, 2, 3, 4, 5, 6, 7], [5, 6])])
def logjamref25_Given.B3 : List Nat := [0, 0, 3, 0, 8, 24, 0, 71, 255]
theorem logjamref25_Given.tab3 : rtab .any (opsOf Try.f34 3) = logjamref25_Given.T3 := by kernel_rfl
theorem logjamref25_Given.bits3 : waitsOk logjamref25_Given.T3.2 logjamref25_Given.B3 = true := by kernel_rfl
def logjamref25_Given.T7 : Bool × List (List Nat × List Nat) := (true, [([], []), ([], []), ([0, 1], [0, 1]), ([2], [2]), ([3], [3]), ([4], [4]), ([5], [5]), ([5], [5]), ([6, 7, 5], [5, 6, 7]), ([8, 5], [5, 8]), ([5], [5]), ([5], [5]), ([10, 11, 5], [5, 10, 11]), ([12, 5], [5, 12]), ([9, 13, 5], [5, 9, 13]), ([5, 14], [5, 14]), ([15, 5], [15]), ([16], [16]), ([16], [16]), ([17, 18, 16], [16, 17, 18]), ([19, 16], [16, 19]), ([16], [16]), ([21, 16], [16, 21]), ([16], [16]), ([22, 23, 16], [16, 22, 23]), ([24, 16], [16, 24]), ([20, 25, 16], [16, 20, 25]), ([16, 26], [16, 26])])
def logjamref25_Given.B7 : List Nat := [0, 0, 3, 7, 15, 31, 63, 63, 255, 511, 63, 63, 3135, 7231, 16383, 32767, 65535, 131071, 131071, 524287, 1048575, 131071, 2228223, 131071, 14811135, 31588351, 67108863, 134217727]
theorem logjamref25_Given.tab7 : rtab .any (opsOf Try.f34 7) = logjamref25_Given.T7 := by kernel_rfl
theorem logjamref25_Given.bits7 : waitsOk logjamref25_Given.T7.2 logjamref25_Given.B7 = true := by kernel_rfl
def logjamref25_Given.T9 : Bool × List (List Nat × List Nat) := (true, [([], []), ([0], [0]), ([], []), ([2], [2]), ([], []), ([3, 4], [3, 4]), ([5], [5]), ([], []), ([], []), ([7, 8], [7, 8]), ([9], [9]), ([6, 10], [6, 10]), ([11], [11]), ([1, 12], [1, 12]), ([0, 1, 2, 3, 4, 5, 6, 7, 8, 9, 10, 11, 12, 13], []), ([14, 13, 13, 0, 1, 2, 3, 4, 5, 6, 7, 8, 9, 10, 11, 12, 13], [13, 14])])
def logjamref25_Given.B9 : List Nat := [0, 1, 0, 4, 0, 28, 60, 0, 0, 384, 896, 2044, 4092, 8191, 16383, 32767]
theorem logjamref25_Given.tab9 : rtab .any (opsOf Try.f34 9) = logjamref25_Given.T9 := by kernel_rfl
theorem logjamref25_Given.bits9 : waitsOk logjamref25_Given.T9.2 logjamref25_Given.B9 = true := by kernel_rfl
def logjamref25_Given.T14 : Bool × List (List Nat × List Nat) := (true, [([], []), ([0], [0]), ([], []), ([2], [2]), ([], []), ([3, 4], [3, 4]), ([5], [5]), ([], []), ([6, 7], [6, 7]), ([8], [8]), ([1, 9, 8], [1, 9]), ([0, 1, 2, 3, 4, 5, 6, 7, 8, 9, 10], []), ([11, 10, 10, 0, 1, 2, 3, 4, 5, 6, 7, 8, 9, 10], [10, 11])])
def logjamref25_Given.B14 : List Nat := [0, 1, 0, 4, 0, 28, 60, 0, 252, 508, 1023, 2047, 4095]
theorem logjamref25_Given.tab14 : rtab .any (opsOf Try.f34 14) = logjamref25_Given.T14 := by kernel_rfl
theorem logjamref25_Given.bits14 : waitsOk logjamref25_Given.T14.2 logjamref25_Given.B14 = true := by kernel_rfl
def logjamref25_Given.T15 : Bool × List (List Nat × List Nat) := (true, [([], []), ([0], [0]), ([], []), ([2], [2]), ([], []), ([3, 4], [3, 4]), ([5], [5]), ([6], [6]), ([1, 7], [1, 7]), ([0, 1, 2, 3, 4, 5, 6, 7, 8], []), ([9, 8, 8, 0, 1, 2, 3, 4, 5, 6, 7, 8], [8, 9])])
def logjamref25_Given.B15 : List Nat := [0, 1, 0, 4, 0, 28, 60, 124, 255, 511, 1023]
theorem logjamref25_Given.tab15 : rtab .any (opsOf Try.f34 15) = logjamref25_Given.T15 := by kernel_rfl
theorem logjamref25_Given.bits15 : waitsOk logjamref25_Given.T15.2 logjamref25_Given.B15 = true := by kernel_rfl
set_option maxHeartbeats 8000000 in
set_option maxRecDepth 100000 in
theorem logjamref25_Given.calls (k : Nat) (P0_0_ : Nat → Prop) (A0_0 : Option Addr) (c0_0 : Nat) (l0_0 : List Int) (P0_1_ : Nat → Prop) (A0_1 : Option Addr) (c0_1 : Nat) (l0_1 : List (List Int)) (P0_2_ : Nat → Prop) (A0_2 : Option Addr) (c0_2 : Nat) (l0_2 : List (List Int)) (a1 : Int) (A2 : Option Addr) (c2 : Nat) (l2 : List Int) (r1 : List Int) (r2 : List (List Int)) (r3 : List (List Int)) (r4 : Bool) (w : World) (hs0_0 : Kd.V (Kd.int .i64) 3 w w.heap.size (fun k_ => P0_0_ k_) (.slice A0_0 l0_0.length c0_0) l0_0) (hs0_1 : Kd.V (Kd.slice 3 (Kd.int .i64)) 23 w w.heap.size (fun k_ => P0_1_ k_) (.slice A0_1 l0_1.length c0_1) l0_1) (hs0_2 : Kd.V (Kd.slice 3 (Kd.int .i64)) 23 w w.heap.size (fun k_ => P0_2_ k_) (.slice A0_2 l0_2.length c0_2) l0_2) (hr2 : Kd.C (Kd.int .i64) w A2 l2.length l2) (hc2 : l2.length ≤ c2) (h : logjamref25_Given.f k l0_0 l0_1 l0_2 a1 l2 = some (r1, r2, r3, r4)) :
    Calls Try.prog 34 #[.agg #[.slice A0_0 l0_0.length c0_0,.slice A0_1 l0_1.length c0_1,.slice A0_2 l0_2.length c0_2],.int .i64 a1,.slice A2 l2.length c2] w fun e w'=>∃ v0_ v1_ v2_ : Value,e = .returned (.tuple #[.agg #[v0_,v1_,v2_],.bool r4]) ∧ Kd.V (Kd.int .i64) 3 w' w.heap.size (fun k_=>((P0_0_ k_ ∨ P0_1_ k_ ∨ P0_2_ k_) ∨ w.heap.size ≤ k_)) v0_ r1 ∧ Kd.V (Kd.slice 3 (Kd.int .i64)) 23 w' w.heap.size (fun k_=>((P0_0_ k_ ∨ P0_1_ k_ ∨ P0_2_ k_) ∨ w.heap.size ≤ k_)) v1_ r2 ∧ Kd.V (Kd.slice 3 (Kd.int .i64)) 23 w' w.heap.size (fun k_=>((P0_0_ k_ ∨ P0_1_ k_ ∨ P0_2_ k_) ∨ w.heap.size ≤ k_)) v2_ r3 ∧ Below w.heap.size w w':=by
  have hu55:=Try.underlying55;have HO0_0:=A0_ (show Kd.V (Kd.int .i64) 3 w w.heap.size (fun k_=>((P0_0_ k_ ∨ P0_1_ k_ ∨ P0_2_ k_) ∨ w.heap.size ≤ k_)) (.slice A0_0 l0_0.length c0_0) l0_0 from Kd.V_mono hs0_0 (fun k_ hk=>.inl (.inl hk)));have HO0_1:=A0_ (show Kd.V (Kd.slice 3 (Kd.int .i64)) 23 w w.heap.size (fun k_=>((P0_0_ k_ ∨ P0_1_ k_ ∨ P0_2_ k_) ∨ w.heap.size ≤ k_)) (.slice A0_1 l0_1.length c0_1) l0_1 from Kd.V_mono hs0_1 (fun k_ hk=>.inl (.inr (.inl hk))));have HO0_2:=A0_ (show Kd.V (Kd.slice 3 (Kd.int .i64)) 23 w w.heap.size (fun k_=>((P0_0_ k_ ∨ P0_1_ k_ ∨ P0_2_ k_) ∨ w.heap.size ≤ k_)) (.slice A0_2 l0_2.length c0_2) l0_2 from Kd.V_mono hs0_2 (fun k_ hk=>.inl (.inr (.inr hk))));have HR2:=A0_ hr2;have HC2:=A0_ hc2;clear hr2 hc2;have HB:=A0_ (Below.refl w.heap.size w);have H : (if a1 < 0 then (logjamref25_Given.j0 k a1 l2 true l0_0 l0_1 l0_2) else (if a1 ≥ (l0_1.length : Int) then (logjamref25_Given.j0 k a1 l2 true l0_0 l0_1 l0_2) else (logjamref25_Given.j0 k a1 l2 ((l2.length : Int) != (l0_0.length : Int)) l0_0 l0_1 l0_2))) = some (r1,r2,r3,r4):=h;clear h;have HC4:=A0_ H;clear H;go_enter Try.func34,Try.ntmps34
  go_upto_region 1 with (first|((with_reducible refine gate_dst (N:=3) rfl ?_);(try (refine gate_guard (by rfl) ?_;dsimp only));refine box_event ?hg (N:=3) ?hd (cs:=#[.slice A0_0 l0_0.length c0_0,.slice A0_1 l0_1.length c0_1,.slice A0_2 l0_2.length c0_2]) (t:=55) ?hr ?_;(case hd=>rfl);(case hg=>rfl);(case hr=>first|(go_simp;done)|(go_simp;rfl));intro gb314 hg w5 hbox hb;have n0_:=A0_ (Kd.V_below (Kd.V_elderB (by (with_reducible repeat first|apply Va_|apply Vn_|apply Vd_);exact HO0_0.out) gb314 (Nat.le_of_eq hg.symm)) hb);have n1_:=A0_ (Kd.V_below (Kd.V_elderB (by (with_reducible repeat first|apply Va_|apply Vn_|apply Vd_);exact HO0_1.out) gb314 (Nat.le_of_eq hg.symm)) hb);have n2_:=A0_ (Kd.V_below (Kd.V_elderB (by (with_reducible repeat first|apply Va_|apply Vn_|apply Vd_);exact HO0_2.out) gb314 (Nat.le_of_eq hg.symm)) hb);have n3_:=A0_ (below_step (by repeat (first|(with_reducible first|exact HB.out|apply ba_|apply pN_|apply b1_)|exact HB.out)) hb);have n4_:=A0_ (hbox);have n5_:=A0_ ((by rw [hg];exact (below_size (by repeat (first|(with_reducible first|exact HB.out|apply ba_|apply pN_|apply b1_)|exact HB.out))) : w.heap.size ≤ gb314));have n6_:=A0_ ((by rw [hg];exact (below_size (by repeat (first|(with_reducible first|exact HB.out|apply ba_|apply pN_|apply b1_)|exact HB.out))) : w.heap.size ≤ gb314));clear HO0_0;clear HO0_1;clear HO0_2;clear HB;have HO0_0:=n0_;have HO0_1:=n1_;have HO0_2:=n2_;have HB:=n3_;have BK314:=n4_;have GW314:=n5_;have GE314:=n6_;clear n0_ n1_ n2_ n3_ n4_ n5_ n6_;clear hb hbox hg)|((with_reducible refine gate_dst (N:=6) rfl ?_);(try (refine gate_guard (by rfl) ?_;dsimp only));refine box_event ?hg (N:=6) ?hd (cs:=#[.slice none 0 0,.slice none 0 0,.slice none 0 0]) (t:=55) ?hr ?_;(case hd=>rfl);(case hg=>rfl);(case hr=>first|(go_simp;done)|(go_simp;rfl));intro gb315 hg w6 hbox hb;have n0_:=A0_ (Kd.V_below (Kd.V_elderB (by (with_reducible repeat first|apply Va_|apply Vn_|apply Vd_);exact HO0_0.out) gb315 (Nat.le_of_eq hg.symm)) hb);have n1_:=A0_ (Kd.V_below (Kd.V_elderB (by (with_reducible repeat first|apply Va_|apply Vn_|apply Vd_);exact HO0_1.out) gb315 (Nat.le_of_eq hg.symm)) hb);have n2_:=A0_ (Kd.V_below (Kd.V_elderB (by (with_reducible repeat first|apply Va_|apply Vn_|apply Vd_);exact HO0_2.out) gb315 (Nat.le_of_eq hg.symm)) hb);have n3_:=A0_ (blk_below (g:=gb314) (o:=.cells #[.slice A0_0 l0_0.length c0_0,.slice A0_1 l0_1.length c0_1,.slice A0_2 l0_2.length c0_2] 55 (0,0)) (by (with_reducible repeat first|refine bN_ ?_ _|refine bD_ ?_|refine bA_ ?_ _);exact BK314.out) hb);have n4_:=A0_ (below_step (by repeat (first|(with_reducible first|exact HB.out|apply ba_|apply pN_|apply b1_|refine bs_ ?_ GE314.out)|exact HB.out)) hb);have n5_:=A0_ (hbox);have n6_:=A0_ ((by rw [hg];exact (below_size (by repeat (first|(with_reducible first|exact HB.out|apply ba_|apply pN_|apply b1_|refine bs_ ?_ GE314.out)|exact HB.out))) : w.heap.size ≤ gb315));have n7_:=A0_ ((by rw [hg];exact (below_size (by repeat (first|(with_reducible first|exact HB.out|apply ba_|apply pN_|apply b1_|refine bs_ ?_ GE314.out)|exact HB.out))) : w.heap.size ≤ gb315));have n8_:=A0_ ((by rw [hg];exact Nat.ne_of_lt (blk_lt (g:=gb314) (o:=.cells #[.slice A0_0 l0_0.length c0_0,.slice A0_1 l0_1.length c0_1,.slice A0_2 l0_2.length c0_2] 55 (0,0)) (by (with_reducible repeat first|refine bN_ ?_ _|refine bD_ ?_|refine bA_ ?_ _);exact BK314.out)) : gb314 ≠ gb315));have n9_:=A0_ ((by rw [hg];exact Nat.ne_of_gt (blk_lt (g:=gb314) (o:=.cells #[.slice A0_0 l0_0.length c0_0,.slice A0_1 l0_1.length c0_1,.slice A0_2 l0_2.length c0_2] 55 (0,0)) (by (with_reducible repeat first|refine bN_ ?_ _|refine bD_ ?_|refine bA_ ?_ _);exact BK314.out)) : gb315 ≠ gb314));clear HO0_0;clear HO0_1;clear HO0_2;clear BK314;clear HB;have HO0_0:=n0_;have HO0_1:=n1_;have HO0_2:=n2_;have BK314:=n3_;have HB:=n4_;have BK315:=n5_;have GW315:=n6_;have GE315:=n7_;have NB314_315:=n8_;have NB315_314:=n9_;clear n0_ n1_ n2_ n3_ n4_ n5_ n6_ n7_ n8_ n9_;clear hb hbox hg))
  (try simp only [Act.put,sA_,sZ_,sS_])
  go_cut [28] (fun v28 wc=>∃ (kq : Nat) (x28_3 : Bool),v28 = .bool x28_3 ∧ Aside0 (logjamref25_Given.j0 kq a1 l2 x28_3 l0_0 l0_1 l0_2 = some (r1,r2,r3,r4)) ∧ Aside0 (kq ≤ k) ∧ Aside0 (Kd.V (Kd.int .i64) 3 wc w.heap.size (fun k_=>((P0_0_ k_ ∨ P0_1_ k_ ∨ P0_2_ k_) ∨ w.heap.size ≤ k_) ∧ k_ ≠ gb314 ∧ k_ ≠ gb315) (.slice A0_0 l0_0.length c0_0) l0_0) ∧ Aside0 (Kd.V (Kd.slice 3 (Kd.int .i64)) 23 wc w.heap.size (fun k_=>((P0_0_ k_ ∨ P0_1_ k_ ∨ P0_2_ k_) ∨ w.heap.size ≤ k_) ∧ k_ ≠ gb314 ∧ k_ ≠ gb315) (.slice A0_1 l0_1.length c0_1) l0_1) ∧ Aside0 (Kd.V (Kd.slice 3 (Kd.int .i64)) 23 wc w.heap.size (fun k_=>((P0_0_ k_ ∨ P0_1_ k_ ∨ P0_2_ k_) ∨ w.heap.size ≤ k_) ∧ k_ ≠ gb314 ∧ k_ ≠ gb315) (.slice A0_2 l0_2.length c0_2) l0_2) ∧ Aside0 (wc.heap[gb314]? = some (.cells #[(.slice A0_0 l0_0.length c0_0),(.slice A0_1 l0_1.length c0_1),(.slice A0_2 l0_2.length c0_2)] 55 (0,0))) ∧ Aside0 (wc.heap[gb315]? = some (.cells #[(.slice none 0 0),(.slice none 0 0),(.slice none 0 0)] 55 (0,0))) ∧ Aside0 (Below w.heap.size w wc))
  case first =>
    have H:=HC4.out;clear HC4;by_cases c7 : a1 < 0
    · rw [if_pos c7] at H
      have c7b0 : decide (a1 < 0) = true:=decide_eq_true c7;clear c7
      (first|rw [c7b0]|(simp only [i64_w,i32_w];rw [c7b0])|skip)
      have H':=A0_ H;clear H;go_wp2;go_meet
      case rel=>exact ⟨_,(true),(by first|rfl|(simp;done)|(simp [*];done)),H',⟨by first|omega|exact Nat.le_refl _⟩,⟨by (with_reducible repeat first|apply Va_|apply Vn_|apply Vd_);exact Kd.V_mono HO0_0.out (fun _ hk=>⟨hk.1.1,⟨hk.1.2,hk.2⟩⟩)⟩,⟨by (with_reducible repeat first|apply Va_|apply Vn_|apply Vd_);exact Kd.V_mono HO0_1.out (fun _ hk=>⟨hk.1.1,⟨hk.1.2,hk.2⟩⟩)⟩,⟨by (with_reducible repeat first|apply Va_|apply Vn_|apply Vd_);exact Kd.V_mono HO0_2.out (fun _ hk=>⟨hk.1.1,⟨hk.1.2,hk.2⟩⟩)⟩,⟨by (with_reducible repeat first|refine bN_ ?_ _|refine bD_ ?_|refine bA_ ?_ _);exact BK314.out⟩,⟨by (with_reducible repeat first|refine bN_ ?_ _|refine bD_ ?_|refine bA_ ?_ _);exact BK315.out⟩,⟨by repeat (first|(with_reducible first|exact HB.out|apply ba_|apply pN_|apply b1_|refine bs_ ?_ GE314.out|refine bs_ ?_ GE315.out)|exact HB.out)⟩⟩
    rw [if_neg c7] at H;have c7b0 : decide (a1 < 0) = false:=decide_eq_false c7;clear c7
    (first|rw [c7b0]|(simp only [i64_w,i32_w];rw [c7b0])|skip)
    by_cases c8 : a1 ≥ (l0_1.length : Int)
    · rw [if_pos c8] at H
      have c8b0 : decide ((l0_1.length : Int) ≤ a1) = true:=decide_eq_true c8;clear c8;have H':=A0_ H;clear H;have hnb9:=NB314_315.out;have hnc9:=NB315_314.out;obtain ⟨hcz10_0,hcz10_1,hcz10_2,hfz10_0,hfz10_1,hfz10_2⟩:=cz3_ (w:=w6) BK314.out;go_wp2;go_meet
      case rel=>exact ⟨_,(true),(by first|rfl|(simp;done)|(simp [*];done)),H',⟨by first|omega|exact Nat.le_refl _⟩,⟨by (with_reducible repeat first|apply Va_|apply Vn_|apply Vd_);exact Kd.V_mono HO0_0.out (fun _ hk=>⟨hk.1.1,⟨hk.1.2,hk.2⟩⟩)⟩,⟨by (with_reducible repeat first|apply Va_|apply Vn_|apply Vd_);exact Kd.V_mono HO0_1.out (fun _ hk=>⟨hk.1.1,⟨hk.1.2,hk.2⟩⟩)⟩,⟨by (with_reducible repeat first|apply Va_|apply Vn_|apply Vd_);exact Kd.V_mono HO0_2.out (fun _ hk=>⟨hk.1.1,⟨hk.1.2,hk.2⟩⟩)⟩,⟨by (with_reducible repeat first|refine bN_ ?_ _|refine bD_ ?_|refine bA_ ?_ _);exact BK314.out⟩,⟨by (with_reducible repeat first|refine bN_ ?_ _|refine bD_ ?_|refine bA_ ?_ _);exact BK315.out⟩,⟨by repeat (first|(with_reducible first|exact HB.out|apply ba_|apply pN_|apply b1_|refine bs_ ?_ GE314.out|refine bs_ ?_ GE315.out)|exact HB.out)⟩⟩
    rw [if_neg c8] at H;have c8b0 : decide ((l0_1.length : Int) ≤ a1) = false:=decide_eq_false c8;clear c8;have H':=A0_ H;clear H;have hnb11:=NB314_315.out;have hnc11:=NB315_314.out;obtain ⟨hcz12_0,hcz12_1,hcz12_2,hfz12_0,hfz12_1,hfz12_2⟩:=cz3_ (w:=w6) BK314.out;go_wp2;go_meet
    case rel=>exact ⟨_,(((l2.length : Int) != (l0_0.length : Int))),(by first|rfl|(simp;done)|(simp [*];done)),H',⟨by first|omega|exact Nat.le_refl _⟩,⟨by (with_reducible repeat first|apply Va_|apply Vn_|apply Vd_);exact Kd.V_mono HO0_0.out (fun _ hk=>⟨hk.1.1,⟨hk.1.2,hk.2⟩⟩)⟩,⟨by (with_reducible repeat first|apply Va_|apply Vn_|apply Vd_);exact Kd.V_mono HO0_1.out (fun _ hk=>⟨hk.1.1,⟨hk.1.2,hk.2⟩⟩)⟩,⟨by (with_reducible repeat first|apply Va_|apply Vn_|apply Vd_);exact Kd.V_mono HO0_2.out (fun _ hk=>⟨hk.1.1,⟨hk.1.2,hk.2⟩⟩)⟩,⟨by (with_reducible repeat first|refine bN_ ?_ _|refine bD_ ?_|refine bA_ ?_ _);exact BK314.out⟩,⟨by (with_reducible repeat first|refine bN_ ?_ _|refine bD_ ?_|refine bA_ ?_ _);exact BK315.out⟩,⟨by repeat (first|(with_reducible first|exact HB.out|apply ba_|apply pN_|apply b1_|refine bs_ ?_ GE314.out|refine bs_ ?_ GE315.out)|exact HB.out)⟩⟩
  case rest =>
    clear HC4;(try clear c1);(try clear c2);(try clear p2);(try clear c3);(try clear c7);(try clear c7b0);(try clear c8);(try clear c8b0);(try clear c9);(try clear c11);(try clear hcz10_0);(try clear hcz10_1);(try clear hcz10_2);(try clear hcz12_0);(try clear hcz12_1);(try clear hcz12_2);(try clear hfz10_0);(try clear hfz10_1);(try clear hfz10_2);(try clear hfz12_0);(try clear hfz12_1);(try clear hfz12_2);obtain ⟨kq,x28_3,rfl,HA,HJ3,HO_315000,HO_315001,HO_315002,BK314,BK315,HB⟩:=hcut
    cases kq with
    | zero=>exact absurd HA.out (by simp [logjamref25_Given.j0])
    | succ kj3 =>
      have H:=HA.out;clear HA;simp only [logjamref25_Given.j0] at H;by_cases c13 : x28_3 = true
      · subst c13
        have H1 : (some (l0_0,l0_1,l0_2,false)) = some (r1,r2,r3,r4):=by rw [if_pos rfl] at H;exact H
        clear H;have H:=H1;clear H1;simp only [Option.some.injEq,Prod.mk.injEq] at H;obtain ⟨rfl,rfl,rfl,rfl⟩:=H;have hnb14:=NB314_315.out;have hnc14:=NB315_314.out;obtain ⟨hcz15_0,hcz15_1,hcz15_2,hfz15_0,hfz15_1,hfz15_2⟩:=cz3_ (w:=wc) BK314.out;obtain ⟨hcz16_0,hcz16_1,hcz16_2,hfz16_0,hfz16_1,hfz16_2⟩:=cz3_ (w:=wc) BK315.out;go_wp2;refine bodyPost_ret (results_ct rfl _ _ gb315 55 #[.slice A0_0 l0_0.length c0_0,.slice A0_1 l0_1.length c0_1,.slice A0_2 l0_2.length c0_2] (0,0) _ rfl (by (with_reducible repeat first|refine bN_ ?_ _|refine bD_ ?_|refine bA_ ?_ _);refine blk_put (cs:=#[.slice A0_0 l0_0.length c0_0,.slice A0_1 l0_1.length c0_1,.slice none 0 0]) ?_ 2 _ rfl;(with_reducible repeat first|refine bN_ ?_ _|refine bD_ ?_|refine bA_ ?_ _);refine blk_put (cs:=#[.slice A0_0 l0_0.length c0_0,.slice none 0 0,.slice none 0 0]) ?_ 1 _ rfl;(with_reducible repeat first|refine bN_ ?_ _|refine bD_ ?_|refine bA_ ?_ _);refine blk_put (cs:=#[.slice none 0 0,.slice none 0 0,.slice none 0 0]) ?_ 0 _ rfl;(with_reducible repeat first|refine bN_ ?_ _|refine bD_ ?_|refine bA_ ?_ _);exact BK315.out) Try.underlying55 rfl (by kernel_rfl)) rfl ?_;exact ⟨_,_,_,by first|rfl|(simp [errW_none,errW_some] <;> rfl)|(simp [*,errW_none,errW_some] <;> rfl),by (with_reducible repeat first|apply Va_|apply Vn_|apply Vd_);exact Kd.V_mono (Kd.V_far (p:=⟨gb315,2,none⟩) (Kd.V_far (p:=⟨gb315,1,none⟩) (Kd.V_far (p:=⟨gb315,0,none⟩) (Kd.V_mono HO_315000.out (fun k_ hk=>(⟨hk,hk.2.2⟩ : _ ∧ k_ ≠ gb315))) (fun _ hk=>hk.2) (.slice A0_0 l0_0.length c0_0)) (fun _ hk=>hk.2) (.slice A0_1 l0_1.length c0_1)) (fun _ hk=>hk.2) (.slice A0_2 l0_2.length c0_2)) (fun _ hk=>hk.1.1),by (with_reducible repeat first|apply Va_|apply Vn_|apply Vd_);exact Kd.V_mono (Kd.V_far (p:=⟨gb315,2,none⟩) (Kd.V_far (p:=⟨gb315,1,none⟩) (Kd.V_far (p:=⟨gb315,0,none⟩) (Kd.V_mono HO_315001.out (fun k_ hk=>(⟨hk,hk.2.2⟩ : _ ∧ k_ ≠ gb315))) (fun _ hk=>hk.2) (.slice A0_0 l0_0.length c0_0)) (fun _ hk=>hk.2) (.slice A0_1 l0_1.length c0_1)) (fun _ hk=>hk.2) (.slice A0_2 l0_2.length c0_2)) (fun _ hk=>hk.1.1),by (with_reducible repeat first|apply Va_|apply Vn_|apply Vd_);exact Kd.V_mono (Kd.V_far (p:=⟨gb315,2,none⟩) (Kd.V_far (p:=⟨gb315,1,none⟩) (Kd.V_far (p:=⟨gb315,0,none⟩) (Kd.V_mono HO_315002.out (fun k_ hk=>(⟨hk,hk.2.2⟩ : _ ∧ k_ ≠ gb315))) (fun _ hk=>hk.2) (.slice A0_0 l0_0.length c0_0)) (fun _ hk=>hk.2) (.slice A0_1 l0_1.length c0_1)) (fun _ hk=>hk.2) (.slice A0_2 l0_2.length c0_2)) (fun _ hk=>hk.1.1),by repeat (first|(with_reducible first|exact HB.out|apply ba_|apply pN_|apply b1_|refine bs_ ?_ GE314.out|refine bs_ ?_ GE315.out)|exact HB.out)⟩
      replace c13:=Bool.eq_false_iff.mpr c13;subst c13;have H1 : ((logjamref25_Left.f kj3 l0_0 l0_1 l0_2 a1).bind fun t316=>(logjamref25_Given.l0 kj3 a1 l2 t316 0 l0_0 l0_1 l0_2 ([] : List Int) l0_2)) = some (r1,r2,r3,r4):=by rw [if_neg (show ¬ (false = true) by decide)] at H;exact H
      clear H;have H:=H1;clear H1;replace H:=bm_ H;obtain ⟨t316,A170,H⟩:=H;replace H : (logjamref25_Given.l0 kj3 a1 l2 t316 0 l0_0 l0_1 l0_2 ([] : List Int) l0_2) = some (r1,r2,r3,r4):=H;have A17:=A0_ A170;clear A170;have H':=A0_ H;clear H
      try go_wp2
      have n0_:=A0_ (Kd.V_drew HO_315000.out);have n1_:=A0_ (Kd.V_drew HO_315001.out);have n2_:=A0_ (Kd.V_drew HO_315002.out);have n3_:=A0_ (blk_drew BK314.out);have n4_:=A0_ (blk_drew BK315.out);have n5_:=A0_ (b1_ HB.out);clear HO_315000;clear HO_315001;clear HO_315002;clear BK314;clear BK315;clear HB;have HO_315000:=n0_;have HO_315001:=n1_;have HO_315002:=n2_;have BK314:=n3_;have BK315:=n4_;have HB:=n5_;clear n0_ n1_ n2_ n3_ n4_ n5_;refine start_ (n:=9) (S:=fun w'=>w'.cell? ⟨gb314,0,none⟩ = some (.slice A0_0 l0_0.length c0_0) ∧ w'.cell? ⟨gb314,1,none⟩ = some (.slice A0_1 l0_1.length c0_1) ∧ w'.cell? ⟨gb314,2,none⟩ = some (.slice A0_2 l0_2.length c0_2)) (ds:=[]) #[false,false,false,false,false,false,false,false,false] (by kernel_rfl) rfl rfl ⟨(blk_cell BK314.out 0).trans rfl,(blk_cell BK314.out 1).trans rfl,(blk_cell BK314.out 2).trans rfl⟩ (fun hHeld=>?_);refine with_tabW logjamref25_Given.tab3 logjamref25_Given.bits3 (fun HT_ HW_=>?_)
      generalize wc.drew = w18 at HO_315000 HO_315001 HO_315002 BK314 BK315 HB hHeld ⊢
      refine pure_ (i:=1) (N:=some 31) (v:=?_) (a':=?_) #[false,true,false,false,false,false,false,false,false] rfl rfl (any_of HT_.out (by kernel_rfl)) (fun _ _ _ h=>h) (Or.inl ⟨by rfl,?_⟩) ?_ ?_;rotate_left
      · intro w'
        go_simp
        with_reducible rfl
      rotate_left
      · simp only [Act.put,sA_,sZ_,sS_,i64_w,i32_w]
        rfl
      refine pure_ (i:=3) (N:=some 33) (v:=?_) (a':=?_) #[false,true,false,true,false,false,false,false,false] rfl rfl (any_of HT_.out (by kernel_rfl)) (fun _ _ _ h=>h) (Or.inl ⟨by rfl,?_⟩) ?_ ?_;rotate_left
      · intro w'
        go_simp
        with_reducible rfl
      rotate_left
      · simp only [Act.put,sA_,sZ_,sS_,i64_w,i32_w]
        rfl
      refine take_ (i:=0) (N:=some 30) (v:=?_) (a':=?_) #[true,true,false,true,false,false,false,false,false] rfl rfl (take_ofW HT_.out HW_.out (by kernel_rfl)) (fun _ _ _ h=>h) (Or.inl ⟨by rfl,?_⟩) hHeld ?_ ?_;rotate_left
      · rintro w' ⟨s0,s1,s2⟩
        go_simp
        with_reducible rfl
      rotate_left
      · simp only [Act.put,sA_,sZ_,sS_,i64_w,i32_w]
        rfl
      refine take_ (i:=4) (N:=some 34) (v:=?_) (a':=?_) #[true,true,false,true,true,false,false,false,false] rfl rfl (take_ofW HT_.out HW_.out (by kernel_rfl)) (fun _ _ _ h=>h) (Or.inl ⟨by rfl,?_⟩) hHeld ?_ ?_;rotate_left
      · rintro w' ⟨s0,s1,s2⟩
        go_simp
        with_reducible rfl
      rotate_left
      · simp only [Act.put,sA_,sZ_,sS_,i64_w,i32_w]
        rfl
      refine pure_ (i:=5) (N:=some 35) (v:=?_) (a':=?_) #[true,true,false,true,true,true,false,false,false] rfl rfl (any_of HT_.out (by kernel_rfl)) (fun _ _ _ h=>h) (Or.inl ⟨by rfl,?_⟩) ?_ ?_;rotate_left
      · intro w'
        go_simp
        with_reducible rfl
      rotate_left
      · simp only [Act.put,sA_,sZ_,sS_,i64_w,i32_w]
        rfl
      refine join_ (σ:=Value × Nat) 2 #[true,true,true,true,true,true,true,false,false] (fun s_=>[(32,s_.1),(9,.pointer (some ⟨s_.2,0,none⟩))]) (fun s_ w'=>(w'.cell? ⟨gb314,0,none⟩ = some (.slice A0_0 l0_0.length c0_0) ∧ w'.cell? ⟨gb314,1,none⟩ = some (.slice A0_1 l0_1.length c0_1) ∧ w'.cell? ⟨gb314,2,none⟩ = some (.slice A0_2 l0_2.length c0_2)) ∧ (Kd.R (Kd.int .i64) 3 w' w.heap.size (fun k_=>(w.heap.size ≤ k_)) s_.1 t316) ∧ (Kd.V (Kd.int .i64) 3 w' w.heap.size (fun k_=>((P0_0_ k_ ∨ P0_1_ k_ ∨ P0_2_ k_) ∨ w.heap.size ≤ k_) ∧ some k_ ≠ (s_.1 : Value).ownBlock ∧ k_ ≠ gb314 ∧ k_ ≠ gb315 ∧ k_ ≠ s_.2) (.slice A0_0 l0_0.length c0_0) l0_0) ∧ (Kd.V (Kd.slice 3 (Kd.int .i64)) 23 w' w.heap.size (fun k_=>((P0_0_ k_ ∨ P0_1_ k_ ∨ P0_2_ k_) ∨ w.heap.size ≤ k_) ∧ some k_ ≠ (s_.1 : Value).ownBlock ∧ k_ ≠ gb314 ∧ k_ ≠ gb315 ∧ k_ ≠ s_.2) (.slice A0_1 l0_1.length c0_1) l0_1) ∧ (Kd.V (Kd.slice 3 (Kd.int .i64)) 23 w' w.heap.size (fun k_=>((P0_0_ k_ ∨ P0_1_ k_ ∨ P0_2_ k_) ∨ w.heap.size ≤ k_) ∧ some k_ ≠ (s_.1 : Value).ownBlock ∧ k_ ≠ gb314 ∧ k_ ≠ gb315 ∧ k_ ≠ s_.2) (.slice A0_2 l0_2.length c0_2) l0_2) ∧ (w'.heap[gb314]? = some (.cells #[.slice A0_0 l0_0.length c0_0,.slice A0_1 l0_1.length c0_1,.slice A0_2 l0_2.length c0_2] 55 (0,0))) ∧ (w'.heap[gb315]? = some (.cells #[.slice none 0 0,.slice none 0 0,.slice none 0 0] 55 (0,0))) ∧ (w'.heap[s_.2]? = some (.cells #[.slice none 0 0,.slice none 0 0,.slice none 0 0] 55 (0,0))) ∧ (w.heap.size ≤ s_.2) ∧ (w.heap.size ≤ s_.2) ∧ (gb314 ≠ s_.2) ∧ (s_.2 ≠ gb314) ∧ (gb315 ≠ s_.2) ∧ (s_.2 ≠ gb315) ∧ (Below w.heap.size w w')) ?_ ?_;rotate_left
      · intro hCont
        refine two_ (i:=2) (j:=6) (Ni:=some 32) (Nj:=some 9) #[true,true,true,true,true,true,false,false,false] #[true,true,false,true,true,true,true,false,false] rfl rfl rfl rfl (two_of HT_.out (by kernel_rfl)) (by decide) (by decide) (fun K hK=>?_) (fun K hK=>?_)
        · skip
          refine goes_ Try.func35 (by kernel_rfl) rfl #[.agg #[.slice A0_0 l0_0.length c0_0,.slice A0_1 l0_1.length c0_1,.slice A0_2 l0_2.length c0_2],.int .i64 a1] (by rfl) rfl rfl (by first|(simp only [List.map_toArray,List.map_cons,List.map_nil] <;> rfl)|rfl|(simp only [List.length_drop,List.length_take];rfl)) ?_
          with_reducible refine (logjamref25_Left.calls kj3 _ _ l0_0 _ _ l0_1 _ _ l0_2 a1 t316 _ ?side1 ?side2 ?side3 ?side4 ?side5 ?side6 A17.out).mono ?_
          (case side1=>repeat (first|exact (Kd.V_reads' HO_315000.out).2.2|(with_reducible first|refine Ca_ ?_ _|refine Cn_ ?_ _|refine Cd_ ?_)))
          (case side2=>exact (Kd.V_reads' HO_315000.out).2.1)
          (case side3=>repeat (first|exact (Kd.V_reads' HO_315001.out).2.2|(with_reducible first|refine Ca_ ?_ _|refine Cn_ ?_ _|refine Cd_ ?_)))
          (case side4=>exact (Kd.V_reads' HO_315001.out).2.1)
          (case side5=>repeat (first|exact (Kd.V_reads' HO_315002.out).2.2|(with_reducible first|refine Ca_ ?_ _|refine Cn_ ?_ _|refine Cd_ ?_)))
          (case side6=>exact (Kd.V_reads' HO_315002.out).2.1)
          rintro e w19 ⟨v317,rfl,ho0,hb⟩
          refine ⟨_,rfl,?_⟩;have n0_:=A0_ (Kd.V_elder' (by (with_reducible repeat first|apply Va_|apply Vn_|apply Vd_);exact HO_315000.out) (Kd.R_base ho0) hb);have n1_:=A0_ (Kd.V_elder' (by (with_reducible repeat first|apply Va_|apply Vn_|apply Vd_);exact HO_315001.out) (Kd.R_base ho0) hb);have n2_:=A0_ (Kd.V_elder' (by (with_reducible repeat first|apply Va_|apply Vn_|apply Vd_);exact HO_315002.out) (Kd.R_base ho0) hb);have n3_:=A0_ (Kd.R_lower (Kd.R_newM (M:=fun k_=>(w.heap.size ≤ k_)) ho0 (below_size (by repeat (first|(with_reducible first|exact HB.out|apply ba_|apply pN_|apply b1_|refine bs_ ?_ GE314.out|refine bs_ ?_ GE315.out)|exact HB.out))) (fun k_ h_=>h_)) (below_size (by repeat (first|(with_reducible first|exact HB.out|apply ba_|apply pN_|apply b1_|refine bs_ ?_ GE314.out|refine bs_ ?_ GE315.out)|exact HB.out))));have n4_:=A0_ (blk_below (g:=gb314) (o:=.cells #[.slice A0_0 l0_0.length c0_0,.slice A0_1 l0_1.length c0_1,.slice A0_2 l0_2.length c0_2] 55 (0,0)) (by (with_reducible repeat first|refine bN_ ?_ _|refine bD_ ?_|refine bA_ ?_ _);exact BK314.out) hb);have n5_:=A0_ (blk_below (g:=gb315) (o:=.cells #[.slice none 0 0,.slice none 0 0,.slice none 0 0] 55 (0,0)) (by (with_reducible repeat first|refine bN_ ?_ _|refine bD_ ?_|refine bA_ ?_ _);exact BK315.out) hb);have n6_:=A0_ (below_step (by repeat (first|(with_reducible first|exact HB.out|apply ba_|apply pN_|apply b1_|refine bs_ ?_ GE314.out|refine bs_ ?_ GE315.out)|exact HB.out)) hb);clear HO_315000;clear HO_315001;clear HO_315002;clear BK314;clear BK315;clear HB;have HO_315000:=n0_;have HO_315001:=n1_;have HO_315002:=n2_;have HO318:=n3_;have BK314:=n4_;have BK315:=n5_;have HB:=n6_;clear n0_ n1_ n2_ n3_ n4_ n5_ n6_;(try clear hb);(try clear hb2);(try clear hk);(try clear hi);(try clear ho0);refine hK.out _ _ ⟨(blk_cell BK314.out 0).trans rfl,(blk_cell BK314.out 1).trans rfl,(blk_cell BK314.out 2).trans rfl⟩ (fun hHeld=>?_);clear hK K;refine norm_ (a':=?_) ?_ ?_;rotate_left
          · show Act.put _ (some 32) _ = _
            simp only [Act.put,sA_,sZ_,sS_,i64_w,i32_w]
            rfl
          refine one_ (i:=6) (N:=some 9) #[true,true,true,true,true,true,true,false,false] rfl rfl (one_of HT_.out (by kernel_rfl)) (by decide) (fun K hK=>?_);refine box_step ?hg (N:=9) ?hd (cs:=#[.slice none 0 0,.slice none 0 0,.slice none 0 0]) (t:=55) ?hr ?_;(case hd=>rfl);(case hg=>rfl);(case hr=>first|(go_simp;done)|(go_simp;rfl))
          intro gb319 hg w20 hbox hb
          have n0_:=A0_ (Kd.V_below (Kd.V_elderB (by (with_reducible repeat first|apply Va_|apply Vn_|apply Vd_);exact HO_315000.out) gb319 (Nat.le_of_eq hg.symm)) hb);have n1_:=A0_ (Kd.V_below (Kd.V_elderB (by (with_reducible repeat first|apply Va_|apply Vn_|apply Vd_);exact HO_315001.out) gb319 (Nat.le_of_eq hg.symm)) hb);have n2_:=A0_ (Kd.V_below (Kd.V_elderB (by (with_reducible repeat first|apply Va_|apply Vn_|apply Vd_);exact HO_315002.out) gb319 (Nat.le_of_eq hg.symm)) hb);have n3_:=A0_ (Kd.R_below (by (with_reducible repeat first|apply Ra_|apply Rn_|apply Rd_);exact HO318.out) hb);have n4_:=A0_ (blk_below (g:=gb314) (o:=.cells #[.slice A0_0 l0_0.length c0_0,.slice A0_1 l0_1.length c0_1,.slice A0_2 l0_2.length c0_2] 55 (0,0)) (by (with_reducible repeat first|refine bN_ ?_ _|refine bD_ ?_|refine bA_ ?_ _);exact BK314.out) hb);have n5_:=A0_ (blk_below (g:=gb315) (o:=.cells #[.slice none 0 0,.slice none 0 0,.slice none 0 0] 55 (0,0)) (by (with_reducible repeat first|refine bN_ ?_ _|refine bD_ ?_|refine bA_ ?_ _);exact BK315.out) hb);have n6_:=A0_ (below_step (by repeat (first|(with_reducible first|exact HB.out|apply ba_|apply pN_|apply b1_|refine bs_ ?_ GE314.out|refine bs_ ?_ GE315.out)|exact HB.out)) hb);have n7_:=A0_ (hbox);have n8_:=A0_ ((by rw [hg];exact (below_size (by repeat (first|(with_reducible first|exact HB.out|apply ba_|apply pN_|apply b1_|refine bs_ ?_ GE314.out|refine bs_ ?_ GE315.out)|exact HB.out))) : w.heap.size ≤ gb319));have n9_:=A0_ ((by rw [hg];exact (below_size (by repeat (first|(with_reducible first|exact HB.out|apply ba_|apply pN_|apply b1_|refine bs_ ?_ GE314.out|refine bs_ ?_ GE315.out)|exact HB.out))) : w.heap.size ≤ gb319));have n10_:=A0_ ((by rw [hg];exact Nat.ne_of_lt (blk_lt (g:=gb314) (o:=.cells #[.slice A0_0 l0_0.length c0_0,.slice A0_1 l0_1.length c0_1,.slice A0_2 l0_2.length c0_2] 55 (0,0)) (by (with_reducible repeat first|refine bN_ ?_ _|refine bD_ ?_|refine bA_ ?_ _);exact BK314.out)) : gb314 ≠ gb319));have n11_:=A0_ ((by rw [hg];exact Nat.ne_of_gt (blk_lt (g:=gb314) (o:=.cells #[.slice A0_0 l0_0.length c0_0,.slice A0_1 l0_1.length c0_1,.slice A0_2 l0_2.length c0_2] 55 (0,0)) (by (with_reducible repeat first|refine bN_ ?_ _|refine bD_ ?_|refine bA_ ?_ _);exact BK314.out)) : gb319 ≠ gb314));have n12_:=A0_ ((by rw [hg];exact Nat.ne_of_lt (blk_lt (g:=gb315) (o:=.cells #[.slice none 0 0,.slice none 0 0,.slice none 0 0] 55 (0,0)) (by (with_reducible repeat first|refine bN_ ?_ _|refine bD_ ?_|refine bA_ ?_ _);exact BK315.out)) : gb315 ≠ gb319));have n13_:=A0_ ((by rw [hg];exact Nat.ne_of_gt (blk_lt (g:=gb315) (o:=.cells #[.slice none 0 0,.slice none 0 0,.slice none 0 0] 55 (0,0)) (by (with_reducible repeat first|refine bN_ ?_ _|refine bD_ ?_|refine bA_ ?_ _);exact BK315.out)) : gb319 ≠ gb315));clear HO_315000;clear HO_315001;clear HO_315002;clear HO318;clear BK314;clear BK315;clear HB;have HO_315000:=n0_;have HO_315001:=n1_;have HO_315002:=n2_;have HO318:=n3_;have BK314:=n4_;have BK315:=n5_;have HB:=n6_;have BK319:=n7_;have GW319:=n8_;have GE319:=n9_;have NB314_319:=n10_;have NB319_314:=n11_;have NB315_319:=n12_;have NB319_315:=n13_;clear n0_ n1_ n2_ n3_ n4_ n5_ n6_ n7_ n8_ n9_ n10_ n11_ n12_ n13_;clear hb hbox hg;refine hK.out _ _ ⟨(blk_cell BK314.out 0).trans rfl,(blk_cell BK314.out 1).trans rfl,(blk_cell BK314.out 2).trans rfl⟩ (fun hHeld=>?_);clear hK K;refine norm_ (a':=?_) ?_ ?_;rotate_left
          · show Act.put _ (some 9) _ = _
            simp only [Act.put,sA_,sZ_,sS_,i64_w,i32_w]
            rfl
          exact norm_ (by simp only [putAll,Act.put,sA_,sZ_,sS_]) (hCont (v317,gb319) _ ⟨hHeld,(by (with_reducible repeat first|apply Ra_|apply Rn_|apply Rd_);exact Kd.R_mono HO318.out (fun _ hk=>hk.1)),(by (with_reducible repeat first|apply Va_|apply Vn_|apply Vd_);exact Kd.V_mono HO_315000.out (fun _ hk=>⟨hk.1.1.1,⟨hk.1.2,⟨hk.1.1.2.1,⟨hk.1.1.2.2,hk.2⟩⟩⟩⟩)),(by (with_reducible repeat first|apply Va_|apply Vn_|apply Vd_);exact Kd.V_mono HO_315001.out (fun _ hk=>⟨hk.1.1.1,⟨hk.1.2,⟨hk.1.1.2.1,⟨hk.1.1.2.2,hk.2⟩⟩⟩⟩)),(by (with_reducible repeat first|apply Va_|apply Vn_|apply Vd_);exact Kd.V_mono HO_315002.out (fun _ hk=>⟨hk.1.1.1,⟨hk.1.2,⟨hk.1.1.2.1,⟨hk.1.1.2.2,hk.2⟩⟩⟩⟩)),(by (with_reducible repeat first|refine bN_ ?_ _|refine bD_ ?_|refine bA_ ?_ _);exact BK314.out),(by (with_reducible repeat first|refine bN_ ?_ _|refine bD_ ?_|refine bA_ ?_ _);exact BK315.out),(by (with_reducible repeat first|refine bN_ ?_ _|refine bD_ ?_|refine bA_ ?_ _);exact BK319.out),GW319.out,GE319.out,NB314_319.out,NB319_314.out,NB315_319.out,NB319_315.out,(by repeat (first|(with_reducible first|exact HB.out|apply ba_|apply pN_|apply b1_|refine bs_ ?_ GE314.out|refine bs_ ?_ GE315.out|refine bs_ ?_ GE319.out)|exact HB.out))⟩)
        · skip
          refine box_step ?hg (N:=9) ?hd (cs:=#[.slice none 0 0,.slice none 0 0,.slice none 0 0]) (t:=55) ?hr ?_;(case hd=>rfl);(case hg=>rfl);(case hr=>first|(go_simp;done)|(go_simp;rfl))
          intro gb319 hg w19 hbox hb
          have n0_:=A0_ (Kd.V_below (Kd.V_elderB (by (with_reducible repeat first|apply Va_|apply Vn_|apply Vd_);exact HO_315000.out) gb319 (Nat.le_of_eq hg.symm)) hb);have n1_:=A0_ (Kd.V_below (Kd.V_elderB (by (with_reducible repeat first|apply Va_|apply Vn_|apply Vd_);exact HO_315001.out) gb319 (Nat.le_of_eq hg.symm)) hb);have n2_:=A0_ (Kd.V_below (Kd.V_elderB (by (with_reducible repeat first|apply Va_|apply Vn_|apply Vd_);exact HO_315002.out) gb319 (Nat.le_of_eq hg.symm)) hb);have n3_:=A0_ (blk_below (g:=gb314) (o:=.cells #[.slice A0_0 l0_0.length c0_0,.slice A0_1 l0_1.length c0_1,.slice A0_2 l0_2.length c0_2] 55 (0,0)) (by (with_reducible repeat first|refine bN_ ?_ _|refine bD_ ?_|refine bA_ ?_ _);exact BK314.out) hb);have n4_:=A0_ (blk_below (g:=gb315) (o:=.cells #[.slice none 0 0,.slice none 0 0,.slice none 0 0] 55 (0,0)) (by (with_reducible repeat first|refine bN_ ?_ _|refine bD_ ?_|refine bA_ ?_ _);exact BK315.out) hb);have n5_:=A0_ (below_step (by repeat (first|(with_reducible first|exact HB.out|apply ba_|apply pN_|apply b1_|refine bs_ ?_ GE314.out|refine bs_ ?_ GE315.out)|exact HB.out)) hb);have n6_:=A0_ (hbox);have n7_:=A0_ ((by rw [hg];exact (below_size (by repeat (first|(with_reducible first|exact HB.out|apply ba_|apply pN_|apply b1_|refine bs_ ?_ GE314.out|refine bs_ ?_ GE315.out)|exact HB.out))) : w.heap.size ≤ gb319));have n8_:=A0_ ((by rw [hg];exact (below_size (by repeat (first|(with_reducible first|exact HB.out|apply ba_|apply pN_|apply b1_|refine bs_ ?_ GE314.out|refine bs_ ?_ GE315.out)|exact HB.out))) : w.heap.size ≤ gb319));have n9_:=A0_ ((by rw [hg];exact Nat.ne_of_lt (blk_lt (g:=gb314) (o:=.cells #[.slice A0_0 l0_0.length c0_0,.slice A0_1 l0_1.length c0_1,.slice A0_2 l0_2.length c0_2] 55 (0,0)) (by (with_reducible repeat first|refine bN_ ?_ _|refine bD_ ?_|refine bA_ ?_ _);exact BK314.out)) : gb314 ≠ gb319));have n10_:=A0_ ((by rw [hg];exact Nat.ne_of_gt (blk_lt (g:=gb314) (o:=.cells #[.slice A0_0 l0_0.length c0_0,.slice A0_1 l0_1.length c0_1,.slice A0_2 l0_2.length c0_2] 55 (0,0)) (by (with_reducible repeat first|refine bN_ ?_ _|refine bD_ ?_|refine bA_ ?_ _);exact BK314.out)) : gb319 ≠ gb314));have n11_:=A0_ ((by rw [hg];exact Nat.ne_of_lt (blk_lt (g:=gb315) (o:=.cells #[.slice none 0 0,.slice none 0 0,.slice none 0 0] 55 (0,0)) (by (with_reducible repeat first|refine bN_ ?_ _|refine bD_ ?_|refine bA_ ?_ _);exact BK315.out)) : gb315 ≠ gb319));have n12_:=A0_ ((by rw [hg];exact Nat.ne_of_gt (blk_lt (g:=gb315) (o:=.cells #[.slice none 0 0,.slice none 0 0,.slice none 0 0] 55 (0,0)) (by (with_reducible repeat first|refine bN_ ?_ _|refine bD_ ?_|refine bA_ ?_ _);exact BK315.out)) : gb319 ≠ gb315));clear HO_315000;clear HO_315001;clear HO_315002;clear BK314;clear BK315;clear HB;have HO_315000:=n0_;have HO_315001:=n1_;have HO_315002:=n2_;have BK314:=n3_;have BK315:=n4_;have HB:=n5_;have BK319:=n6_;have GW319:=n7_;have GE319:=n8_;have NB314_319:=n9_;have NB319_314:=n10_;have NB315_319:=n11_;have NB319_315:=n12_;clear n0_ n1_ n2_ n3_ n4_ n5_ n6_ n7_ n8_ n9_ n10_ n11_ n12_;clear hb hbox hg;refine hK.out _ _ ⟨(blk_cell BK314.out 0).trans rfl,(blk_cell BK314.out 1).trans rfl,(blk_cell BK314.out 2).trans rfl⟩ (fun hHeld=>?_);clear hK K;refine norm_ (a':=?_) ?_ ?_;rotate_left
          · show Act.put _ (some 9) _ = _
            simp only [Act.put,sA_,sZ_,sS_,i64_w,i32_w]
            rfl
          refine one_ (i:=2) (N:=some 32) #[true,true,true,true,true,true,true,false,false] rfl rfl (one_of HT_.out (by kernel_rfl)) (by decide) (fun K hK=>?_);refine goes_ Try.func35 (by kernel_rfl) rfl #[.agg #[.slice A0_0 l0_0.length c0_0,.slice A0_1 l0_1.length c0_1,.slice A0_2 l0_2.length c0_2],.int .i64 a1] (by rfl) rfl rfl (by first|(simp only [List.map_toArray,List.map_cons,List.map_nil] <;> rfl)|rfl|(simp only [List.length_drop,List.length_take];rfl)) ?_
          with_reducible refine (logjamref25_Left.calls kj3 _ _ l0_0 _ _ l0_1 _ _ l0_2 a1 t316 _ ?side1 ?side2 ?side3 ?side4 ?side5 ?side6 A17.out).mono ?_
          (case side1=>repeat (first|exact (Kd.V_reads' HO_315000.out).2.2|(with_reducible first|refine Ca_ ?_ _|refine Cn_ ?_ _|refine Cd_ ?_)))
          (case side2=>exact (Kd.V_reads' HO_315000.out).2.1)
          (case side3=>repeat (first|exact (Kd.V_reads' HO_315001.out).2.2|(with_reducible first|refine Ca_ ?_ _|refine Cn_ ?_ _|refine Cd_ ?_)))
          (case side4=>exact (Kd.V_reads' HO_315001.out).2.1)
          (case side5=>repeat (first|exact (Kd.V_reads' HO_315002.out).2.2|(with_reducible first|refine Ca_ ?_ _|refine Cn_ ?_ _|refine Cd_ ?_)))
          (case side6=>exact (Kd.V_reads' HO_315002.out).2.1)
          rintro e w20 ⟨v317,rfl,ho0,hb⟩
          refine ⟨_,rfl,?_⟩;have n0_:=A0_ (Kd.V_elder' (by (with_reducible repeat first|apply Va_|apply Vn_|apply Vd_);exact HO_315000.out) (Kd.R_base ho0) hb);have n1_:=A0_ (Kd.V_elder' (by (with_reducible repeat first|apply Va_|apply Vn_|apply Vd_);exact HO_315001.out) (Kd.R_base ho0) hb);have n2_:=A0_ (Kd.V_elder' (by (with_reducible repeat first|apply Va_|apply Vn_|apply Vd_);exact HO_315002.out) (Kd.R_base ho0) hb);have n3_:=A0_ (Kd.R_lower (Kd.R_newM (M:=fun k_=>(w.heap.size ≤ k_)) ho0 (below_size (by repeat (first|(with_reducible first|exact HB.out|apply ba_|apply pN_|apply b1_|refine bs_ ?_ GE314.out|refine bs_ ?_ GE315.out|refine bs_ ?_ GE319.out)|exact HB.out))) (fun k_ h_=>h_)) (below_size (by repeat (first|(with_reducible first|exact HB.out|apply ba_|apply pN_|apply b1_|refine bs_ ?_ GE314.out|refine bs_ ?_ GE315.out|refine bs_ ?_ GE319.out)|exact HB.out))));have n4_:=A0_ (blk_below (g:=gb314) (o:=.cells #[.slice A0_0 l0_0.length c0_0,.slice A0_1 l0_1.length c0_1,.slice A0_2 l0_2.length c0_2] 55 (0,0)) (by (with_reducible repeat first|refine bN_ ?_ _|refine bD_ ?_|refine bA_ ?_ _);exact BK314.out) hb);have n5_:=A0_ (blk_below (g:=gb315) (o:=.cells #[.slice none 0 0,.slice none 0 0,.slice none 0 0] 55 (0,0)) (by (with_reducible repeat first|refine bN_ ?_ _|refine bD_ ?_|refine bA_ ?_ _);exact BK315.out) hb);have n6_:=A0_ (blk_below (g:=gb319) (o:=.cells #[.slice none 0 0,.slice none 0 0,.slice none 0 0] 55 (0,0)) (by (with_reducible repeat first|refine bN_ ?_ _|refine bD_ ?_|refine bA_ ?_ _);exact BK319.out) hb);have n7_:=A0_ (below_step (by repeat (first|(with_reducible first|exact HB.out|apply ba_|apply pN_|apply b1_|refine bs_ ?_ GE314.out|refine bs_ ?_ GE315.out|refine bs_ ?_ GE319.out)|exact HB.out)) hb);clear HO_315000;clear HO_315001;clear HO_315002;clear BK314;clear BK315;clear BK319;clear HB;have HO_315000:=n0_;have HO_315001:=n1_;have HO_315002:=n2_;have HO318:=n3_;have BK314:=n4_;have BK315:=n5_;have BK319:=n6_;have HB:=n7_;clear n0_ n1_ n2_ n3_ n4_ n5_ n6_ n7_;(try clear hb);(try clear hb2);(try clear hk);(try clear hi);(try clear ho0);refine hK.out _ _ ⟨(blk_cell BK314.out 0).trans rfl,(blk_cell BK314.out 1).trans rfl,(blk_cell BK314.out 2).trans rfl⟩ (fun hHeld=>?_);clear hK K;refine norm_ (a':=?_) ?_ ?_;rotate_left
          · show Act.put _ (some 32) _ = _
            simp only [Act.put,sA_,sZ_,sS_,i64_w,i32_w]
            rfl
          exact norm_ (by simp only [putAll,Act.put,sA_,sZ_,sS_]) (hCont (v317,gb319) _ ⟨hHeld,(by (with_reducible repeat first|apply Ra_|apply Rn_|apply Rd_);exact Kd.R_mono HO318.out (fun _ hk=>hk.1)),(by (with_reducible repeat first|apply Va_|apply Vn_|apply Vd_);exact Kd.V_mono HO_315000.out (fun _ hk=>⟨hk.1.1.1,⟨hk.2,⟨hk.1.1.2.1,⟨hk.1.1.2.2,hk.1.2⟩⟩⟩⟩)),(by (with_reducible repeat first|apply Va_|apply Vn_|apply Vd_);exact Kd.V_mono HO_315001.out (fun _ hk=>⟨hk.1.1.1,⟨hk.2,⟨hk.1.1.2.1,⟨hk.1.1.2.2,hk.1.2⟩⟩⟩⟩)),(by (with_reducible repeat first|apply Va_|apply Vn_|apply Vd_);exact Kd.V_mono HO_315002.out (fun _ hk=>⟨hk.1.1.1,⟨hk.2,⟨hk.1.1.2.1,⟨hk.1.1.2.2,hk.1.2⟩⟩⟩⟩)),(by (with_reducible repeat first|refine bN_ ?_ _|refine bD_ ?_|refine bA_ ?_ _);exact BK314.out),(by (with_reducible repeat first|refine bN_ ?_ _|refine bD_ ?_|refine bA_ ?_ _);exact BK315.out),(by (with_reducible repeat first|refine bN_ ?_ _|refine bD_ ?_|refine bA_ ?_ _);exact BK319.out),GW319.out,GE319.out,NB314_319.out,NB319_314.out,NB315_319.out,NB319_315.out,(by repeat (first|(with_reducible first|exact HB.out|apply ba_|apply pN_|apply b1_|refine bs_ ?_ GE314.out|refine bs_ ?_ GE315.out|refine bs_ ?_ GE319.out)|exact HB.out))⟩)
      rintro ⟨v317,gb319⟩ w21 ⟨hS_,h0_,h1_,h2_,h3_,h4_,h5_,h6_,h7_,h8_,h9_,h10_,h11_,h12_,h13_⟩
      have n0_ : Aside0 (Kd.R (Kd.int .i64) 3 w21 w.heap.size (fun k_=>(w.heap.size ≤ k_)) v317 t316):=⟨h0_⟩;have n1_ : Aside0 (Kd.V (Kd.int .i64) 3 w21 w.heap.size (fun k_=>((P0_0_ k_ ∨ P0_1_ k_ ∨ P0_2_ k_) ∨ w.heap.size ≤ k_) ∧ some k_ ≠ (v317 : Value).ownBlock ∧ k_ ≠ gb314 ∧ k_ ≠ gb315 ∧ k_ ≠ gb319) (.slice A0_0 l0_0.length c0_0) l0_0):=⟨h1_⟩;have n2_ : Aside0 (Kd.V (Kd.slice 3 (Kd.int .i64)) 23 w21 w.heap.size (fun k_=>((P0_0_ k_ ∨ P0_1_ k_ ∨ P0_2_ k_) ∨ w.heap.size ≤ k_) ∧ some k_ ≠ (v317 : Value).ownBlock ∧ k_ ≠ gb314 ∧ k_ ≠ gb315 ∧ k_ ≠ gb319) (.slice A0_1 l0_1.length c0_1) l0_1):=⟨h2_⟩;have n3_ : Aside0 (Kd.V (Kd.slice 3 (Kd.int .i64)) 23 w21 w.heap.size (fun k_=>((P0_0_ k_ ∨ P0_1_ k_ ∨ P0_2_ k_) ∨ w.heap.size ≤ k_) ∧ some k_ ≠ (v317 : Value).ownBlock ∧ k_ ≠ gb314 ∧ k_ ≠ gb315 ∧ k_ ≠ gb319) (.slice A0_2 l0_2.length c0_2) l0_2):=⟨h3_⟩;have n4_ : Aside0 (w21.heap[gb314]? = some (.cells #[.slice A0_0 l0_0.length c0_0,.slice A0_1 l0_1.length c0_1,.slice A0_2 l0_2.length c0_2] 55 (0,0))):=⟨h4_⟩;have n5_ : Aside0 (w21.heap[gb315]? = some (.cells #[.slice none 0 0,.slice none 0 0,.slice none 0 0] 55 (0,0))):=⟨h5_⟩;have n6_ : Aside0 (w21.heap[gb319]? = some (.cells #[.slice none 0 0,.slice none 0 0,.slice none 0 0] 55 (0,0))):=⟨h6_⟩;have n7_ : Aside0 (w.heap.size ≤ gb319):=⟨h7_⟩;have n8_ : Aside0 (w.heap.size ≤ gb319):=⟨h8_⟩;have n9_ : Aside0 (gb314 ≠ gb319):=⟨h9_⟩;have n10_ : Aside0 (gb319 ≠ gb314):=⟨h10_⟩;have n11_ : Aside0 (gb315 ≠ gb319):=⟨h11_⟩;have n12_ : Aside0 (gb319 ≠ gb315):=⟨h12_⟩;have n13_ : Aside0 (Below w.heap.size w w21):=⟨h13_⟩;clear HO_315000;clear HO_315001;clear HO_315002;clear BK314;clear BK315;clear HB;clear h0_ h1_ h2_ h3_ h4_ h5_ h6_ h7_ h8_ h9_ h10_ h11_ h12_ h13_;have HO318:=n0_;have HO_315000:=n1_;have HO_315001:=n2_;have HO_315002:=n3_;have BK314:=n4_;have BK315:=n5_;have BK319:=n6_;have GW319:=n7_;have GE319:=n8_;have NB314_319:=n9_;have NB319_314:=n10_;have NB315_319:=n11_;have NB319_315:=n12_;have HB:=n13_;clear n0_ n1_ n2_ n3_ n4_ n5_ n6_ n7_ n8_ n9_ n10_ n11_ n12_ n13_;have hHeld : w21.cell? ⟨gb314,0,none⟩ = some (.slice A0_0 l0_0.length c0_0) ∧ w21.cell? ⟨gb314,1,none⟩ = some (.slice A0_1 l0_1.length c0_1) ∧ w21.cell? ⟨gb314,2,none⟩ = some (.slice A0_2 l0_2.length c0_2):=hS_;refine norm_ (a':=?_) ?_ ?_;rotate_left
      · simp only [putAll,Act.put,sA_,sZ_,sS_]
        rfl
      refine pure_ (i:=7) (N:=some 8) (v:=?_) (a':=?_) #[true,true,true,true,true,true,true,true,false] rfl rfl (any_of HT_.out (by kernel_rfl)) (fun _ _ _ h=>h) (Or.inl ⟨by rfl,?_⟩) ?_ ?_;rotate_left
      · intro w'
        go_simp
        with_reducible rfl
      rotate_left
      · simp only [Act.put,sA_,sZ_,sS_,i64_w,i32_w]
        rfl
      refine one_ (i:=8) (N:=none) #[true,true,true,true,true,true,true,true,true] rfl rfl (one_of HT_.out (by kernel_rfl)) (by decide) (fun K hK=>?_);have hs22 : w21.cell? ⟨gb319,0,none⟩ = some (.slice none 0 0):=(blk_cell BK319.out 0).trans rfl;have hfs22:=blk_frozen BK319.out 0;have hns22_0:=NB314_319.out;have hns22_1:=NB315_319.out;have hms22_0:=NB319_314.out;have hms22_1:=NB319_315.out;have hs23 : w21.cell? ⟨gb319,1,none⟩ = some (.slice none 0 0):=(blk_cell BK319.out 1).trans rfl;have hfs23:=blk_frozen BK319.out 1;have hns23_0:=NB314_319.out;have hns23_1:=NB315_319.out;have hms23_0:=NB319_314.out;have hms23_1:=NB319_315.out;have hs24 : w21.cell? ⟨gb319,2,none⟩ = some (.slice none 0 0):=(blk_cell BK319.out 2).trans rfl;have hfs24:=blk_frozen BK319.out 2;have hns24_0:=NB314_319.out;have hns24_1:=NB315_319.out;have hms24_0:=NB319_314.out;have hms24_1:=NB319_315.out;refine skip_ (w1:=?_) (by rfl) rfl ?_ ?_;rotate_left
      · go_simp
        rfl
      refine hK.out _ _ ⟨((cell_far (p:=⟨gb319,_,none⟩) NB314_319.out _).trans (((cell_far (p:=⟨gb319,_,none⟩) NB314_319.out _).trans (((cell_far (p:=⟨gb319,_,none⟩) NB314_319.out _).trans (hHeld.1)))))),((cell_far (p:=⟨gb319,_,none⟩) NB314_319.out _).trans (((cell_far (p:=⟨gb319,_,none⟩) NB314_319.out _).trans (((cell_far (p:=⟨gb319,_,none⟩) NB314_319.out _).trans (hHeld.2.1)))))),((cell_far (p:=⟨gb319,_,none⟩) NB314_319.out _).trans (((cell_far (p:=⟨gb319,_,none⟩) NB314_319.out _).trans (((cell_far (p:=⟨gb319,_,none⟩) NB314_319.out _).trans (hHeld.2.2))))))⟩ (fun hHeld=>?_);clear hK K;refine done_ (done_of HT_.out (by kernel_rfl)) ?_
      try go_wp2
      go_loopg [10] kj3 (fun kq v10 w'=>∃ (x10_2 : Int) (x320000_2 : List Int) (u320000 : Value),v10 = .int .i64 x10_2 ∧ Aside0 (logjamref25_Given.l0 kq a1 l2 t316 x10_2 l0_0 l0_1 l0_2 x320000_2 l0_2 = some (r1,r2,r3,r4)) ∧ Aside0 (kq ≤ kj3) ∧ Aside0 (Kd.R (Kd.int .i64) 3 w' w.heap.size (fun k_=>(w.heap.size ≤ k_) ∧ some k_ ≠ (u320000 : Value).ownBlock) v317 t316) ∧ Aside0 (Kd.V (Kd.int .i64) 3 w' w.heap.size (fun k_=>((P0_0_ k_ ∨ P0_1_ k_ ∨ P0_2_ k_) ∨ w.heap.size ≤ k_) ∧ some k_ ≠ (v317 : Value).ownBlock ∧ some k_ ≠ (u320000 : Value).ownBlock ∧ k_ ≠ gb314 ∧ k_ ≠ gb315 ∧ k_ ≠ gb319) (.slice A0_0 l0_0.length c0_0) l0_0) ∧ Aside0 (Kd.V (Kd.slice 3 (Kd.int .i64)) 23 w' w.heap.size (fun k_=>((P0_0_ k_ ∨ P0_1_ k_ ∨ P0_2_ k_) ∨ w.heap.size ≤ k_) ∧ some k_ ≠ (v317 : Value).ownBlock ∧ some k_ ≠ (u320000 : Value).ownBlock ∧ k_ ≠ gb314 ∧ k_ ≠ gb315 ∧ k_ ≠ gb319) (.slice A0_1 l0_1.length c0_1) l0_1) ∧ Aside0 (Kd.V (Kd.slice 3 (Kd.int .i64)) 23 w' w.heap.size (fun k_=>((P0_0_ k_ ∨ P0_1_ k_ ∨ P0_2_ k_) ∨ w.heap.size ≤ k_) ∧ some k_ ≠ (v317 : Value).ownBlock ∧ some k_ ≠ (u320000 : Value).ownBlock ∧ k_ ≠ gb314 ∧ k_ ≠ gb315 ∧ k_ ≠ gb319) (.slice A0_2 l0_2.length c0_2) l0_2) ∧ Aside0 (Kd.R (Kd.int .i64) 3 w' w.heap.size (fun k_=>(w.heap.size ≤ k_) ∧ some k_ ≠ (v317 : Value).ownBlock) u320000 x320000_2) ∧ Aside0 (Kd.V (Kd.slice 3 (Kd.int .i64)) 23 w' w.heap.size (fun k_=>((P0_0_ k_ ∨ P0_1_ k_ ∨ P0_2_ k_) ∨ w.heap.size ≤ k_) ∧ some k_ ≠ (v317 : Value).ownBlock ∧ some k_ ≠ (u320000 : Value).ownBlock ∧ k_ ≠ gb314 ∧ k_ ≠ gb315 ∧ k_ ≠ gb319) (.slice A0_2 l0_2.length c0_2) l0_2) ∧ Aside0 (w'.heap[gb314]? = some (.cells #[(.slice A0_0 l0_0.length c0_0),(.slice A0_1 l0_1.length c0_1),(.slice A0_2 l0_2.length c0_2)] 55 (0,0))) ∧ Aside0 (w'.heap[gb315]? = some (.cells #[(.slice none 0 0),(.slice none 0 0),(.slice none 0 0)] 55 (0,0))) ∧ Aside0 (w'.heap[gb319]? = some (.cells #[u320000,(.slice none 0 0),(.slice A0_2 l0_2.length c0_2)] 55 (0,0))) ∧ Aside0 (Below w.heap.size w w'))
      case atStart=>exact ⟨(0),(([] : List Int)),(.slice none 0 0),(by first|rfl|(simp;done)|(simp [*];done)),H',⟨Nat.le_refl _⟩,⟨by (with_reducible repeat first|apply Ra_|apply Rn_|apply Rd_);exact Kd.R_mono (Kd.R_far (p:=⟨gb319,2,none⟩) (Kd.R_far (p:=⟨gb319,1,none⟩) (Kd.R_far (p:=⟨gb319,0,none⟩) (Kd.R_types HO318.out BK319.out (by decide)) (fun _ hk=>hk.2) (.slice none 0 0)) (fun _ hk=>hk.2) (.slice none 0 0)) (fun _ hk=>hk.2) (.slice A0_2 l0_2.length c0_2)) (fun _ hk=>⟨hk.1,(by simp [Value.ownBlock])⟩)⟩,⟨by (with_reducible repeat first|apply Va_|apply Vn_|apply Vd_);exact Kd.V_mono (Kd.V_far (p:=⟨gb319,2,none⟩) (Kd.V_far (p:=⟨gb319,1,none⟩) (Kd.V_far (p:=⟨gb319,0,none⟩) (Kd.V_mono HO_315000.out (fun k_ hk=>(⟨hk,hk.2.2.2.2⟩ : _ ∧ k_ ≠ gb319))) (fun _ hk=>hk.2) (.slice none 0 0)) (fun _ hk=>hk.2) (.slice none 0 0)) (fun _ hk=>hk.2) (.slice A0_2 l0_2.length c0_2)) (fun _ hk=>⟨hk.1.1,⟨hk.1.2.1,⟨(by simp [Value.ownBlock]),⟨hk.1.2.2.1,⟨hk.1.2.2.2.1,hk.1.2.2.2.2⟩⟩⟩⟩⟩)⟩,⟨by (with_reducible repeat first|apply Va_|apply Vn_|apply Vd_);exact Kd.V_mono (Kd.V_far (p:=⟨gb319,2,none⟩) (Kd.V_far (p:=⟨gb319,1,none⟩) (Kd.V_far (p:=⟨gb319,0,none⟩) (Kd.V_mono HO_315001.out (fun k_ hk=>(⟨hk,hk.2.2.2.2⟩ : _ ∧ k_ ≠ gb319))) (fun _ hk=>hk.2) (.slice none 0 0)) (fun _ hk=>hk.2) (.slice none 0 0)) (fun _ hk=>hk.2) (.slice A0_2 l0_2.length c0_2)) (fun _ hk=>⟨hk.1.1,⟨hk.1.2.1,⟨(by simp [Value.ownBlock]),⟨hk.1.2.2.1,⟨hk.1.2.2.2.1,hk.1.2.2.2.2⟩⟩⟩⟩⟩)⟩,⟨by (with_reducible repeat first|apply Va_|apply Vn_|apply Vd_);exact Kd.V_mono (Kd.V_far (p:=⟨gb319,2,none⟩) (Kd.V_far (p:=⟨gb319,1,none⟩) (Kd.V_far (p:=⟨gb319,0,none⟩) (Kd.V_mono HO_315002.out (fun k_ hk=>(⟨hk,hk.2.2.2.2⟩ : _ ∧ k_ ≠ gb319))) (fun _ hk=>hk.2) (.slice none 0 0)) (fun _ hk=>hk.2) (.slice none 0 0)) (fun _ hk=>hk.2) (.slice A0_2 l0_2.length c0_2)) (fun _ hk=>⟨hk.1.1,⟨hk.1.2.1,⟨(by simp [Value.ownBlock]),⟨hk.1.2.2.1,⟨hk.1.2.2.2.1,hk.1.2.2.2.2⟩⟩⟩⟩⟩)⟩,⟨by first|exact Kd.R_nil _ _ _ _ _|exact Kd.N_nil _ _ _ _ _|exact Kd.V_nil _ _ _ _ _|exact Kd.Q_nil _ _ _ _ _|exact Kd.S_nil _ _ _ _ _⟩,⟨by (with_reducible repeat first|apply Va_|apply Vn_|apply Vd_);exact Kd.V_mono (Kd.V_far (p:=⟨gb319,2,none⟩) (Kd.V_far (p:=⟨gb319,1,none⟩) (Kd.V_far (p:=⟨gb319,0,none⟩) (Kd.V_mono HO_315002.out (fun k_ hk=>(⟨hk,hk.2.2.2.2⟩ : _ ∧ k_ ≠ gb319))) (fun _ hk=>hk.2) (.slice none 0 0)) (fun _ hk=>hk.2) (.slice none 0 0)) (fun _ hk=>hk.2) (.slice A0_2 l0_2.length c0_2)) (fun _ hk=>⟨hk.1.1,⟨hk.1.2.1,⟨(by simp [Value.ownBlock]),⟨hk.1.2.2.1,⟨hk.1.2.2.2.1,hk.1.2.2.2.2⟩⟩⟩⟩⟩)⟩,⟨by (with_reducible repeat first|refine bN_ ?_ _|refine bD_ ?_|refine bA_ ?_ _);refine blk_far ?_ NB314_319.out _;(with_reducible repeat first|refine bN_ ?_ _|refine bD_ ?_|refine bA_ ?_ _);refine blk_far ?_ NB314_319.out _;(with_reducible repeat first|refine bN_ ?_ _|refine bD_ ?_|refine bA_ ?_ _);refine blk_far ?_ NB314_319.out _;(with_reducible repeat first|refine bN_ ?_ _|refine bD_ ?_|refine bA_ ?_ _);exact BK314.out⟩,⟨by (with_reducible repeat first|refine bN_ ?_ _|refine bD_ ?_|refine bA_ ?_ _);refine blk_far ?_ NB315_319.out _;(with_reducible repeat first|refine bN_ ?_ _|refine bD_ ?_|refine bA_ ?_ _);refine blk_far ?_ NB315_319.out _;(with_reducible repeat first|refine bN_ ?_ _|refine bD_ ?_|refine bA_ ?_ _);refine blk_far ?_ NB315_319.out _;(with_reducible repeat first|refine bN_ ?_ _|refine bD_ ?_|refine bA_ ?_ _);exact BK315.out⟩,⟨by (with_reducible repeat first|refine bN_ ?_ _|refine bD_ ?_|refine bA_ ?_ _);refine blk_put (cs:=#[.slice none 0 0,.slice none 0 0,.slice none 0 0]) ?_ 2 _ rfl;(with_reducible repeat first|refine bN_ ?_ _|refine bD_ ?_|refine bA_ ?_ _);refine blk_put (cs:=#[.slice none 0 0,.slice none 0 0,.slice none 0 0]) ?_ 1 _ rfl;(with_reducible repeat first|refine bN_ ?_ _|refine bD_ ?_|refine bA_ ?_ _);refine blk_put (cs:=#[.slice none 0 0,.slice none 0 0,.slice none 0 0]) ?_ 0 _ rfl;(with_reducible repeat first|refine bN_ ?_ _|refine bD_ ?_|refine bA_ ?_ _);exact BK319.out⟩,⟨by repeat (first|(with_reducible first|exact HB.out|apply ba_|apply pN_|apply b1_|refine bs_ ?_ GE314.out|refine bs_ ?_ GE315.out|refine bs_ ?_ GE319.out)|exact HB.out)⟩⟩
      case round =>
        clear H';(try clear c1);(try clear c2);(try clear p2);(try clear c3);(try clear c7);(try clear c7b0);(try clear c8);(try clear c8b0);(try clear c9);(try clear c11);(try clear c13);(try clear c14);(try clear hcz10_0);(try clear hcz10_1);(try clear hcz10_2);(try clear hcz12_0);(try clear hcz12_1);(try clear hcz12_2);(try clear hcz15_0);(try clear hcz15_1);(try clear hcz15_2);(try clear hcz16_0);(try clear hcz16_1);(try clear hcz16_2);(try clear hfz10_0);(try clear hfz10_1);(try clear hfz10_2);(try clear hfz12_0);(try clear hfz12_1);(try clear hfz12_2);(try clear hfz15_0);(try clear hfz15_1);(try clear hfz15_2);(try clear hfz16_0);(try clear hfz16_1);(try clear hfz16_2);(try clear p2);obtain ⟨x10_2,x320000_2,u320000,rfl,HA,HK2,HO_8,HO_315000,HO_315001,HO_315002,HO_320000,HO_320002,BK314,BK315,BK319,HB⟩:=hrel
        cases gk with
        | zero=>exact absurd HA.out (by simp [logjamref25_Given.l0])
        | succ k2 =>
          have H:=HA.out;clear HA;simp only [logjamref25_Given.l0] at H;by_cases c25 : x10_2 < (l2.length : Int);rotate_left
          · rw [if_neg c25] at H
            have c25b0 : decide (x10_2 < (l2.length : Int)) = false:=decide_eq_false c25;clear c25;have H':=A0_ H;clear H;go_wp2
            go_loopg [11] k2 (fun kq v11 w'=>∃ (x11_3 : Int) (x320001_3 : List (List Int)) (u320001 : Value),v11 = .int .i64 x11_3 ∧ Aside0 (logjamref25_Given.l1 kq a1 l2 x11_3 l0_0 l0_1 l0_2 x320000_2 x320001_3 l0_2 = some (r1,r2,r3,r4)) ∧ Aside0 (kq ≤ k2) ∧ Aside0 (Kd.V (Kd.int .i64) 3 w' w.heap.size (fun k_=>((P0_0_ k_ ∨ P0_1_ k_ ∨ P0_2_ k_) ∨ w.heap.size ≤ k_) ∧ some k_ ≠ (u320000 : Value).ownBlock ∧ some k_ ≠ (u320001 : Value).ownBlock ∧ k_ ≠ gb314 ∧ k_ ≠ gb315 ∧ k_ ≠ gb319) (.slice A0_0 l0_0.length c0_0) l0_0) ∧ Aside0 (Kd.V (Kd.slice 3 (Kd.int .i64)) 23 w' w.heap.size (fun k_=>((P0_0_ k_ ∨ P0_1_ k_ ∨ P0_2_ k_) ∨ w.heap.size ≤ k_) ∧ some k_ ≠ (u320000 : Value).ownBlock ∧ some k_ ≠ (u320001 : Value).ownBlock ∧ k_ ≠ gb314 ∧ k_ ≠ gb315 ∧ k_ ≠ gb319) (.slice A0_1 l0_1.length c0_1) l0_1) ∧ Aside0 (Kd.V (Kd.slice 3 (Kd.int .i64)) 23 w' w.heap.size (fun k_=>((P0_0_ k_ ∨ P0_1_ k_ ∨ P0_2_ k_) ∨ w.heap.size ≤ k_) ∧ some k_ ≠ (u320000 : Value).ownBlock ∧ some k_ ≠ (u320001 : Value).ownBlock ∧ k_ ≠ gb314 ∧ k_ ≠ gb315 ∧ k_ ≠ gb319) (.slice A0_2 l0_2.length c0_2) l0_2) ∧ Aside0 (Kd.R (Kd.int .i64) 3 w' w.heap.size (fun k_=>(w.heap.size ≤ k_)) u320000 x320000_2) ∧ Aside0 (Kd.N (Kd.slice 3 (Kd.int .i64)) 23 w' w.heap.size (fun k_=>((P0_0_ k_ ∨ P0_1_ k_ ∨ P0_2_ k_) ∨ w.heap.size ≤ k_) ∧ some k_ ≠ (u320000 : Value).ownBlock ∧ k_ ≠ gb314 ∧ k_ ≠ gb315 ∧ k_ ≠ gb319) u320001 x320001_3) ∧ Aside0 (Kd.V (Kd.slice 3 (Kd.int .i64)) 23 w' w.heap.size (fun k_=>((P0_0_ k_ ∨ P0_1_ k_ ∨ P0_2_ k_) ∨ w.heap.size ≤ k_) ∧ some k_ ≠ (u320000 : Value).ownBlock ∧ some k_ ≠ (u320001 : Value).ownBlock ∧ k_ ≠ gb314 ∧ k_ ≠ gb315 ∧ k_ ≠ gb319) (.slice A0_2 l0_2.length c0_2) l0_2) ∧ Aside0 (w'.heap[gb314]? = some (.cells #[(.slice A0_0 l0_0.length c0_0),(.slice A0_1 l0_1.length c0_1),(.slice A0_2 l0_2.length c0_2)] 55 (0,0))) ∧ Aside0 (w'.heap[gb315]? = some (.cells #[(.slice none 0 0),(.slice none 0 0),(.slice none 0 0)] 55 (0,0))) ∧ Aside0 (w'.heap[gb319]? = some (.cells #[u320000,u320001,(.slice A0_2 l0_2.length c0_2)] 55 (0,0))) ∧ Aside0 (Below w.heap.size w w'))
            case atStart=>exact ⟨(0),(([] : List (List Int))),(.slice none 0 0),(by first|rfl|(simp;done)|(simp [*];done)),H',⟨Nat.le_refl _⟩,⟨by (with_reducible repeat first|apply Va_|apply Vn_|apply Vd_);exact Kd.V_mono HO_315000.out (fun _ hk=>⟨hk.1,⟨hk.2.2.1,⟨(by simp [Value.ownBlock]),⟨hk.2.2.2.1,⟨hk.2.2.2.2.1,hk.2.2.2.2.2⟩⟩⟩⟩⟩)⟩,⟨by (with_reducible repeat first|apply Va_|apply Vn_|apply Vd_);exact Kd.V_mono HO_315001.out (fun _ hk=>⟨hk.1,⟨hk.2.2.1,⟨(by simp [Value.ownBlock]),⟨hk.2.2.2.1,⟨hk.2.2.2.2.1,hk.2.2.2.2.2⟩⟩⟩⟩⟩)⟩,⟨by (with_reducible repeat first|apply Va_|apply Vn_|apply Vd_);exact Kd.V_mono HO_315002.out (fun _ hk=>⟨hk.1,⟨hk.2.2.1,⟨(by simp [Value.ownBlock]),⟨hk.2.2.2.1,⟨hk.2.2.2.2.1,hk.2.2.2.2.2⟩⟩⟩⟩⟩)⟩,⟨by (with_reducible repeat first|apply Ra_|apply Rn_|apply Rd_);exact Kd.R_mono HO_320000.out (fun _ hk=>hk.1)⟩,⟨by first|exact Kd.S_nil _ _ _ _ _|exact Kd.N_nil _ _ _ _ _|exact Kd.V_nil _ _ _ _ _|exact Kd.Q_nil _ _ _ _ _|exact Kd.R_nil _ _ _ _ _⟩,⟨by (with_reducible repeat first|apply Va_|apply Vn_|apply Vd_);exact Kd.V_mono HO_320002.out (fun _ hk=>⟨hk.1,⟨hk.2.2.1,⟨(by simp [Value.ownBlock]),⟨hk.2.2.2.1,⟨hk.2.2.2.2.1,hk.2.2.2.2.2⟩⟩⟩⟩⟩)⟩,⟨by (with_reducible repeat first|refine bN_ ?_ _|refine bD_ ?_|refine bA_ ?_ _);exact BK314.out⟩,⟨by (with_reducible repeat first|refine bN_ ?_ _|refine bD_ ?_|refine bA_ ?_ _);exact BK315.out⟩,⟨by (with_reducible repeat first|refine bN_ ?_ _|refine bD_ ?_|refine bA_ ?_ _);exact BK319.out⟩,⟨by repeat (first|(with_reducible first|exact HB.out|apply ba_|apply pN_|apply b1_|refine bs_ ?_ GE314.out|refine bs_ ?_ GE315.out|refine bs_ ?_ GE319.out)|exact HB.out)⟩⟩
            case round =>
              clear H';(try clear c2);(try clear p2);(try clear c3);(try clear p3);(try clear q3);(try clear hx3);(try clear c4);(try clear p6);(try clear c25);(try clear c25b0);(try clear c27);(try clear c28);(try clear c28b0);(try clear c30);(try clear c30b0);(try clear c31);(try clear c31b0);(try clear p32);(try clear q32);(try clear hx32);(try clear c34);(try clear c34b0);(try clear c37);(try clear c38);(try clear c39);(try clear c41);(try clear c43);(try clear c43b0);(try clear c44);(try clear c44b0);(try clear c45);(try clear c45b0);(try clear c46);(try clear hcz40_0);(try clear hcz40_1);(try clear hcz40_2);(try clear hcz42_0);(try clear hcz42_1);(try clear hcz42_2);(try clear hfz40_0);(try clear hfz40_1);(try clear hfz40_2);(try clear hfz42_0);(try clear hfz42_1);(try clear hfz42_2);(try clear hx320_0);(try clear hx321_0);(try clear hx322_0);(try clear hx323_0);(try clear hx324_0);(try clear hx325_0);(try clear hx326_0);(try clear p2);(try clear p3);(try clear p32);(try clear p320);(try clear p321);(try clear p322);(try clear p323);(try clear p324);(try clear p325);(try clear p326);(try clear q3);(try clear q32);(try clear q320);(try clear q321);(try clear q322);(try clear q323);(try clear q324);(try clear q325);(try clear q326);obtain ⟨x11_3,x320001_3,u320001,rfl,HA,HK3,HO_315000,HO_315001,HO_315002,HO_320000,HO_320001,HO_320002,BK314,BK315,BK319,HB⟩:=hrel
              cases gk with
              | zero=>exact absurd HA.out (by simp [logjamref25_Given.l1])
              | succ k3 =>
                have H:=HA.out;clear HA;simp only [logjamref25_Given.l1] at H;by_cases c51 : x11_3 < (l0_1.length : Int);rotate_left
                · rw [if_neg c51] at H
                  have c51b0 : decide (x11_3 < (l0_1.length : Int)) = false:=decide_eq_false c51;clear c51;simp only [Option.some.injEq,Prod.mk.injEq] at H;obtain ⟨rfl,rfl,rfl,rfl⟩:=H;have hnb74:=NB314_315.out;have hnc74:=NB315_314.out;have hnb75:=NB314_319.out;have hnc75:=NB319_314.out;obtain ⟨hcz76_0,hcz76_1,hcz76_2,hfz76_0,hfz76_1,hfz76_2⟩:=cz3_ (w:=wr) BK314.out;have hnb77:=NB319_315.out;have hnc77:=NB315_319.out;obtain ⟨hcz78_0,hcz78_1,hcz78_2,hfz78_0,hfz78_1,hfz78_2⟩:=cz3_ (w:=wr) BK319.out;obtain ⟨Ao79,co79,eo79⟩:=Kd.R_slice HO_320000.out;subst eo79;obtain ⟨hcz80_0,hcz80_1,hcz80_2,hfz80_0,hfz80_1,hfz80_2⟩:=cz3_ (w:=wr) BK315.out;obtain ⟨Ao81,co81,eo81⟩:=Kd.N_slice HO_320001.out;subst eo81;go_wp2;refine bodyPost_ret (results_ct rfl _ _ gb315 55 #[.slice Ao79 x320000_2.length co79,.slice Ao81 x320001_3.length co81,.slice A0_2 l0_2.length c0_2] (0,0) _ rfl (by (with_reducible repeat first|refine bN_ ?_ _|refine bD_ ?_|refine bA_ ?_ _);refine blk_put (cs:=#[.slice Ao79 x320000_2.length co79,.slice Ao81 x320001_3.length co81,.slice none 0 0]) ?_ 2 _ rfl;(with_reducible repeat first|refine bN_ ?_ _|refine bD_ ?_|refine bA_ ?_ _);refine blk_put (cs:=#[.slice Ao79 x320000_2.length co79,.slice none 0 0,.slice none 0 0]) ?_ 1 _ rfl;(with_reducible repeat first|refine bN_ ?_ _|refine bD_ ?_|refine bA_ ?_ _);refine blk_put (cs:=#[.slice none 0 0,.slice none 0 0,.slice none 0 0]) ?_ 0 _ rfl;(with_reducible repeat first|refine bN_ ?_ _|refine bD_ ?_|refine bA_ ?_ _);exact BK315.out) Try.underlying55 rfl (by kernel_rfl)) rfl ?_;exact ⟨_,_,_,by first|rfl|(simp [errW_none,errW_some] <;> rfl)|(simp [*,errW_none,errW_some] <;> rfl),Kd.V_mono (Kd.R_V (by (with_reducible repeat first|apply Ra_|apply Rn_|apply Rd_);exact Kd.R_mono (Kd.R_far (p:=⟨gb315,2,none⟩) (Kd.R_far (p:=⟨gb315,1,none⟩) (Kd.R_far (p:=⟨gb315,0,none⟩) (Kd.R_types HO_320000.out BK315.out (by decide)) (fun _ hk=>hk.2) (.slice Ao79 x320000_2.length co79)) (fun _ hk=>hk.2) (.slice Ao81 x320001_3.length co81)) (fun _ hk=>hk.2) (.slice A0_2 l0_2.length c0_2)) (fun _ hk=>hk.1))) (fun k_ hk=>by first|exact ⟨(.inr (hk.1)),hk.2⟩|exact (.inr (hk))),Kd.N_V (by (with_reducible repeat first|apply Na_|apply Nn_|apply Nd_);exact Kd.N_mono (Kd.N_far (p:=⟨gb315,2,none⟩) (Kd.N_far (p:=⟨gb315,1,none⟩) (Kd.N_far (p:=⟨gb315,0,none⟩) (Kd.N_mono HO_320001.out (fun k_ hk=>(⟨hk,hk.2.2.2.1⟩ : _ ∧ k_ ≠ gb315))) (fun _ hk=>hk.2) (.slice Ao79 x320000_2.length co79)) (fun _ hk=>hk.2) (.slice Ao81 x320001_3.length co81)) (fun _ hk=>hk.2) (.slice A0_2 l0_2.length c0_2)) (fun _ hk=>hk.1.1)),by (with_reducible repeat first|apply Va_|apply Vn_|apply Vd_);exact Kd.V_mono (Kd.V_far (p:=⟨gb315,2,none⟩) (Kd.V_far (p:=⟨gb315,1,none⟩) (Kd.V_far (p:=⟨gb315,0,none⟩) (Kd.V_mono HO_320002.out (fun k_ hk=>(⟨hk,hk.2.2.2.2.1⟩ : _ ∧ k_ ≠ gb315))) (fun _ hk=>hk.2) (.slice Ao79 x320000_2.length co79)) (fun _ hk=>hk.2) (.slice Ao81 x320001_3.length co81)) (fun _ hk=>hk.2) (.slice A0_2 l0_2.length c0_2)) (fun _ hk=>hk.1.1),by repeat (first|(with_reducible first|exact HB.out|apply ba_|apply pN_|apply b1_|refine bs_ ?_ GE314.out|refine bs_ ?_ GE315.out|refine bs_ ?_ GE319.out)|exact HB.out)⟩

                rw [if_pos c51] at H;have c51b0 : decide (x11_3 < (l0_1.length : Int)) = true:=decide_eq_true c51;clear c51;by_cases c52 : x11_3 = a1;rotate_left
                · rw [if_neg c52] at H
                  have c52b0 : (x11_3 == a1) = false:=beq_eq_false_iff_ne.mpr c52;have c52b1 : (x11_3 != a1) = true:=bne_iff_ne.mpr c52;by_cases c65 : 0 ≤ x11_3;rotate_left
                  · rw [if_neg c65] at H
                    exact absurd H (by simp)
                  rw [if_pos c65] at H;have c65b0 : decide (0 ≤ x11_3) = true:=decide_eq_true c65;clear c65;by_cases c66 : x320001_3.length < 5864062014805;rotate_left
                  · rw [if_neg c66] at H
                    exact absurd H (by simp)
                  rw [if_pos c66] at H;have LMc66:=A0_ c66;clear c66;obtain ⟨y338,hy338⟩ : ∃ y_ : List (List Int),y_ = (x320001_3 ++ [rd_L1 l0_1 x11_3]):=⟨_,rfl⟩;replace H : (logjamref25_Given.l1 k3 a1 l2 (wrap64 (x11_3 + 1)) l0_0 l0_1 l0_2 x320000_2 y338 l0_2) = some (r1,r2,r3,r4):=by first|(rw [hy338];with_reducible exact H)|(have H2_:=(Option.bind_some _ _).symm.trans H;rw [hy338];with_reducible exact H2_)|(have H2_:=(Option.bind_some _ _).symm.trans H;with_reducible exact H2_)|with_reducible exact H|(rw [hy338];exact H)|exact H
                  have Ny338:=A0_ hy338;clear hy338;have H':=A0_ H;clear H;have hnb67:=NB314_315.out;have hnc67:=NB315_314.out;have hnb68:=NB314_319.out;have hnc68:=NB319_314.out;obtain ⟨hcz69_0,hcz69_1,hcz69_2,hfz69_0,hfz69_1,hfz69_2⟩:=cz3_ (w:=wr) BK314.out
                  try go_wp2
                  have n0_:=A0_ (Kd.V_drew HO_315000.out);have n1_:=A0_ (Kd.V_drew HO_315001.out);have n2_:=A0_ (Kd.V_drew HO_315002.out);have n3_:=A0_ (Kd.R_drew HO_320000.out);have n4_:=A0_ (Kd.N_drew HO_320001.out);have n5_:=A0_ (Kd.V_drew HO_320002.out);have n6_:=A0_ (blk_drew BK314.out);have n7_:=A0_ (blk_drew BK315.out);have n8_:=A0_ (blk_drew BK319.out);have n9_:=A0_ (b1_ HB.out);clear HO_315000;clear HO_315001;clear HO_315002;clear HO_320000;clear HO_320001;clear HO_320002;clear BK314;clear BK315;clear BK319;clear HB;have HO_315000:=n0_;have HO_315001:=n1_;have HO_315002:=n2_;have HO_320000:=n3_;have HO_320001:=n4_;have HO_320002:=n5_;have BK314:=n6_;have BK315:=n7_;have BK319:=n8_;have HB:=n9_;clear n0_ n1_ n2_ n3_ n4_ n5_ n6_ n7_ n8_ n9_;have p337 : 0 ≤ (x11_3 : Int):=of_decide_eq_true (by first|(with_reducible assumption)|assumption);have q337 : x11_3 < (l0_1.length : Int):=of_decide_eq_true (by first|(with_reducible assumption)|assumption);obtain ⟨ad337,A337_0,c337_0,e337,hx337_0,hl337_0,hi337_0⟩:=at_L1 (Kd.V_reads' HO_315001.out).2.2 x11_3 p337 q337;cases e337;obtain ⟨ce337,hce337,hMe337,hcc337⟩:=Kd.V_get HO_315001.out [] x11_3 p337 (by first|exact q337|exact of_decide_eq_true (by first|(with_reducible assumption)|assumption)|(have e_:=(Kd.V_reads' HO_315001.out).1;omega));obtain ⟨ua337_0,uc337_0,rfl,ul337_0,ge337_0⟩:=Kd.FK_slice_open hMe337;have hv337_0:=hcc337 0 _ rfl;rw [Nat.add_zero,show ((Kd.slice 3 (Kd.int .i64))).sz = 1 from rfl,Nat.mul_one] at hv337_0;replace hv337_0:=Option.some.inj (hv337_0.symm.trans hx337_0);injection hv337_0 with hva_ hvn_ hvc_
                  rw [hva_] at ge337_0;rw [hvc_] at ul337_0;have HL337_0:=A0_ (show Kd.V (Kd.int .i64) 3 _ w.heap.size _ _ (rd_L1 l0_1 x11_3) from Kd.V_mk ul337_0 ge337_0);clear hva_ hvn_ hvc_ ge337_0 ul337_0;clear hcc337 hce337;have HR337_0:=A0_ hi337_0;have HC337_0:=A0_ hl337_0;clear hi337_0 hl337_0;replace p337:=eq_true p337;replace q337:=eq_true q337;refine start_ (n:=11) (S:=fun w'=>w'.cell? ⟨gb319,0,none⟩ = some (u320000) ∧ w'.cell? ⟨gb319,1,none⟩ = some (u320001) ∧ w'.cell? ⟨gb319,2,none⟩ = some (.slice A0_2 l0_2.length c0_2) ∧ w'.cell? ⟨gb314,0,none⟩ = some (.slice A0_0 l0_0.length c0_0) ∧ w'.cell? ⟨gb314,1,none⟩ = some (.slice (some ad337) l0_1.length c0_1) ∧ w'.cell? ⟨gb314,2,none⟩ = some (.slice A0_2 l0_2.length c0_2) ∧ w'.cell? (ad337.add (x11_3).toNat) = some (.slice A337_0 (rd_L1 l0_1 x11_3).length c337_0)) (ds:=[8,10]) #[false,false,false,false,false,false,false,false,false,false,false] (by kernel_rfl) rfl rfl ⟨(blk_cell BK319.out 0).trans rfl,(blk_cell BK319.out 1).trans rfl,(blk_cell BK319.out 2).trans rfl,(blk_cell BK314.out 0).trans rfl,(blk_cell BK314.out 1).trans rfl,(blk_cell BK314.out 2).trans rfl,hx337_0⟩ (fun hHeld=>?_);refine with_tabW logjamref25_Given.tab15 logjamref25_Given.bits15 (fun HT_ HW_=>?_)
                  generalize wr.drew = w70 at HO_315000 HO_315001 HO_315002 HO_320000 HO_320001 HO_320002 BK314 BK315 BK319 HB HL337_0 HR337_0 hx337_0 hHeld ⊢
                  refine pure_ (i:=0) (N:=some 108) (v:=?_) (a':=?_) #[true,false,false,false,false,false,false,false,false,false,false] rfl rfl (any_of HT_.out (by kernel_rfl)) (fun _ _ _ h=>h) (Or.inl ⟨by rfl,?_⟩) ?_ ?_;rotate_left
                  · intro w'
                    go_simp
                    with_reducible rfl
                  rotate_left
                  · simp only [Act.put,sA_,sZ_,sS_,i64_w,i32_w]
                    rfl
                  refine pure_ (i:=2) (N:=some 110) (v:=?_) (a':=?_) #[true,false,true,false,false,false,false,false,false,false,false] rfl rfl (any_of HT_.out (by kernel_rfl)) (fun _ _ _ h=>h) (Or.inl ⟨by rfl,?_⟩) ?_ ?_;rotate_left
                  · intro w'
                    go_simp
                    with_reducible rfl
                  rotate_left
                  · simp only [Act.put,sA_,sZ_,sS_,i64_w,i32_w]
                    rfl
                  refine pure_ (i:=4) (N:=some 112) (v:=?_) (a':=?_) #[true,false,true,false,true,false,false,false,false,false,false] rfl rfl (any_of HT_.out (by kernel_rfl)) (fun _ _ _ h=>h) (Or.inl ⟨by rfl,?_⟩) ?_ ?_;rotate_left
                  · intro w'
                    go_simp
                    with_reducible rfl
                  rotate_left
                  · simp only [Act.put,sA_,sZ_,sS_,i64_w,i32_w]
                    rfl
                  refine take_ (i:=1) (N:=some 109) (v:=?_) (a':=?_) #[true,true,true,false,true,false,false,false,false,false,false] rfl rfl (take_ofW HT_.out HW_.out (by kernel_rfl)) (fun _ _ _ h=>h) (Or.inl ⟨by rfl,?_⟩) hHeld ?_ ?_;rotate_left
                  · rintro w' ⟨s0,s1,s2,s3,s4,s5,s6⟩
                    go_simp
                    with_reducible rfl
                  rotate_left
                  · simp only [Act.put,sA_,sZ_,sS_,i64_w,i32_w]
                    rfl
                  refine take_ (i:=3) (N:=some 111) (v:=?_) (a':=?_) #[true,true,true,true,true,false,false,false,false,false,false] rfl rfl (take_ofW HT_.out HW_.out (by kernel_rfl)) (fun _ _ _ h=>h) (Or.inl ⟨by rfl,?_⟩) hHeld ?_ ?_;rotate_left
                  · rintro w' ⟨s0,s1,s2,s3,s4,s5,s6⟩
                    go_simp
                    with_reducible rfl
                  rotate_left
                  · simp only [Act.put,sA_,sZ_,sS_,i64_w,i32_w]
                    rfl
                  refine pure_ (i:=5) (N:=some 113) (v:=?_) (a':=?_) #[true,true,true,true,true,true,false,false,false,false,false] rfl rfl (any_of HT_.out (by kernel_rfl)) (fun _ _ _ h=>h) (Or.inl ⟨by rfl,?_⟩) ?_ ?_;rotate_left
                  · intro w'
                    go_simp
                    with_reducible rfl
                  rotate_left
                  · simp only [Act.put,sA_,sZ_,sS_,i64_w,i32_w]
                    rfl
                  refine take_ (i:=6) (N:=some 114) (v:=?_) (a':=?_) #[true,true,true,true,true,true,true,false,false,false,false] rfl rfl (take_ofW HT_.out HW_.out (by kernel_rfl)) (fun _ _ _ h=>h) (Or.inl ⟨by rfl,?_⟩) hHeld ?_ ?_;rotate_left
                  · rintro w' ⟨s0,s1,s2,s3,s4,s5,s6⟩
                    go_simp
                    with_reducible rfl
                  rotate_left
                  · simp only [Act.put,sA_,sZ_,sS_,i64_w,i32_w]
                    rfl
                  refine one_ (i:=7) (N:=some 115) #[true,true,true,true,true,true,true,true,false,false,false] rfl rfl (one_of HT_.out (by kernel_rfl)) (by decide) (fun K hK=>?_);refine value_ (w1:=?_) (v:=?_) (by rfl) rfl ?_ ?_;rotate_left 2
                  · go_simp
                    constructor
                    · rfl
                    · rfl
                  refine hK.out _ _ ⟨(blk_cell (blk_alloc BK319.out _) 0).trans rfl,(blk_cell (blk_alloc BK319.out _) 1).trans rfl,(blk_cell (blk_alloc BK319.out _) 2).trans rfl,(blk_cell (blk_alloc BK314.out _) 0).trans rfl,(blk_cell (blk_alloc BK314.out _) 1).trans rfl,(blk_cell (blk_alloc BK314.out _) 2).trans rfl,(World.cell?_alloc_lt _ _ _ (bl_ _ _ (hHeld.2.2.2.2.2.2))).trans (hHeld.2.2.2.2.2.2)⟩ (fun hHeld=>?_);clear hK K;refine norm_ (a':=?_) ?_ ?_;rotate_left
                  · show Act.put _ (some 115) _ = _
                    simp only [Act.put,sA_,sZ_,sS_,i64_w,i32_w]
                    rfl
                  refine last_ (i:=8) (N:=some 116) #[true,true,true,true,true,true,true,true,true,false,false] rfl rfl (one_of HT_.out (by kernel_rfl)) (by decide) (fun K hK=>?_);refine Kd.N_append_step (Kd.slice 3 (Kd.int .i64)) (w0:=w) w.heap.size (by rfl) (.tmp 109) (.tmp 115) 53 23 (.slice none 0 0) 24 rfl Try.underlying53 info23 rfl (by decide) (by omega) u320001 x320001_3 (rd_L1 l0_1 x11_3) [.slice A337_0 (rd_L1 l0_1 x11_3).length c337_0] (fun k_=>((P0_0_ k_ ∨ P0_1_ k_ ∨ P0_2_ k_) ∨ w.heap.size ≤ k_) ∧ some k_ ≠ (u320000 : Value).ownBlock ∧ k_ ≠ gb314 ∧ k_ ≠ gb315 ∧ k_ ≠ gb319) (fun k_=>((fun k_=>((P0_0_ k_ ∨ P0_1_ k_ ∨ P0_2_ k_) ∨ w.heap.size ≤ k_) ∧ some k_ ≠ (u320000 : Value).ownBlock ∧ k_ ≠ gb314 ∧ k_ ≠ gb315 ∧ k_ ≠ gb319)) k_ ∧ some k_ ≠ (u320001 : Value).ownBlock) rfl rfl ?aP (fun _ hk=>hk) ?aF ?aO ?aB ?aS ?aL ?_
                  (case aP=>exact (Kd.FK_slice_mk (Kd.V_reads' (Kd.V_mono (ok':=(fun k_=>((fun k_=>((P0_0_ k_ ∨ P0_1_ k_ ∨ P0_2_ k_) ∨ w.heap.size ≤ k_) ∧ some k_ ≠ (u320000 : Value).ownBlock ∧ k_ ≠ gb314 ∧ k_ ≠ gb315 ∧ k_ ≠ gb319)) k_ ∧ some k_ ≠ (u320001 : Value).ownBlock)) (HL337_0.out) (fun k_ hk=>⟨⟨hk.1,⟨hk.2.1,⟨hk.2.2.2.1,⟨hk.2.2.2.2.1,hk.2.2.2.2.2⟩⟩⟩⟩,hk.2.2.1⟩))).2.1 (Kd.V_F (Kd.V_mono (ok':=(fun k_=>((fun k_=>((P0_0_ k_ ∨ P0_1_ k_ ∨ P0_2_ k_) ∨ w.heap.size ≤ k_) ∧ some k_ ≠ (u320000 : Value).ownBlock ∧ k_ ≠ gb314 ∧ k_ ≠ gb315 ∧ k_ ≠ gb319)) k_ ∧ some k_ ≠ (u320001 : Value).ownBlock)) (HL337_0.out) (fun k_ hk=>⟨⟨hk.1,⟨hk.2.1,⟨hk.2.2.2.1,⟨hk.2.2.2.2.1,hk.2.2.2.2.2⟩⟩⟩⟩,hk.2.2.1⟩)))))
                  (case aB=>exact (by repeat (first|(with_reducible first|exact HB.out|apply ba_|apply pN_|apply b1_|refine bs_ ?_ GE314.out|refine bs_ ?_ GE315.out|refine bs_ ?_ GE319.out)|exact HB.out)))
                  (case aF=>exact (fun k_ hk=>⟨(.inr (Nat.le_trans (below_size (by repeat (first|(with_reducible first|exact HB.out|apply ba_|apply pN_|apply b1_|refine bs_ ?_ GE314.out|refine bs_ ?_ GE315.out|refine bs_ ?_ GE319.out)|exact HB.out))) hk)),Kd.fresh' (Kd.R_lt (by (with_reducible repeat first|apply Ra_|apply Rn_|apply Rd_);exact HO_320000.out)) k_ hk,Kd.freshB (g:=gb314) (o:=.cells #[.slice A0_0 l0_0.length c0_0,.slice (some ad337) l0_1.length c0_1,.slice A0_2 l0_2.length c0_2] 55 (0,0)) (by (with_reducible repeat first|refine bN_ ?_ _|refine bD_ ?_|refine bA_ ?_ _);exact BK314.out) k_ hk,Kd.freshB (g:=gb315) (o:=.cells #[.slice none 0 0,.slice none 0 0,.slice none 0 0] 55 (0,0)) (by (with_reducible repeat first|refine bN_ ?_ _|refine bD_ ?_|refine bA_ ?_ _);exact BK315.out) k_ hk,Kd.freshB (g:=gb319) (o:=.cells #[u320000,u320001,.slice A0_2 l0_2.length c0_2] 55 (0,0)) (by (with_reducible repeat first|refine bN_ ?_ _|refine bD_ ?_|refine bA_ ?_ _);exact BK319.out) k_ hk⟩))
                  (case aO=>exact (by (with_reducible repeat first|apply Na_|apply Nn_|apply Nd_);exact HO_320001.out))
                  (case aS=>exact (below_size (by repeat (first|(with_reducible first|exact HB.out|apply ba_|apply pN_|apply b1_|refine bs_ ?_ GE314.out|refine bs_ ?_ GE315.out|refine bs_ ?_ GE319.out)|exact HB.out))))
                  (case aL=>have:=LMc66.out;omega)
                  intro v339 w71 ho hb hg hat
                  rw [← Ny338.out] at ho;have n0_:=A0_ (Kd.V_afterv (ok:=(fun k_=>((P0_0_ k_ ∨ P0_1_ k_ ∨ P0_2_ k_) ∨ w.heap.size ≤ k_) ∧ some k_ ≠ (u320000 : Value).ownBlock ∧ k_ ≠ gb314 ∧ k_ ≠ gb315 ∧ k_ ≠ gb319)) (by (with_reducible repeat first|apply Va_|apply Vn_|apply Vd_);exact Kd.V_mono HO_315000.out (fun _ hk=>⟨⟨hk.1,⟨hk.2.1,⟨hk.2.2.2.1,⟨hk.2.2.2.2.1,hk.2.2.2.2.2⟩⟩⟩⟩,hk.2.2.1⟩)) hg hat);have n1_:=A0_ (Kd.V_afterv (ok:=(fun k_=>((P0_0_ k_ ∨ P0_1_ k_ ∨ P0_2_ k_) ∨ w.heap.size ≤ k_) ∧ some k_ ≠ (u320000 : Value).ownBlock ∧ k_ ≠ gb314 ∧ k_ ≠ gb315 ∧ k_ ≠ gb319)) (by (with_reducible repeat first|apply Va_|apply Vn_|apply Vd_);exact Kd.V_mono HO_315001.out (fun _ hk=>⟨⟨hk.1,⟨hk.2.1,⟨hk.2.2.2.1,⟨hk.2.2.2.2.1,hk.2.2.2.2.2⟩⟩⟩⟩,hk.2.2.1⟩)) hg hat);have n2_:=A0_ (Kd.V_afterv (ok:=(fun k_=>((P0_0_ k_ ∨ P0_1_ k_ ∨ P0_2_ k_) ∨ w.heap.size ≤ k_) ∧ some k_ ≠ (u320000 : Value).ownBlock ∧ k_ ≠ gb314 ∧ k_ ≠ gb315 ∧ k_ ≠ gb319)) (by (with_reducible repeat first|apply Va_|apply Vn_|apply Vd_);exact Kd.V_mono HO_315002.out (fun _ hk=>⟨⟨hk.1,⟨hk.2.1,⟨hk.2.2.2.1,⟨hk.2.2.2.2.1,hk.2.2.2.2.2⟩⟩⟩⟩,hk.2.2.1⟩)) hg hat);have n3_:=A0_ (Kd.R_over' (by (with_reducible repeat first|apply Ra_|apply Rn_|apply Rd_);exact HO_320000.out) (Kd.N_typed (by (with_reducible repeat first|apply Na_|apply Nn_|apply Nd_);exact HO_320001.out)) (by decide) hg);have n4_:=A0_ (Kd.V_afterv (ok:=(fun k_=>((P0_0_ k_ ∨ P0_1_ k_ ∨ P0_2_ k_) ∨ w.heap.size ≤ k_) ∧ some k_ ≠ (u320000 : Value).ownBlock ∧ k_ ≠ gb314 ∧ k_ ≠ gb315 ∧ k_ ≠ gb319)) (by (with_reducible repeat first|apply Va_|apply Vn_|apply Vd_);exact Kd.V_mono HO_320002.out (fun _ hk=>⟨⟨hk.1,⟨hk.2.1,⟨hk.2.2.2.1,⟨hk.2.2.2.2.1,hk.2.2.2.2.2⟩⟩⟩⟩,hk.2.2.1⟩)) hg hat);have n5_:=A0_ (blk_grown (g:=gb314) (o:=.cells #[.slice A0_0 l0_0.length c0_0,.slice (some ad337) l0_1.length c0_1,.slice A0_2 l0_2.length c0_2] 55 (0,0)) (by (with_reducible repeat first|refine bN_ ?_ _|refine bD_ ?_|refine bA_ ?_ _);exact BK314.out) hg (Kd.N_ne HO_320001.out BK314.out (by decide)));have n6_:=A0_ (blk_grown (g:=gb315) (o:=.cells #[.slice none 0 0,.slice none 0 0,.slice none 0 0] 55 (0,0)) (by (with_reducible repeat first|refine bN_ ?_ _|refine bD_ ?_|refine bA_ ?_ _);exact BK315.out) hg (Kd.N_ne HO_320001.out BK315.out (by decide)));have n7_:=A0_ (blk_grown (g:=gb319) (o:=.cells #[u320000,u320001,.slice A0_2 l0_2.length c0_2] 55 (0,0)) (by (with_reducible repeat first|refine bN_ ?_ _|refine bD_ ?_|refine bA_ ?_ _);exact BK319.out) hg (Kd.N_ne HO_320001.out BK319.out (by decide)));have n8_:=A0_ (Kd.V_afterv (ok:=(fun k_=>((P0_0_ k_ ∨ P0_1_ k_ ∨ P0_2_ k_) ∨ w.heap.size ≤ k_) ∧ some k_ ≠ (u320000 : Value).ownBlock ∧ k_ ≠ gb314 ∧ k_ ≠ gb315 ∧ k_ ≠ gb319)) (by (with_reducible repeat first|apply Va_|apply Vn_|apply Vd_);exact Kd.V_mono HL337_0.out (fun _ hk=>⟨⟨hk.1,⟨hk.2.1,⟨hk.2.2.2.1,⟨hk.2.2.2.2.1,hk.2.2.2.2.2⟩⟩⟩⟩,hk.2.2.1⟩)) hg hat);have n9_:=A0_ (hb);have n10_:=A0_ (ho);clear HO_315000;clear HO_315001;clear HO_315002;clear HO_320000;clear HO_320002;clear BK314;clear BK315;clear BK319;clear HL337_0;clear HB;clear HO_320001;have HO_315000:=n0_;have HO_315001:=n1_;have HO_315002:=n2_;have HO_320000:=n3_;have HO_320002:=n4_;have BK314:=n5_;have BK315:=n6_;have BK319:=n7_;have HL337_0:=n8_;have HB:=n9_;have HO340:=n10_;clear n0_ n1_ n2_ n3_ n4_ n5_ n6_ n7_ n8_ n9_ n10_;clear ho hb hg hat;obtain ⟨Ao72,co72,eo72⟩:=Kd.N_slice HO340.out
                  (first|subst eo72|(injection eo72 with f1_ f2_ f3_;have f4_:=f1_.symm;have f5_:=f3_.symm;clear f1_ f2_ f3_;subst f4_;subst f5_))
                  refine hK.out _ _ ?_;clear hK K;refine norm_ (a':=?_) ?_ ?_;rotate_left
                  · show Act.put _ (some 116) _ = _
                    simp only [Act.put,sA_,sZ_,sS_,i64_w,i32_w]
                    rfl
                  refine pure_ (i:=9) (N:=some 117) (v:=?_) (a':=?_) #[true,true,true,true,true,true,true,true,true,true,false] rfl rfl (any_of HT_.out (by kernel_rfl)) (fun _ _ _ h=>h) (Or.inl ⟨by rfl,?_⟩) ?_ ?_;rotate_left
                  · intro w'
                    go_simp
                    with_reducible rfl
                  rotate_left
                  · simp only [Act.put,sA_,sZ_,sS_,i64_w,i32_w]
                    rfl
                  refine last_ (i:=10) (N:=none) #[true,true,true,true,true,true,true,true,true,true,true] rfl rfl (one_of HT_.out (by kernel_rfl)) (by decide) (fun K hK=>?_);have hs73 : w71.cell? ⟨gb319,1,none⟩ = some (u320001):=(blk_cell BK319.out 1).trans rfl;have hfs73:=blk_frozen BK319.out 1;have hns73_0:=NB314_319.out;have hns73_1:=NB315_319.out;have hms73_0:=NB319_314.out;have hms73_1:=NB319_315.out;refine skip_ (w1:=?_) (by rfl) rfl ?_ ?_;rotate_left
                  · go_simp
                    rfl
                  refine hK.out _ _ ?_;clear hK K;refine done_ (done_of HT_.out (by kernel_rfl)) ?_
                  try go_wp2
                  go_roundg k3
                  case measure=>have:=HJ3.out;have:=HK2.out;have:=HK3.out;omega
                  case rel=>exact ⟨(wrap64 (x11_3 + 1)),(y338),(.slice Ao72 y338.length co72),(by first|rfl|(simp;done)|(simp [*];done)),H',⟨by have:=HJ3.out;have:=HK2.out;have:=HK3.out;omega⟩,⟨by (with_reducible repeat first|apply Va_|apply Vn_|apply Vd_);exact Kd.V_mono (Kd.V_far (p:=⟨gb319,1,none⟩) (Kd.V_mono HO_315000.out (fun k_ hk=>(⟨hk,hk.1.2.2.2.2⟩ : _ ∧ k_ ≠ gb319))) (fun _ hk=>hk.2) (.slice Ao72 y338.length co72)) (fun _ hk=>⟨hk.1.1.1,⟨hk.1.1.2.1,⟨hk.1.2,⟨hk.1.1.2.2.1,⟨hk.1.1.2.2.2.1,hk.1.1.2.2.2.2⟩⟩⟩⟩⟩)⟩,⟨by (with_reducible repeat first|apply Va_|apply Vn_|apply Vd_);exact Kd.V_mono (Kd.V_far (p:=⟨gb319,1,none⟩) (Kd.V_mono HO_315001.out (fun k_ hk=>(⟨hk,hk.1.2.2.2.2⟩ : _ ∧ k_ ≠ gb319))) (fun _ hk=>hk.2) (.slice Ao72 y338.length co72)) (fun _ hk=>⟨hk.1.1.1,⟨hk.1.1.2.1,⟨hk.1.2,⟨hk.1.1.2.2.1,⟨hk.1.1.2.2.2.1,hk.1.1.2.2.2.2⟩⟩⟩⟩⟩)⟩,⟨by (with_reducible repeat first|apply Va_|apply Vn_|apply Vd_);exact Kd.V_mono (Kd.V_far (p:=⟨gb319,1,none⟩) (Kd.V_mono HO_315002.out (fun k_ hk=>(⟨hk,hk.1.2.2.2.2⟩ : _ ∧ k_ ≠ gb319))) (fun _ hk=>hk.2) (.slice Ao72 y338.length co72)) (fun _ hk=>⟨hk.1.1.1,⟨hk.1.1.2.1,⟨hk.1.2,⟨hk.1.1.2.2.1,⟨hk.1.1.2.2.2.1,hk.1.1.2.2.2.2⟩⟩⟩⟩⟩)⟩,⟨by (with_reducible repeat first|apply Ra_|apply Rn_|apply Rd_);exact Kd.R_mono (Kd.R_far (p:=⟨gb319,1,none⟩) (Kd.R_types HO_320000.out BK319.out (by decide)) (fun _ hk=>hk.2) (.slice Ao72 y338.length co72)) (fun _ hk=>hk.1)⟩,⟨by (with_reducible repeat first|apply Na_|apply Nn_|apply Nd_);exact Kd.N_mono (Kd.N_far (p:=⟨gb319,1,none⟩) (Kd.N_mono HO340.out (fun k_ hk=>(⟨hk,hk.2.2.2.2⟩ : _ ∧ k_ ≠ gb319))) (fun _ hk=>hk.2) (.slice Ao72 y338.length co72)) (fun _ hk=>⟨hk.1.1,⟨hk.1.2.1,⟨hk.1.2.2.1,⟨hk.1.2.2.2.1,hk.1.2.2.2.2⟩⟩⟩⟩)⟩,⟨by (with_reducible repeat first|apply Va_|apply Vn_|apply Vd_);exact Kd.V_mono (Kd.V_far (p:=⟨gb319,1,none⟩) (Kd.V_mono HO_320002.out (fun k_ hk=>(⟨hk,hk.1.2.2.2.2⟩ : _ ∧ k_ ≠ gb319))) (fun _ hk=>hk.2) (.slice Ao72 y338.length co72)) (fun _ hk=>⟨hk.1.1.1,⟨hk.1.1.2.1,⟨hk.1.2,⟨hk.1.1.2.2.1,⟨hk.1.1.2.2.2.1,hk.1.1.2.2.2.2⟩⟩⟩⟩⟩)⟩,⟨by (with_reducible repeat first|refine bN_ ?_ _|refine bD_ ?_|refine bA_ ?_ _);refine blk_far ?_ NB314_319.out _;(with_reducible repeat first|refine bN_ ?_ _|refine bD_ ?_|refine bA_ ?_ _);exact BK314.out⟩,⟨by (with_reducible repeat first|refine bN_ ?_ _|refine bD_ ?_|refine bA_ ?_ _);refine blk_far ?_ NB315_319.out _;(with_reducible repeat first|refine bN_ ?_ _|refine bD_ ?_|refine bA_ ?_ _);exact BK315.out⟩,⟨by (with_reducible repeat first|refine bN_ ?_ _|refine bD_ ?_|refine bA_ ?_ _);refine blk_put (cs:=#[u320000,u320001,.slice A0_2 l0_2.length c0_2]) ?_ 1 _ rfl;(with_reducible repeat first|refine bN_ ?_ _|refine bD_ ?_|refine bA_ ?_ _);exact BK319.out⟩,⟨by repeat (first|(with_reducible first|exact HB.out|apply ba_|apply pN_|apply b1_|refine bs_ ?_ GE314.out|refine bs_ ?_ GE315.out|refine bs_ ?_ GE319.out)|exact HB.out)⟩⟩
                rw [if_pos c52] at H;have c52b0 : (x11_3 == a1) = true:=beq_iff_eq.mpr c52;have c52b1 : (x11_3 != a1) = false:=bne_eq_false_iff_eq.mpr c52;clear c52;by_cases c53 : 0 ≤ x11_3;rotate_left
                · rw [if_neg c53] at H
                  exact absurd H (by simp)
                rw [if_pos c53] at H;have c53b0 : decide (0 ≤ x11_3) = true:=decide_eq_true c53;clear c53;replace H:=bm_ H;obtain ⟨t331,A540,H⟩:=H;replace H : (if x320001_3.length < 5864062014805 then (logjamref25_Given.l1 k3 a1 l2 (wrap64 (x11_3 + 1)) l0_0 l0_1 l0_2 x320000_2 (x320001_3 ++ [t331]) l0_2) else (none)) = some (r1,r2,r3,r4):=H;have A54:=A0_ A540;clear A540;by_cases c55 : x320001_3.length < 5864062014805;rotate_left
                · rw [if_neg c55] at H
                  exact absurd H (by simp)
                rw [if_pos c55] at H;have LMc55:=A0_ c55;clear c55;obtain ⟨y334,hy334⟩ : ∃ y_ : List (List Int),y_ = (x320001_3 ++ [t331]):=⟨_,rfl⟩;replace H : (logjamref25_Given.l1 k3 a1 l2 (wrap64 (x11_3 + 1)) l0_0 l0_1 l0_2 x320000_2 y334 l0_2) = some (r1,r2,r3,r4):=by first|(rw [hy334];with_reducible exact H)|(have H2_:=(Option.bind_some _ _).symm.trans H;rw [hy334];with_reducible exact H2_)|(have H2_:=(Option.bind_some _ _).symm.trans H;with_reducible exact H2_)|with_reducible exact H|(rw [hy334];exact H)|exact H
                have Ny334:=A0_ hy334;clear hy334;have H':=A0_ H;clear H;have hnb56:=NB314_315.out;have hnc56:=NB315_314.out;have hnb57:=NB314_319.out;have hnc57:=NB319_314.out;obtain ⟨hcz58_0,hcz58_1,hcz58_2,hfz58_0,hfz58_1,hfz58_2⟩:=cz3_ (w:=wr) BK314.out
                try go_wp2
                have n0_:=A0_ (Kd.V_drew HO_315000.out);have n1_:=A0_ (Kd.V_drew HO_315001.out);have n2_:=A0_ (Kd.V_drew HO_315002.out);have n3_:=A0_ (Kd.R_drew HO_320000.out);have n4_:=A0_ (Kd.N_drew HO_320001.out);have n5_:=A0_ (Kd.V_drew HO_320002.out);have n6_:=A0_ (blk_drew BK314.out);have n7_:=A0_ (blk_drew BK315.out);have n8_:=A0_ (blk_drew BK319.out);have n9_:=A0_ (b1_ HB.out);clear HO_315000;clear HO_315001;clear HO_315002;clear HO_320000;clear HO_320001;clear HO_320002;clear BK314;clear BK315;clear BK319;clear HB;have HO_315000:=n0_;have HO_315001:=n1_;have HO_315002:=n2_;have HO_320000:=n3_;have HO_320001:=n4_;have HO_320002:=n5_;have BK314:=n6_;have BK315:=n7_;have BK319:=n8_;have HB:=n9_;clear n0_ n1_ n2_ n3_ n4_ n5_ n6_ n7_ n8_ n9_;have p330 : 0 ≤ (x11_3 : Int):=of_decide_eq_true (by first|(with_reducible assumption)|assumption);have q330 : x11_3 < (l0_1.length : Int):=of_decide_eq_true (by first|(with_reducible assumption)|assumption);obtain ⟨ad330,A330_0,c330_0,e330,hx330_0,hl330_0,hi330_0⟩:=at_L1 (Kd.V_reads' HO_315001.out).2.2 x11_3 p330 q330;cases e330;obtain ⟨ce330,hce330,hMe330,hcc330⟩:=Kd.V_get HO_315001.out [] x11_3 p330 (by first|exact q330|exact of_decide_eq_true (by first|(with_reducible assumption)|assumption)|(have e_:=(Kd.V_reads' HO_315001.out).1;omega));obtain ⟨ua330_0,uc330_0,rfl,ul330_0,ge330_0⟩:=Kd.FK_slice_open hMe330;have hv330_0:=hcc330 0 _ rfl;rw [Nat.add_zero,show ((Kd.slice 3 (Kd.int .i64))).sz = 1 from rfl,Nat.mul_one] at hv330_0;replace hv330_0:=Option.some.inj (hv330_0.symm.trans hx330_0);injection hv330_0 with hva_ hvn_ hvc_
                rw [hva_] at ge330_0;rw [hvc_] at ul330_0;have HL330_0:=A0_ (show Kd.V (Kd.int .i64) 3 _ w.heap.size _ _ (rd_L1 l0_1 x11_3) from Kd.V_mk ul330_0 ge330_0);clear hva_ hvn_ hvc_ ge330_0 ul330_0;clear hcc330 hce330;have HR330_0:=A0_ hi330_0;have HC330_0:=A0_ hl330_0;clear hi330_0 hl330_0;replace p330:=eq_true p330;replace q330:=eq_true q330;refine start_ (n:=13) (S:=fun w'=>w'.cell? ⟨gb319,0,none⟩ = some (u320000) ∧ w'.cell? ⟨gb319,1,none⟩ = some (u320001) ∧ w'.cell? ⟨gb319,2,none⟩ = some (.slice A0_2 l0_2.length c0_2) ∧ w'.cell? ⟨gb314,0,none⟩ = some (.slice A0_0 l0_0.length c0_0) ∧ w'.cell? ⟨gb314,1,none⟩ = some (.slice (some ad330) l0_1.length c0_1) ∧ w'.cell? ⟨gb314,2,none⟩ = some (.slice A0_2 l0_2.length c0_2) ∧ w'.cell? (ad330.add (x11_3).toNat) = some (.slice A330_0 (rd_L1 l0_1 x11_3).length c330_0)) (ds:=[10,12]) #[false,false,false,false,false,false,false,false,false,false,false,false,false] (by kernel_rfl) rfl rfl ⟨(blk_cell BK319.out 0).trans rfl,(blk_cell BK319.out 1).trans rfl,(blk_cell BK319.out 2).trans rfl,(blk_cell BK314.out 0).trans rfl,(blk_cell BK314.out 1).trans rfl,(blk_cell BK314.out 2).trans rfl,hx330_0⟩ (fun hHeld=>?_);refine with_tabW logjamref25_Given.tab14 logjamref25_Given.bits14 (fun HT_ HW_=>?_)
                generalize wr.drew = w59 at HO_315000 HO_315001 HO_315002 HO_320000 HO_320001 HO_320002 BK314 BK315 BK319 HB HL330_0 HR330_0 hx330_0 hHeld ⊢
                refine pure_ (i:=0) (N:=some 96) (v:=?_) (a':=?_) #[true,false,false,false,false,false,false,false,false,false,false,false,false] rfl rfl (any_of HT_.out (by kernel_rfl)) (fun _ _ _ h=>h) (Or.inl ⟨by rfl,?_⟩) ?_ ?_;rotate_left
                · intro w'
                  go_simp
                  with_reducible rfl
                rotate_left
                · simp only [Act.put,sA_,sZ_,sS_,i64_w,i32_w]
                  rfl
                refine pure_ (i:=2) (N:=some 98) (v:=?_) (a':=?_) #[true,false,true,false,false,false,false,false,false,false,false,false,false] rfl rfl (any_of HT_.out (by kernel_rfl)) (fun _ _ _ h=>h) (Or.inl ⟨by rfl,?_⟩) ?_ ?_;rotate_left
                · intro w'
                  go_simp
                  with_reducible rfl
                rotate_left
                · simp only [Act.put,sA_,sZ_,sS_,i64_w,i32_w]
                  rfl
                refine pure_ (i:=4) (N:=some 100) (v:=?_) (a':=?_) #[true,false,true,false,true,false,false,false,false,false,false,false,false] rfl rfl (any_of HT_.out (by kernel_rfl)) (fun _ _ _ h=>h) (Or.inl ⟨by rfl,?_⟩) ?_ ?_;rotate_left
                · intro w'
                  go_simp
                  with_reducible rfl
                rotate_left
                · simp only [Act.put,sA_,sZ_,sS_,i64_w,i32_w]
                  rfl
                refine pure_ (i:=7) (N:=some 103) (v:=?_) (a':=?_) #[true,false,true,false,true,false,false,true,false,false,false,false,false] rfl rfl (any_of HT_.out (by kernel_rfl)) (fun _ _ _ h=>h) (Or.inl ⟨by rfl,?_⟩) ?_ ?_;rotate_left
                · intro w'
                  go_simp
                  with_reducible rfl
                rotate_left
                · simp only [Act.put,sA_,sZ_,sS_,i64_w,i32_w]
                  rfl
                refine take_ (i:=1) (N:=some 97) (v:=?_) (a':=?_) #[true,true,true,false,true,false,false,true,false,false,false,false,false] rfl rfl (take_ofW HT_.out HW_.out (by kernel_rfl)) (fun _ _ _ h=>h) (Or.inl ⟨by rfl,?_⟩) hHeld ?_ ?_;rotate_left
                · rintro w' ⟨s0,s1,s2,s3,s4,s5,s6⟩
                  go_simp
                  with_reducible rfl
                rotate_left
                · simp only [Act.put,sA_,sZ_,sS_,i64_w,i32_w]
                  rfl
                refine take_ (i:=3) (N:=some 99) (v:=?_) (a':=?_) #[true,true,true,true,true,false,false,true,false,false,false,false,false] rfl rfl (take_ofW HT_.out HW_.out (by kernel_rfl)) (fun _ _ _ h=>h) (Or.inl ⟨by rfl,?_⟩) hHeld ?_ ?_;rotate_left
                · rintro w' ⟨s0,s1,s2,s3,s4,s5,s6⟩
                  go_simp
                  with_reducible rfl
                rotate_left
                · simp only [Act.put,sA_,sZ_,sS_,i64_w,i32_w]
                  rfl
                refine pure_ (i:=5) (N:=some 101) (v:=?_) (a':=?_) #[true,true,true,true,true,true,false,true,false,false,false,false,false] rfl rfl (any_of HT_.out (by kernel_rfl)) (fun _ _ _ h=>h) (Or.inl ⟨by rfl,?_⟩) ?_ ?_;rotate_left
                · intro w'
                  go_simp
                  with_reducible rfl
                rotate_left
                · simp only [Act.put,sA_,sZ_,sS_,i64_w,i32_w]
                  rfl
                refine take_ (i:=6) (N:=some 102) (v:=?_) (a':=?_) #[true,true,true,true,true,true,true,true,false,false,false,false,false] rfl rfl (take_ofW HT_.out HW_.out (by kernel_rfl)) (fun _ _ _ h=>h) (Or.inl ⟨by rfl,?_⟩) hHeld ?_ ?_;rotate_left
                · rintro w' ⟨s0,s1,s2,s3,s4,s5,s6⟩
                  go_simp
                  with_reducible rfl
                rotate_left
                · simp only [Act.put,sA_,sZ_,sS_,i64_w,i32_w]
                  rfl
                refine one_ (i:=8) (N:=some 104) #[true,true,true,true,true,true,true,true,true,false,false,false,false] rfl rfl (one_of HT_.out (by kernel_rfl)) (by decide) (fun K hK=>?_);refine goes_ Try.func52 (by kernel_rfl) rfl #[.slice A330_0 (rd_L1 l0_1 x11_3).length c330_0,.slice A2 l2.length c2] (by rfl) rfl rfl (by first|(simp only [List.map_toArray,List.map_cons,List.map_nil] <;> rfl)|rfl|(simp only [List.length_drop,List.length_take];rfl)) ?_
                with_reducible refine (logjamref25_sum.calls k3 _ _ (rd_L1 l0_1 x11_3) _ _ l2 t331 _ ?side1 ?side2 ?side3 ?side4 A54.out).mono ?_
                (case side1=>repeat (first|exact (by repeat (first|(with_reducible exact HR330_0.out)|(with_reducible first|refine Ca_ ?_ _|refine Cn_ ?_ _|refine Cd_ ?_)|exact HR330_0.out))|(with_reducible first|refine Ca_ ?_ _|refine Cn_ ?_ _|refine Cd_ ?_)))
                (case side2=>exact HC330_0.out)
                (case side3=>repeat (first|exact (Kd.C_below HR2.out HB.out)|(with_reducible first|refine Ca_ ?_ _|refine Cn_ ?_ _|refine Cd_ ?_)))
                (case side4=>exact HC2.out)
                rintro e w60 ⟨v332,rfl,ho0,hb⟩
                have HS6_:=(hb.cell (bl_ _ _ (hHeld.2.2.2.2.2.2))).trans (hHeld.2.2.2.2.2.2);refine ⟨_,rfl,?_⟩;have n0_:=A0_ (Kd.V_elder' (by (with_reducible repeat first|apply Va_|apply Vn_|apply Vd_);exact HO_315000.out) (Kd.R_base ho0) hb);have n1_:=A0_ (Kd.V_elder' (by (with_reducible repeat first|apply Va_|apply Vn_|apply Vd_);exact HO_315001.out) (Kd.R_base ho0) hb);have n2_:=A0_ (Kd.V_elder' (by (with_reducible repeat first|apply Va_|apply Vn_|apply Vd_);exact HO_315002.out) (Kd.R_base ho0) hb);have n3_:=A0_ (Kd.R_elder' (by (with_reducible repeat first|apply Ra_|apply Rn_|apply Rd_);exact HO_320000.out) (Kd.R_base ho0) hb);have n4_:=A0_ (Kd.N_elder' (by (with_reducible repeat first|apply Na_|apply Nn_|apply Nd_);exact HO_320001.out) (Kd.R_base ho0) hb);have n5_:=A0_ (Kd.V_elder' (by (with_reducible repeat first|apply Va_|apply Vn_|apply Vd_);exact HO_320002.out) (Kd.R_base ho0) hb);have n6_:=A0_ (Kd.V_elder' (by (with_reducible repeat first|apply Va_|apply Vn_|apply Vd_);exact HL330_0.out) (Kd.R_base ho0) hb);have n7_:=A0_ (Kd.R_lower (Kd.R_new' (Kd.R_newM (M:=fun k_=>(w.heap.size ≤ k_)) ho0 (below_size (by repeat (first|(with_reducible first|exact HB.out|apply ba_|apply pN_|apply b1_|refine bs_ ?_ GE314.out|refine bs_ ?_ GE315.out|refine bs_ ?_ GE319.out)|exact HB.out))) (fun k_ h_=>h_)) (Kd.R_lt (by (with_reducible repeat first|apply Ra_|apply Rn_|apply Rd_);exact HO_320000.out))) (below_size (by repeat (first|(with_reducible first|exact HB.out|apply ba_|apply pN_|apply b1_|refine bs_ ?_ GE314.out|refine bs_ ?_ GE315.out|refine bs_ ?_ GE319.out)|exact HB.out))));have n8_:=A0_ (blk_below (g:=gb314) (o:=.cells #[.slice A0_0 l0_0.length c0_0,.slice (some ad330) l0_1.length c0_1,.slice A0_2 l0_2.length c0_2] 55 (0,0)) (by (with_reducible repeat first|refine bN_ ?_ _|refine bD_ ?_|refine bA_ ?_ _);exact BK314.out) hb);have n9_:=A0_ (blk_below (g:=gb315) (o:=.cells #[.slice none 0 0,.slice none 0 0,.slice none 0 0] 55 (0,0)) (by (with_reducible repeat first|refine bN_ ?_ _|refine bD_ ?_|refine bA_ ?_ _);exact BK315.out) hb);have n10_:=A0_ (blk_below (g:=gb319) (o:=.cells #[u320000,u320001,.slice A0_2 l0_2.length c0_2] 55 (0,0)) (by (with_reducible repeat first|refine bN_ ?_ _|refine bD_ ?_|refine bA_ ?_ _);exact BK319.out) hb);have n11_:=A0_ (Kd.C_below (by repeat (first|(with_reducible exact HR330_0.out)|(with_reducible first|refine Ca_ ?_ _|refine Cn_ ?_ _|refine Cd_ ?_)|exact HR330_0.out)) hb);have n12_:=A0_ (below_step (by repeat (first|(with_reducible first|exact HB.out|apply ba_|apply pN_|apply b1_|refine bs_ ?_ GE314.out|refine bs_ ?_ GE315.out|refine bs_ ?_ GE319.out)|exact HB.out)) hb);clear HO_315000;clear HO_315001;clear HO_315002;clear HO_320000;clear HO_320001;clear HO_320002;clear HL330_0;clear BK314;clear BK315;clear BK319;clear HR330_0;clear HB;have HO_315000:=n0_;have HO_315001:=n1_;have HO_315002:=n2_;have HO_320000:=n3_;have HO_320001:=n4_;have HO_320002:=n5_;have HL330_0:=n6_;have HO333:=n7_;have BK314:=n8_;have BK315:=n9_;have BK319:=n10_;have HR330_0:=n11_;have HB:=n12_;clear n0_ n1_ n2_ n3_ n4_ n5_ n6_ n7_ n8_ n9_ n10_ n11_ n12_;(try clear hb);(try clear hb2);(try clear hk);(try clear hi);(try clear ho0);obtain ⟨Ao62,co62,eo62⟩:=Kd.R_slice HO333.out
                (first|subst eo62|(injection eo62 with f1_ f2_ f3_;have f4_:=f1_.symm;have f5_:=f3_.symm;clear f1_ f2_ f3_;subst f4_;subst f5_))
                refine hK.out _ _ ⟨(blk_cell BK319.out 0).trans rfl,(blk_cell BK319.out 1).trans rfl,(blk_cell BK319.out 2).trans rfl,(blk_cell BK314.out 0).trans rfl,(blk_cell BK314.out 1).trans rfl,(blk_cell BK314.out 2).trans rfl,HS6_⟩ (fun hHeld=>?_);clear hK K;refine norm_ (a':=?_) ?_ ?_;rotate_left
                · show Act.put _ (some 104) _ = _
                  simp only [Act.put,sA_,sZ_,sS_,i64_w,i32_w]
                  rfl
                refine one_ (i:=9) (N:=some 105) #[true,true,true,true,true,true,true,true,true,true,false,false,false] rfl rfl (one_of HT_.out (by kernel_rfl)) (by decide) (fun K hK=>?_);refine value_ (w1:=?_) (v:=?_) (by rfl) rfl ?_ ?_;rotate_left 2
                · go_simp
                  constructor
                  · rfl
                  · rfl
                refine hK.out _ _ ⟨(blk_cell (blk_alloc BK319.out _) 0).trans rfl,(blk_cell (blk_alloc BK319.out _) 1).trans rfl,(blk_cell (blk_alloc BK319.out _) 2).trans rfl,(blk_cell (blk_alloc BK314.out _) 0).trans rfl,(blk_cell (blk_alloc BK314.out _) 1).trans rfl,(blk_cell (blk_alloc BK314.out _) 2).trans rfl,(World.cell?_alloc_lt _ _ _ (bl_ _ _ (hHeld.2.2.2.2.2.2))).trans (hHeld.2.2.2.2.2.2)⟩ (fun hHeld=>?_);clear hK K;refine norm_ (a':=?_) ?_ ?_;rotate_left
                · show Act.put _ (some 105) _ = _
                  simp only [Act.put,sA_,sZ_,sS_,i64_w,i32_w]
                  rfl
                refine last_ (i:=10) (N:=some 106) #[true,true,true,true,true,true,true,true,true,true,true,false,false] rfl rfl (one_of HT_.out (by kernel_rfl)) (by decide) (fun K hK=>?_);refine Kd.N_append_step (Kd.slice 3 (Kd.int .i64)) (w0:=w) w.heap.size (by rfl) (.tmp 97) (.tmp 105) 53 23 (.slice none 0 0) 24 rfl Try.underlying53 info23 rfl (by decide) (by omega) u320001 x320001_3 t331 [.slice Ao62 t331.length co62] (fun k_=>((P0_0_ k_ ∨ P0_1_ k_ ∨ P0_2_ k_) ∨ w.heap.size ≤ k_) ∧ some k_ ≠ (u320000 : Value).ownBlock ∧ k_ ≠ gb314 ∧ k_ ≠ gb315 ∧ k_ ≠ gb319) (fun k_=>((fun k_=>((P0_0_ k_ ∨ P0_1_ k_ ∨ P0_2_ k_) ∨ w.heap.size ≤ k_) ∧ some k_ ≠ (u320000 : Value).ownBlock ∧ k_ ≠ gb314 ∧ k_ ≠ gb315 ∧ k_ ≠ gb319)) k_ ∧ some k_ ≠ (u320001 : Value).ownBlock) rfl rfl ?aP (fun _ hk=>hk) ?aF ?aO ?aB ?aS ?aL ?_
                (case aP=>exact (Kd.FK_slice_mk (Kd.R_reads' (Kd.R_mono (ok':=(fun k_=>((fun k_=>((P0_0_ k_ ∨ P0_1_ k_ ∨ P0_2_ k_) ∨ w.heap.size ≤ k_) ∧ some k_ ≠ (u320000 : Value).ownBlock ∧ k_ ≠ gb314 ∧ k_ ≠ gb315 ∧ k_ ≠ gb319)) k_ ∧ some k_ ≠ (u320001 : Value).ownBlock)) (Kd.R_types (Kd.R_types (Kd.R_types (Kd.R_apart' (HO333.out) (Kd.N_typed HO_320001.out) (by decide)) BK314.out (by decide)) BK315.out (by decide)) BK319.out (by decide)) (fun k_ hk=>⟨⟨(.inr (hk.1.1.1.1.1.1)),⟨hk.1.1.1.1.2,⟨hk.1.1.2,⟨hk.1.2,hk.2⟩⟩⟩⟩,hk.1.1.1.2⟩))).2.1 (Kd.R_F (Kd.R_mono (ok':=(fun k_=>((fun k_=>((P0_0_ k_ ∨ P0_1_ k_ ∨ P0_2_ k_) ∨ w.heap.size ≤ k_) ∧ some k_ ≠ (u320000 : Value).ownBlock ∧ k_ ≠ gb314 ∧ k_ ≠ gb315 ∧ k_ ≠ gb319)) k_ ∧ some k_ ≠ (u320001 : Value).ownBlock)) (Kd.R_types (Kd.R_types (Kd.R_types (Kd.R_apart' (HO333.out) (Kd.N_typed HO_320001.out) (by decide)) BK314.out (by decide)) BK315.out (by decide)) BK319.out (by decide)) (fun k_ hk=>⟨⟨(.inr (hk.1.1.1.1.1.1)),⟨hk.1.1.1.1.2,⟨hk.1.1.2,⟨hk.1.2,hk.2⟩⟩⟩⟩,hk.1.1.1.2⟩)))))
                (case aB=>exact (by repeat (first|(with_reducible first|exact HB.out|apply ba_|apply pN_|apply b1_|refine bs_ ?_ GE314.out|refine bs_ ?_ GE315.out|refine bs_ ?_ GE319.out)|exact HB.out)))
                (case aF=>exact (fun k_ hk=>⟨(.inr (Nat.le_trans (below_size (by repeat (first|(with_reducible first|exact HB.out|apply ba_|apply pN_|apply b1_|refine bs_ ?_ GE314.out|refine bs_ ?_ GE315.out|refine bs_ ?_ GE319.out)|exact HB.out))) hk)),Kd.fresh' (Kd.R_lt (by (with_reducible repeat first|apply Ra_|apply Rn_|apply Rd_);exact HO_320000.out)) k_ hk,Kd.freshB (g:=gb314) (o:=.cells #[.slice A0_0 l0_0.length c0_0,.slice (some ad330) l0_1.length c0_1,.slice A0_2 l0_2.length c0_2] 55 (0,0)) (by (with_reducible repeat first|refine bN_ ?_ _|refine bD_ ?_|refine bA_ ?_ _);exact BK314.out) k_ hk,Kd.freshB (g:=gb315) (o:=.cells #[.slice none 0 0,.slice none 0 0,.slice none 0 0] 55 (0,0)) (by (with_reducible repeat first|refine bN_ ?_ _|refine bD_ ?_|refine bA_ ?_ _);exact BK315.out) k_ hk,Kd.freshB (g:=gb319) (o:=.cells #[u320000,u320001,.slice A0_2 l0_2.length c0_2] 55 (0,0)) (by (with_reducible repeat first|refine bN_ ?_ _|refine bD_ ?_|refine bA_ ?_ _);exact BK319.out) k_ hk⟩))
                (case aO=>exact (by (with_reducible repeat first|apply Na_|apply Nn_|apply Nd_);exact Kd.N_mono HO_320001.out (fun _ hk=>⟨hk.1.1,⟨hk.1.2.1,⟨hk.1.2.2.1,⟨hk.1.2.2.2.1,hk.1.2.2.2.2⟩⟩⟩⟩)))
                (case aS=>exact (below_size (by repeat (first|(with_reducible first|exact HB.out|apply ba_|apply pN_|apply b1_|refine bs_ ?_ GE314.out|refine bs_ ?_ GE315.out|refine bs_ ?_ GE319.out)|exact HB.out))))
                (case aL=>have:=LMc55.out;omega)
                intro v335 w61 ho hb hg hat
                rw [← Ny334.out] at ho;have n0_:=A0_ (Kd.V_afterv (ok:=(fun k_=>((P0_0_ k_ ∨ P0_1_ k_ ∨ P0_2_ k_) ∨ w.heap.size ≤ k_) ∧ some k_ ≠ (u320000 : Value).ownBlock ∧ some k_ ≠ (.slice Ao62 t331.length co62 : Value).ownBlock ∧ k_ ≠ gb314 ∧ k_ ≠ gb315 ∧ k_ ≠ gb319)) (by (with_reducible repeat first|apply Va_|apply Vn_|apply Vd_);exact Kd.V_mono HO_315000.out (fun _ hk=>⟨⟨hk.1.1,⟨hk.1.2.1,⟨hk.2,⟨hk.1.2.2.2.1,⟨hk.1.2.2.2.2.1,hk.1.2.2.2.2.2⟩⟩⟩⟩⟩,hk.1.2.2.1⟩)) hg hat);have n1_:=A0_ (Kd.V_afterv (ok:=(fun k_=>((P0_0_ k_ ∨ P0_1_ k_ ∨ P0_2_ k_) ∨ w.heap.size ≤ k_) ∧ some k_ ≠ (u320000 : Value).ownBlock ∧ some k_ ≠ (.slice Ao62 t331.length co62 : Value).ownBlock ∧ k_ ≠ gb314 ∧ k_ ≠ gb315 ∧ k_ ≠ gb319)) (by (with_reducible repeat first|apply Va_|apply Vn_|apply Vd_);exact Kd.V_mono HO_315001.out (fun _ hk=>⟨⟨hk.1.1,⟨hk.1.2.1,⟨hk.2,⟨hk.1.2.2.2.1,⟨hk.1.2.2.2.2.1,hk.1.2.2.2.2.2⟩⟩⟩⟩⟩,hk.1.2.2.1⟩)) hg hat);have n2_:=A0_ (Kd.V_afterv (ok:=(fun k_=>((P0_0_ k_ ∨ P0_1_ k_ ∨ P0_2_ k_) ∨ w.heap.size ≤ k_) ∧ some k_ ≠ (u320000 : Value).ownBlock ∧ some k_ ≠ (.slice Ao62 t331.length co62 : Value).ownBlock ∧ k_ ≠ gb314 ∧ k_ ≠ gb315 ∧ k_ ≠ gb319)) (by (with_reducible repeat first|apply Va_|apply Vn_|apply Vd_);exact Kd.V_mono HO_315002.out (fun _ hk=>⟨⟨hk.1.1,⟨hk.1.2.1,⟨hk.2,⟨hk.1.2.2.2.1,⟨hk.1.2.2.2.2.1,hk.1.2.2.2.2.2⟩⟩⟩⟩⟩,hk.1.2.2.1⟩)) hg hat);have n3_:=A0_ (Kd.R_over' (by (with_reducible repeat first|apply Ra_|apply Rn_|apply Rd_);exact HO_320000.out) (Kd.N_typed (by (with_reducible repeat first|apply Na_|apply Nn_|apply Nd_);exact HO_320001.out)) (by decide) hg);have n4_:=A0_ (Kd.V_afterv (ok:=(fun k_=>((P0_0_ k_ ∨ P0_1_ k_ ∨ P0_2_ k_) ∨ w.heap.size ≤ k_) ∧ some k_ ≠ (u320000 : Value).ownBlock ∧ some k_ ≠ (.slice Ao62 t331.length co62 : Value).ownBlock ∧ k_ ≠ gb314 ∧ k_ ≠ gb315 ∧ k_ ≠ gb319)) (by (with_reducible repeat first|apply Va_|apply Vn_|apply Vd_);exact Kd.V_mono HO_320002.out (fun _ hk=>⟨⟨hk.1.1,⟨hk.1.2.1,⟨hk.2,⟨hk.1.2.2.2.1,⟨hk.1.2.2.2.2.1,hk.1.2.2.2.2.2⟩⟩⟩⟩⟩,hk.1.2.2.1⟩)) hg hat);have n5_:=A0_ (blk_grown (g:=gb314) (o:=.cells #[.slice A0_0 l0_0.length c0_0,.slice (some ad330) l0_1.length c0_1,.slice A0_2 l0_2.length c0_2] 55 (0,0)) (by (with_reducible repeat first|refine bN_ ?_ _|refine bD_ ?_|refine bA_ ?_ _);exact BK314.out) hg (Kd.N_ne HO_320001.out BK314.out (by decide)));have n6_:=A0_ (blk_grown (g:=gb315) (o:=.cells #[.slice none 0 0,.slice none 0 0,.slice none 0 0] 55 (0,0)) (by (with_reducible repeat first|refine bN_ ?_ _|refine bD_ ?_|refine bA_ ?_ _);exact BK315.out) hg (Kd.N_ne HO_320001.out BK315.out (by decide)));have n7_:=A0_ (blk_grown (g:=gb319) (o:=.cells #[u320000,u320001,.slice A0_2 l0_2.length c0_2] 55 (0,0)) (by (with_reducible repeat first|refine bN_ ?_ _|refine bD_ ?_|refine bA_ ?_ _);exact BK319.out) hg (Kd.N_ne HO_320001.out BK319.out (by decide)));have n8_:=A0_ (Kd.V_afterv (ok:=(fun k_=>((P0_0_ k_ ∨ P0_1_ k_ ∨ P0_2_ k_) ∨ w.heap.size ≤ k_) ∧ some k_ ≠ (u320000 : Value).ownBlock ∧ some k_ ≠ (.slice Ao62 t331.length co62 : Value).ownBlock ∧ k_ ≠ gb314 ∧ k_ ≠ gb315 ∧ k_ ≠ gb319)) (by (with_reducible repeat first|apply Va_|apply Vn_|apply Vd_);exact Kd.V_mono HL330_0.out (fun _ hk=>⟨⟨hk.1.1,⟨hk.1.2.1,⟨hk.2,⟨hk.1.2.2.2.1,⟨hk.1.2.2.2.2.1,hk.1.2.2.2.2.2⟩⟩⟩⟩⟩,hk.1.2.2.1⟩)) hg hat);have n9_:=A0_ (hb);have n10_:=A0_ (ho);clear HO_315000;clear HO_315001;clear HO_315002;clear HO_320000;clear HO_320002;clear BK314;clear BK315;clear BK319;clear HL330_0;clear HB;clear HO_320001;clear HO333;have HO_315000:=n0_;have HO_315001:=n1_;have HO_315002:=n2_;have HO_320000:=n3_;have HO_320002:=n4_;have BK314:=n5_;have BK315:=n6_;have BK319:=n7_;have HL330_0:=n8_;have HB:=n9_;have HO336:=n10_;clear n0_ n1_ n2_ n3_ n4_ n5_ n6_ n7_ n8_ n9_ n10_;clear ho hb hg hat;obtain ⟨Ao63,co63,eo63⟩:=Kd.N_slice HO336.out
                (first|subst eo63|(injection eo63 with f1_ f2_ f3_;have f4_:=f1_.symm;have f5_:=f3_.symm;clear f1_ f2_ f3_;subst f4_;subst f5_))
                refine hK.out _ _ ?_;clear hK K;refine norm_ (a':=?_) ?_ ?_;rotate_left
                · show Act.put _ (some 106) _ = _
                  simp only [Act.put,sA_,sZ_,sS_,i64_w,i32_w]
                  rfl
                refine pure_ (i:=11) (N:=some 107) (v:=?_) (a':=?_) #[true,true,true,true,true,true,true,true,true,true,true,true,false] rfl rfl (any_of HT_.out (by kernel_rfl)) (fun _ _ _ h=>h) (Or.inl ⟨by rfl,?_⟩) ?_ ?_;rotate_left
                · intro w'
                  go_simp
                  with_reducible rfl
                rotate_left
                · simp only [Act.put,sA_,sZ_,sS_,i64_w,i32_w]
                  rfl
                refine last_ (i:=12) (N:=none) #[true,true,true,true,true,true,true,true,true,true,true,true,true] rfl rfl (one_of HT_.out (by kernel_rfl)) (by decide) (fun K hK=>?_);have hs64 : w61.cell? ⟨gb319,1,none⟩ = some (u320001):=(blk_cell BK319.out 1).trans rfl;have hfs64:=blk_frozen BK319.out 1;have hns64_0:=NB314_319.out;have hns64_1:=NB315_319.out;have hms64_0:=NB319_314.out;have hms64_1:=NB319_315.out;refine skip_ (w1:=?_) (by rfl) rfl ?_ ?_;rotate_left
                · go_simp
                  rfl
                refine hK.out _ _ ?_;clear hK K;refine done_ (done_of HT_.out (by kernel_rfl)) ?_
                try go_wp2
                go_roundg k3
                case measure=>have:=HJ3.out;have:=HK2.out;have:=HK3.out;omega
                case rel=>exact ⟨(wrap64 (x11_3 + 1)),(y334),(.slice Ao63 y334.length co63),(by first|rfl|(simp;done)|(simp [*];done)),H',⟨by have:=HJ3.out;have:=HK2.out;have:=HK3.out;omega⟩,⟨by (with_reducible repeat first|apply Va_|apply Vn_|apply Vd_);exact Kd.V_mono (Kd.V_far (p:=⟨gb319,1,none⟩) (Kd.V_mono HO_315000.out (fun k_ hk=>(⟨hk,hk.1.2.2.2.2.2⟩ : _ ∧ k_ ≠ gb319))) (fun _ hk=>hk.2) (.slice Ao63 y334.length co63)) (fun _ hk=>⟨hk.1.1.1,⟨hk.1.1.2.1,⟨hk.1.2,⟨hk.1.1.2.2.2.1,⟨hk.1.1.2.2.2.2.1,hk.1.1.2.2.2.2.2⟩⟩⟩⟩⟩)⟩,⟨by (with_reducible repeat first|apply Va_|apply Vn_|apply Vd_);exact Kd.V_mono (Kd.V_far (p:=⟨gb319,1,none⟩) (Kd.V_mono HO_315001.out (fun k_ hk=>(⟨hk,hk.1.2.2.2.2.2⟩ : _ ∧ k_ ≠ gb319))) (fun _ hk=>hk.2) (.slice Ao63 y334.length co63)) (fun _ hk=>⟨hk.1.1.1,⟨hk.1.1.2.1,⟨hk.1.2,⟨hk.1.1.2.2.2.1,⟨hk.1.1.2.2.2.2.1,hk.1.1.2.2.2.2.2⟩⟩⟩⟩⟩)⟩,⟨by (with_reducible repeat first|apply Va_|apply Vn_|apply Vd_);exact Kd.V_mono (Kd.V_far (p:=⟨gb319,1,none⟩) (Kd.V_mono HO_315002.out (fun k_ hk=>(⟨hk,hk.1.2.2.2.2.2⟩ : _ ∧ k_ ≠ gb319))) (fun _ hk=>hk.2) (.slice Ao63 y334.length co63)) (fun _ hk=>⟨hk.1.1.1,⟨hk.1.1.2.1,⟨hk.1.2,⟨hk.1.1.2.2.2.1,⟨hk.1.1.2.2.2.2.1,hk.1.1.2.2.2.2.2⟩⟩⟩⟩⟩)⟩,⟨by (with_reducible repeat first|apply Ra_|apply Rn_|apply Rd_);exact Kd.R_mono (Kd.R_far (p:=⟨gb319,1,none⟩) (Kd.R_types HO_320000.out BK319.out (by decide)) (fun _ hk=>hk.2) (.slice Ao63 y334.length co63)) (fun _ hk=>hk.1.1)⟩,⟨by (with_reducible repeat first|apply Na_|apply Nn_|apply Nd_);exact Kd.N_mono (Kd.N_far (p:=⟨gb319,1,none⟩) (Kd.N_mono HO336.out (fun k_ hk=>(⟨hk,hk.2.2.2.2⟩ : _ ∧ k_ ≠ gb319))) (fun _ hk=>hk.2) (.slice Ao63 y334.length co63)) (fun _ hk=>⟨hk.1.1,⟨hk.1.2.1,⟨hk.1.2.2.1,⟨hk.1.2.2.2.1,hk.1.2.2.2.2⟩⟩⟩⟩)⟩,⟨by (with_reducible repeat first|apply Va_|apply Vn_|apply Vd_);exact Kd.V_mono (Kd.V_far (p:=⟨gb319,1,none⟩) (Kd.V_mono HO_320002.out (fun k_ hk=>(⟨hk,hk.1.2.2.2.2.2⟩ : _ ∧ k_ ≠ gb319))) (fun _ hk=>hk.2) (.slice Ao63 y334.length co63)) (fun _ hk=>⟨hk.1.1.1,⟨hk.1.1.2.1,⟨hk.1.2,⟨hk.1.1.2.2.2.1,⟨hk.1.1.2.2.2.2.1,hk.1.1.2.2.2.2.2⟩⟩⟩⟩⟩)⟩,⟨by (with_reducible repeat first|refine bN_ ?_ _|refine bD_ ?_|refine bA_ ?_ _);refine blk_far ?_ NB314_319.out _;(with_reducible repeat first|refine bN_ ?_ _|refine bD_ ?_|refine bA_ ?_ _);exact BK314.out⟩,⟨by (with_reducible repeat first|refine bN_ ?_ _|refine bD_ ?_|refine bA_ ?_ _);refine blk_far ?_ NB315_319.out _;(with_reducible repeat first|refine bN_ ?_ _|refine bD_ ?_|refine bA_ ?_ _);exact BK315.out⟩,⟨by (with_reducible repeat first|refine bN_ ?_ _|refine bD_ ?_|refine bA_ ?_ _);refine blk_put (cs:=#[u320000,u320001,.slice A0_2 l0_2.length c0_2]) ?_ 1 _ rfl;(with_reducible repeat first|refine bN_ ?_ _|refine bD_ ?_|refine bA_ ?_ _);exact BK319.out⟩,⟨by repeat (first|(with_reducible first|exact HB.out|apply ba_|apply pN_|apply b1_|refine bs_ ?_ GE314.out|refine bs_ ?_ GE315.out|refine bs_ ?_ GE319.out)|exact HB.out)⟩⟩
          rw [if_pos c25] at H;have c25b0 : decide (x10_2 < (l2.length : Int)) = true:=decide_eq_true c25;clear c25;have HC26:=A0_ H;clear H
          go_upto_region 7 with (fail)
          go_cut [69] (fun v69 wc=>∃ (kq : Nat) (x69_25 : Bool),v69 = .bool x69_25 ∧ Aside0 (logjamref25_Given.j2 kq a1 l2 t316 x10_2 x69_25 l0_0 l0_1 l0_2 x320000_2 l0_2 = some (r1,r2,r3,r4)) ∧ Aside0 (kq ≤ k2) ∧ Aside0 (Kd.R (Kd.int .i64) 3 wc w.heap.size (fun k_=>(w.heap.size ≤ k_) ∧ some k_ ≠ (u320000 : Value).ownBlock) v317 t316) ∧ Aside0 (Kd.V (Kd.int .i64) 3 wc w.heap.size (fun k_=>((P0_0_ k_ ∨ P0_1_ k_ ∨ P0_2_ k_) ∨ w.heap.size ≤ k_) ∧ some k_ ≠ (v317 : Value).ownBlock ∧ some k_ ≠ (u320000 : Value).ownBlock ∧ k_ ≠ gb314 ∧ k_ ≠ gb315 ∧ k_ ≠ gb319) (.slice A0_0 l0_0.length c0_0) l0_0) ∧ Aside0 (Kd.V (Kd.slice 3 (Kd.int .i64)) 23 wc w.heap.size (fun k_=>((P0_0_ k_ ∨ P0_1_ k_ ∨ P0_2_ k_) ∨ w.heap.size ≤ k_) ∧ some k_ ≠ (v317 : Value).ownBlock ∧ some k_ ≠ (u320000 : Value).ownBlock ∧ k_ ≠ gb314 ∧ k_ ≠ gb315 ∧ k_ ≠ gb319) (.slice A0_1 l0_1.length c0_1) l0_1) ∧ Aside0 (Kd.V (Kd.slice 3 (Kd.int .i64)) 23 wc w.heap.size (fun k_=>((P0_0_ k_ ∨ P0_1_ k_ ∨ P0_2_ k_) ∨ w.heap.size ≤ k_) ∧ some k_ ≠ (v317 : Value).ownBlock ∧ some k_ ≠ (u320000 : Value).ownBlock ∧ k_ ≠ gb314 ∧ k_ ≠ gb315 ∧ k_ ≠ gb319) (.slice A0_2 l0_2.length c0_2) l0_2) ∧ Aside0 (Kd.R (Kd.int .i64) 3 wc w.heap.size (fun k_=>(w.heap.size ≤ k_) ∧ some k_ ≠ (v317 : Value).ownBlock) u320000 x320000_2) ∧ Aside0 (Kd.V (Kd.slice 3 (Kd.int .i64)) 23 wc w.heap.size (fun k_=>((P0_0_ k_ ∨ P0_1_ k_ ∨ P0_2_ k_) ∨ w.heap.size ≤ k_) ∧ some k_ ≠ (v317 : Value).ownBlock ∧ some k_ ≠ (u320000 : Value).ownBlock ∧ k_ ≠ gb314 ∧ k_ ≠ gb315 ∧ k_ ≠ gb319) (.slice A0_2 l0_2.length c0_2) l0_2) ∧ Aside0 (wc.heap[gb314]? = some (.cells #[(.slice A0_0 l0_0.length c0_0),(.slice A0_1 l0_1.length c0_1),(.slice A0_2 l0_2.length c0_2)] 55 (0,0))) ∧ Aside0 (wc.heap[gb315]? = some (.cells #[(.slice none 0 0),(.slice none 0 0),(.slice none 0 0)] 55 (0,0))) ∧ Aside0 (wc.heap[gb319]? = some (.cells #[u320000,(.slice none 0 0),(.slice A0_2 l0_2.length c0_2)] 55 (0,0))) ∧ Aside0 (Below w.heap.size w wc))
          case first =>
            have H:=HC26.out;clear HC26;by_cases c27 : 0 ≤ x10_2;rotate_left
            · rw [if_neg c27] at H
              exact absurd H (by simp)
            rw [if_pos c27] at H;have c27b0 : decide (0 ≤ x10_2) = true:=decide_eq_true c27;clear c27
            (first|rw [c27b0]|(simp only [i64_w,i32_w];rw [c27b0])|skip)
            by_cases c28 : (rd l2 x10_2) < 0
            · rw [if_pos c28] at H
              have c28b0 : decide ((rd l2 x10_2) < 0) = true:=decide_eq_true c28;clear c28;have H':=A0_ H;clear H
              try go_wp2
              have n0_:=A0_ (Kd.R_drew HO_8.out);have n1_:=A0_ (Kd.V_drew HO_315000.out);have n2_:=A0_ (Kd.V_drew HO_315001.out);have n3_:=A0_ (Kd.V_drew HO_315002.out);have n4_:=A0_ (Kd.R_drew HO_320000.out);have n5_:=A0_ (Kd.V_drew HO_320002.out);have n6_:=A0_ (blk_drew BK314.out);have n7_:=A0_ (blk_drew BK315.out);have n8_:=A0_ (blk_drew BK319.out);have n9_:=A0_ (b1_ HB.out);clear HO_8;clear HO_315000;clear HO_315001;clear HO_315002;clear HO_320000;clear HO_320002;clear BK314;clear BK315;clear BK319;clear HB;have HO_8:=n0_;have HO_315000:=n1_;have HO_315001:=n2_;have HO_315002:=n3_;have HO_320000:=n4_;have HO_320002:=n5_;have BK314:=n6_;have BK315:=n7_;have BK319:=n8_;have HB:=n9_;clear n0_ n1_ n2_ n3_ n4_ n5_ n6_ n7_ n8_ n9_;have p320 : 0 ≤ (x10_2 : Int):=of_decide_eq_true (by first|(with_reducible assumption)|assumption);have q320 : x10_2 < (l2.length : Int):=of_decide_eq_true (by first|(with_reducible assumption)|assumption);obtain ⟨ad320,e320,hx320_0⟩:=Kd.at_int HR2.out x10_2 p320 q320;have hw320_0:=hx320_0;cases e320;replace hx320_0:=(HB.out.cell (bl_ w _ hx320_0)).trans hx320_0;replace p320:=eq_true p320;replace q320:=eq_true q320;refine start_ (n:=28) (S:=fun w'=>w'.cell? (ad320.add (x10_2).toNat) = some (.int .i64 (rd l2 x10_2))) (ds:=[]) #[false,false,false,false,false,false,false,false,false,false,false,false,false,false,false,false,false,false,false,false,false,false,false,false,false,false,false,false] (by kernel_rfl) rfl rfl (((HB.out.cell (bl_ w _ hw320_0)).trans hw320_0)) (fun hHeld=>?_);refine with_tabW logjamref25_Given.tab7 logjamref25_Given.bits7 (fun HT_ HW_=>?_)
              generalize wr.drew = w29 at HO_8 HO_315000 HO_315001 HO_315002 HO_320000 HO_320002 BK314 BK315 BK319 HB hx320_0 hHeld ⊢
              refine pure_ (i:=0) (N:=some 42) (v:=?_) (a':=?_) #[true,false,false,false,false,false,false,false,false,false,false,false,false,false,false,false,false,false,false,false,false,false,false,false,false,false,false,false] rfl rfl (any_of HT_.out (by kernel_rfl)) (fun _ _ _ h=>h) (Or.inl ⟨by rfl,?_⟩) ?_ ?_;rotate_left
              · intro w'
                go_simp
                with_reducible rfl
              rotate_left
              · simp only [Act.put,sA_,sZ_,sS_,i64_w,i32_w]
                rfl
              refine pure_ (i:=1) (N:=some 43) (v:=?_) (a':=?_) #[true,true,false,false,false,false,false,false,false,false,false,false,false,false,false,false,false,false,false,false,false,false,false,false,false,false,false,false] rfl rfl (any_of HT_.out (by kernel_rfl)) (fun _ _ _ h=>h) (Or.inl ⟨by rfl,?_⟩) ?_ ?_;rotate_left
              · intro w'
                go_simp
                with_reducible rfl
              rotate_left
              · simp only [Act.put,sA_,sZ_,sS_,i64_w,i32_w]
                rfl
              refine pure_ (i:=2) (N:=some 44) (v:=?_) (a':=?_) #[true,true,true,false,false,false,false,false,false,false,false,false,false,false,false,false,false,false,false,false,false,false,false,false,false,false,false,false] rfl rfl (any_of HT_.out (by kernel_rfl)) (fun _ _ _ h=>h) (Or.inl ⟨by rfl,?_⟩) ?_ ?_;rotate_left
              · intro w'
                go_simp
                with_reducible rfl
              rotate_left
              · simp only [Act.put,sA_,sZ_,sS_,i64_w,i32_w]
                rfl
              refine take_ (i:=3) (N:=some 45) (v:=?_) (a':=?_) #[true,true,true,true,false,false,false,false,false,false,false,false,false,false,false,false,false,false,false,false,false,false,false,false,false,false,false,false] rfl rfl (take_ofW HT_.out HW_.out (by kernel_rfl)) (fun _ _ _ h=>h) (Or.inl ⟨by rfl,?_⟩) hHeld ?_ ?_;rotate_left
              · intro w' s0
                go_simp
                with_reducible rfl
              rotate_left
              · simp only [Act.put,sA_,sZ_,sS_,i64_w,i32_w]
                rfl
              refine pure_ (i:=4) (N:=some 46) (v:=?_) (a':=?_) #[true,true,true,true,true,false,false,false,false,false,false,false,false,false,false,false,false,false,false,false,false,false,false,false,false,false,false,false] rfl rfl (any_of HT_.out (by kernel_rfl)) (fun _ _ _ h=>h) (Or.inl ⟨by rfl,?_⟩) ?_ ?_;rotate_left
              · intro w'
                go_simp
                with_reducible rfl
              rotate_left
              · simp only [Act.put,sA_,sZ_,sS_,i64_w,i32_w]
                rfl
              refine pure_ (i:=5) (N:=some 47) (v:=?_) (a':=?_) #[true,true,true,true,true,true,false,false,false,false,false,false,false,false,false,false,false,false,false,false,false,false,false,false,false,false,false,false] rfl rfl (any_of HT_.out (by kernel_rfl)) (fun _ _ _ h=>h) (Or.inl ⟨by rfl,?_⟩) ?_ ?_;rotate_left
              · intro w'
                go_simp
                with_reducible rfl
              rotate_left
              · simp only [Act.put,sA_,sZ_,sS_,i64_w,i32_w]
                rfl
              refine pure_ (i:=6) (N:=some 48) (v:=undef) (a':=?_) #[true,true,true,true,true,true,true,false,false,false,false,false,false,false,false,false,false,false,false,false,false,false,false,false,false,false,false,false] rfl rfl (any_of HT_.out (by kernel_rfl)) (fun _ _ _ h=>h) (Or.inr ⟨by rfl,rfl⟩) ?_ ?_;rotate_left
              · simp only [Act.put,sA_,sZ_,sS_,i64_w,i32_w]
                rfl
              refine pure_ (i:=7) (N:=some 49) (v:=undef) (a':=?_) #[true,true,true,true,true,true,true,true,false,false,false,false,false,false,false,false,false,false,false,false,false,false,false,false,false,false,false,false] rfl rfl (any_of HT_.out (by kernel_rfl)) (fun _ _ _ h=>h) (Or.inr ⟨by rfl,rfl⟩) ?_ ?_;rotate_left
              · simp only [Act.put,sA_,sZ_,sS_,i64_w,i32_w]
                rfl
              refine pure_ (i:=8) (N:=some 50) (v:=undef) (a':=?_) #[true,true,true,true,true,true,true,true,true,false,false,false,false,false,false,false,false,false,false,false,false,false,false,false,false,false,false,false] rfl rfl (any_of HT_.out (by kernel_rfl)) (fun _ _ _ h=>h) (Or.inr ⟨by rfl,rfl⟩) ?_ ?_;rotate_left
              · simp only [Act.put,sA_,sZ_,sS_,i64_w,i32_w]
                rfl
              refine pure_ (i:=9) (N:=some 51) (v:=undef) (a':=?_) #[true,true,true,true,true,true,true,true,true,true,false,false,false,false,false,false,false,false,false,false,false,false,false,false,false,false,false,false] rfl rfl (any_of HT_.out (by kernel_rfl)) (fun _ _ _ h=>h) (Or.inr ⟨by rfl,rfl⟩) ?_ ?_;rotate_left
              · simp only [Act.put,sA_,sZ_,sS_,i64_w,i32_w]
                rfl
              refine pure_ (i:=10) (N:=some 52) (v:=undef) (a':=?_) #[true,true,true,true,true,true,true,true,true,true,true,false,false,false,false,false,false,false,false,false,false,false,false,false,false,false,false,false] rfl rfl (any_of HT_.out (by kernel_rfl)) (fun _ _ _ h=>h) (Or.inr ⟨by rfl,rfl⟩) ?_ ?_;rotate_left
              · simp only [Act.put,sA_,sZ_,sS_,i64_w,i32_w]
                rfl
              refine pure_ (i:=11) (N:=some 53) (v:=undef) (a':=?_) #[true,true,true,true,true,true,true,true,true,true,true,true,false,false,false,false,false,false,false,false,false,false,false,false,false,false,false,false] rfl rfl (any_of HT_.out (by kernel_rfl)) (fun _ _ _ h=>h) (Or.inr ⟨by rfl,rfl⟩) ?_ ?_;rotate_left
              · simp only [Act.put,sA_,sZ_,sS_,i64_w,i32_w]
                rfl
              refine pure_ (i:=12) (N:=some 54) (v:=undef) (a':=?_) #[true,true,true,true,true,true,true,true,true,true,true,true,true,false,false,false,false,false,false,false,false,false,false,false,false,false,false,false] rfl rfl (any_of HT_.out (by kernel_rfl)) (fun _ _ _ h=>h) (Or.inr ⟨by rfl,rfl⟩) ?_ ?_;rotate_left
              · simp only [Act.put,sA_,sZ_,sS_,i64_w,i32_w]
                rfl
              refine pure_ (i:=13) (N:=some 55) (v:=undef) (a':=?_) #[true,true,true,true,true,true,true,true,true,true,true,true,true,true,false,false,false,false,false,false,false,false,false,false,false,false,false,false] rfl rfl (any_of HT_.out (by kernel_rfl)) (fun _ _ _ h=>h) (Or.inr ⟨by rfl,rfl⟩) ?_ ?_;rotate_left
              · simp only [Act.put,sA_,sZ_,sS_,i64_w,i32_w]
                rfl
              refine pure_ (i:=14) (N:=some 56) (v:=undef) (a':=?_) #[true,true,true,true,true,true,true,true,true,true,true,true,true,true,true,false,false,false,false,false,false,false,false,false,false,false,false,false] rfl rfl (any_of HT_.out (by kernel_rfl)) (fun _ _ _ h=>h) (Or.inr ⟨by rfl,rfl⟩) ?_ ?_;rotate_left
              · simp only [Act.put,sA_,sZ_,sS_,i64_w,i32_w]
                rfl
              refine pure_ (i:=15) (N:=some 57) (v:=?_) (a':=?_) #[true,true,true,true,true,true,true,true,true,true,true,true,true,true,true,true,false,false,false,false,false,false,false,false,false,false,false,false] rfl rfl (any_of HT_.out (by kernel_rfl)) (fun _ _ _ h=>h) (Or.inl ⟨by rfl,?_⟩) ?_ ?_;rotate_left
              · intro w'
                go_simp
                with_reducible rfl
              rotate_left
              · simp only [Act.put,sA_,sZ_,sS_,i64_w,i32_w]
                rfl
              refine pure_ (i:=16) (N:=some 58) (v:=?_) (a':=?_) #[true,true,true,true,true,true,true,true,true,true,true,true,true,true,true,true,true,false,false,false,false,false,false,false,false,false,false,false] rfl rfl (any_of HT_.out (by kernel_rfl)) (fun _ _ _ h=>h) (Or.inl ⟨by rfl,?_⟩) ?_ ?_;rotate_left
              · intro w'
                go_simp
                with_reducible rfl
              rotate_left
              · simp only [Act.put,sA_,sZ_,sS_,i64_w,i32_w]
                rfl
              refine pure_ (i:=17) (N:=some 59) (v:=undef) (a':=?_) #[true,true,true,true,true,true,true,true,true,true,true,true,true,true,true,true,true,true,false,false,false,false,false,false,false,false,false,false] rfl rfl (any_of HT_.out (by kernel_rfl)) (fun _ _ _ h=>h) (Or.inr ⟨by rfl,rfl⟩) ?_ ?_;rotate_left
              · simp only [Act.put,sA_,sZ_,sS_,i64_w,i32_w]
                rfl
              refine pure_ (i:=18) (N:=some 60) (v:=undef) (a':=?_) #[true,true,true,true,true,true,true,true,true,true,true,true,true,true,true,true,true,true,true,false,false,false,false,false,false,false,false,false] rfl rfl (any_of HT_.out (by kernel_rfl)) (fun _ _ _ h=>h) (Or.inr ⟨by rfl,rfl⟩) ?_ ?_;rotate_left
              · simp only [Act.put,sA_,sZ_,sS_,i64_w,i32_w]
                rfl
              refine pure_ (i:=19) (N:=some 61) (v:=undef) (a':=?_) #[true,true,true,true,true,true,true,true,true,true,true,true,true,true,true,true,true,true,true,true,false,false,false,false,false,false,false,false] rfl rfl (any_of HT_.out (by kernel_rfl)) (fun _ _ _ h=>h) (Or.inr ⟨by rfl,rfl⟩) ?_ ?_;rotate_left
              · simp only [Act.put,sA_,sZ_,sS_,i64_w,i32_w]
                rfl
              refine pure_ (i:=20) (N:=some 62) (v:=undef) (a':=?_) #[true,true,true,true,true,true,true,true,true,true,true,true,true,true,true,true,true,true,true,true,true,false,false,false,false,false,false,false] rfl rfl (any_of HT_.out (by kernel_rfl)) (fun _ _ _ h=>h) (Or.inr ⟨by rfl,rfl⟩) ?_ ?_;rotate_left
              · simp only [Act.put,sA_,sZ_,sS_,i64_w,i32_w]
                rfl
              refine pure_ (i:=21) (N:=some 63) (v:=undef) (a':=?_) #[true,true,true,true,true,true,true,true,true,true,true,true,true,true,true,true,true,true,true,true,true,true,false,false,false,false,false,false] rfl rfl (any_of HT_.out (by kernel_rfl)) (fun _ _ _ h=>h) (Or.inr ⟨by rfl,rfl⟩) ?_ ?_;rotate_left
              · simp only [Act.put,sA_,sZ_,sS_,i64_w,i32_w]
                rfl
              refine pure_ (i:=22) (N:=some 64) (v:=undef) (a':=?_) #[true,true,true,true,true,true,true,true,true,true,true,true,true,true,true,true,true,true,true,true,true,true,true,false,false,false,false,false] rfl rfl (any_of HT_.out (by kernel_rfl)) (fun _ _ _ h=>h) (Or.inr ⟨by rfl,rfl⟩) ?_ ?_;rotate_left
              · simp only [Act.put,sA_,sZ_,sS_,i64_w,i32_w]
                rfl
              refine pure_ (i:=23) (N:=some 65) (v:=undef) (a':=?_) #[true,true,true,true,true,true,true,true,true,true,true,true,true,true,true,true,true,true,true,true,true,true,true,true,false,false,false,false] rfl rfl (any_of HT_.out (by kernel_rfl)) (fun _ _ _ h=>h) (Or.inr ⟨by rfl,rfl⟩) ?_ ?_;rotate_left
              · simp only [Act.put,sA_,sZ_,sS_,i64_w,i32_w]
                rfl
              refine pure_ (i:=24) (N:=some 66) (v:=undef) (a':=?_) #[true,true,true,true,true,true,true,true,true,true,true,true,true,true,true,true,true,true,true,true,true,true,true,true,true,false,false,false] rfl rfl (any_of HT_.out (by kernel_rfl)) (fun _ _ _ h=>h) (Or.inr ⟨by rfl,rfl⟩) ?_ ?_;rotate_left
              · simp only [Act.put,sA_,sZ_,sS_,i64_w,i32_w]
                rfl
              refine pure_ (i:=25) (N:=some 67) (v:=undef) (a':=?_) #[true,true,true,true,true,true,true,true,true,true,true,true,true,true,true,true,true,true,true,true,true,true,true,true,true,true,false,false] rfl rfl (any_of HT_.out (by kernel_rfl)) (fun _ _ _ h=>h) (Or.inr ⟨by rfl,rfl⟩) ?_ ?_;rotate_left
              · simp only [Act.put,sA_,sZ_,sS_,i64_w,i32_w]
                rfl
              refine pure_ (i:=26) (N:=some 68) (v:=undef) (a':=?_) #[true,true,true,true,true,true,true,true,true,true,true,true,true,true,true,true,true,true,true,true,true,true,true,true,true,true,true,false] rfl rfl (any_of HT_.out (by kernel_rfl)) (fun _ _ _ h=>h) (Or.inr ⟨by rfl,rfl⟩) ?_ ?_;rotate_left
              · simp only [Act.put,sA_,sZ_,sS_,i64_w,i32_w]
                rfl
              refine pure_ (i:=27) (N:=some 69) (v:=?_) (a':=?_) #[true,true,true,true,true,true,true,true,true,true,true,true,true,true,true,true,true,true,true,true,true,true,true,true,true,true,true,true] rfl rfl (any_of HT_.out (by kernel_rfl)) (fun _ _ _ h=>h) (Or.inl ⟨by rfl,?_⟩) ?_ ?_;rotate_left
              · intro w'
                go_simp
                with_reducible rfl
              rotate_left
              · simp only [Act.put,sA_,sZ_,sS_,i64_w,i32_w]
                rfl
              refine done_ (done_of HT_.out (by kernel_rfl)) ?_
              try go_wp2
              go_meet
              case rel=>exact ⟨_,(true),(by first|rfl|(simp;done)|(simp [*];done)),H',⟨by have:=HJ3.out;have:=HK2.out;first|omega|exact Nat.le_refl _⟩,⟨by (with_reducible repeat first|apply Ra_|apply Rn_|apply Rd_);exact HO_8.out⟩,⟨by (with_reducible repeat first|apply Va_|apply Vn_|apply Vd_);exact HO_315000.out⟩,⟨by (with_reducible repeat first|apply Va_|apply Vn_|apply Vd_);exact HO_315001.out⟩,⟨by (with_reducible repeat first|apply Va_|apply Vn_|apply Vd_);exact HO_315002.out⟩,⟨by (with_reducible repeat first|apply Ra_|apply Rn_|apply Rd_);exact HO_320000.out⟩,⟨by (with_reducible repeat first|apply Va_|apply Vn_|apply Vd_);exact HO_320002.out⟩,⟨by (with_reducible repeat first|refine bN_ ?_ _|refine bD_ ?_|refine bA_ ?_ _);exact BK314.out⟩,⟨by (with_reducible repeat first|refine bN_ ?_ _|refine bD_ ?_|refine bA_ ?_ _);exact BK315.out⟩,⟨by (with_reducible repeat first|refine bN_ ?_ _|refine bD_ ?_|refine bA_ ?_ _);exact BK319.out⟩,⟨by repeat (first|(with_reducible first|exact HB.out|apply ba_|apply pN_|apply b1_|refine bs_ ?_ GE314.out|refine bs_ ?_ GE315.out|refine bs_ ?_ GE319.out)|exact HB.out)⟩⟩
            rw [if_neg c28] at H;have c28b0 : decide ((rd l2 x10_2) < 0) = false:=decide_eq_false c28;clear c28;by_cases c30 : x10_2 < (t316.length : Int);rotate_left
            · rw [if_neg c30] at H
              exact absurd H (by simp)
            rw [if_pos c30] at H;have c30b0 : decide (x10_2 < (t316.length : Int)) = true:=decide_eq_true c30;clear c30;by_cases c31 : (rd l2 x10_2) > (rd t316 x10_2)
            · rw [if_pos c31] at H
              have c31b0 : decide ((rd t316 x10_2) < (rd l2 x10_2)) = true:=decide_eq_true c31;clear c31;have H':=A0_ H;clear H
              try go_wp2
              have n0_:=A0_ (Kd.R_drew HO_8.out);have n1_:=A0_ (Kd.V_drew HO_315000.out);have n2_:=A0_ (Kd.V_drew HO_315001.out);have n3_:=A0_ (Kd.V_drew HO_315002.out);have n4_:=A0_ (Kd.R_drew HO_320000.out);have n5_:=A0_ (Kd.V_drew HO_320002.out);have n6_:=A0_ (blk_drew BK314.out);have n7_:=A0_ (blk_drew BK315.out);have n8_:=A0_ (blk_drew BK319.out);have n9_:=A0_ (b1_ HB.out);clear HO_8;clear HO_315000;clear HO_315001;clear HO_315002;clear HO_320000;clear HO_320002;clear BK314;clear BK315;clear BK319;clear HB;have HO_8:=n0_;have HO_315000:=n1_;have HO_315001:=n2_;have HO_315002:=n3_;have HO_320000:=n4_;have HO_320002:=n5_;have BK314:=n6_;have BK315:=n7_;have BK319:=n8_;have HB:=n9_;clear n0_ n1_ n2_ n3_ n4_ n5_ n6_ n7_ n8_ n9_;have p320 : 0 ≤ (x10_2 : Int):=of_decide_eq_true (by first|(with_reducible assumption)|assumption);have q320 : x10_2 < (l2.length : Int):=of_decide_eq_true (by first|(with_reducible assumption)|assumption);obtain ⟨ad320,e320,hx320_0⟩:=Kd.at_int HR2.out x10_2 p320 q320;have hw320_0:=hx320_0;cases e320;replace hx320_0:=(HB.out.cell (bl_ w _ hx320_0)).trans hx320_0;replace p320:=eq_true p320;replace q320:=eq_true q320;have p321 : 0 ≤ (x10_2 : Int):=of_decide_eq_true (by first|(with_reducible assumption)|assumption);have q321 : x10_2 < (l2.length : Int):=of_decide_eq_true (by first|(with_reducible assumption)|assumption);obtain ⟨ad321,e321,hx321_0⟩:=Kd.at_int HR2.out x10_2 p321 q321;have hw321_0:=hx321_0;obtain rfl : ad320 = ad321:=(by injection e321);replace hx321_0:=(HB.out.cell (bl_ w _ hx321_0)).trans hx321_0;replace p321:=eq_true p321;replace q321:=eq_true q321;obtain ⟨Ao33,co33,eo33⟩:=Kd.R_slice HO_8.out
              (first|subst eo33|(injection eo33 with f1_ f2_ f3_;have f4_:=f1_.symm;have f5_:=f3_.symm;clear f1_ f2_ f3_;subst f4_;subst f5_))
              have p322 : 0 ≤ (x10_2 : Int):=of_decide_eq_true (by first|(with_reducible assumption)|assumption);have q322 : x10_2 < (t316.length : Int):=of_decide_eq_true (by first|(with_reducible assumption)|assumption);obtain ⟨ad322,e322,hx322_0⟩:=Kd.at_int (Kd.R_reads' HO_8.out).2.2 x10_2 p322 q322;cases e322;replace p322:=eq_true p322;replace q322:=eq_true q322;refine start_ (n:=28) (S:=fun w'=>w'.cell? (ad320.add (x10_2).toNat) = some (.int .i64 (rd l2 x10_2)) ∧ w'.cell? (ad320.add (x10_2).toNat) = some (.int .i64 (rd l2 x10_2)) ∧ w'.cell? (ad322.add (x10_2).toNat) = some (.int .i64 (rd t316 x10_2))) (ds:=[]) #[false,false,false,false,false,false,false,false,false,false,false,false,false,false,false,false,false,false,false,false,false,false,false,false,false,false,false,false] (by kernel_rfl) rfl rfl ⟨((HB.out.cell (bl_ w _ hw320_0)).trans hw320_0),((HB.out.cell (bl_ w _ hw321_0)).trans hw321_0),hx322_0⟩ (fun hHeld=>?_);refine with_tabW logjamref25_Given.tab7 logjamref25_Given.bits7 (fun HT_ HW_=>?_)
              generalize wr.drew = w32 at HO_8 HO_315000 HO_315001 HO_315002 HO_320000 HO_320002 BK314 BK315 BK319 HB hx320_0 hx321_0 hx322_0 hHeld ⊢
              refine pure_ (i:=0) (N:=some 42) (v:=?_) (a':=?_) #[true,false,false,false,false,false,false,false,false,false,false,false,false,false,false,false,false,false,false,false,false,false,false,false,false,false,false,false] rfl rfl (any_of HT_.out (by kernel_rfl)) (fun _ _ _ h=>h) (Or.inl ⟨by rfl,?_⟩) ?_ ?_;rotate_left
              · intro w'
                go_simp
                with_reducible rfl
              rotate_left
              · simp only [Act.put,sA_,sZ_,sS_,i64_w,i32_w]
                rfl
              refine pure_ (i:=1) (N:=some 43) (v:=?_) (a':=?_) #[true,true,false,false,false,false,false,false,false,false,false,false,false,false,false,false,false,false,false,false,false,false,false,false,false,false,false,false] rfl rfl (any_of HT_.out (by kernel_rfl)) (fun _ _ _ h=>h) (Or.inl ⟨by rfl,?_⟩) ?_ ?_;rotate_left
              · intro w'
                go_simp
                with_reducible rfl
              rotate_left
              · simp only [Act.put,sA_,sZ_,sS_,i64_w,i32_w]
                rfl
              refine pure_ (i:=2) (N:=some 44) (v:=?_) (a':=?_) #[true,true,true,false,false,false,false,false,false,false,false,false,false,false,false,false,false,false,false,false,false,false,false,false,false,false,false,false] rfl rfl (any_of HT_.out (by kernel_rfl)) (fun _ _ _ h=>h) (Or.inl ⟨by rfl,?_⟩) ?_ ?_;rotate_left
              · intro w'
                go_simp
                with_reducible rfl
              rotate_left
              · simp only [Act.put,sA_,sZ_,sS_,i64_w,i32_w]
                rfl
              refine take_ (i:=3) (N:=some 45) (v:=?_) (a':=?_) #[true,true,true,true,false,false,false,false,false,false,false,false,false,false,false,false,false,false,false,false,false,false,false,false,false,false,false,false] rfl rfl (take_ofW HT_.out HW_.out (by kernel_rfl)) (fun _ _ _ h=>h) (Or.inl ⟨by rfl,?_⟩) hHeld ?_ ?_;rotate_left
              · rintro w' ⟨s0,s1,s2⟩
                go_simp
                with_reducible rfl
              rotate_left
              · simp only [Act.put,sA_,sZ_,sS_,i64_w,i32_w]
                rfl
              refine pure_ (i:=4) (N:=some 46) (v:=?_) (a':=?_) #[true,true,true,true,true,false,false,false,false,false,false,false,false,false,false,false,false,false,false,false,false,false,false,false,false,false,false,false] rfl rfl (any_of HT_.out (by kernel_rfl)) (fun _ _ _ h=>h) (Or.inl ⟨by rfl,?_⟩) ?_ ?_;rotate_left
              · intro w'
                go_simp
                with_reducible rfl
              rotate_left
              · simp only [Act.put,sA_,sZ_,sS_,i64_w,i32_w]
                rfl
              refine pure_ (i:=5) (N:=some 47) (v:=?_) (a':=?_) #[true,true,true,true,true,true,false,false,false,false,false,false,false,false,false,false,false,false,false,false,false,false,false,false,false,false,false,false] rfl rfl (any_of HT_.out (by kernel_rfl)) (fun _ _ _ h=>h) (Or.inl ⟨by rfl,?_⟩) ?_ ?_;rotate_left
              · intro w'
                go_simp
                with_reducible rfl
              rotate_left
              · simp only [Act.put,sA_,sZ_,sS_,i64_w,i32_w]
                rfl
              refine pure_ (i:=6) (N:=some 48) (v:=?_) (a':=?_) #[true,true,true,true,true,true,true,false,false,false,false,false,false,false,false,false,false,false,false,false,false,false,false,false,false,false,false,false] rfl rfl (any_of HT_.out (by kernel_rfl)) (fun _ _ _ h=>h) (Or.inl ⟨by rfl,?_⟩) ?_ ?_;rotate_left
              · intro w'
                go_simp
                with_reducible rfl
              rotate_left
              · simp only [Act.put,sA_,sZ_,sS_,i64_w,i32_w]
                rfl
              refine pure_ (i:=7) (N:=some 49) (v:=?_) (a':=?_) #[true,true,true,true,true,true,true,true,false,false,false,false,false,false,false,false,false,false,false,false,false,false,false,false,false,false,false,false] rfl rfl (any_of HT_.out (by kernel_rfl)) (fun _ _ _ h=>h) (Or.inl ⟨by rfl,?_⟩) ?_ ?_;rotate_left
              · intro w'
                go_simp
                with_reducible rfl
              rotate_left
              · simp only [Act.put,sA_,sZ_,sS_,i64_w,i32_w]
                rfl
              refine pure_ (i:=8) (N:=some 50) (v:=?_) (a':=?_) #[true,true,true,true,true,true,true,true,true,false,false,false,false,false,false,false,false,false,false,false,false,false,false,false,false,false,false,false] rfl rfl (any_of HT_.out (by kernel_rfl)) (fun _ _ _ h=>h) (Or.inl ⟨by rfl,?_⟩) ?_ ?_;rotate_left
              · intro w'
                go_simp
                with_reducible rfl
              rotate_left
              · simp only [Act.put,sA_,sZ_,sS_,i64_w,i32_w]
                rfl
              refine pure_ (i:=10) (N:=some 52) (v:=?_) (a':=?_) #[true,true,true,true,true,true,true,true,true,false,true,false,false,false,false,false,false,false,false,false,false,false,false,false,false,false,false,false] rfl rfl (any_of HT_.out (by kernel_rfl)) (fun _ _ _ h=>h) (Or.inl ⟨by rfl,?_⟩) ?_ ?_;rotate_left
              · intro w'
                go_simp
                with_reducible rfl
              rotate_left
              · simp only [Act.put,sA_,sZ_,sS_,i64_w,i32_w]
                rfl
              refine pure_ (i:=11) (N:=some 53) (v:=?_) (a':=?_) #[true,true,true,true,true,true,true,true,true,false,true,true,false,false,false,false,false,false,false,false,false,false,false,false,false,false,false,false] rfl rfl (any_of HT_.out (by kernel_rfl)) (fun _ _ _ h=>h) (Or.inl ⟨by rfl,?_⟩) ?_ ?_;rotate_left
              · intro w'
                go_simp
                with_reducible rfl
              rotate_left
              · simp only [Act.put,sA_,sZ_,sS_,i64_w,i32_w]
                rfl
              refine pure_ (i:=12) (N:=some 54) (v:=?_) (a':=?_) #[true,true,true,true,true,true,true,true,true,false,true,true,true,false,false,false,false,false,false,false,false,false,false,false,false,false,false,false] rfl rfl (any_of HT_.out (by kernel_rfl)) (fun _ _ _ h=>h) (Or.inl ⟨by rfl,?_⟩) ?_ ?_;rotate_left
              · intro w'
                go_simp
                with_reducible rfl
              rotate_left
              · simp only [Act.put,sA_,sZ_,sS_,i64_w,i32_w]
                rfl
              refine take_ (i:=9) (N:=some 51) (v:=?_) (a':=?_) #[true,true,true,true,true,true,true,true,true,true,true,true,true,false,false,false,false,false,false,false,false,false,false,false,false,false,false,false] rfl rfl (take_ofW HT_.out HW_.out (by kernel_rfl)) (fun _ _ _ h=>h) (Or.inl ⟨by rfl,?_⟩) hHeld ?_ ?_;rotate_left
              · rintro w' ⟨s0,s1,s2⟩
                go_simp
                with_reducible rfl
              rotate_left
              · simp only [Act.put,sA_,sZ_,sS_,i64_w,i32_w]
                rfl
              refine take_ (i:=13) (N:=some 55) (v:=?_) (a':=?_) #[true,true,true,true,true,true,true,true,true,true,true,true,true,true,false,false,false,false,false,false,false,false,false,false,false,false,false,false] rfl rfl (take_ofW HT_.out HW_.out (by kernel_rfl)) (fun _ _ _ h=>h) (Or.inl ⟨by rfl,?_⟩) hHeld ?_ ?_;rotate_left
              · rintro w' ⟨s0,s1,s2⟩
                go_simp
                with_reducible rfl
              rotate_left
              · simp only [Act.put,sA_,sZ_,sS_,i64_w,i32_w]
                rfl
              refine pure_ (i:=14) (N:=some 56) (v:=?_) (a':=?_) #[true,true,true,true,true,true,true,true,true,true,true,true,true,true,true,false,false,false,false,false,false,false,false,false,false,false,false,false] rfl rfl (any_of HT_.out (by kernel_rfl)) (fun _ _ _ h=>h) (Or.inl ⟨by rfl,?_⟩) ?_ ?_;rotate_left
              · intro w'
                go_simp
                with_reducible rfl
              rotate_left
              · simp only [Act.put,sA_,sZ_,sS_,i64_w,i32_w]
                rfl
              refine pure_ (i:=15) (N:=some 57) (v:=?_) (a':=?_) #[true,true,true,true,true,true,true,true,true,true,true,true,true,true,true,true,false,false,false,false,false,false,false,false,false,false,false,false] rfl rfl (any_of HT_.out (by kernel_rfl)) (fun _ _ _ h=>h) (Or.inl ⟨by rfl,?_⟩) ?_ ?_;rotate_left
              · intro w'
                go_simp
                with_reducible rfl
              rotate_left
              · simp only [Act.put,sA_,sZ_,sS_,i64_w,i32_w]
                rfl
              refine pure_ (i:=16) (N:=some 58) (v:=?_) (a':=?_) #[true,true,true,true,true,true,true,true,true,true,true,true,true,true,true,true,true,false,false,false,false,false,false,false,false,false,false,false] rfl rfl (any_of HT_.out (by kernel_rfl)) (fun _ _ _ h=>h) (Or.inl ⟨by rfl,?_⟩) ?_ ?_;rotate_left
              · intro w'
                go_simp
                with_reducible rfl
              rotate_left
              · simp only [Act.put,sA_,sZ_,sS_,i64_w,i32_w]
                rfl
              refine pure_ (i:=17) (N:=some 59) (v:=undef) (a':=?_) #[true,true,true,true,true,true,true,true,true,true,true,true,true,true,true,true,true,true,false,false,false,false,false,false,false,false,false,false] rfl rfl (any_of HT_.out (by kernel_rfl)) (fun _ _ _ h=>h) (Or.inr ⟨by rfl,rfl⟩) ?_ ?_;rotate_left
              · simp only [Act.put,sA_,sZ_,sS_,i64_w,i32_w]
                rfl
              refine pure_ (i:=18) (N:=some 60) (v:=undef) (a':=?_) #[true,true,true,true,true,true,true,true,true,true,true,true,true,true,true,true,true,true,true,false,false,false,false,false,false,false,false,false] rfl rfl (any_of HT_.out (by kernel_rfl)) (fun _ _ _ h=>h) (Or.inr ⟨by rfl,rfl⟩) ?_ ?_;rotate_left
              · simp only [Act.put,sA_,sZ_,sS_,i64_w,i32_w]
                rfl
              refine pure_ (i:=19) (N:=some 61) (v:=undef) (a':=?_) #[true,true,true,true,true,true,true,true,true,true,true,true,true,true,true,true,true,true,true,true,false,false,false,false,false,false,false,false] rfl rfl (any_of HT_.out (by kernel_rfl)) (fun _ _ _ h=>h) (Or.inr ⟨by rfl,rfl⟩) ?_ ?_;rotate_left
              · simp only [Act.put,sA_,sZ_,sS_,i64_w,i32_w]
                rfl
              refine pure_ (i:=20) (N:=some 62) (v:=undef) (a':=?_) #[true,true,true,true,true,true,true,true,true,true,true,true,true,true,true,true,true,true,true,true,true,false,false,false,false,false,false,false] rfl rfl (any_of HT_.out (by kernel_rfl)) (fun _ _ _ h=>h) (Or.inr ⟨by rfl,rfl⟩) ?_ ?_;rotate_left
              · simp only [Act.put,sA_,sZ_,sS_,i64_w,i32_w]
                rfl
              refine pure_ (i:=21) (N:=some 63) (v:=undef) (a':=?_) #[true,true,true,true,true,true,true,true,true,true,true,true,true,true,true,true,true,true,true,true,true,true,false,false,false,false,false,false] rfl rfl (any_of HT_.out (by kernel_rfl)) (fun _ _ _ h=>h) (Or.inr ⟨by rfl,rfl⟩) ?_ ?_;rotate_left
              · simp only [Act.put,sA_,sZ_,sS_,i64_w,i32_w]
                rfl
              refine pure_ (i:=22) (N:=some 64) (v:=undef) (a':=?_) #[true,true,true,true,true,true,true,true,true,true,true,true,true,true,true,true,true,true,true,true,true,true,true,false,false,false,false,false] rfl rfl (any_of HT_.out (by kernel_rfl)) (fun _ _ _ h=>h) (Or.inr ⟨by rfl,rfl⟩) ?_ ?_;rotate_left
              · simp only [Act.put,sA_,sZ_,sS_,i64_w,i32_w]
                rfl
              refine pure_ (i:=23) (N:=some 65) (v:=undef) (a':=?_) #[true,true,true,true,true,true,true,true,true,true,true,true,true,true,true,true,true,true,true,true,true,true,true,true,false,false,false,false] rfl rfl (any_of HT_.out (by kernel_rfl)) (fun _ _ _ h=>h) (Or.inr ⟨by rfl,rfl⟩) ?_ ?_;rotate_left
              · simp only [Act.put,sA_,sZ_,sS_,i64_w,i32_w]
                rfl
              refine pure_ (i:=24) (N:=some 66) (v:=undef) (a':=?_) #[true,true,true,true,true,true,true,true,true,true,true,true,true,true,true,true,true,true,true,true,true,true,true,true,true,false,false,false] rfl rfl (any_of HT_.out (by kernel_rfl)) (fun _ _ _ h=>h) (Or.inr ⟨by rfl,rfl⟩) ?_ ?_;rotate_left
              · simp only [Act.put,sA_,sZ_,sS_,i64_w,i32_w]
                rfl
              refine pure_ (i:=25) (N:=some 67) (v:=undef) (a':=?_) #[true,true,true,true,true,true,true,true,true,true,true,true,true,true,true,true,true,true,true,true,true,true,true,true,true,true,false,false] rfl rfl (any_of HT_.out (by kernel_rfl)) (fun _ _ _ h=>h) (Or.inr ⟨by rfl,rfl⟩) ?_ ?_;rotate_left
              · simp only [Act.put,sA_,sZ_,sS_,i64_w,i32_w]
                rfl
              refine pure_ (i:=26) (N:=some 68) (v:=undef) (a':=?_) #[true,true,true,true,true,true,true,true,true,true,true,true,true,true,true,true,true,true,true,true,true,true,true,true,true,true,true,false] rfl rfl (any_of HT_.out (by kernel_rfl)) (fun _ _ _ h=>h) (Or.inr ⟨by rfl,rfl⟩) ?_ ?_;rotate_left
              · simp only [Act.put,sA_,sZ_,sS_,i64_w,i32_w]
                rfl
              refine pure_ (i:=27) (N:=some 69) (v:=?_) (a':=?_) #[true,true,true,true,true,true,true,true,true,true,true,true,true,true,true,true,true,true,true,true,true,true,true,true,true,true,true,true] rfl rfl (any_of HT_.out (by kernel_rfl)) (fun _ _ _ h=>h) (Or.inl ⟨by rfl,?_⟩) ?_ ?_;rotate_left
              · intro w'
                go_simp
                with_reducible rfl
              rotate_left
              · simp only [Act.put,sA_,sZ_,sS_,i64_w,i32_w]
                rfl
              refine done_ (done_of HT_.out (by kernel_rfl)) ?_
              try go_wp2
              go_meet
              case rel=>exact ⟨_,(true),(by first|rfl|(simp;done)|(simp [*];done)),H',⟨by have:=HJ3.out;have:=HK2.out;first|omega|exact Nat.le_refl _⟩,⟨by (with_reducible repeat first|apply Ra_|apply Rn_|apply Rd_);exact HO_8.out⟩,⟨by (with_reducible repeat first|apply Va_|apply Vn_|apply Vd_);exact HO_315000.out⟩,⟨by (with_reducible repeat first|apply Va_|apply Vn_|apply Vd_);exact HO_315001.out⟩,⟨by (with_reducible repeat first|apply Va_|apply Vn_|apply Vd_);exact HO_315002.out⟩,⟨by (with_reducible repeat first|apply Ra_|apply Rn_|apply Rd_);exact HO_320000.out⟩,⟨by (with_reducible repeat first|apply Va_|apply Vn_|apply Vd_);exact HO_320002.out⟩,⟨by (with_reducible repeat first|refine bN_ ?_ _|refine bD_ ?_|refine bA_ ?_ _);exact BK314.out⟩,⟨by (with_reducible repeat first|refine bN_ ?_ _|refine bD_ ?_|refine bA_ ?_ _);exact BK315.out⟩,⟨by (with_reducible repeat first|refine bN_ ?_ _|refine bD_ ?_|refine bA_ ?_ _);exact BK319.out⟩,⟨by repeat (first|(with_reducible first|exact HB.out|apply ba_|apply pN_|apply b1_|refine bs_ ?_ GE314.out|refine bs_ ?_ GE315.out|refine bs_ ?_ GE319.out)|exact HB.out)⟩⟩
            rw [if_neg c31] at H;have c31b0 : decide ((rd t316 x10_2) < (rd l2 x10_2)) = false:=decide_eq_false c31;clear c31;by_cases c34 : x10_2 < (l0_0.length : Int);rotate_left
            · rw [if_neg c34] at H
              exact absurd H (by simp)
            rw [if_pos c34] at H;have c34b0 : decide (x10_2 < (l0_0.length : Int)) = true:=decide_eq_true c34;clear c34;have H':=A0_ H;clear H
            try go_wp2
            have n0_:=A0_ (Kd.R_drew HO_8.out);have n1_:=A0_ (Kd.V_drew HO_315000.out);have n2_:=A0_ (Kd.V_drew HO_315001.out);have n3_:=A0_ (Kd.V_drew HO_315002.out);have n4_:=A0_ (Kd.R_drew HO_320000.out);have n5_:=A0_ (Kd.V_drew HO_320002.out);have n6_:=A0_ (blk_drew BK314.out);have n7_:=A0_ (blk_drew BK315.out);have n8_:=A0_ (blk_drew BK319.out);have n9_:=A0_ (b1_ HB.out);clear HO_8;clear HO_315000;clear HO_315001;clear HO_315002;clear HO_320000;clear HO_320002;clear BK314;clear BK315;clear BK319;clear HB;have HO_8:=n0_;have HO_315000:=n1_;have HO_315001:=n2_;have HO_315002:=n3_;have HO_320000:=n4_;have HO_320002:=n5_;have BK314:=n6_;have BK315:=n7_;have BK319:=n8_;have HB:=n9_;clear n0_ n1_ n2_ n3_ n4_ n5_ n6_ n7_ n8_ n9_;have p320 : 0 ≤ (x10_2 : Int):=of_decide_eq_true (by first|(with_reducible assumption)|assumption);have q320 : x10_2 < (l2.length : Int):=of_decide_eq_true (by first|(with_reducible assumption)|assumption);obtain ⟨ad320,e320,hx320_0⟩:=Kd.at_int HR2.out x10_2 p320 q320;have hw320_0:=hx320_0;cases e320;replace hx320_0:=(HB.out.cell (bl_ w _ hx320_0)).trans hx320_0;replace p320:=eq_true p320;replace q320:=eq_true q320;have p321 : 0 ≤ (x10_2 : Int):=of_decide_eq_true (by first|(with_reducible assumption)|assumption);have q321 : x10_2 < (l2.length : Int):=of_decide_eq_true (by first|(with_reducible assumption)|assumption);obtain ⟨ad321,e321,hx321_0⟩:=Kd.at_int HR2.out x10_2 p321 q321;have hw321_0:=hx321_0;obtain rfl : ad320 = ad321:=(by injection e321);replace hx321_0:=(HB.out.cell (bl_ w _ hx321_0)).trans hx321_0;replace p321:=eq_true p321;replace q321:=eq_true q321;obtain ⟨Ao36,co36,eo36⟩:=Kd.R_slice HO_8.out
            (first|subst eo36|(injection eo36 with f1_ f2_ f3_;have f4_:=f1_.symm;have f5_:=f3_.symm;clear f1_ f2_ f3_;subst f4_;subst f5_))
            have p322 : 0 ≤ (x10_2 : Int):=of_decide_eq_true (by first|(with_reducible assumption)|assumption);have q322 : x10_2 < (t316.length : Int):=of_decide_eq_true (by first|(with_reducible assumption)|assumption);obtain ⟨ad322,e322,hx322_0⟩:=Kd.at_int (Kd.R_reads' HO_8.out).2.2 x10_2 p322 q322;cases e322;replace p322:=eq_true p322;replace q322:=eq_true q322;have p323 : 0 ≤ (x10_2 : Int):=of_decide_eq_true (by first|(with_reducible assumption)|assumption);have q323 : x10_2 < (l2.length : Int):=of_decide_eq_true (by first|(with_reducible assumption)|assumption);obtain ⟨ad323,e323,hx323_0⟩:=Kd.at_int HR2.out x10_2 p323 q323;have hw323_0:=hx323_0;obtain rfl : ad320 = ad323:=(by injection e323);replace hx323_0:=(HB.out.cell (bl_ w _ hx323_0)).trans hx323_0;replace p323:=eq_true p323;replace q323:=eq_true q323;have p324 : 0 ≤ (x10_2 : Int):=of_decide_eq_true (by first|(with_reducible assumption)|assumption);have q324 : x10_2 < (l0_0.length : Int):=of_decide_eq_true (by first|(with_reducible assumption)|assumption);obtain ⟨ad324,e324,hx324_0⟩:=Kd.at_int (Kd.V_reads' HO_315000.out).2.2 x10_2 p324 q324;cases e324;replace p324:=eq_true p324;replace q324:=eq_true q324;refine start_ (n:=28) (S:=fun w'=>w'.cell? ⟨gb314,0,none⟩ = some (.slice (some ad324) l0_0.length c0_0) ∧ w'.cell? ⟨gb314,1,none⟩ = some (.slice A0_1 l0_1.length c0_1) ∧ w'.cell? ⟨gb314,2,none⟩ = some (.slice A0_2 l0_2.length c0_2) ∧ w'.cell? (ad320.add (x10_2).toNat) = some (.int .i64 (rd l2 x10_2)) ∧ w'.cell? (ad320.add (x10_2).toNat) = some (.int .i64 (rd l2 x10_2)) ∧ w'.cell? (ad322.add (x10_2).toNat) = some (.int .i64 (rd t316 x10_2)) ∧ w'.cell? (ad320.add (x10_2).toNat) = some (.int .i64 (rd l2 x10_2)) ∧ w'.cell? (ad324.add (x10_2).toNat) = some (.int .i64 (rd l0_0 x10_2))) (ds:=[]) #[false,false,false,false,false,false,false,false,false,false,false,false,false,false,false,false,false,false,false,false,false,false,false,false,false,false,false,false] (by kernel_rfl) rfl rfl ⟨(blk_cell BK314.out 0).trans rfl,(blk_cell BK314.out 1).trans rfl,(blk_cell BK314.out 2).trans rfl,((HB.out.cell (bl_ w _ hw320_0)).trans hw320_0),((HB.out.cell (bl_ w _ hw321_0)).trans hw321_0),hx322_0,((HB.out.cell (bl_ w _ hw323_0)).trans hw323_0),hx324_0⟩ (fun hHeld=>?_);refine with_tabW logjamref25_Given.tab7 logjamref25_Given.bits7 (fun HT_ HW_=>?_)
            generalize wr.drew = w35 at HO_8 HO_315000 HO_315001 HO_315002 HO_320000 HO_320002 BK314 BK315 BK319 HB hx320_0 hx321_0 hx322_0 hx323_0 hx324_0 hHeld ⊢
            refine pure_ (i:=0) (N:=some 42) (v:=?_) (a':=?_) #[true,false,false,false,false,false,false,false,false,false,false,false,false,false,false,false,false,false,false,false,false,false,false,false,false,false,false,false] rfl rfl (any_of HT_.out (by kernel_rfl)) (fun _ _ _ h=>h) (Or.inl ⟨by rfl,?_⟩) ?_ ?_;rotate_left
            · intro w'
              go_simp
              with_reducible rfl
            rotate_left
            · simp only [Act.put,sA_,sZ_,sS_,i64_w,i32_w]
              rfl
            refine pure_ (i:=1) (N:=some 43) (v:=?_) (a':=?_) #[true,true,false,false,false,false,false,false,false,false,false,false,false,false,false,false,false,false,false,false,false,false,false,false,false,false,false,false] rfl rfl (any_of HT_.out (by kernel_rfl)) (fun _ _ _ h=>h) (Or.inl ⟨by rfl,?_⟩) ?_ ?_;rotate_left
            · intro w'
              go_simp
              with_reducible rfl
            rotate_left
            · simp only [Act.put,sA_,sZ_,sS_,i64_w,i32_w]
              rfl
            refine pure_ (i:=2) (N:=some 44) (v:=?_) (a':=?_) #[true,true,true,false,false,false,false,false,false,false,false,false,false,false,false,false,false,false,false,false,false,false,false,false,false,false,false,false] rfl rfl (any_of HT_.out (by kernel_rfl)) (fun _ _ _ h=>h) (Or.inl ⟨by rfl,?_⟩) ?_ ?_;rotate_left
            · intro w'
              go_simp
              with_reducible rfl
            rotate_left
            · simp only [Act.put,sA_,sZ_,sS_,i64_w,i32_w]
              rfl
            refine take_ (i:=3) (N:=some 45) (v:=?_) (a':=?_) #[true,true,true,true,false,false,false,false,false,false,false,false,false,false,false,false,false,false,false,false,false,false,false,false,false,false,false,false] rfl rfl (take_ofW HT_.out HW_.out (by kernel_rfl)) (fun _ _ _ h=>h) (Or.inl ⟨by rfl,?_⟩) hHeld ?_ ?_;rotate_left
            · rintro w' ⟨s0,s1,s2,s3,s4,s5,s6,s7⟩
              go_simp
              with_reducible rfl
            rotate_left
            · simp only [Act.put,sA_,sZ_,sS_,i64_w,i32_w]
              rfl
            refine pure_ (i:=4) (N:=some 46) (v:=?_) (a':=?_) #[true,true,true,true,true,false,false,false,false,false,false,false,false,false,false,false,false,false,false,false,false,false,false,false,false,false,false,false] rfl rfl (any_of HT_.out (by kernel_rfl)) (fun _ _ _ h=>h) (Or.inl ⟨by rfl,?_⟩) ?_ ?_;rotate_left
            · intro w'
              go_simp
              with_reducible rfl
            rotate_left
            · simp only [Act.put,sA_,sZ_,sS_,i64_w,i32_w]
              rfl
            refine pure_ (i:=5) (N:=some 47) (v:=?_) (a':=?_) #[true,true,true,true,true,true,false,false,false,false,false,false,false,false,false,false,false,false,false,false,false,false,false,false,false,false,false,false] rfl rfl (any_of HT_.out (by kernel_rfl)) (fun _ _ _ h=>h) (Or.inl ⟨by rfl,?_⟩) ?_ ?_;rotate_left
            · intro w'
              go_simp
              with_reducible rfl
            rotate_left
            · simp only [Act.put,sA_,sZ_,sS_,i64_w,i32_w]
              rfl
            refine pure_ (i:=6) (N:=some 48) (v:=?_) (a':=?_) #[true,true,true,true,true,true,true,false,false,false,false,false,false,false,false,false,false,false,false,false,false,false,false,false,false,false,false,false] rfl rfl (any_of HT_.out (by kernel_rfl)) (fun _ _ _ h=>h) (Or.inl ⟨by rfl,?_⟩) ?_ ?_;rotate_left
            · intro w'
              go_simp
              with_reducible rfl
            rotate_left
            · simp only [Act.put,sA_,sZ_,sS_,i64_w,i32_w]
              rfl
            refine pure_ (i:=7) (N:=some 49) (v:=?_) (a':=?_) #[true,true,true,true,true,true,true,true,false,false,false,false,false,false,false,false,false,false,false,false,false,false,false,false,false,false,false,false] rfl rfl (any_of HT_.out (by kernel_rfl)) (fun _ _ _ h=>h) (Or.inl ⟨by rfl,?_⟩) ?_ ?_;rotate_left
            · intro w'
              go_simp
              with_reducible rfl
            rotate_left
            · simp only [Act.put,sA_,sZ_,sS_,i64_w,i32_w]
              rfl
            refine pure_ (i:=8) (N:=some 50) (v:=?_) (a':=?_) #[true,true,true,true,true,true,true,true,true,false,false,false,false,false,false,false,false,false,false,false,false,false,false,false,false,false,false,false] rfl rfl (any_of HT_.out (by kernel_rfl)) (fun _ _ _ h=>h) (Or.inl ⟨by rfl,?_⟩) ?_ ?_;rotate_left
            · intro w'
              go_simp
              with_reducible rfl
            rotate_left
            · simp only [Act.put,sA_,sZ_,sS_,i64_w,i32_w]
              rfl
            refine pure_ (i:=10) (N:=some 52) (v:=?_) (a':=?_) #[true,true,true,true,true,true,true,true,true,false,true,false,false,false,false,false,false,false,false,false,false,false,false,false,false,false,false,false] rfl rfl (any_of HT_.out (by kernel_rfl)) (fun _ _ _ h=>h) (Or.inl ⟨by rfl,?_⟩) ?_ ?_;rotate_left
            · intro w'
              go_simp
              with_reducible rfl
            rotate_left
            · simp only [Act.put,sA_,sZ_,sS_,i64_w,i32_w]
              rfl
            refine pure_ (i:=11) (N:=some 53) (v:=?_) (a':=?_) #[true,true,true,true,true,true,true,true,true,false,true,true,false,false,false,false,false,false,false,false,false,false,false,false,false,false,false,false] rfl rfl (any_of HT_.out (by kernel_rfl)) (fun _ _ _ h=>h) (Or.inl ⟨by rfl,?_⟩) ?_ ?_;rotate_left
            · intro w'
              go_simp
              with_reducible rfl
            rotate_left
            · simp only [Act.put,sA_,sZ_,sS_,i64_w,i32_w]
              rfl
            refine pure_ (i:=12) (N:=some 54) (v:=?_) (a':=?_) #[true,true,true,true,true,true,true,true,true,false,true,true,true,false,false,false,false,false,false,false,false,false,false,false,false,false,false,false] rfl rfl (any_of HT_.out (by kernel_rfl)) (fun _ _ _ h=>h) (Or.inl ⟨by rfl,?_⟩) ?_ ?_;rotate_left
            · intro w'
              go_simp
              with_reducible rfl
            rotate_left
            · simp only [Act.put,sA_,sZ_,sS_,i64_w,i32_w]
              rfl
            refine take_ (i:=9) (N:=some 51) (v:=?_) (a':=?_) #[true,true,true,true,true,true,true,true,true,true,true,true,true,false,false,false,false,false,false,false,false,false,false,false,false,false,false,false] rfl rfl (take_ofW HT_.out HW_.out (by kernel_rfl)) (fun _ _ _ h=>h) (Or.inl ⟨by rfl,?_⟩) hHeld ?_ ?_;rotate_left
            · rintro w' ⟨s0,s1,s2,s3,s4,s5,s6,s7⟩
              go_simp
              with_reducible rfl
            rotate_left
            · simp only [Act.put,sA_,sZ_,sS_,i64_w,i32_w]
              rfl
            refine take_ (i:=13) (N:=some 55) (v:=?_) (a':=?_) #[true,true,true,true,true,true,true,true,true,true,true,true,true,true,false,false,false,false,false,false,false,false,false,false,false,false,false,false] rfl rfl (take_ofW HT_.out HW_.out (by kernel_rfl)) (fun _ _ _ h=>h) (Or.inl ⟨by rfl,?_⟩) hHeld ?_ ?_;rotate_left
            · rintro w' ⟨s0,s1,s2,s3,s4,s5,s6,s7⟩
              go_simp
              with_reducible rfl
            rotate_left
            · simp only [Act.put,sA_,sZ_,sS_,i64_w,i32_w]
              rfl
            refine pure_ (i:=14) (N:=some 56) (v:=?_) (a':=?_) #[true,true,true,true,true,true,true,true,true,true,true,true,true,true,true,false,false,false,false,false,false,false,false,false,false,false,false,false] rfl rfl (any_of HT_.out (by kernel_rfl)) (fun _ _ _ h=>h) (Or.inl ⟨by rfl,?_⟩) ?_ ?_;rotate_left
            · intro w'
              go_simp
              with_reducible rfl
            rotate_left
            · simp only [Act.put,sA_,sZ_,sS_,i64_w,i32_w]
              rfl
            refine pure_ (i:=15) (N:=some 57) (v:=?_) (a':=?_) #[true,true,true,true,true,true,true,true,true,true,true,true,true,true,true,true,false,false,false,false,false,false,false,false,false,false,false,false] rfl rfl (any_of HT_.out (by kernel_rfl)) (fun _ _ _ h=>h) (Or.inl ⟨by rfl,?_⟩) ?_ ?_;rotate_left
            · intro w'
              go_simp
              with_reducible rfl
            rotate_left
            · simp only [Act.put,sA_,sZ_,sS_,i64_w,i32_w]
              rfl
            refine pure_ (i:=16) (N:=some 58) (v:=?_) (a':=?_) #[true,true,true,true,true,true,true,true,true,true,true,true,true,true,true,true,true,false,false,false,false,false,false,false,false,false,false,false] rfl rfl (any_of HT_.out (by kernel_rfl)) (fun _ _ _ h=>h) (Or.inl ⟨by rfl,?_⟩) ?_ ?_;rotate_left
            · intro w'
              go_simp
              with_reducible rfl
            rotate_left
            · simp only [Act.put,sA_,sZ_,sS_,i64_w,i32_w]
              rfl
            refine pure_ (i:=17) (N:=some 59) (v:=?_) (a':=?_) #[true,true,true,true,true,true,true,true,true,true,true,true,true,true,true,true,true,true,false,false,false,false,false,false,false,false,false,false] rfl rfl (any_of HT_.out (by kernel_rfl)) (fun _ _ _ h=>h) (Or.inl ⟨by rfl,?_⟩) ?_ ?_;rotate_left
            · intro w'
              go_simp
              with_reducible rfl
            rotate_left
            · simp only [Act.put,sA_,sZ_,sS_,i64_w,i32_w]
              rfl
            refine pure_ (i:=18) (N:=some 60) (v:=?_) (a':=?_) #[true,true,true,true,true,true,true,true,true,true,true,true,true,true,true,true,true,true,true,false,false,false,false,false,false,false,false,false] rfl rfl (any_of HT_.out (by kernel_rfl)) (fun _ _ _ h=>h) (Or.inl ⟨by rfl,?_⟩) ?_ ?_;rotate_left
            · intro w'
              go_simp
              with_reducible rfl
            rotate_left
            · simp only [Act.put,sA_,sZ_,sS_,i64_w,i32_w]
              rfl
            refine pure_ (i:=19) (N:=some 61) (v:=?_) (a':=?_) #[true,true,true,true,true,true,true,true,true,true,true,true,true,true,true,true,true,true,true,true,false,false,false,false,false,false,false,false] rfl rfl (any_of HT_.out (by kernel_rfl)) (fun _ _ _ h=>h) (Or.inl ⟨by rfl,?_⟩) ?_ ?_;rotate_left
            · intro w'
              go_simp
              with_reducible rfl
            rotate_left
            · simp only [Act.put,sA_,sZ_,sS_,i64_w,i32_w]
              rfl
            refine pure_ (i:=21) (N:=some 63) (v:=?_) (a':=?_) #[true,true,true,true,true,true,true,true,true,true,true,true,true,true,true,true,true,true,true,true,false,true,false,false,false,false,false,false] rfl rfl (any_of HT_.out (by kernel_rfl)) (fun _ _ _ h=>h) (Or.inl ⟨by rfl,?_⟩) ?_ ?_;rotate_left
            · intro w'
              go_simp
              with_reducible rfl
            rotate_left
            · simp only [Act.put,sA_,sZ_,sS_,i64_w,i32_w]
              rfl
            refine pure_ (i:=23) (N:=some 65) (v:=?_) (a':=?_) #[true,true,true,true,true,true,true,true,true,true,true,true,true,true,true,true,true,true,true,true,false,true,false,true,false,false,false,false] rfl rfl (any_of HT_.out (by kernel_rfl)) (fun _ _ _ h=>h) (Or.inl ⟨by rfl,?_⟩) ?_ ?_;rotate_left
            · intro w'
              go_simp
              with_reducible rfl
            rotate_left
            · simp only [Act.put,sA_,sZ_,sS_,i64_w,i32_w]
              rfl
            refine take_ (i:=20) (N:=some 62) (v:=?_) (a':=?_) #[true,true,true,true,true,true,true,true,true,true,true,true,true,true,true,true,true,true,true,true,true,true,false,true,false,false,false,false] rfl rfl (take_ofW HT_.out HW_.out (by kernel_rfl)) (fun _ _ _ h=>h) (Or.inl ⟨by rfl,?_⟩) hHeld ?_ ?_;rotate_left
            · rintro w' ⟨s0,s1,s2,s3,s4,s5,s6,s7⟩
              go_simp
              with_reducible rfl
            rotate_left
            · simp only [Act.put,sA_,sZ_,sS_,i64_w,i32_w]
              rfl
            refine take_ (i:=22) (N:=some 64) (v:=?_) (a':=?_) #[true,true,true,true,true,true,true,true,true,true,true,true,true,true,true,true,true,true,true,true,true,true,true,true,false,false,false,false] rfl rfl (take_ofW HT_.out HW_.out (by kernel_rfl)) (fun _ _ _ h=>h) (Or.inl ⟨by rfl,?_⟩) hHeld ?_ ?_;rotate_left
            · rintro w' ⟨s0,s1,s2,s3,s4,s5,s6,s7⟩
              go_simp
              with_reducible rfl
            rotate_left
            · simp only [Act.put,sA_,sZ_,sS_,i64_w,i32_w]
              rfl
            refine pure_ (i:=24) (N:=some 66) (v:=?_) (a':=?_) #[true,true,true,true,true,true,true,true,true,true,true,true,true,true,true,true,true,true,true,true,true,true,true,true,true,false,false,false] rfl rfl (any_of HT_.out (by kernel_rfl)) (fun _ _ _ h=>h) (Or.inl ⟨by rfl,?_⟩) ?_ ?_;rotate_left
            · intro w'
              go_simp
              with_reducible rfl
            rotate_left
            · simp only [Act.put,sA_,sZ_,sS_,i64_w,i32_w]
              rfl
            refine take_ (i:=25) (N:=some 67) (v:=?_) (a':=?_) #[true,true,true,true,true,true,true,true,true,true,true,true,true,true,true,true,true,true,true,true,true,true,true,true,true,true,false,false] rfl rfl (take_ofW HT_.out HW_.out (by kernel_rfl)) (fun _ _ _ h=>h) (Or.inl ⟨by rfl,?_⟩) hHeld ?_ ?_;rotate_left
            · rintro w' ⟨s0,s1,s2,s3,s4,s5,s6,s7⟩
              go_simp
              with_reducible rfl
            rotate_left
            · simp only [Act.put,sA_,sZ_,sS_,i64_w,i32_w]
              rfl
            refine pure_ (i:=26) (N:=some 68) (v:=?_) (a':=?_) #[true,true,true,true,true,true,true,true,true,true,true,true,true,true,true,true,true,true,true,true,true,true,true,true,true,true,true,false] rfl rfl (any_of HT_.out (by kernel_rfl)) (fun _ _ _ h=>h) (Or.inl ⟨by rfl,?_⟩) ?_ ?_;rotate_left
            · intro w'
              go_simp
              with_reducible rfl
            rotate_left
            · simp only [Act.put,sA_,sZ_,sS_,i64_w,i32_w]
              rfl
            refine pure_ (i:=27) (N:=some 69) (v:=?_) (a':=?_) #[true,true,true,true,true,true,true,true,true,true,true,true,true,true,true,true,true,true,true,true,true,true,true,true,true,true,true,true] rfl rfl (any_of HT_.out (by kernel_rfl)) (fun _ _ _ h=>h) (Or.inl ⟨by rfl,?_⟩) ?_ ?_;rotate_left
            · intro w'
              go_simp
              with_reducible rfl
            rotate_left
            · simp only [Act.put,sA_,sZ_,sS_,i64_w,i32_w]
              rfl
            refine done_ (done_of HT_.out (by kernel_rfl)) ?_
            try go_wp2
            go_meet
            case rel=>exact ⟨_,(decide ((rd l2 x10_2) > (rd l0_0 x10_2))),(by first|rfl|(simp;done)|(simp [*];done)),H',⟨by have:=HJ3.out;have:=HK2.out;first|omega|exact Nat.le_refl _⟩,⟨by (with_reducible repeat first|apply Ra_|apply Rn_|apply Rd_);exact HO_8.out⟩,⟨by (with_reducible repeat first|apply Va_|apply Vn_|apply Vd_);exact HO_315000.out⟩,⟨by (with_reducible repeat first|apply Va_|apply Vn_|apply Vd_);exact HO_315001.out⟩,⟨by (with_reducible repeat first|apply Va_|apply Vn_|apply Vd_);exact HO_315002.out⟩,⟨by (with_reducible repeat first|apply Ra_|apply Rn_|apply Rd_);exact HO_320000.out⟩,⟨by (with_reducible repeat first|apply Va_|apply Vn_|apply Vd_);exact HO_320002.out⟩,⟨by (with_reducible repeat first|refine bN_ ?_ _|refine bD_ ?_|refine bA_ ?_ _);exact BK314.out⟩,⟨by (with_reducible repeat first|refine bN_ ?_ _|refine bD_ ?_|refine bA_ ?_ _);exact BK315.out⟩,⟨by (with_reducible repeat first|refine bN_ ?_ _|refine bD_ ?_|refine bA_ ?_ _);exact BK319.out⟩,⟨by repeat (first|(with_reducible first|exact HB.out|apply ba_|apply pN_|apply b1_|refine bs_ ?_ GE314.out|refine bs_ ?_ GE315.out|refine bs_ ?_ GE319.out)|exact HB.out)⟩⟩
          case rest =>
            clear HC26;(try clear c2);(try clear p2);(try clear c3);(try clear p3);(try clear q3);(try clear hx3);(try clear c27);(try clear c28);(try clear c28b0);(try clear c30);(try clear c30b0);(try clear c31);(try clear c31b0);(try clear p32);(try clear q32);(try clear hx32);(try clear c34);(try clear c34b0);(try clear hx320_0);(try clear hx321_0);(try clear hx322_0);(try clear hx323_0);(try clear hx324_0);(try clear p320);(try clear p321);(try clear p322);(try clear p323);(try clear p324);(try clear q320);(try clear q321);(try clear q322);(try clear q323);(try clear q324);obtain ⟨kq,x69_25,rfl,HA,HJ25,HO_8,HO_315000,HO_315001,HO_315002,HO_320000,HO_320002,BK314,BK315,BK319,HB⟩:=hcut
            cases kq with
            | zero=>exact absurd HA.out (by simp [logjamref25_Given.j2])
            | succ kj25 =>
              have H:=HA.out;clear HA;simp only [logjamref25_Given.j2] at H;by_cases c37 : x69_25 = true
              · subst c37
                have H1 : (some (l0_0,l0_1,l0_2,false)) = some (r1,r2,r3,r4):=by rw [if_pos rfl] at H;exact H
                clear H;have H:=H1;clear H1;simp only [Option.some.injEq,Prod.mk.injEq] at H;obtain ⟨rfl,rfl,rfl,rfl⟩:=H;have hnb38:=NB314_315.out;have hnc38:=NB315_314.out;have hnb39:=NB314_319.out;have hnc39:=NB319_314.out;obtain ⟨hcz40_0,hcz40_1,hcz40_2,hfz40_0,hfz40_1,hfz40_2⟩:=cz3_ (w:=wc) BK314.out;have hnb41:=NB315_319.out;have hnc41:=NB319_315.out;obtain ⟨hcz42_0,hcz42_1,hcz42_2,hfz42_0,hfz42_1,hfz42_2⟩:=cz3_ (w:=wc) BK315.out;go_wp2;refine bodyPost_ret (results_ct rfl _ _ gb315 55 #[.slice A0_0 l0_0.length c0_0,.slice A0_1 l0_1.length c0_1,.slice A0_2 l0_2.length c0_2] (0,0) _ rfl (by (with_reducible repeat first|refine bN_ ?_ _|refine bD_ ?_|refine bA_ ?_ _);refine blk_put (cs:=#[.slice A0_0 l0_0.length c0_0,.slice A0_1 l0_1.length c0_1,.slice none 0 0]) ?_ 2 _ rfl;(with_reducible repeat first|refine bN_ ?_ _|refine bD_ ?_|refine bA_ ?_ _);refine blk_put (cs:=#[.slice A0_0 l0_0.length c0_0,.slice none 0 0,.slice none 0 0]) ?_ 1 _ rfl;(with_reducible repeat first|refine bN_ ?_ _|refine bD_ ?_|refine bA_ ?_ _);refine blk_put (cs:=#[.slice none 0 0,.slice none 0 0,.slice none 0 0]) ?_ 0 _ rfl;(with_reducible repeat first|refine bN_ ?_ _|refine bD_ ?_|refine bA_ ?_ _);exact BK315.out) Try.underlying55 rfl (by kernel_rfl)) rfl ?_;exact ⟨_,_,_,by first|rfl|(simp [errW_none,errW_some] <;> rfl)|(simp [*,errW_none,errW_some] <;> rfl),by (with_reducible repeat first|apply Va_|apply Vn_|apply Vd_);exact Kd.V_mono (Kd.V_far (p:=⟨gb315,2,none⟩) (Kd.V_far (p:=⟨gb315,1,none⟩) (Kd.V_far (p:=⟨gb315,0,none⟩) (Kd.V_mono HO_315000.out (fun k_ hk=>(⟨hk,hk.2.2.2.2.1⟩ : _ ∧ k_ ≠ gb315))) (fun _ hk=>hk.2) (.slice A0_0 l0_0.length c0_0)) (fun _ hk=>hk.2) (.slice A0_1 l0_1.length c0_1)) (fun _ hk=>hk.2) (.slice A0_2 l0_2.length c0_2)) (fun _ hk=>hk.1.1),by (with_reducible repeat first|apply Va_|apply Vn_|apply Vd_);exact Kd.V_mono (Kd.V_far (p:=⟨gb315,2,none⟩) (Kd.V_far (p:=⟨gb315,1,none⟩) (Kd.V_far (p:=⟨gb315,0,none⟩) (Kd.V_mono HO_315001.out (fun k_ hk=>(⟨hk,hk.2.2.2.2.1⟩ : _ ∧ k_ ≠ gb315))) (fun _ hk=>hk.2) (.slice A0_0 l0_0.length c0_0)) (fun _ hk=>hk.2) (.slice A0_1 l0_1.length c0_1)) (fun _ hk=>hk.2) (.slice A0_2 l0_2.length c0_2)) (fun _ hk=>hk.1.1),by (with_reducible repeat first|apply Va_|apply Vn_|apply Vd_);exact Kd.V_mono (Kd.V_far (p:=⟨gb315,2,none⟩) (Kd.V_far (p:=⟨gb315,1,none⟩) (Kd.V_far (p:=⟨gb315,0,none⟩) (Kd.V_mono HO_315002.out (fun k_ hk=>(⟨hk,hk.2.2.2.2.1⟩ : _ ∧ k_ ≠ gb315))) (fun _ hk=>hk.2) (.slice A0_0 l0_0.length c0_0)) (fun _ hk=>hk.2) (.slice A0_1 l0_1.length c0_1)) (fun _ hk=>hk.2) (.slice A0_2 l0_2.length c0_2)) (fun _ hk=>hk.1.1),by repeat (first|(with_reducible first|exact HB.out|apply ba_|apply pN_|apply b1_|refine bs_ ?_ GE314.out|refine bs_ ?_ GE315.out|refine bs_ ?_ GE319.out)|exact HB.out)⟩
              replace c37:=Bool.eq_false_iff.mpr c37;subst c37;have H1 : (if 0 ≤ x10_2 then (if x10_2 < (l0_0.length : Int) then (if x10_2 < (l2.length : Int) then (if x320000_2.length < 17592186044416 then (logjamref25_Given.l0 kj25 a1 l2 t316 (wrap64 (x10_2 + 1)) l0_0 l0_1 l0_2 (x320000_2 ++ [wrap64 ((rd l0_0 x10_2) - (rd l2 x10_2))]) l0_2) else (none)) else (none)) else (none)) else (none)) = some (r1,r2,r3,r4):=by rw [if_neg (show ¬ (false = true) by decide)] at H;exact H
              clear H;have H:=H1;clear H1;by_cases c43 : 0 ≤ x10_2;rotate_left
              · rw [if_neg c43] at H
                exact absurd H (by simp)
              rw [if_pos c43] at H;have c43b0 : decide (0 ≤ x10_2) = true:=decide_eq_true c43;clear c43;by_cases c44 : x10_2 < (l0_0.length : Int);rotate_left
              · rw [if_neg c44] at H
                exact absurd H (by simp)
              rw [if_pos c44] at H;have c44b0 : decide (x10_2 < (l0_0.length : Int)) = true:=decide_eq_true c44;clear c44;by_cases c45 : x10_2 < (l2.length : Int);rotate_left
              · rw [if_neg c45] at H
                exact absurd H (by simp)
              rw [if_pos c45] at H;have c45b0 : decide (x10_2 < (l2.length : Int)) = true:=decide_eq_true c45;clear c45;by_cases c46 : x320000_2.length < 17592186044416;rotate_left
              · rw [if_neg c46] at H
                exact absurd H (by simp)
              rw [if_pos c46] at H;have LMc46:=A0_ c46;clear c46;obtain ⟨y327,hy327⟩ : ∃ y_ : List Int,y_ = (x320000_2 ++ [wrap64 ((rd l0_0 x10_2) - (rd l2 x10_2))]):=⟨_,rfl⟩;replace H : (logjamref25_Given.l0 kj25 a1 l2 t316 (wrap64 (x10_2 + 1)) l0_0 l0_1 l0_2 y327 l0_2) = some (r1,r2,r3,r4):=by first|(rw [hy327];with_reducible exact H)|(have H2_:=(Option.bind_some _ _).symm.trans H;rw [hy327];with_reducible exact H2_)|(have H2_:=(Option.bind_some _ _).symm.trans H;with_reducible exact H2_)|with_reducible exact H|(rw [hy327];exact H)|exact H
              have Ny327:=A0_ hy327;clear hy327;have H':=A0_ H;clear H
              try go_wp2
              have n0_:=A0_ (Kd.R_drew HO_8.out);have n1_:=A0_ (Kd.V_drew HO_315000.out);have n2_:=A0_ (Kd.V_drew HO_315001.out);have n3_:=A0_ (Kd.V_drew HO_315002.out);have n4_:=A0_ (Kd.R_drew HO_320000.out);have n5_:=A0_ (Kd.V_drew HO_320002.out);have n6_:=A0_ (blk_drew BK314.out);have n7_:=A0_ (blk_drew BK315.out);have n8_:=A0_ (blk_drew BK319.out);have n9_:=A0_ (b1_ HB.out);clear HO_8;clear HO_315000;clear HO_315001;clear HO_315002;clear HO_320000;clear HO_320002;clear BK314;clear BK315;clear BK319;clear HB;have HO_8:=n0_;have HO_315000:=n1_;have HO_315001:=n2_;have HO_315002:=n3_;have HO_320000:=n4_;have HO_320002:=n5_;have BK314:=n6_;have BK315:=n7_;have BK319:=n8_;have HB:=n9_;clear n0_ n1_ n2_ n3_ n4_ n5_ n6_ n7_ n8_ n9_;have p325 : 0 ≤ (x10_2 : Int):=of_decide_eq_true (by first|(with_reducible assumption)|assumption);have q325 : x10_2 < (l0_0.length : Int):=of_decide_eq_true (by first|(with_reducible assumption)|assumption);obtain ⟨ad325,e325,hx325_0⟩:=Kd.at_int (Kd.V_reads' HO_315000.out).2.2 x10_2 p325 q325;cases e325;replace p325:=eq_true p325;replace q325:=eq_true q325;have p326 : 0 ≤ (x10_2 : Int):=of_decide_eq_true (by first|(with_reducible assumption)|assumption);have q326 : x10_2 < (l2.length : Int):=of_decide_eq_true (by first|(with_reducible assumption)|assumption);obtain ⟨ad326,e326,hx326_0⟩:=Kd.at_int HR2.out x10_2 p326 q326;have hw326_0:=hx326_0;cases e326;replace hx326_0:=(HB.out.cell (bl_ w _ hx326_0)).trans hx326_0;replace p326:=eq_true p326;replace q326:=eq_true q326;refine start_ (n:=16) (S:=fun w'=>w'.cell? ⟨gb319,0,none⟩ = some (u320000) ∧ w'.cell? ⟨gb319,1,none⟩ = some (.slice none 0 0) ∧ w'.cell? ⟨gb319,2,none⟩ = some (.slice A0_2 l0_2.length c0_2) ∧ w'.cell? ⟨gb314,0,none⟩ = some (.slice (some ad325) l0_0.length c0_0) ∧ w'.cell? ⟨gb314,1,none⟩ = some (.slice A0_1 l0_1.length c0_1) ∧ w'.cell? ⟨gb314,2,none⟩ = some (.slice A0_2 l0_2.length c0_2) ∧ w'.cell? (ad325.add (x10_2).toNat) = some (.int .i64 (rd l0_0 x10_2)) ∧ w'.cell? (ad326.add (x10_2).toNat) = some (.int .i64 (rd l2 x10_2))) (ds:=[13,15]) #[false,false,false,false,false,false,false,false,false,false,false,false,false,false,false,false] (by kernel_rfl) rfl rfl ⟨(blk_cell BK319.out 0).trans rfl,(blk_cell BK319.out 1).trans rfl,(blk_cell BK319.out 2).trans rfl,(blk_cell BK314.out 0).trans rfl,(blk_cell BK314.out 1).trans rfl,(blk_cell BK314.out 2).trans rfl,hx325_0,((HB.out.cell (bl_ w _ hw326_0)).trans hw326_0)⟩ (fun hHeld=>?_);refine with_tabW logjamref25_Given.tab9 logjamref25_Given.bits9 (fun HT_ HW_=>?_)
              generalize wc.drew = w47 at HO_8 HO_315000 HO_315001 HO_315002 HO_320000 HO_320002 BK314 BK315 BK319 HB hx325_0 hx326_0 hHeld ⊢
              refine pure_ (i:=0) (N:=some 71) (v:=?_) (a':=?_) #[true,false,false,false,false,false,false,false,false,false,false,false,false,false,false,false] rfl rfl (any_of HT_.out (by kernel_rfl)) (fun _ _ _ h=>h) (Or.inl ⟨by rfl,?_⟩) ?_ ?_;rotate_left
              · intro w'
                go_simp
                with_reducible rfl
              rotate_left
              · simp only [Act.put,sA_,sZ_,sS_,i64_w,i32_w]
                rfl
              refine pure_ (i:=2) (N:=some 73) (v:=?_) (a':=?_) #[true,false,true,false,false,false,false,false,false,false,false,false,false,false,false,false] rfl rfl (any_of HT_.out (by kernel_rfl)) (fun _ _ _ h=>h) (Or.inl ⟨by rfl,?_⟩) ?_ ?_;rotate_left
              · intro w'
                go_simp
                with_reducible rfl
              rotate_left
              · simp only [Act.put,sA_,sZ_,sS_,i64_w,i32_w]
                rfl
              refine pure_ (i:=4) (N:=some 75) (v:=?_) (a':=?_) #[true,false,true,false,true,false,false,false,false,false,false,false,false,false,false,false] rfl rfl (any_of HT_.out (by kernel_rfl)) (fun _ _ _ h=>h) (Or.inl ⟨by rfl,?_⟩) ?_ ?_;rotate_left
              · intro w'
                go_simp
                with_reducible rfl
              rotate_left
              · simp only [Act.put,sA_,sZ_,sS_,i64_w,i32_w]
                rfl
              refine pure_ (i:=7) (N:=some 78) (v:=?_) (a':=?_) #[true,false,true,false,true,false,false,true,false,false,false,false,false,false,false,false] rfl rfl (any_of HT_.out (by kernel_rfl)) (fun _ _ _ h=>h) (Or.inl ⟨by rfl,?_⟩) ?_ ?_;rotate_left
              · intro w'
                go_simp
                with_reducible rfl
              rotate_left
              · simp only [Act.put,sA_,sZ_,sS_,i64_w,i32_w]
                rfl
              refine pure_ (i:=8) (N:=some 79) (v:=?_) (a':=?_) #[true,false,true,false,true,false,false,true,true,false,false,false,false,false,false,false] rfl rfl (any_of HT_.out (by kernel_rfl)) (fun _ _ _ h=>h) (Or.inl ⟨by rfl,?_⟩) ?_ ?_;rotate_left
              · intro w'
                go_simp
                with_reducible rfl
              rotate_left
              · simp only [Act.put,sA_,sZ_,sS_,i64_w,i32_w]
                rfl
              refine pure_ (i:=9) (N:=some 80) (v:=?_) (a':=?_) #[true,false,true,false,true,false,false,true,true,true,false,false,false,false,false,false] rfl rfl (any_of HT_.out (by kernel_rfl)) (fun _ _ _ h=>h) (Or.inl ⟨by rfl,?_⟩) ?_ ?_;rotate_left
              · intro w'
                go_simp
                with_reducible rfl
              rotate_left
              · simp only [Act.put,sA_,sZ_,sS_,i64_w,i32_w]
                rfl
              refine take_ (i:=1) (N:=some 72) (v:=?_) (a':=?_) #[true,true,true,false,true,false,false,true,true,true,false,false,false,false,false,false] rfl rfl (take_ofW HT_.out HW_.out (by kernel_rfl)) (fun _ _ _ h=>h) (Or.inl ⟨by rfl,?_⟩) hHeld ?_ ?_;rotate_left
              · rintro w' ⟨s0,s1,s2,s3,s4,s5,s6,s7⟩
                go_simp
                with_reducible rfl
              rotate_left
              · simp only [Act.put,sA_,sZ_,sS_,i64_w,i32_w]
                rfl
              refine take_ (i:=3) (N:=some 74) (v:=?_) (a':=?_) #[true,true,true,true,true,false,false,true,true,true,false,false,false,false,false,false] rfl rfl (take_ofW HT_.out HW_.out (by kernel_rfl)) (fun _ _ _ h=>h) (Or.inl ⟨by rfl,?_⟩) hHeld ?_ ?_;rotate_left
              · rintro w' ⟨s0,s1,s2,s3,s4,s5,s6,s7⟩
                go_simp
                with_reducible rfl
              rotate_left
              · simp only [Act.put,sA_,sZ_,sS_,i64_w,i32_w]
                rfl
              refine pure_ (i:=5) (N:=some 76) (v:=?_) (a':=?_) #[true,true,true,true,true,true,false,true,true,true,false,false,false,false,false,false] rfl rfl (any_of HT_.out (by kernel_rfl)) (fun _ _ _ h=>h) (Or.inl ⟨by rfl,?_⟩) ?_ ?_;rotate_left
              · intro w'
                go_simp
                with_reducible rfl
              rotate_left
              · simp only [Act.put,sA_,sZ_,sS_,i64_w,i32_w]
                rfl
              refine take_ (i:=6) (N:=some 77) (v:=?_) (a':=?_) #[true,true,true,true,true,true,true,true,true,true,false,false,false,false,false,false] rfl rfl (take_ofW HT_.out HW_.out (by kernel_rfl)) (fun _ _ _ h=>h) (Or.inl ⟨by rfl,?_⟩) hHeld ?_ ?_;rotate_left
              · rintro w' ⟨s0,s1,s2,s3,s4,s5,s6,s7⟩
                go_simp
                with_reducible rfl
              rotate_left
              · simp only [Act.put,sA_,sZ_,sS_,i64_w,i32_w]
                rfl
              refine take_ (i:=10) (N:=some 81) (v:=?_) (a':=?_) #[true,true,true,true,true,true,true,true,true,true,true,false,false,false,false,false] rfl rfl (take_ofW HT_.out HW_.out (by kernel_rfl)) (fun _ _ _ h=>h) (Or.inl ⟨by rfl,?_⟩) hHeld ?_ ?_;rotate_left
              · rintro w' ⟨s0,s1,s2,s3,s4,s5,s6,s7⟩
                go_simp
                with_reducible rfl
              rotate_left
              · simp only [Act.put,sA_,sZ_,sS_,i64_w,i32_w]
                rfl
              refine pure_ (i:=11) (N:=some 82) (v:=?_) (a':=?_) #[true,true,true,true,true,true,true,true,true,true,true,true,false,false,false,false] rfl rfl (any_of HT_.out (by kernel_rfl)) (fun _ _ _ h=>h) (Or.inl ⟨by rfl,?_⟩) ?_ ?_;rotate_left
              · intro w'
                go_simp
                with_reducible rfl
              rotate_left
              · simp only [Act.put,sA_,sZ_,sS_,i64_w,i32_w]
                rfl
              refine one_ (i:=12) (N:=some 83) #[true,true,true,true,true,true,true,true,true,true,true,true,true,false,false,false] rfl rfl (one_of HT_.out (by kernel_rfl)) (by decide) (fun K hK=>?_);refine value_ (w1:=?_) (v:=?_) (by rfl) rfl ?_ ?_;rotate_left 2
              · go_simp
                constructor
                · rfl
                · rfl
              refine hK.out _ _ ⟨(blk_cell (blk_alloc BK319.out _) 0).trans rfl,(blk_cell (blk_alloc BK319.out _) 1).trans rfl,(blk_cell (blk_alloc BK319.out _) 2).trans rfl,(blk_cell (blk_alloc BK314.out _) 0).trans rfl,(blk_cell (blk_alloc BK314.out _) 1).trans rfl,(blk_cell (blk_alloc BK314.out _) 2).trans rfl,(World.cell?_alloc_lt _ _ _ (bl_ _ _ (hHeld.2.2.2.2.2.2.1))).trans (hHeld.2.2.2.2.2.2.1),(World.cell?_alloc_lt _ _ _ (bl_ _ _ (((HB.out.cell (bl_ w _ hw326_0)).trans hw326_0)))).trans (((HB.out.cell (bl_ w _ hw326_0)).trans hw326_0))⟩ (fun hHeld=>?_);clear hK K;refine norm_ (a':=?_) ?_ ?_;rotate_left
              · show Act.put _ (some 83) _ = _
                simp only [Act.put,sA_,sZ_,sS_,i64_w,i32_w]
                rfl
              refine last_ (i:=13) (N:=some 84) #[true,true,true,true,true,true,true,true,true,true,true,true,true,true,false,false] rfl rfl (one_of HT_.out (by kernel_rfl)) (by decide) (fun K hK=>?_);refine Kd.R_append_step (Kd.int .i64) (w0:=w) w.heap.size (by rfl) (.tmp 72) (.tmp 83) 23 3 (.int .i64 0) 8 rfl Try.underlying23 info3 rfl (by decide) (by omega) u320000 x320000_2 (wrap64 ((rd l0_0 x10_2) - (rd l2 x10_2))) [.int .i64 (wrap64 ((rd l0_0 x10_2) - (rd l2 x10_2)))] (fun k_=>(w.heap.size ≤ k_) ∧ some k_ ≠ (v317 : Value).ownBlock) (fun _=>False) rfl rfl ?aP (fun _ hk=>hk.elim) ?aF ?aO ?aB ?aS ?aL ?_
              (case aP=>exact rfl)
              (case aB=>exact (by repeat (first|(with_reducible first|exact HB.out|apply ba_|apply pN_|apply b1_|refine bs_ ?_ GE314.out|refine bs_ ?_ GE315.out|refine bs_ ?_ GE319.out)|exact HB.out)))
              (case aF=>exact (fun k_ hk=>⟨(Nat.le_trans (below_size (by repeat (first|(with_reducible first|exact HB.out|apply ba_|apply pN_|apply b1_|refine bs_ ?_ GE314.out|refine bs_ ?_ GE315.out|refine bs_ ?_ GE319.out)|exact HB.out))) hk),Kd.fresh' (Kd.R_lt (by (with_reducible repeat first|apply Ra_|apply Rn_|apply Rd_);exact HO_8.out)) k_ hk⟩))
              (case aO=>exact (by (with_reducible repeat first|apply Ra_|apply Rn_|apply Rd_);exact HO_320000.out))
              (case aS=>exact (below_size (by repeat (first|(with_reducible first|exact HB.out|apply ba_|apply pN_|apply b1_|refine bs_ ?_ GE314.out|refine bs_ ?_ GE315.out|refine bs_ ?_ GE319.out)|exact HB.out))))
              (case aL=>have:=LMc46.out;omega)
              intro v328 w48 ho hb hg hat
              rw [← Ny327.out] at ho;have n0_:=A0_ (Kd.R_after (ok:=(fun k_=>(w.heap.size ≤ k_))) (by (with_reducible repeat first|apply Ra_|apply Rn_|apply Rd_);exact HO_8.out) hg hat);have n1_:=A0_ (Kd.V_afterv (ok:=(fun k_=>((P0_0_ k_ ∨ P0_1_ k_ ∨ P0_2_ k_) ∨ w.heap.size ≤ k_) ∧ some k_ ≠ (v317 : Value).ownBlock ∧ k_ ≠ gb314 ∧ k_ ≠ gb315 ∧ k_ ≠ gb319)) (by (with_reducible repeat first|apply Va_|apply Vn_|apply Vd_);exact Kd.V_mono HO_315000.out (fun _ hk=>⟨⟨hk.1,⟨hk.2.1,⟨hk.2.2.2.1,⟨hk.2.2.2.2.1,hk.2.2.2.2.2⟩⟩⟩⟩,hk.2.2.1⟩)) hg hat);have n2_:=A0_ (Kd.V_afterv (ok:=(fun k_=>((P0_0_ k_ ∨ P0_1_ k_ ∨ P0_2_ k_) ∨ w.heap.size ≤ k_) ∧ some k_ ≠ (v317 : Value).ownBlock ∧ k_ ≠ gb314 ∧ k_ ≠ gb315 ∧ k_ ≠ gb319)) (by (with_reducible repeat first|apply Va_|apply Vn_|apply Vd_);exact Kd.V_mono HO_315001.out (fun _ hk=>⟨⟨hk.1,⟨hk.2.1,⟨hk.2.2.2.1,⟨hk.2.2.2.2.1,hk.2.2.2.2.2⟩⟩⟩⟩,hk.2.2.1⟩)) hg hat);have n3_:=A0_ (Kd.V_afterv (ok:=(fun k_=>((P0_0_ k_ ∨ P0_1_ k_ ∨ P0_2_ k_) ∨ w.heap.size ≤ k_) ∧ some k_ ≠ (v317 : Value).ownBlock ∧ k_ ≠ gb314 ∧ k_ ≠ gb315 ∧ k_ ≠ gb319)) (by (with_reducible repeat first|apply Va_|apply Vn_|apply Vd_);exact Kd.V_mono HO_315002.out (fun _ hk=>⟨⟨hk.1,⟨hk.2.1,⟨hk.2.2.2.1,⟨hk.2.2.2.2.1,hk.2.2.2.2.2⟩⟩⟩⟩,hk.2.2.1⟩)) hg hat);have n4_:=A0_ (Kd.V_afterv (ok:=(fun k_=>((P0_0_ k_ ∨ P0_1_ k_ ∨ P0_2_ k_) ∨ w.heap.size ≤ k_) ∧ some k_ ≠ (v317 : Value).ownBlock ∧ k_ ≠ gb314 ∧ k_ ≠ gb315 ∧ k_ ≠ gb319)) (by (with_reducible repeat first|apply Va_|apply Vn_|apply Vd_);exact Kd.V_mono HO_320002.out (fun _ hk=>⟨⟨hk.1,⟨hk.2.1,⟨hk.2.2.2.1,⟨hk.2.2.2.2.1,hk.2.2.2.2.2⟩⟩⟩⟩,hk.2.2.1⟩)) hg hat);have n5_:=A0_ (blk_grown (g:=gb314) (o:=.cells #[.slice (some ad325) l0_0.length c0_0,.slice A0_1 l0_1.length c0_1,.slice A0_2 l0_2.length c0_2] 55 (0,0)) (by (with_reducible repeat first|refine bN_ ?_ _|refine bD_ ?_|refine bA_ ?_ _);exact BK314.out) hg (Kd.R_ne HO_320000.out BK314.out (by decide)));have n6_:=A0_ (blk_grown (g:=gb315) (o:=.cells #[.slice none 0 0,.slice none 0 0,.slice none 0 0] 55 (0,0)) (by (with_reducible repeat first|refine bN_ ?_ _|refine bD_ ?_|refine bA_ ?_ _);exact BK315.out) hg (Kd.R_ne HO_320000.out BK315.out (by decide)));have n7_:=A0_ (blk_grown (g:=gb319) (o:=.cells #[u320000,.slice none 0 0,.slice A0_2 l0_2.length c0_2] 55 (0,0)) (by (with_reducible repeat first|refine bN_ ?_ _|refine bD_ ?_|refine bA_ ?_ _);exact BK319.out) hg (Kd.R_ne HO_320000.out BK319.out (by decide)));have n8_:=A0_ (hb);have n9_:=A0_ (ho);clear HO_8;clear HO_315000;clear HO_315001;clear HO_315002;clear HO_320002;clear BK314;clear BK315;clear BK319;clear HB;clear HO_320000;have HO_8:=n0_;have HO_315000:=n1_;have HO_315001:=n2_;have HO_315002:=n3_;have HO_320002:=n4_;have BK314:=n5_;have BK315:=n6_;have BK319:=n7_;have HB:=n8_;have HO329:=n9_;clear n0_ n1_ n2_ n3_ n4_ n5_ n6_ n7_ n8_ n9_;clear ho hb hg hat;obtain ⟨Ao49,co49,eo49⟩:=Kd.R_slice HO329.out
              (first|subst eo49|(injection eo49 with f1_ f2_ f3_;have f4_:=f1_.symm;have f5_:=f3_.symm;clear f1_ f2_ f3_;subst f4_;subst f5_))
              refine hK.out _ _ ?_;clear hK K;refine norm_ (a':=?_) ?_ ?_;rotate_left
              · show Act.put _ (some 84) _ = _
                simp only [Act.put,sA_,sZ_,sS_,i64_w,i32_w]
                rfl
              refine pure_ (i:=14) (N:=some 85) (v:=?_) (a':=?_) #[true,true,true,true,true,true,true,true,true,true,true,true,true,true,true,false] rfl rfl (any_of HT_.out (by kernel_rfl)) (fun _ _ _ h=>h) (Or.inl ⟨by rfl,?_⟩) ?_ ?_;rotate_left
              · intro w'
                go_simp
                with_reducible rfl
              rotate_left
              · simp only [Act.put,sA_,sZ_,sS_,i64_w,i32_w]
                rfl
              refine last_ (i:=15) (N:=none) #[true,true,true,true,true,true,true,true,true,true,true,true,true,true,true,true] rfl rfl (one_of HT_.out (by kernel_rfl)) (by decide) (fun K hK=>?_);have hs50 : w48.cell? ⟨gb319,0,none⟩ = some (u320000):=(blk_cell BK319.out 0).trans rfl;have hfs50:=blk_frozen BK319.out 0;have hns50_0:=NB314_319.out;have hns50_1:=NB315_319.out;have hms50_0:=NB319_314.out;have hms50_1:=NB319_315.out;refine skip_ (w1:=?_) (by rfl) rfl ?_ ?_;rotate_left
              · go_simp
                rfl
              refine hK.out _ _ ?_;clear hK K;refine done_ (done_of HT_.out (by kernel_rfl)) ?_
              try go_wp2
              go_roundg kj25
              case measure=>have:=HJ3.out;have:=HK2.out;have:=HJ25.out;omega
              case rel=>exact ⟨(wrap64 (x10_2 + 1)),(y327),(.slice Ao49 y327.length co49),(by first|rfl|(simp;done)|(simp [*];done)),H',⟨by have:=HJ3.out;have:=HK2.out;have:=HJ25.out;omega⟩,⟨by (with_reducible repeat first|apply Ra_|apply Rn_|apply Rd_);exact Kd.R_mono (Kd.R_far (p:=⟨gb319,0,none⟩) (Kd.R_types HO_8.out BK319.out (by decide)) (fun _ hk=>hk.2) (.slice Ao49 y327.length co49)) (fun _ hk=>⟨hk.1.1,hk.1.2⟩)⟩,⟨by (with_reducible repeat first|apply Va_|apply Vn_|apply Vd_);exact Kd.V_mono (Kd.V_far (p:=⟨gb319,0,none⟩) (Kd.V_mono HO_315000.out (fun k_ hk=>(⟨hk,hk.1.2.2.2.2⟩ : _ ∧ k_ ≠ gb319))) (fun _ hk=>hk.2) (.slice Ao49 y327.length co49)) (fun _ hk=>⟨hk.1.1.1,⟨hk.1.1.2.1,⟨hk.1.2,⟨hk.1.1.2.2.1,⟨hk.1.1.2.2.2.1,hk.1.1.2.2.2.2⟩⟩⟩⟩⟩)⟩,⟨by (with_reducible repeat first|apply Va_|apply Vn_|apply Vd_);exact Kd.V_mono (Kd.V_far (p:=⟨gb319,0,none⟩) (Kd.V_mono HO_315001.out (fun k_ hk=>(⟨hk,hk.1.2.2.2.2⟩ : _ ∧ k_ ≠ gb319))) (fun _ hk=>hk.2) (.slice Ao49 y327.length co49)) (fun _ hk=>⟨hk.1.1.1,⟨hk.1.1.2.1,⟨hk.1.2,⟨hk.1.1.2.2.1,⟨hk.1.1.2.2.2.1,hk.1.1.2.2.2.2⟩⟩⟩⟩⟩)⟩,⟨by (with_reducible repeat first|apply Va_|apply Vn_|apply Vd_);exact Kd.V_mono (Kd.V_far (p:=⟨gb319,0,none⟩) (Kd.V_mono HO_315002.out (fun k_ hk=>(⟨hk,hk.1.2.2.2.2⟩ : _ ∧ k_ ≠ gb319))) (fun _ hk=>hk.2) (.slice Ao49 y327.length co49)) (fun _ hk=>⟨hk.1.1.1,⟨hk.1.1.2.1,⟨hk.1.2,⟨hk.1.1.2.2.1,⟨hk.1.1.2.2.2.1,hk.1.1.2.2.2.2⟩⟩⟩⟩⟩)⟩,⟨by (with_reducible repeat first|apply Ra_|apply Rn_|apply Rd_);exact Kd.R_mono (Kd.R_far (p:=⟨gb319,0,none⟩) (Kd.R_types HO329.out BK319.out (by decide)) (fun _ hk=>hk.2) (.slice Ao49 y327.length co49)) (fun _ hk=>⟨hk.1.1,hk.1.2⟩)⟩,⟨by (with_reducible repeat first|apply Va_|apply Vn_|apply Vd_);exact Kd.V_mono (Kd.V_far (p:=⟨gb319,0,none⟩) (Kd.V_mono HO_320002.out (fun k_ hk=>(⟨hk,hk.1.2.2.2.2⟩ : _ ∧ k_ ≠ gb319))) (fun _ hk=>hk.2) (.slice Ao49 y327.length co49)) (fun _ hk=>⟨hk.1.1.1,⟨hk.1.1.2.1,⟨hk.1.2,⟨hk.1.1.2.2.1,⟨hk.1.1.2.2.2.1,hk.1.1.2.2.2.2⟩⟩⟩⟩⟩)⟩,⟨by (with_reducible repeat first|refine bN_ ?_ _|refine bD_ ?_|refine bA_ ?_ _);refine blk_far ?_ NB314_319.out _;(with_reducible repeat first|refine bN_ ?_ _|refine bD_ ?_|refine bA_ ?_ _);exact BK314.out⟩,⟨by (with_reducible repeat first|refine bN_ ?_ _|refine bD_ ?_|refine bA_ ?_ _);refine blk_far ?_ NB315_319.out _;(with_reducible repeat first|refine bN_ ?_ _|refine bD_ ?_|refine bA_ ?_ _);exact BK315.out⟩,⟨by (with_reducible repeat first|refine bN_ ?_ _|refine bD_ ?_|refine bA_ ?_ _);refine blk_put (cs:=#[u320000,.slice none 0 0,.slice A0_2 l0_2.length c0_2]) ?_ 0 _ rfl;(with_reducible repeat first|refine bN_ ?_ _|refine bD_ ?_|refine bA_ ?_ _);exact BK319.out⟩,⟨by repeat (first|(with_reducible first|exact HB.out|apply ba_|apply pN_|apply b1_|refine bs_ ?_ GE314.out|refine bs_ ?_ GE315.out|refine bs_ ?_ GE319.out)|exact HB.out)⟩⟩
end Go.Proofs.Ytlggjacghemakaa.PClaimBack
