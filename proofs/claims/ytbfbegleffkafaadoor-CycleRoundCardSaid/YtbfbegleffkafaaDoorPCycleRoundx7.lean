/- Go functions as plain Lean functions, and that the calls come to them. Conditions: none. (Written by a program of this session.) -/
import Derived.Test.YtbfbegleffkafaaDoorPCycleRoundx0
import Derived.Test.YtbfbegleffkafaaDoorPCycleRoundx1
import Derived.Test.YtbfbegleffkafaaDoorPCycleRoundx2
import Derived.Test.YtbfbegleffkafaaDoorPCycleRoundx4
import Derived.Test.YtbfbegleffkafaaDoorPCycleRoundx5
import Derived.Test.YtbfbegleffkafaaDoorPCycleRoundx6
namespace Go.Proofs.YtbfbegleffkafaaDoor.PCycleRound
open Go.RowKit Go.Proofs.YtbfbegleffkafaaDoorW.PrintWords Go.Proofs.YtbfbegleffkafaaDoorW.PrintLast Go.Proofs.YtbfbegleffkafaaDoorW.PrintMore
attribute [local go_sem] max2_int min2_int max_two min_two max_three min_three max_four min_four   -- for this text's walks alone
set_option linter.unusedVariables false
set_option linter.unusedSimpArgs false

/-! ### logjamlaw27_CycleRound: function 4 -/
mutual
def logjamlaw27_CycleRound.l0 : Nat → List (S44) → List Int → Int → Bool → Int → Option (Bool)
  | 0,_,_,_,_,_=>none
  | k + 1,x0,x3,x4,x5,x6=>if x6 < (x3.length : Int) then ((logjamlaw26_Own.f k x0).bind fun t286=>(if 0 ≤ x6 then ((cycle_Next.f k t286 (rd x3 x6)).bind fun t290=>(logjamlaw27_CycleRound.l1 k x0 x3 x4 x5 x6 t290 false 0)) else (none))) else ((logjamref27_Pure.f k x0).bind fun t283=>(if (x5 == t283) = true then (if x5 = true then (if ((decide ((x3.length : Int) > 0)) == (x4 != 0)) = true then ((logjamlaw27_lives.f k).bind fun t284=>(some t284)) else (some false)) else (if ((decide ((x3.length : Int) > 0)) == false) = true then ((logjamlaw27_lives.f k).bind fun t285=>(some t285)) else (some false))) else (some false)))
def logjamlaw27_CycleRound.l1 : Nat → List (S44) → List Int → Int → Bool → Int → List Int → Bool → Int → Option (Bool)
  | 0,_,_,_,_,_,_,_,_=>none
  | k + 1,x0,x3,x4,x5,x6,x7,x8,x9=>if x9 < (x7.length : Int) then (if x8 = true then (logjamlaw27_CycleRound.l1 k x0 x3 x4 x5 x6 x7 true (wrap64 (x9 + 1))) else (if 0 ≤ x9 then (if (x3.length : Int) = 0 then (none) else (if 0 ≤ (Int.tmod (wrap64 (x6 + 1)) (x3.length : Int)) then (if (Int.tmod (wrap64 (x6 + 1)) (x3.length : Int)) < (x3.length : Int) then (logjamlaw27_CycleRound.l1 k x0 x3 x4 x5 x6 x7 ((rd x7 x9) == (rd x3 (Int.tmod (wrap64 (x6 + 1)) (x3.length : Int)))) (wrap64 (x9 + 1))) else (none)) else (none))) else (none))) else (if x8 = true then (if 0 ≤ x6 then (if x6 < (x3.length : Int) then (if (rd x3 x6) < 0 then (some false) else (if (rd x3 x6) > 63 then (some false) else (if 0 ≤ (IntKind.u64.wrap (rd x3 x6)) then (if (Go.bits .and .u64 (shr .u64 x4 (IntKind.u64.wrap (rd x3 x6))) 1) = 0 then (some false) else (logjamlaw27_CycleRound.l0 k x0 x3 x4 x5 (wrap64 (x6 + 1)))) else (none)))) else (none)) else (none)) else (some false))
end
def logjamlaw27_CycleRound.f (k : Nat) (l0 : List (S44)) : Option (Bool) := (logjamlaw26_Own.f k l0).bind fun t269 => ((logjamlaw26_Own.f k t269).bind fun t272 => ((cycle_Ring.f k t272).bind fun t275 => ((logjamlaw26_Own.f k t269).bind fun t278 => ((cycle_Doomed.f k t278).bind fun bt281 => (logjamlaw27_CycleRound.l0 k t269 t275 bt281.1 bt281.2 0)))))
theorem logjamlaw27_CycleRound.mono_l : ∀ k, (∀ y0 y1 y2 y3 y4, LeO (logjamlaw27_CycleRound.l0 k y0 y1 y2 y3 y4) (logjamlaw27_CycleRound.l0 (k + 1) y0 y1 y2 y3 y4)) ∧ (∀ y0 y1 y2 y3 y4 y5 y6 y7, LeO (logjamlaw27_CycleRound.l1 k y0 y1 y2 y3 y4 y5 y6 y7) (logjamlaw27_CycleRound.l1 (k + 1) y0 y1 y2 y3 y4 y5 y6 y7))
  | 0=>⟨fun _ _ _ _ _ r h=>by simp [logjamlaw27_CycleRound.l0] at h,fun _ _ _ _ _ _ _ _ r h=>by simp [logjamlaw27_CycleRound.l1] at h⟩
  | k + 1=>by
    obtain ⟨ih0,ih1⟩:=logjamlaw27_CycleRound.mono_l k;refine ⟨?_,?_⟩
    all_goals intros
    all_goals first | unfold logjamlaw27_CycleRound.l0 | unfold logjamlaw27_CycleRound.l1
    all_goals
      repeat' first
      | (with_reducible exact ih0 _ _ _ _ _)
      | (with_reducible exact ih1 _ _ _ _ _ _ _ _)
      | (with_reducible exact cycle_Doomed.mono _ _)
      | (with_reducible exact cycle_Next.mono _ _ _)
      | (with_reducible exact cycle_Ring.mono _ _)
      | (with_reducible exact logjamlaw26_Own.mono _ _)
      | (with_reducible exact logjamlaw27_lives.mono _)
      | (with_reducible exact logjamref27_Pure.mono _ _)
      | (with_reducible exact LeO.refl _)
      | (with_reducible exact LeO.none _)
      | (with_reducible refine LeO.ite ?_ ?_)
      | (with_reducible refine LeO.bind ?_ (fun _=>?_))
      | exact ih0 _ _ _ _ _
      | exact ih1 _ _ _ _ _ _ _ _
      | exact cycle_Doomed.mono _ _
      | exact cycle_Next.mono _ _ _
      | exact cycle_Ring.mono _ _
      | exact logjamlaw26_Own.mono _ _
      | exact logjamlaw27_lives.mono _
      | exact logjamref27_Pure.mono _ _
      | exact LeO.none _
      | refine LeO.ite ?_ ?_
      | refine LeO.bind ?_ (fun _=>?_)
theorem logjamlaw27_CycleRound.mono : ∀ a0 k, LeO (logjamlaw27_CycleRound.f k a0) (logjamlaw27_CycleRound.f (k + 1) a0) := by
  intro a0 k
  obtain ⟨ih0,ih1⟩:=logjamlaw27_CycleRound.mono_l k;unfold logjamlaw27_CycleRound.f
  repeat' first
      | (with_reducible exact ih0 _ _ _ _ _)
      | (with_reducible exact ih1 _ _ _ _ _ _ _ _)
      | (with_reducible exact cycle_Doomed.mono _ _)
      | (with_reducible exact cycle_Next.mono _ _ _)
      | (with_reducible exact cycle_Ring.mono _ _)
      | (with_reducible exact logjamlaw26_Own.mono _ _)
      | (with_reducible exact logjamlaw27_lives.mono _)
      | (with_reducible exact logjamref27_Pure.mono _ _)
      | (with_reducible exact LeO.refl _)
      | (with_reducible exact LeO.none _)
      | (with_reducible refine LeO.ite ?_ ?_)
      | (with_reducible refine LeO.bind ?_ (fun _=>?_))
      | exact ih0 _ _ _ _ _
      | exact ih1 _ _ _ _ _ _ _ _
      | exact cycle_Doomed.mono _ _
      | exact cycle_Next.mono _ _ _
      | exact cycle_Ring.mono _ _
      | exact logjamlaw26_Own.mono _ _
      | exact logjamlaw27_lives.mono _
      | exact logjamref27_Pure.mono _ _
      | exact LeO.none _
      | refine LeO.ite ?_ ?_
      | refine LeO.bind ?_ (fun _=>?_)
def logjamlaw27_CycleRound.T7 : Bool × List (List Nat × List Nat) := (true, [([], []), ([0], [0]), ([], []), ([], []), ([2, 3], [2, 3]), ([4], [4]), ([1, 5, 1], [1, 5]), ([6, 6, 0, 1, 2, 3, 4, 5, 6], [6]), ([7, 0, 1, 2, 3, 4, 5, 6, 7], [])])
def logjamlaw27_CycleRound.B7 : List Nat := [0, 1, 0, 0, 12, 28, 63, 127, 255]
theorem logjamlaw27_CycleRound.tab7 : rtab .any (opsOf Tryd.f4 7) = logjamlaw27_CycleRound.T7 := by kernel_rfl
theorem logjamlaw27_CycleRound.bits7 : waitsOk logjamlaw27_CycleRound.T7.2 logjamlaw27_CycleRound.B7 = true := by kernel_rfl
def logjamlaw27_CycleRound.T11 : Bool × List (List Nat × List Nat) := (true, [([], []), ([0], [0]), ([1], [1]), ([1], [1]), ([2, 3, 1], [1, 2, 3]), ([4, 1], [1, 4]), ([1], [1]), ([1], [1]), ([7, 1], [1, 7]), ([1], [1]), ([9, 1], [1, 9]), ([8, 10, 1], [1, 8, 10]), ([6, 11, 1], [1, 6, 11]), ([12, 1], [1, 12]), ([5, 13, 1], [1, 5, 13]), ([1, 14], [1, 14]), ([15, 1, 0, 1, 2, 3, 4, 5, 6, 7, 8, 9, 10, 11, 12, 13, 14, 15], [0, 15])])
def logjamlaw27_CycleRound.B11 : List Nat := [0, 1, 3, 3, 15, 31, 3, 3, 131, 3, 515, 1923, 4035, 8131, 16383, 32767, 65535]
theorem logjamlaw27_CycleRound.tab11 : rtab .any (opsOf Tryd.f4 11) = logjamlaw27_CycleRound.T11 := by kernel_rfl
theorem logjamlaw27_CycleRound.bits11 : waitsOk logjamlaw27_CycleRound.T11.2 logjamlaw27_CycleRound.B11 = true := by kernel_rfl
set_option maxHeartbeats 8000000 in
set_option maxRecDepth 100000 in
theorem logjamlaw27_CycleRound.calls (k : Nat) (A0 : Option Addr) (c0 : Nat) (l0 : List (S44)) (r : Bool) (w : World) (hr0 : Kd.C k44 w A0 l0.length l0) (hc0 : l0.length ≤ c0) (hT : Tb.Tab w) (h : logjamlaw27_CycleRound.f k l0 = some r) :
    Calls Tryd.prog 4 #[.slice A0 l0.length c0] w fun e w'=>e = .returned (.bool r) ∧ Below w.heap.size w w':=by
  have HR0:=A0_ hr0;have HC0:=A0_ hc0;clear hr0 hc0;have HT:=A0_ hT;clear hT;have HB:=A0_ (Below.refl w.heap.size w);have H : ((logjamlaw26_Own.f k l0).bind fun t269=>((logjamlaw26_Own.f k t269).bind fun t272=>((cycle_Ring.f k t272).bind fun t275=>((logjamlaw26_Own.f k t269).bind fun t278=>((cycle_Doomed.f k t278).bind fun bt281=>(logjamlaw27_CycleRound.l0 k t269 t275 bt281.1 bt281.2 0)))))) = some r:=h;clear h;replace H:=bm_ H;obtain ⟨t269,A20,H⟩:=H;replace H : ((logjamlaw26_Own.f k t269).bind fun t272=>((cycle_Ring.f k t272).bind fun t275=>((logjamlaw26_Own.f k t269).bind fun t278=>((cycle_Doomed.f k t278).bind fun bt281=>(logjamlaw27_CycleRound.l0 k t269 t275 bt281.1 bt281.2 0))))) = some r:=H;have A2:=A0_ A20;clear A20;replace H:=bm_ H;obtain ⟨t272,A30,H⟩:=H;replace H : ((cycle_Ring.f k t272).bind fun t275=>((logjamlaw26_Own.f k t269).bind fun t278=>((cycle_Doomed.f k t278).bind fun bt281=>(logjamlaw27_CycleRound.l0 k t269 t275 bt281.1 bt281.2 0)))) = some r:=H;have A3:=A0_ A30;clear A30;replace H:=bm_ H;obtain ⟨t275,A40,H⟩:=H;replace H : ((logjamlaw26_Own.f k t269).bind fun t278=>((cycle_Doomed.f k t278).bind fun bt281=>(logjamlaw27_CycleRound.l0 k t269 t275 bt281.1 bt281.2 0))) = some r:=H;have A4:=A0_ A40;clear A40;replace H:=bm_ H;obtain ⟨t278,A50,H⟩:=H;replace H : ((cycle_Doomed.f k t278).bind fun bt281=>(logjamlaw27_CycleRound.l0 k t269 t275 bt281.1 bt281.2 0)) = some r:=H;have A5:=A0_ A50;clear A50;replace H:=bm_ H;obtain ⟨⟨t281,t282⟩,A60,H⟩:=H;replace H : (logjamlaw27_CycleRound.l0 k t269 t275 t281 t282 0) = some r:=H;have A6:=A0_ A60;clear A60;have H':=A0_ H;clear H;go_enter Tryd.func4,Tryd.ntmps4
  go_wp2_with (first|((with_reducible refine gate_callee (f:=11) rfl ?_);refine goesL_ (some 11) rfl rfl Tryd.func11 (by kernel_rfl) rfl #[.slice A0 l0.length c0] rfl (by first|(simp only [List.map_toArray,List.map_cons,List.map_nil] <;> rfl)|rfl|(simp only [List.length_drop,List.length_take];rfl)) ?_;(with_reducible refine (logjamlaw26_Own.calls k _ _ l0 t269 _ ?side1 ?side2 A2.out).mono ?_);(case side1=>repeat (first|exact HR0.out|(with_reducible first|refine Ca_ ?_ _|refine Cn_ ?_ _|refine Cd_ ?_)));(case side2=>exact HC0.out);rintro e w7 ⟨v270,rfl,ho0,hb⟩;refine ⟨_,rfl,?_⟩;have n0_:=A0_ (Kd.R_lower ho0 (below_size (by repeat (first|(with_reducible first|exact HB.out|apply ba_|apply pN_|apply b1_)|exact HB.out))));have n1_:=A0_ (below_step (by repeat (first|(with_reducible first|exact HB.out|apply ba_|apply pN_|apply b1_)|exact HB.out)) hb);clear HB;have HO271:=n0_;have HB:=n1_;clear n0_ n1_;(try clear hb);(try clear hb2);(try clear hk);(try clear hi);(try clear ho0);obtain ⟨Ao8,co8,eo8⟩:=Kd.R_slice HO271.out;subst eo8)|((with_reducible refine gate_callee (f:=11) rfl ?_);refine goesL_ (some 13) rfl rfl Tryd.func11 (by kernel_rfl) rfl #[.slice Ao8 t269.length co8] rfl (by first|(simp only [List.map_toArray,List.map_cons,List.map_nil] <;> rfl)|rfl|(simp only [List.length_drop,List.length_take];rfl)) ?_;(with_reducible refine (logjamlaw26_Own.calls k _ _ t269 t272 _ ?side1 ?side2 A3.out).mono ?_);(case side1=>repeat (first|exact (Kd.R_reads' HO271.out).2.2|(with_reducible first|refine Ca_ ?_ _|refine Cn_ ?_ _|refine Cd_ ?_)));(case side2=>exact (Kd.R_reads' HO271.out).2.1);rintro e w9 ⟨v273,rfl,ho0,hb⟩;refine ⟨_,rfl,?_⟩;have n0_:=A0_ (Kd.R_elder' (by (with_reducible repeat first|apply Ra_|apply Rn_|apply Rd_);exact HO271.out) (Kd.R_base ho0) hb);have n1_:=A0_ (Kd.R_lower (Kd.R_new' ho0 (Kd.R_lt (by (with_reducible repeat first|apply Ra_|apply Rn_|apply Rd_);exact HO271.out))) (below_size (by repeat (first|(with_reducible first|exact HB.out|apply ba_|apply pN_|apply b1_)|exact HB.out))));have n2_:=A0_ (below_step (by repeat (first|(with_reducible first|exact HB.out|apply ba_|apply pN_|apply b1_)|exact HB.out)) hb);clear HO271;clear HB;have HO271:=n0_;have HO274:=n1_;have HB:=n2_;clear n0_ n1_ n2_;(try clear hb);(try clear hb2);(try clear hk);(try clear hi);(try clear ho0);obtain ⟨Ao10,co10,eo10⟩:=Kd.R_slice HO274.out;subst eo10)|((with_reducible refine gate_callee (f:=14) rfl ?_);refine goesL_ (some 14) rfl rfl Tryd.func14 (by kernel_rfl) rfl #[.slice Ao10 t272.length co10] rfl (by first|(simp only [List.map_toArray,List.map_cons,List.map_nil] <;> rfl)|rfl|(simp only [List.length_drop,List.length_take];rfl)) ?_;(with_reducible refine (cycle_Ring.calls k _ _ t272 t275 _ ?side1 ?side2 ?side3 A4.out).mono ?_);(case side1=>repeat (first|exact (Kd.R_reads' HO274.out).2.2|(with_reducible first|refine Ca_ ?_ _|refine Cn_ ?_ _|refine Cd_ ?_)));(case side2=>exact (Kd.R_reads' HO274.out).2.1);(case side3=>first|exact HT.out|(repeat (first|(with_reducible first|exact HT.out|apply Tb.alloc|apply Tb.drewN|apply Tb.drew)|exact HT.out));done|exact Tb.below HT.out (by repeat (first|(with_reducible first|exact HB.out|apply ba_|apply pN_|apply b1_)|exact HB.out)));rintro e w11 ⟨v276,rfl,ho0,hb⟩;refine ⟨_,rfl,?_⟩;have n0_:=A0_ (Kd.R_below (by (with_reducible repeat first|apply Ra_|apply Rn_|apply Rd_);exact HO271.out) hb);have n1_:=A0_ (Kd.R_below (by (with_reducible repeat first|apply Ra_|apply Rn_|apply Rd_);exact HO274.out) hb);have n2_:=A0_ (Kd.R_lower ho0 (below_size (by repeat (first|(with_reducible first|exact HB.out|apply ba_|apply pN_|apply b1_)|exact HB.out))));have n3_:=A0_ (below_step (by repeat (first|(with_reducible first|exact HB.out|apply ba_|apply pN_|apply b1_)|exact HB.out)) hb);clear HO271;clear HO274;clear HB;have HO271:=n0_;have HO274:=n1_;have HO277:=n2_;have HB:=n3_;clear n0_ n1_ n2_ n3_;(try clear hb);(try clear hb2);(try clear hk);(try clear hi);(try clear ho0))|((with_reducible refine gate_callee (f:=11) rfl ?_);refine goesL_ (some 17) rfl rfl Tryd.func11 (by kernel_rfl) rfl #[.slice Ao8 t269.length co8] rfl (by first|(simp only [List.map_toArray,List.map_cons,List.map_nil] <;> rfl)|rfl|(simp only [List.length_drop,List.length_take];rfl)) ?_;(with_reducible refine (logjamlaw26_Own.calls k _ _ t269 t278 _ ?side1 ?side2 A5.out).mono ?_);(case side1=>repeat (first|exact (Kd.R_reads' HO271.out).2.2|(with_reducible first|refine Ca_ ?_ _|refine Cn_ ?_ _|refine Cd_ ?_)));(case side2=>exact (Kd.R_reads' HO271.out).2.1);rintro e w12 ⟨v279,rfl,ho0,hb⟩;refine ⟨_,rfl,?_⟩;have n0_:=A0_ (Kd.R_elder' (by (with_reducible repeat first|apply Ra_|apply Rn_|apply Rd_);exact HO271.out) (Kd.R_base ho0) hb);have n1_:=A0_ (Kd.R_elder' (by (with_reducible repeat first|apply Ra_|apply Rn_|apply Rd_);exact HO274.out) (Kd.R_base ho0) hb);have n2_:=A0_ (Kd.R_below (by (with_reducible repeat first|apply Ra_|apply Rn_|apply Rd_);exact HO277.out) hb);have n3_:=A0_ (Kd.R_lower (Kd.R_new' (Kd.R_new' ho0 (Kd.R_lt (by (with_reducible repeat first|apply Ra_|apply Rn_|apply Rd_);exact HO271.out))) (Kd.R_lt (by (with_reducible repeat first|apply Ra_|apply Rn_|apply Rd_);exact HO274.out))) (below_size (by repeat (first|(with_reducible first|exact HB.out|apply ba_|apply pN_|apply b1_)|exact HB.out))));have n4_:=A0_ (below_step (by repeat (first|(with_reducible first|exact HB.out|apply ba_|apply pN_|apply b1_)|exact HB.out)) hb);clear HO271;clear HO274;clear HO277;clear HB;have HO271:=n0_;have HO274:=n1_;have HO277:=n2_;have HO280:=n3_;have HB:=n4_;clear n0_ n1_ n2_ n3_ n4_;(try clear hb);(try clear hb2);(try clear hk);(try clear hi);(try clear ho0);obtain ⟨Ao13,co13,eo13⟩:=Kd.R_slice HO280.out;subst eo13)|((with_reducible refine gate_callee (f:=13) rfl ?_);refine goesL_ (some 18) rfl rfl Tryd.func13 (by kernel_rfl) rfl #[.slice Ao13 t278.length co13] rfl (by first|(simp only [List.map_toArray,List.map_cons,List.map_nil] <;> rfl)|rfl|(simp only [List.length_drop,List.length_take];rfl)) ?_;(with_reducible refine (cycle_Doomed.calls k _ _ t278 t281 t282 _ ?side1 ?side2 A6.out).mono ?_);(case side1=>repeat (first|exact (Kd.R_reads' HO280.out).2.2|(with_reducible first|refine Ca_ ?_ _|refine Cn_ ?_ _|refine Cd_ ?_)));(case side2=>exact (Kd.R_reads' HO280.out).2.1);rintro e w14 ⟨rfl,hb⟩;refine ⟨_,rfl,?_⟩;have n0_:=A0_ (Kd.R_below (by (with_reducible repeat first|apply Ra_|apply Rn_|apply Rd_);exact HO271.out) hb);have n1_:=A0_ (Kd.R_below (by (with_reducible repeat first|apply Ra_|apply Rn_|apply Rd_);exact HO274.out) hb);have n2_:=A0_ (Kd.R_below (by (with_reducible repeat first|apply Ra_|apply Rn_|apply Rd_);exact HO277.out) hb);have n3_:=A0_ (Kd.R_below (by (with_reducible repeat first|apply Ra_|apply Rn_|apply Rd_);exact HO280.out) hb);have n4_:=A0_ (below_step (by repeat (first|(with_reducible first|exact HB.out|apply ba_|apply pN_|apply b1_)|exact HB.out)) hb);clear HO271;clear HO274;clear HO277;clear HO280;clear HB;have HO271:=n0_;have HO274:=n1_;have HO277:=n2_;have HO280:=n3_;have HB:=n4_;clear n0_ n1_ n2_ n3_ n4_;(try clear hb);(try clear hb2);(try clear hk);(try clear hi)))
  go_loopg [6] k (fun kq v6 w'=>∃ (x6_1 : Int),v6 = .int .i64 x6_1 ∧ Aside0 (logjamlaw27_CycleRound.l0 kq t269 t275 t281 t282 x6_1 = some r) ∧ Aside0 (kq ≤ k) ∧ Aside0 (Kd.R k44 44 w' w.heap.size (fun _=>True) (.slice Ao8 t269.length co8) t269) ∧ Aside0 (Kd.R (Kd.int .i64) 3 w' w.heap.size (fun _=>True) v276 t275) ∧ Aside0 (Below w.heap.size w w'))
  case atStart=>exact ⟨(0),(by first|rfl|(simp;done)|(simp [*];done)),H',⟨Nat.le_refl _⟩,⟨by (with_reducible repeat first|apply Ra_|apply Rn_|apply Rd_);exact Kd.R_mono HO271.out (fun _ hk=>trivial)⟩,⟨by (with_reducible repeat first|apply Ra_|apply Rn_|apply Rd_);exact HO277.out⟩,⟨by repeat (first|(with_reducible first|exact HB.out|apply ba_|apply pN_|apply b1_)|exact HB.out)⟩⟩
  case round =>
    clear H';(try clear c1);(try clear p2);(try clear c4);(try clear c11);(try clear c13);(try clear c14);obtain ⟨x6_1,rfl,HA,HK1,HO_0,HO_3,HB⟩:=hrel
    cases gk with
    | zero=>exact absurd HA.out (by simp [logjamlaw27_CycleRound.l0])
    | succ k1 =>
      have H:=HA.out;clear HA;simp only [logjamlaw27_CycleRound.l0] at H;by_cases c15 : x6_1 < (t275.length : Int);rotate_left
      · rw [if_neg c15] at H
        have c15b0 : decide (x6_1 < (t275.length : Int)) = false:=decide_eq_false c15;clear c15;replace H:=bm_ H;obtain ⟨t283,A490,H⟩:=H;replace H : (if (t282 == t283) = true then (if t282 = true then (if ((decide ((t275.length : Int) > 0)) == (t281 != 0)) = true then ((logjamlaw27_lives.f k1).bind fun t284=>(some t284)) else (some false)) else (if ((decide ((t275.length : Int) > 0)) == false) = true then ((logjamlaw27_lives.f k1).bind fun t285=>(some t285)) else (some false))) else (some false)) = some r:=H;have A49:=A0_ A490;clear A490;by_cases c50 : (t282 == t283) = true;rotate_left
        · rw [if_neg c50] at H
          have c50b0 : (t282 == t283) = false:=by simpa using c50
          (try (have c50b1 : decide (t282 = t283) = false:=by simpa using c50));(try (have c50b2 : (t282 == t283) = false:=by simpa using c50));(try (have c50b3 : ¬ (t282 = t283):=by simpa using c50));clear c50;obtain rfl:=Option.some.inj H;obtain ⟨Ao66,co66,eo66⟩:=Kd.R_slice HO_3.out;subst eo66;go_wp2_with (first|((with_reducible refine gate_callee (f:=12) rfl ?_);refine goesL_ (some 85) rfl rfl Tryd.func12 (by kernel_rfl) rfl #[.slice Ao8 t269.length co8] rfl (by first|(simp only [List.map_toArray,List.map_cons,List.map_nil] <;> rfl)|rfl|(simp only [List.length_drop,List.length_take];rfl)) ?_;(with_reducible refine (logjamref27_Pure.calls k1 _ _ t269 t283 _ ?side1 ?side2 A49.out).mono ?_);(case side1=>repeat (first|exact (Kd.R_reads' HO_0.out).2.2|(with_reducible first|refine Ca_ ?_ _|refine Cn_ ?_ _|refine Cd_ ?_)));(case side2=>exact (Kd.R_reads' HO_0.out).2.1);rintro e w67 ⟨rfl,hb⟩;refine ⟨_,rfl,?_⟩;have n0_:=A0_ (Kd.R_below (by (with_reducible repeat first|apply Ra_|apply Rn_|apply Rd_);exact HO_0.out) hb);have n1_:=A0_ (Kd.R_below (by (with_reducible repeat first|apply Ra_|apply Rn_|apply Rd_);exact HO_3.out) hb);have n2_:=A0_ (below_step (by repeat (first|(with_reducible first|exact HB.out|apply ba_|apply pN_|apply b1_)|exact HB.out)) hb);clear HO_0;clear HO_3;clear HB;have HO_0:=n0_;have HO_3:=n1_;have HB:=n2_;clear n0_ n1_ n2_;(try clear hb);(try clear hb2);(try clear hk);(try clear hi)));go_ret;exact ⟨by first|rfl|(simp [errW_none,errW_some] <;> rfl)|(simp [*,errW_none,errW_some] <;> rfl),by repeat (first|(with_reducible first|exact HB.out|apply ba_|apply pN_|apply b1_)|exact HB.out)⟩

        rw [if_pos c50] at H;have c50b0 : (t282 == t283) = true:=c50;(try (have c50b1 : decide (t282 = t283) = true:=by simpa using c50));(try (have c50b2 : (t282 == t283) = true:=by simpa using c50));clear c50;by_cases c51 : t282 = true
        · subst c51
          have H1 : (if ((decide ((t275.length : Int) > 0)) == (t281 != 0)) = true then ((logjamlaw27_lives.f k1).bind fun t284=>(some t284)) else (some false)) = some r:=by rw [if_pos rfl] at H;exact H
          clear H;have H:=H1;clear H1;by_cases c52 : ((decide ((t275.length : Int) > 0)) == (t281 != 0)) = true;rotate_left
          · rw [if_neg c52] at H
            have c52b0 : ((decide ((t275.length : Int) > 0)) == (t281 != 0)) = false:=Bool.eq_false_iff.mpr c52
            have c52b9 : (decide (0 < t275.length) == (t281 != 0)) = false:=(by have h_:=c52b0;rwa [show decide ((t275.length : Int) > 0) = decide (0 < t275.length) from by simp] at h_);(try (have c52b1 : decide ((decide ((t275.length : Int) > 0)) = (t281 != 0)) = false:=by simpa using c52));(try (have c52b2 : ((decide ((t275.length : Int) > 0)) == (t281 != 0)) = false:=by simpa using c52));(try (have c52b3 : ¬ ((decide ((t275.length : Int) > 0)) = (t281 != 0)):=by simpa using c52));clear c52;obtain rfl:=Option.some.inj H;obtain ⟨Ao57,co57,eo57⟩:=Kd.R_slice HO_3.out;subst eo57;go_wp2_with (first|((with_reducible refine gate_callee (f:=12) rfl ?_);refine goesL_ (some 85) rfl rfl Tryd.func12 (by kernel_rfl) rfl #[.slice Ao8 t269.length co8] rfl (by first|(simp only [List.map_toArray,List.map_cons,List.map_nil] <;> rfl)|rfl|(simp only [List.length_drop,List.length_take];rfl)) ?_;(with_reducible refine (logjamref27_Pure.calls k1 _ _ t269 t283 _ ?side1 ?side2 A49.out).mono ?_);(case side1=>repeat (first|exact (Kd.R_reads' HO_0.out).2.2|(with_reducible first|refine Ca_ ?_ _|refine Cn_ ?_ _|refine Cd_ ?_)));(case side2=>exact (Kd.R_reads' HO_0.out).2.1);rintro e w58 ⟨rfl,hb⟩;refine ⟨_,rfl,?_⟩;have n0_:=A0_ (Kd.R_below (by (with_reducible repeat first|apply Ra_|apply Rn_|apply Rd_);exact HO_0.out) hb);have n1_:=A0_ (Kd.R_below (by (with_reducible repeat first|apply Ra_|apply Rn_|apply Rd_);exact HO_3.out) hb);have n2_:=A0_ (below_step (by repeat (first|(with_reducible first|exact HB.out|apply ba_|apply pN_|apply b1_)|exact HB.out)) hb);clear HO_0;clear HO_3;clear HB;have HO_0:=n0_;have HO_3:=n1_;have HB:=n2_;clear n0_ n1_ n2_;(try clear hb);(try clear hb2);(try clear hk);(try clear hi)));go_ret;exact ⟨by first|rfl|(simp [errW_none,errW_some] <;> rfl)|(simp [*,errW_none,errW_some] <;> rfl),by repeat (first|(with_reducible first|exact HB.out|apply ba_|apply pN_|apply b1_)|exact HB.out)⟩
          rw [if_pos c52] at H;have c52b0 : ((decide ((t275.length : Int) > 0)) == (t281 != 0)) = true:=c52;have c52b9 : (decide (0 < t275.length) == (t281 != 0)) = true:=(by have h_:=c52b0;rwa [show decide ((t275.length : Int) > 0) = decide (0 < t275.length) from by simp] at h_);(try (have c52b1 : decide ((decide ((t275.length : Int) > 0)) = (t281 != 0)) = true:=by simpa using c52));(try (have c52b2 : ((decide ((t275.length : Int) > 0)) == (t281 != 0)) = true:=by simpa using c52));clear c52;replace H:=bm_ H;obtain ⟨t284,A530,H⟩:=H;replace H : (some t284) = some r:=H;have A53:=A0_ A530;clear A530;obtain rfl:=Option.some.inj H;obtain ⟨Ao54,co54,eo54⟩:=Kd.R_slice HO_3.out;subst eo54;go_wp2_with (first|((with_reducible refine gate_callee (f:=12) rfl ?_);refine goesL_ (some 85) rfl rfl Tryd.func12 (by kernel_rfl) rfl #[.slice Ao8 t269.length co8] rfl (by first|(simp only [List.map_toArray,List.map_cons,List.map_nil] <;> rfl)|rfl|(simp only [List.length_drop,List.length_take];rfl)) ?_;(with_reducible refine (logjamref27_Pure.calls k1 _ _ t269 t283 _ ?side1 ?side2 A49.out).mono ?_);(case side1=>repeat (first|exact (Kd.R_reads' HO_0.out).2.2|(with_reducible first|refine Ca_ ?_ _|refine Cn_ ?_ _|refine Cd_ ?_)));(case side2=>exact (Kd.R_reads' HO_0.out).2.1);rintro e w55 ⟨rfl,hb⟩;refine ⟨_,rfl,?_⟩;have n0_:=A0_ (Kd.R_below (by (with_reducible repeat first|apply Ra_|apply Rn_|apply Rd_);exact HO_0.out) hb);have n1_:=A0_ (Kd.R_below (by (with_reducible repeat first|apply Ra_|apply Rn_|apply Rd_);exact HO_3.out) hb);have n2_:=A0_ (below_step (by repeat (first|(with_reducible first|exact HB.out|apply ba_|apply pN_|apply b1_)|exact HB.out)) hb);clear HO_0;clear HO_3;clear HB;have HO_0:=n0_;have HO_3:=n1_;have HB:=n2_;clear n0_ n1_ n2_;(try clear hb);(try clear hb2);(try clear hk);(try clear hi))|(go_at_call 17;(with_reducible refine (logjamlaw27_lives.calls k1  t284 _ ?side1 A53.out).mono ?_);(case side1=>first|exact HT.out|(repeat (first|(with_reducible first|exact HT.out|apply Tb.alloc|apply Tb.drewN|apply Tb.drew)|exact HT.out));done|exact Tb.below HT.out (by repeat (first|(with_reducible first|exact HB.out|apply ba_|apply pN_|apply b1_)|exact HB.out)));rintro e w56 ⟨rfl,hb⟩;have n0_:=A0_ (Kd.R_below (by (with_reducible repeat first|apply Ra_|apply Rn_|apply Rd_);exact HO_0.out) hb);have n1_:=A0_ (Kd.R_below (by (with_reducible repeat first|apply Ra_|apply Rn_|apply Rd_);exact HO_3.out) hb);have n2_:=A0_ (below_step (by repeat (first|(with_reducible first|exact HB.out|apply ba_|apply pN_|apply b1_)|exact HB.out)) hb);clear HO_0;clear HO_3;clear HB;have HO_0:=n0_;have HO_3:=n1_;have HB:=n2_;clear n0_ n1_ n2_;(try clear hb);(try clear hb2);(try clear hk);(try clear hi)));go_ret;exact ⟨by first|rfl|(simp [errW_none,errW_some] <;> rfl)|(simp [*,errW_none,errW_some] <;> rfl),by repeat (first|(with_reducible first|exact HB.out|apply ba_|apply pN_|apply b1_)|exact HB.out)⟩
        replace c51:=Bool.eq_false_iff.mpr c51;subst c51;have H1 : (if ((decide ((t275.length : Int) > 0)) == false) = true then ((logjamlaw27_lives.f k1).bind fun t285=>(some t285)) else (some false)) = some r:=by rw [if_neg (show ¬ (false = true) by decide)] at H;exact H
        clear H;have H:=H1;clear H1;by_cases c59 : ((decide ((t275.length : Int) > 0)) == false) = true;rotate_left
        · rw [if_neg c59] at H
          have c59b0 : ((decide ((t275.length : Int) > 0)) == false) = false:=Bool.eq_false_iff.mpr c59
          have c59b9 : (decide (0 < t275.length) == false) = false:=(by have h_:=c59b0;rwa [show decide ((t275.length : Int) > 0) = decide (0 < t275.length) from by simp] at h_);(try (have c59b1 : decide ((decide ((t275.length : Int) > 0)) = false) = false:=by simpa using c59));(try (have c59b2 : ((decide ((t275.length : Int) > 0)) == false) = false:=by simpa using c59));(try (have c59b3 : ¬ ((decide ((t275.length : Int) > 0)) = false):=by simpa using c59));clear c59;obtain rfl:=Option.some.inj H;obtain ⟨Ao64,co64,eo64⟩:=Kd.R_slice HO_3.out;subst eo64;go_wp2_with (first|((with_reducible refine gate_callee (f:=12) rfl ?_);refine goesL_ (some 85) rfl rfl Tryd.func12 (by kernel_rfl) rfl #[.slice Ao8 t269.length co8] rfl (by first|(simp only [List.map_toArray,List.map_cons,List.map_nil] <;> rfl)|rfl|(simp only [List.length_drop,List.length_take];rfl)) ?_;(with_reducible refine (logjamref27_Pure.calls k1 _ _ t269 t283 _ ?side1 ?side2 A49.out).mono ?_);(case side1=>repeat (first|exact (Kd.R_reads' HO_0.out).2.2|(with_reducible first|refine Ca_ ?_ _|refine Cn_ ?_ _|refine Cd_ ?_)));(case side2=>exact (Kd.R_reads' HO_0.out).2.1);rintro e w65 ⟨rfl,hb⟩;refine ⟨_,rfl,?_⟩;have n0_:=A0_ (Kd.R_below (by (with_reducible repeat first|apply Ra_|apply Rn_|apply Rd_);exact HO_0.out) hb);have n1_:=A0_ (Kd.R_below (by (with_reducible repeat first|apply Ra_|apply Rn_|apply Rd_);exact HO_3.out) hb);have n2_:=A0_ (below_step (by repeat (first|(with_reducible first|exact HB.out|apply ba_|apply pN_|apply b1_)|exact HB.out)) hb);clear HO_0;clear HO_3;clear HB;have HO_0:=n0_;have HO_3:=n1_;have HB:=n2_;clear n0_ n1_ n2_;(try clear hb);(try clear hb2);(try clear hk);(try clear hi)));go_ret;exact ⟨by first|rfl|(simp [errW_none,errW_some] <;> rfl)|(simp [*,errW_none,errW_some] <;> rfl),by repeat (first|(with_reducible first|exact HB.out|apply ba_|apply pN_|apply b1_)|exact HB.out)⟩
        rw [if_pos c59] at H;have c59b0 : ((decide ((t275.length : Int) > 0)) == false) = true:=c59;have c59b9 : (decide (0 < t275.length) == false) = true:=(by have h_:=c59b0;rwa [show decide ((t275.length : Int) > 0) = decide (0 < t275.length) from by simp] at h_);(try (have c59b1 : decide ((decide ((t275.length : Int) > 0)) = false) = true:=by simpa using c59));(try (have c59b2 : ((decide ((t275.length : Int) > 0)) == false) = true:=by simpa using c59));clear c59;replace H:=bm_ H;obtain ⟨t285,A600,H⟩:=H;replace H : (some t285) = some r:=H;have A60:=A0_ A600;clear A600;obtain rfl:=Option.some.inj H;obtain ⟨Ao61,co61,eo61⟩:=Kd.R_slice HO_3.out;subst eo61;go_wp2_with (first|((with_reducible refine gate_callee (f:=12) rfl ?_);refine goesL_ (some 85) rfl rfl Tryd.func12 (by kernel_rfl) rfl #[.slice Ao8 t269.length co8] rfl (by first|(simp only [List.map_toArray,List.map_cons,List.map_nil] <;> rfl)|rfl|(simp only [List.length_drop,List.length_take];rfl)) ?_;(with_reducible refine (logjamref27_Pure.calls k1 _ _ t269 t283 _ ?side1 ?side2 A49.out).mono ?_);(case side1=>repeat (first|exact (Kd.R_reads' HO_0.out).2.2|(with_reducible first|refine Ca_ ?_ _|refine Cn_ ?_ _|refine Cd_ ?_)));(case side2=>exact (Kd.R_reads' HO_0.out).2.1);rintro e w62 ⟨rfl,hb⟩;refine ⟨_,rfl,?_⟩;have n0_:=A0_ (Kd.R_below (by (with_reducible repeat first|apply Ra_|apply Rn_|apply Rd_);exact HO_0.out) hb);have n1_:=A0_ (Kd.R_below (by (with_reducible repeat first|apply Ra_|apply Rn_|apply Rd_);exact HO_3.out) hb);have n2_:=A0_ (below_step (by repeat (first|(with_reducible first|exact HB.out|apply ba_|apply pN_|apply b1_)|exact HB.out)) hb);clear HO_0;clear HO_3;clear HB;have HO_0:=n0_;have HO_3:=n1_;have HB:=n2_;clear n0_ n1_ n2_;(try clear hb);(try clear hb2);(try clear hk);(try clear hi))|(go_at_call 17;(with_reducible refine (logjamlaw27_lives.calls k1  t285 _ ?side1 A60.out).mono ?_);(case side1=>first|exact HT.out|(repeat (first|(with_reducible first|exact HT.out|apply Tb.alloc|apply Tb.drewN|apply Tb.drew)|exact HT.out));done|exact Tb.below HT.out (by repeat (first|(with_reducible first|exact HB.out|apply ba_|apply pN_|apply b1_)|exact HB.out)));rintro e w63 ⟨rfl,hb⟩;have n0_:=A0_ (Kd.R_below (by (with_reducible repeat first|apply Ra_|apply Rn_|apply Rd_);exact HO_0.out) hb);have n1_:=A0_ (Kd.R_below (by (with_reducible repeat first|apply Ra_|apply Rn_|apply Rd_);exact HO_3.out) hb);have n2_:=A0_ (below_step (by repeat (first|(with_reducible first|exact HB.out|apply ba_|apply pN_|apply b1_)|exact HB.out)) hb);clear HO_0;clear HO_3;clear HB;have HO_0:=n0_;have HO_3:=n1_;have HB:=n2_;clear n0_ n1_ n2_;(try clear hb);(try clear hb2);(try clear hk);(try clear hi)));go_ret;exact ⟨by first|rfl|(simp [errW_none,errW_some] <;> rfl)|(simp [*,errW_none,errW_some] <;> rfl),by repeat (first|(with_reducible first|exact HB.out|apply ba_|apply pN_|apply b1_)|exact HB.out)⟩
      rw [if_pos c15] at H;have c15b0 : decide (x6_1 < (t275.length : Int)) = true:=decide_eq_true c15;clear c15;replace H:=bm_ H;obtain ⟨t286,A160,H⟩:=H;replace H : (if 0 ≤ x6_1 then ((cycle_Next.f k1 t286 (rd t275 x6_1)).bind fun t290=>(logjamlaw27_CycleRound.l1 k1 t269 t275 t281 t282 x6_1 t290 false 0)) else (none)) = some r:=H;have A16:=A0_ A160;clear A160;by_cases c17 : 0 ≤ x6_1;rotate_left
      · rw [if_neg c17] at H
        exact absurd H (by simp)
      rw [if_pos c17] at H;have c17b0 : decide (0 ≤ x6_1) = true:=decide_eq_true c17;clear c17;replace H:=bm_ H;obtain ⟨t290,A180,H⟩:=H;replace H : (logjamlaw27_CycleRound.l1 k1 t269 t275 t281 t282 x6_1 t290 false 0) = some r:=H;have A18:=A0_ A180;clear A180;have H':=A0_ H;clear H;obtain ⟨Ao19,co19,eo19⟩:=Kd.R_slice HO_3.out;subst eo19
      try go_wp2
      have n0_:=A0_ (Kd.R_drew HO_0.out);have n1_:=A0_ (Kd.R_drew HO_3.out);have n2_:=A0_ (b1_ HB.out);clear HO_0;clear HO_3;clear HB;have HO_0:=n0_;have HO_3:=n1_;have HB:=n2_;clear n0_ n1_ n2_;have p289 : 0 ≤ (x6_1 : Int):=of_decide_eq_true (by first|(with_reducible assumption)|assumption);have q289 : x6_1 < (t275.length : Int):=of_decide_eq_true (by first|(with_reducible assumption)|assumption);obtain ⟨ad289,e289,hx289_0⟩:=Kd.at_int (Kd.R_reads' HO_3.out).2.2 x6_1 p289 q289;cases e289;replace p289:=eq_true p289;replace q289:=eq_true q289;refine start_ (n:=9) (S:=fun w'=>w'.cell? (ad289.add (x6_1).toNat) = some (.int .i64 (rd t275 x6_1))) (ds:=[]) #[false,false,false,false,false,false,false,false,false] (by kernel_rfl) rfl rfl (hx289_0) (fun hHeld=>?_);refine with_tabW logjamlaw27_CycleRound.tab7 logjamlaw27_CycleRound.bits7 (fun HT_ HW_=>?_)
      generalize wr.drew = w20 at HO_0 HO_3 HB hx289_0 hHeld ⊢
      refine pure_ (i:=0) (N:=some 27) (v:=?_) (a':=?_) #[true,false,false,false,false,false,false,false,false] rfl rfl (any_of HT_.out (by kernel_rfl)) (fun _ _ _ h=>h) (Or.inl ⟨by rfl,?_⟩) ?_ ?_;rotate_left
      · intro w'
        go_simp
        with_reducible rfl
      rotate_left
      · simp only [Act.put,sA_,sZ_,sS_,i64_w,i32_w]
        rfl
      refine pure_ (i:=2) (N:=some 29) (v:=?_) (a':=?_) #[true,false,true,false,false,false,false,false,false] rfl rfl (any_of HT_.out (by kernel_rfl)) (fun _ _ _ h=>h) (Or.inl ⟨by rfl,?_⟩) ?_ ?_;rotate_left
      · intro w'
        go_simp
        with_reducible rfl
      rotate_left
      · simp only [Act.put,sA_,sZ_,sS_,i64_w,i32_w]
        rfl
      refine pure_ (i:=3) (N:=some 30) (v:=?_) (a':=?_) #[true,false,true,true,false,false,false,false,false] rfl rfl (any_of HT_.out (by kernel_rfl)) (fun _ _ _ h=>h) (Or.inl ⟨by rfl,?_⟩) ?_ ?_;rotate_left
      · intro w'
        go_simp
        with_reducible rfl
      rotate_left
      · simp only [Act.put,sA_,sZ_,sS_,i64_w,i32_w]
        rfl
      refine pure_ (i:=4) (N:=some 31) (v:=?_) (a':=?_) #[true,false,true,true,true,false,false,false,false] rfl rfl (any_of HT_.out (by kernel_rfl)) (fun _ _ _ h=>h) (Or.inl ⟨by rfl,?_⟩) ?_ ?_;rotate_left
      · intro w'
        go_simp
        with_reducible rfl
      rotate_left
      · simp only [Act.put,sA_,sZ_,sS_,i64_w,i32_w]
        rfl
      refine take_ (i:=5) (N:=some 32) (v:=?_) (a':=?_) #[true,false,true,true,true,true,false,false,false] rfl rfl (take_ofW HT_.out HW_.out (by kernel_rfl)) (fun _ _ _ h=>h) (Or.inl ⟨by rfl,?_⟩) hHeld ?_ ?_;rotate_left
      · intro w' s0
        go_simp
        with_reducible rfl
      rotate_left
      · simp only [Act.put,sA_,sZ_,sS_,i64_w,i32_w]
        rfl
      refine one_ (i:=1) (N:=some 28) #[true,true,true,true,true,true,false,false,false] rfl rfl (one_of HT_.out (by kernel_rfl)) (by decide) (fun K hK=>?_);refine goes_ Tryd.func11 (by kernel_rfl) rfl #[.slice Ao8 t269.length co8] (by rfl) rfl rfl (by first|(simp only [List.map_toArray,List.map_cons,List.map_nil] <;> rfl)|rfl|(simp only [List.length_drop,List.length_take];rfl)) ?_
      with_reducible refine (logjamlaw26_Own.calls k1 _ _ t269 t286 _ ?side1 ?side2 A16.out).mono ?_
      (case side1=>repeat (first|exact (Kd.R_reads' HO_0.out).2.2|(with_reducible first|refine Ca_ ?_ _|refine Cn_ ?_ _|refine Cd_ ?_)))
      (case side2=>exact (Kd.R_reads' HO_0.out).2.1)
      rintro e w21 ⟨v287,rfl,ho0,hb⟩
      have HS0_:=(hb.cell (bl_ _ _ (hHeld))).trans (hHeld);refine ⟨_,rfl,?_⟩;have n0_:=A0_ (Kd.R_elder' (by (with_reducible repeat first|apply Ra_|apply Rn_|apply Rd_);exact HO_0.out) (Kd.R_base ho0) hb);have n1_:=A0_ (Kd.R_below (by (with_reducible repeat first|apply Ra_|apply Rn_|apply Rd_);exact HO_3.out) hb);have n2_:=A0_ (Kd.R_lower (Kd.R_new' ho0 (Kd.R_lt (by (with_reducible repeat first|apply Ra_|apply Rn_|apply Rd_);exact HO_0.out))) (below_size (by repeat (first|(with_reducible first|exact HB.out|apply ba_|apply pN_|apply b1_)|exact HB.out))));have n3_:=A0_ (below_step (by repeat (first|(with_reducible first|exact HB.out|apply ba_|apply pN_|apply b1_)|exact HB.out)) hb);clear HO_0;clear HO_3;clear HB;have HO_0:=n0_;have HO_3:=n1_;have HO288:=n2_;have HB:=n3_;clear n0_ n1_ n2_ n3_;(try clear hb);(try clear hb2);(try clear hk);(try clear hi);(try clear ho0);obtain ⟨Ao22,co22,eo22⟩:=Kd.R_slice HO288.out
      (first|subst eo22|(injection eo22 with f1_ f2_ f3_;have f4_:=f1_.symm;have f5_:=f3_.symm;clear f1_ f2_ f3_;subst f4_;subst f5_))
      refine hK.out _ _ (HS0_) (fun hHeld=>?_);clear hK K;refine norm_ (a':=?_) ?_ ?_;rotate_left
      · show Act.put _ (some 28) _ = _
        simp only [Act.put,sA_,sZ_,sS_,i64_w,i32_w]
        rfl
      refine one_ (i:=6) (N:=some 33) #[true,true,true,true,true,true,true,false,false] rfl rfl (one_of HT_.out (by kernel_rfl)) (by decide) (fun K hK=>?_);refine goes_ Tryd.func15 (by kernel_rfl) rfl #[.slice Ao22 t286.length co22,.int .i64 (rd t275 x6_1)] (by rfl) rfl rfl (by first|(simp only [List.map_toArray,List.map_cons,List.map_nil] <;> rfl)|rfl|(simp only [List.length_drop,List.length_take];rfl)) ?_
      with_reducible refine (cycle_Next.calls k1 _ _ t286 (rd t275 x6_1) t290 _ ?side1 ?side2 A18.out).mono ?_
      (case side1=>repeat (first|exact (Kd.R_reads' HO288.out).2.2|(with_reducible first|refine Ca_ ?_ _|refine Cn_ ?_ _|refine Cd_ ?_)))
      (case side2=>exact (Kd.R_reads' HO288.out).2.1)
      rintro e w23 ⟨v291,rfl,ho0,hb⟩
      have HS0_:=(hb.cell (bl_ _ _ (hHeld))).trans (hHeld);refine ⟨_,rfl,?_⟩;have n0_:=A0_ (Kd.R_below (by (with_reducible repeat first|apply Ra_|apply Rn_|apply Rd_);exact HO_0.out) hb);have n1_:=A0_ (Kd.R_elder' (by (with_reducible repeat first|apply Ra_|apply Rn_|apply Rd_);exact HO_3.out) (Kd.R_base ho0) hb);have n2_:=A0_ (Kd.R_below (by (with_reducible repeat first|apply Ra_|apply Rn_|apply Rd_);exact HO288.out) hb);have n3_:=A0_ (Kd.R_lower (Kd.R_new' ho0 (Kd.R_lt (by (with_reducible repeat first|apply Ra_|apply Rn_|apply Rd_);exact HO_3.out))) (below_size (by repeat (first|(with_reducible first|exact HB.out|apply ba_|apply pN_|apply b1_)|exact HB.out))));have n4_:=A0_ (below_step (by repeat (first|(with_reducible first|exact HB.out|apply ba_|apply pN_|apply b1_)|exact HB.out)) hb);clear HO_0;clear HO_3;clear HO288;clear HB;have HO_0:=n0_;have HO_3:=n1_;have HO288:=n2_;have HO292:=n3_;have HB:=n4_;clear n0_ n1_ n2_ n3_ n4_;(try clear hb);(try clear hb2);(try clear hk);(try clear hi);(try clear ho0);refine hK.out _ _ (HS0_) (fun hHeld=>?_);clear hK K;refine norm_ (a':=?_) ?_ ?_;rotate_left
      · show Act.put _ (some 33) _ = _
        simp only [Act.put,sA_,sZ_,sS_,i64_w,i32_w]
        rfl
      refine pure_ (i:=7) (N:=some 7) (v:=?_) (a':=?_) #[true,true,true,true,true,true,true,true,false] rfl rfl (any_of HT_.out (by kernel_rfl)) (fun _ _ _ h=>h) (Or.inl ⟨by rfl,?_⟩) ?_ ?_;rotate_left
      · intro w'
        go_simp
        with_reducible rfl
      rotate_left
      · simp only [Act.put,sA_,sZ_,sS_,i64_w,i32_w]
        rfl
      refine pure_ (i:=8) (N:=some 8) (v:=?_) (a':=?_) #[true,true,true,true,true,true,true,true,true] rfl rfl (any_of HT_.out (by kernel_rfl)) (fun _ _ _ h=>h) (Or.inl ⟨by rfl,?_⟩) ?_ ?_;rotate_left
      · intro w'
        go_simp
        with_reducible rfl
      rotate_left
      · simp only [Act.put,sA_,sZ_,sS_,i64_w,i32_w]
        rfl
      refine done_ (done_of HT_.out (by kernel_rfl)) ?_
      try go_wp2
      go_loopg [8,9] k1 (fun kq v8 v9 w'=>∃ (x8_2 : Bool) (x9_2 : Int),v8 = .bool x8_2 ∧ v9 = .int .i64 x9_2 ∧ Aside0 (logjamlaw27_CycleRound.l1 kq t269 t275 t281 t282 x6_1 t290 x8_2 x9_2 = some r) ∧ Aside0 (kq ≤ k1) ∧ Aside0 (Kd.R k44 44 w' w.heap.size (fun _=>True) (.slice Ao8 t269.length co8) t269) ∧ Aside0 (Kd.R (Kd.int .i64) 3 w' w.heap.size (fun k_=>some k_ ≠ (v291 : Value).ownBlock) (.slice (some ad289) t275.length co19) t275) ∧ Aside0 (Kd.R (Kd.int .i64) 3 w' w.heap.size (fun k_=>some k_ ≠ ((.slice (some ad289) t275.length co19) : Value).ownBlock) v291 t290) ∧ Aside0 (Below w.heap.size w w'))
      case atStart=>exact ⟨(false),(0),(by first|rfl|(simp;done)|(simp [*];done)),(by first|rfl|(simp;done)|(simp [*];done)),H',⟨Nat.le_refl _⟩,⟨by (with_reducible repeat first|apply Ra_|apply Rn_|apply Rd_);exact Kd.R_mono HO_0.out (fun _ hk=>trivial)⟩,⟨by (with_reducible repeat first|apply Ra_|apply Rn_|apply Rd_);exact Kd.R_mono HO_3.out (fun _ hk=>hk.2)⟩,⟨by (with_reducible repeat first|apply Ra_|apply Rn_|apply Rd_);exact Kd.R_mono HO292.out (fun _ hk=>hk.2)⟩,⟨by repeat (first|(with_reducible first|exact HB.out|apply ba_|apply pN_|apply b1_)|exact HB.out)⟩⟩
      case round =>
        clear H';(try clear c1);(try clear p2);(try clear q2);(try clear hx2);(try clear c4);(try clear c11);(try clear c13);(try clear c14);(try clear c15);(try clear c15b0);(try clear c17);(try clear c17b0);(try clear hx289_0);(try clear p2);(try clear p289);(try clear q289);obtain ⟨x8_2,x9_2,rfl,rfl,HA,HK2,HO_0,HO_3,HO_7,HB⟩:=hrel
        cases gk with
        | zero=>exact absurd HA.out (by simp [logjamlaw27_CycleRound.l1])
        | succ k2 =>
          have H:=HA.out;clear HA;simp only [logjamlaw27_CycleRound.l1] at H;by_cases c24 : x9_2 < (t290.length : Int);rotate_left
          · rw [if_neg c24] at H
            have c24b0 : decide (x9_2 < (t290.length : Int)) = false:=decide_eq_false c24;clear c24;by_cases c35 : x8_2 = true;rotate_left
            · replace c35:=Bool.eq_false_iff.mpr c35
              subst c35;have H1 : (some false) = some r:=by rw [if_neg (show ¬ (false = true) by decide)] at H;exact H
              clear H;have H:=H1;clear H1;obtain rfl:=Option.some.inj H;obtain ⟨Ao48,co48,eo48⟩:=Kd.R_slice HO_7.out;subst eo48;go_wp2;go_ret;exact ⟨by first|rfl|(simp [errW_none,errW_some] <;> rfl)|(simp [*,errW_none,errW_some] <;> rfl),by repeat (first|(with_reducible first|exact HB.out|apply ba_|apply pN_|apply b1_)|exact HB.out)⟩
            subst c35;have H1 : (if 0 ≤ x6_1 then (if x6_1 < (t275.length : Int) then (if (rd t275 x6_1) < 0 then (some false) else (if (rd t275 x6_1) > 63 then (some false) else (if 0 ≤ (IntKind.u64.wrap (rd t275 x6_1)) then (if (Go.bits .and .u64 (shr .u64 t281 (IntKind.u64.wrap (rd t275 x6_1))) 1) = 0 then (some false) else (logjamlaw27_CycleRound.l0 k2 t269 t275 t281 t282 (wrap64 (x6_1 + 1)))) else (none)))) else (none)) else (none)) = some r:=by rw [if_pos rfl] at H;exact H
            clear H;have H:=H1;clear H1;by_cases c36 : 0 ≤ x6_1;rotate_left
            · rw [if_neg c36] at H
              exact absurd H (by simp)
            rw [if_pos c36] at H;have c36b0 : decide (0 ≤ x6_1) = true:=decide_eq_true c36;clear c36;by_cases c37 : x6_1 < (t275.length : Int);rotate_left
            · rw [if_neg c37] at H
              exact absurd H (by simp)
            rw [if_pos c37] at H;have c37b0 : decide (x6_1 < (t275.length : Int)) = true:=decide_eq_true c37;clear c37;by_cases c38 : (rd t275 x6_1) < 0
            · rw [if_pos c38] at H
              have c38b0 : decide ((rd t275 x6_1) < 0) = true:=decide_eq_true c38;clear c38;obtain rfl:=Option.some.inj H;obtain ⟨Ao39,co39,eo39⟩:=Kd.R_slice HO_7.out;subst eo39;have p295 : 0 ≤ (x6_1 : Int):=of_decide_eq_true (by first|(with_reducible assumption)|assumption);have q295 : x6_1 < (t275.length : Int):=of_decide_eq_true (by first|(with_reducible assumption)|assumption);obtain ⟨ad295,e295,hx295_0⟩:=Kd.at_int (Kd.R_reads' HO_3.out).2.2 x6_1 p295 q295;obtain rfl : ad289 = ad295:=(by injection e295);replace p295:=eq_true p295;replace q295:=eq_true q295;go_wp2;go_ret;exact ⟨by first|rfl|(simp [errW_none,errW_some] <;> rfl)|(simp [*,errW_none,errW_some] <;> rfl),by repeat (first|(with_reducible first|exact HB.out|apply ba_|apply pN_|apply b1_)|exact HB.out)⟩
            rw [if_neg c38] at H;have c38b0 : decide ((rd t275 x6_1) < 0) = false:=decide_eq_false c38;clear c38;by_cases c40 : (rd t275 x6_1) > 63
            · rw [if_pos c40] at H
              have c40b0 : decide (63 < (rd t275 x6_1)) = true:=decide_eq_true c40;clear c40;obtain rfl:=Option.some.inj H;obtain ⟨Ao41,co41,eo41⟩:=Kd.R_slice HO_7.out;subst eo41;have p295 : 0 ≤ (x6_1 : Int):=of_decide_eq_true (by first|(with_reducible assumption)|assumption);have q295 : x6_1 < (t275.length : Int):=of_decide_eq_true (by first|(with_reducible assumption)|assumption);obtain ⟨ad295,e295,hx295_0⟩:=Kd.at_int (Kd.R_reads' HO_3.out).2.2 x6_1 p295 q295;obtain rfl : ad289 = ad295:=(by injection e295);replace p295:=eq_true p295;replace q295:=eq_true q295;have p296 : 0 ≤ (x6_1 : Int):=of_decide_eq_true (by first|(with_reducible assumption)|assumption);have q296 : x6_1 < (t275.length : Int):=of_decide_eq_true (by first|(with_reducible assumption)|assumption);obtain ⟨ad296,e296,hx296_0⟩:=Kd.at_int (Kd.R_reads' HO_3.out).2.2 x6_1 p296 q296;obtain rfl : ad289 = ad296:=(by injection e296);replace p296:=eq_true p296;replace q296:=eq_true q296;go_wp2;go_ret;exact ⟨by first|rfl|(simp [errW_none,errW_some] <;> rfl)|(simp [*,errW_none,errW_some] <;> rfl),by repeat (first|(with_reducible first|exact HB.out|apply ba_|apply pN_|apply b1_)|exact HB.out)⟩
            rw [if_neg c40] at H;have c40b0 : decide (63 < (rd t275 x6_1)) = false:=decide_eq_false c40;clear c40;obtain ⟨ji42,hji42⟩ : ∃ j_ : Int,(IntKind.u64.wrap (rd t275 x6_1)) = j_:=⟨_,rfl⟩;replace H : (if 0 ≤ (ji42) then (if (Go.bits .and .u64 (shr .u64 t281 (ji42)) 1) = 0 then (some false) else (logjamlaw27_CycleRound.l0 k2 t269 t275 t281 t282 (wrap64 (x6_1 + 1)))) else (none)) = some r:=by first|(rw [hji42] at H;exact H)|(simp only [hji42] at H ⊢;exact H)
            by_cases c43 : 0 ≤ (ji42);rotate_left
            · rw [if_neg c43] at H
              exact absurd H (by simp)
            rw [if_pos c43] at H;have c43b0:=eq_true c43;have c43b1 : decide (0 ≤ (ji42)) = true:=decide_eq_true c43;clear c43;obtain ⟨ji44,hji44⟩ : ∃ j_ : Int,(shr .u64 t281 (ji42)) = j_:=⟨_,rfl⟩;replace H : (if (Go.bits .and .u64 (ji44) 1) = 0 then (some false) else (logjamlaw27_CycleRound.l0 k2 t269 t275 t281 t282 (wrap64 (x6_1 + 1)))) = some r:=by first|(rw [hji44] at H;exact H)|(simp only [hji44] at H ⊢;exact H)
            have hji44_ : (t281 / 2 ^ min (ji42).toNat 64) = ji44:=hji44;have hji44z : (ji42) ≤ 64 → (t281 / 2 ^ (ji42).toNat) = ji44:=shr_small hji44;by_cases c45 : (Go.bits .and .u64 (ji44) 1) = 0
            · rw [if_pos c45] at H
              have c45b0 : ((Go.bits .and .u64 (ji44) 1) == 0) = true:=beq_iff_eq.mpr c45;have c45b1 : ((Go.bits .and .u64 (ji44) 1) != 0) = false:=bne_eq_false_iff_eq.mpr c45;clear c45;obtain rfl:=Option.some.inj H;obtain ⟨Ao46,co46,eo46⟩:=Kd.R_slice HO_7.out;subst eo46;have p295 : 0 ≤ (x6_1 : Int):=of_decide_eq_true (by first|(with_reducible assumption)|assumption);have q295 : x6_1 < (t275.length : Int):=of_decide_eq_true (by first|(with_reducible assumption)|assumption);obtain ⟨ad295,e295,hx295_0⟩:=Kd.at_int (Kd.R_reads' HO_3.out).2.2 x6_1 p295 q295;obtain rfl : ad289 = ad295:=(by injection e295);replace p295:=eq_true p295;replace q295:=eq_true q295;have p296 : 0 ≤ (x6_1 : Int):=of_decide_eq_true (by first|(with_reducible assumption)|assumption);have q296 : x6_1 < (t275.length : Int):=of_decide_eq_true (by first|(with_reducible assumption)|assumption);obtain ⟨ad296,e296,hx296_0⟩:=Kd.at_int (Kd.R_reads' HO_3.out).2.2 x6_1 p296 q296;obtain rfl : ad289 = ad296:=(by injection e296);replace p296:=eq_true p296;replace q296:=eq_true q296;have p297 : 0 ≤ (x6_1 : Int):=of_decide_eq_true (by first|(with_reducible assumption)|assumption);have q297 : x6_1 < (t275.length : Int):=of_decide_eq_true (by first|(with_reducible assumption)|assumption);obtain ⟨ad297,e297,hx297_0⟩:=Kd.at_int (Kd.R_reads' HO_3.out).2.2 x6_1 p297 q297;obtain rfl : ad289 = ad297:=(by injection e297);replace p297:=eq_true p297;replace q297:=eq_true q297;go_wp2;go_ret;exact ⟨by first|rfl|(simp [errW_none,errW_some] <;> rfl)|(simp only [← hji42,← hji44];first|rfl|(simp [errW_none,errW_some] <;> rfl))|(simp [*,errW_none,errW_some] <;> rfl),by repeat (first|(with_reducible first|exact HB.out|apply ba_|apply pN_|apply b1_)|exact HB.out)⟩
            rw [if_neg c45] at H;have c45b0 : ((Go.bits .and .u64 (ji44) 1) == 0) = false:=beq_eq_false_iff_ne.mpr c45;have c45b1 : ((Go.bits .and .u64 (ji44) 1) != 0) = true:=bne_iff_ne.mpr c45;have H':=A0_ H;clear H;obtain ⟨Ao47,co47,eo47⟩:=Kd.R_slice HO_7.out;subst eo47;have p295 : 0 ≤ (x6_1 : Int):=of_decide_eq_true (by first|(with_reducible assumption)|assumption);have q295 : x6_1 < (t275.length : Int):=of_decide_eq_true (by first|(with_reducible assumption)|assumption);obtain ⟨ad295,e295,hx295_0⟩:=Kd.at_int (Kd.R_reads' HO_3.out).2.2 x6_1 p295 q295;obtain rfl : ad289 = ad295:=(by injection e295);replace p295:=eq_true p295;replace q295:=eq_true q295;have p296 : 0 ≤ (x6_1 : Int):=of_decide_eq_true (by first|(with_reducible assumption)|assumption);have q296 : x6_1 < (t275.length : Int):=of_decide_eq_true (by first|(with_reducible assumption)|assumption);obtain ⟨ad296,e296,hx296_0⟩:=Kd.at_int (Kd.R_reads' HO_3.out).2.2 x6_1 p296 q296;obtain rfl : ad289 = ad296:=(by injection e296);replace p296:=eq_true p296;replace q296:=eq_true q296;have p297 : 0 ≤ (x6_1 : Int):=of_decide_eq_true (by first|(with_reducible assumption)|assumption);have q297 : x6_1 < (t275.length : Int):=of_decide_eq_true (by first|(with_reducible assumption)|assumption);obtain ⟨ad297,e297,hx297_0⟩:=Kd.at_int (Kd.R_reads' HO_3.out).2.2 x6_1 p297 q297;obtain rfl : ad289 = ad297:=(by injection e297);replace p297:=eq_true p297;replace q297:=eq_true q297;go_wp2
            go_roundg k2
            case measure=>have:=HK1.out;have:=HK2.out;omega
            case rel=>exact ⟨(wrap64 (x6_1 + 1)),(by first|rfl|(simp;done)|(simp [*];done)),H',⟨by have:=HK1.out;have:=HK2.out;omega⟩,⟨by (with_reducible repeat first|apply Ra_|apply Rn_|apply Rd_);exact HO_0.out⟩,⟨by (with_reducible repeat first|apply Ra_|apply Rn_|apply Rd_);exact Kd.R_mono HO_3.out (fun _ hk=>trivial)⟩,⟨by repeat (first|(with_reducible first|exact HB.out|apply ba_|apply pN_|apply b1_)|exact HB.out)⟩⟩
          rw [if_pos c24] at H;have c24b0 : decide (x9_2 < (t290.length : Int)) = true:=decide_eq_true c24;clear c24;by_cases c25 : x8_2 = true
          · subst c25
            have H1 : (logjamlaw27_CycleRound.l1 k2 t269 t275 t281 t282 x6_1 t290 true (wrap64 (x9_2 + 1))) = some r:=by rw [if_pos rfl] at H;exact H
            clear H;have H:=H1;clear H1;have H':=A0_ H;clear H;obtain ⟨Ao26,co26,eo26⟩:=Kd.R_slice HO_7.out;subst eo26
            try go_wp2
            have n0_:=A0_ (Kd.R_drew HO_0.out);have n1_:=A0_ (Kd.R_drew HO_3.out);have n2_:=A0_ (Kd.R_drew HO_7.out);have n3_:=A0_ (b1_ HB.out);clear HO_0;clear HO_3;clear HO_7;clear HB;have HO_0:=n0_;have HO_3:=n1_;have HO_7:=n2_;have HB:=n3_;clear n0_ n1_ n2_ n3_;refine start_ (n:=17) (S:=fun w'=>True) (ds:=[]) #[false,false,false,false,false,false,false,false,false,false,false,false,false,false,false,false,false] (by kernel_rfl) rfl rfl trivial (fun hHeld=>?_);refine with_tabW logjamlaw27_CycleRound.tab11 logjamlaw27_CycleRound.bits11 (fun HT_ HW_=>?_)
            generalize wr.drew = w27 at HO_0 HO_3 HO_7 HB hHeld ⊢
            refine pure_ (i:=0) (N:=some 40) (v:=?_) (a':=?_) #[true,false,false,false,false,false,false,false,false,false,false,false,false,false,false,false,false] rfl rfl (any_of HT_.out (by kernel_rfl)) (fun _ _ _ h=>h) (Or.inl ⟨by rfl,?_⟩) ?_ ?_;rotate_left
            · intro w'
              go_simp
              with_reducible rfl
            rotate_left
            · simp only [Act.put,sA_,sZ_,sS_,i64_w,i32_w]
              rfl
            refine pure_ (i:=1) (N:=some 41) (v:=?_) (a':=?_) #[true,true,false,false,false,false,false,false,false,false,false,false,false,false,false,false,false] rfl rfl (any_of HT_.out (by kernel_rfl)) (fun _ _ _ h=>h) (Or.inl ⟨by rfl,?_⟩) ?_ ?_;rotate_left
            · intro w'
              go_simp
              with_reducible rfl
            rotate_left
            · simp only [Act.put,sA_,sZ_,sS_,i64_w,i32_w]
              rfl
            refine pure_ (i:=2) (N:=some 42) (v:=undef) (a':=?_) #[true,true,true,false,false,false,false,false,false,false,false,false,false,false,false,false,false] rfl rfl (any_of HT_.out (by kernel_rfl)) (fun _ _ _ h=>h) (Or.inr ⟨by rfl,rfl⟩) ?_ ?_;rotate_left
            · simp only [Act.put,sA_,sZ_,sS_,i64_w,i32_w]
              rfl
            refine pure_ (i:=3) (N:=some 43) (v:=undef) (a':=?_) #[true,true,true,true,false,false,false,false,false,false,false,false,false,false,false,false,false] rfl rfl (any_of HT_.out (by kernel_rfl)) (fun _ _ _ h=>h) (Or.inr ⟨by rfl,rfl⟩) ?_ ?_;rotate_left
            · simp only [Act.put,sA_,sZ_,sS_,i64_w,i32_w]
              rfl
            refine pure_ (i:=4) (N:=some 44) (v:=undef) (a':=?_) #[true,true,true,true,true,false,false,false,false,false,false,false,false,false,false,false,false] rfl rfl (any_of HT_.out (by kernel_rfl)) (fun _ _ _ h=>h) (Or.inr ⟨by rfl,rfl⟩) ?_ ?_;rotate_left
            · simp only [Act.put,sA_,sZ_,sS_,i64_w,i32_w]
              rfl
            refine pure_ (i:=5) (N:=some 45) (v:=undef) (a':=?_) #[true,true,true,true,true,true,false,false,false,false,false,false,false,false,false,false,false] rfl rfl (any_of HT_.out (by kernel_rfl)) (fun _ _ _ h=>h) (Or.inr ⟨by rfl,rfl⟩) ?_ ?_;rotate_left
            · simp only [Act.put,sA_,sZ_,sS_,i64_w,i32_w]
              rfl
            refine pure_ (i:=6) (N:=some 46) (v:=undef) (a':=?_) #[true,true,true,true,true,true,true,false,false,false,false,false,false,false,false,false,false] rfl rfl (any_of HT_.out (by kernel_rfl)) (fun _ _ _ h=>h) (Or.inr ⟨by rfl,rfl⟩) ?_ ?_;rotate_left
            · simp only [Act.put,sA_,sZ_,sS_,i64_w,i32_w]
              rfl
            refine pure_ (i:=7) (N:=some 47) (v:=undef) (a':=?_) #[true,true,true,true,true,true,true,true,false,false,false,false,false,false,false,false,false] rfl rfl (any_of HT_.out (by kernel_rfl)) (fun _ _ _ h=>h) (Or.inr ⟨by rfl,rfl⟩) ?_ ?_;rotate_left
            · simp only [Act.put,sA_,sZ_,sS_,i64_w,i32_w]
              rfl
            refine pure_ (i:=8) (N:=some 48) (v:=undef) (a':=?_) #[true,true,true,true,true,true,true,true,true,false,false,false,false,false,false,false,false] rfl rfl (any_of HT_.out (by kernel_rfl)) (fun _ _ _ h=>h) (Or.inr ⟨by rfl,rfl⟩) ?_ ?_;rotate_left
            · simp only [Act.put,sA_,sZ_,sS_,i64_w,i32_w]
              rfl
            refine pure_ (i:=9) (N:=some 49) (v:=undef) (a':=?_) #[true,true,true,true,true,true,true,true,true,true,false,false,false,false,false,false,false] rfl rfl (any_of HT_.out (by kernel_rfl)) (fun _ _ _ h=>h) (Or.inr ⟨by rfl,rfl⟩) ?_ ?_;rotate_left
            · simp only [Act.put,sA_,sZ_,sS_,i64_w,i32_w]
              rfl
            refine pure_ (i:=10) (N:=some 50) (v:=undef) (a':=?_) #[true,true,true,true,true,true,true,true,true,true,true,false,false,false,false,false,false] rfl rfl (any_of HT_.out (by kernel_rfl)) (fun _ _ _ h=>h) (Or.inr ⟨by rfl,rfl⟩) ?_ ?_;rotate_left
            · simp only [Act.put,sA_,sZ_,sS_,i64_w,i32_w]
              rfl
            refine pure_ (i:=11) (N:=some 51) (v:=undef) (a':=?_) #[true,true,true,true,true,true,true,true,true,true,true,true,false,false,false,false,false] rfl rfl (any_of HT_.out (by kernel_rfl)) (fun _ _ _ h=>h) (Or.inr ⟨by rfl,rfl⟩) ?_ ?_;rotate_left
            · simp only [Act.put,sA_,sZ_,sS_,i64_w,i32_w]
              rfl
            refine pure_ (i:=12) (N:=some 52) (v:=undef) (a':=?_) #[true,true,true,true,true,true,true,true,true,true,true,true,true,false,false,false,false] rfl rfl (any_of HT_.out (by kernel_rfl)) (fun _ _ _ h=>h) (Or.inr ⟨by rfl,rfl⟩) ?_ ?_;rotate_left
            · simp only [Act.put,sA_,sZ_,sS_,i64_w,i32_w]
              rfl
            refine pure_ (i:=13) (N:=some 53) (v:=undef) (a':=?_) #[true,true,true,true,true,true,true,true,true,true,true,true,true,true,false,false,false] rfl rfl (any_of HT_.out (by kernel_rfl)) (fun _ _ _ h=>h) (Or.inr ⟨by rfl,rfl⟩) ?_ ?_;rotate_left
            · simp only [Act.put,sA_,sZ_,sS_,i64_w,i32_w]
              rfl
            refine pure_ (i:=14) (N:=some 54) (v:=undef) (a':=?_) #[true,true,true,true,true,true,true,true,true,true,true,true,true,true,true,false,false] rfl rfl (any_of HT_.out (by kernel_rfl)) (fun _ _ _ h=>h) (Or.inr ⟨by rfl,rfl⟩) ?_ ?_;rotate_left
            · simp only [Act.put,sA_,sZ_,sS_,i64_w,i32_w]
              rfl
            refine pure_ (i:=15) (N:=some 55) (v:=?_) (a':=?_) #[true,true,true,true,true,true,true,true,true,true,true,true,true,true,true,true,false] rfl rfl (any_of HT_.out (by kernel_rfl)) (fun _ _ _ h=>h) (Or.inl ⟨by rfl,?_⟩) ?_ ?_;rotate_left
            · intro w'
              go_simp
              with_reducible rfl
            rotate_left
            · simp only [Act.put,sA_,sZ_,sS_,i64_w,i32_w]
              rfl
            refine pure_ (i:=16) (N:=some 8) (v:=?_) (a':=?_) #[true,true,true,true,true,true,true,true,true,true,true,true,true,true,true,true,true] rfl rfl (any_of HT_.out (by kernel_rfl)) (fun _ _ _ h=>h) (Or.inl ⟨by rfl,?_⟩) ?_ ?_;rotate_left
            · intro w'
              go_simp
              with_reducible rfl
            rotate_left
            · simp only [Act.put,sA_,sZ_,sS_,i64_w,i32_w]
              rfl
            refine done_ (done_of HT_.out (by kernel_rfl)) ?_
            try go_wp2
            go_roundg k2
            case measure=>have:=HK1.out;have:=HK2.out;omega
            case rel=>exact ⟨(true),(wrap64 (x9_2 + 1)),(by first|rfl|(simp;done)|(simp [*];done)),(by first|rfl|(simp;done)|(simp [*];done)),H',⟨by have:=HK1.out;have:=HK2.out;omega⟩,⟨by (with_reducible repeat first|apply Ra_|apply Rn_|apply Rd_);exact HO_0.out⟩,⟨by (with_reducible repeat first|apply Ra_|apply Rn_|apply Rd_);exact HO_3.out⟩,⟨by (with_reducible repeat first|apply Ra_|apply Rn_|apply Rd_);exact HO_7.out⟩,⟨by repeat (first|(with_reducible first|exact HB.out|apply ba_|apply pN_|apply b1_)|exact HB.out)⟩⟩
          replace c25:=Bool.eq_false_iff.mpr c25;subst c25;have H1 : (if 0 ≤ x9_2 then (if (t275.length : Int) = 0 then (none) else (if 0 ≤ (Int.tmod (wrap64 (x6_1 + 1)) (t275.length : Int)) then (if (Int.tmod (wrap64 (x6_1 + 1)) (t275.length : Int)) < (t275.length : Int) then (logjamlaw27_CycleRound.l1 k2 t269 t275 t281 t282 x6_1 t290 ((rd t290 x9_2) == (rd t275 (Int.tmod (wrap64 (x6_1 + 1)) (t275.length : Int)))) (wrap64 (x9_2 + 1))) else (none)) else (none))) else (none)) = some r:=by rw [if_neg (show ¬ (false = true) by decide)] at H;exact H
          clear H;have H:=H1;clear H1;by_cases c28 : 0 ≤ x9_2;rotate_left
          · rw [if_neg c28] at H
            exact absurd H (by simp)
          rw [if_pos c28] at H;have c28b0 : decide (0 ≤ x9_2) = true:=decide_eq_true c28;clear c28;by_cases c29 : (t275.length : Int) = 0
          · rw [if_pos c29] at H
            exact absurd H (by simp)
          rw [if_neg c29] at H;have c29b0 : ((t275.length : Int) == 0) = false:=beq_eq_false_iff_ne.mpr c29;have c29b1 : ((t275.length : Int) != 0) = true:=bne_iff_ne.mpr c29;have c29b2 : ¬ (t275 = []):=fun h_=>c29 (by rw [h_];rfl)
          obtain ⟨ji30,hji30⟩ : ∃ j_ : Int,(Int.tmod (wrap64 (x6_1 + 1)) (t275.length : Int)) = j_:=⟨_,rfl⟩;replace H : (if 0 ≤ (ji30) then (if (ji30) < (t275.length : Int) then (logjamlaw27_CycleRound.l1 k2 t269 t275 t281 t282 x6_1 t290 ((rd t290 x9_2) == (rd t275 (ji30))) (wrap64 (x9_2 + 1))) else (none)) else (none)) = some r:=by first|(rw [hji30] at H;exact H)|(simp only [hji30] at H ⊢;exact H)
          by_cases c31 : 0 ≤ (ji30);rotate_left
          · rw [if_neg c31] at H
            exact absurd H (by simp)
          rw [if_pos c31] at H;have c31b0 : decide (0 ≤ (ji30)) = true:=decide_eq_true c31;clear c31;by_cases c32 : (ji30) < (t275.length : Int);rotate_left
          · rw [if_neg c32] at H
            exact absurd H (by simp)
          rw [if_pos c32] at H;have c32b0 : decide ((ji30) < (t275.length : Int)) = true:=decide_eq_true c32;clear c32;have H':=A0_ H;clear H;obtain ⟨Ao33,co33,eo33⟩:=Kd.R_slice HO_7.out;subst eo33
          try go_wp2
          have n0_:=A0_ (Kd.R_drew HO_0.out);have n1_:=A0_ (Kd.R_drew HO_3.out);have n2_:=A0_ (Kd.R_drew HO_7.out);have n3_:=A0_ (b1_ HB.out);clear HO_0;clear HO_3;clear HO_7;clear HB;have HO_0:=n0_;have HO_3:=n1_;have HO_7:=n2_;have HB:=n3_;clear n0_ n1_ n2_ n3_;have p293 : 0 ≤ (x9_2 : Int):=of_decide_eq_true (by first|(with_reducible assumption)|assumption);have q293 : x9_2 < (t290.length : Int):=of_decide_eq_true (by first|(with_reducible assumption)|assumption);obtain ⟨ad293,e293,hx293_0⟩:=Kd.at_int (Kd.R_reads' HO_7.out).2.2 x9_2 p293 q293;cases e293;replace p293:=eq_true p293;replace q293:=eq_true q293;have p294 : 0 ≤ ((ji30) : Int):=of_decide_eq_true (by first|(with_reducible assumption)|assumption);have q294 : (ji30) < (t275.length : Int):=of_decide_eq_true (by first|(with_reducible assumption)|assumption);obtain ⟨ad294,e294,hx294_0⟩:=Kd.at_int (Kd.R_reads' HO_3.out).2.2 (ji30) p294 q294;obtain rfl : ad289 = ad294:=(by injection e294);replace p294:=eq_true p294;replace q294:=eq_true q294;refine start_ (n:=17) (S:=fun w'=>w'.cell? (ad293.add (x9_2).toNat) = some (.int .i64 (rd t290 x9_2)) ∧ w'.cell? (ad289.add ((ji30)).toNat) = some (.int .i64 (rd t275 (ji30)))) (ds:=[]) #[false,false,false,false,false,false,false,false,false,false,false,false,false,false,false,false,false] (by kernel_rfl) rfl rfl ⟨hx293_0,hx294_0⟩ (fun hHeld=>?_);refine with_tabW logjamlaw27_CycleRound.tab11 logjamlaw27_CycleRound.bits11 (fun HT_ HW_=>?_)
          generalize wr.drew = w34 at HO_0 HO_3 HO_7 HB hx293_0 hx294_0 hHeld ⊢
          refine pure_ (i:=0) (N:=some 40) (v:=?_) (a':=?_) #[true,false,false,false,false,false,false,false,false,false,false,false,false,false,false,false,false] rfl rfl (any_of HT_.out (by kernel_rfl)) (fun _ _ _ h=>h) (Or.inl ⟨by rfl,?_⟩) ?_ ?_;rotate_left
          · intro w'
            go_simp
            with_reducible rfl
          rotate_left
          · simp only [Act.put,sA_,sZ_,sS_,i64_w,i32_w]
            rfl
          refine pure_ (i:=1) (N:=some 41) (v:=?_) (a':=?_) #[true,true,false,false,false,false,false,false,false,false,false,false,false,false,false,false,false] rfl rfl (any_of HT_.out (by kernel_rfl)) (fun _ _ _ h=>h) (Or.inl ⟨by rfl,?_⟩) ?_ ?_;rotate_left
          · intro w'
            go_simp
            with_reducible rfl
          rotate_left
          · simp only [Act.put,sA_,sZ_,sS_,i64_w,i32_w]
            rfl
          refine pure_ (i:=2) (N:=some 42) (v:=?_) (a':=?_) #[true,true,true,false,false,false,false,false,false,false,false,false,false,false,false,false,false] rfl rfl (any_of HT_.out (by kernel_rfl)) (fun _ _ _ h=>h) (Or.inl ⟨by rfl,?_⟩) ?_ ?_;rotate_left
          · intro w'
            go_simp
            with_reducible rfl
          rotate_left
          · simp only [Act.put,sA_,sZ_,sS_,i64_w,i32_w]
            rfl
          refine pure_ (i:=3) (N:=some 43) (v:=?_) (a':=?_) #[true,true,true,true,false,false,false,false,false,false,false,false,false,false,false,false,false] rfl rfl (any_of HT_.out (by kernel_rfl)) (fun _ _ _ h=>h) (Or.inl ⟨by rfl,?_⟩) ?_ ?_;rotate_left
          · intro w'
            go_simp
            with_reducible rfl
          rotate_left
          · simp only [Act.put,sA_,sZ_,sS_,i64_w,i32_w]
            rfl
          refine pure_ (i:=4) (N:=some 44) (v:=?_) (a':=?_) #[true,true,true,true,true,false,false,false,false,false,false,false,false,false,false,false,false] rfl rfl (any_of HT_.out (by kernel_rfl)) (fun _ _ _ h=>h) (Or.inl ⟨by rfl,?_⟩) ?_ ?_;rotate_left
          · intro w'
            go_simp
            with_reducible rfl
          rotate_left
          · simp only [Act.put,sA_,sZ_,sS_,i64_w,i32_w]
            rfl
          refine pure_ (i:=6) (N:=some 46) (v:=?_) (a':=?_) #[true,true,true,true,true,false,true,false,false,false,false,false,false,false,false,false,false] rfl rfl (any_of HT_.out (by kernel_rfl)) (fun _ _ _ h=>h) (Or.inl ⟨by rfl,?_⟩) ?_ ?_;rotate_left
          · intro w'
            go_simp
            with_reducible rfl
          rotate_left
          · simp only [Act.put,sA_,sZ_,sS_,i64_w,i32_w]
            rfl
          refine pure_ (i:=7) (N:=some 47) (v:=?_) (a':=?_) #[true,true,true,true,true,false,true,true,false,false,false,false,false,false,false,false,false] rfl rfl (any_of HT_.out (by kernel_rfl)) (fun _ _ _ h=>h) (Or.inl ⟨by rfl,?_⟩) ?_ ?_;rotate_left
          · intro w'
            go_simp
            with_reducible rfl
          rotate_left
          · simp only [Act.put,sA_,sZ_,sS_,i64_w,i32_w]
            rfl
          refine pure_ (i:=8) (N:=some 48) (v:=?_) (a':=?_) #[true,true,true,true,true,false,true,true,true,false,false,false,false,false,false,false,false] rfl rfl (any_of HT_.out (by kernel_rfl)) (fun _ _ _ h=>h) (Or.inl ⟨by rfl,?_⟩) ?_ ?_;rotate_left
          · intro w'
            go_simp
            with_reducible rfl
          rotate_left
          · simp only [Act.put,sA_,sZ_,sS_,i64_w,i32_w]
            rfl
          refine pure_ (i:=9) (N:=some 49) (v:=?_) (a':=?_) #[true,true,true,true,true,false,true,true,true,true,false,false,false,false,false,false,false] rfl rfl (any_of HT_.out (by kernel_rfl)) (fun _ _ _ h=>h) (Or.inl ⟨by rfl,?_⟩) ?_ ?_;rotate_left
          · intro w'
            go_simp
            with_reducible rfl
          rotate_left
          · simp only [Act.put,sA_,sZ_,sS_,i64_w,i32_w]
            rfl
          refine pure_ (i:=10) (N:=some 50) (v:=?_) (a':=?_) #[true,true,true,true,true,false,true,true,true,true,true,false,false,false,false,false,false] rfl rfl (any_of HT_.out (by kernel_rfl)) (fun _ _ _ h=>h) (Or.inl ⟨by rfl,?_⟩) ?_ ?_;rotate_left
          · intro w'
            go_simp
            with_reducible rfl
          rotate_left
          · simp only [Act.put,sA_,sZ_,sS_,i64_w,i32_w]
            rfl
          refine pure_ (i:=11) (N:=some 51) (v:=?_) (a':=?_) #[true,true,true,true,true,false,true,true,true,true,true,true,false,false,false,false,false] rfl rfl (any_of HT_.out (by kernel_rfl)) (fun _ _ _ h=>h) (Or.inl ⟨by rfl,?_⟩) ?_ ?_;rotate_left
          · intro w'
            go_simp
            with_reducible rfl
          rotate_left
          · simp only [Act.put,sA_,sZ_,sS_,i64_w,i32_w]
            rfl
          refine pure_ (i:=12) (N:=some 52) (v:=?_) (a':=?_) #[true,true,true,true,true,false,true,true,true,true,true,true,true,false,false,false,false] rfl rfl (any_of HT_.out (by kernel_rfl)) (fun _ _ _ h=>h) (Or.inl ⟨by rfl,?_⟩) ?_ ?_;rotate_left
          · intro w'
            go_simp
            with_reducible rfl
          rotate_left
          · simp only [Act.put,sA_,sZ_,sS_,i64_w,i32_w]
            rfl
          refine take_ (i:=5) (N:=some 45) (v:=?_) (a':=?_) #[true,true,true,true,true,true,true,true,true,true,true,true,true,false,false,false,false] rfl rfl (take_ofW HT_.out HW_.out (by kernel_rfl)) (fun _ _ _ h=>h) (Or.inl ⟨by rfl,?_⟩) hHeld ?_ ?_;rotate_left
          · rintro w' ⟨s0,s1⟩
            go_simp
            with_reducible rfl
          rotate_left
          · simp only [Act.put,sA_,sZ_,sS_,i64_w,i32_w]
            rfl
          refine take_ (i:=13) (N:=some 53) (v:=?_) (a':=?_) #[true,true,true,true,true,true,true,true,true,true,true,true,true,true,false,false,false] rfl rfl (take_ofW HT_.out HW_.out (by kernel_rfl)) (fun _ _ _ h=>h) (Or.inl ⟨by rfl,?_⟩) hHeld ?_ ?_;rotate_left
          · rintro w' ⟨s0,s1⟩
            go_simp
            with_reducible rfl
          rotate_left
          · simp only [Act.put,sA_,sZ_,sS_,i64_w,i32_w]
            rfl
          refine pure_ (i:=14) (N:=some 54) (v:=?_) (a':=?_) #[true,true,true,true,true,true,true,true,true,true,true,true,true,true,true,false,false] rfl rfl (any_of HT_.out (by kernel_rfl)) (fun _ _ _ h=>h) (Or.inl ⟨by rfl,?_⟩) ?_ ?_;rotate_left
          · intro w'
            go_simp
            with_reducible rfl
          rotate_left
          · simp only [Act.put,sA_,sZ_,sS_,i64_w,i32_w]
            rfl
          refine pure_ (i:=15) (N:=some 55) (v:=?_) (a':=?_) #[true,true,true,true,true,true,true,true,true,true,true,true,true,true,true,true,false] rfl rfl (any_of HT_.out (by kernel_rfl)) (fun _ _ _ h=>h) (Or.inl ⟨by rfl,?_⟩) ?_ ?_;rotate_left
          · intro w'
            go_simp
            with_reducible rfl
          rotate_left
          · simp only [Act.put,sA_,sZ_,sS_,i64_w,i32_w]
            rfl
          refine pure_ (i:=16) (N:=some 8) (v:=?_) (a':=?_) #[true,true,true,true,true,true,true,true,true,true,true,true,true,true,true,true,true] rfl rfl (any_of HT_.out (by kernel_rfl)) (fun _ _ _ h=>h) (Or.inl ⟨by rfl,?_⟩) ?_ ?_;rotate_left
          · intro w'
            go_simp
            with_reducible rfl
          rotate_left
          · simp only [Act.put,sA_,sZ_,sS_,i64_w,i32_w]
            rfl
          refine done_ (done_of HT_.out (by kernel_rfl)) ?_
          try go_wp2
          go_roundg k2
          case measure=>have:=HK1.out;have:=HK2.out;omega
          case rel=>exact ⟨(((rd t290 x9_2) == (rd t275 (ji30)))),(wrap64 (x9_2 + 1)),(by first|rfl|(simp;done)|(simp only [← hji30] <;> (first|rfl|simp))|(simp [*];done)),(by first|rfl|(simp;done)|(simp [*];done)),H',⟨by have:=HK1.out;have:=HK2.out;omega⟩,⟨by (with_reducible repeat first|apply Ra_|apply Rn_|apply Rd_);exact HO_0.out⟩,⟨by (with_reducible repeat first|apply Ra_|apply Rn_|apply Rd_);exact HO_3.out⟩,⟨by (with_reducible repeat first|apply Ra_|apply Rn_|apply Rd_);exact HO_7.out⟩,⟨by repeat (first|(with_reducible first|exact HB.out|apply ba_|apply pN_|apply b1_)|exact HB.out)⟩⟩
/-- THE ONE PURE STATEMENT of logjamlaw27_CycleRound: yours. -/
def ok68 (s : S68) : Prop := (fun x => (Lit.int .i64 x).wf = true) s.f0 ∧ (fun x => (Lit.int .i64 x).wf = true) s.f1
def ok66 (s : S66) : Prop := (fun x => (Lit.int .i64 x).wf = true) s.f0 ∧ (fun l => (∀ a ∈ l, (ok68) a) ∧ l.length * 16 ≤ 140737488351232) s.f1
def ok44 (s : S44) : Prop := (fun _ => True) s.f0 ∧ (fun l => (∀ a ∈ l, (fun l => (∀ a ∈ l, (ok66) a) ∧ l.length * 32 ≤ 140737488351232) a) ∧ l.length * 24 ≤ 140737488351232) s.f1
def logjamlaw27_CycleRound.Pure : Prop := ∀ (l0 : List (S44)), (fun l => (∀ a ∈ l, (ok44) a) ∧ l.length * 32 ≤ 140737488351232) l0 → ∃ k, logjamlaw27_CycleRound.f k l0 = some true

end Go.Proofs.YtbfbegleffkafaaDoor.PCycleRound
