/- Go functions as plain Lean functions, and that the calls come to them. Conditions: none. (Written by a program of this session.) -/
import Derived.Test.YtlggjacghemakaaPClaimAnyx0
import Derived.Test.YtlggjacghemakaaPClaimAnyx5
namespace Go.Proofs.Ytlggjacghemakaa.PClaimAny
open Go.RowKit Go.Proofs.YtlggjacghemakaaW.PrintWords Go.Proofs.YtlggjacghemakaaW.PrintLast Go.Proofs.YtlggjacghemakaaW.PrintMore
attribute [local go_sem] max2_int min2_int max_two min_two max_three min_three max_four min_four   -- for this text's walks alone
set_option linter.unusedVariables false
set_option linter.unusedSimpArgs false

/-! ### claim_order: function 44 -/
mutual
def claim_order.l0 : Nat → List Int → List Bool → List (List Int) → Int → Int → List Int → List (List Int) → List (List Int) → Option (List Int × Bool)
  | 0, _, _, _, _, _, _, _, _ => none
  | k + 1, x4, x6, x7, x25, x26, x183000, x183001, x183002 => if x26 < x25 then ((claim_left.f k x183000 x183001 x183002 x26).bind fun t192 => (if 0 ≤ x26 then (if x26 < (x7.length : Int) then (claim_order.l0 k x4 x6 (x7.set (x26 : Int).toNat t192) x25 (wrap64 (x26 + 1)) x183000 x183001 x183002) else (none)) else (none))) else (claim_order.l1 k x4 ([] : List Int) x6 x7 x183000 x183001 x183002)
def claim_order.l1 : Nat → List Int → List Int → List Bool → List (List Int) → List Int → List (List Int) → List (List Int) → Option (List Int × Bool)
  | 0, _, _, _, _, _, _, _ => none
  | k + 1, x4, x5, x6, x7, x183000, x183001, x183002 => if (x5.length : Int) < (x183001.length : Int) then (claim_order.l2 k x4 x5 x6 x7 (-1) (x7.length : Int) 0 x183000 x183001 x183002) else (some (x5, true))
def claim_order.j3 : Nat → List Int → List Int → List Bool → List (List Int) → Int → List Int → List (List Int) → List (List Int) → Option (List Int × Bool)
  | 0, _, _, _, _, _, _, _, _ => none
  | k + 1, x4, x5, x6, x7, x9, x183000, x183001, x183002 => if x9 < 0 then (some (([] : List Int), false)) else (if 0 ≤ x9 then (if x9 < (x6.length : Int) then (if x5.length < 17592186044416 then (if x9 < (x183001.length : Int) then (claim_order.l3 k x4 (x5 ++ [x9]) (x6.set (x9 : Int).toNat true) x7 (rd_L1 x183001 x9) ((rd_L1 x183001 x9).length : Int) 0 x183000 x183001 x183002) else (none)) else (none)) else (none)) else (none))
def claim_order.l3 : Nat → List Int → List Int → List Bool → List (List Int) → List Int → Int → Int → List Int → List (List Int) → List (List Int) → Option (List Int × Bool)
  | 0, _, _, _, _, _, _, _, _, _, _ => none
  | k + 1, x4, x5, x6, x7, x75, x76, x77, x183000, x183001, x183002 => if x77 < x76 then (if 0 ≤ x77 then (if x77 < (x75.length : Int) then (if x77 < (x4.length : Int) then (claim_order.l3 k (x4.set (x77 : Int).toNat (wrap64 ((rd x4 x77) + (rd x75 x77)))) x5 x6 x7 x75 x76 (wrap64 (x77 + 1)) x183000 x183001 x183002) else (none)) else (none)) else (none)) else (claim_order.l1 k x4 x5 x6 x7 x183000 x183001 x183002)
def claim_order.l2 : Nat → List Int → List Int → List Bool → List (List Int) → Int → Int → Int → List Int → List (List Int) → List (List Int) → Option (List Int × Bool)
  | 0, _, _, _, _, _, _, _, _, _, _ => none
  | k + 1, x4, x5, x6, x7, x9, x43, x44, x183000, x183001, x183002 => if x44 < x43 then (if 0 ≤ x44 then (if x44 < (x6.length : Int) then (if rdOf false x6 x44 = true then (claim_order.l2 k x4 x5 x6 x7 x9 x43 (wrap64 (x44 + 1)) x183000 x183001 x183002) else (if x44 < (x7.length : Int) then ((claim_under.f k (rd_L1 x7 x44) x4).bind fun t198 => (if t198 = true then (claim_order.j3 k x4 x5 x6 x7 x44 x183000 x183001 x183002) else (claim_order.l2 k x4 x5 x6 x7 x9 x43 (wrap64 (x44 + 1)) x183000 x183001 x183002))) else (none))) else (none)) else (none)) else (claim_order.j3 k x4 x5 x6 x7 x9 x183000 x183001 x183002)
end
def claim_order.f (k : Nat) (l0_0 : List Int) (l0_1 : List (List Int)) (l0_2 : List (List Int)) : Option (List Int × Bool) := (slices_Clone_int_int_48.f l0_0).bind fun t183 => (if 0 ≤ (l0_1.length : Int) then (if ((l0_1.length : Int) : Int).toNat ≤ 281474976710656 then (if ((l0_1.length : Int) : Int).toNat ≤ 11728124029610 then ((some (List.replicate ((l0_1.length : Int) : Int).toNat [] : List (List Int))).bind fun y189 => (claim_order.l0 k t183 (List.replicate ((l0_1.length : Int) : Int).toNat false) y189 (y189.length : Int) 0 l0_0 l0_1 l0_2)) else (none)) else (none)) else (none))
theorem claim_order.mono_l : ∀ k, (∀ y0 y1 y2 y3 y4 y5 y6 y7, LeO (claim_order.l0 k y0 y1 y2 y3 y4 y5 y6 y7) (claim_order.l0 (k + 1) y0 y1 y2 y3 y4 y5 y6 y7)) ∧ (∀ y0 y1 y2 y3 y4 y5 y6, LeO (claim_order.l1 k y0 y1 y2 y3 y4 y5 y6) (claim_order.l1 (k + 1) y0 y1 y2 y3 y4 y5 y6)) ∧ (∀ y0 y1 y2 y3 y4 y5 y6 y7, LeO (claim_order.j3 k y0 y1 y2 y3 y4 y5 y6 y7) (claim_order.j3 (k + 1) y0 y1 y2 y3 y4 y5 y6 y7)) ∧ (∀ y0 y1 y2 y3 y4 y5 y6 y7 y8 y9, LeO (claim_order.l3 k y0 y1 y2 y3 y4 y5 y6 y7 y8 y9) (claim_order.l3 (k + 1) y0 y1 y2 y3 y4 y5 y6 y7 y8 y9)) ∧ (∀ y0 y1 y2 y3 y4 y5 y6 y7 y8 y9, LeO (claim_order.l2 k y0 y1 y2 y3 y4 y5 y6 y7 y8 y9) (claim_order.l2 (k + 1) y0 y1 y2 y3 y4 y5 y6 y7 y8 y9))
  | 0 => ⟨fun _ _ _ _ _ _ _ _ r h => by simp [claim_order.l0] at h, fun _ _ _ _ _ _ _ r h => by simp [claim_order.l1] at h, fun _ _ _ _ _ _ _ _ r h => by simp [claim_order.j3] at h, fun _ _ _ _ _ _ _ _ _ _ r h => by simp [claim_order.l3] at h, fun _ _ _ _ _ _ _ _ _ _ r h => by simp [claim_order.l2] at h⟩
  | k + 1 => by
    obtain ⟨ih0, ih1, ih2, ih3, ih4⟩ := claim_order.mono_l k; refine ⟨?_, ?_, ?_, ?_, ?_⟩
    · intro y0 y1 y2 y3 y4 y5 y6 y7
      unfold claim_order.l0
      repeat' first
      | (with_reducible exact ih0 _ _ _ _ _ _ _ _)
      | (with_reducible exact ih1 _ _ _ _ _ _ _)
      | (with_reducible exact ih2 _ _ _ _ _ _ _ _)
      | (with_reducible exact ih3 _ _ _ _ _ _ _ _ _ _)
      | (with_reducible exact ih4 _ _ _ _ _ _ _ _ _ _)
      | (with_reducible exact claim_left.mono _ _ _ _ _)
      | (with_reducible exact claim_under.mono _ _ _)
      | (with_reducible exact LeO.refl _)
      | (with_reducible exact LeO.none _)
      | (with_reducible refine LeO.ite ?_ ?_)
      | (with_reducible refine LeO.bind ?_ (fun _ => ?_))
      | exact ih0 _ _ _ _ _ _ _ _
      | exact ih1 _ _ _ _ _ _ _
      | exact ih2 _ _ _ _ _ _ _ _
      | exact ih3 _ _ _ _ _ _ _ _ _ _
      | exact ih4 _ _ _ _ _ _ _ _ _ _
      | exact claim_left.mono _ _ _ _ _
      | exact claim_under.mono _ _ _
      | exact LeO.none _
      | refine LeO.ite ?_ ?_
      | refine LeO.bind ?_ (fun _ => ?_)
    · intro y0 y1 y2 y3 y4 y5 y6
      unfold claim_order.l1
      repeat' first
      | (with_reducible exact ih0 _ _ _ _ _ _ _ _)
      | (with_reducible exact ih1 _ _ _ _ _ _ _)
      | (with_reducible exact ih2 _ _ _ _ _ _ _ _)
      | (with_reducible exact ih3 _ _ _ _ _ _ _ _ _ _)
      | (with_reducible exact ih4 _ _ _ _ _ _ _ _ _ _)
      | (with_reducible exact claim_left.mono _ _ _ _ _)
      | (with_reducible exact claim_under.mono _ _ _)
      | (with_reducible exact LeO.refl _)
      | (with_reducible exact LeO.none _)
      | (with_reducible refine LeO.ite ?_ ?_)
      | (with_reducible refine LeO.bind ?_ (fun _ => ?_))
      | exact ih0 _ _ _ _ _ _ _ _
      | exact ih1 _ _ _ _ _ _ _
      | exact ih2 _ _ _ _ _ _ _ _
      | exact ih3 _ _ _ _ _ _ _ _ _ _
      | exact ih4 _ _ _ _ _ _ _ _ _ _
      | exact claim_left.mono _ _ _ _ _
      | exact claim_under.mono _ _ _
      | exact LeO.none _
      | refine LeO.ite ?_ ?_
      | refine LeO.bind ?_ (fun _ => ?_)
    · intro y0 y1 y2 y3 y4 y5 y6 y7
      unfold claim_order.j3
      repeat' first
      | (with_reducible exact ih0 _ _ _ _ _ _ _ _)
      | (with_reducible exact ih1 _ _ _ _ _ _ _)
      | (with_reducible exact ih2 _ _ _ _ _ _ _ _)
      | (with_reducible exact ih3 _ _ _ _ _ _ _ _ _ _)
      | (with_reducible exact ih4 _ _ _ _ _ _ _ _ _ _)
      | (with_reducible exact claim_left.mono _ _ _ _ _)
      | (with_reducible exact claim_under.mono _ _ _)
      | (with_reducible exact LeO.refl _)
      | (with_reducible exact LeO.none _)
      | (with_reducible refine LeO.ite ?_ ?_)
      | (with_reducible refine LeO.bind ?_ (fun _ => ?_))
      | exact ih0 _ _ _ _ _ _ _ _
      | exact ih1 _ _ _ _ _ _ _
      | exact ih2 _ _ _ _ _ _ _ _
      | exact ih3 _ _ _ _ _ _ _ _ _ _
      | exact ih4 _ _ _ _ _ _ _ _ _ _
      | exact claim_left.mono _ _ _ _ _
      | exact claim_under.mono _ _ _
      | exact LeO.none _
      | refine LeO.ite ?_ ?_
      | refine LeO.bind ?_ (fun _ => ?_)
    · intro y0 y1 y2 y3 y4 y5 y6 y7 y8 y9
      unfold claim_order.l3
      repeat' first
      | (with_reducible exact ih0 _ _ _ _ _ _ _ _)
      | (with_reducible exact ih1 _ _ _ _ _ _ _)
      | (with_reducible exact ih2 _ _ _ _ _ _ _ _)
      | (with_reducible exact ih3 _ _ _ _ _ _ _ _ _ _)
      | (with_reducible exact ih4 _ _ _ _ _ _ _ _ _ _)
      | (with_reducible exact claim_left.mono _ _ _ _ _)
      | (with_reducible exact claim_under.mono _ _ _)
      | (with_reducible exact LeO.refl _)
      | (with_reducible exact LeO.none _)
      | (with_reducible refine LeO.ite ?_ ?_)
      | (with_reducible refine LeO.bind ?_ (fun _ => ?_))
      | exact ih0 _ _ _ _ _ _ _ _
      | exact ih1 _ _ _ _ _ _ _
      | exact ih2 _ _ _ _ _ _ _ _
      | exact ih3 _ _ _ _ _ _ _ _ _ _
      | exact ih4 _ _ _ _ _ _ _ _ _ _
      | exact claim_left.mono _ _ _ _ _
      | exact claim_under.mono _ _ _
      | exact LeO.none _
      | refine LeO.ite ?_ ?_
      | refine LeO.bind ?_ (fun _ => ?_)
    · intro y0 y1 y2 y3 y4 y5 y6 y7 y8 y9
      unfold claim_order.l2
      repeat' first
      | (with_reducible exact ih0 _ _ _ _ _ _ _ _)
      | (with_reducible exact ih1 _ _ _ _ _ _ _)
      | (with_reducible exact ih2 _ _ _ _ _ _ _ _)
      | (with_reducible exact ih3 _ _ _ _ _ _ _ _ _ _)
      | (with_reducible exact ih4 _ _ _ _ _ _ _ _ _ _)
      | (with_reducible exact claim_left.mono _ _ _ _ _)
      | (with_reducible exact claim_under.mono _ _ _)
      | (with_reducible exact LeO.refl _)
      | (with_reducible exact LeO.none _)
      | (with_reducible refine LeO.ite ?_ ?_)
      | (with_reducible refine LeO.bind ?_ (fun _ => ?_))
      | exact ih0 _ _ _ _ _ _ _ _
      | exact ih1 _ _ _ _ _ _ _
      | exact ih2 _ _ _ _ _ _ _ _
      | exact ih3 _ _ _ _ _ _ _ _ _ _
      | exact ih4 _ _ _ _ _ _ _ _ _ _
      | exact claim_left.mono _ _ _ _ _
      | exact claim_under.mono _ _ _
      | exact LeO.none _
      | refine LeO.ite ?_ ?_
      | refine LeO.bind ?_ (fun _ => ?_)
theorem claim_order.mono : ∀ a0 a1 a2 k, LeO (claim_order.f k a0 a1 a2) (claim_order.f (k + 1) a0 a1 a2) := by
  intro a0 a1 a2 k
  obtain ⟨ih0, ih1, ih2, ih3, ih4⟩ := claim_order.mono_l k; unfold claim_order.f
  repeat' first
      | (with_reducible exact ih0 _ _ _ _ _ _ _ _)
      | (with_reducible exact ih1 _ _ _ _ _ _ _)
      | (with_reducible exact ih2 _ _ _ _ _ _ _ _)
      | (with_reducible exact ih3 _ _ _ _ _ _ _ _ _ _)
      | (with_reducible exact ih4 _ _ _ _ _ _ _ _ _ _)
      | (with_reducible exact claim_left.mono _ _ _ _ _)
      | (with_reducible exact claim_under.mono _ _ _)
      | (with_reducible exact LeO.refl _)
      | (with_reducible exact LeO.none _)
      | (with_reducible refine LeO.ite ?_ ?_)
      | (with_reducible refine LeO.bind ?_ (fun _ => ?_))
      | exact ih0 _ _ _ _ _ _ _ _
      | exact ih1 _ _ _ _ _ _ _
      | exact ih2 _ _ _ _ _ _ _ _
      | exact ih3 _ _ _ _ _ _ _ _ _ _
      | exact ih4 _ _ _ _ _ _ _ _ _ _
      | exact claim_left.mono _ _ _ _ _
      | exact claim_under.mono _ _ _
      | exact LeO.none _
      | refine LeO.ite ?_ ?_
      | refine LeO.bind ?_ (fun _ => ?_)
def claim_order.T2 : Bool × List (List Nat × List Nat) := (true, [([], []), ([0], [0]), ([1], [1]), ([2, 2], [2]), ([], []), ([4], [4]), ([5], [5]), ([6, 6], [6]), ([3, 0, 1, 2, 3], [3]), ([7, 8, 0, 1, 2, 3, 4, 5, 6, 7, 8], [7])])
def claim_order.B2 : List Nat := [0, 1, 3, 7, 0, 16, 48, 112, 15, 511]
theorem claim_order.tab2 : rtab .any (opsOf Try.f44 2) = claim_order.T2 := by kernel_rfl
theorem claim_order.bits2 : waitsOk claim_order.T2.2 claim_order.B2 = true := by kernel_rfl
set_option maxHeartbeats 8000000 in
set_option maxRecDepth 100000 in
theorem claim_order.calls (k : Nat) (A0_0 : Option Addr) (c0_0 : Nat) (l0_0 : List Int) (A0_1 : Option Addr) (c0_1 : Nat) (l0_1 : List (List Int)) (A0_2 : Option Addr) (c0_2 : Nat) (l0_2 : List (List Int)) (r1 : List Int) (r2 : Bool) (w : World) (hr0_0 : Kd.C (Kd.int .i64) w A0_0 l0_0.length l0_0) (hc0_0 : l0_0.length ≤ c0_0) (hr0_1 : Kd.C (Kd.slice 3 (Kd.int .i64)) w A0_1 l0_1.length l0_1) (hc0_1 : l0_1.length ≤ c0_1) (hr0_2 : Kd.C (Kd.slice 3 (Kd.int .i64)) w A0_2 l0_2.length l0_2) (hc0_2 : l0_2.length ≤ c0_2) (h : claim_order.f k l0_0 l0_1 l0_2 = some (r1, r2)) :
    Calls Try.prog 44 #[.agg #[.slice A0_0 l0_0.length c0_0, .slice A0_1 l0_1.length c0_1, .slice A0_2 l0_2.length c0_2]] w fun e w' => ∃ v0_ : Value, e = .returned (.tuple #[v0_, .bool r2]) ∧ Kd.R (Kd.int .i64) 3 w' w.heap.size (fun _ => True) v0_ r1 ∧ Below w.heap.size w w' := by
  have hu60 := Try.underlying60; have HR0_0 := A0_ hr0_0; have HC0_0 := A0_ hc0_0; clear hr0_0 hc0_0; have HR0_1 := A0_ hr0_1; have HC0_1 := A0_ hc0_1; clear hr0_1 hc0_1; have HR0_2 := A0_ hr0_2; have HC0_2 := A0_ hc0_2; clear hr0_2 hc0_2; have HB := A0_ (Below.refl w.heap.size w); have H : ((slices_Clone_int_int_48.f l0_0).bind fun t183 => (if 0 ≤ (l0_1.length : Int) then (if ((l0_1.length : Int) : Int).toNat ≤ 281474976710656 then (if ((l0_1.length : Int) : Int).toNat ≤ 11728124029610 then ((some (List.replicate ((l0_1.length : Int) : Int).toNat [] : List (List Int))).bind fun y189 => (claim_order.l0 k t183 (List.replicate ((l0_1.length : Int) : Int).toNat false) y189 (y189.length : Int) 0 l0_0 l0_1 l0_2)) else (none)) else (none)) else (none))) = some (r1, r2) := h; clear h; replace H := bm_ H; obtain ⟨t183, A20, H⟩ := H; replace H : (if 0 ≤ (l0_1.length : Int) then (if ((l0_1.length : Int) : Int).toNat ≤ 281474976710656 then (if ((l0_1.length : Int) : Int).toNat ≤ 11728124029610 then ((some (List.replicate ((l0_1.length : Int) : Int).toNat [] : List (List Int))).bind fun y189 => (claim_order.l0 k t183 (List.replicate ((l0_1.length : Int) : Int).toNat false) y189 (y189.length : Int) 0 l0_0 l0_1 l0_2)) else (none)) else (none)) else (none)) = some (r1, r2) := H; have A2 := A0_ A20; clear A20; by_cases c3 : 0 ≤ (l0_1.length : Int); rotate_left
  · rw [if_neg c3] at H
    exact absurd H (by simp)

  rw [if_pos c3] at H; have c3b0 := eq_true c3; have c3b1 : decide (0 ≤ (l0_1.length : Int)) = true := decide_eq_true c3; clear c3; by_cases c4 : ((l0_1.length : Int) : Int).toNat ≤ 281474976710656; rotate_left
  · rw [if_neg c4] at H
    exact absurd H (by simp)
  rw [if_pos c4] at H; have c4b0 := eq_true c4; have c4b1 : decide (((l0_1.length : Int) : Int).toNat ≤ 281474976710656) = true := decide_eq_true c4; clear c4; obtain ⟨y186, hy186⟩ : ∃ y_ : List Bool, y_ = (List.replicate ((l0_1.length : Int) : Int).toNat false) := ⟨_, rfl⟩; replace H : (if ((l0_1.length : Int) : Int).toNat ≤ 11728124029610 then ((some (List.replicate ((l0_1.length : Int) : Int).toNat [] : List (List Int))).bind fun y189 => (claim_order.l0 k t183 y186 y189 (y189.length : Int) 0 l0_0 l0_1 l0_2)) else (none)) = some (r1, r2) := by first|(rw [hy186]; with_reducible exact H)|(have H2_ := (Option.bind_some _ _).symm.trans H; rw [hy186]; with_reducible exact H2_)|(have H2_ := (Option.bind_some _ _).symm.trans H; with_reducible exact H2_)|with_reducible exact H|(rw [hy186]; exact H)|exact H
  have Ny186 := A0_ hy186; clear hy186; by_cases c5 : ((l0_1.length : Int) : Int).toNat ≤ 11728124029610; rotate_left
  · rw [if_neg c5] at H
    exact absurd H (by simp)
  rw [if_pos c5] at H; have c5b0 := eq_true c5; have c5b1 : decide (((l0_1.length : Int) : Int).toNat ≤ 11728124029610) = true := decide_eq_true c5; clear c5; obtain ⟨y189, hy189⟩ : ∃ y_ : List (List Int), y_ = (List.replicate ((l0_1.length : Int) : Int).toNat []) := ⟨_, rfl⟩; replace H : (claim_order.l0 k t183 y186 y189 (y189.length : Int) 0 l0_0 l0_1 l0_2) = some (r1, r2) := by first|(rw [hy189]; with_reducible exact H)|(have H2_ := (Option.bind_some _ _).symm.trans H; rw [hy189]; with_reducible exact H2_)|(have H2_ := (Option.bind_some _ _).symm.trans H; with_reducible exact H2_)|with_reducible exact H|(rw [hy189]; exact H)|exact H
  have Ny189 := A0_ hy189; clear hy189; have H' := A0_ H; clear H; go_enter Try.func44, Try.ntmps44
  try go_wp2_with (first|((with_reducible refine gate_dst (N := 1) rfl ?_); refine box_event ?hg (N := 1) ?hd (cs := #[.slice A0_0 l0_0.length c0_0, .slice A0_1 l0_1.length c0_1, .slice A0_2 l0_2.length c0_2]) (t := 60) ?hr ?_; (case hd => rfl); (case hg => rfl); (case hr => first|(go_simp; done)|(go_simp; rfl)); intro gb182 hg w6 hbox hb; have n0_ := A0_ (below_step (by repeat (first|(with_reducible first|exact HB.out|apply ba_|apply pN_|apply b1_)|exact HB.out)) hb); have n1_ := A0_ (hbox); have n2_ := A0_ ((by rw [hg]; exact (below_size (by repeat (first|(with_reducible first|exact HB.out|apply ba_|apply pN_|apply b1_)|exact HB.out))) : w.heap.size ≤ gb182)); have n3_ := A0_ ((by rw [hg]; exact (below_size (by repeat (first|(with_reducible first|exact HB.out|apply ba_|apply pN_|apply b1_)|exact HB.out))) : w.heap.size ≤ gb182)); clear HB; have HB := n0_; have BK182 := n1_; have GW182 := n2_; have GE182 := n3_; clear n0_ n1_ n2_ n3_; clear hb hbox hg; obtain ⟨hcz7_0, hcz7_1, hcz7_2, hfz7_0, hfz7_1, hfz7_2⟩ := cz3_ (w := w6) BK182.out)|((with_reducible refine gate_callee (f := 48) rfl ?_); refine goesL_ (some 15) rfl rfl Try.func48 (by kernel_rfl) rfl #[.slice A0_0 l0_0.length c0_0] rfl (by first|(simp only [List.map_toArray, List.map_cons, List.map_nil] <;> rfl)|rfl|(simp only [List.length_drop, List.length_take]; rfl)) ?_; (with_reducible refine (slices_Clone_int_int_48.calls _ _ l0_0 t183 _ ?side1 ?side2 A2.out).mono ?_); (case side1 => repeat (first|exact (Kd.C_below HR0_0.out HB.out)|(with_reducible first|refine Ca_ ?_ _|refine Cn_ ?_ _|refine Cd_ ?_))); (case side2 => exact HC0_0.out); rintro e w8 ⟨v184, rfl, ho0, hb⟩; refine ⟨_, rfl, ?_⟩; have n0_ := A0_ (Kd.R_lower ho0 (below_size (by repeat (first|(with_reducible first|exact HB.out|apply ba_|apply pN_|apply b1_|refine bs_ ?_ GE182.out)|exact HB.out)))); have n1_ := A0_ (blk_below (g := gb182) (o := .cells #[.slice A0_0 l0_0.length c0_0, .slice A0_1 l0_1.length c0_1, .slice A0_2 l0_2.length c0_2] 60 (0, 0)) (by (with_reducible repeat first|refine bN_ ?_ _|refine bD_ ?_|refine bA_ ?_ _); exact BK182.out) hb); have n2_ := A0_ (below_step (by repeat (first|(with_reducible first|exact HB.out|apply ba_|apply pN_|apply b1_|refine bs_ ?_ GE182.out)|exact HB.out)) hb); clear BK182; clear HB; have HO185 := n0_; have BK182 := n1_; have HB := n2_; clear n0_ n1_ n2_; (try clear hb); (try clear hb2); (try clear hk); (try clear hi); (try clear ho0)))
  have n0_ := A0_ (Kd.R_drew HO185.out); have n1_ := A0_ (blk_drew BK182.out); have n2_ := A0_ (b1_ HB.out); clear HO185; clear BK182; clear HB; have HO185 := n0_; have BK182 := n1_; have HB := n2_; clear n0_ n1_ n2_; refine start_ (n := 10) (S := fun w' => w'.cell? ⟨gb182, 0, none⟩ = some (.slice A0_0 l0_0.length c0_0) ∧ w'.cell? ⟨gb182, 1, none⟩ = some (.slice A0_1 l0_1.length c0_1) ∧ w'.cell? ⟨gb182, 2, none⟩ = some (.slice A0_2 l0_2.length c0_2)) (ds := []) #[false, false, false, false, false, false, false, false, false, false] (by kernel_rfl) rfl rfl ⟨(blk_cell BK182.out 0).trans rfl, (blk_cell BK182.out 1).trans rfl, (blk_cell BK182.out 2).trans rfl⟩ (fun hHeld => ?_); refine with_tabW claim_order.tab2 claim_order.bits2 (fun HT_ HW_ => ?_)
  generalize w8.drew = w9 at HO185 BK182 HB hHeld ⊢
  refine pure_ (i := 0) (N := some 16) (v := ?_) (a' := ?_) #[true, false, false, false, false, false, false, false, false, false] rfl rfl (any_of HT_.out (by kernel_rfl)) (fun _ _ _ h => h) (Or.inl ⟨by rfl, ?_⟩) ?_ ?_; rotate_left
  · intro w'
    go_simp
    with_reducible rfl
  rotate_left
  · simp only [Act.put, sA_, sZ_, sS_, i64_w, i32_w]
    rfl
  refine pure_ (i := 4) (N := some 20) (v := ?_) (a' := ?_) #[true, false, false, false, true, false, false, false, false, false] rfl rfl (any_of HT_.out (by kernel_rfl)) (fun _ _ _ h => h) (Or.inl ⟨by rfl, ?_⟩) ?_ ?_; rotate_left
  · intro w'
    go_simp
    with_reducible rfl
  rotate_left
  · simp only [Act.put, sA_, sZ_, sS_, i64_w, i32_w]
    rfl
  refine take_ (i := 1) (N := some 17) (v := ?_) (a' := ?_) #[true, true, false, false, true, false, false, false, false, false] rfl rfl (take_ofW HT_.out HW_.out (by kernel_rfl)) (fun _ _ _ h => h) (Or.inl ⟨by rfl, ?_⟩) hHeld ?_ ?_; rotate_left
  · rintro w' ⟨s0, s1, s2⟩
    go_simp
    with_reducible rfl
  rotate_left
  · simp only [Act.put, sA_, sZ_, sS_, i64_w, i32_w]
    rfl
  refine pure_ (i := 2) (N := some 18) (v := ?_) (a' := ?_) #[true, true, true, false, true, false, false, false, false, false] rfl rfl (any_of HT_.out (by kernel_rfl)) (fun _ _ _ h => h) (Or.inl ⟨by rfl, ?_⟩) ?_ ?_; rotate_left
  · intro w'
    go_simp
    with_reducible rfl
  rotate_left
  · simp only [Act.put, sA_, sZ_, sS_, i64_w, i32_w]
    rfl
  refine take_ (i := 5) (N := some 21) (v := ?_) (a' := ?_) #[true, true, true, false, true, true, false, false, false, false] rfl rfl (take_ofW HT_.out HW_.out (by kernel_rfl)) (fun _ _ _ h => h) (Or.inl ⟨by rfl, ?_⟩) hHeld ?_ ?_; rotate_left
  · rintro w' ⟨s0, s1, s2⟩
    go_simp
    with_reducible rfl
  rotate_left
  · simp only [Act.put, sA_, sZ_, sS_, i64_w, i32_w]
    rfl
  refine pure_ (i := 6) (N := some 22) (v := ?_) (a' := ?_) #[true, true, true, false, true, true, true, false, false, false] rfl rfl (any_of HT_.out (by kernel_rfl)) (fun _ _ _ h => h) (Or.inl ⟨by rfl, ?_⟩) ?_ ?_; rotate_left
  · intro w'
    go_simp
    with_reducible rfl
  rotate_left
  · simp only [Act.put, sA_, sZ_, sS_, i64_w, i32_w]
    rfl
  refine join_ (σ := Value × Value) 1 #[true, true, true, true, true, true, true, true, true, false] (fun s_ => [(19, s_.1), (23, s_.2), (6, s_.1)]) (fun s_ w' => (w'.cell? ⟨gb182, 0, none⟩ = some (.slice A0_0 l0_0.length c0_0) ∧ w'.cell? ⟨gb182, 1, none⟩ = some (.slice A0_1 l0_1.length c0_1) ∧ w'.cell? ⟨gb182, 2, none⟩ = some (.slice A0_2 l0_2.length c0_2)) ∧ (Kd.R (Kd.int .i64) 3 w' w.heap.size (fun _ => True) v184 t183) ∧ (Kd.R Kd.bool 4 w' w.heap.size (fun _ => True) s_.1 y186) ∧ (Kd.S (Kd.slice 3 (Kd.int .i64)) 23 w' w.heap.size (fun k_ => some k_ ≠ (v184 : Value).ownBlock) s_.2 y189) ∧ (w'.heap[gb182]? = some (.cells #[.slice A0_0 l0_0.length c0_0, .slice A0_1 l0_1.length c0_1, .slice A0_2 l0_2.length c0_2] 60 (0, 0))) ∧ (Below w.heap.size w w')) ?_ ?_; rotate_left
  · intro hCont
    refine two_ (i := 3) (j := 7) (Ni := some 19) (Nj := some 23) #[true, true, true, true, true, true, true, false, false, false] #[true, true, true, false, true, true, true, true, false, false] rfl rfl rfl rfl (two_of HT_.out (by kernel_rfl)) (by decide) (by decide) (fun K hK => ?_) (fun K hK => ?_)
    · skip
      refine Kd.R_make_step Kd.bool _ 4 (by rfl) (N := 19) rfl 93 _ _ rfl (l0_1.length : Int) rfl rfl Try.underlying93 (.bool false) 1 info4 rfl (by decide) (by omega) false (ok := fun _ => True) (okp := fun _ => True) rfl (fun _ hk => hk) trivial (of_decide_eq_true (by first|(with_reducible assumption)|assumption)) (Nat.le_trans (Nat.mul_le_mul_right _ (of_decide_eq_true (by first|(with_reducible assumption)|assumption) : (l0_1.length : Int).toNat ≤ 281474976710656)) (by omega)) (Below.refl _ _) (Nat.le_refl _) ?_
      intro v187 w10 ho11 hb hg_ hnew_
      clear hg_ hnew_
      (first|rw [← Ny186.out] at ho11|(simp only [Int.reduceToNat] at ho11; rw [← Ny186.out] at ho11))
      have n0_ := A0_ (Kd.R_below (by (with_reducible repeat first|apply Ra_|apply Rn_|apply Rd_); exact HO185.out) hb); have n1_ := A0_ (Kd.R_lower ho11 (below_size (by repeat (first|(with_reducible first|exact HB.out|apply ba_|apply pN_|apply b1_|refine bs_ ?_ GE182.out)|exact HB.out)))); have n2_ := A0_ (blk_below (g := gb182) (o := .cells #[.slice A0_0 l0_0.length c0_0, .slice A0_1 l0_1.length c0_1, .slice A0_2 l0_2.length c0_2] 60 (0, 0)) (by (with_reducible repeat first|refine bN_ ?_ _|refine bD_ ?_|refine bA_ ?_ _); exact BK182.out) hb); have n3_ := A0_ (below_step (by repeat (first|(with_reducible first|exact HB.out|apply ba_|apply pN_|apply b1_|refine bs_ ?_ GE182.out)|exact HB.out)) hb); clear HO185; clear BK182; clear HB; have HO185 := n0_; have HO188 := n1_; have BK182 := n2_; have HB := n3_; clear n0_ n1_ n2_ n3_; clear hb ho11; refine hK.out _ _ ⟨(blk_cell BK182.out 0).trans rfl, (blk_cell BK182.out 1).trans rfl, (blk_cell BK182.out 2).trans rfl⟩ (fun hHeld => ?_); clear hK K; refine norm_ (a' := ?_) ?_ ?_; rotate_left
      · show Act.put _ (some 19) _ = _
        simp only [Act.put, sA_, sZ_, sS_, i64_w, i32_w]
        rfl
      refine pure_ (i := 8) (N := some 6) (v := ?_) (a' := ?_) #[true, true, true, true, true, true, true, false, true, false] rfl rfl (any_of HT_.out (by kernel_rfl)) (fun _ _ _ h => h) (Or.inl ⟨by rfl, ?_⟩) ?_ ?_; rotate_left
      · intro w'
        go_simp
        with_reducible rfl
      rotate_left
      · simp only [Act.put, sA_, sZ_, sS_, i64_w, i32_w]
        rfl
      refine one_ (i := 7) (N := some 23) #[true, true, true, true, true, true, true, true, true, false] rfl rfl (one_of HT_.out (by kernel_rfl)) (by decide) (fun K hK => ?_); refine Kd.S_make_step (Kd.slice 3 (Kd.int .i64)) _ 23 (by rfl) (N := 23) rfl 53 _ _ rfl (l0_1.length : Int) rfl rfl Try.underlying53 (.slice none 0 0) 24 info23 rfl (by decide) (by omega) [] (ok := fun _ => True) (okp := fun _ => True) ⟨_, rfl, Kd.R_nil _ _ _ _ _⟩ (fun _ hk => hk) trivial (of_decide_eq_true (by first|(with_reducible assumption)|assumption)) (Nat.le_trans (Nat.mul_le_mul_right _ (of_decide_eq_true (by first|(with_reducible assumption)|assumption) : (l0_1.length : Int).toNat ≤ 11728124029610)) (by omega)) (Below.refl _ _) (Nat.le_refl _) ?_
      intro v190 w12 ho13 hb hg_ hnew_
      clear hg_ hnew_
      (first|rw [← Ny189.out] at ho13|(simp only [Int.reduceToNat] at ho13; rw [← Ny189.out] at ho13))
      have n0_ := A0_ (Kd.R_below (by (with_reducible repeat first|apply Ra_|apply Rn_|apply Rd_); exact HO185.out) hb); have n1_ := A0_ (Kd.R_below (by (with_reducible repeat first|apply Ra_|apply Rn_|apply Rd_); exact HO188.out) hb); have n2_ := A0_ (Kd.S_lower (Kd.S_new' ho13 (Kd.R_lt (by (with_reducible repeat first|apply Ra_|apply Rn_|apply Rd_); exact HO185.out))) (below_size (by repeat (first|(with_reducible first|exact HB.out|apply ba_|apply pN_|apply b1_|refine bs_ ?_ GE182.out)|exact HB.out)))); have n3_ := A0_ (blk_below (g := gb182) (o := .cells #[.slice A0_0 l0_0.length c0_0, .slice A0_1 l0_1.length c0_1, .slice A0_2 l0_2.length c0_2] 60 (0, 0)) (by (with_reducible repeat first|refine bN_ ?_ _|refine bD_ ?_|refine bA_ ?_ _); exact BK182.out) hb); have n4_ := A0_ (below_step (by repeat (first|(with_reducible first|exact HB.out|apply ba_|apply pN_|apply b1_|refine bs_ ?_ GE182.out)|exact HB.out)) hb); clear HO185; clear HO188; clear BK182; clear HB; have HO185 := n0_; have HO188 := n1_; have HO191 := n2_; have BK182 := n3_; have HB := n4_; clear n0_ n1_ n2_ n3_ n4_; clear hb ho13; refine hK.out _ _ ⟨(blk_cell BK182.out 0).trans rfl, (blk_cell BK182.out 1).trans rfl, (blk_cell BK182.out 2).trans rfl⟩ (fun hHeld => ?_); clear hK K; refine norm_ (a' := ?_) ?_ ?_; rotate_left
      · show Act.put _ (some 23) _ = _
        simp only [Act.put, sA_, sZ_, sS_, i64_w, i32_w]
        rfl
      exact norm_ (by simp only [putAll, Act.put, sA_, sZ_, sS_]) (hCont (v187, v190) _ ⟨hHeld, (by (with_reducible repeat first|apply Ra_|apply Rn_|apply Rd_); exact HO185.out), (by (with_reducible repeat first|apply Ra_|apply Rn_|apply Rd_); exact HO188.out), (by (with_reducible repeat first|apply Sa_|apply Sn_|apply Sd_); exact Kd.S_mono HO191.out (fun _ hk => hk.2)), (by (with_reducible repeat first|refine bN_ ?_ _|refine bD_ ?_|refine bA_ ?_ _); exact BK182.out), (by repeat (first|(with_reducible first|exact HB.out|apply ba_|apply pN_|apply b1_|refine bs_ ?_ GE182.out)|exact HB.out))⟩)
    · skip
      refine Kd.S_make_step (Kd.slice 3 (Kd.int .i64)) _ 23 (by rfl) (N := 23) rfl 53 _ _ rfl (l0_1.length : Int) rfl rfl Try.underlying53 (.slice none 0 0) 24 info23 rfl (by decide) (by omega) [] (ok := fun _ => True) (okp := fun _ => True) ⟨_, rfl, Kd.R_nil _ _ _ _ _⟩ (fun _ hk => hk) trivial (of_decide_eq_true (by first|(with_reducible assumption)|assumption)) (Nat.le_trans (Nat.mul_le_mul_right _ (of_decide_eq_true (by first|(with_reducible assumption)|assumption) : (l0_1.length : Int).toNat ≤ 11728124029610)) (by omega)) (Below.refl _ _) (Nat.le_refl _) ?_
      intro v190 w10 ho11 hb hg_ hnew_
      clear hg_ hnew_
      (first|rw [← Ny189.out] at ho11|(simp only [Int.reduceToNat] at ho11; rw [← Ny189.out] at ho11))
      have n0_ := A0_ (Kd.R_below (by (with_reducible repeat first|apply Ra_|apply Rn_|apply Rd_); exact HO185.out) hb); have n1_ := A0_ (Kd.S_lower (Kd.S_new' ho11 (Kd.R_lt (by (with_reducible repeat first|apply Ra_|apply Rn_|apply Rd_); exact HO185.out))) (below_size (by repeat (first|(with_reducible first|exact HB.out|apply ba_|apply pN_|apply b1_|refine bs_ ?_ GE182.out)|exact HB.out)))); have n2_ := A0_ (blk_below (g := gb182) (o := .cells #[.slice A0_0 l0_0.length c0_0, .slice A0_1 l0_1.length c0_1, .slice A0_2 l0_2.length c0_2] 60 (0, 0)) (by (with_reducible repeat first|refine bN_ ?_ _|refine bD_ ?_|refine bA_ ?_ _); exact BK182.out) hb); have n3_ := A0_ (below_step (by repeat (first|(with_reducible first|exact HB.out|apply ba_|apply pN_|apply b1_|refine bs_ ?_ GE182.out)|exact HB.out)) hb); clear HO185; clear BK182; clear HB; have HO185 := n0_; have HO191 := n1_; have BK182 := n2_; have HB := n3_; clear n0_ n1_ n2_ n3_; clear hb ho11; refine hK.out _ _ ⟨(blk_cell BK182.out 0).trans rfl, (blk_cell BK182.out 1).trans rfl, (blk_cell BK182.out 2).trans rfl⟩ (fun hHeld => ?_); clear hK K; refine norm_ (a' := ?_) ?_ ?_; rotate_left
      · show Act.put _ (some 23) _ = _
        simp only [Act.put, sA_, sZ_, sS_, i64_w, i32_w]
        rfl
      refine one_ (i := 3) (N := some 19) #[true, true, true, true, true, true, true, true, false, false] rfl rfl (one_of HT_.out (by kernel_rfl)) (by decide) (fun K hK => ?_); refine Kd.R_make_step Kd.bool _ 4 (by rfl) (N := 19) rfl 93 _ _ rfl (l0_1.length : Int) rfl rfl Try.underlying93 (.bool false) 1 info4 rfl (by decide) (by omega) false (ok := fun _ => True) (okp := fun _ => True) rfl (fun _ hk => hk) trivial (of_decide_eq_true (by first|(with_reducible assumption)|assumption)) (Nat.le_trans (Nat.mul_le_mul_right _ (of_decide_eq_true (by first|(with_reducible assumption)|assumption) : (l0_1.length : Int).toNat ≤ 281474976710656)) (by omega)) (Below.refl _ _) (Nat.le_refl _) ?_
      intro v187 w12 ho13 hb hg_ hnew_
      clear hg_ hnew_
      (first|rw [← Ny186.out] at ho13|(simp only [Int.reduceToNat] at ho13; rw [← Ny186.out] at ho13))
      have n0_ := A0_ (Kd.R_below (by (with_reducible repeat first|apply Ra_|apply Rn_|apply Rd_); exact HO185.out) hb); have n1_ := A0_ (Kd.S_below (by (with_reducible repeat first|apply Sa_|apply Sn_|apply Sd_); exact HO191.out) hb); have n2_ := A0_ (Kd.R_lower ho13 (below_size (by repeat (first|(with_reducible first|exact HB.out|apply ba_|apply pN_|apply b1_|refine bs_ ?_ GE182.out)|exact HB.out)))); have n3_ := A0_ (blk_below (g := gb182) (o := .cells #[.slice A0_0 l0_0.length c0_0, .slice A0_1 l0_1.length c0_1, .slice A0_2 l0_2.length c0_2] 60 (0, 0)) (by (with_reducible repeat first|refine bN_ ?_ _|refine bD_ ?_|refine bA_ ?_ _); exact BK182.out) hb); have n4_ := A0_ (below_step (by repeat (first|(with_reducible first|exact HB.out|apply ba_|apply pN_|apply b1_|refine bs_ ?_ GE182.out)|exact HB.out)) hb); clear HO185; clear HO191; clear BK182; clear HB; have HO185 := n0_; have HO191 := n1_; have HO188 := n2_; have BK182 := n3_; have HB := n4_; clear n0_ n1_ n2_ n3_ n4_; clear hb ho13; refine hK.out _ _ ⟨(blk_cell BK182.out 0).trans rfl, (blk_cell BK182.out 1).trans rfl, (blk_cell BK182.out 2).trans rfl⟩ (fun hHeld => ?_); clear hK K; refine norm_ (a' := ?_) ?_ ?_; rotate_left
      · show Act.put _ (some 19) _ = _
        simp only [Act.put, sA_, sZ_, sS_, i64_w, i32_w]
        rfl
      refine pure_ (i := 8) (N := some 6) (v := ?_) (a' := ?_) #[true, true, true, true, true, true, true, true, true, false] rfl rfl (any_of HT_.out (by kernel_rfl)) (fun _ _ _ h => h) (Or.inl ⟨by rfl, ?_⟩) ?_ ?_; rotate_left
      · intro w'
        go_simp
        with_reducible rfl
      rotate_left
      · simp only [Act.put, sA_, sZ_, sS_, i64_w, i32_w]
        rfl
      exact norm_ (by simp only [putAll, Act.put, sA_, sZ_, sS_]) (hCont (v187, v190) _ ⟨hHeld, (by (with_reducible repeat first|apply Ra_|apply Rn_|apply Rd_); exact HO185.out), (by (with_reducible repeat first|apply Ra_|apply Rn_|apply Rd_); exact HO188.out), (by (with_reducible repeat first|apply Sa_|apply Sn_|apply Sd_); exact Kd.S_mono HO191.out (fun _ hk => hk.2)), (by (with_reducible repeat first|refine bN_ ?_ _|refine bD_ ?_|refine bA_ ?_ _); exact BK182.out), (by repeat (first|(with_reducible first|exact HB.out|apply ba_|apply pN_|apply b1_|refine bs_ ?_ GE182.out)|exact HB.out))⟩)
  rintro ⟨v187, v190⟩ w14 ⟨hS_, h0_, h1_, h2_, h3_, h4_⟩
  have n0_ : Aside0 (Kd.R (Kd.int .i64) 3 w14 w.heap.size (fun _ => True) v184 t183) := ⟨h0_⟩; have n1_ : Aside0 (Kd.R Kd.bool 4 w14 w.heap.size (fun _ => True) v187 y186) := ⟨h1_⟩; have n2_ : Aside0 (Kd.S (Kd.slice 3 (Kd.int .i64)) 23 w14 w.heap.size (fun k_ => some k_ ≠ (v184 : Value).ownBlock) v190 y189) := ⟨h2_⟩; have n3_ : Aside0 (w14.heap[gb182]? = some (.cells #[.slice A0_0 l0_0.length c0_0, .slice A0_1 l0_1.length c0_1, .slice A0_2 l0_2.length c0_2] 60 (0, 0))) := ⟨h3_⟩; have n4_ : Aside0 (Below w.heap.size w w14) := ⟨h4_⟩; clear HO185; clear BK182; clear HB; clear h0_ h1_ h2_ h3_ h4_; have HO185 := n0_; have HO188 := n1_; have HO191 := n2_; have BK182 := n3_; have HB := n4_; clear n0_ n1_ n2_ n3_ n4_; have hHeld : w14.cell? ⟨gb182, 0, none⟩ = some (.slice A0_0 l0_0.length c0_0) ∧ w14.cell? ⟨gb182, 1, none⟩ = some (.slice A0_1 l0_1.length c0_1) ∧ w14.cell? ⟨gb182, 2, none⟩ = some (.slice A0_2 l0_2.length c0_2) := hS_; refine norm_ (a' := ?_) ?_ ?_; rotate_left
  · simp only [putAll, Act.put, sA_, sZ_, sS_]
    rfl
  refine pure_ (i := 9) (N := some 7) (v := ?_) (a' := ?_) #[true, true, true, true, true, true, true, true, true, true] rfl rfl (any_of HT_.out (by kernel_rfl)) (fun _ _ _ h => h) (Or.inl ⟨by rfl, ?_⟩) ?_ ?_; rotate_left
  · intro w'
    go_simp
    with_reducible rfl
  rotate_left
  · simp only [Act.put, sA_, sZ_, sS_, i64_w, i32_w]
    rfl
  refine done_ (done_of HT_.out (by kernel_rfl)) ?_; obtain ⟨Ao15, co15, eo15⟩ := Kd.S_slice HO191.out; subst eo15
  try go_wp2
  go_loopg [26] k (fun kq v26 w' => ∃ (x7_1 : List (List Int)) (x26_1 : Int), v26 = .int .i64 x26_1 ∧ Aside0 (claim_order.l0 kq t183 y186 x7_1 (y189.length : Int) x26_1 l0_0 l0_1 l0_2 = some (r1, r2)) ∧ Aside0 (kq ≤ k) ∧ Aside0 (Kd.R (Kd.int .i64) 3 w' w.heap.size (fun _ => True) v184 t183) ∧ Aside0 (Kd.R Kd.bool 4 w' w.heap.size (fun _ => True) v187 y186) ∧ Aside0 (Kd.S (Kd.slice 3 (Kd.int .i64)) 23 w' w.heap.size (fun k_ => some k_ ≠ (v184 : Value).ownBlock) (.slice Ao15 y189.length co15) x7_1) ∧ Aside0 (w'.heap[gb182]? = some (.cells #[(.slice A0_0 l0_0.length c0_0), (.slice A0_1 l0_1.length c0_1), (.slice A0_2 l0_2.length c0_2)] 60 (0, 0))) ∧ Aside0 (Below w.heap.size w w'))
  case atStart => exact ⟨(y189), (0), (by first|rfl|(simp; done)|(simp [*]; done)), H', ⟨Nat.le_refl _⟩, ⟨by (with_reducible repeat first|apply Ra_|apply Rn_|apply Rd_); exact HO185.out⟩, ⟨by (with_reducible repeat first|apply Ra_|apply Rn_|apply Rd_); exact HO188.out⟩, ⟨by (with_reducible repeat first|apply Sa_|apply Sn_|apply Sd_); exact HO191.out⟩, ⟨by (with_reducible repeat first|refine bN_ ?_ _|refine bD_ ?_|refine bA_ ?_ _); exact BK182.out⟩, ⟨by repeat (first|(with_reducible first|exact HB.out|apply ba_|apply pN_|apply b1_|refine bs_ ?_ GE182.out)|exact HB.out)⟩⟩
  case round =>
    clear H'; (try clear p2); (try clear c3); (try clear c3b0); (try clear c3b1); (try clear c4); (try clear c4b0); (try clear c4b1); (try clear c5); (try clear c5b0); (try clear c5b1); (try clear hcz7_0); (try clear hcz7_1); (try clear hcz7_2); (try clear hfz7_0); (try clear hfz7_1); (try clear hfz7_2); obtain ⟨x7_1, x26_1, rfl, HA, HK1, HO_4, HO_6, HO_7, BK182, HB⟩ := hrel; have hl7_1 := (Kd.S_reads' HO_7.out).1; rw [hl7_1] at HO_7; (try simp only [hl7_1]); (try simp only [hl7_1] at BK182); (try simp only [hl7_1] at HO_4); (try simp only [hl7_1] at HO_6)
    cases gk with
    | zero => exact absurd HA.out (by simp [claim_order.l0])
    | succ k1 =>
      have H := HA.out; clear HA; simp only [claim_order.l0] at H; by_cases c16 : x26_1 < (y189.length : Int)
      · rw [if_pos c16] at H
        have c16b0 : decide (x26_1 < (y189.length : Int)) = true := decide_eq_true c16; have c16b0z := c16b0
        first | (simp only [hl7_1] at c16b0z) | clear c16b0z
        clear c16; replace H := bm_ H; obtain ⟨t192, A170, H⟩ := H; replace H : (if 0 ≤ x26_1 then (if x26_1 < (x7_1.length : Int) then (claim_order.l0 k1 t183 y186 (x7_1.set (x26_1 : Int).toNat t192) (y189.length : Int) (wrap64 (x26_1 + 1)) l0_0 l0_1 l0_2) else (none)) else (none)) = some (r1, r2) := H; have A17 := A0_ A170; clear A170; by_cases c18 : 0 ≤ x26_1; rotate_left
        · rw [if_neg c18] at H
          exact absurd H (by simp)
        rw [if_pos c18] at H; have c18b0 : decide (0 ≤ x26_1) = true := decide_eq_true c18; clear c18; by_cases c19 : x26_1 < (x7_1.length : Int); rotate_left
        · rw [if_neg c19] at H
          exact absurd H (by simp)
        rw [if_pos c19] at H; have c19b0 : decide (x26_1 < (x7_1.length : Int)) = true := decide_eq_true c19; have c19b0z := c19b0
        first | (simp only [hl7_1] at c19b0z) | clear c19b0z
        clear c19; obtain ⟨y195, hy195⟩ : ∃ y_ : List (List Int), y_ = (x7_1.set (x26_1 : Int).toNat t192) := ⟨_, rfl⟩; replace H : (claim_order.l0 k1 t183 y186 y195 (y189.length : Int) (wrap64 (x26_1 + 1)) l0_0 l0_1 l0_2) = some (r1, r2) := by first|(rw [hy195]; with_reducible exact H)|(have H2_ := (Option.bind_some _ _).symm.trans H; rw [hy195]; with_reducible exact H2_)|(have H2_ := (Option.bind_some _ _).symm.trans H; with_reducible exact H2_)|with_reducible exact H|(rw [hy195]; exact H)|exact H
        have Ny195 := A0_ hy195; clear hy195; have H' := A0_ H; clear H; obtain ⟨hcz21_0, hcz21_1, hcz21_2, hfz21_0, hfz21_1, hfz21_2⟩ := cz3_ (w := wr) BK182.out
        go_wp2_with (first|((with_reducible refine gate_callee (f := 46) rfl ?_); refine goesL_ (some 33) rfl rfl Try.func46 (by kernel_rfl) rfl #[.agg #[.slice A0_0 l0_0.length c0_0, .slice A0_1 l0_1.length c0_1, .slice A0_2 l0_2.length c0_2], .int .i64 x26_1] rfl (by first|(simp only [List.map_toArray, List.map_cons, List.map_nil] <;> rfl)|rfl|(simp only [List.length_drop, List.length_take]; rfl)) ?_; (with_reducible refine (claim_left.calls k1 _ _ l0_0 _ _ l0_1 _ _ l0_2 x26_1 t192 _ ?side1 ?side2 ?side3 ?side4 ?side5 ?side6 A17.out).mono ?_); (case side1 => repeat (first|exact (Kd.C_below HR0_0.out HB.out)|(with_reducible first|refine Ca_ ?_ _|refine Cn_ ?_ _|refine Cd_ ?_))); (case side2 => exact HC0_0.out); (case side3 => repeat (first|exact (Kd.C_below HR0_1.out HB.out)|(with_reducible first|refine Ca_ ?_ _|refine Cn_ ?_ _|refine Cd_ ?_))); (case side4 => exact HC0_1.out); (case side5 => repeat (first|exact (Kd.C_below HR0_2.out HB.out)|(with_reducible first|refine Ca_ ?_ _|refine Cn_ ?_ _|refine Cd_ ?_))); (case side6 => exact HC0_2.out); rintro e w22 ⟨v193, rfl, ho0, hb⟩; refine ⟨_, rfl, ?_⟩; have n0_ := A0_ (Kd.R_elder' (by (with_reducible repeat first|apply Ra_|apply Rn_|apply Rd_); exact HO_4.out) (Kd.R_base ho0) hb); have n1_ := A0_ (Kd.R_below (by (with_reducible repeat first|apply Ra_|apply Rn_|apply Rd_); exact HO_6.out) hb); have n2_ := A0_ (Kd.S_elder' (by (with_reducible repeat first|apply Sa_|apply Sn_|apply Sd_); exact HO_7.out) (Kd.R_base ho0) hb); have n3_ := A0_ (Kd.R_lower (Kd.R_new' ho0 (Kd.R_lt (by (with_reducible repeat first|apply Ra_|apply Rn_|apply Rd_); exact HO_4.out))) (below_size (by repeat (first|(with_reducible first|exact HB.out|apply ba_|apply pN_|apply b1_|refine bs_ ?_ GE182.out)|exact HB.out)))); have n4_ := A0_ (blk_below (g := gb182) (o := .cells #[.slice A0_0 l0_0.length c0_0, .slice A0_1 l0_1.length c0_1, .slice A0_2 l0_2.length c0_2] 60 (0, 0)) (by (with_reducible repeat first|refine bN_ ?_ _|refine bD_ ?_|refine bA_ ?_ _); exact BK182.out) hb); have n5_ := A0_ (below_step (by repeat (first|(with_reducible first|exact HB.out|apply ba_|apply pN_|apply b1_|refine bs_ ?_ GE182.out)|exact HB.out)) hb); clear HO_4; clear HO_6; clear HO_7; clear BK182; clear HB; have HO_4 := n0_; have HO_6 := n1_; have HO_7 := n2_; have HO194 := n3_; have BK182 := n4_; have HB := n5_; clear n0_ n1_ n2_ n3_ n4_ n5_; (try clear hb); (try clear hb2); (try clear hk); (try clear hi); (try clear ho0); have p20 : 0 ≤ (x26_1 : Int) := of_decide_eq_true (by first|(with_reducible assumption)|assumption); have q20 : (x26_1 : Int) < ((x7_1.length : Int) : Int) := of_decide_eq_true (by first|(with_reducible assumption)|assumption); obtain ⟨go20, co20, eo20, gb20, gl20, cl20, HG20⟩ := Kd.S_form HO_7.out (by omega); (first|cases eo20|(injection eo20 with ea_ en_ ec_; (first|subst ea_|(injection ea_ with ea_; subst ea_)); subst ec_; clear en_)); have GB20 := A0_ gb20; have GG20 := A0_ HG20; clear gb20 gl20 HG20; obtain ⟨_, ce20, hcl20, hM20, hcc20, hfr20, _, _⟩ := Kd.S_elem HO_7.out [] (x26_1 : Int) p20 q20; obtain ⟨ve20_0, rfl, ge20_0⟩ := hM20; have hx20_0 := hcc20 0 _ rfl; have hf20_0 := hfr20 0; (try simp only [show ((Kd.slice 3 (Kd.int .i64))).sz = 1 from rfl, Nat.mul_one, Nat.add_zero] at hx20_0); (try simp only [show ((Kd.slice 3 (Kd.int .i64))).sz = 1 from rfl, Nat.mul_one, Nat.add_zero] at hf20_0); clear hcl20 hcc20 hfr20; (try clear hM20); replace p20 := eq_true p20; replace q20 := eq_true q20; have HX23 := A0_ (show Kd.S (Kd.slice 3 (Kd.int .i64)) 23 w22 w.heap.size (fun k_ => ((fun k_ => some k_ ≠ (v184 : Value).ownBlock)) k_ ∧ ¬ ((fun k_ => some k_ = (v193 : Value).ownBlock)) k_) (.slice (some ⟨go20, 0, none⟩) x7_1.length co15) x7_1 from (by (with_reducible repeat first|apply Sa_|apply Sn_|apply Sd_); exact Kd.S_mono HO_7.out (fun k_ hk => ⟨hk.1, fun e_ => hk.2 e_⟩))); obtain ⟨oki23, ce23, hcl23, hM23, hcc23, hfr23, hoki23, hH23⟩ := Kd.S_elem HX23.out [] (x26_1 : Int) (of_decide_eq_true (by first|(with_reducible assumption)|assumption)) (by have h_ : (x26_1 : Int) < ((x7_1.length : Int) : Int) := of_decide_eq_true (by first|(with_reducible assumption)|assumption); first|exact h_|(have e_ := (Kd.S_reads' HO_7.out).1; omega)|simpa using h_); obtain ⟨ve23_0, rfl, ge23_0⟩ := hM23; have HP23 := Kd.S_seg hH23 (of_decide_eq_true (by first|(with_reducible assumption)|assumption)) (by have h_ : (x26_1 : Int) < ((x7_1.length : Int) : Int) := of_decide_eq_true (by first|(with_reducible assumption)|assumption); first|exact h_|(have e_ := (Kd.S_reads' HO_7.out).1; omega)|simpa using h_) (seg := [v193]) (j := 0) (show 1 ≤ 1 from by decide) (x' := t192) (Kd.M_row (Kd.R_mono (Kd.R_tight rfl (Kd.R_mono (ok' := fun k_ => ((fun k_ => some k_ ≠ (v184 : Value).ownBlock)) k_ ∧ k_ ≠ go20) (Kd.R_apart' (HO194.out) (Kd.S_typed HO_7.out) (by decide)) (fun k_ hk => ⟨hk.1.2, fun e_ => (hk.2) (by rw [e_]; rfl)⟩))) (fun _ h_ => Or.inr (h_)))) (fun _ hk => hk) (fun k_ hk_ => ((Kd.R_mono (ok' := fun k_ => ((fun k_ => some k_ ≠ (v184 : Value).ownBlock)) k_ ∧ k_ ≠ go20) (Kd.R_apart' (HO194.out) (Kd.S_typed HO_7.out) (by decide)) (fun k_ hk => ⟨hk.1.2, fun e_ => (hk.2) (by rw [e_]; rfl)⟩))).1 k_ hk_.symm); have hx23_0 := hcc23 0 _ rfl; (try simp only [show ((Kd.slice 3 (Kd.int .i64))).sz = 1 from rfl, Nat.mul_one, Nat.add_zero] at hx23_0); have hf23_0 := hfr23 0; (try simp only [show ((Kd.slice 3 (Kd.int .i64))).sz = 1 from rfl, Nat.mul_one, Nat.add_zero] at hf23_0); clear hcl23 hcc23 hfr23 hoki23 hH23; (try clear hM23); (try simp only [show ((Kd.slice 3 (Kd.int .i64))).sz = 1 from rfl, Nat.mul_one, Nat.add_zero] at HP23))|((with_reducible refine gate_store (t := 23) (p := 34) rfl ?_); refine store_event (t := 23) (p := 34) (v := ?vo_w24) (w1 := (w22.setCell ⟨go20, (x26_1 : Int).toNat, none⟩ (v193))) ?hg ?ho ?hn ?hr ?_; (case ho => rfl); (case hg => rfl); (case hn => rfl); (case hr => first|(go_simp; done)|(go_simp; rfl)|(obtain ⟨A_, c_, e_⟩ := Kd.R_slice HO194.out; subst e_; first|(go_simp; done)|(go_simp; rfl))); intro w24 hw; have hg : w22.grownBy w24 (some go20) := (by rw [hw]; exact HP23.2); have hp_ : Kd.S (Kd.slice 3 (Kd.int .i64)) 23 w24 w.heap.size (fun k_ => some k_ ≠ (v184 : Value).ownBlock) (.slice (some ⟨go20, 0, none⟩) x7_1.length co15) y195 := (by rw [hw, Ny195.out]; exact HP23.1); clear HP23; have n0_ := A0_ (Kd.R_over' (v := (.slice (some ⟨go20, 0, none⟩) x7_1.length co15)) (by (with_reducible repeat first|apply Ra_|apply Rn_|apply Rd_); exact HO_4.out) (Kd.S_typed HO_7.out) (by decide) hg); have n1_ := A0_ (Kd.R_over' (v := (.slice (some ⟨go20, 0, none⟩) x7_1.length co15)) (by (with_reducible repeat first|apply Ra_|apply Rn_|apply Rd_); exact HO_6.out) (Kd.S_typed HO_7.out) (by decide) hg); have n2_ := A0_ (hp_); have n3_ := A0_ (blk_grown (g := gb182) (o := .cells #[.slice A0_0 l0_0.length c0_0, .slice A0_1 l0_1.length c0_1, .slice A0_2 l0_2.length c0_2] 60 (0, 0)) (by (with_reducible repeat first|refine bN_ ?_ _|refine bD_ ?_|refine bA_ ?_ _); exact BK182.out) hg (Kd.S_ne HO_7.out BK182.out (by decide))); have n4_ := A0_ ((by rw [hw]; exact bs_ (HB.out) GB20.out : Below w.heap.size w w24)); clear HO_4; clear HO_6; clear HO_7; clear BK182; clear HB; clear HO194; have HO_4 := n0_; have HO_6 := n1_; have HO_7 := n2_; have BK182 := n3_; have HB := n4_; clear n0_ n1_ n2_ n3_ n4_; clear hg hw hp_))
        (try simp only [← hl7_1])
        go_roundg k1
        case measure => have := HK1.out; omega
        case rel => exact ⟨(y195), (wrap64 (x26_1 + 1)), (by first|rfl|(simp; done)|(simp [*]; done)), H', ⟨by have := HK1.out; omega⟩, ⟨by (try simp only [hl7_1]); (with_reducible repeat first|apply Ra_|apply Rn_|apply Rd_); exact Kd.R_mono HO_4.out (fun _ hk => trivial)⟩, ⟨by (try simp only [hl7_1]); (with_reducible repeat first|apply Ra_|apply Rn_|apply Rd_); exact HO_6.out⟩, ⟨by (try simp only [hl7_1]); (with_reducible repeat first|apply Sa_|apply Sn_|apply Sd_); exact HO_7.out⟩, ⟨by (try simp only [hl7_1]); (with_reducible repeat first|refine bN_ ?_ _|refine bD_ ?_|refine bA_ ?_ _); exact BK182.out⟩, ⟨by repeat (first|(with_reducible first|exact HB.out|apply ba_|apply pN_|apply b1_|refine bs_ ?_ GE182.out)|exact HB.out)⟩⟩
      rw [if_neg c16] at H; have c16b0 : decide (x26_1 < (y189.length : Int)) = false := decide_eq_false c16; have c16b0z := c16b0
      first | (simp only [hl7_1] at c16b0z) | clear c16b0z
      clear c16; have H' := A0_ H; clear H; go_wp2
      go_loopg [5] k1 (fun kq v5 w' => ∃ (x4_2 : List Int) (x5_2 : List Int) (x6_2 : List Bool), Aside0 (claim_order.l1 kq x4_2 x5_2 x6_2 x7_1 l0_0 l0_1 l0_2 = some (r1, r2)) ∧ Aside0 (kq ≤ k1) ∧ Aside0 (Kd.R (Kd.int .i64) 3 w' w.heap.size (fun k_ => some k_ ≠ (v5 : Value).ownBlock) v184 x4_2) ∧ Aside0 (Kd.R (Kd.int .i64) 3 w' w.heap.size (fun k_ => some k_ ≠ (v184 : Value).ownBlock) v5 x5_2) ∧ Aside0 (Kd.R Kd.bool 4 w' w.heap.size (fun _ => True) v187 x6_2) ∧ Aside0 (Kd.S (Kd.slice 3 (Kd.int .i64)) 23 w' w.heap.size (fun k_ => some k_ ≠ (v184 : Value).ownBlock ∧ some k_ ≠ (v5 : Value).ownBlock) (.slice Ao15 x7_1.length co15) x7_1) ∧ Aside0 (w'.heap[gb182]? = some (.cells #[(.slice A0_0 l0_0.length c0_0), (.slice A0_1 l0_1.length c0_1), (.slice A0_2 l0_2.length c0_2)] 60 (0, 0))) ∧ Aside0 (Below w.heap.size w w'))
      case atStart => exact ⟨(t183), (([] : List Int)), (y186), H', ⟨Nat.le_refl _⟩, ⟨by (try simp only [hl7_1]); (with_reducible repeat first|apply Ra_|apply Rn_|apply Rd_); exact Kd.R_mono HO_4.out (fun _ hk => (by simp [Value.ownBlock]))⟩, ⟨by (try simp only [hl7_1]); first|exact Kd.R_nil _ _ _ _ _|exact Kd.N_nil _ _ _ _ _|exact Kd.V_nil _ _ _ _ _|exact Kd.Q_nil _ _ _ _ _|exact Kd.S_nil _ _ _ _ _⟩, ⟨by (try simp only [hl7_1]); (with_reducible repeat first|apply Ra_|apply Rn_|apply Rd_); exact HO_6.out⟩, ⟨by (try simp only [hl7_1]); (with_reducible repeat first|apply Sa_|apply Sn_|apply Sd_); exact Kd.S_mono HO_7.out (fun _ hk => ⟨hk, (by simp [Value.ownBlock])⟩)⟩, ⟨by (try simp only [hl7_1]); (with_reducible repeat first|refine bN_ ?_ _|refine bD_ ?_|refine bA_ ?_ _); exact BK182.out⟩, ⟨by repeat (first|(with_reducible first|exact HB.out|apply ba_|apply pN_|apply b1_|refine bs_ ?_ GE182.out)|exact HB.out)⟩⟩
      case round =>
        clear H'; (try clear c1); (try clear c2); (try clear p2); (try clear q2); (try clear hx2); (try clear hf2); (try clear c3); (try clear c3b0); (try clear c3b1); (try clear c4); (try clear c4b0); (try clear c4b1); (try clear c5); (try clear c5b0); (try clear c5b1); (try clear p6); (try clear c16); (try clear c16b0); (try clear c18); (try clear c18b0); (try clear c19); (try clear c19b0); (try clear c20); (try clear p20); (try clear q20); (try clear hx20); (try clear hf20); (try clear c23); (try clear hx23); (try clear hf23); (try clear hcz21_0); (try clear hcz21_1); (try clear hcz21_2); (try clear hcz7_0); (try clear hcz7_1); (try clear hcz7_2); (try clear hfz21_0); (try clear hfz21_1); (try clear hfz21_2); (try clear hfz7_0); (try clear hfz7_1); (try clear hfz7_2); (try clear hx20_0); (try clear hx23_0); (try clear p2); (try clear p20); (try clear q20); obtain ⟨x4_2, x5_2, x6_2, HA, HK2, HO_4, HO_5, HO_6, HO_7, BK182, HB⟩ := hrel
        cases gk with
        | zero => exact absurd HA.out (by simp [claim_order.l1])
        | succ k2 =>
          have H := HA.out; clear HA; simp only [claim_order.l1] at H; by_cases c25 : (x5_2.length : Int) < (l0_1.length : Int); rotate_left
          · rw [if_neg c25] at H
            have c25b0 : decide ((x5_2.length : Int) < (l0_1.length : Int)) = false := decide_eq_false c25; have c25b0z := c25b0
            first | (simp only [hl7_1] at c25b0z) | clear c25b0z
            have c25b1 : decide (x5_2.length < l0_1.length) = false := decide_eq_false (fun h => c25 (Int.ofNat_lt.mpr h)); clear c25; simp only [Option.some.injEq, Prod.mk.injEq] at H; obtain ⟨rfl, rfl⟩ := H; obtain ⟨Ao60, co60, eo60⟩ := Kd.R_slice HO_5.out; subst eo60; obtain ⟨hcz61_0, hcz61_1, hcz61_2, hfz61_0, hfz61_1, hfz61_2⟩ := cz3_ (w := wr) BK182.out; go_wp2; go_ret2; exact ⟨_, by first|rfl|(simp [errW_none, errW_some] <;> rfl)|(simp [*, errW_none, errW_some] <;> rfl), by (with_reducible repeat first|apply Ra_|apply Rn_|apply Rd_); exact Kd.R_mono HO_5.out (fun _ hk => trivial), by repeat (first|(with_reducible first|exact HB.out|apply ba_|apply pN_|apply b1_|refine bs_ ?_ GE182.out)|exact HB.out)⟩
          rw [if_pos c25] at H; have c25b0 : decide ((x5_2.length : Int) < (l0_1.length : Int)) = true := decide_eq_true c25; have c25b0z := c25b0
          first | (simp only [hl7_1] at c25b0z) | clear c25b0z
          have c25b1 : decide (x5_2.length < l0_1.length) = true := decide_eq_true (Int.ofNat_lt.mp c25); clear c25; have HC26 := A0_ H; clear H; obtain ⟨Ao27, co27, eo27⟩ := Kd.R_slice HO_5.out; subst eo27; obtain ⟨hcz28_0, hcz28_1, hcz28_2, hfz28_0, hfz28_1, hfz28_2⟩ := cz3_ (w := wr) BK182.out
          go_upto_block 4 with (fail)
          go_cut [9] (fun v9 wc => ∃ (kq : Nat) (x9_25 : Int), v9 = .int .i64 x9_25 ∧ Aside0 (claim_order.j3 kq x4_2 x5_2 x6_2 x7_1 x9_25 l0_0 l0_1 l0_2 = some (r1, r2)) ∧ Aside0 (kq ≤ k2) ∧ Aside0 (Kd.R (Kd.int .i64) 3 wc w.heap.size (fun k_ => some k_ ≠ ((.slice Ao27 x5_2.length co27) : Value).ownBlock) v184 x4_2) ∧ Aside0 (Kd.R (Kd.int .i64) 3 wc w.heap.size (fun k_ => some k_ ≠ (v184 : Value).ownBlock) (.slice Ao27 x5_2.length co27) x5_2) ∧ Aside0 (Kd.R Kd.bool 4 wc w.heap.size (fun _ => True) v187 x6_2) ∧ Aside0 (Kd.S (Kd.slice 3 (Kd.int .i64)) 23 wc w.heap.size (fun k_ => some k_ ≠ (v184 : Value).ownBlock ∧ some k_ ≠ ((.slice Ao27 x5_2.length co27) : Value).ownBlock) (.slice Ao15 x7_1.length co15) x7_1) ∧ Aside0 (wc.heap[gb182]? = some (.cells #[(.slice A0_0 l0_0.length c0_0), (.slice A0_1 l0_1.length c0_1), (.slice A0_2 l0_2.length c0_2)] 60 (0, 0))) ∧ Aside0 (Below w.heap.size w wc))
          case first =>
            have H := HC26.out; clear HC26; have H' := A0_ H; clear H; go_wp2
            go_loopg [9, 44] k2 (fun kq v9 v44 w' => ∃ (x9_3 : Int) (x44_3 : Int), v9 = .int .i64 x9_3 ∧ v44 = .int .i64 x44_3 ∧ Aside0 (claim_order.l2 kq x4_2 x5_2 x6_2 x7_1 x9_3 (x7_1.length : Int) x44_3 l0_0 l0_1 l0_2 = some (r1, r2)) ∧ Aside0 (kq ≤ k2) ∧ Aside0 (Kd.R (Kd.int .i64) 3 w' w.heap.size (fun k_ => some k_ ≠ ((.slice Ao27 x5_2.length co27) : Value).ownBlock) v184 x4_2) ∧ Aside0 (Kd.R (Kd.int .i64) 3 w' w.heap.size (fun k_ => some k_ ≠ (v184 : Value).ownBlock) (.slice Ao27 x5_2.length co27) x5_2) ∧ Aside0 (Kd.R Kd.bool 4 w' w.heap.size (fun _ => True) v187 x6_2) ∧ Aside0 (Kd.S (Kd.slice 3 (Kd.int .i64)) 23 w' w.heap.size (fun k_ => some k_ ≠ (v184 : Value).ownBlock ∧ some k_ ≠ ((.slice Ao27 x5_2.length co27) : Value).ownBlock) (.slice Ao15 x7_1.length co15) x7_1) ∧ Aside0 (w'.heap[gb182]? = some (.cells #[(.slice A0_0 l0_0.length c0_0), (.slice A0_1 l0_1.length c0_1), (.slice A0_2 l0_2.length c0_2)] 60 (0, 0))) ∧ Aside0 (Below w.heap.size w w'))
            case atStart => exact ⟨((-1)), (0), (by first|rfl|(simp; done)|(simp [*]; done)), (by first|rfl|(simp; done)|(simp [*]; done)), H', ⟨Nat.le_refl _⟩, ⟨by (try simp only [hl7_1]); (with_reducible repeat first|apply Ra_|apply Rn_|apply Rd_); exact HO_4.out⟩, ⟨by (try simp only [hl7_1]); (with_reducible repeat first|apply Ra_|apply Rn_|apply Rd_); exact HO_5.out⟩, ⟨by (try simp only [hl7_1]); (with_reducible repeat first|apply Ra_|apply Rn_|apply Rd_); exact HO_6.out⟩, ⟨by (try simp only [hl7_1]); (with_reducible repeat first|apply Sa_|apply Sn_|apply Sd_); exact HO_7.out⟩, ⟨by (try simp only [hl7_1]); (with_reducible repeat first|refine bN_ ?_ _|refine bD_ ?_|refine bA_ ?_ _); exact BK182.out⟩, ⟨by repeat (first|(with_reducible first|exact HB.out|apply ba_|apply pN_|apply b1_|refine bs_ ?_ GE182.out)|exact HB.out)⟩⟩
            case round =>
              clear H'; (try clear c1); (try clear c2); (try clear p2); (try clear q2); (try clear hx2); (try clear hf2); (try clear c3); (try clear c3b0); (try clear c3b1); (try clear c4); (try clear c4b0); (try clear c4b1); (try clear c5); (try clear c5b0); (try clear c5b1); (try clear p6); (try clear c16); (try clear c16b0); (try clear c18); (try clear c18b0); (try clear c19); (try clear c19b0); (try clear c20); (try clear p20); (try clear q20); (try clear hx20); (try clear hf20); (try clear c23); (try clear hx23); (try clear hf23); (try clear c25); (try clear c25b0); (try clear c25b1); (try clear hcz21_0); (try clear hcz21_1); (try clear hcz21_2); (try clear hcz28_0); (try clear hcz28_1); (try clear hcz28_2); (try clear hcz7_0); (try clear hcz7_1); (try clear hcz7_2); (try clear hfz21_0); (try clear hfz21_1); (try clear hfz21_2); (try clear hfz28_0); (try clear hfz28_1); (try clear hfz28_2); (try clear hfz7_0); (try clear hfz7_1); (try clear hfz7_2); (try clear hx20_0); (try clear hx23_0); (try clear p2); (try clear p20); (try clear p6); (try clear q2); (try clear q20); obtain ⟨x9_3, x44_3, rfl, rfl, HA, HK3, HO_4, HO_5, HO_6, HO_7, BK182, HB⟩ := hrel
              cases gk with
              | zero => exact absurd HA.out (by simp [claim_order.l2])
              | succ k3 =>
                have H := HA.out; clear HA; simp only [claim_order.l2] at H; by_cases c29 : x44_3 < (x7_1.length : Int); rotate_left
                · rw [if_neg c29] at H
                  have c29b0 : decide (x44_3 < (x7_1.length : Int)) = false := decide_eq_false c29; have c29b0z := c29b0
                  first | (simp only [hl7_1] at c29b0z) | clear c29b0z
                  clear c29
                  (first|rw [c29b0]|(simp only [i64_w, i32_w]; rw [c29b0])|skip)
                  have H' := A0_ H; clear H; go_wp2; go_meet
                  case rel => exact ⟨_, (x9_3), (by first|rfl|(simp; done)|(simp [*]; done)), H', ⟨by have := HK1.out; have := HK2.out; have := HK3.out; first|omega|exact Nat.le_refl _⟩, ⟨by (try simp only [hl7_1]); (with_reducible repeat first|apply Ra_|apply Rn_|apply Rd_); exact HO_4.out⟩, ⟨by (try simp only [hl7_1]); (with_reducible repeat first|apply Ra_|apply Rn_|apply Rd_); exact HO_5.out⟩, ⟨by (try simp only [hl7_1]); (with_reducible repeat first|apply Ra_|apply Rn_|apply Rd_); exact HO_6.out⟩, ⟨by (try simp only [hl7_1]); (with_reducible repeat first|apply Sa_|apply Sn_|apply Sd_); exact HO_7.out⟩, ⟨by (try simp only [hl7_1]); (with_reducible repeat first|refine bN_ ?_ _|refine bD_ ?_|refine bA_ ?_ _); exact BK182.out⟩, ⟨by repeat (first|(with_reducible first|exact HB.out|apply ba_|apply pN_|apply b1_|refine bs_ ?_ GE182.out)|exact HB.out)⟩⟩
                rw [if_pos c29] at H; have c29b0 : decide (x44_3 < (x7_1.length : Int)) = true := decide_eq_true c29; have c29b0z := c29b0
                first | (simp only [hl7_1] at c29b0z) | clear c29b0z
                clear c29
                (first|rw [c29b0]|(simp only [i64_w, i32_w]; rw [c29b0])|skip)
                by_cases c30 : 0 ≤ x44_3; rotate_left
                · rw [if_neg c30] at H
                  exact absurd H (by simp)
                rw [if_pos c30] at H; have c30b0 : decide (0 ≤ x44_3) = true := decide_eq_true c30; clear c30; by_cases c31 : x44_3 < (x6_2.length : Int); rotate_left
                · rw [if_neg c31] at H
                  exact absurd H (by simp)
                rw [if_pos c31] at H; have c31b0 : decide (x44_3 < (x6_2.length : Int)) = true := decide_eq_true c31; have c31b0z := c31b0
                first | (simp only [hl7_1] at c31b0z) | clear c31b0z
                clear c31; obtain ⟨bq32, hbq32⟩ : ∃ b_ : Bool, b_ = (rdOf false x6_2 x44_3) := ⟨_, rfl⟩; replace H : (if bq32 = true then (claim_order.l2 k3 x4_2 x5_2 x6_2 x7_1 x9_3 (x7_1.length : Int) (wrap64 (x44_3 + 1)) l0_0 l0_1 l0_2) else (if x44_3 < (x7_1.length : Int) then ((claim_under.f k3 (rd_L1 x7_1 x44_3) x4_2).bind fun t198 => (if t198 = true then (claim_order.j3 k3 x4_2 x5_2 x6_2 x7_1 x44_3 l0_0 l0_1 l0_2) else (claim_order.l2 k3 x4_2 x5_2 x6_2 x7_1 x9_3 (x7_1.length : Int) (wrap64 (x44_3 + 1)) l0_0 l0_1 l0_2))) else (none))) = some (r1, r2) := by rw [← hbq32] at H; exact H
                have Nbq32 := A0_ hbq32; clear hbq32; by_cases c33 : bq32 = true
                · subst c33
                  have H1 : (claim_order.l2 k3 x4_2 x5_2 x6_2 x7_1 x9_3 (x7_1.length : Int) (wrap64 (x44_3 + 1)) l0_0 l0_1 l0_2) = some (r1, r2) := by rw [if_pos rfl] at H; exact H
                  clear H; have H := H1; clear H1; have H' := A0_ H; clear H; obtain ⟨Ao34, co34, eo34⟩ := Kd.R_slice HO_6.out; subst eo34; have p196 : 0 ≤ (x44_3 : Int) := of_decide_eq_true (by first|(with_reducible assumption)|assumption); have q196 : x44_3 < (x6_2.length : Int) := of_decide_eq_true (by first|(with_reducible assumption)|assumption); obtain ⟨ad196, e196, hx196_0⟩ := Kd.at_bool (Kd.R_reads' HO_6.out).2.2 x44_3 p196 q196; (try rw [← Nbq32.out] at hx196_0); cases e196; replace p196 := eq_true p196; replace q196 := eq_true q196; go_wp2
                  go_roundg k3
                  case measure => have := HK1.out; have := HK2.out; have := HK3.out; omega
                  case rel => exact ⟨(x9_3), (wrap64 (x44_3 + 1)), (by first|rfl|(simp; done)|(simp [*]; done)), (by first|rfl|(simp; done)|(simp [*]; done)), H', ⟨by have := HK1.out; have := HK2.out; have := HK3.out; omega⟩, ⟨by (try simp only [hl7_1]); (with_reducible repeat first|apply Ra_|apply Rn_|apply Rd_); exact HO_4.out⟩, ⟨by (try simp only [hl7_1]); (with_reducible repeat first|apply Ra_|apply Rn_|apply Rd_); exact HO_5.out⟩, ⟨by (try simp only [hl7_1]); (with_reducible repeat first|apply Ra_|apply Rn_|apply Rd_); exact HO_6.out⟩, ⟨by (try simp only [hl7_1]); (with_reducible repeat first|apply Sa_|apply Sn_|apply Sd_); exact HO_7.out⟩, ⟨by (try simp only [hl7_1]); (with_reducible repeat first|refine bN_ ?_ _|refine bD_ ?_|refine bA_ ?_ _); exact BK182.out⟩, ⟨by repeat (first|(with_reducible first|exact HB.out|apply ba_|apply pN_|apply b1_|refine bs_ ?_ GE182.out)|exact HB.out)⟩⟩
                replace c33 := Bool.eq_false_iff.mpr c33; subst c33; have H1 : (if x44_3 < (x7_1.length : Int) then ((claim_under.f k3 (rd_L1 x7_1 x44_3) x4_2).bind fun t198 => (if t198 = true then (claim_order.j3 k3 x4_2 x5_2 x6_2 x7_1 x44_3 l0_0 l0_1 l0_2) else (claim_order.l2 k3 x4_2 x5_2 x6_2 x7_1 x9_3 (x7_1.length : Int) (wrap64 (x44_3 + 1)) l0_0 l0_1 l0_2))) else (none)) = some (r1, r2) := by rw [if_neg (show ¬ (false = true) by decide)] at H; exact H
                clear H; have H := H1; clear H1; by_cases c35 : x44_3 < (x7_1.length : Int); rotate_left
                · rw [if_neg c35] at H
                  exact absurd H (by simp)
                rw [if_pos c35] at H; have c35b0 : decide (x44_3 < (x7_1.length : Int)) = true := decide_eq_true c35; have c35b0z := c35b0
                first | (simp only [hl7_1] at c35b0z) | clear c35b0z
                clear c35; replace H := bm_ H; obtain ⟨t198, A360, H⟩ := H; replace H : (if t198 = true then (claim_order.j3 k3 x4_2 x5_2 x6_2 x7_1 x44_3 l0_0 l0_1 l0_2) else (claim_order.l2 k3 x4_2 x5_2 x6_2 x7_1 x9_3 (x7_1.length : Int) (wrap64 (x44_3 + 1)) l0_0 l0_1 l0_2)) = some (r1, r2) := H; have A36 := A0_ A360; clear A360; by_cases c37 : t198 = true
                · subst c37
                  have H1 : (claim_order.j3 k3 x4_2 x5_2 x6_2 x7_1 x44_3 l0_0 l0_1 l0_2) = some (r1, r2) := by rw [if_pos rfl] at H; exact H
                  clear H; have H := H1; clear H1; have H' := A0_ H; clear H; obtain ⟨Ao38, co38, eo38⟩ := Kd.R_slice HO_6.out; subst eo38; have p196 : 0 ≤ (x44_3 : Int) := of_decide_eq_true (by first|(with_reducible assumption)|assumption); have q196 : x44_3 < (x6_2.length : Int) := of_decide_eq_true (by first|(with_reducible assumption)|assumption); obtain ⟨ad196, e196, hx196_0⟩ := Kd.at_bool (Kd.R_reads' HO_6.out).2.2 x44_3 p196 q196; (try rw [← Nbq32.out] at hx196_0); cases e196; replace p196 := eq_true p196; replace q196 := eq_true q196; have p197 : 0 ≤ (x44_3 : Int) := of_decide_eq_true (by first|(with_reducible assumption)|assumption); have q197 : x44_3 < (x7_1.length : Int) := of_decide_eq_true (by first|(with_reducible assumption)|assumption); obtain ⟨ad197, A197_0, c197_0, e197, hx197_0, hl197_0, hi197_0⟩ := at_L1 (Kd.S_reads' HO_7.out).2.2 x44_3 p197 q197; cases e197; obtain ⟨ce197, hce197, hMe197, hcc197⟩ := Kd.S_get HO_7.out [] x44_3 p197 (by first|exact q197|exact of_decide_eq_true (by first|(with_reducible assumption)|assumption)|(have e_ := (Kd.S_reads' HO_7.out).1; omega)); obtain ⟨ve197_0, rfl, ge197_0⟩ := hMe197; have hv197_0 := hcc197 0 _ rfl; rw [Nat.add_zero, show ((Kd.slice 3 (Kd.int .i64))).sz = 1 from rfl, Nat.mul_one] at hv197_0; replace hv197_0 := Option.some.inj (hv197_0.symm.trans hx197_0); rw [hv197_0] at ge197_0; have HL197_0 := A0_ (show Kd.R (Kd.int .i64) 3 _ _ _ _ (rd_L1 x7_1 x44_3) from ge197_0); clear hv197_0 ge197_0; clear hcc197 hce197; have HR197_0 := A0_ hi197_0; have HC197_0 := A0_ hl197_0; clear hi197_0 hl197_0; replace p197 := eq_true p197; replace q197 := eq_true q197; obtain ⟨Ao39, co39, eo39⟩ := Kd.R_slice HO_4.out; subst eo39; go_wp2_with (first|(go_at_call 47; (with_reducible refine (claim_under.calls k3 _ _ (rd_L1 x7_1 x44_3) _ _ x4_2 true _ ?side1 ?side2 ?side3 ?side4 A36.out).mono ?_); (case side1 => repeat (first|exact (by repeat (first|(with_reducible exact HR197_0.out)|(with_reducible first|refine Ca_ ?_ _|refine Cn_ ?_ _|refine Cd_ ?_)|exact HR197_0.out))|(with_reducible first|refine Ca_ ?_ _|refine Cn_ ?_ _|refine Cd_ ?_))); (case side2 => exact HC197_0.out); (case side3 => repeat (first|exact (Kd.R_reads' HO_4.out).2.2|(with_reducible first|refine Ca_ ?_ _|refine Cn_ ?_ _|refine Cd_ ?_))); (case side4 => exact (Kd.R_reads' HO_4.out).2.1); rintro e w' ⟨rfl, ⟨nd, rfl⟩⟩)); go_meet
                  case rel => exact ⟨_, (x44_3), (by first|rfl|(simp; done)|(simp [*]; done)), H', ⟨by have := HK1.out; have := HK2.out; have := HK3.out; first|omega|exact Nat.le_refl _⟩, ⟨by (try simp only [hl7_1]); (with_reducible repeat first|apply Ra_|apply Rn_|apply Rd_); exact HO_4.out⟩, ⟨by (try simp only [hl7_1]); (with_reducible repeat first|apply Ra_|apply Rn_|apply Rd_); exact HO_5.out⟩, ⟨by (try simp only [hl7_1]); (with_reducible repeat first|apply Ra_|apply Rn_|apply Rd_); exact HO_6.out⟩, ⟨by (try simp only [hl7_1]); (with_reducible repeat first|apply Sa_|apply Sn_|apply Sd_); exact HO_7.out⟩, ⟨by (try simp only [hl7_1]); (with_reducible repeat first|refine bN_ ?_ _|refine bD_ ?_|refine bA_ ?_ _); exact BK182.out⟩, ⟨by repeat (first|(with_reducible first|exact HB.out|apply ba_|apply pN_|apply b1_|refine bs_ ?_ GE182.out)|exact HB.out)⟩⟩
                replace c37 := Bool.eq_false_iff.mpr c37; subst c37; have H1 : (claim_order.l2 k3 x4_2 x5_2 x6_2 x7_1 x9_3 (x7_1.length : Int) (wrap64 (x44_3 + 1)) l0_0 l0_1 l0_2) = some (r1, r2) := by rw [if_neg (show ¬ (false = true) by decide)] at H; exact H
                clear H; have H := H1; clear H1; have H' := A0_ H; clear H; obtain ⟨Ao40, co40, eo40⟩ := Kd.R_slice HO_6.out; subst eo40; have p196 : 0 ≤ (x44_3 : Int) := of_decide_eq_true (by first|(with_reducible assumption)|assumption); have q196 : x44_3 < (x6_2.length : Int) := of_decide_eq_true (by first|(with_reducible assumption)|assumption); obtain ⟨ad196, e196, hx196_0⟩ := Kd.at_bool (Kd.R_reads' HO_6.out).2.2 x44_3 p196 q196; (try rw [← Nbq32.out] at hx196_0); cases e196; replace p196 := eq_true p196; replace q196 := eq_true q196; have p197 : 0 ≤ (x44_3 : Int) := of_decide_eq_true (by first|(with_reducible assumption)|assumption); have q197 : x44_3 < (x7_1.length : Int) := of_decide_eq_true (by first|(with_reducible assumption)|assumption); obtain ⟨ad197, A197_0, c197_0, e197, hx197_0, hl197_0, hi197_0⟩ := at_L1 (Kd.S_reads' HO_7.out).2.2 x44_3 p197 q197; cases e197; obtain ⟨ce197, hce197, hMe197, hcc197⟩ := Kd.S_get HO_7.out [] x44_3 p197 (by first|exact q197|exact of_decide_eq_true (by first|(with_reducible assumption)|assumption)|(have e_ := (Kd.S_reads' HO_7.out).1; omega)); obtain ⟨ve197_0, rfl, ge197_0⟩ := hMe197; have hv197_0 := hcc197 0 _ rfl; rw [Nat.add_zero, show ((Kd.slice 3 (Kd.int .i64))).sz = 1 from rfl, Nat.mul_one] at hv197_0; replace hv197_0 := Option.some.inj (hv197_0.symm.trans hx197_0); rw [hv197_0] at ge197_0; have HL197_0 := A0_ (show Kd.R (Kd.int .i64) 3 _ _ _ _ (rd_L1 x7_1 x44_3) from ge197_0); clear hv197_0 ge197_0; clear hcc197 hce197; have HR197_0 := A0_ hi197_0; have HC197_0 := A0_ hl197_0; clear hi197_0 hl197_0; replace p197 := eq_true p197; replace q197 := eq_true q197; obtain ⟨Ao41, co41, eo41⟩ := Kd.R_slice HO_4.out; subst eo41; go_wp2_with (first|(go_at_call 47; (with_reducible refine (claim_under.calls k3 _ _ (rd_L1 x7_1 x44_3) _ _ x4_2 false _ ?side1 ?side2 ?side3 ?side4 A36.out).mono ?_); (case side1 => repeat (first|exact (by repeat (first|(with_reducible exact HR197_0.out)|(with_reducible first|refine Ca_ ?_ _|refine Cn_ ?_ _|refine Cd_ ?_)|exact HR197_0.out))|(with_reducible first|refine Ca_ ?_ _|refine Cn_ ?_ _|refine Cd_ ?_))); (case side2 => exact HC197_0.out); (case side3 => repeat (first|exact (Kd.R_reads' HO_4.out).2.2|(with_reducible first|refine Ca_ ?_ _|refine Cn_ ?_ _|refine Cd_ ?_))); (case side4 => exact (Kd.R_reads' HO_4.out).2.1); rintro e w' ⟨rfl, ⟨nd, rfl⟩⟩))
                go_roundg k3
                case measure => have := HK1.out; have := HK2.out; have := HK3.out; omega
                case rel => exact ⟨(x9_3), (wrap64 (x44_3 + 1)), (by first|rfl|(simp; done)|(simp [*]; done)), (by first|rfl|(simp; done)|(simp [*]; done)), H', ⟨by have := HK1.out; have := HK2.out; have := HK3.out; omega⟩, ⟨by (try simp only [hl7_1]); (with_reducible repeat first|apply Ra_|apply Rn_|apply Rd_); exact HO_4.out⟩, ⟨by (try simp only [hl7_1]); (with_reducible repeat first|apply Ra_|apply Rn_|apply Rd_); exact HO_5.out⟩, ⟨by (try simp only [hl7_1]); (with_reducible repeat first|apply Ra_|apply Rn_|apply Rd_); exact HO_6.out⟩, ⟨by (try simp only [hl7_1]); (with_reducible repeat first|apply Sa_|apply Sn_|apply Sd_); exact HO_7.out⟩, ⟨by (try simp only [hl7_1]); (with_reducible repeat first|refine bN_ ?_ _|refine bD_ ?_|refine bA_ ?_ _); exact BK182.out⟩, ⟨by repeat (first|(with_reducible first|exact HB.out|apply ba_|apply pN_|apply b1_|refine bs_ ?_ GE182.out)|exact HB.out)⟩⟩
          case rest =>
            clear HC26; (try clear c1); (try clear p1); (try clear q1); (try clear hx1); (try clear c2); (try clear p2); (try clear q2); (try clear hx2); (try clear hf2); (try clear c3); (try clear c3b0); (try clear c3b1); (try clear q3); (try clear c4); (try clear c4b0); (try clear c4b1); (try clear c5); (try clear c5b0); (try clear c5b1); (try clear p6); (try clear c16); (try clear c16b0); (try clear c18); (try clear c18b0); (try clear c19); (try clear c19b0); (try clear p19); (try clear q19); (try clear hx19); (try clear c20); (try clear p20); (try clear q20); (try clear hx20); (try clear hf20); (try clear c23); (try clear hx23); (try clear hf23); (try clear c25); (try clear c25b0); (try clear c25b1); (try clear c29); (try clear c29b0); (try clear c30); (try clear c30b0); (try clear c31); (try clear c31b0); (try clear q32); (try clear c33); (try clear c35); (try clear c35b0); (try clear c37); (try clear hcz21_0); (try clear hcz21_1); (try clear hcz21_2); (try clear hcz28_0); (try clear hcz28_1); (try clear hcz28_2); (try clear hcz7_0); (try clear hcz7_1); (try clear hcz7_2); (try clear hfz21_0); (try clear hfz21_1); (try clear hfz21_2); (try clear hfz28_0); (try clear hfz28_1); (try clear hfz28_2); (try clear hfz7_0); (try clear hfz7_1); (try clear hfz7_2); (try clear hx196_0); (try clear hx197_0); (try clear hx20_0); (try clear hx23_0); (try clear p196); (try clear p197); (try clear p2); (try clear p20); (try clear p6); (try clear q196); (try clear q197); (try clear q2); (try clear q20); obtain ⟨kq, x9_25, rfl, HA, HJ25, HO_4, HO_5, HO_6, HO_7, BK182, HB⟩ := hcut
            cases kq with
            | zero => exact absurd HA.out (by simp [claim_order.j3])
            | succ kj25 =>
              have H := HA.out; clear HA; simp only [claim_order.j3] at H; by_cases c42 : x9_25 < 0
              · rw [if_pos c42] at H
                have c42b0 : decide (x9_25 < 0) = true := decide_eq_true c42; clear c42; simp only [Option.some.injEq, Prod.mk.injEq] at H; obtain ⟨rfl, rfl⟩ := H; go_wp2; go_ret2; exact ⟨_, by first|rfl|(simp [errW_none, errW_some] <;> rfl)|(simp [*, errW_none, errW_some] <;> rfl), by first|exact Kd.R_nil _ _ _ _ _|exact Kd.N_nil _ _ _ _ _|exact Kd.V_nil _ _ _ _ _|exact Kd.Q_nil _ _ _ _ _|exact Kd.S_nil _ _ _ _ _, by repeat (first|(with_reducible first|exact HB.out|apply ba_|apply pN_|apply b1_|refine bs_ ?_ GE182.out)|exact HB.out)⟩
              rw [if_neg c42] at H; have c42b0 : decide (x9_25 < 0) = false := decide_eq_false c42; clear c42; by_cases c43 : 0 ≤ x9_25; rotate_left
              · rw [if_neg c43] at H
                exact absurd H (by simp)
              rw [if_pos c43] at H; have c43b0 : decide (0 ≤ x9_25) = true := decide_eq_true c43; clear c43; by_cases c44 : x9_25 < (x6_2.length : Int); rotate_left
              · rw [if_neg c44] at H
                exact absurd H (by simp)
              rw [if_pos c44] at H; have c44b0 : decide (x9_25 < (x6_2.length : Int)) = true := decide_eq_true c44; have c44b0z := c44b0
              first | (simp only [hl7_1] at c44b0z) | clear c44b0z
              clear c44; obtain ⟨y199, hy199⟩ : ∃ y_ : List Bool, y_ = (x6_2.set (x9_25 : Int).toNat true) := ⟨_, rfl⟩; replace H : (if x5_2.length < 17592186044416 then (if x9_25 < (l0_1.length : Int) then (claim_order.l3 kj25 x4_2 (x5_2 ++ [x9_25]) y199 x7_1 (rd_L1 l0_1 x9_25) ((rd_L1 l0_1 x9_25).length : Int) 0 l0_0 l0_1 l0_2) else (none)) else (none)) = some (r1, r2) := by first|(rw [hy199]; with_reducible exact H)|(have H2_ := (Option.bind_some _ _).symm.trans H; rw [hy199]; with_reducible exact H2_)|(have H2_ := (Option.bind_some _ _).symm.trans H; with_reducible exact H2_)|with_reducible exact H|(rw [hy199]; exact H)|exact H
              have Ny199 := A0_ hy199; clear hy199; by_cases c46 : x5_2.length < 17592186044416; rotate_left
              · rw [if_neg c46] at H
                exact absurd H (by simp)
              rw [if_pos c46] at H; have LMc46 := A0_ c46; clear c46; obtain ⟨y200, hy200⟩ : ∃ y_ : List Int, y_ = (x5_2 ++ [x9_25]) := ⟨_, rfl⟩; replace H : (if x9_25 < (l0_1.length : Int) then (claim_order.l3 kj25 x4_2 y200 y199 x7_1 (rd_L1 l0_1 x9_25) ((rd_L1 l0_1 x9_25).length : Int) 0 l0_0 l0_1 l0_2) else (none)) = some (r1, r2) := by first|(rw [hy200]; with_reducible exact H)|(have H2_ := (Option.bind_some _ _).symm.trans H; rw [hy200]; with_reducible exact H2_)|(have H2_ := (Option.bind_some _ _).symm.trans H; with_reducible exact H2_)|with_reducible exact H|(rw [hy200]; exact H)|exact H
              have Ny200 := A0_ hy200; clear hy200; by_cases c47 : x9_25 < (l0_1.length : Int); rotate_left
              · rw [if_neg c47] at H
                exact absurd H (by simp)
              rw [if_pos c47] at H; have c47b0 : decide (x9_25 < (l0_1.length : Int)) = true := decide_eq_true c47; have c47b0z := c47b0
              first | (simp only [hl7_1] at c47b0z) | clear c47b0z
              clear c47; have H' := A0_ H; clear H; have p45 : 0 ≤ (x9_25 : Int) := of_decide_eq_true (by first|(with_reducible assumption)|assumption); have q45 : (x9_25 : Int) < ((x6_2.length : Int) : Int) := of_decide_eq_true (by first|(with_reducible assumption)|assumption); obtain ⟨go45, co45, eo45, gb45, gl45, cl45, HG45⟩ := Kd.R_form HO_6.out (by omega)
              (first|cases eo45|(injection eo45 with ea_ en_ ec_; (first|subst ea_|(injection ea_ with ea_; subst ea_)); subst ec_; clear en_))
              have GB45 := A0_ gb45; have GG45 := A0_ HG45; clear gb45 gl45 HG45; obtain ⟨hx45_0, hf45_0⟩ := Kd.R_celln false HO_6.out (x9_25 : Int) p45 q45; replace p45 := eq_true p45; replace q45 := eq_true q45; have HP48 := Kd.R_putg HO_6.out (x9_25 : Int) true; go_wp2_with (first|((with_reducible refine gate_store (t := 4) (p := 66) rfl ?_); refine store_event (t := 4) (p := 66) (v := ?vo_w49) (w1 := (wc.setCell ⟨go45, (x9_25 : Int).toNat, none⟩ (.bool true))) ?hg ?ho ?hn ?hr ?_; (case ho => rfl); (case hg => rfl); (case hn => rfl); (case hr => first|(go_simp; done)|(go_simp; rfl)); intro w49 hw; have hg : wc.grownBy w49 (some go45) := (by rw [hw]; exact HP48.2); have hp_ : Kd.R Kd.bool 4 w49 w.heap.size (fun _ => True) (.slice (some ⟨go45, 0, none⟩) x6_2.length co45) y199 := (by rw [hw, Ny199.out]; exact HP48.1); clear HP48; have n0_ := A0_ (Kd.R_over' (v := (.slice (some ⟨go45, 0, none⟩) x6_2.length co45)) (by (with_reducible repeat first|apply Ra_|apply Rn_|apply Rd_); exact HO_4.out) (Kd.R_typed HO_6.out) (by decide) hg); have n1_ := A0_ (Kd.R_over' (v := (.slice (some ⟨go45, 0, none⟩) x6_2.length co45)) (by (with_reducible repeat first|apply Ra_|apply Rn_|apply Rd_); exact HO_5.out) (Kd.R_typed HO_6.out) (by decide) hg); have n2_ := A0_ (hp_); have n3_ := A0_ (Kd.S_over' (v := (.slice (some ⟨go45, 0, none⟩) x6_2.length co45)) (by (with_reducible repeat first|apply Sa_|apply Sn_|apply Sd_); exact HO_7.out) (Kd.R_typed HO_6.out) (by decide) hg); have n4_ := A0_ (blk_grown (g := gb182) (o := .cells #[.slice A0_0 l0_0.length c0_0, .slice A0_1 l0_1.length c0_1, .slice A0_2 l0_2.length c0_2] 60 (0, 0)) (by (with_reducible repeat first|refine bN_ ?_ _|refine bD_ ?_|refine bA_ ?_ _); exact BK182.out) hg (Kd.R_ne HO_6.out BK182.out (by decide))); have n5_ := A0_ ((by rw [hw]; exact bs_ (HB.out) GB45.out : Below w.heap.size w w49)); clear HO_4; clear HO_5; clear HO_6; clear HO_7; clear BK182; clear HB; have HO_4 := n0_; have HO_5 := n1_; have HO_6 := n2_; have HO_7 := n3_; have BK182 := n4_; have HB := n5_; clear n0_ n1_ n2_ n3_ n4_ n5_; clear hg hw hp_)|((with_reducible refine gate_builtin (b := .append) (xs := #[.tmp 67, .tmp 69]) rfl ?_); at_builtin; refine Kd.R_append (Kd.int .i64) (w0 := w) w.heap.size rfl (.tmp 67) (.tmp 69) 23 3 (.int .i64 0) 8 rfl Try.underlying23 info3 rfl (by decide) (by omega) (.slice Ao27 x5_2.length co27) x5_2 x9_25 [.int .i64 x9_25] (fun k_ => some k_ ≠ (v184 : Value).ownBlock) (fun _ => False) rfl rfl ?aP (fun _ hk => hk.elim) ?aF ?aO ?aB ?aS ?aL ?_; (case aP => exact rfl); (case aB => exact (by repeat (first|(with_reducible first|exact HB.out|apply ba_|apply pN_|apply b1_|refine bs_ ?_ GE182.out)|exact HB.out))); (case aF => exact (fun k_ hk => Kd.fresh' (Kd.R_lt (by (with_reducible repeat first|apply Ra_|apply Rn_|apply Rd_); exact HO_4.out)) k_ hk)); (case aO => exact (by (with_reducible repeat first|apply Ra_|apply Rn_|apply Rd_); exact HO_5.out)); (case aS => exact (below_size (by repeat (first|(with_reducible first|exact HB.out|apply ba_|apply pN_|apply b1_|refine bs_ ?_ GE182.out)|exact HB.out)))); (case aL => have := LMc46.out; omega); intro v201 w50 ho hb hg hat; rw [← Ny200.out] at ho; have n0_ := A0_ (Kd.R_after (ok := (fun _ => True)) (by (with_reducible repeat first|apply Ra_|apply Rn_|apply Rd_); exact Kd.R_mono HO_4.out (fun _ hk => ⟨trivial, hk⟩)) hg hat); have n1_ := A0_ (Kd.R_over' (by (with_reducible repeat first|apply Ra_|apply Rn_|apply Rd_); exact HO_6.out) (Kd.R_typed (by (with_reducible repeat first|apply Ra_|apply Rn_|apply Rd_); exact HO_5.out)) (by decide) hg); have n2_ := A0_ (Kd.S_after (ok := (fun k_ => some k_ ≠ (v184 : Value).ownBlock)) (by (with_reducible repeat first|apply Sa_|apply Sn_|apply Sd_); exact HO_7.out) hg hat); have n3_ := A0_ (blk_grown (g := gb182) (o := .cells #[.slice A0_0 l0_0.length c0_0, .slice A0_1 l0_1.length c0_1, .slice A0_2 l0_2.length c0_2] 60 (0, 0)) (by (with_reducible repeat first|refine bN_ ?_ _|refine bD_ ?_|refine bA_ ?_ _); exact BK182.out) hg (Kd.R_ne HO_5.out BK182.out (by decide))); have n4_ := A0_ (hb); have n5_ := A0_ (ho); clear HO_4; clear HO_6; clear HO_7; clear BK182; clear HB; clear HO_5; have HO_4 := n0_; have HO_6 := n1_; have HO_7 := n2_; have BK182 := n3_; have HB := n4_; have HO202 := n5_; clear n0_ n1_ n2_ n3_ n4_ n5_; clear ho hb hg hat; obtain ⟨hcz51_0, hcz51_1, hcz51_2, hfz51_0, hfz51_1, hfz51_2⟩ := cz3_ (w := w50) BK182.out; have p203 : 0 ≤ (x9_25 : Int) := of_decide_eq_true (by first|(with_reducible assumption)|assumption); have q203 : x9_25 < (l0_1.length : Int) := of_decide_eq_true (by first|(with_reducible assumption)|assumption); obtain ⟨ad203, A203_0, c203_0, e203, hx203_0, hl203_0, hi203_0⟩ := at_L1 HR0_1.out x9_25 p203 q203; cases e203; replace hx203_0 := (HB.out.cell (bl_ w _ hx203_0)).trans hx203_0; have HR203_0 := A0_ hi203_0; have HC203_0 := A0_ hl203_0; clear hi203_0 hl203_0; replace p203 := eq_true p203; replace q203 := eq_true q203))
              go_loopg [77] kj25 (fun kq v77 w' => ∃ (x4_4 : List Int) (x77_4 : Int), v77 = .int .i64 x77_4 ∧ Aside0 (claim_order.l3 kq x4_4 y200 y199 x7_1 (rd_L1 l0_1 x9_25) ((rd_L1 l0_1 x9_25).length : Int) x77_4 l0_0 l0_1 l0_2 = some (r1, r2)) ∧ Aside0 (kq ≤ kj25) ∧ Aside0 (Kd.R (Kd.int .i64) 3 w' w.heap.size (fun k_ => some k_ ≠ (v201 : Value).ownBlock) v184 x4_4) ∧ Aside0 (Kd.R (Kd.int .i64) 3 w' w.heap.size (fun k_ => some k_ ≠ (v184 : Value).ownBlock) v201 y200) ∧ Aside0 (Kd.R Kd.bool 4 w' w.heap.size (fun _ => True) (.slice (some ⟨go45, 0, none⟩) x6_2.length co45) y199) ∧ Aside0 (Kd.S (Kd.slice 3 (Kd.int .i64)) 23 w' w.heap.size (fun k_ => some k_ ≠ (v184 : Value).ownBlock ∧ some k_ ≠ (v201 : Value).ownBlock) (.slice Ao15 x7_1.length co15) x7_1) ∧ Aside0 (w'.heap[gb182]? = some (.cells #[(.slice A0_0 l0_0.length c0_0), (.slice (some ad203) l0_1.length c0_1), (.slice A0_2 l0_2.length c0_2)] 60 (0, 0))) ∧ Aside0 (Below w.heap.size w w'))
              case atStart => exact ⟨(x4_2), (0), (by first|rfl|(simp; done)|(simp [*]; done)), H', ⟨Nat.le_refl _⟩, ⟨by (try simp only [hl7_1]); (with_reducible repeat first|apply Ra_|apply Rn_|apply Rd_); exact Kd.R_mono HO_4.out (fun _ hk => hk.2)⟩, ⟨by (try simp only [hl7_1]); (with_reducible repeat first|apply Ra_|apply Rn_|apply Rd_); exact HO202.out⟩, ⟨by (try simp only [hl7_1]); (with_reducible repeat first|apply Ra_|apply Rn_|apply Rd_); exact HO_6.out⟩, ⟨by (try simp only [hl7_1]); (with_reducible repeat first|apply Sa_|apply Sn_|apply Sd_); exact HO_7.out⟩, ⟨by (try simp only [hl7_1]); (with_reducible repeat first|refine bN_ ?_ _|refine bD_ ?_|refine bA_ ?_ _); exact BK182.out⟩, ⟨by repeat (first|(with_reducible first|exact HB.out|apply ba_|apply pN_|apply b1_|refine bs_ ?_ GE182.out)|exact HB.out)⟩⟩
              case round =>
                clear H'; (try clear c1); (try clear p1); (try clear q1); (try clear hx1); (try clear c2); (try clear p2); (try clear q2); (try clear hx2); (try clear hf2); (try clear c3); (try clear c3b0); (try clear c3b1); (try clear q3); (try clear c4); (try clear c4b0); (try clear c4b1); (try clear p4); (try clear q4); (try clear hx4); (try clear hf4); (try clear c5); (try clear c5b0); (try clear c5b1); (try clear p6); (try clear c16); (try clear c16b0); (try clear c18); (try clear c18b0); (try clear c19); (try clear c19b0); (try clear p19); (try clear q19); (try clear hx19); (try clear c20); (try clear p20); (try clear q20); (try clear hx20); (try clear hf20); (try clear c23); (try clear hx23); (try clear hf23); (try clear c25); (try clear c25b0); (try clear c25b1); (try clear c29); (try clear c29b0); (try clear c30); (try clear c30b0); (try clear c31); (try clear c31b0); (try clear q32); (try clear c33); (try clear c35); (try clear c35b0); (try clear c37); (try clear c42); (try clear c42b0); (try clear c43); (try clear c43b0); (try clear c44); (try clear c44b0); (try clear p45); (try clear q45); (try clear hx45); (try clear hf45); (try clear c46); (try clear c47); (try clear c47b0); (try clear hcz21_0); (try clear hcz21_1); (try clear hcz21_2); (try clear hcz28_0); (try clear hcz28_1); (try clear hcz28_2); (try clear hcz51_0); (try clear hcz51_1); (try clear hcz51_2); (try clear hcz7_0); (try clear hcz7_1); (try clear hcz7_2); (try clear hfz21_0); (try clear hfz21_1); (try clear hfz21_2); (try clear hfz28_0); (try clear hfz28_1); (try clear hfz28_2); (try clear hfz51_0); (try clear hfz51_1); (try clear hfz51_2); (try clear hfz7_0); (try clear hfz7_1); (try clear hfz7_2); (try clear hx196_0); (try clear hx197_0); (try clear hx203_0); (try clear hx20_0); (try clear hx23_0); (try clear hx45_0); (try clear p1); (try clear p19); (try clear p196); (try clear p197); (try clear p2); (try clear p20); (try clear p203); (try clear p45); (try clear p6); (try clear q1); (try clear q19); (try clear q196); (try clear q197); (try clear q2); (try clear q20); (try clear q203); (try clear q3); (try clear q32); (try clear q45); obtain ⟨x4_4, x77_4, rfl, HA, HK4, HO_4, HO_5, HO_6, HO_7, BK182, HB⟩ := hrel; have hl6_4 := (Kd.R_reads' HO_6.out).1; rw [hl6_4] at HO_6; (try simp only [hl6_4]); (try simp only [hl6_4] at BK182); (try simp only [hl6_4] at HO_4); (try simp only [hl6_4] at HO_5); (try simp only [hl6_4] at HO_7)
                cases gk with
                | zero => exact absurd HA.out (by simp [claim_order.l3])
                | succ k4 =>
                  have H := HA.out; clear HA; simp only [claim_order.l3] at H; by_cases c52 : x77_4 < ((rd_L1 l0_1 x9_25).length : Int); rotate_left
                  · rw [if_neg c52] at H
                    have c52b0 : decide (x77_4 < ((rd_L1 l0_1 x9_25).length : Int)) = false := decide_eq_false c52; have c52b0z := c52b0
                    first | (simp only [hl7_1, hl6_4] at c52b0z) | clear c52b0z
                    clear c52; have H' := A0_ H; clear H; go_wp2; (try simp only [← hl6_4])
                    go_roundg k4
                    case measure => have := HK1.out; have := HK2.out; have := HJ25.out; have := HK4.out; omega
                    case rel => exact ⟨(x4_4), (y200), (y199), H', ⟨by have := HK1.out; have := HK2.out; have := HJ25.out; have := HK4.out; omega⟩, ⟨by (try simp only [hl7_1]); (try simp only [hl6_4]); (with_reducible repeat first|apply Ra_|apply Rn_|apply Rd_); exact HO_4.out⟩, ⟨by (try simp only [hl7_1]); (try simp only [hl6_4]); (with_reducible repeat first|apply Ra_|apply Rn_|apply Rd_); exact HO_5.out⟩, ⟨by (try simp only [hl7_1]); (try simp only [hl6_4]); (with_reducible repeat first|apply Ra_|apply Rn_|apply Rd_); exact HO_6.out⟩, ⟨by (try simp only [hl7_1]); (try simp only [hl6_4]); (with_reducible repeat first|apply Sa_|apply Sn_|apply Sd_); exact HO_7.out⟩, ⟨by (try simp only [hl7_1]); (try simp only [hl6_4]); (with_reducible repeat first|refine bN_ ?_ _|refine bD_ ?_|refine bA_ ?_ _); exact BK182.out⟩, ⟨by repeat (first|(with_reducible first|exact HB.out|apply ba_|apply pN_|apply b1_|refine bs_ ?_ GE182.out)|exact HB.out)⟩⟩
                  rw [if_pos c52] at H; have c52b0 : decide (x77_4 < ((rd_L1 l0_1 x9_25).length : Int)) = true := decide_eq_true c52; have c52b0z := c52b0
                  first | (simp only [hl7_1, hl6_4] at c52b0z) | clear c52b0z
                  clear c52; by_cases c53 : 0 ≤ x77_4; rotate_left
                  · rw [if_neg c53] at H
                    exact absurd H (by simp)
                  rw [if_pos c53] at H; have c53b0 : decide (0 ≤ x77_4) = true := decide_eq_true c53; clear c53; by_cases c54 : x77_4 < ((rd_L1 l0_1 x9_25).length : Int); rotate_left
                  · rw [if_neg c54] at H
                    exact absurd H (by simp)
                  rw [if_pos c54] at H; have c54b0 : decide (x77_4 < ((rd_L1 l0_1 x9_25).length : Int)) = true := decide_eq_true c54; have c54b0z := c54b0
                  first | (simp only [hl7_1, hl6_4] at c54b0z) | clear c54b0z
                  clear c54; by_cases c55 : x77_4 < (x4_4.length : Int); rotate_left
                  · rw [if_neg c55] at H
                    exact absurd H (by simp)
                  rw [if_pos c55] at H; have c55b0 : decide (x77_4 < (x4_4.length : Int)) = true := decide_eq_true c55; have c55b0z := c55b0
                  first | (simp only [hl7_1, hl6_4] at c55b0z) | clear c55b0z
                  clear c55; obtain ⟨y206, hy206⟩ : ∃ y_ : List Int, y_ = (x4_4.set (x77_4 : Int).toNat (wrap64 ((rd x4_4 x77_4) + (rd (rd_L1 l0_1 x9_25) x77_4)))) := ⟨_, rfl⟩; replace H : (claim_order.l3 k4 y206 y200 y199 x7_1 (rd_L1 l0_1 x9_25) ((rd_L1 l0_1 x9_25).length : Int) (wrap64 (x77_4 + 1)) l0_0 l0_1 l0_2) = some (r1, r2) := by first|(rw [hy206]; with_reducible exact H)|(have H2_ := (Option.bind_some _ _).symm.trans H; rw [hy206]; with_reducible exact H2_)|(have H2_ := (Option.bind_some _ _).symm.trans H; with_reducible exact H2_)|with_reducible exact H|(rw [hy206]; exact H)|exact H
                  have Ny206 := A0_ hy206; clear hy206; have H' := A0_ H; clear H; have p204 : 0 ≤ (x77_4 : Int) := of_decide_eq_true (by first|(with_reducible assumption)|assumption); have q204 : x77_4 < ((rd_L1 l0_1 x9_25).length : Int) := of_decide_eq_true (by first|(with_reducible assumption)|assumption); obtain ⟨ad204, e204, hx204_0⟩ := Kd.at_int HR203_0.out x77_4 p204 q204; cases e204; replace hx204_0 := (HB.out.cell (bl_ w _ hx204_0)).trans hx204_0; replace p204 := eq_true p204; replace q204 := eq_true q204; obtain ⟨Ao57, co57, eo57⟩ := Kd.R_slice HO_4.out; subst eo57; have p205 : 0 ≤ (x77_4 : Int) := of_decide_eq_true (by first|(with_reducible assumption)|assumption); have q205 : x77_4 < (x4_4.length : Int) := of_decide_eq_true (by first|(with_reducible assumption)|assumption); obtain ⟨ad205, e205, hx205_0⟩ := Kd.at_int (Kd.R_reads' HO_4.out).2.2 x77_4 p205 q205; cases e205; replace p205 := eq_true p205; replace q205 := eq_true q205; have p56 : 0 ≤ (x77_4 : Int) := of_decide_eq_true (by first|(with_reducible assumption)|assumption); have q56 : (x77_4 : Int) < ((x4_4.length : Int) : Int) := of_decide_eq_true (by first|(with_reducible assumption)|assumption); obtain ⟨go56, co56, eo56, gb56, gl56, cl56, HG56⟩ := Kd.R_form HO_4.out (by omega)
                  (first|cases eo56|(injection eo56 with ea_ en_ ec_; (first|subst ea_|(injection ea_ with ea_; subst ea_)); subst ec_; clear en_))
                  have GB56 := A0_ gb56; have GG56 := A0_ HG56; clear gb56 gl56 HG56
                  (first|simp only [add_plain] at hx205_0|skip)
                  obtain ⟨hx56_0, hf56_0⟩ := Kd.R_celln 0 HO_4.out (x77_4 : Int) p56 q56; replace p56 := eq_true p56; replace q56 := eq_true q56; have HP58 := Kd.R_putg HO_4.out (x77_4 : Int) (wrap64 ((rd x4_4 x77_4) + (rd (rd_L1 l0_1 x9_25) x77_4))); go_wp2_with (first|((with_reducible refine gate_store (t := 3) (p := 88) rfl ?_); refine store_event (t := 3) (p := 88) (v := ?vo_w59) (w1 := (wr.setCell ⟨go56, (x77_4 : Int).toNat, none⟩ (.int .i64 (wrap64 ((rd x4_4 x77_4) + (rd (rd_L1 l0_1 x9_25) x77_4)))))) ?hg ?ho ?hn ?hr ?_; (case ho => rfl); (case hg => rfl); (case hn => rfl); (case hr => first|(go_simp; done)|(go_simp; rfl)); intro w59 hw; have hg : wr.grownBy w59 (some go56) := (by rw [hw]; exact HP58.2); have hp_ : Kd.R (Kd.int .i64) 3 w59 w.heap.size (fun k_ => some k_ ≠ (v201 : Value).ownBlock) (.slice (some ⟨go56, 0, none⟩) x4_4.length co57) y206 := (by rw [hw, Ny206.out]; exact HP58.1); clear HP58; have n0_ := A0_ (hp_); have n1_ := A0_ (Kd.R_after (v := (.slice (some ⟨go56, 0, none⟩) x4_4.length co57)) (v1 := (.slice (some ⟨go56, 0, none⟩) x4_4.length co57)) (ok := (fun _ => True)) (by (with_reducible repeat first|apply Ra_|apply Rn_|apply Rd_); exact Kd.R_mono HO_5.out (fun _ hk => ⟨trivial, hk⟩)) hg (.inl rfl)); have n2_ := A0_ (Kd.R_over' (v := (.slice (some ⟨go56, 0, none⟩) x4_4.length co57)) (by (with_reducible repeat first|apply Ra_|apply Rn_|apply Rd_); exact HO_6.out) (Kd.R_typed HO_4.out) (by decide) hg); have n3_ := A0_ (Kd.S_after (v := (.slice (some ⟨go56, 0, none⟩) x4_4.length co57)) (v1 := (.slice (some ⟨go56, 0, none⟩) x4_4.length co57)) (ok := (fun k_ => some k_ ≠ (v201 : Value).ownBlock)) (by (with_reducible repeat first|apply Sa_|apply Sn_|apply Sd_); exact Kd.S_mono HO_7.out (fun _ hk => ⟨hk.2, hk.1⟩)) hg (.inl rfl)); have n4_ := A0_ (blk_grown (g := gb182) (o := .cells #[.slice A0_0 l0_0.length c0_0, .slice (some ad203) l0_1.length c0_1, .slice A0_2 l0_2.length c0_2] 60 (0, 0)) (by (with_reducible repeat first|refine bN_ ?_ _|refine bD_ ?_|refine bA_ ?_ _); exact BK182.out) hg (Kd.R_ne HO_4.out BK182.out (by decide))); have n5_ := A0_ ((by rw [hw]; exact bs_ (HB.out) GB56.out : Below w.heap.size w w59)); clear HO_4; clear HO_5; clear HO_6; clear HO_7; clear BK182; clear HB; have HO_4 := n0_; have HO_5 := n1_; have HO_6 := n2_; have HO_7 := n3_; have BK182 := n4_; have HB := n5_; clear n0_ n1_ n2_ n3_ n4_ n5_; clear hg hw hp_)); (try simp only [← hl6_4])
                  go_roundg k4
                  case measure => have := HK1.out; have := HK2.out; have := HJ25.out; have := HK4.out; omega
                  case rel => exact ⟨(y206), (wrap64 (x77_4 + 1)), (by first|rfl|(simp; done)|(simp [*]; done)), H', ⟨by have := HK1.out; have := HK2.out; have := HJ25.out; have := HK4.out; omega⟩, ⟨by (try simp only [hl7_1]); (try simp only [hl6_4]); (with_reducible repeat first|apply Ra_|apply Rn_|apply Rd_); exact HO_4.out⟩, ⟨by (try simp only [hl7_1]); (try simp only [hl6_4]); (with_reducible repeat first|apply Ra_|apply Rn_|apply Rd_); exact Kd.R_mono HO_5.out (fun _ hk => hk.2)⟩, ⟨by (try simp only [hl7_1]); (try simp only [hl6_4]); (with_reducible repeat first|apply Ra_|apply Rn_|apply Rd_); exact HO_6.out⟩, ⟨by (try simp only [hl7_1]); (try simp only [hl6_4]); (with_reducible repeat first|apply Sa_|apply Sn_|apply Sd_); exact Kd.S_mono HO_7.out (fun _ hk => ⟨hk.2, hk.1⟩)⟩, ⟨by (try simp only [hl7_1]); (try simp only [hl6_4]); (with_reducible repeat first|refine bN_ ?_ _|refine bD_ ?_|refine bA_ ?_ _); exact BK182.out⟩, ⟨by repeat (first|(with_reducible first|exact HB.out|apply ba_|apply pN_|apply b1_|refine bs_ ?_ GE182.out)|exact HB.out)⟩⟩
end Go.Proofs.Ytlggjacghemakaa.PClaimAny
