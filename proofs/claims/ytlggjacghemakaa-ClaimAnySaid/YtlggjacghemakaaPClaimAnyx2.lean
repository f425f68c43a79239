/- Go functions as plain Lean functions, and that the calls come to them. Conditions: none. (Written by a program of this session.) -/
import Derived.Test.YtlggjacghemakaaPClaimAnyx0
namespace Go.Proofs.Ytlggjacghemakaa.PClaimAny
open Go.RowKit Go.Proofs.YtlggjacghemakaaW.PrintWords Go.Proofs.YtlggjacghemakaaW.PrintLast Go.Proofs.YtlggjacghemakaaW.PrintMore
attribute [local go_sem] max2_int min2_int max_two min_two max_three min_three max_four min_four   -- for this text's walks alone
set_option linter.unusedVariables false
set_option linter.unusedSimpArgs false

/-! ### logjamref25_Check: function 24 -/
mutual
def logjamref25_Check.j0 : Nat → Bool → List Int → List (List Int) → List (List Int) → Option (Int)
  | 0, _, _, _, _ => none
  | k + 1, x28, x144000, x144001, x144002 => if x28 = true then (some 2) else (logjamref25_Check.l0 k false false 0 x144000 x144001 x144002)
def logjamref25_Check.l0 : Nat → Bool → Bool → Int → List Int → List (List Int) → List (List Int) → Option (Int)
  | 0, _, _, _, _, _, _ => none
  | k + 1, x3, x4, x5, x144000, x144001, x144002 => if x5 < (x144000.length : Int) then (if x3 = true then (logjamref25_Check.l0 k true x4 (wrap64 (x5 + 1)) x144000 x144001 x144002) else (if 0 ≤ x5 then (if (rd x144000 x5) < 0 then (logjamref25_Check.l0 k true x4 (wrap64 (x5 + 1)) x144000 x144001 x144002) else (logjamref25_Check.l0 k (decide ((rd x144000 x5) > 1000)) x4 (wrap64 (x5 + 1)) x144000 x144001 x144002)) else (none))) else (logjamref25_Check.l1 k x3 x4 0 x144000 x144001 x144002)
def logjamref25_Check.l1 : Nat → Bool → Bool → Int → List Int → List (List Int) → List (List Int) → Option (Int)
  | 0, _, _, _, _, _, _ => none
  | k + 1, x3, x4, x6, x144000, x144001, x144002 => if x6 < (x144001.length : Int) then (if 0 ≤ x6 then (if ((rd_L1 x144001 x6).length : Int) = (x144000.length : Int) then (if x6 < (x144002.length : Int) then (logjamref25_Check.j3 k x3 x4 x6 (((rd_L1 x144002 x6).length : Int) != (x144000.length : Int)) x144000 x144001 x144002) else (none)) else (logjamref25_Check.j3 k x3 x4 x6 true x144000 x144001 x144002)) else (none)) else (if x3 = true then (some 1) else (if x4 = true then (some 17) else (some 0)))
def logjamref25_Check.j3 : Nat → Bool → Bool → Int → Bool → List Int → List (List Int) → List (List Int) → Option (Int)
  | 0, _, _, _, _, _, _, _ => none
  | k + 1, x3, x4, x6, x81, x144000, x144001, x144002 => if x81 = true then (some 2) else (logjamref25_Check.l2 k x3 x4 x6 0 x144000 x144001 x144002)
def logjamref25_Check.l2 : Nat → Bool → Bool → Int → Int → List Int → List (List Int) → List (List Int) → Option (Int)
  | 0, _, _, _, _, _, _, _ => none
  | k + 1, x3, x4, x6, x7, x144000, x144001, x144002 => if x7 < (x144000.length : Int) then (if 0 ≤ x6 then (if x6 < (x144001.length : Int) then (if 0 ≤ x7 then (if x7 < ((rd_L1 x144001 x6).length : Int) then (if x6 < (x144002.length : Int) then (if x7 < ((rd_L1 x144002 x6).length : Int) then (if x3 = true then (if x4 = true then (logjamref25_Check.l2 k true true x6 (wrap64 (x7 + 1)) x144000 x144001 x144002) else (logjamref25_Check.l2 k true (decide ((rd (rd_L1 x144001 x6) x7) > (rd (rd_L1 x144002 x6) x7))) x6 (wrap64 (x7 + 1)) x144000 x144001 x144002)) else (if (rd (rd_L1 x144001 x6) x7) < 0 then (if x4 = true then (logjamref25_Check.l2 k true true x6 (wrap64 (x7 + 1)) x144000 x144001 x144002) else (logjamref25_Check.l2 k true (decide ((rd (rd_L1 x144001 x6) x7) > (rd (rd_L1 x144002 x6) x7))) x6 (wrap64 (x7 + 1)) x144000 x144001 x144002)) else (if (rd (rd_L1 x144001 x6) x7) > 1000 then (if x4 = true then (logjamref25_Check.l2 k true true x6 (wrap64 (x7 + 1)) x144000 x144001 x144002) else (logjamref25_Check.l2 k true (decide ((rd (rd_L1 x144001 x6) x7) > (rd (rd_L1 x144002 x6) x7))) x6 (wrap64 (x7 + 1)) x144000 x144001 x144002)) else (if (rd (rd_L1 x144002 x6) x7) < 0 then (if x4 = true then (logjamref25_Check.l2 k true true x6 (wrap64 (x7 + 1)) x144000 x144001 x144002) else (logjamref25_Check.l2 k true (decide ((rd (rd_L1 x144001 x6) x7) > (rd (rd_L1 x144002 x6) x7))) x6 (wrap64 (x7 + 1)) x144000 x144001 x144002)) else (if x4 = true then (logjamref25_Check.l2 k (decide ((rd (rd_L1 x144002 x6) x7) > 1000)) true x6 (wrap64 (x7 + 1)) x144000 x144001 x144002) else (logjamref25_Check.l2 k (decide ((rd (rd_L1 x144002 x6) x7) > 1000)) (decide ((rd (rd_L1 x144001 x6) x7) > (rd (rd_L1 x144002 x6) x7))) x6 (wrap64 (x7 + 1)) x144000 x144001 x144002)))))) else (none)) else (none)) else (none)) else (none)) else (none)) else (none)) else (logjamref25_Check.l1 k x3 x4 (wrap64 (x6 + 1)) x144000 x144001 x144002)
end
def logjamref25_Check.f (k : Nat) (l0_0 : List Int) (l0_1 : List (List Int)) (l0_2 : List (List Int)) : Option (Int) := if (l0_1.length : Int) = (l0_2.length : Int) then (if (l0_1.length : Int) > 64 then (logjamref25_Check.j0 k true l0_0 l0_1 l0_2) else (logjamref25_Check.j0 k (decide ((l0_0.length : Int) > 32)) l0_0 l0_1 l0_2)) else (logjamref25_Check.j0 k true l0_0 l0_1 l0_2)
theorem logjamref25_Check.mono_l : ∀ k, (∀ y0 y1 y2 y3, LeO (logjamref25_Check.j0 k y0 y1 y2 y3) (logjamref25_Check.j0 (k + 1) y0 y1 y2 y3)) ∧ (∀ y0 y1 y2 y3 y4 y5, LeO (logjamref25_Check.l0 k y0 y1 y2 y3 y4 y5) (logjamref25_Check.l0 (k + 1) y0 y1 y2 y3 y4 y5)) ∧ (∀ y0 y1 y2 y3 y4 y5, LeO (logjamref25_Check.l1 k y0 y1 y2 y3 y4 y5) (logjamref25_Check.l1 (k + 1) y0 y1 y2 y3 y4 y5)) ∧ (∀ y0 y1 y2 y3 y4 y5 y6, LeO (logjamref25_Check.j3 k y0 y1 y2 y3 y4 y5 y6) (logjamref25_Check.j3 (k + 1) y0 y1 y2 y3 y4 y5 y6)) ∧ (∀ y0 y1 y2 y3 y4 y5 y6, LeO (logjamref25_Check.l2 k y0 y1 y2 y3 y4 y5 y6) (logjamref25_Check.l2 (k + 1) y0 y1 y2 y3 y4 y5 y6))
  | 0 => ⟨fun _ _ _ _ r h => by simp [logjamref25_Check.j0] at h, fun _ _ _ _ _ _ r h => by simp [logjamref25_Check.l0] at h, fun _ _ _ _ _ _ r h => by simp [logjamref25_Check.l1] at h, fun _ _ _ _ _ _ _ r h => by simp [logjamref25_Check.j3] at h, fun _ _ _ _ _ _ _ r h => by simp [logjamref25_Check.l2] at h⟩
  | k + 1 => by
    obtain ⟨ih0, ih1, ih2, ih3, ih4⟩ := logjamref25_Check.mono_l k; refine ⟨?_, ?_, ?_, ?_, ?_⟩
    · intro y0 y1 y2 y3
      unfold logjamref25_Check.j0
      repeat' first
      | (with_reducible exact ih0 _ _ _ _)
      | (with_reducible exact ih1 _ _ _ _ _ _)
      | (with_reducible exact ih2 _ _ _ _ _ _)
      | (with_reducible exact ih3 _ _ _ _ _ _ _)
      | (with_reducible exact ih4 _ _ _ _ _ _ _)
      | (with_reducible exact LeO.refl _)
      | (with_reducible exact LeO.none _)
      | (with_reducible refine LeO.ite ?_ ?_)
      | (with_reducible refine LeO.bind ?_ (fun _ => ?_))
      | exact ih0 _ _ _ _
      | exact ih1 _ _ _ _ _ _
      | exact ih2 _ _ _ _ _ _
      | exact ih3 _ _ _ _ _ _ _
      | exact ih4 _ _ _ _ _ _ _
      | exact LeO.none _
      | refine LeO.ite ?_ ?_
      | refine LeO.bind ?_ (fun _ => ?_)
    · intro y0 y1 y2 y3 y4 y5
      unfold logjamref25_Check.l0
      repeat' first
      | (with_reducible exact ih0 _ _ _ _)
      | (with_reducible exact ih1 _ _ _ _ _ _)
      | (with_reducible exact ih2 _ _ _ _ _ _)
      | (with_reducible exact ih3 _ _ _ _ _ _ _)
      | (with_reducible exact ih4 _ _ _ _ _ _ _)
      | (with_reducible exact LeO.refl _)
      | (with_reducible exact LeO.none _)
      | (with_reducible refine LeO.ite ?_ ?_)
      | (with_reducible refine LeO.bind ?_ (fun _ => ?_))
      | exact ih0 _ _ _ _
      | exact ih1 _ _ _ _ _ _
      | exact ih2 _ _ _ _ _ _
      | exact ih3 _ _ _ _ _ _ _
      | exact ih4 _ _ _ _ _ _ _
      | exact LeO.none _
      | refine LeO.ite ?_ ?_
      | refine LeO.bind ?_ (fun _ => ?_)
    · intro y0 y1 y2 y3 y4 y5
      unfold logjamref25_Check.l1
      repeat' first
      | (with_reducible exact ih0 _ _ _ _)
      | (with_reducible exact ih1 _ _ _ _ _ _)
      | (with_reducible exact ih2 _ _ _ _ _ _)
      | (with_reducible exact ih3 _ _ _ _ _ _ _)
      | (with_reducible exact ih4 _ _ _ _ _ _ _)
      | (with_reducible exact LeO.refl _)
      | (with_reducible exact LeO.none _)
      | (with_reducible refine LeO.ite ?_ ?_)
      | (with_reducible refine LeO.bind ?_ (fun _ => ?_))
      | exact ih0 _ _ _ _
      | exact ih1 _ _ _ _ _ _
      | exact ih2 _ _ _ _ _ _
      | exact ih3 _ _ _ _ _ _ _
      | exact ih4 _ _ _ _ _ _ _
      | exact LeO.none _
      | refine LeO.ite ?_ ?_
      | refine LeO.bind ?_ (fun _ => ?_)
    · intro y0 y1 y2 y3 y4 y5 y6
      unfold logjamref25_Check.j3
      repeat' first
      | (with_reducible exact ih0 _ _ _ _)
      | (with_reducible exact ih1 _ _ _ _ _ _)
      | (with_reducible exact ih2 _ _ _ _ _ _)
      | (with_reducible exact ih3 _ _ _ _ _ _ _)
      | (with_reducible exact ih4 _ _ _ _ _ _ _)
      | (with_reducible exact LeO.refl _)
      | (with_reducible exact LeO.none _)
      | (with_reducible refine LeO.ite ?_ ?_)
      | (with_reducible refine LeO.bind ?_ (fun _ => ?_))
      | exact ih0 _ _ _ _
      | exact ih1 _ _ _ _ _ _
      | exact ih2 _ _ _ _ _ _
      | exact ih3 _ _ _ _ _ _ _
      | exact ih4 _ _ _ _ _ _ _
      | exact LeO.none _
      | refine LeO.ite ?_ ?_
      | refine LeO.bind ?_ (fun _ => ?_)
    · intro y0 y1 y2 y3 y4 y5 y6
      unfold logjamref25_Check.l2
      repeat' first
      | (with_reducible exact ih0 _ _ _ _)
      | (with_reducible exact ih1 _ _ _ _ _ _)
      | (with_reducible exact ih2 _ _ _ _ _ _)
      | (with_reducible exact ih3 _ _ _ _ _ _ _)
      | (with_reducible exact ih4 _ _ _ _ _ _ _)
      | (with_reducible exact LeO.refl _)
      | (with_reducible exact LeO.none _)
      | (with_reducible refine LeO.ite ?_ ?_)
      | (with_reducible refine LeO.bind ?_ (fun _ => ?_))
      | exact ih0 _ _ _ _
      | exact ih1 _ _ _ _ _ _
      | exact ih2 _ _ _ _ _ _
      | exact ih3 _ _ _ _ _ _ _
      | exact ih4 _ _ _ _ _ _ _
      | exact LeO.none _
      | refine LeO.ite ?_ ?_
      | refine LeO.bind ?_ (fun _ => ?_)
theorem logjamref25_Check.mono : ∀ a0 a1 a2 k, LeO (logjamref25_Check.f k a0 a1 a2) (logjamref25_Check.f (k + 1) a0 a1 a2) := by
  intro a0 a1 a2 k
  obtain ⟨ih0, ih1, ih2, ih3, ih4⟩ := logjamref25_Check.mono_l k; unfold logjamref25_Check.f
  repeat' first
      | (with_reducible exact ih0 _ _ _ _)
      | (with_reducible exact ih1 _ _ _ _ _ _)
      | (with_reducible exact ih2 _ _ _ _ _ _)
      | (with_reducible exact ih3 _ _ _ _ _ _ _)
      | (with_reducible exact ih4 _ _ _ _ _ _ _)
      | (with_reducible exact LeO.refl _)
      | (with_reducible exact LeO.none _)
      | (with_reducible refine LeO.ite ?_ ?_)
      | (with_reducible refine LeO.bind ?_ (fun _ => ?_))
      | exact ih0 _ _ _ _
      | exact ih1 _ _ _ _ _ _
      | exact ih2 _ _ _ _ _ _
      | exact ih3 _ _ _ _ _ _ _
      | exact ih4 _ _ _ _ _ _ _
      | exact LeO.none _
      | refine LeO.ite ?_ ?_
      | refine LeO.bind ?_ (fun _ => ?_)
set_option maxHeartbeats 8000000 in
set_option maxRecDepth 100000 in
theorem logjamref25_Check.calls (k : Nat) (A0_0 : Option Addr) (c0_0 : Nat) (l0_0 : List Int) (A0_1 : Option Addr) (c0_1 : Nat) (l0_1 : List (List Int)) (A0_2 : Option Addr) (c0_2 : Nat) (l0_2 : List (List Int)) (r : Int) (w : World) (hr0_0 : Kd.C (Kd.int .i64) w A0_0 l0_0.length l0_0) (hc0_0 : l0_0.length ≤ c0_0) (hr0_1 : Kd.C (Kd.slice 3 (Kd.int .i64)) w A0_1 l0_1.length l0_1) (hc0_1 : l0_1.length ≤ c0_1) (hr0_2 : Kd.C (Kd.slice 3 (Kd.int .i64)) w A0_2 l0_2.length l0_2) (hc0_2 : l0_2.length ≤ c0_2) (h : logjamref25_Check.f k l0_0 l0_1 l0_2 = some r) :
    Calls Try.prog 24 #[.agg #[.slice A0_0 l0_0.length c0_0, .slice A0_1 l0_1.length c0_1, .slice A0_2 l0_2.length c0_2]] w fun e w' => e = .returned (.int .i64 r) ∧ Below w.heap.size w w' := by
  have hu55 := Try.underlying55; have HR0_0 := A0_ hr0_0; have HC0_0 := A0_ hc0_0; clear hr0_0 hc0_0; have HR0_1 := A0_ hr0_1; have HC0_1 := A0_ hc0_1; clear hr0_1 hc0_1; have HR0_2 := A0_ hr0_2; have HC0_2 := A0_ hc0_2; clear hr0_2 hc0_2; have HB := A0_ (Below.refl w.heap.size w); have H : (if (l0_1.length : Int) = (l0_2.length : Int) then (if (l0_1.length : Int) > 64 then (logjamref25_Check.j0 k true l0_0 l0_1 l0_2) else (logjamref25_Check.j0 k (decide ((l0_0.length : Int) > 32)) l0_0 l0_1 l0_2)) else (logjamref25_Check.j0 k true l0_0 l0_1 l0_2)) = some r := h; clear h; have HC2 := A0_ H; clear H; go_enter Try.func24, Try.ntmps24
  go_upto_region 1 with (first|((with_reducible refine gate_dst (N := 1) rfl ?_); (try (refine gate_guard (by rfl) ?_; dsimp only)); refine box_event ?hg (N := 1) ?hd (cs := #[.slice A0_0 l0_0.length c0_0, .slice A0_1 l0_1.length c0_1, .slice A0_2 l0_2.length c0_2]) (t := 55) ?hr ?_; (case hd => rfl); (case hg => rfl); (case hr => first|(go_simp; done)|(go_simp; rfl)); intro gb143 hg w3 hbox hb; have n0_ := A0_ (below_step (by repeat (first|(with_reducible first|exact HB.out|apply ba_|apply pN_|apply b1_)|exact HB.out)) hb); have n1_ := A0_ (hbox); have n2_ := A0_ ((by rw [hg]; exact (below_size (by repeat (first|(with_reducible first|exact HB.out|apply ba_|apply pN_|apply b1_)|exact HB.out))) : w.heap.size ≤ gb143)); have n3_ := A0_ ((by rw [hg]; exact (below_size (by repeat (first|(with_reducible first|exact HB.out|apply ba_|apply pN_|apply b1_)|exact HB.out))) : w.heap.size ≤ gb143)); clear HB; have HB := n0_; have BK143 := n1_; have GW143 := n2_; have GE143 := n3_; clear n0_ n1_ n2_ n3_; clear hb hbox hg))
  repeat (go_quiet (first|((with_reducible refine gate_dst (N := 1) rfl ?_); (try (refine gate_guard (by rfl) ?_; dsimp only)); refine box_event ?hg (N := 1) ?hd (cs := #[.slice A0_0 l0_0.length c0_0, .slice A0_1 l0_1.length c0_1, .slice A0_2 l0_2.length c0_2]) (t := 55) ?hr ?_; (case hd => rfl); (case hg => rfl); (case hr => first|(go_simp; done)|(go_simp; rfl)); intro gb143 hg w3 hbox hb; have n0_ := A0_ (below_step (by repeat (first|(with_reducible first|exact HB.out|apply ba_|apply pN_|apply b1_)|exact HB.out)) hb); have n1_ := A0_ (hbox); have n2_ := A0_ ((by rw [hg]; exact (below_size (by repeat (first|(with_reducible first|exact HB.out|apply ba_|apply pN_|apply b1_)|exact HB.out))) : w.heap.size ≤ gb143)); have n3_ := A0_ ((by rw [hg]; exact (below_size (by repeat (first|(with_reducible first|exact HB.out|apply ba_|apply pN_|apply b1_)|exact HB.out))) : w.heap.size ≤ gb143)); clear HB; have HB := n0_; have BK143 := n1_; have GW143 := n2_; have GE143 := n3_; clear n0_ n1_ n2_ n3_; clear hb hbox hg)); go_upto_region 1 with (first|((with_reducible refine gate_dst (N := 1) rfl ?_); (try (refine gate_guard (by rfl) ?_; dsimp only)); refine box_event ?hg (N := 1) ?hd (cs := #[.slice A0_0 l0_0.length c0_0, .slice A0_1 l0_1.length c0_1, .slice A0_2 l0_2.length c0_2]) (t := 55) ?hr ?_; (case hd => rfl); (case hg => rfl); (case hr => first|(go_simp; done)|(go_simp; rfl)); intro gb143 hg w3 hbox hb; have n0_ := A0_ (below_step (by repeat (first|(with_reducible first|exact HB.out|apply ba_|apply pN_|apply b1_)|exact HB.out)) hb); have n1_ := A0_ (hbox); have n2_ := A0_ ((by rw [hg]; exact (below_size (by repeat (first|(with_reducible first|exact HB.out|apply ba_|apply pN_|apply b1_)|exact HB.out))) : w.heap.size ≤ gb143)); have n3_ := A0_ ((by rw [hg]; exact (below_size (by repeat (first|(with_reducible first|exact HB.out|apply ba_|apply pN_|apply b1_)|exact HB.out))) : w.heap.size ≤ gb143)); clear HB; have HB := n0_; have BK143 := n1_; have GW143 := n2_; have GE143 := n3_; clear n0_ n1_ n2_ n3_; clear hb hbox hg)))
  (try simp only [Act.put, sA_, sZ_, sS_])
  go_cut [28] (fun v28 wc => ∃ (kq : Nat) (x28_1 : Bool), v28 = .bool x28_1 ∧ Aside0 (logjamref25_Check.j0 kq x28_1 l0_0 l0_1 l0_2 = some r) ∧ Aside0 (kq ≤ k) ∧ Aside0 (wc.heap[gb143]? = some (.cells #[(.slice A0_0 l0_0.length c0_0), (.slice A0_1 l0_1.length c0_1), (.slice A0_2 l0_2.length c0_2)] 55 (0, 0))) ∧ Aside0 (Below w.heap.size w wc))
  case first =>
    have H := HC2.out; clear HC2; by_cases c4 : (l0_1.length : Int) = (l0_2.length : Int); rotate_left
    · rw [if_neg c4] at H
      have c4b0 : ((l0_1.length : Int) == (l0_2.length : Int)) = false := beq_eq_false_iff_ne.mpr c4; have c4b1 : ((l0_1.length : Int) != (l0_2.length : Int)) = true := bne_iff_ne.mpr c4; have c4b2 : (l0_1.length == l0_2.length) = false := by first|simpa using c4|(simp at c4 ⊢; omega)
      (first|rw [c4b0]|(simp only [i64_w, i32_w]; rw [c4b0])|skip)
      have H' := A0_ H; clear H; obtain ⟨hcz8_0, hcz8_1, hcz8_2, hfz8_0, hfz8_1, hfz8_2⟩ := cz3_ (w := w3) BK143.out; go_wp2
      repeat (go_quiet (fail); try go_wp2)
      go_meet
      case rel => exact ⟨_, (true), (by first|rfl|(simp; done)|(simp [*]; done)), H', ⟨by first|omega|exact Nat.le_refl _⟩, ⟨by (with_reducible repeat first|refine bN_ ?_ _|refine bD_ ?_|refine bA_ ?_ _); exact BK143.out⟩, ⟨by repeat (first|(with_reducible first|exact HB.out|apply ba_|apply pN_|apply b1_|refine bs_ ?_ GE143.out)|exact HB.out)⟩⟩
    rw [if_pos c4] at H; have c4b0 : ((l0_1.length : Int) == (l0_2.length : Int)) = true := beq_iff_eq.mpr c4; have c4b1 : ((l0_1.length : Int) != (l0_2.length : Int)) = false := bne_eq_false_iff_eq.mpr c4; have c4b2 : (l0_1.length == l0_2.length) = true := by first|simpa using c4|(simp at c4 ⊢; omega)
    clear c4
    (first|rw [c4b0]|(simp only [i64_w, i32_w]; rw [c4b0])|skip)
    by_cases c5 : (l0_1.length : Int) > 64
    · rw [if_pos c5] at H
      have c5b0 : decide (64 < (l0_1.length : Int)) = true := decide_eq_true c5; have c5b1 : decide (64 < l0_1.length) = true := decide_eq_true (by omega); clear c5; have H' := A0_ H; clear H; obtain ⟨hcz6_0, hcz6_1, hcz6_2, hfz6_0, hfz6_1, hfz6_2⟩ := cz3_ (w := w3) BK143.out; go_wp2
      repeat (go_quiet (fail); try go_wp2)
      go_meet
      case rel => exact ⟨_, (true), (by first|rfl|(simp; done)|(simp [*]; done)), H', ⟨by first|omega|exact Nat.le_refl _⟩, ⟨by (with_reducible repeat first|refine bN_ ?_ _|refine bD_ ?_|refine bA_ ?_ _); exact BK143.out⟩, ⟨by repeat (first|(with_reducible first|exact HB.out|apply ba_|apply pN_|apply b1_|refine bs_ ?_ GE143.out)|exact HB.out)⟩⟩
    rw [if_neg c5] at H; have c5b0 : decide (64 < (l0_1.length : Int)) = false := decide_eq_false c5; have c5b1 : decide (64 < l0_1.length) = false := decide_eq_false (by omega); clear c5; have H' := A0_ H; clear H; obtain ⟨hcz7_0, hcz7_1, hcz7_2, hfz7_0, hfz7_1, hfz7_2⟩ := cz3_ (w := w3) BK143.out; go_wp2
    repeat (go_quiet (fail); try go_wp2)
    go_meet
    case rel => exact ⟨_, (decide ((l0_0.length : Int) > 32)), (by first|rfl|(simp; done)|(simp [*]; done)), H', ⟨by first|omega|exact Nat.le_refl _⟩, ⟨by (with_reducible repeat first|refine bN_ ?_ _|refine bD_ ?_|refine bA_ ?_ _); exact BK143.out⟩, ⟨by repeat (first|(with_reducible first|exact HB.out|apply ba_|apply pN_|apply b1_|refine bs_ ?_ GE143.out)|exact HB.out)⟩⟩
  case rest =>
    clear HC2; (try clear c2); (try clear p2); (try clear c4); (try clear c4b0); (try clear c4b1); (try clear c4b2); (try clear c5); (try clear c5b0); (try clear c5b1); (try clear hcz6_0); (try clear hcz6_1); (try clear hcz6_2); (try clear hcz7_0); (try clear hcz7_1); (try clear hcz7_2); (try clear hcz8_0); (try clear hcz8_1); (try clear hcz8_2); (try clear hfz6_0); (try clear hfz6_1); (try clear hfz6_2); (try clear hfz7_0); (try clear hfz7_1); (try clear hfz7_2); (try clear hfz8_0); (try clear hfz8_1); (try clear hfz8_2); obtain ⟨kq, x28_1, rfl, HA, HJ1, BK143, HB⟩ := hcut
    cases kq with
    | zero => exact absurd HA.out (by simp [logjamref25_Check.j0])
    | succ kj1 =>
      have H := HA.out; clear HA; simp only [logjamref25_Check.j0] at H; by_cases c9 : x28_1 = true
      · subst c9
        have H1 : (some 2) = some r := by rw [if_pos rfl] at H; exact H
        clear H; have H := H1; clear H1; obtain rfl := Option.some.inj H; go_wp2
        repeat (go_quiet (fail); try go_wp2)
        go_ret; exact ⟨by first|rfl|(simp [errW_none, errW_some] <;> rfl)|(simp [*, errW_none, errW_some] <;> rfl), by repeat (first|(with_reducible first|exact HB.out|apply ba_|apply pN_|apply b1_|refine bs_ ?_ GE143.out)|exact HB.out)⟩
      replace c9 := Bool.eq_false_iff.mpr c9; subst c9; have H1 : (logjamref25_Check.l0 kj1 false false 0 l0_0 l0_1 l0_2) = some r := by rw [if_neg (show ¬ (false = true) by decide)] at H; exact H
      clear H; have H := H1; clear H1; have H' := A0_ H; clear H; go_wp2
      repeat (go_quiet (fail); try go_wp2)
      go_loopg [3, 5] kj1 (fun kq v3 v5 w' => ∃ (x3_2 : Bool) (x5_2 : Int), v3 = .bool x3_2 ∧ v5 = .int .i64 x5_2 ∧ Aside0 (logjamref25_Check.l0 kq x3_2 false x5_2 l0_0 l0_1 l0_2 = some r) ∧ Aside0 (kq ≤ kj1) ∧ Aside0 (w'.heap[gb143]? = some (.cells #[(.slice A0_0 l0_0.length c0_0), (.slice A0_1 l0_1.length c0_1), (.slice A0_2 l0_2.length c0_2)] 55 (0, 0))) ∧ Aside0 (Below w.heap.size w w'))
      case atStart => exact ⟨(false), (0), (by first|rfl|(simp; done)|(simp [*]; done)), (by first|rfl|(simp; done)|(simp [*]; done)), H', ⟨Nat.le_refl _⟩, ⟨by (with_reducible repeat first|refine bN_ ?_ _|refine bD_ ?_|refine bA_ ?_ _); exact BK143.out⟩, ⟨by repeat (first|(with_reducible first|exact HB.out|apply ba_|apply pN_|apply b1_|refine bs_ ?_ GE143.out)|exact HB.out)⟩⟩
      case round =>
        clear H'; (try clear c2); (try clear p2); (try clear c4); (try clear c4b0); (try clear c4b1); (try clear c4b2); (try clear c5); (try clear c5b0); (try clear c5b1); (try clear c9); (try clear hcz6_0); (try clear hcz6_1); (try clear hcz6_2); (try clear hcz7_0); (try clear hcz7_1); (try clear hcz7_2); (try clear hcz8_0); (try clear hcz8_1); (try clear hcz8_2); (try clear hfz6_0); (try clear hfz6_1); (try clear hfz6_2); (try clear hfz7_0); (try clear hfz7_1); (try clear hfz7_2); (try clear hfz8_0); (try clear hfz8_1); (try clear hfz8_2); (try clear p2); obtain ⟨x3_2, x5_2, rfl, rfl, HA, HK2, BK143, HB⟩ := hrel
        cases gk with
        | zero => exact absurd HA.out (by simp [logjamref25_Check.l0])
        | succ k2 =>
          have H := HA.out; clear HA; simp only [logjamref25_Check.l0] at H; by_cases c10 : x5_2 < (l0_0.length : Int)
          · rw [if_pos c10] at H
            have c10b0 : decide (x5_2 < (l0_0.length : Int)) = true := decide_eq_true c10; clear c10; by_cases c11 : x3_2 = true
            · subst c11
              have H1 : (logjamref25_Check.l0 k2 true false (wrap64 (x5_2 + 1)) l0_0 l0_1 l0_2) = some r := by rw [if_pos rfl] at H; exact H
              clear H; have H := H1; clear H1; have H' := A0_ H; clear H; obtain ⟨hcz12_0, hcz12_1, hcz12_2, hfz12_0, hfz12_1, hfz12_2⟩ := cz3_ (w := wr) BK143.out; go_wp2
              repeat (go_quiet (fail); try go_wp2)
              go_roundg k2
              case measure => have := HJ1.out; have := HK2.out; omega
              case rel => exact ⟨(true), (wrap64 (x5_2 + 1)), (by first|rfl|(simp; done)|(simp [*]; done)), (by first|rfl|(simp; done)|(simp [*]; done)), H', ⟨by have := HJ1.out; have := HK2.out; omega⟩, ⟨by (with_reducible repeat first|refine bN_ ?_ _|refine bD_ ?_|refine bA_ ?_ _); exact BK143.out⟩, ⟨by repeat (first|(with_reducible first|exact HB.out|apply ba_|apply pN_|apply b1_|refine bs_ ?_ GE143.out)|exact HB.out)⟩⟩
            replace c11 := Bool.eq_false_iff.mpr c11; subst c11; have H1 : (if 0 ≤ x5_2 then (if (rd l0_0 x5_2) < 0 then (logjamref25_Check.l0 k2 true false (wrap64 (x5_2 + 1)) l0_0 l0_1 l0_2) else (logjamref25_Check.l0 k2 (decide ((rd l0_0 x5_2) > 1000)) false (wrap64 (x5_2 + 1)) l0_0 l0_1 l0_2)) else (none)) = some r := by rw [if_neg (show ¬ (false = true) by decide)] at H; exact H
            clear H; have H := H1; clear H1; by_cases c13 : 0 ≤ x5_2; rotate_left
            · rw [if_neg c13] at H
              exact absurd H (by simp)
            rw [if_pos c13] at H; have c13b0 : decide (0 ≤ x5_2) = true := decide_eq_true c13; clear c13; by_cases c14 : (rd l0_0 x5_2) < 0
            · rw [if_pos c14] at H
              have c14b0 : decide ((rd l0_0 x5_2) < 0) = true := decide_eq_true c14; clear c14; have H' := A0_ H; clear H; obtain ⟨hcz15_0, hcz15_1, hcz15_2, hfz15_0, hfz15_1, hfz15_2⟩ := cz3_ (w := wr) BK143.out; have p144 : 0 ≤ (x5_2 : Int) := of_decide_eq_true (by first|(with_reducible assumption)|assumption); have q144 : x5_2 < (l0_0.length : Int) := of_decide_eq_true (by first|(with_reducible assumption)|assumption); obtain ⟨ad144, e144, hx144_0⟩ := Kd.at_int HR0_0.out x5_2 p144 q144; cases e144; replace hx144_0 := (HB.out.cell (bl_ w _ hx144_0)).trans hx144_0; replace p144 := eq_true p144; replace q144 := eq_true q144; go_wp2
              repeat (go_quiet (fail); try go_wp2)
              go_roundg k2
              case measure => have := HJ1.out; have := HK2.out; omega
              case rel => exact ⟨(true), (wrap64 (x5_2 + 1)), (by first|rfl|(simp; done)|(simp [*]; done)), (by first|rfl|(simp; done)|(simp [*]; done)), H', ⟨by have := HJ1.out; have := HK2.out; omega⟩, ⟨by (with_reducible repeat first|refine bN_ ?_ _|refine bD_ ?_|refine bA_ ?_ _); exact BK143.out⟩, ⟨by repeat (first|(with_reducible first|exact HB.out|apply ba_|apply pN_|apply b1_|refine bs_ ?_ GE143.out)|exact HB.out)⟩⟩
            rw [if_neg c14] at H; have c14b0 : decide ((rd l0_0 x5_2) < 0) = false := decide_eq_false c14; clear c14; have H' := A0_ H; clear H; obtain ⟨hcz16_0, hcz16_1, hcz16_2, hfz16_0, hfz16_1, hfz16_2⟩ := cz3_ (w := wr) BK143.out; have p144 : 0 ≤ (x5_2 : Int) := of_decide_eq_true (by first|(with_reducible assumption)|assumption); have q144 : x5_2 < (l0_0.length : Int) := of_decide_eq_true (by first|(with_reducible assumption)|assumption); obtain ⟨ad144, e144, hx144_0⟩ := Kd.at_int HR0_0.out x5_2 p144 q144; cases e144; replace hx144_0 := (HB.out.cell (bl_ w _ hx144_0)).trans hx144_0; replace p144 := eq_true p144; replace q144 := eq_true q144; have p145 : 0 ≤ (x5_2 : Int) := of_decide_eq_true (by first|(with_reducible assumption)|assumption); have q145 : x5_2 < (l0_0.length : Int) := of_decide_eq_true (by first|(with_reducible assumption)|assumption); obtain ⟨ad145, e145, hx145_0⟩ := Kd.at_int HR0_0.out x5_2 p145 q145; obtain rfl : ad144 = ad145 := (by injection e145); replace hx145_0 := (HB.out.cell (bl_ w _ hx145_0)).trans hx145_0; replace p145 := eq_true p145; replace q145 := eq_true q145; go_wp2
            repeat (go_quiet (fail); try go_wp2)
            go_roundg k2
            case measure => have := HJ1.out; have := HK2.out; omega
            case rel => exact ⟨(decide ((rd l0_0 x5_2) > 1000)), (wrap64 (x5_2 + 1)), (by first|rfl|(simp; done)|(simp [*]; done)), (by first|rfl|(simp; done)|(simp [*]; done)), H', ⟨by have := HJ1.out; have := HK2.out; omega⟩, ⟨by (with_reducible repeat first|refine bN_ ?_ _|refine bD_ ?_|refine bA_ ?_ _); exact BK143.out⟩, ⟨by repeat (first|(with_reducible first|exact HB.out|apply ba_|apply pN_|apply b1_|refine bs_ ?_ GE143.out)|exact HB.out)⟩⟩
          rw [if_neg c10] at H; have c10b0 : decide (x5_2 < (l0_0.length : Int)) = false := decide_eq_false c10; clear c10; have H' := A0_ H; clear H; obtain ⟨hcz17_0, hcz17_1, hcz17_2, hfz17_0, hfz17_1, hfz17_2⟩ := cz3_ (w := wr) BK143.out; go_wp2
          repeat (go_quiet (fail); try go_wp2)
          go_loopg [3, 4, 6] k2 (fun kq v3 v4 v6 w' => ∃ (x3_3 : Bool) (x4_3 : Bool) (x6_3 : Int), v3 = .bool x3_3 ∧ v4 = .bool x4_3 ∧ v6 = .int .i64 x6_3 ∧ Aside0 (logjamref25_Check.l1 kq x3_3 x4_3 x6_3 l0_0 l0_1 l0_2 = some r) ∧ Aside0 (kq ≤ k2) ∧ Aside0 (w'.heap[gb143]? = some (.cells #[(.slice A0_0 l0_0.length c0_0), (.slice A0_1 l0_1.length c0_1), (.slice A0_2 l0_2.length c0_2)] 55 (0, 0))) ∧ Aside0 (Below w.heap.size w w'))
          case atStart => exact ⟨(x3_2), (false), (0), (by first|rfl|(simp; done)|(simp [*]; done)), (by first|rfl|(simp; done)|(simp [*]; done)), (by first|rfl|(simp; done)|(simp [*]; done)), H', ⟨Nat.le_refl _⟩, ⟨by (with_reducible repeat first|refine bN_ ?_ _|refine bD_ ?_|refine bA_ ?_ _); exact BK143.out⟩, ⟨by repeat (first|(with_reducible first|exact HB.out|apply ba_|apply pN_|apply b1_|refine bs_ ?_ GE143.out)|exact HB.out)⟩⟩
          case round =>
            clear H'; (try clear c1); (try clear p1); (try clear q1); (try clear hx1); (try clear c2); (try clear p2); (try clear c4); (try clear c4b0); (try clear c4b1); (try clear c4b2); (try clear c5); (try clear c5b0); (try clear c5b1); (try clear p6); (try clear c9); (try clear c10); (try clear c10b0); (try clear c11); (try clear c13); (try clear c13b0); (try clear c14); (try clear c14b0); (try clear p14); (try clear q14); (try clear hx14); (try clear hcz12_0); (try clear hcz12_1); (try clear hcz12_2); (try clear hcz15_0); (try clear hcz15_1); (try clear hcz15_2); (try clear hcz16_0); (try clear hcz16_1); (try clear hcz16_2); (try clear hcz17_0); (try clear hcz17_1); (try clear hcz17_2); (try clear hcz6_0); (try clear hcz6_1); (try clear hcz6_2); (try clear hcz7_0); (try clear hcz7_1); (try clear hcz7_2); (try clear hcz8_0); (try clear hcz8_1); (try clear hcz8_2); (try clear hfz12_0); (try clear hfz12_1); (try clear hfz12_2); (try clear hfz15_0); (try clear hfz15_1); (try clear hfz15_2); (try clear hfz16_0); (try clear hfz16_1); (try clear hfz16_2); (try clear hfz17_0); (try clear hfz17_1); (try clear hfz17_2); (try clear hfz6_0); (try clear hfz6_1); (try clear hfz6_2); (try clear hfz7_0); (try clear hfz7_1); (try clear hfz7_2); (try clear hfz8_0); (try clear hfz8_1); (try clear hfz8_2); (try clear hx144_0); (try clear hx145_0); (try clear p144); (try clear p145); (try clear p2); (try clear q144); (try clear q145); obtain ⟨x3_3, x4_3, x6_3, rfl, rfl, rfl, HA, HK3, BK143, HB⟩ := hrel
            cases gk with
            | zero => exact absurd HA.out (by simp [logjamref25_Check.l1])
            | succ k3 =>
              have H := HA.out; clear HA; simp only [logjamref25_Check.l1] at H; by_cases c18 : x6_3 < (l0_1.length : Int); rotate_left
              · rw [if_neg c18] at H
                have c18b0 : decide (x6_3 < (l0_1.length : Int)) = false := decide_eq_false c18; clear c18; by_cases c54 : x3_3 = true
                · subst c54
                  have H1 : (some 1) = some r := by rw [if_pos rfl] at H; exact H
                  clear H; have H := H1; clear H1; obtain rfl := Option.some.inj H; obtain ⟨hcz55_0, hcz55_1, hcz55_2, hfz55_0, hfz55_1, hfz55_2⟩ := cz3_ (w := wr) BK143.out; go_wp2
                  repeat (go_quiet (fail); try go_wp2)
                  go_ret; exact ⟨by first|rfl|(simp [errW_none, errW_some] <;> rfl)|(simp [*, errW_none, errW_some] <;> rfl), by repeat (first|(with_reducible first|exact HB.out|apply ba_|apply pN_|apply b1_|refine bs_ ?_ GE143.out)|exact HB.out)⟩
                replace c54 := Bool.eq_false_iff.mpr c54; subst c54; have H1 : (if x4_3 = true then (some 17) else (some 0)) = some r := by rw [if_neg (show ¬ (false = true) by decide)] at H; exact H
                clear H; have H := H1; clear H1; by_cases c56 : x4_3 = true
                · subst c56
                  have H1 : (some 17) = some r := by rw [if_pos rfl] at H; exact H
                  clear H; have H := H1; clear H1; obtain rfl := Option.some.inj H; obtain ⟨hcz57_0, hcz57_1, hcz57_2, hfz57_0, hfz57_1, hfz57_2⟩ := cz3_ (w := wr) BK143.out; go_wp2
                  repeat (go_quiet (fail); try go_wp2)
                  go_ret; exact ⟨by first|rfl|(simp [errW_none, errW_some] <;> rfl)|(simp [*, errW_none, errW_some] <;> rfl), by repeat (first|(with_reducible first|exact HB.out|apply ba_|apply pN_|apply b1_|refine bs_ ?_ GE143.out)|exact HB.out)⟩
                replace c56 := Bool.eq_false_iff.mpr c56; subst c56; have H1 : (some 0) = some r := by rw [if_neg (show ¬ (false = true) by decide)] at H; exact H
                clear H; have H := H1; clear H1; obtain rfl := Option.some.inj H; obtain ⟨hcz58_0, hcz58_1, hcz58_2, hfz58_0, hfz58_1, hfz58_2⟩ := cz3_ (w := wr) BK143.out; go_wp2
                repeat (go_quiet (fail); try go_wp2)
                go_ret; exact ⟨by first|rfl|(simp [errW_none, errW_some] <;> rfl)|(simp [*, errW_none, errW_some] <;> rfl), by repeat (first|(with_reducible first|exact HB.out|apply ba_|apply pN_|apply b1_|refine bs_ ?_ GE143.out)|exact HB.out)⟩

              rw [if_pos c18] at H; have c18b0 : decide (x6_3 < (l0_1.length : Int)) = true := decide_eq_true c18; clear c18; have HC19 := A0_ H; clear H; obtain ⟨hcz20_0, hcz20_1, hcz20_2, hfz20_0, hfz20_1, hfz20_2⟩ := cz3_ (w := wr) BK143.out
              go_upto_region 11 with (fail)
              repeat (go_quiet (fail); go_upto_region 11 with (fail))
              go_cut [81] (fun v81 wc => ∃ (kq : Nat) (x81_18 : Bool), v81 = .bool x81_18 ∧ Aside0 (logjamref25_Check.j3 kq x3_3 x4_3 x6_3 x81_18 l0_0 l0_1 l0_2 = some r) ∧ Aside0 (kq ≤ k3) ∧ Aside0 (wc.heap[gb143]? = some (.cells #[(.slice A0_0 l0_0.length c0_0), (.slice A0_1 l0_1.length c0_1), (.slice A0_2 l0_2.length c0_2)] 55 (0, 0))) ∧ Aside0 (Below w.heap.size w wc))
              case first =>
                have H := HC19.out; clear HC19; by_cases c21 : 0 ≤ x6_3; rotate_left
                · rw [if_neg c21] at H
                  exact absurd H (by simp)
                rw [if_pos c21] at H; have c21b0 : decide (0 ≤ x6_3) = true := decide_eq_true c21; clear c21
                (first|rw [c21b0]|(simp only [i64_w, i32_w]; rw [c21b0])|skip)
                by_cases c22 : ((rd_L1 l0_1 x6_3).length : Int) = (l0_0.length : Int); rotate_left
                · rw [if_neg c22] at H
                  have c22b0 : (((rd_L1 l0_1 x6_3).length : Int) == (l0_0.length : Int)) = false := beq_eq_false_iff_ne.mpr c22; have c22b1 : (((rd_L1 l0_1 x6_3).length : Int) != (l0_0.length : Int)) = true := bne_iff_ne.mpr c22; have c22b2 : ((rd_L1 l0_1 x6_3).length == l0_0.length) = false := by first|simpa using c22|(simp at c22 ⊢; omega)
                  have H' := A0_ H; clear H; obtain ⟨hcz25_0, hcz25_1, hcz25_2, hfz25_0, hfz25_1, hfz25_2⟩ := cz3_ (w := wr) BK143.out; have p146 : 0 ≤ (x6_3 : Int) := of_decide_eq_true (by first|(with_reducible assumption)|assumption); have q146 : x6_3 < (l0_1.length : Int) := of_decide_eq_true (by first|(with_reducible assumption)|assumption); obtain ⟨ad146, A146_0, c146_0, e146, hx146_0, hl146_0, hi146_0⟩ := at_L1 HR0_1.out x6_3 p146 q146; cases e146; replace hx146_0 := (HB.out.cell (bl_ w _ hx146_0)).trans hx146_0; have HR146_0 := A0_ hi146_0; have HC146_0 := A0_ hl146_0; clear hi146_0 hl146_0; replace p146 := eq_true p146; replace q146 := eq_true q146; go_wp2
                  repeat (go_quiet (fail); try go_wp2)
                  go_meet
                  case rel => exact ⟨_, (true), (by first|rfl|(simp; done)|(simp [*]; done)), H', ⟨by have := HJ1.out; have := HK2.out; have := HK3.out; first|omega|exact Nat.le_refl _⟩, ⟨by (with_reducible repeat first|refine bN_ ?_ _|refine bD_ ?_|refine bA_ ?_ _); exact BK143.out⟩, ⟨by repeat (first|(with_reducible first|exact HB.out|apply ba_|apply pN_|apply b1_|refine bs_ ?_ GE143.out)|exact HB.out)⟩⟩
                rw [if_pos c22] at H; have c22b0 : (((rd_L1 l0_1 x6_3).length : Int) == (l0_0.length : Int)) = true := beq_iff_eq.mpr c22; have c22b1 : (((rd_L1 l0_1 x6_3).length : Int) != (l0_0.length : Int)) = false := bne_eq_false_iff_eq.mpr c22; have c22b2 : ((rd_L1 l0_1 x6_3).length == l0_0.length) = true := by first|simpa using c22|(simp at c22 ⊢; omega)
                clear c22; by_cases c23 : x6_3 < (l0_2.length : Int); rotate_left
                · rw [if_neg c23] at H
                  exact absurd H (by simp)
                rw [if_pos c23] at H; have c23b0 : decide (x6_3 < (l0_2.length : Int)) = true := decide_eq_true c23; clear c23; have H' := A0_ H; clear H; obtain ⟨hcz24_0, hcz24_1, hcz24_2, hfz24_0, hfz24_1, hfz24_2⟩ := cz3_ (w := wr) BK143.out; have p146 : 0 ≤ (x6_3 : Int) := of_decide_eq_true (by first|(with_reducible assumption)|assumption); have q146 : x6_3 < (l0_1.length : Int) := of_decide_eq_true (by first|(with_reducible assumption)|assumption); obtain ⟨ad146, A146_0, c146_0, e146, hx146_0, hl146_0, hi146_0⟩ := at_L1 HR0_1.out x6_3 p146 q146; cases e146; replace hx146_0 := (HB.out.cell (bl_ w _ hx146_0)).trans hx146_0; have HR146_0 := A0_ hi146_0; have HC146_0 := A0_ hl146_0; clear hi146_0 hl146_0; replace p146 := eq_true p146; replace q146 := eq_true q146; have p147 : 0 ≤ (x6_3 : Int) := of_decide_eq_true (by first|(with_reducible assumption)|assumption); have q147 : x6_3 < (l0_2.length : Int) := of_decide_eq_true (by first|(with_reducible assumption)|assumption); obtain ⟨ad147, A147_0, c147_0, e147, hx147_0, hl147_0, hi147_0⟩ := at_L1 HR0_2.out x6_3 p147 q147; cases e147; replace hx147_0 := (HB.out.cell (bl_ w _ hx147_0)).trans hx147_0; have HR147_0 := A0_ hi147_0; have HC147_0 := A0_ hl147_0; clear hi147_0 hl147_0; replace p147 := eq_true p147; replace q147 := eq_true q147; go_wp2
                repeat (go_quiet (fail); try go_wp2)
                go_meet
                case rel => exact ⟨_, ((((rd_L1 l0_2 x6_3).length : Int) != (l0_0.length : Int))), (by first|rfl|(simp; done)|(simp [*]; done)), H', ⟨by have := HJ1.out; have := HK2.out; have := HK3.out; first|omega|exact Nat.le_refl _⟩, ⟨by (with_reducible repeat first|refine bN_ ?_ _|refine bD_ ?_|refine bA_ ?_ _); exact BK143.out⟩, ⟨by repeat (first|(with_reducible first|exact HB.out|apply ba_|apply pN_|apply b1_|refine bs_ ?_ GE143.out)|exact HB.out)⟩⟩
              case rest =>
                clear HC19; (try clear c1); (try clear p1); (try clear q1); (try clear hx1); (try clear c2); (try clear p2); (try clear c4); (try clear c4b0); (try clear c4b1); (try clear c4b2); (try clear c5); (try clear c5b0); (try clear c5b1); (try clear p6); (try clear c9); (try clear c10); (try clear c10b0); (try clear c11); (try clear c13); (try clear c13b0); (try clear c14); (try clear c14b0); (try clear p14); (try clear q14); (try clear hx14); (try clear c18); (try clear c18b0); (try clear c21); (try clear c21b0); (try clear c22); (try clear c22b0); (try clear c22b1); (try clear c22b2); (try clear c23); (try clear c23b0); (try clear c24); (try clear hcz12_0); (try clear hcz12_1); (try clear hcz12_2); (try clear hcz15_0); (try clear hcz15_1); (try clear hcz15_2); (try clear hcz16_0); (try clear hcz16_1); (try clear hcz16_2); (try clear hcz17_0); (try clear hcz17_1); (try clear hcz17_2); (try clear hcz20_0); (try clear hcz20_1); (try clear hcz20_2); (try clear hcz24_0); (try clear hcz24_1); (try clear hcz24_2); (try clear hcz25_0); (try clear hcz25_1); (try clear hcz25_2); (try clear hcz6_0); (try clear hcz6_1); (try clear hcz6_2); (try clear hcz7_0); (try clear hcz7_1); (try clear hcz7_2); (try clear hcz8_0); (try clear hcz8_1); (try clear hcz8_2); (try clear hfz12_0); (try clear hfz12_1); (try clear hfz12_2); (try clear hfz15_0); (try clear hfz15_1); (try clear hfz15_2); (try clear hfz16_0); (try clear hfz16_1); (try clear hfz16_2); (try clear hfz17_0); (try clear hfz17_1); (try clear hfz17_2); (try clear hfz20_0); (try clear hfz20_1); (try clear hfz20_2); (try clear hfz24_0); (try clear hfz24_1); (try clear hfz24_2); (try clear hfz25_0); (try clear hfz25_1); (try clear hfz25_2); (try clear hfz6_0); (try clear hfz6_1); (try clear hfz6_2); (try clear hfz7_0); (try clear hfz7_1); (try clear hfz7_2); (try clear hfz8_0); (try clear hfz8_1); (try clear hfz8_2); (try clear hx144_0); (try clear hx145_0); (try clear hx146_0); (try clear hx147_0); (try clear p1); (try clear p14); (try clear p144); (try clear p145); (try clear p146); (try clear p147); (try clear p2); (try clear p6); (try clear q1); (try clear q14); (try clear q144); (try clear q145); (try clear q146); (try clear q147); obtain ⟨kq, x81_18, rfl, HA, HJ18, BK143, HB⟩ := hcut
                cases kq with
                | zero => exact absurd HA.out (by simp [logjamref25_Check.j3])
                | succ kj18 =>
                  have H := HA.out; clear HA; simp only [logjamref25_Check.j3] at H; by_cases c26 : x81_18 = true
                  · subst c26
                    have H1 : (some 2) = some r := by rw [if_pos rfl] at H; exact H
                    clear H; have H := H1; clear H1; obtain rfl := Option.some.inj H; go_wp2
                    repeat (go_quiet (fail); try go_wp2)
                    go_ret; exact ⟨by first|rfl|(simp [errW_none, errW_some] <;> rfl)|(simp [*, errW_none, errW_some] <;> rfl), by repeat (first|(with_reducible first|exact HB.out|apply ba_|apply pN_|apply b1_|refine bs_ ?_ GE143.out)|exact HB.out)⟩
                  replace c26 := Bool.eq_false_iff.mpr c26; subst c26; have H1 : (logjamref25_Check.l2 kj18 x3_3 x4_3 x6_3 0 l0_0 l0_1 l0_2) = some r := by rw [if_neg (show ¬ (false = true) by decide)] at H; exact H
                  clear H; have H := H1; clear H1; have H' := A0_ H; clear H; go_wp2
                  repeat (go_quiet (fail); try go_wp2)
                  go_loopg [3, 4, 7] kj18 (fun kq v3 v4 v7 w' => ∃ (x3_5 : Bool) (x4_5 : Bool) (x7_5 : Int), v3 = .bool x3_5 ∧ v4 = .bool x4_5 ∧ v7 = .int .i64 x7_5 ∧ Aside0 (logjamref25_Check.l2 kq x3_5 x4_5 x6_3 x7_5 l0_0 l0_1 l0_2 = some r) ∧ Aside0 (kq ≤ kj18) ∧ Aside0 (w'.heap[gb143]? = some (.cells #[(.slice A0_0 l0_0.length c0_0), (.slice A0_1 l0_1.length c0_1), (.slice A0_2 l0_2.length c0_2)] 55 (0, 0))) ∧ Aside0 (Below w.heap.size w w'))
                  case atStart => exact ⟨(x3_3), (x4_3), (0), (by first|rfl|(simp; done)|(simp [*]; done)), (by first|rfl|(simp; done)|(simp [*]; done)), (by first|rfl|(simp; done)|(simp [*]; done)), H', ⟨Nat.le_refl _⟩, ⟨by (with_reducible repeat first|refine bN_ ?_ _|refine bD_ ?_|refine bA_ ?_ _); exact BK143.out⟩, ⟨by repeat (first|(with_reducible first|exact HB.out|apply ba_|apply pN_|apply b1_|refine bs_ ?_ GE143.out)|exact HB.out)⟩⟩
                  case round =>
                    clear H'; (try clear c1); (try clear p1); (try clear q1); (try clear hx1); (try clear c2); (try clear p2); (try clear c4); (try clear c4b0); (try clear c4b1); (try clear c4b2); (try clear c5); (try clear c5b0); (try clear c5b1); (try clear p6); (try clear c9); (try clear c10); (try clear c10b0); (try clear c11); (try clear c13); (try clear c13b0); (try clear c14); (try clear c14b0); (try clear p14); (try clear q14); (try clear hx14); (try clear c18); (try clear c18b0); (try clear c21); (try clear c21b0); (try clear c22); (try clear c22b0); (try clear c22b1); (try clear c22b2); (try clear c23); (try clear c23b0); (try clear c24); (try clear c26); (try clear hcz12_0); (try clear hcz12_1); (try clear hcz12_2); (try clear hcz15_0); (try clear hcz15_1); (try clear hcz15_2); (try clear hcz16_0); (try clear hcz16_1); (try clear hcz16_2); (try clear hcz17_0); (try clear hcz17_1); (try clear hcz17_2); (try clear hcz20_0); (try clear hcz20_1); (try clear hcz20_2); (try clear hcz24_0); (try clear hcz24_1); (try clear hcz24_2); (try clear hcz25_0); (try clear hcz25_1); (try clear hcz25_2); (try clear hcz6_0); (try clear hcz6_1); (try clear hcz6_2); (try clear hcz7_0); (try clear hcz7_1); (try clear hcz7_2); (try clear hcz8_0); (try clear hcz8_1); (try clear hcz8_2); (try clear hfz12_0); (try clear hfz12_1); (try clear hfz12_2); (try clear hfz15_0); (try clear hfz15_1); (try clear hfz15_2); (try clear hfz16_0); (try clear hfz16_1); (try clear hfz16_2); (try clear hfz17_0); (try clear hfz17_1); (try clear hfz17_2); (try clear hfz20_0); (try clear hfz20_1); (try clear hfz20_2); (try clear hfz24_0); (try clear hfz24_1); (try clear hfz24_2); (try clear hfz25_0); (try clear hfz25_1); (try clear hfz25_2); (try clear hfz6_0); (try clear hfz6_1); (try clear hfz6_2); (try clear hfz7_0); (try clear hfz7_1); (try clear hfz7_2); (try clear hfz8_0); (try clear hfz8_1); (try clear hfz8_2); (try clear hx144_0); (try clear hx145_0); (try clear hx146_0); (try clear hx147_0); (try clear p1); (try clear p14); (try clear p144); (try clear p145); (try clear p146); (try clear p147); (try clear p2); (try clear p6); (try clear q1); (try clear q14); (try clear q144); (try clear q145); (try clear q146); (try clear q147); obtain ⟨x3_5, x4_5, x7_5, rfl, rfl, rfl, HA, HK5, BK143, HB⟩ := hrel
                    cases gk with
                    | zero => exact absurd HA.out (by simp [logjamref25_Check.l2])
                    | succ k5 =>
                      have H := HA.out; clear HA; simp only [logjamref25_Check.l2] at H; by_cases c27 : x7_5 < (l0_0.length : Int); rotate_left
                      · rw [if_neg c27] at H
                        have c27b0 : decide (x7_5 < (l0_0.length : Int)) = false := decide_eq_false c27; clear c27; have H' := A0_ H; clear H; obtain ⟨hcz53_0, hcz53_1, hcz53_2, hfz53_0, hfz53_1, hfz53_2⟩ := cz3_ (w := wr) BK143.out; go_wp2
                        repeat (go_quiet (fail); try go_wp2)
                        go_roundg k5
                        case measure => have := HJ1.out; have := HK2.out; have := HK3.out; have := HJ18.out; have := HK5.out; omega
                        case rel => exact ⟨(x3_5), (x4_5), (wrap64 (x6_3 + 1)), (by first|rfl|(simp; done)|(simp [*]; done)), (by first|rfl|(simp; done)|(simp [*]; done)), (by first|rfl|(simp; done)|(simp [*]; done)), H', ⟨by have := HJ1.out; have := HK2.out; have := HK3.out; have := HJ18.out; have := HK5.out; omega⟩, ⟨by (with_reducible repeat first|refine bN_ ?_ _|refine bD_ ?_|refine bA_ ?_ _); exact BK143.out⟩, ⟨by repeat (first|(with_reducible first|exact HB.out|apply ba_|apply pN_|apply b1_|refine bs_ ?_ GE143.out)|exact HB.out)⟩⟩
                      rw [if_pos c27] at H; have c27b0 : decide (x7_5 < (l0_0.length : Int)) = true := decide_eq_true c27; clear c27; by_cases c28 : 0 ≤ x6_3; rotate_left
                      · rw [if_neg c28] at H
                        exact absurd H (by simp)
                      rw [if_pos c28] at H; have c28b0 : decide (0 ≤ x6_3) = true := decide_eq_true c28; clear c28; by_cases c29 : x6_3 < (l0_1.length : Int); rotate_left
                      · rw [if_neg c29] at H
                        exact absurd H (by simp)
                      rw [if_pos c29] at H; have c29b0 : decide (x6_3 < (l0_1.length : Int)) = true := decide_eq_true c29; clear c29; by_cases c30 : 0 ≤ x7_5; rotate_left
                      · rw [if_neg c30] at H
                        exact absurd H (by simp)
                      rw [if_pos c30] at H; have c30b0 : decide (0 ≤ x7_5) = true := decide_eq_true c30; clear c30; by_cases c31 : x7_5 < ((rd_L1 l0_1 x6_3).length : Int); rotate_left
                      · rw [if_neg c31] at H
                        exact absurd H (by simp)
                      rw [if_pos c31] at H; have c31b0 : decide (x7_5 < ((rd_L1 l0_1 x6_3).length : Int)) = true := decide_eq_true c31; clear c31; by_cases c32 : x6_3 < (l0_2.length : Int); rotate_left
                      · rw [if_neg c32] at H
                        exact absurd H (by simp)
                      rw [if_pos c32] at H; have c32b0 : decide (x6_3 < (l0_2.length : Int)) = true := decide_eq_true c32; clear c32; by_cases c33 : x7_5 < ((rd_L1 l0_2 x6_3).length : Int); rotate_left
                      · rw [if_neg c33] at H
                        exact absurd H (by simp)
                      rw [if_pos c33] at H; have c33b0 : decide (x7_5 < ((rd_L1 l0_2 x6_3).length : Int)) = true := decide_eq_true c33; clear c33; by_cases c34 : x3_5 = true
                      · subst c34
                        have H1 : (if x4_5 = true then (logjamref25_Check.l2 k5 true true x6_3 (wrap64 (x7_5 + 1)) l0_0 l0_1 l0_2) else (logjamref25_Check.l2 k5 true (decide ((rd (rd_L1 l0_1 x6_3) x7_5) > (rd (rd_L1 l0_2 x6_3) x7_5))) x6_3 (wrap64 (x7_5 + 1)) l0_0 l0_1 l0_2)) = some r := by rw [if_pos rfl] at H; exact H
                        clear H; have H := H1; clear H1; by_cases c35 : x4_5 = true
                        · subst c35
                          have H1 : (logjamref25_Check.l2 k5 true true x6_3 (wrap64 (x7_5 + 1)) l0_0 l0_1 l0_2) = some r := by rw [if_pos rfl] at H; exact H
                          clear H; have H := H1; clear H1; have H' := A0_ H; clear H; obtain ⟨hcz36_0, hcz36_1, hcz36_2, hfz36_0, hfz36_1, hfz36_2⟩ := cz3_ (w := wr) BK143.out; have p148 : 0 ≤ (x6_3 : Int) := of_decide_eq_true (by first|(with_reducible assumption)|assumption); have q148 : x6_3 < (l0_1.length : Int) := of_decide_eq_true (by first|(with_reducible assumption)|assumption); obtain ⟨ad148, A148_0, c148_0, e148, hx148_0, hl148_0, hi148_0⟩ := at_L1 HR0_1.out x6_3 p148 q148; cases e148; replace hx148_0 := (HB.out.cell (bl_ w _ hx148_0)).trans hx148_0; have HR148_0 := A0_ hi148_0; have HC148_0 := A0_ hl148_0; clear hi148_0 hl148_0; replace p148 := eq_true p148; replace q148 := eq_true q148; have p149 : 0 ≤ (x7_5 : Int) := of_decide_eq_true (by first|(with_reducible assumption)|assumption); have q149 : x7_5 < ((rd_L1 l0_1 x6_3).length : Int) := of_decide_eq_true (by first|(with_reducible assumption)|assumption); obtain ⟨ad149, e149, hx149_0⟩ := Kd.at_int HR148_0.out x7_5 p149 q149; cases e149; replace hx149_0 := (HB.out.cell (bl_ w _ hx149_0)).trans hx149_0; replace p149 := eq_true p149; replace q149 := eq_true q149; have p150 : 0 ≤ (x6_3 : Int) := of_decide_eq_true (by first|(with_reducible assumption)|assumption); have q150 : x6_3 < (l0_2.length : Int) := of_decide_eq_true (by first|(with_reducible assumption)|assumption); obtain ⟨ad150, A150_0, c150_0, e150, hx150_0, hl150_0, hi150_0⟩ := at_L1 HR0_2.out x6_3 p150 q150; cases e150; replace hx150_0 := (HB.out.cell (bl_ w _ hx150_0)).trans hx150_0; have HR150_0 := A0_ hi150_0; have HC150_0 := A0_ hl150_0; clear hi150_0 hl150_0; replace p150 := eq_true p150; replace q150 := eq_true q150; have p151 : 0 ≤ (x7_5 : Int) := of_decide_eq_true (by first|(with_reducible assumption)|assumption); have q151 : x7_5 < ((rd_L1 l0_2 x6_3).length : Int) := of_decide_eq_true (by first|(with_reducible assumption)|assumption); obtain ⟨ad151, e151, hx151_0⟩ := Kd.at_int HR150_0.out x7_5 p151 q151; cases e151; replace hx151_0 := (HB.out.cell (bl_ w _ hx151_0)).trans hx151_0; replace p151 := eq_true p151; replace q151 := eq_true q151; go_wp2
                          repeat (go_quiet (fail); try go_wp2)
                          go_roundg k5
                          case measure => have := HJ1.out; have := HK2.out; have := HK3.out; have := HJ18.out; have := HK5.out; omega
                          case rel => exact ⟨(true), (true), (wrap64 (x7_5 + 1)), (by first|rfl|(simp; done)|(simp [*]; done)), (by first|rfl|(simp; done)|(simp [*]; done)), (by first|rfl|(simp; done)|(simp [*]; done)), H', ⟨by have := HJ1.out; have := HK2.out; have := HK3.out; have := HJ18.out; have := HK5.out; omega⟩, ⟨by (with_reducible repeat first|refine bN_ ?_ _|refine bD_ ?_|refine bA_ ?_ _); exact BK143.out⟩, ⟨by repeat (first|(with_reducible first|exact HB.out|apply ba_|apply pN_|apply b1_|refine bs_ ?_ GE143.out)|exact HB.out)⟩⟩
                        replace c35 := Bool.eq_false_iff.mpr c35; subst c35; have H1 : (logjamref25_Check.l2 k5 true (decide ((rd (rd_L1 l0_1 x6_3) x7_5) > (rd (rd_L1 l0_2 x6_3) x7_5))) x6_3 (wrap64 (x7_5 + 1)) l0_0 l0_1 l0_2) = some r := by rw [if_neg (show ¬ (false = true) by decide)] at H; exact H
                        clear H; have H := H1; clear H1; have H' := A0_ H; clear H; obtain ⟨hcz37_0, hcz37_1, hcz37_2, hfz37_0, hfz37_1, hfz37_2⟩ := cz3_ (w := wr) BK143.out; have p148 : 0 ≤ (x6_3 : Int) := of_decide_eq_true (by first|(with_reducible assumption)|assumption); have q148 : x6_3 < (l0_1.length : Int) := of_decide_eq_true (by first|(with_reducible assumption)|assumption); obtain ⟨ad148, A148_0, c148_0, e148, hx148_0, hl148_0, hi148_0⟩ := at_L1 HR0_1.out x6_3 p148 q148; cases e148; replace hx148_0 := (HB.out.cell (bl_ w _ hx148_0)).trans hx148_0; have HR148_0 := A0_ hi148_0; have HC148_0 := A0_ hl148_0; clear hi148_0 hl148_0; replace p148 := eq_true p148; replace q148 := eq_true q148; have p149 : 0 ≤ (x7_5 : Int) := of_decide_eq_true (by first|(with_reducible assumption)|assumption); have q149 : x7_5 < ((rd_L1 l0_1 x6_3).length : Int) := of_decide_eq_true (by first|(with_reducible assumption)|assumption); obtain ⟨ad149, e149, hx149_0⟩ := Kd.at_int HR148_0.out x7_5 p149 q149; cases e149; replace hx149_0 := (HB.out.cell (bl_ w _ hx149_0)).trans hx149_0; replace p149 := eq_true p149; replace q149 := eq_true q149; have p150 : 0 ≤ (x6_3 : Int) := of_decide_eq_true (by first|(with_reducible assumption)|assumption); have q150 : x6_3 < (l0_2.length : Int) := of_decide_eq_true (by first|(with_reducible assumption)|assumption); obtain ⟨ad150, A150_0, c150_0, e150, hx150_0, hl150_0, hi150_0⟩ := at_L1 HR0_2.out x6_3 p150 q150; cases e150; replace hx150_0 := (HB.out.cell (bl_ w _ hx150_0)).trans hx150_0; have HR150_0 := A0_ hi150_0; have HC150_0 := A0_ hl150_0; clear hi150_0 hl150_0; replace p150 := eq_true p150; replace q150 := eq_true q150; have p151 : 0 ≤ (x7_5 : Int) := of_decide_eq_true (by first|(with_reducible assumption)|assumption); have q151 : x7_5 < ((rd_L1 l0_2 x6_3).length : Int) := of_decide_eq_true (by first|(with_reducible assumption)|assumption); obtain ⟨ad151, e151, hx151_0⟩ := Kd.at_int HR150_0.out x7_5 p151 q151; cases e151; replace hx151_0 := (HB.out.cell (bl_ w _ hx151_0)).trans hx151_0; replace p151 := eq_true p151; replace q151 := eq_true q151; go_wp2
                        repeat (go_quiet (fail); try go_wp2)
                        go_roundg k5
                        case measure => have := HJ1.out; have := HK2.out; have := HK3.out; have := HJ18.out; have := HK5.out; omega
                        case rel => exact ⟨(true), (decide ((rd (rd_L1 l0_1 x6_3) x7_5) > (rd (rd_L1 l0_2 x6_3) x7_5))), (wrap64 (x7_5 + 1)), (by first|rfl|(simp; done)|(simp [*]; done)), (by first|rfl|(simp; done)|(simp [*]; done)), (by first|rfl|(simp; done)|(simp [*]; done)), H', ⟨by have := HJ1.out; have := HK2.out; have := HK3.out; have := HJ18.out; have := HK5.out; omega⟩, ⟨by (with_reducible repeat first|refine bN_ ?_ _|refine bD_ ?_|refine bA_ ?_ _); exact BK143.out⟩, ⟨by repeat (first|(with_reducible first|exact HB.out|apply ba_|apply pN_|apply b1_|refine bs_ ?_ GE143.out)|exact HB.out)⟩⟩
                      replace c34 := Bool.eq_false_iff.mpr c34; subst c34; have H1 : (if (rd (rd_L1 l0_1 x6_3) x7_5) < 0 then (if x4_5 = true then (logjamref25_Check.l2 k5 true true x6_3 (wrap64 (x7_5 + 1)) l0_0 l0_1 l0_2) else (logjamref25_Check.l2 k5 true (decide ((rd (rd_L1 l0_1 x6_3) x7_5) > (rd (rd_L1 l0_2 x6_3) x7_5))) x6_3 (wrap64 (x7_5 + 1)) l0_0 l0_1 l0_2)) else (if (rd (rd_L1 l0_1 x6_3) x7_5) > 1000 then (if x4_5 = true then (logjamref25_Check.l2 k5 true true x6_3 (wrap64 (x7_5 + 1)) l0_0 l0_1 l0_2) else (logjamref25_Check.l2 k5 true (decide ((rd (rd_L1 l0_1 x6_3) x7_5) > (rd (rd_L1 l0_2 x6_3) x7_5))) x6_3 (wrap64 (x7_5 + 1)) l0_0 l0_1 l0_2)) else (if (rd (rd_L1 l0_2 x6_3) x7_5) < 0 then (if x4_5 = true then (logjamref25_Check.l2 k5 true true x6_3 (wrap64 (x7_5 + 1)) l0_0 l0_1 l0_2) else (logjamref25_Check.l2 k5 true (decide ((rd (rd_L1 l0_1 x6_3) x7_5) > (rd (rd_L1 l0_2 x6_3) x7_5))) x6_3 (wrap64 (x7_5 + 1)) l0_0 l0_1 l0_2)) else (if x4_5 = true then (logjamref25_Check.l2 k5 (decide ((rd (rd_L1 l0_2 x6_3) x7_5) > 1000)) true x6_3 (wrap64 (x7_5 + 1)) l0_0 l0_1 l0_2) else (logjamref25_Check.l2 k5 (decide ((rd (rd_L1 l0_2 x6_3) x7_5) > 1000)) (decide ((rd (rd_L1 l0_1 x6_3) x7_5) > (rd (rd_L1 l0_2 x6_3) x7_5))) x6_3 (wrap64 (x7_5 + 1)) l0_0 l0_1 l0_2))))) = some r := by rw [if_neg (show ¬ (false = true) by decide)] at H; exact H
                      clear H; have H := H1; clear H1; by_cases c38 : (rd (rd_L1 l0_1 x6_3) x7_5) < 0
                      · rw [if_pos c38] at H
                        have c38b0 : decide ((rd (rd_L1 l0_1 x6_3) x7_5) < 0) = true := decide_eq_true c38; clear c38; by_cases c39 : x4_5 = true
                        · subst c39
                          have H1 : (logjamref25_Check.l2 k5 true true x6_3 (wrap64 (x7_5 + 1)) l0_0 l0_1 l0_2) = some r := by rw [if_pos rfl] at H; exact H
                          clear H; have H := H1; clear H1; have H' := A0_ H; clear H; obtain ⟨hcz40_0, hcz40_1, hcz40_2, hfz40_0, hfz40_1, hfz40_2⟩ := cz3_ (w := wr) BK143.out; have p148 : 0 ≤ (x6_3 : Int) := of_decide_eq_true (by first|(with_reducible assumption)|assumption); have q148 : x6_3 < (l0_1.length : Int) := of_decide_eq_true (by first|(with_reducible assumption)|assumption); obtain ⟨ad148, A148_0, c148_0, e148, hx148_0, hl148_0, hi148_0⟩ := at_L1 HR0_1.out x6_3 p148 q148; cases e148; replace hx148_0 := (HB.out.cell (bl_ w _ hx148_0)).trans hx148_0; have HR148_0 := A0_ hi148_0; have HC148_0 := A0_ hl148_0; clear hi148_0 hl148_0; replace p148 := eq_true p148; replace q148 := eq_true q148; have p149 : 0 ≤ (x7_5 : Int) := of_decide_eq_true (by first|(with_reducible assumption)|assumption); have q149 : x7_5 < ((rd_L1 l0_1 x6_3).length : Int) := of_decide_eq_true (by first|(with_reducible assumption)|assumption); obtain ⟨ad149, e149, hx149_0⟩ := Kd.at_int HR148_0.out x7_5 p149 q149; cases e149; replace hx149_0 := (HB.out.cell (bl_ w _ hx149_0)).trans hx149_0; replace p149 := eq_true p149; replace q149 := eq_true q149; have p150 : 0 ≤ (x6_3 : Int) := of_decide_eq_true (by first|(with_reducible assumption)|assumption); have q150 : x6_3 < (l0_2.length : Int) := of_decide_eq_true (by first|(with_reducible assumption)|assumption); obtain ⟨ad150, A150_0, c150_0, e150, hx150_0, hl150_0, hi150_0⟩ := at_L1 HR0_2.out x6_3 p150 q150; cases e150; replace hx150_0 := (HB.out.cell (bl_ w _ hx150_0)).trans hx150_0; have HR150_0 := A0_ hi150_0; have HC150_0 := A0_ hl150_0; clear hi150_0 hl150_0; replace p150 := eq_true p150; replace q150 := eq_true q150; have p151 : 0 ≤ (x7_5 : Int) := of_decide_eq_true (by first|(with_reducible assumption)|assumption); have q151 : x7_5 < ((rd_L1 l0_2 x6_3).length : Int) := of_decide_eq_true (by first|(with_reducible assumption)|assumption); obtain ⟨ad151, e151, hx151_0⟩ := Kd.at_int HR150_0.out x7_5 p151 q151; cases e151; replace hx151_0 := (HB.out.cell (bl_ w _ hx151_0)).trans hx151_0; replace p151 := eq_true p151; replace q151 := eq_true q151; go_wp2
                          repeat (go_quiet (fail); try go_wp2)
                          go_roundg k5
                          case measure => have := HJ1.out; have := HK2.out; have := HK3.out; have := HJ18.out; have := HK5.out; omega
                          case rel => exact ⟨(true), (true), (wrap64 (x7_5 + 1)), (by first|rfl|(simp; done)|(simp [*]; done)), (by first|rfl|(simp; done)|(simp [*]; done)), (by first|rfl|(simp; done)|(simp [*]; done)), H', ⟨by have := HJ1.out; have := HK2.out; have := HK3.out; have := HJ18.out; have := HK5.out; omega⟩, ⟨by (with_reducible repeat first|refine bN_ ?_ _|refine bD_ ?_|refine bA_ ?_ _); exact BK143.out⟩, ⟨by repeat (first|(with_reducible first|exact HB.out|apply ba_|apply pN_|apply b1_|refine bs_ ?_ GE143.out)|exact HB.out)⟩⟩
                        replace c39 := Bool.eq_false_iff.mpr c39; subst c39; have H1 : (logjamref25_Check.l2 k5 true (decide ((rd (rd_L1 l0_1 x6_3) x7_5) > (rd (rd_L1 l0_2 x6_3) x7_5))) x6_3 (wrap64 (x7_5 + 1)) l0_0 l0_1 l0_2) = some r := by rw [if_neg (show ¬ (false = true) by decide)] at H; exact H
                        clear H; have H := H1; clear H1; have H' := A0_ H; clear H; obtain ⟨hcz41_0, hcz41_1, hcz41_2, hfz41_0, hfz41_1, hfz41_2⟩ := cz3_ (w := wr) BK143.out; have p148 : 0 ≤ (x6_3 : Int) := of_decide_eq_true (by first|(with_reducible assumption)|assumption); have q148 : x6_3 < (l0_1.length : Int) := of_decide_eq_true (by first|(with_reducible assumption)|assumption); obtain ⟨ad148, A148_0, c148_0, e148, hx148_0, hl148_0, hi148_0⟩ := at_L1 HR0_1.out x6_3 p148 q148; cases e148; replace hx148_0 := (HB.out.cell (bl_ w _ hx148_0)).trans hx148_0; have HR148_0 := A0_ hi148_0; have HC148_0 := A0_ hl148_0; clear hi148_0 hl148_0; replace p148 := eq_true p148; replace q148 := eq_true q148; have p149 : 0 ≤ (x7_5 : Int) := of_decide_eq_true (by first|(with_reducible assumption)|assumption); have q149 : x7_5 < ((rd_L1 l0_1 x6_3).length : Int) := of_decide_eq_true (by first|(with_reducible assumption)|assumption); obtain ⟨ad149, e149, hx149_0⟩ := Kd.at_int HR148_0.out x7_5 p149 q149; cases e149; replace hx149_0 := (HB.out.cell (bl_ w _ hx149_0)).trans hx149_0; replace p149 := eq_true p149; replace q149 := eq_true q149; have p150 : 0 ≤ (x6_3 : Int) := of_decide_eq_true (by first|(with_reducible assumption)|assumption); have q150 : x6_3 < (l0_2.length : Int) := of_decide_eq_true (by first|(with_reducible assumption)|assumption); obtain ⟨ad150, A150_0, c150_0, e150, hx150_0, hl150_0, hi150_0⟩ := at_L1 HR0_2.out x6_3 p150 q150; cases e150; replace hx150_0 := (HB.out.cell (bl_ w _ hx150_0)).trans hx150_0; have HR150_0 := A0_ hi150_0; have HC150_0 := A0_ hl150_0; clear hi150_0 hl150_0; replace p150 := eq_true p150; replace q150 := eq_true q150; have p151 : 0 ≤ (x7_5 : Int) := of_decide_eq_true (by first|(with_reducible assumption)|assumption); have q151 : x7_5 < ((rd_L1 l0_2 x6_3).length : Int) := of_decide_eq_true (by first|(with_reducible assumption)|assumption); obtain ⟨ad151, e151, hx151_0⟩ := Kd.at_int HR150_0.out x7_5 p151 q151; cases e151; replace hx151_0 := (HB.out.cell (bl_ w _ hx151_0)).trans hx151_0; replace p151 := eq_true p151; replace q151 := eq_true q151; go_wp2
                        repeat (go_quiet (fail); try go_wp2)
                        go_roundg k5
                        case measure => have := HJ1.out; have := HK2.out; have := HK3.out; have := HJ18.out; have := HK5.out; omega
                        case rel => exact ⟨(true), (decide ((rd (rd_L1 l0_1 x6_3) x7_5) > (rd (rd_L1 l0_2 x6_3) x7_5))), (wrap64 (x7_5 + 1)), (by first|rfl|(simp; done)|(simp [*]; done)), (by first|rfl|(simp; done)|(simp [*]; done)), (by first|rfl|(simp; done)|(simp [*]; done)), H', ⟨by have := HJ1.out; have := HK2.out; have := HK3.out; have := HJ18.out; have := HK5.out; omega⟩, ⟨by (with_reducible repeat first|refine bN_ ?_ _|refine bD_ ?_|refine bA_ ?_ _); exact BK143.out⟩, ⟨by repeat (first|(with_reducible first|exact HB.out|apply ba_|apply pN_|apply b1_|refine bs_ ?_ GE143.out)|exact HB.out)⟩⟩
                      rw [if_neg c38] at H; have c38b0 : decide ((rd (rd_L1 l0_1 x6_3) x7_5) < 0) = false := decide_eq_false c38; clear c38; by_cases c42 : (rd (rd_L1 l0_1 x6_3) x7_5) > 1000
                      · rw [if_pos c42] at H
                        have c42b0 : decide (1000 < (rd (rd_L1 l0_1 x6_3) x7_5)) = true := decide_eq_true c42; clear c42; by_cases c43 : x4_5 = true
                        · subst c43
                          have H1 : (logjamref25_Check.l2 k5 true true x6_3 (wrap64 (x7_5 + 1)) l0_0 l0_1 l0_2) = some r := by rw [if_pos rfl] at H; exact H
                          clear H; have H := H1; clear H1; have H' := A0_ H; clear H; obtain ⟨hcz44_0, hcz44_1, hcz44_2, hfz44_0, hfz44_1, hfz44_2⟩ := cz3_ (w := wr) BK143.out; have p148 : 0 ≤ (x6_3 : Int) := of_decide_eq_true (by first|(with_reducible assumption)|assumption); have q148 : x6_3 < (l0_1.length : Int) := of_decide_eq_true (by first|(with_reducible assumption)|assumption); obtain ⟨ad148, A148_0, c148_0, e148, hx148_0, hl148_0, hi148_0⟩ := at_L1 HR0_1.out x6_3 p148 q148; cases e148; replace hx148_0 := (HB.out.cell (bl_ w _ hx148_0)).trans hx148_0; have HR148_0 := A0_ hi148_0; have HC148_0 := A0_ hl148_0; clear hi148_0 hl148_0; replace p148 := eq_true p148; replace q148 := eq_true q148; have p149 : 0 ≤ (x7_5 : Int) := of_decide_eq_true (by first|(with_reducible assumption)|assumption); have q149 : x7_5 < ((rd_L1 l0_1 x6_3).length : Int) := of_decide_eq_true (by first|(with_reducible assumption)|assumption); obtain ⟨ad149, e149, hx149_0⟩ := Kd.at_int HR148_0.out x7_5 p149 q149; cases e149; replace hx149_0 := (HB.out.cell (bl_ w _ hx149_0)).trans hx149_0; replace p149 := eq_true p149; replace q149 := eq_true q149; have p150 : 0 ≤ (x6_3 : Int) := of_decide_eq_true (by first|(with_reducible assumption)|assumption); have q150 : x6_3 < (l0_2.length : Int) := of_decide_eq_true (by first|(with_reducible assumption)|assumption); obtain ⟨ad150, A150_0, c150_0, e150, hx150_0, hl150_0, hi150_0⟩ := at_L1 HR0_2.out x6_3 p150 q150; cases e150; replace hx150_0 := (HB.out.cell (bl_ w _ hx150_0)).trans hx150_0; have HR150_0 := A0_ hi150_0; have HC150_0 := A0_ hl150_0; clear hi150_0 hl150_0; replace p150 := eq_true p150; replace q150 := eq_true q150; have p151 : 0 ≤ (x7_5 : Int) := of_decide_eq_true (by first|(with_reducible assumption)|assumption); have q151 : x7_5 < ((rd_L1 l0_2 x6_3).length : Int) := of_decide_eq_true (by first|(with_reducible assumption)|assumption); obtain ⟨ad151, e151, hx151_0⟩ := Kd.at_int HR150_0.out x7_5 p151 q151; cases e151; replace hx151_0 := (HB.out.cell (bl_ w _ hx151_0)).trans hx151_0; replace p151 := eq_true p151; replace q151 := eq_true q151; go_wp2
                          repeat (go_quiet (fail); try go_wp2)
                          go_roundg k5
                          case measure => have := HJ1.out; have := HK2.out; have := HK3.out; have := HJ18.out; have := HK5.out; omega
                          case rel => exact ⟨(true), (true), (wrap64 (x7_5 + 1)), (by first|rfl|(simp; done)|(simp [*]; done)), (by first|rfl|(simp; done)|(simp [*]; done)), (by first|rfl|(simp; done)|(simp [*]; done)), H', ⟨by have := HJ1.out; have := HK2.out; have := HK3.out; have := HJ18.out; have := HK5.out; omega⟩, ⟨by (with_reducible repeat first|refine bN_ ?_ _|refine bD_ ?_|refine bA_ ?_ _); exact BK143.out⟩, ⟨by repeat (first|(with_reducible first|exact HB.out|apply ba_|apply pN_|apply b1_|refine bs_ ?_ GE143.out)|exact HB.out)⟩⟩
                        replace c43 := Bool.eq_false_iff.mpr c43; subst c43; have H1 : (logjamref25_Check.l2 k5 true (decide ((rd (rd_L1 l0_1 x6_3) x7_5) > (rd (rd_L1 l0_2 x6_3) x7_5))) x6_3 (wrap64 (x7_5 + 1)) l0_0 l0_1 l0_2) = some r := by rw [if_neg (show ¬ (false = true) by decide)] at H; exact H
                        clear H; have H := H1; clear H1; have H' := A0_ H; clear H; obtain ⟨hcz45_0, hcz45_1, hcz45_2, hfz45_0, hfz45_1, hfz45_2⟩ := cz3_ (w := wr) BK143.out; have p148 : 0 ≤ (x6_3 : Int) := of_decide_eq_true (by first|(with_reducible assumption)|assumption); have q148 : x6_3 < (l0_1.length : Int) := of_decide_eq_true (by first|(with_reducible assumption)|assumption); obtain ⟨ad148, A148_0, c148_0, e148, hx148_0, hl148_0, hi148_0⟩ := at_L1 HR0_1.out x6_3 p148 q148; cases e148; replace hx148_0 := (HB.out.cell (bl_ w _ hx148_0)).trans hx148_0; have HR148_0 := A0_ hi148_0; have HC148_0 := A0_ hl148_0; clear hi148_0 hl148_0; replace p148 := eq_true p148; replace q148 := eq_true q148; have p149 : 0 ≤ (x7_5 : Int) := of_decide_eq_true (by first|(with_reducible assumption)|assumption); have q149 : x7_5 < ((rd_L1 l0_1 x6_3).length : Int) := of_decide_eq_true (by first|(with_reducible assumption)|assumption); obtain ⟨ad149, e149, hx149_0⟩ := Kd.at_int HR148_0.out x7_5 p149 q149; cases e149; replace hx149_0 := (HB.out.cell (bl_ w _ hx149_0)).trans hx149_0; replace p149 := eq_true p149; replace q149 := eq_true q149; have p150 : 0 ≤ (x6_3 : Int) := of_decide_eq_true (by first|(with_reducible assumption)|assumption); have q150 : x6_3 < (l0_2.length : Int) := of_decide_eq_true (by first|(with_reducible assumption)|assumption); obtain ⟨ad150, A150_0, c150_0, e150, hx150_0, hl150_0, hi150_0⟩ := at_L1 HR0_2.out x6_3 p150 q150; cases e150; replace hx150_0 := (HB.out.cell (bl_ w _ hx150_0)).trans hx150_0; have HR150_0 := A0_ hi150_0; have HC150_0 := A0_ hl150_0; clear hi150_0 hl150_0; replace p150 := eq_true p150; replace q150 := eq_true q150; have p151 : 0 ≤ (x7_5 : Int) := of_decide_eq_true (by first|(with_reducible assumption)|assumption); have q151 : x7_5 < ((rd_L1 l0_2 x6_3).length : Int) := of_decide_eq_true (by first|(with_reducible assumption)|assumption); obtain ⟨ad151, e151, hx151_0⟩ := Kd.at_int HR150_0.out x7_5 p151 q151; cases e151; replace hx151_0 := (HB.out.cell (bl_ w _ hx151_0)).trans hx151_0; replace p151 := eq_true p151; replace q151 := eq_true q151; go_wp2
                        repeat (go_quiet (fail); try go_wp2)
                        go_roundg k5
                        case measure => have := HJ1.out; have := HK2.out; have := HK3.out; have := HJ18.out; have := HK5.out; omega
                        case rel => exact ⟨(true), (decide ((rd (rd_L1 l0_1 x6_3) x7_5) > (rd (rd_L1 l0_2 x6_3) x7_5))), (wrap64 (x7_5 + 1)), (by first|rfl|(simp; done)|(simp [*]; done)), (by first|rfl|(simp; done)|(simp [*]; done)), (by first|rfl|(simp; done)|(simp [*]; done)), H', ⟨by have := HJ1.out; have := HK2.out; have := HK3.out; have := HJ18.out; have := HK5.out; omega⟩, ⟨by (with_reducible repeat first|refine bN_ ?_ _|refine bD_ ?_|refine bA_ ?_ _); exact BK143.out⟩, ⟨by repeat (first|(with_reducible first|exact HB.out|apply ba_|apply pN_|apply b1_|refine bs_ ?_ GE143.out)|exact HB.out)⟩⟩
                      rw [if_neg c42] at H; have c42b0 : decide (1000 < (rd (rd_L1 l0_1 x6_3) x7_5)) = false := decide_eq_false c42; clear c42; by_cases c46 : (rd (rd_L1 l0_2 x6_3) x7_5) < 0
                      · rw [if_pos c46] at H
                        have c46b0 : decide ((rd (rd_L1 l0_2 x6_3) x7_5) < 0) = true := decide_eq_true c46; clear c46; by_cases c47 : x4_5 = true
                        · subst c47
                          have H1 : (logjamref25_Check.l2 k5 true true x6_3 (wrap64 (x7_5 + 1)) l0_0 l0_1 l0_2) = some r := by rw [if_pos rfl] at H; exact H
                          clear H; have H := H1; clear H1; have H' := A0_ H; clear H; obtain ⟨hcz48_0, hcz48_1, hcz48_2, hfz48_0, hfz48_1, hfz48_2⟩ := cz3_ (w := wr) BK143.out; have p148 : 0 ≤ (x6_3 : Int) := of_decide_eq_true (by first|(with_reducible assumption)|assumption); have q148 : x6_3 < (l0_1.length : Int) := of_decide_eq_true (by first|(with_reducible assumption)|assumption); obtain ⟨ad148, A148_0, c148_0, e148, hx148_0, hl148_0, hi148_0⟩ := at_L1 HR0_1.out x6_3 p148 q148; cases e148; replace hx148_0 := (HB.out.cell (bl_ w _ hx148_0)).trans hx148_0; have HR148_0 := A0_ hi148_0; have HC148_0 := A0_ hl148_0; clear hi148_0 hl148_0; replace p148 := eq_true p148; replace q148 := eq_true q148; have p149 : 0 ≤ (x7_5 : Int) := of_decide_eq_true (by first|(with_reducible assumption)|assumption); have q149 : x7_5 < ((rd_L1 l0_1 x6_3).length : Int) := of_decide_eq_true (by first|(with_reducible assumption)|assumption); obtain ⟨ad149, e149, hx149_0⟩ := Kd.at_int HR148_0.out x7_5 p149 q149; cases e149; replace hx149_0 := (HB.out.cell (bl_ w _ hx149_0)).trans hx149_0; replace p149 := eq_true p149; replace q149 := eq_true q149; have p150 : 0 ≤ (x6_3 : Int) := of_decide_eq_true (by first|(with_reducible assumption)|assumption); have q150 : x6_3 < (l0_2.length : Int) := of_decide_eq_true (by first|(with_reducible assumption)|assumption); obtain ⟨ad150, A150_0, c150_0, e150, hx150_0, hl150_0, hi150_0⟩ := at_L1 HR0_2.out x6_3 p150 q150; cases e150; replace hx150_0 := (HB.out.cell (bl_ w _ hx150_0)).trans hx150_0; have HR150_0 := A0_ hi150_0; have HC150_0 := A0_ hl150_0; clear hi150_0 hl150_0; replace p150 := eq_true p150; replace q150 := eq_true q150; have p151 : 0 ≤ (x7_5 : Int) := of_decide_eq_true (by first|(with_reducible assumption)|assumption); have q151 : x7_5 < ((rd_L1 l0_2 x6_3).length : Int) := of_decide_eq_true (by first|(with_reducible assumption)|assumption); obtain ⟨ad151, e151, hx151_0⟩ := Kd.at_int HR150_0.out x7_5 p151 q151; cases e151; replace hx151_0 := (HB.out.cell (bl_ w _ hx151_0)).trans hx151_0; replace p151 := eq_true p151; replace q151 := eq_true q151; go_wp2
                          repeat (go_quiet (fail); try go_wp2)
                          go_roundg k5
                          case measure => have := HJ1.out; have := HK2.out; have := HK3.out; have := HJ18.out; have := HK5.out; omega
                          case rel => exact ⟨(true), (true), (wrap64 (x7_5 + 1)), (by first|rfl|(simp; done)|(simp [*]; done)), (by first|rfl|(simp; done)|(simp [*]; done)), (by first|rfl|(simp; done)|(simp [*]; done)), H', ⟨by have := HJ1.out; have := HK2.out; have := HK3.out; have := HJ18.out; have := HK5.out; omega⟩, ⟨by (with_reducible repeat first|refine bN_ ?_ _|refine bD_ ?_|refine bA_ ?_ _); exact BK143.out⟩, ⟨by repeat (first|(with_reducible first|exact HB.out|apply ba_|apply pN_|apply b1_|refine bs_ ?_ GE143.out)|exact HB.out)⟩⟩
                        replace c47 := Bool.eq_false_iff.mpr c47; subst c47; have H1 : (logjamref25_Check.l2 k5 true (decide ((rd (rd_L1 l0_1 x6_3) x7_5) > (rd (rd_L1 l0_2 x6_3) x7_5))) x6_3 (wrap64 (x7_5 + 1)) l0_0 l0_1 l0_2) = some r := by rw [if_neg (show ¬ (false = true) by decide)] at H; exact H
                        clear H; have H := H1; clear H1; have H' := A0_ H; clear H; obtain ⟨hcz49_0, hcz49_1, hcz49_2, hfz49_0, hfz49_1, hfz49_2⟩ := cz3_ (w := wr) BK143.out; have p148 : 0 ≤ (x6_3 : Int) := of_decide_eq_true (by first|(with_reducible assumption)|assumption); have q148 : x6_3 < (l0_1.length : Int) := of_decide_eq_true (by first|(with_reducible assumption)|assumption); obtain ⟨ad148, A148_0, c148_0, e148, hx148_0, hl148_0, hi148_0⟩ := at_L1 HR0_1.out x6_3 p148 q148; cases e148; replace hx148_0 := (HB.out.cell (bl_ w _ hx148_0)).trans hx148_0; have HR148_0 := A0_ hi148_0; have HC148_0 := A0_ hl148_0; clear hi148_0 hl148_0; replace p148 := eq_true p148; replace q148 := eq_true q148; have p149 : 0 ≤ (x7_5 : Int) := of_decide_eq_true (by first|(with_reducible assumption)|assumption); have q149 : x7_5 < ((rd_L1 l0_1 x6_3).length : Int) := of_decide_eq_true (by first|(with_reducible assumption)|assumption); obtain ⟨ad149, e149, hx149_0⟩ := Kd.at_int HR148_0.out x7_5 p149 q149; cases e149; replace hx149_0 := (HB.out.cell (bl_ w _ hx149_0)).trans hx149_0; replace p149 := eq_true p149; replace q149 := eq_true q149; have p150 : 0 ≤ (x6_3 : Int) := of_decide_eq_true (by first|(with_reducible assumption)|assumption); have q150 : x6_3 < (l0_2.length : Int) := of_decide_eq_true (by first|(with_reducible assumption)|assumption); obtain ⟨ad150, A150_0, c150_0, e150, hx150_0, hl150_0, hi150_0⟩ := at_L1 HR0_2.out x6_3 p150 q150; cases e150; replace hx150_0 := (HB.out.cell (bl_ w _ hx150_0)).trans hx150_0; have HR150_0 := A0_ hi150_0; have HC150_0 := A0_ hl150_0; clear hi150_0 hl150_0; replace p150 := eq_true p150; replace q150 := eq_true q150; have p151 : 0 ≤ (x7_5 : Int) := of_decide_eq_true (by first|(with_reducible assumption)|assumption); have q151 : x7_5 < ((rd_L1 l0_2 x6_3).length : Int) := of_decide_eq_true (by first|(with_reducible assumption)|assumption); obtain ⟨ad151, e151, hx151_0⟩ := Kd.at_int HR150_0.out x7_5 p151 q151; cases e151; replace hx151_0 := (HB.out.cell (bl_ w _ hx151_0)).trans hx151_0; replace p151 := eq_true p151; replace q151 := eq_true q151; go_wp2
                        repeat (go_quiet (fail); try go_wp2)
                        go_roundg k5
                        case measure => have := HJ1.out; have := HK2.out; have := HK3.out; have := HJ18.out; have := HK5.out; omega
                        case rel => exact ⟨(true), (decide ((rd (rd_L1 l0_1 x6_3) x7_5) > (rd (rd_L1 l0_2 x6_3) x7_5))), (wrap64 (x7_5 + 1)), (by first|rfl|(simp; done)|(simp [*]; done)), (by first|rfl|(simp; done)|(simp [*]; done)), (by first|rfl|(simp; done)|(simp [*]; done)), H', ⟨by have := HJ1.out; have := HK2.out; have := HK3.out; have := HJ18.out; have := HK5.out; omega⟩, ⟨by (with_reducible repeat first|refine bN_ ?_ _|refine bD_ ?_|refine bA_ ?_ _); exact BK143.out⟩, ⟨by repeat (first|(with_reducible first|exact HB.out|apply ba_|apply pN_|apply b1_|refine bs_ ?_ GE143.out)|exact HB.out)⟩⟩
                      rw [if_neg c46] at H; have c46b0 : decide ((rd (rd_L1 l0_2 x6_3) x7_5) < 0) = false := decide_eq_false c46; clear c46; by_cases c50 : x4_5 = true
                      · subst c50
                        have H1 : (logjamref25_Check.l2 k5 (decide ((rd (rd_L1 l0_2 x6_3) x7_5) > 1000)) true x6_3 (wrap64 (x7_5 + 1)) l0_0 l0_1 l0_2) = some r := by rw [if_pos rfl] at H; exact H
                        clear H; have H := H1; clear H1; have H' := A0_ H; clear H; obtain ⟨hcz51_0, hcz51_1, hcz51_2, hfz51_0, hfz51_1, hfz51_2⟩ := cz3_ (w := wr) BK143.out; have p148 : 0 ≤ (x6_3 : Int) := of_decide_eq_true (by first|(with_reducible assumption)|assumption); have q148 : x6_3 < (l0_1.length : Int) := of_decide_eq_true (by first|(with_reducible assumption)|assumption); obtain ⟨ad148, A148_0, c148_0, e148, hx148_0, hl148_0, hi148_0⟩ := at_L1 HR0_1.out x6_3 p148 q148; cases e148; replace hx148_0 := (HB.out.cell (bl_ w _ hx148_0)).trans hx148_0; have HR148_0 := A0_ hi148_0; have HC148_0 := A0_ hl148_0; clear hi148_0 hl148_0; replace p148 := eq_true p148; replace q148 := eq_true q148; have p149 : 0 ≤ (x7_5 : Int) := of_decide_eq_true (by first|(with_reducible assumption)|assumption); have q149 : x7_5 < ((rd_L1 l0_1 x6_3).length : Int) := of_decide_eq_true (by first|(with_reducible assumption)|assumption); obtain ⟨ad149, e149, hx149_0⟩ := Kd.at_int HR148_0.out x7_5 p149 q149; cases e149; replace hx149_0 := (HB.out.cell (bl_ w _ hx149_0)).trans hx149_0; replace p149 := eq_true p149; replace q149 := eq_true q149; have p150 : 0 ≤ (x6_3 : Int) := of_decide_eq_true (by first|(with_reducible assumption)|assumption); have q150 : x6_3 < (l0_2.length : Int) := of_decide_eq_true (by first|(with_reducible assumption)|assumption); obtain ⟨ad150, A150_0, c150_0, e150, hx150_0, hl150_0, hi150_0⟩ := at_L1 HR0_2.out x6_3 p150 q150; cases e150; replace hx150_0 := (HB.out.cell (bl_ w _ hx150_0)).trans hx150_0; have HR150_0 := A0_ hi150_0; have HC150_0 := A0_ hl150_0; clear hi150_0 hl150_0; replace p150 := eq_true p150; replace q150 := eq_true q150; have p151 : 0 ≤ (x7_5 : Int) := of_decide_eq_true (by first|(with_reducible assumption)|assumption); have q151 : x7_5 < ((rd_L1 l0_2 x6_3).length : Int) := of_decide_eq_true (by first|(with_reducible assumption)|assumption); obtain ⟨ad151, e151, hx151_0⟩ := Kd.at_int HR150_0.out x7_5 p151 q151; cases e151; replace hx151_0 := (HB.out.cell (bl_ w _ hx151_0)).trans hx151_0; replace p151 := eq_true p151; replace q151 := eq_true q151; go_wp2
                        repeat (go_quiet (fail); try go_wp2)
                        go_roundg k5
                        case measure => have := HJ1.out; have := HK2.out; have := HK3.out; have := HJ18.out; have := HK5.out; omega
                        case rel => exact ⟨(decide ((rd (rd_L1 l0_2 x6_3) x7_5) > 1000)), (true), (wrap64 (x7_5 + 1)), (by first|rfl|(simp; done)|(simp [*]; done)), (by first|rfl|(simp; done)|(simp [*]; done)), (by first|rfl|(simp; done)|(simp [*]; done)), H', ⟨by have := HJ1.out; have := HK2.out; have := HK3.out; have := HJ18.out; have := HK5.out; omega⟩, ⟨by (with_reducible repeat first|refine bN_ ?_ _|refine bD_ ?_|refine bA_ ?_ _); exact BK143.out⟩, ⟨by repeat (first|(with_reducible first|exact HB.out|apply ba_|apply pN_|apply b1_|refine bs_ ?_ GE143.out)|exact HB.out)⟩⟩
                      replace c50 := Bool.eq_false_iff.mpr c50; subst c50; have H1 : (logjamref25_Check.l2 k5 (decide ((rd (rd_L1 l0_2 x6_3) x7_5) > 1000)) (decide ((rd (rd_L1 l0_1 x6_3) x7_5) > (rd (rd_L1 l0_2 x6_3) x7_5))) x6_3 (wrap64 (x7_5 + 1)) l0_0 l0_1 l0_2) = some r := by rw [if_neg (show ¬ (false = true) by decide)] at H; exact H
                      clear H; have H := H1; clear H1; have H' := A0_ H; clear H; obtain ⟨hcz52_0, hcz52_1, hcz52_2, hfz52_0, hfz52_1, hfz52_2⟩ := cz3_ (w := wr) BK143.out; have p148 : 0 ≤ (x6_3 : Int) := of_decide_eq_true (by first|(with_reducible assumption)|assumption); have q148 : x6_3 < (l0_1.length : Int) := of_decide_eq_true (by first|(with_reducible assumption)|assumption); obtain ⟨ad148, A148_0, c148_0, e148, hx148_0, hl148_0, hi148_0⟩ := at_L1 HR0_1.out x6_3 p148 q148; cases e148; replace hx148_0 := (HB.out.cell (bl_ w _ hx148_0)).trans hx148_0; have HR148_0 := A0_ hi148_0; have HC148_0 := A0_ hl148_0; clear hi148_0 hl148_0; replace p148 := eq_true p148; replace q148 := eq_true q148; have p149 : 0 ≤ (x7_5 : Int) := of_decide_eq_true (by first|(with_reducible assumption)|assumption); have q149 : x7_5 < ((rd_L1 l0_1 x6_3).length : Int) := of_decide_eq_true (by first|(with_reducible assumption)|assumption); obtain ⟨ad149, e149, hx149_0⟩ := Kd.at_int HR148_0.out x7_5 p149 q149; cases e149; replace hx149_0 := (HB.out.cell (bl_ w _ hx149_0)).trans hx149_0; replace p149 := eq_true p149; replace q149 := eq_true q149; have p150 : 0 ≤ (x6_3 : Int) := of_decide_eq_true (by first|(with_reducible assumption)|assumption); have q150 : x6_3 < (l0_2.length : Int) := of_decide_eq_true (by first|(with_reducible assumption)|assumption); obtain ⟨ad150, A150_0, c150_0, e150, hx150_0, hl150_0, hi150_0⟩ := at_L1 HR0_2.out x6_3 p150 q150; cases e150; replace hx150_0 := (HB.out.cell (bl_ w _ hx150_0)).trans hx150_0; have HR150_0 := A0_ hi150_0; have HC150_0 := A0_ hl150_0; clear hi150_0 hl150_0; replace p150 := eq_true p150; replace q150 := eq_true q150; have p151 : 0 ≤ (x7_5 : Int) := of_decide_eq_true (by first|(with_reducible assumption)|assumption); have q151 : x7_5 < ((rd_L1 l0_2 x6_3).length : Int) := of_decide_eq_true (by first|(with_reducible assumption)|assumption); obtain ⟨ad151, e151, hx151_0⟩ := Kd.at_int HR150_0.out x7_5 p151 q151; cases e151; replace hx151_0 := (HB.out.cell (bl_ w _ hx151_0)).trans hx151_0; replace p151 := eq_true p151; replace q151 := eq_true q151; go_wp2
                      repeat (go_quiet (fail); try go_wp2)
                      go_roundg k5
                      case measure => have := HJ1.out; have := HK2.out; have := HK3.out; have := HJ18.out; have := HK5.out; omega
                      case rel => exact ⟨(decide ((rd (rd_L1 l0_2 x6_3) x7_5) > 1000)), (decide ((rd (rd_L1 l0_1 x6_3) x7_5) > (rd (rd_L1 l0_2 x6_3) x7_5))), (wrap64 (x7_5 + 1)), (by first|rfl|(simp; done)|(simp [*]; done)), (by first|rfl|(simp; done)|(simp [*]; done)), (by first|rfl|(simp; done)|(simp [*]; done)), H', ⟨by have := HJ1.out; have := HK2.out; have := HK3.out; have := HJ18.out; have := HK5.out; omega⟩, ⟨by (with_reducible repeat first|refine bN_ ?_ _|refine bD_ ?_|refine bA_ ?_ _); exact BK143.out⟩, ⟨by repeat (first|(with_reducible first|exact HB.out|apply ba_|apply pN_|apply b1_|refine bs_ ?_ GE143.out)|exact HB.out)⟩⟩
end Go.Proofs.Ytlggjacghemakaa.PClaimAny
