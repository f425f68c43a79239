/- Go functions as plain Lean functions, and that the calls come to them. Conditions: none. (Written by a program of this session.) -/
import Derived.Test.YtlggjacghemakaaPClaimAnyx0
import Derived.Test.YtlggjacghemakaaPClaimAnyx3
namespace Go.Proofs.Ytlggjacghemakaa.PClaimAny
open Go.RowKit Go.Proofs.YtlggjacghemakaaW.PrintWords Go.Proofs.YtlggjacghemakaaW.PrintLast Go.Proofs.YtlggjacghemakaaW.PrintMore
attribute [local go_sem] max2_int min2_int max_two min_two max_three min_three max_four min_four   -- for this text's walks alone
set_option linter.unusedVariables false
set_option linter.unusedSimpArgs false

/-! ### claim_Check: function 27 -/
mutual
def claim_Check.j0 : Nat → Int → Int → Bool → List Int → List (List Int) → List (List Int) → Option (Int)
  | 0, _, _, _, _, _, _ => none
  | k + 1, x3, x4, x29, x154000, x154001, x154002 => if x29 = true then (some 2) else (claim_Check.l0 k x3 x4 x3 0 x154000 x154001 x154002)
def claim_Check.l0 : Nat → Int → Int → Int → Int → List Int → List (List Int) → List (List Int) → Option (Int)
  | 0, _, _, _, _, _, _, _ => none
  | k + 1, x3, x4, x30, x31, x154000, x154001, x154002 => if x31 < x30 then (if 0 ≤ x31 then (if x31 < (x154001.length : Int) then (if ((rd_L1 x154001 x31).length : Int) = x4 then (if x31 < (x154002.length : Int) then (if ((rd_L1 x154002 x31).length : Int) = x4 then (claim_Check.l0 k x3 x4 x30 (wrap64 (x31 + 1)) x154000 x154001 x154002) else (some 2)) else (none)) else (some 2)) else (none)) else (none)) else ((claim_units.f k x154000).bind fun t156 => (claim_Check.l1 k x3 t156 x3 0 x154000 x154001 x154002))
def claim_Check.l1 : Nat → Int → Bool → Int → Int → List Int → List (List Int) → List (List Int) → Option (Int)
  | 0, _, _, _, _, _, _, _ => none
  | k + 1, x3, x6, x56, x57, x154000, x154001, x154002 => if x57 < x56 then (if x6 = true then (if 0 ≤ x57 then (if x57 < (x154001.length : Int) then ((claim_units.f k (rd_L1 x154001 x57)).bind fun t158 => (if t158 = true then (if x57 < (x154002.length : Int) then ((claim_units.f k (rd_L1 x154002 x57)).bind fun t160 => (claim_Check.l1 k x3 t160 x56 (wrap64 (x57 + 1)) x154000 x154001 x154002)) else (none)) else (claim_Check.l1 k x3 false x56 (wrap64 (x57 + 1)) x154000 x154001 x154002))) else (none)) else (none)) else (claim_Check.l1 k x3 false x56 (wrap64 (x57 + 1)) x154000 x154001 x154002)) else (if x6 = true then (claim_Check.l2 k x3 0 x154000 x154001 x154002) else (some 1))
def claim_Check.l2 : Nat → Int → Int → List Int → List (List Int) → List (List Int) → Option (Int)
  | 0, _, _, _, _, _ => none
  | k + 1, x80, x81, x154000, x154001, x154002 => if x81 < x80 then (if 0 ≤ x81 then (if x81 < (x154001.length : Int) then (claim_Check.l3 k x81 x80 x81 (rd_L1 x154001 x81) ((rd_L1 x154001 x81).length : Int) 0 x154000 x154001 x154002) else (none)) else (none)) else (some 0)
def claim_Check.l3 : Nat → Int → Int → Int → List Int → Int → Int → List Int → List (List Int) → List (List Int) → Option (Int)
  | 0, _, _, _, _, _, _, _, _, _ => none
  | k + 1, x8, x80, x81, x88, x89, x90, x154000, x154001, x154002 => if x90 < x89 then (if 0 ≤ x90 then (if x90 < (x88.length : Int) then (if 0 ≤ x8 then (if x8 < (x154002.length : Int) then (if x90 < ((rd_L1 x154002 x8).length : Int) then (if (rd x88 x90) > (rd (rd_L1 x154002 x8) x90) then (some 17) else (claim_Check.l3 k x8 x80 x81 x88 x89 (wrap64 (x90 + 1)) x154000 x154001 x154002)) else (none)) else (none)) else (none)) else (none)) else (none)) else (claim_Check.l2 k x80 (wrap64 (x81 + 1)) x154000 x154001 x154002)
end
def claim_Check.f (k : Nat) (l0_0 : List Int) (l0_1 : List (List Int)) (l0_2 : List (List Int)) : Option (Int) := if (l0_1.length : Int) = (l0_2.length : Int) then (if (l0_1.length : Int) > 64 then (claim_Check.j0 k (l0_1.length : Int) (l0_0.length : Int) true l0_0 l0_1 l0_2) else (claim_Check.j0 k (l0_1.length : Int) (l0_0.length : Int) (decide ((l0_0.length : Int) > 32)) l0_0 l0_1 l0_2)) else (claim_Check.j0 k (l0_1.length : Int) (l0_0.length : Int) true l0_0 l0_1 l0_2)
theorem claim_Check.mono_l : ∀ k, (∀ y0 y1 y2 y3 y4 y5, LeO (claim_Check.j0 k y0 y1 y2 y3 y4 y5) (claim_Check.j0 (k + 1) y0 y1 y2 y3 y4 y5)) ∧ (∀ y0 y1 y2 y3 y4 y5 y6, LeO (claim_Check.l0 k y0 y1 y2 y3 y4 y5 y6) (claim_Check.l0 (k + 1) y0 y1 y2 y3 y4 y5 y6)) ∧ (∀ y0 y1 y2 y3 y4 y5 y6, LeO (claim_Check.l1 k y0 y1 y2 y3 y4 y5 y6) (claim_Check.l1 (k + 1) y0 y1 y2 y3 y4 y5 y6)) ∧ (∀ y0 y1 y2 y3 y4, LeO (claim_Check.l2 k y0 y1 y2 y3 y4) (claim_Check.l2 (k + 1) y0 y1 y2 y3 y4)) ∧ (∀ y0 y1 y2 y3 y4 y5 y6 y7 y8, LeO (claim_Check.l3 k y0 y1 y2 y3 y4 y5 y6 y7 y8) (claim_Check.l3 (k + 1) y0 y1 y2 y3 y4 y5 y6 y7 y8))
  | 0 => ⟨fun _ _ _ _ _ _ r h => by simp [claim_Check.j0] at h, fun _ _ _ _ _ _ _ r h => by simp [claim_Check.l0] at h, fun _ _ _ _ _ _ _ r h => by simp [claim_Check.l1] at h, fun _ _ _ _ _ r h => by simp [claim_Check.l2] at h, fun _ _ _ _ _ _ _ _ _ r h => by simp [claim_Check.l3] at h⟩
  | k + 1 => by
    obtain ⟨ih0, ih1, ih2, ih3, ih4⟩ := claim_Check.mono_l k; refine ⟨?_, ?_, ?_, ?_, ?_⟩
    · intro y0 y1 y2 y3 y4 y5
      unfold claim_Check.j0
      repeat' first
      | (with_reducible exact ih0 _ _ _ _ _ _)
      | (with_reducible exact ih1 _ _ _ _ _ _ _)
      | (with_reducible exact ih2 _ _ _ _ _ _ _)
      | (with_reducible exact ih3 _ _ _ _ _)
      | (with_reducible exact ih4 _ _ _ _ _ _ _ _ _)
      | (with_reducible exact claim_units.mono _ _)
      | (with_reducible exact LeO.refl _)
      | (with_reducible exact LeO.none _)
      | (with_reducible refine LeO.ite ?_ ?_)
      | (with_reducible refine LeO.bind ?_ (fun _ => ?_))
      | exact ih0 _ _ _ _ _ _
      | exact ih1 _ _ _ _ _ _ _
      | exact ih2 _ _ _ _ _ _ _
      | exact ih3 _ _ _ _ _
      | exact ih4 _ _ _ _ _ _ _ _ _
      | exact claim_units.mono _ _
      | exact LeO.none _
      | refine LeO.ite ?_ ?_
      | refine LeO.bind ?_ (fun _ => ?_)
    · intro y0 y1 y2 y3 y4 y5 y6
      unfold claim_Check.l0
      repeat' first
      | (with_reducible exact ih0 _ _ _ _ _ _)
      | (with_reducible exact ih1 _ _ _ _ _ _ _)
      | (with_reducible exact ih2 _ _ _ _ _ _ _)
      | (with_reducible exact ih3 _ _ _ _ _)
      | (with_reducible exact ih4 _ _ _ _ _ _ _ _ _)
      | (with_reducible exact claim_units.mono _ _)
      | (with_reducible exact LeO.refl _)
      | (with_reducible exact LeO.none _)
      | (with_reducible refine LeO.ite ?_ ?_)
      | (with_reducible refine LeO.bind ?_ (fun _ => ?_))
      | exact ih0 _ _ _ _ _ _
      | exact ih1 _ _ _ _ _ _ _
      | exact ih2 _ _ _ _ _ _ _
      | exact ih3 _ _ _ _ _
      | exact ih4 _ _ _ _ _ _ _ _ _
      | exact claim_units.mono _ _
      | exact LeO.none _
      | refine LeO.ite ?_ ?_
      | refine LeO.bind ?_ (fun _ => ?_)
    · intro y0 y1 y2 y3 y4 y5 y6
      unfold claim_Check.l1
      repeat' first
      | (with_reducible exact ih0 _ _ _ _ _ _)
      | (with_reducible exact ih1 _ _ _ _ _ _ _)
      | (with_reducible exact ih2 _ _ _ _ _ _ _)
      | (with_reducible exact ih3 _ _ _ _ _)
      | (with_reducible exact ih4 _ _ _ _ _ _ _ _ _)
      | (with_reducible exact claim_units.mono _ _)
      | (with_reducible exact LeO.refl _)
      | (with_reducible exact LeO.none _)
      | (with_reducible refine LeO.ite ?_ ?_)
      | (with_reducible refine LeO.bind ?_ (fun _ => ?_))
      | exact ih0 _ _ _ _ _ _
      | exact ih1 _ _ _ _ _ _ _
      | exact ih2 _ _ _ _ _ _ _
      | exact ih3 _ _ _ _ _
      | exact ih4 _ _ _ _ _ _ _ _ _
      | exact claim_units.mono _ _
      | exact LeO.none _
      | refine LeO.ite ?_ ?_
      | refine LeO.bind ?_ (fun _ => ?_)
    · intro y0 y1 y2 y3 y4
      unfold claim_Check.l2
      repeat' first
      | (with_reducible exact ih0 _ _ _ _ _ _)
      | (with_reducible exact ih1 _ _ _ _ _ _ _)
      | (with_reducible exact ih2 _ _ _ _ _ _ _)
      | (with_reducible exact ih3 _ _ _ _ _)
      | (with_reducible exact ih4 _ _ _ _ _ _ _ _ _)
      | (with_reducible exact claim_units.mono _ _)
      | (with_reducible exact LeO.refl _)
      | (with_reducible exact LeO.none _)
      | (with_reducible refine LeO.ite ?_ ?_)
      | (with_reducible refine LeO.bind ?_ (fun _ => ?_))
      | exact ih0 _ _ _ _ _ _
      | exact ih1 _ _ _ _ _ _ _
      | exact ih2 _ _ _ _ _ _ _
      | exact ih3 _ _ _ _ _
      | exact ih4 _ _ _ _ _ _ _ _ _
      | exact claim_units.mono _ _
      | exact LeO.none _
      | refine LeO.ite ?_ ?_
      | refine LeO.bind ?_ (fun _ => ?_)
    · intro y0 y1 y2 y3 y4 y5 y6 y7 y8
      unfold claim_Check.l3
      repeat' first
      | (with_reducible exact ih0 _ _ _ _ _ _)
      | (with_reducible exact ih1 _ _ _ _ _ _ _)
      | (with_reducible exact ih2 _ _ _ _ _ _ _)
      | (with_reducible exact ih3 _ _ _ _ _)
      | (with_reducible exact ih4 _ _ _ _ _ _ _ _ _)
      | (with_reducible exact claim_units.mono _ _)
      | (with_reducible exact LeO.refl _)
      | (with_reducible exact LeO.none _)
      | (with_reducible refine LeO.ite ?_ ?_)
      | (with_reducible refine LeO.bind ?_ (fun _ => ?_))
      | exact ih0 _ _ _ _ _ _
      | exact ih1 _ _ _ _ _ _ _
      | exact ih2 _ _ _ _ _ _ _
      | exact ih3 _ _ _ _ _
      | exact ih4 _ _ _ _ _ _ _ _ _
      | exact claim_units.mono _ _
      | exact LeO.none _
      | refine LeO.ite ?_ ?_
      | refine LeO.bind ?_ (fun _ => ?_)
theorem claim_Check.mono : ∀ a0 a1 a2 k, LeO (claim_Check.f k a0 a1 a2) (claim_Check.f (k + 1) a0 a1 a2) := by
  intro a0 a1 a2 k
  obtain ⟨ih0, ih1, ih2, ih3, ih4⟩ := claim_Check.mono_l k; unfold claim_Check.f
  repeat' first
      | (with_reducible exact ih0 _ _ _ _ _ _)
      | (with_reducible exact ih1 _ _ _ _ _ _ _)
      | (with_reducible exact ih2 _ _ _ _ _ _ _)
      | (with_reducible exact ih3 _ _ _ _ _)
      | (with_reducible exact ih4 _ _ _ _ _ _ _ _ _)
      | (with_reducible exact claim_units.mono _ _)
      | (with_reducible exact LeO.refl _)
      | (with_reducible exact LeO.none _)
      | (with_reducible refine LeO.ite ?_ ?_)
      | (with_reducible refine LeO.bind ?_ (fun _ => ?_))
      | exact ih0 _ _ _ _ _ _
      | exact ih1 _ _ _ _ _ _ _
      | exact ih2 _ _ _ _ _ _ _
      | exact ih3 _ _ _ _ _
      | exact ih4 _ _ _ _ _ _ _ _ _
      | exact claim_units.mono _ _
      | exact LeO.none _
      | refine LeO.ite ?_ ?_
      | refine LeO.bind ?_ (fun _ => ?_)
set_option maxHeartbeats 8000000 in
set_option maxRecDepth 100000 in
theorem claim_Check.calls (k : Nat) (A0_0 : Option Addr) (c0_0 : Nat) (l0_0 : List Int) (A0_1 : Option Addr) (c0_1 : Nat) (l0_1 : List (List Int)) (A0_2 : Option Addr) (c0_2 : Nat) (l0_2 : List (List Int)) (r : Int) (w : World) (hr0_0 : Kd.C (Kd.int .i64) w A0_0 l0_0.length l0_0) (hc0_0 : l0_0.length ≤ c0_0) (hr0_1 : Kd.C (Kd.slice 3 (Kd.int .i64)) w A0_1 l0_1.length l0_1) (hc0_1 : l0_1.length ≤ c0_1) (hr0_2 : Kd.C (Kd.slice 3 (Kd.int .i64)) w A0_2 l0_2.length l0_2) (hc0_2 : l0_2.length ≤ c0_2) (h : claim_Check.f k l0_0 l0_1 l0_2 = some r) :
    Calls Try.prog 27 #[.agg #[.slice A0_0 l0_0.length c0_0, .slice A0_1 l0_1.length c0_1, .slice A0_2 l0_2.length c0_2]] w fun e w' => e = .returned (.int .i64 r) ∧ Below w.heap.size w w' := by
  have hu60 := Try.underlying60; have HR0_0 := A0_ hr0_0; have HC0_0 := A0_ hc0_0; clear hr0_0 hc0_0; have HR0_1 := A0_ hr0_1; have HC0_1 := A0_ hc0_1; clear hr0_1 hc0_1; have HR0_2 := A0_ hr0_2; have HC0_2 := A0_ hc0_2; clear hr0_2 hc0_2; have HB := A0_ (Below.refl w.heap.size w); have H : (if (l0_1.length : Int) = (l0_2.length : Int) then (if (l0_1.length : Int) > 64 then (claim_Check.j0 k (l0_1.length : Int) (l0_0.length : Int) true l0_0 l0_1 l0_2) else (claim_Check.j0 k (l0_1.length : Int) (l0_0.length : Int) (decide ((l0_0.length : Int) > 32)) l0_0 l0_1 l0_2)) else (claim_Check.j0 k (l0_1.length : Int) (l0_0.length : Int) true l0_0 l0_1 l0_2)) = some r := h; clear h; have HC2 := A0_ H; clear H; go_enter Try.func27, Try.ntmps27
  go_upto_region 2 with (first|((with_reducible refine gate_dst (N := 1) rfl ?_); (try (refine gate_guard (by rfl) ?_; dsimp only)); refine box_event ?hg (N := 1) ?hd (cs := #[.slice A0_0 l0_0.length c0_0, .slice A0_1 l0_1.length c0_1, .slice A0_2 l0_2.length c0_2]) (t := 60) ?hr ?_; (case hd => rfl); (case hg => rfl); (case hr => first|(go_simp; done)|(go_simp; rfl)); intro gb153 hg w3 hbox hb; have n0_ := A0_ (below_step (by repeat (first|(with_reducible first|exact HB.out|apply ba_|apply pN_|apply b1_)|exact HB.out)) hb); have n1_ := A0_ (hbox); have n2_ := A0_ ((by rw [hg]; exact (below_size (by repeat (first|(with_reducible first|exact HB.out|apply ba_|apply pN_|apply b1_)|exact HB.out))) : w.heap.size ≤ gb153)); have n3_ := A0_ ((by rw [hg]; exact (below_size (by repeat (first|(with_reducible first|exact HB.out|apply ba_|apply pN_|apply b1_)|exact HB.out))) : w.heap.size ≤ gb153)); clear HB; have HB := n0_; have BK153 := n1_; have GW153 := n2_; have GE153 := n3_; clear n0_ n1_ n2_ n3_; clear hb hbox hg; obtain ⟨hcz4_0, hcz4_1, hcz4_2, hfz4_0, hfz4_1, hfz4_2⟩ := cz3_ (w := w3) BK153.out))
  repeat (go_quiet (first|((with_reducible refine gate_dst (N := 1) rfl ?_); (try (refine gate_guard (by rfl) ?_; dsimp only)); refine box_event ?hg (N := 1) ?hd (cs := #[.slice A0_0 l0_0.length c0_0, .slice A0_1 l0_1.length c0_1, .slice A0_2 l0_2.length c0_2]) (t := 60) ?hr ?_; (case hd => rfl); (case hg => rfl); (case hr => first|(go_simp; done)|(go_simp; rfl)); intro gb153 hg w3 hbox hb; have n0_ := A0_ (below_step (by repeat (first|(with_reducible first|exact HB.out|apply ba_|apply pN_|apply b1_)|exact HB.out)) hb); have n1_ := A0_ (hbox); have n2_ := A0_ ((by rw [hg]; exact (below_size (by repeat (first|(with_reducible first|exact HB.out|apply ba_|apply pN_|apply b1_)|exact HB.out))) : w.heap.size ≤ gb153)); have n3_ := A0_ ((by rw [hg]; exact (below_size (by repeat (first|(with_reducible first|exact HB.out|apply ba_|apply pN_|apply b1_)|exact HB.out))) : w.heap.size ≤ gb153)); clear HB; have HB := n0_; have BK153 := n1_; have GW153 := n2_; have GE153 := n3_; clear n0_ n1_ n2_ n3_; clear hb hbox hg; obtain ⟨hcz4_0, hcz4_1, hcz4_2, hfz4_0, hfz4_1, hfz4_2⟩ := cz3_ (w := w3) BK153.out)); go_upto_region 2 with (first|((with_reducible refine gate_dst (N := 1) rfl ?_); (try (refine gate_guard (by rfl) ?_; dsimp only)); refine box_event ?hg (N := 1) ?hd (cs := #[.slice A0_0 l0_0.length c0_0, .slice A0_1 l0_1.length c0_1, .slice A0_2 l0_2.length c0_2]) (t := 60) ?hr ?_; (case hd => rfl); (case hg => rfl); (case hr => first|(go_simp; done)|(go_simp; rfl)); intro gb153 hg w3 hbox hb; have n0_ := A0_ (below_step (by repeat (first|(with_reducible first|exact HB.out|apply ba_|apply pN_|apply b1_)|exact HB.out)) hb); have n1_ := A0_ (hbox); have n2_ := A0_ ((by rw [hg]; exact (below_size (by repeat (first|(with_reducible first|exact HB.out|apply ba_|apply pN_|apply b1_)|exact HB.out))) : w.heap.size ≤ gb153)); have n3_ := A0_ ((by rw [hg]; exact (below_size (by repeat (first|(with_reducible first|exact HB.out|apply ba_|apply pN_|apply b1_)|exact HB.out))) : w.heap.size ≤ gb153)); clear HB; have HB := n0_; have BK153 := n1_; have GW153 := n2_; have GE153 := n3_; clear n0_ n1_ n2_ n3_; clear hb hbox hg; obtain ⟨hcz4_0, hcz4_1, hcz4_2, hfz4_0, hfz4_1, hfz4_2⟩ := cz3_ (w := w3) BK153.out)))
  (try simp only [Act.put, sA_, sZ_, sS_])
  go_cut [29] (fun v29 wc => ∃ (kq : Nat) (x29_1 : Bool), v29 = .bool x29_1 ∧ Aside0 (claim_Check.j0 kq (l0_1.length : Int) (l0_0.length : Int) x29_1 l0_0 l0_1 l0_2 = some r) ∧ Aside0 (kq ≤ k) ∧ Aside0 (wc.heap[gb153]? = some (.cells #[(.slice A0_0 l0_0.length c0_0), (.slice A0_1 l0_1.length c0_1), (.slice A0_2 l0_2.length c0_2)] 60 (0, 0))) ∧ Aside0 (Below w.heap.size w wc))
  case first =>
    have H := HC2.out; clear HC2; by_cases c5 : (l0_1.length : Int) = (l0_2.length : Int); rotate_left
    · rw [if_neg c5] at H
      have c5b0 : ((l0_1.length : Int) == (l0_2.length : Int)) = false := beq_eq_false_iff_ne.mpr c5; have c5b1 : ((l0_1.length : Int) != (l0_2.length : Int)) = true := bne_iff_ne.mpr c5; have c5b2 : (l0_1.length == l0_2.length) = false := by first|simpa using c5|(simp at c5 ⊢; omega)
      (first|rw [c5b0]|(simp only [i64_w, i32_w]; rw [c5b0])|skip)
      have H' := A0_ H; clear H; obtain ⟨hcz9_0, hcz9_1, hcz9_2, hfz9_0, hfz9_1, hfz9_2⟩ := cz3_ (w := w3) BK153.out; go_wp2
      repeat (go_quiet (fail); try go_wp2)
      go_meet
      case rel => exact ⟨_, (true), (by first|rfl|(simp; done)|(simp [*]; done)), H', ⟨by first|omega|exact Nat.le_refl _⟩, ⟨by (with_reducible repeat first|refine bN_ ?_ _|refine bD_ ?_|refine bA_ ?_ _); exact BK153.out⟩, ⟨by repeat (first|(with_reducible first|exact HB.out|apply ba_|apply pN_|apply b1_|refine bs_ ?_ GE153.out)|exact HB.out)⟩⟩
    rw [if_pos c5] at H; have c5b0 : ((l0_1.length : Int) == (l0_2.length : Int)) = true := beq_iff_eq.mpr c5; have c5b1 : ((l0_1.length : Int) != (l0_2.length : Int)) = false := bne_eq_false_iff_eq.mpr c5; have c5b2 : (l0_1.length == l0_2.length) = true := by first|simpa using c5|(simp at c5 ⊢; omega)
    clear c5
    (first|rw [c5b0]|(simp only [i64_w, i32_w]; rw [c5b0])|skip)
    by_cases c6 : (l0_1.length : Int) > 64
    · rw [if_pos c6] at H
      have c6b0 : decide (64 < (l0_1.length : Int)) = true := decide_eq_true c6; have c6b1 : decide (64 < l0_1.length) = true := decide_eq_true (by omega); clear c6; have H' := A0_ H; clear H; obtain ⟨hcz7_0, hcz7_1, hcz7_2, hfz7_0, hfz7_1, hfz7_2⟩ := cz3_ (w := w3) BK153.out; go_wp2
      repeat (go_quiet (fail); try go_wp2)
      go_meet
      case rel => exact ⟨_, (true), (by first|rfl|(simp; done)|(simp [*]; done)), H', ⟨by first|omega|exact Nat.le_refl _⟩, ⟨by (with_reducible repeat first|refine bN_ ?_ _|refine bD_ ?_|refine bA_ ?_ _); exact BK153.out⟩, ⟨by repeat (first|(with_reducible first|exact HB.out|apply ba_|apply pN_|apply b1_|refine bs_ ?_ GE153.out)|exact HB.out)⟩⟩
    rw [if_neg c6] at H; have c6b0 : decide (64 < (l0_1.length : Int)) = false := decide_eq_false c6; have c6b1 : decide (64 < l0_1.length) = false := decide_eq_false (by omega); clear c6; have H' := A0_ H; clear H; obtain ⟨hcz8_0, hcz8_1, hcz8_2, hfz8_0, hfz8_1, hfz8_2⟩ := cz3_ (w := w3) BK153.out; go_wp2
    repeat (go_quiet (fail); try go_wp2)
    go_meet
    case rel => exact ⟨_, (decide ((l0_0.length : Int) > 32)), (by first|rfl|(simp; done)|(simp [*]; done)), H', ⟨by first|omega|exact Nat.le_refl _⟩, ⟨by (with_reducible repeat first|refine bN_ ?_ _|refine bD_ ?_|refine bA_ ?_ _); exact BK153.out⟩, ⟨by repeat (first|(with_reducible first|exact HB.out|apply ba_|apply pN_|apply b1_|refine bs_ ?_ GE153.out)|exact HB.out)⟩⟩
  case rest =>
    clear HC2; (try clear c2); (try clear p2); (try clear c5); (try clear c5b0); (try clear c5b1); (try clear c5b2); (try clear c6); (try clear c6b0); (try clear c6b1); (try clear hcz4_0); (try clear hcz4_1); (try clear hcz4_2); (try clear hcz7_0); (try clear hcz7_1); (try clear hcz7_2); (try clear hcz8_0); (try clear hcz8_1); (try clear hcz8_2); (try clear hcz9_0); (try clear hcz9_1); (try clear hcz9_2); (try clear hfz4_0); (try clear hfz4_1); (try clear hfz4_2); (try clear hfz7_0); (try clear hfz7_1); (try clear hfz7_2); (try clear hfz8_0); (try clear hfz8_1); (try clear hfz8_2); (try clear hfz9_0); (try clear hfz9_1); (try clear hfz9_2); obtain ⟨kq, x29_1, rfl, HA, HJ1, BK153, HB⟩ := hcut
    cases kq with
    | zero => exact absurd HA.out (by simp [claim_Check.j0])
    | succ kj1 =>
      have H := HA.out; clear HA; simp only [claim_Check.j0] at H; by_cases c10 : x29_1 = true
      · subst c10
        have H1 : (some 2) = some r := by rw [if_pos rfl] at H; exact H
        clear H; have H := H1; clear H1; obtain rfl := Option.some.inj H; go_wp2
        repeat (go_quiet (fail); try go_wp2)
        go_ret; exact ⟨by first|rfl|(simp [errW_none, errW_some] <;> rfl)|(simp [*, errW_none, errW_some] <;> rfl), by repeat (first|(with_reducible first|exact HB.out|apply ba_|apply pN_|apply b1_|refine bs_ ?_ GE153.out)|exact HB.out)⟩
      replace c10 := Bool.eq_false_iff.mpr c10; subst c10; have H1 : (claim_Check.l0 kj1 (l0_1.length : Int) (l0_0.length : Int) (l0_1.length : Int) 0 l0_0 l0_1 l0_2) = some r := by rw [if_neg (show ¬ (false = true) by decide)] at H; exact H
      clear H; have H := H1; clear H1; have H' := A0_ H; clear H; go_wp2
      repeat (go_quiet (fail); try go_wp2)
      go_loopg [31] kj1 (fun kq v31 w' => ∃ (x31_2 : Int), v31 = .int .i64 x31_2 ∧ Aside0 (claim_Check.l0 kq (l0_1.length : Int) (l0_0.length : Int) (l0_1.length : Int) x31_2 l0_0 l0_1 l0_2 = some r) ∧ Aside0 (kq ≤ kj1) ∧ Aside0 (w'.heap[gb153]? = some (.cells #[(.slice A0_0 l0_0.length c0_0), (.slice A0_1 l0_1.length c0_1), (.slice A0_2 l0_2.length c0_2)] 60 (0, 0))) ∧ Aside0 (Below w.heap.size w w'))
      case atStart => exact ⟨(0), (by first|rfl|(simp; done)|(simp [*]; done)), H', ⟨Nat.le_refl _⟩, ⟨by (with_reducible repeat first|refine bN_ ?_ _|refine bD_ ?_|refine bA_ ?_ _); exact BK153.out⟩, ⟨by repeat (first|(with_reducible first|exact HB.out|apply ba_|apply pN_|apply b1_|refine bs_ ?_ GE153.out)|exact HB.out)⟩⟩
      case round =>
        clear H'; (try clear c1); (try clear c2); (try clear p2); (try clear c5); (try clear c5b0); (try clear c5b1); (try clear c5b2); (try clear c6); (try clear c6b0); (try clear c6b1); (try clear c10); (try clear hcz4_0); (try clear hcz4_1); (try clear hcz4_2); (try clear hcz7_0); (try clear hcz7_1); (try clear hcz7_2); (try clear hcz8_0); (try clear hcz8_1); (try clear hcz8_2); (try clear hcz9_0); (try clear hcz9_1); (try clear hcz9_2); (try clear hfz4_0); (try clear hfz4_1); (try clear hfz4_2); (try clear hfz7_0); (try clear hfz7_1); (try clear hfz7_2); (try clear hfz8_0); (try clear hfz8_1); (try clear hfz8_2); (try clear hfz9_0); (try clear hfz9_1); (try clear hfz9_2); (try clear p2); obtain ⟨x31_2, rfl, HA, HK2, BK153, HB⟩ := hrel
        cases gk with
        | zero => exact absurd HA.out (by simp [claim_Check.l0])
        | succ k2 =>
          have H := HA.out; clear HA; simp only [claim_Check.l0] at H; by_cases c11 : x31_2 < (l0_1.length : Int)
          · rw [if_pos c11] at H
            have c11b0 : decide (x31_2 < (l0_1.length : Int)) = true := decide_eq_true c11; clear c11; by_cases c12 : 0 ≤ x31_2; rotate_left
            · rw [if_neg c12] at H
              exact absurd H (by simp)
            rw [if_pos c12] at H; have c12b0 : decide (0 ≤ x31_2) = true := decide_eq_true c12; clear c12; by_cases c13 : x31_2 < (l0_1.length : Int); rotate_left
            · rw [if_neg c13] at H
              exact absurd H (by simp)
            rw [if_pos c13] at H; have c13b0 : decide (x31_2 < (l0_1.length : Int)) = true := decide_eq_true c13; clear c13; by_cases c14 : ((rd_L1 l0_1 x31_2).length : Int) = (l0_0.length : Int); rotate_left
            · rw [if_neg c14] at H
              have c14b0 : (((rd_L1 l0_1 x31_2).length : Int) == (l0_0.length : Int)) = false := beq_eq_false_iff_ne.mpr c14; have c14b1 : (((rd_L1 l0_1 x31_2).length : Int) != (l0_0.length : Int)) = true := bne_iff_ne.mpr c14; have c14b2 : ((rd_L1 l0_1 x31_2).length == l0_0.length) = false := by first|simpa using c14|(simp at c14 ⊢; omega)
              obtain rfl := Option.some.inj H; obtain ⟨hcz19_0, hcz19_1, hcz19_2, hfz19_0, hfz19_1, hfz19_2⟩ := cz3_ (w := wr) BK153.out; have p154 : 0 ≤ (x31_2 : Int) := of_decide_eq_true (by first|(with_reducible assumption)|assumption); have q154 : x31_2 < (l0_1.length : Int) := of_decide_eq_true (by first|(with_reducible assumption)|assumption); obtain ⟨ad154, A154_0, c154_0, e154, hx154_0, hl154_0, hi154_0⟩ := at_L1 HR0_1.out x31_2 p154 q154; cases e154; replace hx154_0 := (HB.out.cell (bl_ w _ hx154_0)).trans hx154_0; have HR154_0 := A0_ hi154_0; have HC154_0 := A0_ hl154_0; clear hi154_0 hl154_0; replace p154 := eq_true p154; replace q154 := eq_true q154; go_wp2
              repeat (go_quiet (fail); try go_wp2)
              go_ret; exact ⟨by first|rfl|(simp [errW_none, errW_some] <;> rfl)|(simp [*, errW_none, errW_some] <;> rfl), by repeat (first|(with_reducible first|exact HB.out|apply ba_|apply pN_|apply b1_|refine bs_ ?_ GE153.out)|exact HB.out)⟩
            rw [if_pos c14] at H; have c14b0 : (((rd_L1 l0_1 x31_2).length : Int) == (l0_0.length : Int)) = true := beq_iff_eq.mpr c14; have c14b1 : (((rd_L1 l0_1 x31_2).length : Int) != (l0_0.length : Int)) = false := bne_eq_false_iff_eq.mpr c14; have c14b2 : ((rd_L1 l0_1 x31_2).length == l0_0.length) = true := by first|simpa using c14|(simp at c14 ⊢; omega)
            clear c14; by_cases c15 : x31_2 < (l0_2.length : Int); rotate_left
            · rw [if_neg c15] at H
              exact absurd H (by simp)
            rw [if_pos c15] at H; have c15b0 : decide (x31_2 < (l0_2.length : Int)) = true := decide_eq_true c15; clear c15; by_cases c16 : ((rd_L1 l0_2 x31_2).length : Int) = (l0_0.length : Int); rotate_left
            · rw [if_neg c16] at H
              have c16b0 : (((rd_L1 l0_2 x31_2).length : Int) == (l0_0.length : Int)) = false := beq_eq_false_iff_ne.mpr c16; have c16b1 : (((rd_L1 l0_2 x31_2).length : Int) != (l0_0.length : Int)) = true := bne_iff_ne.mpr c16; have c16b2 : ((rd_L1 l0_2 x31_2).length == l0_0.length) = false := by first|simpa using c16|(simp at c16 ⊢; omega)
              obtain rfl := Option.some.inj H; obtain ⟨hcz18_0, hcz18_1, hcz18_2, hfz18_0, hfz18_1, hfz18_2⟩ := cz3_ (w := wr) BK153.out; have p154 : 0 ≤ (x31_2 : Int) := of_decide_eq_true (by first|(with_reducible assumption)|assumption); have q154 : x31_2 < (l0_1.length : Int) := of_decide_eq_true (by first|(with_reducible assumption)|assumption); obtain ⟨ad154, A154_0, c154_0, e154, hx154_0, hl154_0, hi154_0⟩ := at_L1 HR0_1.out x31_2 p154 q154; cases e154; replace hx154_0 := (HB.out.cell (bl_ w _ hx154_0)).trans hx154_0; have HR154_0 := A0_ hi154_0; have HC154_0 := A0_ hl154_0; clear hi154_0 hl154_0; replace p154 := eq_true p154; replace q154 := eq_true q154; have p155 : 0 ≤ (x31_2 : Int) := of_decide_eq_true (by first|(with_reducible assumption)|assumption); have q155 : x31_2 < (l0_2.length : Int) := of_decide_eq_true (by first|(with_reducible assumption)|assumption); obtain ⟨ad155, A155_0, c155_0, e155, hx155_0, hl155_0, hi155_0⟩ := at_L1 HR0_2.out x31_2 p155 q155; cases e155; replace hx155_0 := (HB.out.cell (bl_ w _ hx155_0)).trans hx155_0; have HR155_0 := A0_ hi155_0; have HC155_0 := A0_ hl155_0; clear hi155_0 hl155_0; replace p155 := eq_true p155; replace q155 := eq_true q155; go_wp2
              repeat (go_quiet (fail); try go_wp2)
              go_ret; exact ⟨by first|rfl|(simp [errW_none, errW_some] <;> rfl)|(simp [*, errW_none, errW_some] <;> rfl), by repeat (first|(with_reducible first|exact HB.out|apply ba_|apply pN_|apply b1_|refine bs_ ?_ GE153.out)|exact HB.out)⟩
            rw [if_pos c16] at H; have c16b0 : (((rd_L1 l0_2 x31_2).length : Int) == (l0_0.length : Int)) = true := beq_iff_eq.mpr c16; have c16b1 : (((rd_L1 l0_2 x31_2).length : Int) != (l0_0.length : Int)) = false := bne_eq_false_iff_eq.mpr c16; have c16b2 : ((rd_L1 l0_2 x31_2).length == l0_0.length) = true := by first|simpa using c16|(simp at c16 ⊢; omega)
            clear c16; have H' := A0_ H; clear H; obtain ⟨hcz17_0, hcz17_1, hcz17_2, hfz17_0, hfz17_1, hfz17_2⟩ := cz3_ (w := wr) BK153.out; have p154 : 0 ≤ (x31_2 : Int) := of_decide_eq_true (by first|(with_reducible assumption)|assumption); have q154 : x31_2 < (l0_1.length : Int) := of_decide_eq_true (by first|(with_reducible assumption)|assumption); obtain ⟨ad154, A154_0, c154_0, e154, hx154_0, hl154_0, hi154_0⟩ := at_L1 HR0_1.out x31_2 p154 q154; cases e154; replace hx154_0 := (HB.out.cell (bl_ w _ hx154_0)).trans hx154_0; have HR154_0 := A0_ hi154_0; have HC154_0 := A0_ hl154_0; clear hi154_0 hl154_0; replace p154 := eq_true p154; replace q154 := eq_true q154; have p155 : 0 ≤ (x31_2 : Int) := of_decide_eq_true (by first|(with_reducible assumption)|assumption); have q155 : x31_2 < (l0_2.length : Int) := of_decide_eq_true (by first|(with_reducible assumption)|assumption); obtain ⟨ad155, A155_0, c155_0, e155, hx155_0, hl155_0, hi155_0⟩ := at_L1 HR0_2.out x31_2 p155 q155; cases e155; replace hx155_0 := (HB.out.cell (bl_ w _ hx155_0)).trans hx155_0; have HR155_0 := A0_ hi155_0; have HC155_0 := A0_ hl155_0; clear hi155_0 hl155_0; replace p155 := eq_true p155; replace q155 := eq_true q155; go_wp2
            repeat (go_quiet (fail); try go_wp2)
            go_roundg k2
            case measure => have := HJ1.out; have := HK2.out; omega
            case rel => exact ⟨(wrap64 (x31_2 + 1)), (by first|rfl|(simp; done)|(simp [*]; done)), H', ⟨by have := HJ1.out; have := HK2.out; omega⟩, ⟨by (with_reducible repeat first|refine bN_ ?_ _|refine bD_ ?_|refine bA_ ?_ _); exact BK153.out⟩, ⟨by repeat (first|(with_reducible first|exact HB.out|apply ba_|apply pN_|apply b1_|refine bs_ ?_ GE153.out)|exact HB.out)⟩⟩
          rw [if_neg c11] at H; have c11b0 : decide (x31_2 < (l0_1.length : Int)) = false := decide_eq_false c11; clear c11; replace H := bm_ H; obtain ⟨t156, A200, H⟩ := H; replace H : (claim_Check.l1 k2 (l0_1.length : Int) t156 (l0_1.length : Int) 0 l0_0 l0_1 l0_2) = some r := H; have A20 := A0_ A200; clear A200; have H' := A0_ H; clear H; obtain ⟨hcz21_0, hcz21_1, hcz21_2, hfz21_0, hfz21_1, hfz21_2⟩ := cz3_ (w := wr) BK153.out; go_wp2_with (first|(go_at_call 45; (with_reducible refine (claim_units.calls k2 _ _ l0_0 t156 _ ?side1 ?side2 A20.out).mono ?_); (case side1 => repeat (first|exact (Kd.C_below HR0_0.out HB.out)|(with_reducible first|refine Ca_ ?_ _|refine Cn_ ?_ _|refine Cd_ ?_))); (case side2 => exact HC0_0.out); rintro e w' ⟨rfl, ⟨nd, rfl⟩⟩; (try first|exact ⟨rfl, _, World.drewN_drewN _ _ _⟩|exact ⟨rfl, _, Eq.trans (World.drewN_drewN _ _ _) (congrArg (World.drewN _) (Nat.add_assoc _ _ _))⟩)))
          repeat (go_quiet (first|(go_at_call 45; (with_reducible refine (claim_units.calls k2 _ _ l0_0 t156 _ ?side1 ?side2 A20.out).mono ?_); (case side1 => repeat (first|exact (Kd.C_below HR0_0.out HB.out)|(with_reducible first|refine Ca_ ?_ _|refine Cn_ ?_ _|refine Cd_ ?_))); (case side2 => exact HC0_0.out); rintro e w' ⟨rfl, ⟨nd, rfl⟩⟩; (try first|exact ⟨rfl, _, World.drewN_drewN _ _ _⟩|exact ⟨rfl, _, Eq.trans (World.drewN_drewN _ _ _) (congrArg (World.drewN _) (Nat.add_assoc _ _ _))⟩))); try go_wp2_with (first|(go_at_call 45; (with_reducible refine (claim_units.calls k2 _ _ l0_0 t156 _ ?side1 ?side2 A20.out).mono ?_); (case side1 => repeat (first|exact (Kd.C_below HR0_0.out HB.out)|(with_reducible first|refine Ca_ ?_ _|refine Cn_ ?_ _|refine Cd_ ?_))); (case side2 => exact HC0_0.out); rintro e w' ⟨rfl, ⟨nd, rfl⟩⟩; (try first|exact ⟨rfl, _, World.drewN_drewN _ _ _⟩|exact ⟨rfl, _, Eq.trans (World.drewN_drewN _ _ _) (congrArg (World.drewN _) (Nat.add_assoc _ _ _))⟩))))
          go_loopg [6, 57] k2 (fun kq v6 v57 w' => ∃ (x6_3 : Bool) (x57_3 : Int), v6 = .bool x6_3 ∧ v57 = .int .i64 x57_3 ∧ Aside0 (claim_Check.l1 kq (l0_1.length : Int) x6_3 (l0_1.length : Int) x57_3 l0_0 l0_1 l0_2 = some r) ∧ Aside0 (kq ≤ k2) ∧ Aside0 (w'.heap[gb153]? = some (.cells #[(.slice A0_0 l0_0.length c0_0), (.slice A0_1 l0_1.length c0_1), (.slice A0_2 l0_2.length c0_2)] 60 (0, 0))) ∧ Aside0 (Below w.heap.size w w'))
          case atStart => exact ⟨(t156), (0), (by first|rfl|(simp; done)|(simp [*]; done)), (by first|rfl|(simp; done)|(simp [*]; done)), H', ⟨Nat.le_refl _⟩, ⟨by (with_reducible repeat first|refine bN_ ?_ _|refine bD_ ?_|refine bA_ ?_ _); exact BK153.out⟩, ⟨by repeat (first|(with_reducible first|exact HB.out|apply ba_|apply pN_|apply b1_|refine bs_ ?_ GE153.out)|exact HB.out)⟩⟩
          case round =>
            clear H'; (try clear c1); (try clear p1); (try clear q1); (try clear hx1); (try clear c2); (try clear p2); (try clear c5); (try clear c5b0); (try clear c5b1); (try clear c5b2); (try clear c6); (try clear c6b0); (try clear c6b1); (try clear p6); (try clear c10); (try clear c11); (try clear c11b0); (try clear c12); (try clear c12b0); (try clear c13); (try clear c13b0); (try clear c14); (try clear c14b0); (try clear c14b1); (try clear c14b2); (try clear c15); (try clear c15b0); (try clear p15); (try clear q15); (try clear hx15); (try clear c16); (try clear c16b0); (try clear c16b1); (try clear c16b2); (try clear hcz17_0); (try clear hcz17_1); (try clear hcz17_2); (try clear hcz18_0); (try clear hcz18_1); (try clear hcz18_2); (try clear hcz19_0); (try clear hcz19_1); (try clear hcz19_2); (try clear hcz21_0); (try clear hcz21_1); (try clear hcz21_2); (try clear hcz4_0); (try clear hcz4_1); (try clear hcz4_2); (try clear hcz7_0); (try clear hcz7_1); (try clear hcz7_2); (try clear hcz8_0); (try clear hcz8_1); (try clear hcz8_2); (try clear hcz9_0); (try clear hcz9_1); (try clear hcz9_2); (try clear hfz17_0); (try clear hfz17_1); (try clear hfz17_2); (try clear hfz18_0); (try clear hfz18_1); (try clear hfz18_2); (try clear hfz19_0); (try clear hfz19_1); (try clear hfz19_2); (try clear hfz21_0); (try clear hfz21_1); (try clear hfz21_2); (try clear hfz4_0); (try clear hfz4_1); (try clear hfz4_2); (try clear hfz7_0); (try clear hfz7_1); (try clear hfz7_2); (try clear hfz8_0); (try clear hfz8_1); (try clear hfz8_2); (try clear hfz9_0); (try clear hfz9_1); (try clear hfz9_2); (try clear hx154_0); (try clear hx155_0); (try clear p154); (try clear p155); (try clear p2); (try clear q154); (try clear q155); obtain ⟨x6_3, x57_3, rfl, rfl, HA, HK3, BK153, HB⟩ := hrel
            cases gk with
            | zero => exact absurd HA.out (by simp [claim_Check.l1])
            | succ k3 =>
              have H := HA.out; clear HA; simp only [claim_Check.l1] at H; by_cases c22 : x57_3 < (l0_1.length : Int)
              · rw [if_pos c22] at H
                have c22b0 : decide (x57_3 < (l0_1.length : Int)) = true := decide_eq_true c22; clear c22; by_cases c23 : x6_3 = true; rotate_left
                · replace c23 := Bool.eq_false_iff.mpr c23
                  subst c23; have H1 : (claim_Check.l1 k3 (l0_1.length : Int) false (l0_1.length : Int) (wrap64 (x57_3 + 1)) l0_0 l0_1 l0_2) = some r := by rw [if_neg (show ¬ (false = true) by decide)] at H; exact H
                  clear H; have H := H1; clear H1; have H' := A0_ H; clear H; go_wp2
                  repeat (go_quiet (fail); try go_wp2)
                  go_roundg k3
                  case measure => have := HJ1.out; have := HK2.out; have := HK3.out; omega
                  case rel => exact ⟨(false), (wrap64 (x57_3 + 1)), (by first|rfl|(simp; done)|(simp [*]; done)), (by first|rfl|(simp; done)|(simp [*]; done)), H', ⟨by have := HJ1.out; have := HK2.out; have := HK3.out; omega⟩, ⟨by (with_reducible repeat first|refine bN_ ?_ _|refine bD_ ?_|refine bA_ ?_ _); exact BK153.out⟩, ⟨by repeat (first|(with_reducible first|exact HB.out|apply ba_|apply pN_|apply b1_|refine bs_ ?_ GE153.out)|exact HB.out)⟩⟩
                subst c23; have H1 : (if 0 ≤ x57_3 then (if x57_3 < (l0_1.length : Int) then ((claim_units.f k3 (rd_L1 l0_1 x57_3)).bind fun t158 => (if t158 = true then (if x57_3 < (l0_2.length : Int) then ((claim_units.f k3 (rd_L1 l0_2 x57_3)).bind fun t160 => (claim_Check.l1 k3 (l0_1.length : Int) t160 (l0_1.length : Int) (wrap64 (x57_3 + 1)) l0_0 l0_1 l0_2)) else (none)) else (claim_Check.l1 k3 (l0_1.length : Int) false (l0_1.length : Int) (wrap64 (x57_3 + 1)) l0_0 l0_1 l0_2))) else (none)) else (none)) = some r := by rw [if_pos rfl] at H; exact H
                clear H; have H := H1; clear H1; by_cases c24 : 0 ≤ x57_3; rotate_left
                · rw [if_neg c24] at H
                  exact absurd H (by simp)
                rw [if_pos c24] at H; have c24b0 : decide (0 ≤ x57_3) = true := decide_eq_true c24; clear c24; by_cases c25 : x57_3 < (l0_1.length : Int); rotate_left
                · rw [if_neg c25] at H
                  exact absurd H (by simp)
                rw [if_pos c25] at H; have c25b0 : decide (x57_3 < (l0_1.length : Int)) = true := decide_eq_true c25; clear c25; replace H := bm_ H; obtain ⟨t158, A260, H⟩ := H; replace H : (if t158 = true then (if x57_3 < (l0_2.length : Int) then ((claim_units.f k3 (rd_L1 l0_2 x57_3)).bind fun t160 => (claim_Check.l1 k3 (l0_1.length : Int) t160 (l0_1.length : Int) (wrap64 (x57_3 + 1)) l0_0 l0_1 l0_2)) else (none)) else (claim_Check.l1 k3 (l0_1.length : Int) false (l0_1.length : Int) (wrap64 (x57_3 + 1)) l0_0 l0_1 l0_2)) = some r := H; have A26 := A0_ A260; clear A260; by_cases c27 : t158 = true; rotate_left
                · replace c27 := Bool.eq_false_iff.mpr c27
                  subst c27; have H1 : (claim_Check.l1 k3 (l0_1.length : Int) false (l0_1.length : Int) (wrap64 (x57_3 + 1)) l0_0 l0_1 l0_2) = some r := by rw [if_neg (show ¬ (false = true) by decide)] at H; exact H
                  clear H; have H := H1; clear H1; have H' := A0_ H; clear H; obtain ⟨hcz31_0, hcz31_1, hcz31_2, hfz31_0, hfz31_1, hfz31_2⟩ := cz3_ (w := wr) BK153.out; have p157 : 0 ≤ (x57_3 : Int) := of_decide_eq_true (by first|(with_reducible assumption)|assumption); have q157 : x57_3 < (l0_1.length : Int) := of_decide_eq_true (by first|(with_reducible assumption)|assumption); obtain ⟨ad157, A157_0, c157_0, e157, hx157_0, hl157_0, hi157_0⟩ := at_L1 HR0_1.out x57_3 p157 q157; cases e157; replace hx157_0 := (HB.out.cell (bl_ w _ hx157_0)).trans hx157_0; have HR157_0 := A0_ hi157_0; have HC157_0 := A0_ hl157_0; clear hi157_0 hl157_0; replace p157 := eq_true p157; replace q157 := eq_true q157; go_wp2_with (first|(go_at_call 45; (with_reducible refine (claim_units.calls k3 _ _ (rd_L1 l0_1 x57_3) false _ ?side1 ?side2 A26.out).mono ?_); (case side1 => repeat (first|exact (Kd.C_below HR157_0.out HB.out)|(with_reducible first|refine Ca_ ?_ _|refine Cn_ ?_ _|refine Cd_ ?_))); (case side2 => exact HC157_0.out); rintro e w' ⟨rfl, ⟨nd, rfl⟩⟩; (try first|exact ⟨rfl, _, World.drewN_drewN _ _ _⟩|exact ⟨rfl, _, Eq.trans (World.drewN_drewN _ _ _) (congrArg (World.drewN _) (Nat.add_assoc _ _ _))⟩)))
                  repeat (go_quiet (first|(go_at_call 45; (with_reducible refine (claim_units.calls k3 _ _ (rd_L1 l0_1 x57_3) false _ ?side1 ?side2 A26.out).mono ?_); (case side1 => repeat (first|exact (Kd.C_below HR157_0.out HB.out)|(with_reducible first|refine Ca_ ?_ _|refine Cn_ ?_ _|refine Cd_ ?_))); (case side2 => exact HC157_0.out); rintro e w' ⟨rfl, ⟨nd, rfl⟩⟩; (try first|exact ⟨rfl, _, World.drewN_drewN _ _ _⟩|exact ⟨rfl, _, Eq.trans (World.drewN_drewN _ _ _) (congrArg (World.drewN _) (Nat.add_assoc _ _ _))⟩))); try go_wp2_with (first|(go_at_call 45; (with_reducible refine (claim_units.calls k3 _ _ (rd_L1 l0_1 x57_3) false _ ?side1 ?side2 A26.out).mono ?_); (case side1 => repeat (first|exact (Kd.C_below HR157_0.out HB.out)|(with_reducible first|refine Ca_ ?_ _|refine Cn_ ?_ _|refine Cd_ ?_))); (case side2 => exact HC157_0.out); rintro e w' ⟨rfl, ⟨nd, rfl⟩⟩; (try first|exact ⟨rfl, _, World.drewN_drewN _ _ _⟩|exact ⟨rfl, _, Eq.trans (World.drewN_drewN _ _ _) (congrArg (World.drewN _) (Nat.add_assoc _ _ _))⟩))))
                  go_roundg k3
                  case measure => have := HJ1.out; have := HK2.out; have := HK3.out; omega
                  case rel => exact ⟨(false), (wrap64 (x57_3 + 1)), (by first|rfl|(simp; done)|(simp [*]; done)), (by first|rfl|(simp; done)|(simp [*]; done)), H', ⟨by have := HJ1.out; have := HK2.out; have := HK3.out; omega⟩, ⟨by (with_reducible repeat first|refine bN_ ?_ _|refine bD_ ?_|refine bA_ ?_ _); exact BK153.out⟩, ⟨by repeat (first|(with_reducible first|exact HB.out|apply ba_|apply pN_|apply b1_|refine bs_ ?_ GE153.out)|exact HB.out)⟩⟩
                subst c27; have H1 : (if x57_3 < (l0_2.length : Int) then ((claim_units.f k3 (rd_L1 l0_2 x57_3)).bind fun t160 => (claim_Check.l1 k3 (l0_1.length : Int) t160 (l0_1.length : Int) (wrap64 (x57_3 + 1)) l0_0 l0_1 l0_2)) else (none)) = some r := by rw [if_pos rfl] at H; exact H
                clear H; have H := H1; clear H1; by_cases c28 : x57_3 < (l0_2.length : Int); rotate_left
                · rw [if_neg c28] at H
                  exact absurd H (by simp)
                rw [if_pos c28] at H; have c28b0 : decide (x57_3 < (l0_2.length : Int)) = true := decide_eq_true c28; clear c28; replace H := bm_ H; obtain ⟨t160, A290, H⟩ := H; replace H : (claim_Check.l1 k3 (l0_1.length : Int) t160 (l0_1.length : Int) (wrap64 (x57_3 + 1)) l0_0 l0_1 l0_2) = some r := H; have A29 := A0_ A290; clear A290; have H' := A0_ H; clear H; obtain ⟨hcz30_0, hcz30_1, hcz30_2, hfz30_0, hfz30_1, hfz30_2⟩ := cz3_ (w := wr) BK153.out; have p157 : 0 ≤ (x57_3 : Int) := of_decide_eq_true (by first|(with_reducible assumption)|assumption); have q157 : x57_3 < (l0_1.length : Int) := of_decide_eq_true (by first|(with_reducible assumption)|assumption); obtain ⟨ad157, A157_0, c157_0, e157, hx157_0, hl157_0, hi157_0⟩ := at_L1 HR0_1.out x57_3 p157 q157; cases e157; replace hx157_0 := (HB.out.cell (bl_ w _ hx157_0)).trans hx157_0; have HR157_0 := A0_ hi157_0; have HC157_0 := A0_ hl157_0; clear hi157_0 hl157_0; replace p157 := eq_true p157; replace q157 := eq_true q157; go_wp2_with (first|(go_at_call 45; (with_reducible refine (claim_units.calls k3 _ _ (rd_L1 l0_1 x57_3) true _ ?side1 ?side2 A26.out).mono ?_); (case side1 => repeat (first|exact (Kd.C_below HR157_0.out HB.out)|(with_reducible first|refine Ca_ ?_ _|refine Cn_ ?_ _|refine Cd_ ?_))); (case side2 => exact HC157_0.out); rintro e w' ⟨rfl, ⟨nd, rfl⟩⟩; (try first|exact ⟨rfl, _, World.drewN_drewN _ _ _⟩|exact ⟨rfl, _, Eq.trans (World.drewN_drewN _ _ _) (congrArg (World.drewN _) (Nat.add_assoc _ _ _))⟩); have p159 : 0 ≤ (x57_3 : Int) := of_decide_eq_true (by first|(with_reducible assumption)|assumption); have q159 : x57_3 < (l0_2.length : Int) := of_decide_eq_true (by first|(with_reducible assumption)|assumption); obtain ⟨ad159, A159_0, c159_0, e159, hx159_0, hl159_0, hi159_0⟩ := at_L1 HR0_2.out x57_3 p159 q159; cases e159; replace hx159_0 := (HB.out.cell (bl_ w _ hx159_0)).trans hx159_0; have HR159_0 := A0_ hi159_0; have HC159_0 := A0_ hl159_0; clear hi159_0 hl159_0; replace p159 := eq_true p159; replace q159 := eq_true q159)|(go_at_call 45; (with_reducible refine (claim_units.calls k3 _ _ (rd_L1 l0_2 x57_3) t160 _ ?side1 ?side2 A29.out).mono ?_); (case side1 => repeat (first|exact (Kd.C_below HR159_0.out (by repeat (first|(with_reducible first|exact HB.out|apply ba_|apply pN_|apply b1_|refine bs_ ?_ GE153.out)|exact HB.out)))|(with_reducible first|refine Ca_ ?_ _|refine Cn_ ?_ _|refine Cd_ ?_))); (case side2 => exact HC159_0.out); rintro e w' ⟨rfl, ⟨nd, rfl⟩⟩; (try first|exact ⟨rfl, _, World.drewN_drewN _ _ _⟩|exact ⟨rfl, _, Eq.trans (World.drewN_drewN _ _ _) (congrArg (World.drewN _) (Nat.add_assoc _ _ _))⟩)))
                repeat (go_quiet (first|(go_at_call 45; (with_reducible refine (claim_units.calls k3 _ _ (rd_L1 l0_1 x57_3) true _ ?side1 ?side2 A26.out).mono ?_); (case side1 => repeat (first|exact (Kd.C_below HR157_0.out HB.out)|(with_reducible first|refine Ca_ ?_ _|refine Cn_ ?_ _|refine Cd_ ?_))); (case side2 => exact HC157_0.out); rintro e w' ⟨rfl, ⟨nd, rfl⟩⟩; (try first|exact ⟨rfl, _, World.drewN_drewN _ _ _⟩|exact ⟨rfl, _, Eq.trans (World.drewN_drewN _ _ _) (congrArg (World.drewN _) (Nat.add_assoc _ _ _))⟩); have p159 : 0 ≤ (x57_3 : Int) := of_decide_eq_true (by first|(with_reducible assumption)|assumption); have q159 : x57_3 < (l0_2.length : Int) := of_decide_eq_true (by first|(with_reducible assumption)|assumption); obtain ⟨ad159, A159_0, c159_0, e159, hx159_0, hl159_0, hi159_0⟩ := at_L1 HR0_2.out x57_3 p159 q159; cases e159; replace hx159_0 := (HB.out.cell (bl_ w _ hx159_0)).trans hx159_0; have HR159_0 := A0_ hi159_0; have HC159_0 := A0_ hl159_0; clear hi159_0 hl159_0; replace p159 := eq_true p159; replace q159 := eq_true q159)|(go_at_call 45; (with_reducible refine (claim_units.calls k3 _ _ (rd_L1 l0_2 x57_3) t160 _ ?side1 ?side2 A29.out).mono ?_); (case side1 => repeat (first|exact (Kd.C_below HR159_0.out (by repeat (first|(with_reducible first|exact HB.out|apply ba_|apply pN_|apply b1_|refine bs_ ?_ GE153.out)|exact HB.out)))|(with_reducible first|refine Ca_ ?_ _|refine Cn_ ?_ _|refine Cd_ ?_))); (case side2 => exact HC159_0.out); rintro e w' ⟨rfl, ⟨nd, rfl⟩⟩; (try first|exact ⟨rfl, _, World.drewN_drewN _ _ _⟩|exact ⟨rfl, _, Eq.trans (World.drewN_drewN _ _ _) (congrArg (World.drewN _) (Nat.add_assoc _ _ _))⟩))); try go_wp2_with (first|(go_at_call 45; (with_reducible refine (claim_units.calls k3 _ _ (rd_L1 l0_1 x57_3) true _ ?side1 ?side2 A26.out).mono ?_); (case side1 => repeat (first|exact (Kd.C_below HR157_0.out HB.out)|(with_reducible first|refine Ca_ ?_ _|refine Cn_ ?_ _|refine Cd_ ?_))); (case side2 => exact HC157_0.out); rintro e w' ⟨rfl, ⟨nd, rfl⟩⟩; (try first|exact ⟨rfl, _, World.drewN_drewN _ _ _⟩|exact ⟨rfl, _, Eq.trans (World.drewN_drewN _ _ _) (congrArg (World.drewN _) (Nat.add_assoc _ _ _))⟩); have p159 : 0 ≤ (x57_3 : Int) := of_decide_eq_true (by first|(with_reducible assumption)|assumption); have q159 : x57_3 < (l0_2.length : Int) := of_decide_eq_true (by first|(with_reducible assumption)|assumption); obtain ⟨ad159, A159_0, c159_0, e159, hx159_0, hl159_0, hi159_0⟩ := at_L1 HR0_2.out x57_3 p159 q159; cases e159; replace hx159_0 := (HB.out.cell (bl_ w _ hx159_0)).trans hx159_0; have HR159_0 := A0_ hi159_0; have HC159_0 := A0_ hl159_0; clear hi159_0 hl159_0; replace p159 := eq_true p159; replace q159 := eq_true q159)|(go_at_call 45; (with_reducible refine (claim_units.calls k3 _ _ (rd_L1 l0_2 x57_3) t160 _ ?side1 ?side2 A29.out).mono ?_); (case side1 => repeat (first|exact (Kd.C_below HR159_0.out (by repeat (first|(with_reducible first|exact HB.out|apply ba_|apply pN_|apply b1_|refine bs_ ?_ GE153.out)|exact HB.out)))|(with_reducible first|refine Ca_ ?_ _|refine Cn_ ?_ _|refine Cd_ ?_))); (case side2 => exact HC159_0.out); rintro e w' ⟨rfl, ⟨nd, rfl⟩⟩; (try first|exact ⟨rfl, _, World.drewN_drewN _ _ _⟩|exact ⟨rfl, _, Eq.trans (World.drewN_drewN _ _ _) (congrArg (World.drewN _) (Nat.add_assoc _ _ _))⟩))))
                go_roundg k3
                case measure => have := HJ1.out; have := HK2.out; have := HK3.out; omega
                case rel => exact ⟨(t160), (wrap64 (x57_3 + 1)), (by first|rfl|(simp; done)|(simp [*]; done)), (by first|rfl|(simp; done)|(simp [*]; done)), H', ⟨by have := HJ1.out; have := HK2.out; have := HK3.out; omega⟩, ⟨by (with_reducible repeat first|refine bN_ ?_ _|refine bD_ ?_|refine bA_ ?_ _); exact BK153.out⟩, ⟨by repeat (first|(with_reducible first|exact HB.out|apply ba_|apply pN_|apply b1_|refine bs_ ?_ GE153.out)|exact HB.out)⟩⟩
              rw [if_neg c22] at H; have c22b0 : decide (x57_3 < (l0_1.length : Int)) = false := decide_eq_false c22; clear c22; by_cases c32 : x6_3 = true; rotate_left
              · replace c32 := Bool.eq_false_iff.mpr c32
                subst c32; have H1 : (some 1) = some r := by rw [if_neg (show ¬ (false = true) by decide)] at H; exact H
                clear H; have H := H1; clear H1; obtain rfl := Option.some.inj H; go_wp2
                repeat (go_quiet (fail); try go_wp2)
                go_ret; exact ⟨by first|rfl|(simp [errW_none, errW_some] <;> rfl)|(simp [*, errW_none, errW_some] <;> rfl), by repeat (first|(with_reducible first|exact HB.out|apply ba_|apply pN_|apply b1_|refine bs_ ?_ GE153.out)|exact HB.out)⟩

              subst c32; have H1 : (claim_Check.l2 k3 (l0_1.length : Int) 0 l0_0 l0_1 l0_2) = some r := by rw [if_pos rfl] at H; exact H
              clear H; have H := H1; clear H1; have H' := A0_ H; clear H; go_wp2
              repeat (go_quiet (fail); try go_wp2)
              go_loopg [81] k3 (fun kq v81 w' => ∃ (x81_4 : Int), v81 = .int .i64 x81_4 ∧ Aside0 (claim_Check.l2 kq (l0_1.length : Int) x81_4 l0_0 l0_1 l0_2 = some r) ∧ Aside0 (kq ≤ k3) ∧ Aside0 (w'.heap[gb153]? = some (.cells #[(.slice A0_0 l0_0.length c0_0), (.slice A0_1 l0_1.length c0_1), (.slice A0_2 l0_2.length c0_2)] 60 (0, 0))) ∧ Aside0 (Below w.heap.size w w'))
              case atStart => exact ⟨(0), (by first|rfl|(simp; done)|(simp [*]; done)), H', ⟨Nat.le_refl _⟩, ⟨by (with_reducible repeat first|refine bN_ ?_ _|refine bD_ ?_|refine bA_ ?_ _); exact BK153.out⟩, ⟨by repeat (first|(with_reducible first|exact HB.out|apply ba_|apply pN_|apply b1_|refine bs_ ?_ GE153.out)|exact HB.out)⟩⟩
              case round =>
                clear H'; (try clear c1); (try clear p1); (try clear q1); (try clear hx1); (try clear c2); (try clear p2); (try clear c3); (try clear c5); (try clear c5b0); (try clear c5b1); (try clear c5b2); (try clear c6); (try clear c6b0); (try clear c6b1); (try clear p6); (try clear c10); (try clear c11); (try clear c11b0); (try clear c12); (try clear c12b0); (try clear c13); (try clear c13b0); (try clear c14); (try clear c14b0); (try clear c14b1); (try clear c14b2); (try clear c15); (try clear c15b0); (try clear p15); (try clear q15); (try clear hx15); (try clear c16); (try clear c16b0); (try clear c16b1); (try clear c16b2); (try clear c22); (try clear c22b0); (try clear c23); (try clear c24); (try clear c24b0); (try clear c25); (try clear c25b0); (try clear c27); (try clear c28); (try clear c28b0); (try clear c32); (try clear hcz17_0); (try clear hcz17_1); (try clear hcz17_2); (try clear hcz18_0); (try clear hcz18_1); (try clear hcz18_2); (try clear hcz19_0); (try clear hcz19_1); (try clear hcz19_2); (try clear hcz21_0); (try clear hcz21_1); (try clear hcz21_2); (try clear hcz30_0); (try clear hcz30_1); (try clear hcz30_2); (try clear hcz31_0); (try clear hcz31_1); (try clear hcz31_2); (try clear hcz4_0); (try clear hcz4_1); (try clear hcz4_2); (try clear hcz7_0); (try clear hcz7_1); (try clear hcz7_2); (try clear hcz8_0); (try clear hcz8_1); (try clear hcz8_2); (try clear hcz9_0); (try clear hcz9_1); (try clear hcz9_2); (try clear hfz17_0); (try clear hfz17_1); (try clear hfz17_2); (try clear hfz18_0); (try clear hfz18_1); (try clear hfz18_2); (try clear hfz19_0); (try clear hfz19_1); (try clear hfz19_2); (try clear hfz21_0); (try clear hfz21_1); (try clear hfz21_2); (try clear hfz30_0); (try clear hfz30_1); (try clear hfz30_2); (try clear hfz31_0); (try clear hfz31_1); (try clear hfz31_2); (try clear hfz4_0); (try clear hfz4_1); (try clear hfz4_2); (try clear hfz7_0); (try clear hfz7_1); (try clear hfz7_2); (try clear hfz8_0); (try clear hfz8_1); (try clear hfz8_2); (try clear hfz9_0); (try clear hfz9_1); (try clear hfz9_2); (try clear hx154_0); (try clear hx155_0); (try clear hx157_0); (try clear hx159_0); (try clear p1); (try clear p15); (try clear p154); (try clear p155); (try clear p157); (try clear p159); (try clear p2); (try clear p6); (try clear q1); (try clear q15); (try clear q154); (try clear q155); (try clear q157); (try clear q159); obtain ⟨x81_4, rfl, HA, HK4, BK153, HB⟩ := hrel
                cases gk with
                | zero => exact absurd HA.out (by simp [claim_Check.l2])
                | succ k4 =>
                  have H := HA.out; clear HA; simp only [claim_Check.l2] at H; by_cases c33 : x81_4 < (l0_1.length : Int); rotate_left
                  · rw [if_neg c33] at H
                    have c33b0 : decide (x81_4 < (l0_1.length : Int)) = false := decide_eq_false c33; clear c33; obtain rfl := Option.some.inj H; go_wp2
                    repeat (go_quiet (fail); try go_wp2)
                    go_ret; exact ⟨by first|rfl|(simp [errW_none, errW_some] <;> rfl)|(simp [*, errW_none, errW_some] <;> rfl), by repeat (first|(with_reducible first|exact HB.out|apply ba_|apply pN_|apply b1_|refine bs_ ?_ GE153.out)|exact HB.out)⟩
                  rw [if_pos c33] at H; have c33b0 : decide (x81_4 < (l0_1.length : Int)) = true := decide_eq_true c33; clear c33; by_cases c34 : 0 ≤ x81_4; rotate_left
                  · rw [if_neg c34] at H
                    exact absurd H (by simp)
                  rw [if_pos c34] at H; have c34b0 : decide (0 ≤ x81_4) = true := decide_eq_true c34; clear c34; by_cases c35 : x81_4 < (l0_1.length : Int); rotate_left
                  · rw [if_neg c35] at H
                    exact absurd H (by simp)
                  rw [if_pos c35] at H; have c35b0 : decide (x81_4 < (l0_1.length : Int)) = true := decide_eq_true c35; clear c35; have H' := A0_ H; clear H; obtain ⟨hcz36_0, hcz36_1, hcz36_2, hfz36_0, hfz36_1, hfz36_2⟩ := cz3_ (w := wr) BK153.out; have p161 : 0 ≤ (x81_4 : Int) := of_decide_eq_true (by first|(with_reducible assumption)|assumption); have q161 : x81_4 < (l0_1.length : Int) := of_decide_eq_true (by first|(with_reducible assumption)|assumption); obtain ⟨ad161, A161_0, c161_0, e161, hx161_0, hl161_0, hi161_0⟩ := at_L1 HR0_1.out x81_4 p161 q161; cases e161; replace hx161_0 := (HB.out.cell (bl_ w _ hx161_0)).trans hx161_0; have HR161_0 := A0_ hi161_0; have HC161_0 := A0_ hl161_0; clear hi161_0 hl161_0; replace p161 := eq_true p161; replace q161 := eq_true q161; go_wp2
                  repeat (go_quiet (fail); try go_wp2)
                  go_loopg [90] k4 (fun kq v90 w' => ∃ (x90_5 : Int), v90 = .int .i64 x90_5 ∧ Aside0 (claim_Check.l3 kq x81_4 (l0_1.length : Int) x81_4 (rd_L1 l0_1 x81_4) ((rd_L1 l0_1 x81_4).length : Int) x90_5 l0_0 l0_1 l0_2 = some r) ∧ Aside0 (kq ≤ k4) ∧ Aside0 (w'.heap[gb153]? = some (.cells #[(.slice A0_0 l0_0.length c0_0), (.slice (some ad161) l0_1.length c0_1), (.slice A0_2 l0_2.length c0_2)] 60 (0, 0))) ∧ Aside0 (Below w.heap.size w w'))
                  case atStart => exact ⟨(0), (by first|rfl|(simp; done)|(simp [*]; done)), H', ⟨Nat.le_refl _⟩, ⟨by (with_reducible repeat first|refine bN_ ?_ _|refine bD_ ?_|refine bA_ ?_ _); exact BK153.out⟩, ⟨by repeat (first|(with_reducible first|exact HB.out|apply ba_|apply pN_|apply b1_|refine bs_ ?_ GE153.out)|exact HB.out)⟩⟩
                  case round =>
                    clear H'; (try clear c1); (try clear p1); (try clear q1); (try clear hx1); (try clear c2); (try clear p2); (try clear c3); (try clear c5); (try clear c5b0); (try clear c5b1); (try clear c5b2); (try clear c6); (try clear c6b0); (try clear c6b1); (try clear p6); (try clear c10); (try clear c11); (try clear c11b0); (try clear c12); (try clear c12b0); (try clear c13); (try clear c13b0); (try clear c14); (try clear c14b0); (try clear c14b1); (try clear c14b2); (try clear c15); (try clear c15b0); (try clear p15); (try clear q15); (try clear hx15); (try clear c16); (try clear c16b0); (try clear c16b1); (try clear c16b2); (try clear p16); (try clear q16); (try clear hx16); (try clear c22); (try clear c22b0); (try clear c23); (try clear c24); (try clear c24b0); (try clear c25); (try clear c25b0); (try clear c27); (try clear c28); (try clear c28b0); (try clear c32); (try clear c33); (try clear c33b0); (try clear c34); (try clear c34b0); (try clear c35); (try clear c35b0); (try clear hcz17_0); (try clear hcz17_1); (try clear hcz17_2); (try clear hcz18_0); (try clear hcz18_1); (try clear hcz18_2); (try clear hcz19_0); (try clear hcz19_1); (try clear hcz19_2); (try clear hcz21_0); (try clear hcz21_1); (try clear hcz21_2); (try clear hcz30_0); (try clear hcz30_1); (try clear hcz30_2); (try clear hcz31_0); (try clear hcz31_1); (try clear hcz31_2); (try clear hcz36_0); (try clear hcz36_1); (try clear hcz36_2); (try clear hcz4_0); (try clear hcz4_1); (try clear hcz4_2); (try clear hcz7_0); (try clear hcz7_1); (try clear hcz7_2); (try clear hcz8_0); (try clear hcz8_1); (try clear hcz8_2); (try clear hcz9_0); (try clear hcz9_1); (try clear hcz9_2); (try clear hfz17_0); (try clear hfz17_1); (try clear hfz17_2); (try clear hfz18_0); (try clear hfz18_1); (try clear hfz18_2); (try clear hfz19_0); (try clear hfz19_1); (try clear hfz19_2); (try clear hfz21_0); (try clear hfz21_1); (try clear hfz21_2); (try clear hfz30_0); (try clear hfz30_1); (try clear hfz30_2); (try clear hfz31_0); (try clear hfz31_1); (try clear hfz31_2); (try clear hfz36_0); (try clear hfz36_1); (try clear hfz36_2); (try clear hfz4_0); (try clear hfz4_1); (try clear hfz4_2); (try clear hfz7_0); (try clear hfz7_1); (try clear hfz7_2); (try clear hfz8_0); (try clear hfz8_1); (try clear hfz8_2); (try clear hfz9_0); (try clear hfz9_1); (try clear hfz9_2); (try clear hx154_0); (try clear hx155_0); (try clear hx157_0); (try clear hx159_0); (try clear hx161_0); (try clear p1); (try clear p15); (try clear p154); (try clear p155); (try clear p157); (try clear p159); (try clear p161); (try clear p2); (try clear p6); (try clear q1); (try clear q15); (try clear q154); (try clear q155); (try clear q157); (try clear q159); (try clear q161); obtain ⟨x90_5, rfl, HA, HK5, BK153, HB⟩ := hrel
                    cases gk with
                    | zero => exact absurd HA.out (by simp [claim_Check.l3])
                    | succ k5 =>
                      have H := HA.out; clear HA; simp only [claim_Check.l3] at H; by_cases c37 : x90_5 < ((rd_L1 l0_1 x81_4).length : Int); rotate_left
                      · rw [if_neg c37] at H
                        have c37b0 : decide (x90_5 < ((rd_L1 l0_1 x81_4).length : Int)) = false := decide_eq_false c37; clear c37; have H' := A0_ H; clear H; go_wp2
                        repeat (go_quiet (fail); try go_wp2)
                        go_roundg k5
                        case measure => have := HJ1.out; have := HK2.out; have := HK3.out; have := HK4.out; have := HK5.out; omega
                        case rel => exact ⟨(wrap64 (x81_4 + 1)), (by first|rfl|(simp; done)|(simp [*]; done)), H', ⟨by have := HJ1.out; have := HK2.out; have := HK3.out; have := HK4.out; have := HK5.out; omega⟩, ⟨by (with_reducible repeat first|refine bN_ ?_ _|refine bD_ ?_|refine bA_ ?_ _); exact BK153.out⟩, ⟨by repeat (first|(with_reducible first|exact HB.out|apply ba_|apply pN_|apply b1_|refine bs_ ?_ GE153.out)|exact HB.out)⟩⟩
                      rw [if_pos c37] at H; have c37b0 : decide (x90_5 < ((rd_L1 l0_1 x81_4).length : Int)) = true := decide_eq_true c37; clear c37; by_cases c38 : 0 ≤ x90_5; rotate_left
                      · rw [if_neg c38] at H
                        exact absurd H (by simp)
                      rw [if_pos c38] at H; have c38b0 : decide (0 ≤ x90_5) = true := decide_eq_true c38; clear c38; by_cases c39 : x90_5 < ((rd_L1 l0_1 x81_4).length : Int); rotate_left
                      · rw [if_neg c39] at H
                        exact absurd H (by simp)
                      rw [if_pos c39] at H; have c39b0 : decide (x90_5 < ((rd_L1 l0_1 x81_4).length : Int)) = true := decide_eq_true c39; clear c39; by_cases c40 : 0 ≤ x81_4; rotate_left
                      · rw [if_neg c40] at H
                        exact absurd H (by simp)
                      rw [if_pos c40] at H; have c40b0 : decide (0 ≤ x81_4) = true := decide_eq_true c40; clear c40; by_cases c41 : x81_4 < (l0_2.length : Int); rotate_left
                      · rw [if_neg c41] at H
                        exact absurd H (by simp)
                      rw [if_pos c41] at H; have c41b0 : decide (x81_4 < (l0_2.length : Int)) = true := decide_eq_true c41; clear c41; by_cases c42 : x90_5 < ((rd_L1 l0_2 x81_4).length : Int); rotate_left
                      · rw [if_neg c42] at H
                        exact absurd H (by simp)
                      rw [if_pos c42] at H; have c42b0 : decide (x90_5 < ((rd_L1 l0_2 x81_4).length : Int)) = true := decide_eq_true c42; clear c42; by_cases c43 : (rd (rd_L1 l0_1 x81_4) x90_5) > (rd (rd_L1 l0_2 x81_4) x90_5)
                      · rw [if_pos c43] at H
                        have c43b0 : decide ((rd (rd_L1 l0_2 x81_4) x90_5) < (rd (rd_L1 l0_1 x81_4) x90_5)) = true := decide_eq_true c43; clear c43; obtain rfl := Option.some.inj H; have p162 : 0 ≤ (x90_5 : Int) := of_decide_eq_true (by first|(with_reducible assumption)|assumption); have q162 : x90_5 < ((rd_L1 l0_1 x81_4).length : Int) := of_decide_eq_true (by first|(with_reducible assumption)|assumption); obtain ⟨ad162, e162, hx162_0⟩ := Kd.at_int HR161_0.out x90_5 p162 q162; cases e162; replace hx162_0 := (HB.out.cell (bl_ w _ hx162_0)).trans hx162_0; replace p162 := eq_true p162; replace q162 := eq_true q162; obtain ⟨hcz44_0, hcz44_1, hcz44_2, hfz44_0, hfz44_1, hfz44_2⟩ := cz3_ (w := wr) BK153.out; have p163 : 0 ≤ (x81_4 : Int) := of_decide_eq_true (by first|(with_reducible assumption)|assumption); have q163 : x81_4 < (l0_2.length : Int) := of_decide_eq_true (by first|(with_reducible assumption)|assumption); obtain ⟨ad163, A163_0, c163_0, e163, hx163_0, hl163_0, hi163_0⟩ := at_L1 HR0_2.out x81_4 p163 q163; cases e163; replace hx163_0 := (HB.out.cell (bl_ w _ hx163_0)).trans hx163_0; have HR163_0 := A0_ hi163_0; have HC163_0 := A0_ hl163_0; clear hi163_0 hl163_0; replace p163 := eq_true p163; replace q163 := eq_true q163; have p164 : 0 ≤ (x90_5 : Int) := of_decide_eq_true (by first|(with_reducible assumption)|assumption); have q164 : x90_5 < ((rd_L1 l0_2 x81_4).length : Int) := of_decide_eq_true (by first|(with_reducible assumption)|assumption); obtain ⟨ad164, e164, hx164_0⟩ := Kd.at_int HR163_0.out x90_5 p164 q164; cases e164; replace hx164_0 := (HB.out.cell (bl_ w _ hx164_0)).trans hx164_0; replace p164 := eq_true p164; replace q164 := eq_true q164; go_wp2
                        repeat (go_quiet (fail); try go_wp2)
                        go_ret; exact ⟨by first|rfl|(simp [errW_none, errW_some] <;> rfl)|(simp [*, errW_none, errW_some] <;> rfl), by repeat (first|(with_reducible first|exact HB.out|apply ba_|apply pN_|apply b1_|refine bs_ ?_ GE153.out)|exact HB.out)⟩
                      rw [if_neg c43] at H; have c43b0 : decide ((rd (rd_L1 l0_2 x81_4) x90_5) < (rd (rd_L1 l0_1 x81_4) x90_5)) = false := decide_eq_false c43; clear c43; have H' := A0_ H; clear H; have p162 : 0 ≤ (x90_5 : Int) := of_decide_eq_true (by first|(with_reducible assumption)|assumption); have q162 : x90_5 < ((rd_L1 l0_1 x81_4).length : Int) := of_decide_eq_true (by first|(with_reducible assumption)|assumption); obtain ⟨ad162, e162, hx162_0⟩ := Kd.at_int HR161_0.out x90_5 p162 q162; cases e162; replace hx162_0 := (HB.out.cell (bl_ w _ hx162_0)).trans hx162_0; replace p162 := eq_true p162; replace q162 := eq_true q162; obtain ⟨hcz45_0, hcz45_1, hcz45_2, hfz45_0, hfz45_1, hfz45_2⟩ := cz3_ (w := wr) BK153.out; have p163 : 0 ≤ (x81_4 : Int) := of_decide_eq_true (by first|(with_reducible assumption)|assumption); have q163 : x81_4 < (l0_2.length : Int) := of_decide_eq_true (by first|(with_reducible assumption)|assumption); obtain ⟨ad163, A163_0, c163_0, e163, hx163_0, hl163_0, hi163_0⟩ := at_L1 HR0_2.out x81_4 p163 q163; cases e163; replace hx163_0 := (HB.out.cell (bl_ w _ hx163_0)).trans hx163_0; have HR163_0 := A0_ hi163_0; have HC163_0 := A0_ hl163_0; clear hi163_0 hl163_0; replace p163 := eq_true p163; replace q163 := eq_true q163; have p164 : 0 ≤ (x90_5 : Int) := of_decide_eq_true (by first|(with_reducible assumption)|assumption); have q164 : x90_5 < ((rd_L1 l0_2 x81_4).length : Int) := of_decide_eq_true (by first|(with_reducible assumption)|assumption); obtain ⟨ad164, e164, hx164_0⟩ := Kd.at_int HR163_0.out x90_5 p164 q164; cases e164; replace hx164_0 := (HB.out.cell (bl_ w _ hx164_0)).trans hx164_0; replace p164 := eq_true p164; replace q164 := eq_true q164; go_wp2
                      repeat (go_quiet (fail); try go_wp2)
                      go_roundg k5
                      case measure => have := HJ1.out; have := HK2.out; have := HK3.out; have := HK4.out; have := HK5.out; omega
                      case rel => exact ⟨(wrap64 (x90_5 + 1)), (by first|rfl|(simp; done)|(simp [*]; done)), H', ⟨by have := HJ1.out; have := HK2.out; have := HK3.out; have := HK4.out; have := HK5.out; omega⟩, ⟨by (with_reducible repeat first|refine bN_ ?_ _|refine bD_ ?_|refine bA_ ?_ _); exact BK153.out⟩, ⟨by repeat (first|(with_reducible first|exact HB.out|apply ba_|apply pN_|apply b1_|refine bs_ ?_ GE153.out)|exact HB.out)⟩⟩
end Go.Proofs.Ytlggjacghemakaa.PClaimAny
