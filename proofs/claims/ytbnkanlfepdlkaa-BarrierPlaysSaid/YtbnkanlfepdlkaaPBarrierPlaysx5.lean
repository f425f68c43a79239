/- Go functions as plain Lean functions, and that the calls come to them. Conditions: none. (Written by a program of this session.) -/
import Derived.Test.YtbnkanlfepdlkaaPBarrierPlaysx0
import Derived.Test.YtbnkanlfepdlkaaPBarrierPlaysx2
import Derived.Test.YtbnkanlfepdlkaaPBarrierPlaysx3
namespace Go.Proofs.Ytbnkanlfepdlkaa.PBarrierPlays
open Go.RowKit Go.Proofs.YtbnkanlfepdlkaaW.PrintWords Go.Proofs.YtbnkanlfepdlkaaW.PrintLast Go.Proofs.YtbnkanlfepdlkaaW.PrintMore
attribute [local go_sem] max2_int min2_int max_two min_two max_three min_three max_four min_four   -- for this text's walks alone
set_option linter.unusedVariables false
set_option linter.unusedSimpArgs false

/-! ### logjamref19_Arrive: function 58 -/
def logjamref19_Arrive.j0 : Nat → Int → Bool → Int → Int → Option (Int × Int × Int × Bool × Int)
  | 0, _, _, _, _ => none
  | k + 1, x1, x14, x150000, x150001 => if x14 = true then (some (x150000, x150001, 0, false, 1)) else ((logjamref02_Has.f k x150000 x1).bind fun t151 => (if t151 = true then ((logjamref02_Has.f k x150001 x1).bind fun t152 => (if t152 = true then (some (x150000, x150001, 0, false, 7)) else ((logjamref02_With.f k x150001 x1).bind fun t153 => ((logjamref19_Missing.f k x150000 t153).bind fun t155 => (if t155 = 0 then (some (x150000, 0, x150001, true, 0)) else (some (x150000, t153, 0, false, 0))))))) else (some (x150000, x150001, 0, false, 9))))
def logjamref19_Arrive.f (k : Nat) (a0_0 : Int) (a0_1 : Int) (a1 : Int) : Option (Int × Int × Int × Bool × Int) := if a1 < 0 then (logjamref19_Arrive.j0 k a1 true a0_0 a0_1) else (logjamref19_Arrive.j0 k a1 (decide (a1 > 63)) a0_0 a0_1)
theorem logjamref19_Arrive.mono_l : ∀ k, (∀ y0 y1 y2 y3, LeO (logjamref19_Arrive.j0 k y0 y1 y2 y3) (logjamref19_Arrive.j0 (k + 1) y0 y1 y2 y3))
  | 0 => fun _ _ _ _ r h => by simp [logjamref19_Arrive.j0] at h
  | k + 1 => by
    have ih0 := logjamref19_Arrive.mono_l k
    · intro y0 y1 y2 y3
      unfold logjamref19_Arrive.j0
      repeat' first
      | (with_reducible exact ih0 _ _ _ _)
      | (with_reducible exact logjamref02_Has.mono _ _ _)
      | (with_reducible exact logjamref02_With.mono _ _ _)
      | (with_reducible exact logjamref19_Missing.mono _ _ _)
      | (with_reducible exact LeO.refl _)
      | (with_reducible exact LeO.none _)
      | (with_reducible refine LeO.ite ?_ ?_)
      | (with_reducible refine LeO.bind ?_ (fun _ => ?_))
      | exact ih0 _ _ _ _
      | exact logjamref02_Has.mono _ _ _
      | exact logjamref02_With.mono _ _ _
      | exact logjamref19_Missing.mono _ _ _
      | exact LeO.none _
      | refine LeO.ite ?_ ?_
      | refine LeO.bind ?_ (fun _ => ?_)
theorem logjamref19_Arrive.mono : ∀ a0 a1 a2 k, LeO (logjamref19_Arrive.f k a0 a1 a2) (logjamref19_Arrive.f (k + 1) a0 a1 a2) := by
  intro a0 a1 a2 k
  have ih0 := logjamref19_Arrive.mono_l k
  unfold logjamref19_Arrive.f
  repeat' first
      | (with_reducible exact ih0 _ _ _ _)
      | (with_reducible exact logjamref02_Has.mono _ _ _)
      | (with_reducible exact logjamref02_With.mono _ _ _)
      | (with_reducible exact logjamref19_Missing.mono _ _ _)
      | (with_reducible exact LeO.refl _)
      | (with_reducible exact LeO.none _)
      | (with_reducible refine LeO.ite ?_ ?_)
      | (with_reducible refine LeO.bind ?_ (fun _ => ?_))
      | exact ih0 _ _ _ _
      | exact logjamref02_Has.mono _ _ _
      | exact logjamref02_With.mono _ _ _
      | exact logjamref19_Missing.mono _ _ _
      | exact LeO.none _
      | refine LeO.ite ?_ ?_
      | refine LeO.bind ?_ (fun _ => ?_)
def logjamref19_Arrive.T7 : Bool × List (List Nat × List Nat) := (true, [([], []), ([0], [0]), ([], []), ([2], [2]), ([], []), ([3, 4], [3, 4]), ([1, 5], [1, 5]), ([], []), ([7, 6, 5, 0, 1, 2, 3, 4, 5, 6, 7], [6, 7])])
def logjamref19_Arrive.B7 : List Nat := [0, 1, 0, 4, 0, 28, 63, 0, 255]
theorem logjamref19_Arrive.tab7 : rtab .any (opsOf Try.f58 7) = logjamref19_Arrive.T7 := by kernel_rfl
theorem logjamref19_Arrive.bits7 : waitsOk logjamref19_Arrive.T7.2 logjamref19_Arrive.B7 = true := by kernel_rfl
def logjamref19_Arrive.T9 : Bool × List (List Nat × List Nat) := (true, [([], []), ([0], [0]), ([1], [1]), ([], []), ([3], [3]), ([2, 0, 1, 2], [2]), ([4, 5, 0, 1, 2, 3, 4, 5], [4]), ([6, 0, 1, 2, 3, 4, 5, 6], []), ([7, 0, 1, 2, 3, 4, 5, 6, 7], [])])
def logjamref19_Arrive.B9 : List Nat := [0, 1, 3, 0, 8, 7, 63, 127, 255]
theorem logjamref19_Arrive.tab9 : rtab .any (opsOf Try.f58 9) = logjamref19_Arrive.T9 := by kernel_rfl
theorem logjamref19_Arrive.bits9 : waitsOk logjamref19_Arrive.T9.2 logjamref19_Arrive.B9 = true := by kernel_rfl
set_option maxHeartbeats 8000000 in
set_option maxRecDepth 100000 in
theorem logjamref19_Arrive.calls (k : Nat) (a0_0 : Int) (a0_1 : Int) (a1 : Int) (r1 : Int) (r2 : Int) (r3 : Int) (r4 : Bool) (r5 : Int) (w : World) (h : logjamref19_Arrive.f k a0_0 a0_1 a1 = some (r1, r2, r3, r4, r5)) :
    Calls Try.prog 58 #[.agg #[.int .u64 a0_0, .int .u64 a0_1], .int .i64 a1] w fun e w' => e = .returned (.tuple #[.agg #[.int .u64 r1, .int .u64 r2], .int .u64 r3, .bool r4, .int .i64 r5]) ∧ Below w.heap.size w w' := by
  have hu74 := Try.underlying74
  have HB := A0_ (Below.refl w.heap.size w)
  have H : (if a1 < 0 then (logjamref19_Arrive.j0 k a1 true a0_0 a0_1) else (logjamref19_Arrive.j0 k a1 (decide (a1 > 63)) a0_0 a0_1)) = some (r1, r2, r3, r4, r5) := h
  clear h
  have HC3 := A0_ H
  clear H
  go_enter Try.func58, Try.ntmps58
  go_upto_region 1 with (first|((with_reducible refine gate_dst (N := 2) rfl ?_); refine box_event ?hg (N := 2) ?hd (cs := #[.int .u64 a0_0, .int .u64 a0_1]) (t := 74) ?hr ?_; (case hd => rfl); (case hg => rfl); (case hr => first|(go_simp; done)|(go_simp; rfl)); intro gb149 hg w4 hbox hb; have n0_ := A0_ (below_step (by repeat (first|(with_reducible first|exact HB.out|apply ba_|apply pN_|apply b1_)|exact HB.out)) hb); have n1_ := A0_ (hbox); have n2_ := A0_ ((by rw [hg]; exact (below_size (by repeat (first|(with_reducible first|exact HB.out|apply ba_|apply pN_|apply b1_)|exact HB.out))) : w.heap.size ≤ gb149)); have n3_ := A0_ ((by rw [hg]; exact (below_size (by repeat (first|(with_reducible first|exact HB.out|apply ba_|apply pN_|apply b1_)|exact HB.out))) : w.heap.size ≤ gb149)); clear HB; have HB := n0_; have BK149 := n1_; have GW149 := n2_; have GE149 := n3_; clear n0_ n1_ n2_ n3_; clear hb hbox hg)|((with_reducible refine gate_dst (N := 4) rfl ?_); refine box_event ?hg (N := 4) ?hd (cs := #[.int .u64 0, .int .u64 0]) (t := 74) ?hr ?_; (case hd => rfl); (case hg => rfl); (case hr => first|(go_simp; done)|(go_simp; rfl)); intro gb150 hg w5 hbox hb; have n0_ := A0_ (blk_below (g := gb149) (o := .cells #[.int .u64 a0_0, .int .u64 a0_1] 74 (0, 0)) (by (with_reducible repeat first|refine bN_ ?_ _|refine bD_ ?_|refine bA_ ?_ _); exact BK149.out) hb); have n1_ := A0_ (below_step (by repeat (first|(with_reducible first|exact HB.out|apply ba_|apply pN_|apply b1_|refine bs_ ?_ GE149.out)|exact HB.out)) hb); have n2_ := A0_ (hbox); have n3_ := A0_ ((by rw [hg]; exact (below_size (by repeat (first|(with_reducible first|exact HB.out|apply ba_|apply pN_|apply b1_|refine bs_ ?_ GE149.out)|exact HB.out))) : w.heap.size ≤ gb150)); have n4_ := A0_ ((by rw [hg]; exact (below_size (by repeat (first|(with_reducible first|exact HB.out|apply ba_|apply pN_|apply b1_|refine bs_ ?_ GE149.out)|exact HB.out))) : w.heap.size ≤ gb150)); have n5_ := A0_ ((by rw [hg]; exact Nat.ne_of_lt (blk_lt (g := gb149) (o := .cells #[.int .u64 a0_0, .int .u64 a0_1] 74 (0, 0)) (by (with_reducible repeat first|refine bN_ ?_ _|refine bD_ ?_|refine bA_ ?_ _); exact BK149.out)) : gb149 ≠ gb150)); have n6_ := A0_ ((by rw [hg]; exact Nat.ne_of_gt (blk_lt (g := gb149) (o := .cells #[.int .u64 a0_0, .int .u64 a0_1] 74 (0, 0)) (by (with_reducible repeat first|refine bN_ ?_ _|refine bD_ ?_|refine bA_ ?_ _); exact BK149.out)) : gb150 ≠ gb149)); clear BK149; clear HB; have BK149 := n0_; have HB := n1_; have BK150 := n2_; have GW150 := n3_; have GE150 := n4_; have NB149_150 := n5_; have NB150_149 := n6_; clear n0_ n1_ n2_ n3_ n4_ n5_ n6_; clear hb hbox hg))
  (try simp only [Act.put, sA_, sZ_, sS_])
  go_cut [14] (fun v14 wc => ∃ (kq : Nat) (x14_2 : Bool), v14 = .bool x14_2 ∧ Aside0 (logjamref19_Arrive.j0 kq a1 x14_2 a0_0 a0_1 = some (r1, r2, r3, r4, r5)) ∧ Aside0 (kq ≤ k) ∧ Aside0 (wc.heap[gb149]? = some (.cells #[.int .u64 a0_0, .int .u64 a0_1] 74 (0, 0))) ∧ Aside0 (wc.heap[gb150]? = some (.cells #[.int .u64 0, .int .u64 0] 74 (0, 0))) ∧ Aside0 (Below w.heap.size w wc))
  case first =>
    have H := HC3.out
    clear HC3
    by_cases c6 : a1 < 0
    · rw [if_pos c6] at H
      have c6b0 : decide (a1 < 0) = true := decide_eq_true c6
      clear c6
      (first|rw [c6b0]|(simp only [i64_w, i32_w]; rw [c6b0])|skip)
      have H' := A0_ H
      clear H
      go_wp2
      go_meet
      case rel => exact ⟨_, (true), (by first|rfl|(simp; done)|(simp [*]; done)), H', ⟨by first|omega|exact Nat.le_refl _⟩, ⟨by (with_reducible repeat first|refine bN_ ?_ _|refine bD_ ?_|refine bA_ ?_ _); exact BK149.out⟩, ⟨by (with_reducible repeat first|refine bN_ ?_ _|refine bD_ ?_|refine bA_ ?_ _); exact BK150.out⟩, ⟨by repeat (first|(with_reducible first|exact HB.out|apply ba_|apply pN_|apply b1_|refine bs_ ?_ GE149.out|refine bs_ ?_ GE150.out)|exact HB.out)⟩⟩
    · rw [if_neg c6] at H
      have c6b0 : decide (a1 < 0) = false := decide_eq_false c6
      clear c6
      (first|rw [c6b0]|(simp only [i64_w, i32_w]; rw [c6b0])|skip)
      have H' := A0_ H
      clear H
      go_wp2
      go_meet
      case rel => exact ⟨_, (decide (a1 > 63)), (by first|rfl|(simp; done)|(simp [*]; done)), H', ⟨by first|omega|exact Nat.le_refl _⟩, ⟨by (with_reducible repeat first|refine bN_ ?_ _|refine bD_ ?_|refine bA_ ?_ _); exact BK149.out⟩, ⟨by (with_reducible repeat first|refine bN_ ?_ _|refine bD_ ?_|refine bA_ ?_ _); exact BK150.out⟩, ⟨by repeat (first|(with_reducible first|exact HB.out|apply ba_|apply pN_|apply b1_|refine bs_ ?_ GE149.out|refine bs_ ?_ GE150.out)|exact HB.out)⟩⟩
  case rest =>
    clear HC3
    try clear p2
    try clear c5
    try clear c6
    try clear c6b0
    obtain ⟨kq, x14_2, rfl, HA, HJ2, BK149, BK150, HB⟩ := hcut
    cases kq with
    | zero => exact absurd HA.out (by simp [logjamref19_Arrive.j0])
    | succ kj2 =>
      have H := HA.out
      clear HA
      simp only [logjamref19_Arrive.j0] at H
      by_cases c7 : x14_2 = true
      · subst c7
        have H1 : (some (a0_0, a0_1, 0, false, 1)) = some (r1, r2, r3, r4, r5) := by rw [if_pos rfl] at H; exact H
        clear H
        have H := H1
        clear H1
        simp only [Option.some.injEq, Prod.mk.injEq] at H
        obtain ⟨rfl, rfl, rfl, rfl, rfl⟩ := H
        have hnb8 := NB149_150.out
        have hnc8 := NB150_149.out
        have hcz9_0 : wc.cell? ⟨gb149, 0, none⟩ = some (.int .u64 a0_0) := (blk_cell BK149.out 0).trans rfl
        have hcz9_1 : wc.cell? ⟨gb149, 1, none⟩ = some (.int .u64 a0_1) := (blk_cell BK149.out 1).trans rfl
        have hfz9_0 := blk_frozen BK149.out 0
        have hfz9_1 := blk_frozen BK149.out 1
        have hcz10_0 : wc.cell? ⟨gb150, 0, none⟩ = some (.int .u64 0) := (blk_cell BK150.out 0).trans rfl
        have hcz10_1 : wc.cell? ⟨gb150, 1, none⟩ = some (.int .u64 0) := (blk_cell BK150.out 1).trans rfl
        have hfz10_0 := blk_frozen BK150.out 0
        have hfz10_1 := blk_frozen BK150.out 1
        go_wp2
        refine bodyPost_ret (results_list (rs := [.cell 4 74, .tmp 5, .tmp 6, .tmp 7]) rfl (by simp) (.cell gb150 74 #[.int .u64 a0_0, .int .u64 a0_1] (0, 0) _ rfl (by (with_reducible repeat first|refine bN_ ?_ _|refine bD_ ?_|refine bA_ ?_ _); refine blk_put (cs := #[.int .u64 a0_0, .int .u64 0]) ?_ 1 _ rfl; (with_reducible repeat first|refine bN_ ?_ _|refine bD_ ?_|refine bA_ ?_ _); refine blk_put (cs := #[.int .u64 0, .int .u64 0]) ?_ 0 _ rfl; (with_reducible repeat first|refine bN_ ?_ _|refine bD_ ?_|refine bA_ ?_ _); exact BK150.out) Try.underlying74 rfl (by kernel_rfl) (.tmp (.tmp (.tmp .nil))))) rfl ?_
        exact ⟨by first|rfl|(simp [errW_none, errW_some] <;> rfl)|(simp [*, errW_none, errW_some] <;> rfl), by repeat (first|(with_reducible first|exact HB.out|apply ba_|apply pN_|apply b1_|refine bs_ ?_ GE149.out|refine bs_ ?_ GE150.out)|exact HB.out)⟩
      · replace c7 := Bool.eq_false_iff.mpr c7
        subst c7
        have H1 : ((logjamref02_Has.f kj2 a0_0 a1).bind fun t151 => (if t151 = true then ((logjamref02_Has.f kj2 a0_1 a1).bind fun t152 => (if t152 = true then (some (a0_0, a0_1, 0, false, 7)) else ((logjamref02_With.f kj2 a0_1 a1).bind fun t153 => ((logjamref19_Missing.f kj2 a0_0 t153).bind fun t155 => (if t155 = 0 then (some (a0_0, 0, a0_1, true, 0)) else (some (a0_0, t153, 0, false, 0))))))) else (some (a0_0, a0_1, 0, false, 9)))) = some (r1, r2, r3, r4, r5) := by rw [if_neg (show ¬ (false = true) by decide)] at H; exact H
        clear H
        have H := H1
        clear H1
        replace H := bm_ H
        obtain ⟨t151, A110, H⟩ := H
        replace H : (if t151 = true then ((logjamref02_Has.f kj2 a0_1 a1).bind fun t152 => (if t152 = true then (some (a0_0, a0_1, 0, false, 7)) else ((logjamref02_With.f kj2 a0_1 a1).bind fun t153 => ((logjamref19_Missing.f kj2 a0_0 t153).bind fun t155 => (if t155 = 0 then (some (a0_0, 0, a0_1, true, 0)) else (some (a0_0, t153, 0, false, 0))))))) else (some (a0_0, a0_1, 0, false, 9))) = some (r1, r2, r3, r4, r5) := H
        have A11 := A0_ A110
        clear A110
        by_cases c12 : t151 = true
        · subst c12
          have H1 : ((logjamref02_Has.f kj2 a0_1 a1).bind fun t152 => (if t152 = true then (some (a0_0, a0_1, 0, false, 7)) else ((logjamref02_With.f kj2 a0_1 a1).bind fun t153 => ((logjamref19_Missing.f kj2 a0_0 t153).bind fun t155 => (if t155 = 0 then (some (a0_0, 0, a0_1, true, 0)) else (some (a0_0, t153, 0, false, 0))))))) = some (r1, r2, r3, r4, r5) := by rw [if_pos rfl] at H; exact H
          clear H
          have H := H1
          clear H1
          replace H := bm_ H
          obtain ⟨t152, A130, H⟩ := H
          replace H : (if t152 = true then (some (a0_0, a0_1, 0, false, 7)) else ((logjamref02_With.f kj2 a0_1 a1).bind fun t153 => ((logjamref19_Missing.f kj2 a0_0 t153).bind fun t155 => (if t155 = 0 then (some (a0_0, 0, a0_1, true, 0)) else (some (a0_0, t153, 0, false, 0)))))) = some (r1, r2, r3, r4, r5) := H
          have A13 := A0_ A130
          clear A130
          by_cases c14 : t152 = true
          · subst c14
            have H1 : (some (a0_0, a0_1, 0, false, 7)) = some (r1, r2, r3, r4, r5) := by rw [if_pos rfl] at H; exact H
            clear H
            have H := H1
            clear H1
            simp only [Option.some.injEq, Prod.mk.injEq] at H
            obtain ⟨rfl, rfl, rfl, rfl, rfl⟩ := H
            have hnb15 := NB149_150.out
            have hnc15 := NB150_149.out
            have hcz16_0 : wc.cell? ⟨gb149, 0, none⟩ = some (.int .u64 a0_0) := (blk_cell BK149.out 0).trans rfl
            have hcz16_1 : wc.cell? ⟨gb149, 1, none⟩ = some (.int .u64 a0_1) := (blk_cell BK149.out 1).trans rfl
            have hfz16_0 := blk_frozen BK149.out 0
            have hfz16_1 := blk_frozen BK149.out 1
            go_wp2_with (first|((with_reducible refine gate_callee (f := 65) rfl ?_); refine goesL_ (some 19) rfl rfl Try.func65 (by kernel_rfl) rfl #[.int .u64 a0_0, .int .i64 a1] rfl (by first|(simp only [List.map_toArray, List.map_cons, List.map_nil] <;> rfl)|rfl|(simp only [List.length_drop, List.length_take]; rfl)) ?_; (with_reducible refine (logjamref02_Has.calls kj2 a0_0 a1 true _ A11.out).mono ?_); rintro e w' ⟨rfl, ⟨nd, rfl⟩⟩; refine ⟨_, rfl, ?_⟩; (try (rw [drewN_self wc]; generalize hq_ : World.drewN wc _ = wc; have n0_ : Aside0 (wc.heap[gb149]? = some (.cells #[.int .u64 a0_0, .int .u64 a0_1] 74 (0, 0))) := ⟨by rw [← hq_]; exact (by (with_reducible repeat first|refine bN_ ?_ _|refine bD_ ?_|refine bA_ ?_ _); exact BK149.out)⟩; have n1_ : Aside0 (wc.heap[gb150]? = some (.cells #[.int .u64 0, .int .u64 0] 74 (0, 0))) := ⟨by rw [← hq_]; exact (by (with_reducible repeat first|refine bN_ ?_ _|refine bD_ ?_|refine bA_ ?_ _); exact BK150.out)⟩; have n2_ : Aside0 (Below w.heap.size w wc) := ⟨by rw [← hq_]; exact (by repeat (first|(with_reducible first|exact HB.out|apply ba_|apply pN_|apply b1_|refine bs_ ?_ GE149.out|refine bs_ ?_ GE150.out)|exact HB.out))⟩; clear BK149 BK150 HB hq_; have BK149 := n0_; have BK150 := n1_; have HB := n2_; clear n0_ n1_ n2_)); have hcz17_0 : wc.cell? ⟨gb149, 0, none⟩ = some (.int .u64 a0_0) := (blk_cell BK149.out 0).trans rfl; have hcz17_1 : wc.cell? ⟨gb149, 1, none⟩ = some (.int .u64 a0_1) := (blk_cell BK149.out 1).trans rfl; have hfz17_0 := blk_frozen BK149.out 0; have hfz17_1 := blk_frozen BK149.out 1)|((with_reducible refine gate_callee (f := 65) rfl ?_); refine goesL_ (some 25) rfl rfl Try.func65 (by kernel_rfl) rfl #[.int .u64 a0_1, .int .i64 a1] rfl (by first|(simp only [List.map_toArray, List.map_cons, List.map_nil] <;> rfl)|rfl|(simp only [List.length_drop, List.length_take]; rfl)) ?_; (with_reducible refine (logjamref02_Has.calls kj2 a0_1 a1 true _ A13.out).mono ?_); rintro e w' ⟨rfl, ⟨nd, rfl⟩⟩; refine ⟨_, rfl, ?_⟩; (try (rw [drewN_self wc]; generalize hq_ : World.drewN wc _ = wc; have n0_ : Aside0 (wc.heap[gb149]? = some (.cells #[.int .u64 a0_0, .int .u64 a0_1] 74 (0, 0))) := ⟨by rw [← hq_]; exact (by (with_reducible repeat first|refine bN_ ?_ _|refine bD_ ?_|refine bA_ ?_ _); exact BK149.out)⟩; have n1_ : Aside0 (wc.heap[gb150]? = some (.cells #[.int .u64 0, .int .u64 0] 74 (0, 0))) := ⟨by rw [← hq_]; exact (by (with_reducible repeat first|refine bN_ ?_ _|refine bD_ ?_|refine bA_ ?_ _); exact BK150.out)⟩; have n2_ : Aside0 (Below w.heap.size w wc) := ⟨by rw [← hq_]; exact (by repeat (first|(with_reducible first|exact HB.out|apply ba_|apply pN_|apply b1_|refine bs_ ?_ GE149.out|refine bs_ ?_ GE150.out)|exact HB.out))⟩; clear BK149 BK150 HB hq_; have BK149 := n0_; have BK150 := n1_; have HB := n2_; clear n0_ n1_ n2_)); have hcz18_0 : wc.cell? ⟨gb149, 0, none⟩ = some (.int .u64 a0_0) := (blk_cell BK149.out 0).trans rfl; have hcz18_1 : wc.cell? ⟨gb149, 1, none⟩ = some (.int .u64 a0_1) := (blk_cell BK149.out 1).trans rfl; have hfz18_0 := blk_frozen BK149.out 0; have hfz18_1 := blk_frozen BK149.out 1; have hcz19_0 : wc.cell? ⟨gb150, 0, none⟩ = some (.int .u64 0) := (blk_cell BK150.out 0).trans rfl; have hcz19_1 : wc.cell? ⟨gb150, 1, none⟩ = some (.int .u64 0) := (blk_cell BK150.out 1).trans rfl; have hfz19_0 := blk_frozen BK150.out 0; have hfz19_1 := blk_frozen BK150.out 1))
            refine bodyPost_ret (results_list (rs := [.cell 4 74, .tmp 5, .tmp 6, .tmp 7]) rfl (by simp) (.cell gb150 74 #[.int .u64 a0_0, .int .u64 a0_1] (0, 0) _ rfl (by (with_reducible repeat first|refine bN_ ?_ _|refine bD_ ?_|refine bA_ ?_ _); refine blk_put (cs := #[.int .u64 a0_0, .int .u64 0]) ?_ 1 _ rfl; (with_reducible repeat first|refine bN_ ?_ _|refine bD_ ?_|refine bA_ ?_ _); refine blk_put (cs := #[.int .u64 0, .int .u64 0]) ?_ 0 _ rfl; (with_reducible repeat first|refine bN_ ?_ _|refine bD_ ?_|refine bA_ ?_ _); exact BK150.out) Try.underlying74 rfl (by kernel_rfl) (.tmp (.tmp (.tmp .nil))))) rfl ?_
            exact ⟨by first|rfl|(simp [errW_none, errW_some] <;> rfl)|(simp [*, errW_none, errW_some] <;> rfl), by repeat (first|(with_reducible first|exact HB.out|apply ba_|apply pN_|apply b1_|refine bs_ ?_ GE149.out|refine bs_ ?_ GE150.out)|exact HB.out)⟩
          · replace c14 := Bool.eq_false_iff.mpr c14
            subst c14
            have H1 : ((logjamref02_With.f kj2 a0_1 a1).bind fun t153 => ((logjamref19_Missing.f kj2 a0_0 t153).bind fun t155 => (if t155 = 0 then (some (a0_0, 0, a0_1, true, 0)) else (some (a0_0, t153, 0, false, 0))))) = some (r1, r2, r3, r4, r5) := by rw [if_neg (show ¬ (false = true) by decide)] at H; exact H
            clear H
            have H := H1
            clear H1
            replace H := bm_ H
            obtain ⟨t153, A200, H⟩ := H
            replace H : ((logjamref19_Missing.f kj2 a0_0 t153).bind fun t155 => (if t155 = 0 then (some (a0_0, 0, a0_1, true, 0)) else (some (a0_0, t153, 0, false, 0)))) = some (r1, r2, r3, r4, r5) := H
            have A20 := A0_ A200
            clear A200
            replace H := bm_ H
            obtain ⟨t155, A210, H⟩ := H
            replace H : (if t155 = 0 then (some (a0_0, 0, a0_1, true, 0)) else (some (a0_0, t153, 0, false, 0))) = some (r1, r2, r3, r4, r5) := H
            have A21 := A0_ A210
            clear A210
            by_cases c22 : t155 = 0
            · rw [if_pos c22] at H
              have c22b0 : (t155 == 0) = true := beq_iff_eq.mpr c22
              have c22b1 : (t155 != 0) = false := bne_eq_false_iff_eq.mpr c22
              clear c22
              simp only [Option.some.injEq, Prod.mk.injEq] at H
              obtain ⟨rfl, rfl, rfl, rfl, rfl⟩ := H
              have hnb23 := NB149_150.out
              have hnc23 := NB150_149.out
              have hcz24_0 : wc.cell? ⟨gb149, 0, none⟩ = some (.int .u64 a0_0) := (blk_cell BK149.out 0).trans rfl
              have hcz24_1 : wc.cell? ⟨gb149, 1, none⟩ = some (.int .u64 a0_1) := (blk_cell BK149.out 1).trans rfl
              have hfz24_0 := blk_frozen BK149.out 0
              have hfz24_1 := blk_frozen BK149.out 1
              try go_wp2_with (first|((with_reducible refine gate_callee (f := 65) rfl ?_); refine goesL_ (some 19) rfl rfl Try.func65 (by kernel_rfl) rfl #[.int .u64 a0_0, .int .i64 a1] rfl (by first|(simp only [List.map_toArray, List.map_cons, List.map_nil] <;> rfl)|rfl|(simp only [List.length_drop, List.length_take]; rfl)) ?_; (with_reducible refine (logjamref02_Has.calls kj2 a0_0 a1 true _ A11.out).mono ?_); rintro e w' ⟨rfl, ⟨nd, rfl⟩⟩; refine ⟨_, rfl, ?_⟩; (try (rw [drewN_self wc]; generalize hq_ : World.drewN wc _ = wc; have n0_ : Aside0 (wc.heap[gb149]? = some (.cells #[.int .u64 a0_0, .int .u64 a0_1] 74 (0, 0))) := ⟨by rw [← hq_]; exact (by (with_reducible repeat first|refine bN_ ?_ _|refine bD_ ?_|refine bA_ ?_ _); exact BK149.out)⟩; have n1_ : Aside0 (wc.heap[gb150]? = some (.cells #[.int .u64 0, .int .u64 0] 74 (0, 0))) := ⟨by rw [← hq_]; exact (by (with_reducible repeat first|refine bN_ ?_ _|refine bD_ ?_|refine bA_ ?_ _); exact BK150.out)⟩; have n2_ : Aside0 (Below w.heap.size w wc) := ⟨by rw [← hq_]; exact (by repeat (first|(with_reducible first|exact HB.out|apply ba_|apply pN_|apply b1_|refine bs_ ?_ GE149.out|refine bs_ ?_ GE150.out)|exact HB.out))⟩; clear BK149 BK150 HB hq_; have BK149 := n0_; have BK150 := n1_; have HB := n2_; clear n0_ n1_ n2_)); have hcz25_0 : wc.cell? ⟨gb149, 0, none⟩ = some (.int .u64 a0_0) := (blk_cell BK149.out 0).trans rfl; have hcz25_1 : wc.cell? ⟨gb149, 1, none⟩ = some (.int .u64 a0_1) := (blk_cell BK149.out 1).trans rfl; have hfz25_0 := blk_frozen BK149.out 0; have hfz25_1 := blk_frozen BK149.out 1)|((with_reducible refine gate_callee (f := 65) rfl ?_); refine goesL_ (some 25) rfl rfl Try.func65 (by kernel_rfl) rfl #[.int .u64 a0_1, .int .i64 a1] rfl (by first|(simp only [List.map_toArray, List.map_cons, List.map_nil] <;> rfl)|rfl|(simp only [List.length_drop, List.length_take]; rfl)) ?_; (with_reducible refine (logjamref02_Has.calls kj2 a0_1 a1 false _ A13.out).mono ?_); rintro e w' ⟨rfl, ⟨nd, rfl⟩⟩; refine ⟨_, rfl, ?_⟩; (try (rw [drewN_self wc]; generalize hq_ : World.drewN wc _ = wc; have n0_ : Aside0 (wc.heap[gb149]? = some (.cells #[.int .u64 a0_0, .int .u64 a0_1] 74 (0, 0))) := ⟨by rw [← hq_]; exact (by (with_reducible repeat first|refine bN_ ?_ _|refine bD_ ?_|refine bA_ ?_ _); exact BK149.out)⟩; have n1_ : Aside0 (wc.heap[gb150]? = some (.cells #[.int .u64 0, .int .u64 0] 74 (0, 0))) := ⟨by rw [← hq_]; exact (by (with_reducible repeat first|refine bN_ ?_ _|refine bD_ ?_|refine bA_ ?_ _); exact BK150.out)⟩; have n2_ : Aside0 (Below w.heap.size w wc) := ⟨by rw [← hq_]; exact (by repeat (first|(with_reducible first|exact HB.out|apply ba_|apply pN_|apply b1_|refine bs_ ?_ GE149.out|refine bs_ ?_ GE150.out)|exact HB.out))⟩; clear BK149 BK150 HB hq_; have BK149 := n0_; have BK150 := n1_; have HB := n2_; clear n0_ n1_ n2_))))
              have n0_ := A0_ (blk_drew BK149.out)
              have n1_ := A0_ (blk_drew BK150.out)
              have n2_ := A0_ (b1_ HB.out)
              clear BK149
              clear BK150
              clear HB
              have BK149 := n0_
              have BK150 := n1_
              have HB := n2_
              clear n0_ n1_ n2_
              refine start_ (n := 9) (S := fun w' => w'.cell? ⟨gb149, 0, none⟩ = some (.int .u64 a0_0) ∧ w'.cell? ⟨gb149, 1, none⟩ = some (.int .u64 a0_1)) (ds := []) #[false, false, false, false, false, false, false, false, false] (by kernel_rfl) rfl rfl ⟨(blk_cell BK149.out 0).trans rfl, (blk_cell BK149.out 1).trans rfl⟩ (fun hHeld => ?_); refine with_tabW logjamref19_Arrive.tab7 logjamref19_Arrive.bits7 (fun HT_ HW_ => ?_)
              generalize wc.drew = w26 at BK149 BK150 HB hHeld ⊢
              refine pure_ (i := 0) (N := some 27) (v := ?_) (a' := ?_) #[true, false, false, false, false, false, false, false, false] rfl rfl (any_of HT_.out (by kernel_rfl)) (fun _ _ _ h => h) (Or.inl ⟨by rfl, ?_⟩) ?_ ?_
              rotate_left
              · intro w'
                go_simp
                with_reducible rfl
              rotate_left
              · simp only [Act.put, sA_, sZ_, sS_, i64_w, i32_w]
                rfl
              refine pure_ (i := 2) (N := some 29) (v := ?_) (a' := ?_) #[true, false, true, false, false, false, false, false, false] rfl rfl (any_of HT_.out (by kernel_rfl)) (fun _ _ _ h => h) (Or.inl ⟨by rfl, ?_⟩) ?_ ?_
              rotate_left
              · intro w'
                go_simp
                with_reducible rfl
              rotate_left
              · simp only [Act.put, sA_, sZ_, sS_, i64_w, i32_w]
                rfl
              refine pure_ (i := 4) (N := some 31) (v := ?_) (a' := ?_) #[true, false, true, false, true, false, false, false, false] rfl rfl (any_of HT_.out (by kernel_rfl)) (fun _ _ _ h => h) (Or.inl ⟨by rfl, ?_⟩) ?_ ?_
              rotate_left
              · intro w'
                go_simp
                with_reducible rfl
              rotate_left
              · simp only [Act.put, sA_, sZ_, sS_, i64_w, i32_w]
                rfl
              refine take_ (i := 1) (N := some 28) (v := ?_) (a' := ?_) #[true, true, true, false, true, false, false, false, false] rfl rfl (take_ofW HT_.out HW_.out (by kernel_rfl)) (fun _ _ _ h => h) (Or.inl ⟨by rfl, ?_⟩) hHeld ?_ ?_
              rotate_left
              · rintro w' ⟨s0, s1⟩
                go_simp
                with_reducible rfl
              rotate_left
              · simp only [Act.put, sA_, sZ_, sS_, i64_w, i32_w]
                rfl
              refine take_ (i := 3) (N := some 30) (v := ?_) (a' := ?_) #[true, true, true, true, true, false, false, false, false] rfl rfl (take_ofW HT_.out HW_.out (by kernel_rfl)) (fun _ _ _ h => h) (Or.inl ⟨by rfl, ?_⟩) hHeld ?_ ?_
              rotate_left
              · rintro w' ⟨s0, s1⟩
                go_simp
                with_reducible rfl
              rotate_left
              · simp only [Act.put, sA_, sZ_, sS_, i64_w, i32_w]
                rfl
              refine join_ (σ := Nat) 1 #[true, true, true, true, true, true, true, true, false] (fun s_ => [(32, .int .u64 t153), (8, .pointer (some ⟨s_, 0, none⟩)), (33, .agg #[.int .u64 a0_0, .int .u64 t153])]) (fun s_ w' => (w'.cell? ⟨gb149, 0, none⟩ = some (.int .u64 a0_0) ∧ w'.cell? ⟨gb149, 1, none⟩ = some (.int .u64 a0_1)) ∧ (w'.heap[gb149]? = some (.cells #[.int .u64 a0_0, .int .u64 a0_1] 74 (0, 0))) ∧ (w'.heap[gb150]? = some (.cells #[.int .u64 0, .int .u64 0] 74 (0, 0))) ∧ (w'.heap[s_]? = some (.cells #[.int .u64 0, .int .u64 0] 74 (0, 0))) ∧ (w.heap.size ≤ s_) ∧ (w.heap.size ≤ s_) ∧ (gb149 ≠ s_) ∧ (s_ ≠ gb149) ∧ (gb150 ≠ s_) ∧ (s_ ≠ gb150) ∧ (Below w.heap.size w w')) ?_ ?_
              rotate_left
              · intro hCont
                refine two_ (i := 5) (j := 7) (Ni := some 32) (Nj := some 8) #[true, true, true, true, true, true, false, false, false] #[true, true, true, true, true, false, false, true, false] rfl rfl rfl rfl (two_of HT_.out (by kernel_rfl)) (by decide) (by decide) (fun K hK => ?_) (fun K hK => ?_)
                · skip
                  refine goes_ Try.func66 (by kernel_rfl) rfl #[.int .u64 a0_1, .int .i64 a1] (by rfl) rfl rfl (by first|(simp only [List.map_toArray, List.map_cons, List.map_nil] <;> rfl)|rfl|(simp only [List.length_drop, List.length_take]; rfl)) ?_
                  with_reducible refine (logjamref02_With.calls kj2 a0_1 a1 t153 _ A20.out).mono ?_
                  rintro e w' ⟨rfl, ⟨nd, rfl⟩⟩
                  refine ⟨_, rfl, ?_⟩
                  refine hK.out _ _ ⟨(blk_cell BK149.out 0).trans rfl, (blk_cell BK149.out 1).trans rfl⟩ (fun hHeld => ?_)
                  clear hK K
                  refine norm_ (a' := ?_) ?_ ?_
                  rotate_left
                  · show Act.put _ (some 32) _ = _
                    simp only [Act.put, sA_, sZ_, sS_, i64_w, i32_w]
                    rfl
                  refine pure_ (i := 6) (N := some 33) (v := ?_) (a' := ?_) #[true, true, true, true, true, true, true, false, false] rfl rfl (any_of HT_.out (by kernel_rfl)) (fun _ _ _ h => h) (Or.inl ⟨by rfl, ?_⟩) ?_ ?_
                  rotate_left
                  · intro w'
                    go_simp
                    with_reducible rfl
                  rotate_left
                  · simp only [Act.put, sA_, sZ_, sS_, i64_w, i32_w]
                    rfl
                  refine one_ (i := 7) (N := some 8) #[true, true, true, true, true, true, true, true, false] rfl rfl (one_of HT_.out (by kernel_rfl)) (by decide) (fun K hK => ?_)
                  refine box_step ?hg (N := 8) ?hd (cs := #[.int .u64 0, .int .u64 0]) (t := 74) ?hr ?_; (case hd => rfl); (case hg => rfl); (case hr => first|(go_simp; done)|(go_simp; rfl))
                  intro gb154 hg w27 hbox hb
                  have n0_ := A0_ (blk_below (g := gb149) (o := .cells #[.int .u64 a0_0, .int .u64 a0_1] 74 (0, 0)) (by (with_reducible repeat first|refine bN_ ?_ _|refine bD_ ?_|refine bA_ ?_ _); exact BK149.out) hb)
                  have n1_ := A0_ (blk_below (g := gb150) (o := .cells #[.int .u64 0, .int .u64 0] 74 (0, 0)) (by (with_reducible repeat first|refine bN_ ?_ _|refine bD_ ?_|refine bA_ ?_ _); exact BK150.out) hb)
                  have n2_ := A0_ (below_step (by repeat (first|(with_reducible first|exact HB.out|apply ba_|apply pN_|apply b1_|refine bs_ ?_ GE149.out|refine bs_ ?_ GE150.out)|exact HB.out)) hb)
                  have n3_ := A0_ (hbox)
                  have n4_ := A0_ ((by rw [hg]; exact (below_size (by repeat (first|(with_reducible first|exact HB.out|apply ba_|apply pN_|apply b1_|refine bs_ ?_ GE149.out|refine bs_ ?_ GE150.out)|exact HB.out))) : w.heap.size ≤ gb154))
                  have n5_ := A0_ ((by rw [hg]; exact (below_size (by repeat (first|(with_reducible first|exact HB.out|apply ba_|apply pN_|apply b1_|refine bs_ ?_ GE149.out|refine bs_ ?_ GE150.out)|exact HB.out))) : w.heap.size ≤ gb154))
                  have n6_ := A0_ ((by rw [hg]; exact Nat.ne_of_lt (blk_lt (g := gb149) (o := .cells #[.int .u64 a0_0, .int .u64 a0_1] 74 (0, 0)) (by (with_reducible repeat first|refine bN_ ?_ _|refine bD_ ?_|refine bA_ ?_ _); exact BK149.out)) : gb149 ≠ gb154))
                  have n7_ := A0_ ((by rw [hg]; exact Nat.ne_of_gt (blk_lt (g := gb149) (o := .cells #[.int .u64 a0_0, .int .u64 a0_1] 74 (0, 0)) (by (with_reducible repeat first|refine bN_ ?_ _|refine bD_ ?_|refine bA_ ?_ _); exact BK149.out)) : gb154 ≠ gb149))
                  have n8_ := A0_ ((by rw [hg]; exact Nat.ne_of_lt (blk_lt (g := gb150) (o := .cells #[.int .u64 0, .int .u64 0] 74 (0, 0)) (by (with_reducible repeat first|refine bN_ ?_ _|refine bD_ ?_|refine bA_ ?_ _); exact BK150.out)) : gb150 ≠ gb154))
                  have n9_ := A0_ ((by rw [hg]; exact Nat.ne_of_gt (blk_lt (g := gb150) (o := .cells #[.int .u64 0, .int .u64 0] 74 (0, 0)) (by (with_reducible repeat first|refine bN_ ?_ _|refine bD_ ?_|refine bA_ ?_ _); exact BK150.out)) : gb154 ≠ gb150))
                  clear BK149
                  clear BK150
                  clear HB
                  have BK149 := n0_
                  have BK150 := n1_
                  have HB := n2_
                  have BK154 := n3_
                  have GW154 := n4_
                  have GE154 := n5_
                  have NB149_154 := n6_
                  have NB154_149 := n7_
                  have NB150_154 := n8_
                  have NB154_150 := n9_
                  clear n0_ n1_ n2_ n3_ n4_ n5_ n6_ n7_ n8_ n9_
                  clear hb hbox hg
                  refine hK.out _ _ ⟨(blk_cell BK149.out 0).trans rfl, (blk_cell BK149.out 1).trans rfl⟩ (fun hHeld => ?_)
                  clear hK K
                  refine norm_ (a' := ?_) ?_ ?_
                  rotate_left
                  · show Act.put _ (some 8) _ = _
                    simp only [Act.put, sA_, sZ_, sS_, i64_w, i32_w]
                    rfl
                  exact norm_ (by simp only [putAll, Act.put, sA_, sZ_, sS_]) (hCont (gb154) _ ⟨hHeld, (by (with_reducible repeat first|refine bN_ ?_ _|refine bD_ ?_|refine bA_ ?_ _); exact BK149.out), (by (with_reducible repeat first|refine bN_ ?_ _|refine bD_ ?_|refine bA_ ?_ _); exact BK150.out), (by (with_reducible repeat first|refine bN_ ?_ _|refine bD_ ?_|refine bA_ ?_ _); exact BK154.out), GW154.out, GE154.out, NB149_154.out, NB154_149.out, NB150_154.out, NB154_150.out, (by repeat (first|(with_reducible first|exact HB.out|apply ba_|apply pN_|apply b1_|refine bs_ ?_ GE149.out|refine bs_ ?_ GE150.out|refine bs_ ?_ GE154.out)|exact HB.out))⟩)
                · skip
                  refine box_step ?hg (N := 8) ?hd (cs := #[.int .u64 0, .int .u64 0]) (t := 74) ?hr ?_; (case hd => rfl); (case hg => rfl); (case hr => first|(go_simp; done)|(go_simp; rfl))
                  intro gb154 hg w27 hbox hb
                  have n0_ := A0_ (blk_below (g := gb149) (o := .cells #[.int .u64 a0_0, .int .u64 a0_1] 74 (0, 0)) (by (with_reducible repeat first|refine bN_ ?_ _|refine bD_ ?_|refine bA_ ?_ _); exact BK149.out) hb)
                  have n1_ := A0_ (blk_below (g := gb150) (o := .cells #[.int .u64 0, .int .u64 0] 74 (0, 0)) (by (with_reducible repeat first|refine bN_ ?_ _|refine bD_ ?_|refine bA_ ?_ _); exact BK150.out) hb)
                  have n2_ := A0_ (below_step (by repeat (first|(with_reducible first|exact HB.out|apply ba_|apply pN_|apply b1_|refine bs_ ?_ GE149.out|refine bs_ ?_ GE150.out)|exact HB.out)) hb)
                  have n3_ := A0_ (hbox)
                  have n4_ := A0_ ((by rw [hg]; exact (below_size (by repeat (first|(with_reducible first|exact HB.out|apply ba_|apply pN_|apply b1_|refine bs_ ?_ GE149.out|refine bs_ ?_ GE150.out)|exact HB.out))) : w.heap.size ≤ gb154))
                  have n5_ := A0_ ((by rw [hg]; exact (below_size (by repeat (first|(with_reducible first|exact HB.out|apply ba_|apply pN_|apply b1_|refine bs_ ?_ GE149.out|refine bs_ ?_ GE150.out)|exact HB.out))) : w.heap.size ≤ gb154))
                  have n6_ := A0_ ((by rw [hg]; exact Nat.ne_of_lt (blk_lt (g := gb149) (o := .cells #[.int .u64 a0_0, .int .u64 a0_1] 74 (0, 0)) (by (with_reducible repeat first|refine bN_ ?_ _|refine bD_ ?_|refine bA_ ?_ _); exact BK149.out)) : gb149 ≠ gb154))
                  have n7_ := A0_ ((by rw [hg]; exact Nat.ne_of_gt (blk_lt (g := gb149) (o := .cells #[.int .u64 a0_0, .int .u64 a0_1] 74 (0, 0)) (by (with_reducible repeat first|refine bN_ ?_ _|refine bD_ ?_|refine bA_ ?_ _); exact BK149.out)) : gb154 ≠ gb149))
                  have n8_ := A0_ ((by rw [hg]; exact Nat.ne_of_lt (blk_lt (g := gb150) (o := .cells #[.int .u64 0, .int .u64 0] 74 (0, 0)) (by (with_reducible repeat first|refine bN_ ?_ _|refine bD_ ?_|refine bA_ ?_ _); exact BK150.out)) : gb150 ≠ gb154))
                  have n9_ := A0_ ((by rw [hg]; exact Nat.ne_of_gt (blk_lt (g := gb150) (o := .cells #[.int .u64 0, .int .u64 0] 74 (0, 0)) (by (with_reducible repeat first|refine bN_ ?_ _|refine bD_ ?_|refine bA_ ?_ _); exact BK150.out)) : gb154 ≠ gb150))
                  clear BK149
                  clear BK150
                  clear HB
                  have BK149 := n0_
                  have BK150 := n1_
                  have HB := n2_
                  have BK154 := n3_
                  have GW154 := n4_
                  have GE154 := n5_
                  have NB149_154 := n6_
                  have NB154_149 := n7_
                  have NB150_154 := n8_
                  have NB154_150 := n9_
                  clear n0_ n1_ n2_ n3_ n4_ n5_ n6_ n7_ n8_ n9_
                  clear hb hbox hg
                  refine hK.out _ _ ⟨(blk_cell BK149.out 0).trans rfl, (blk_cell BK149.out 1).trans rfl⟩ (fun hHeld => ?_)
                  clear hK K
                  refine norm_ (a' := ?_) ?_ ?_
                  rotate_left
                  · show Act.put _ (some 8) _ = _
                    simp only [Act.put, sA_, sZ_, sS_, i64_w, i32_w]
                    rfl
                  refine one_ (i := 5) (N := some 32) #[true, true, true, true, true, true, false, true, false] rfl rfl (one_of HT_.out (by kernel_rfl)) (by decide) (fun K hK => ?_)
                  refine goes_ Try.func66 (by kernel_rfl) rfl #[.int .u64 a0_1, .int .i64 a1] (by rfl) rfl rfl (by first|(simp only [List.map_toArray, List.map_cons, List.map_nil] <;> rfl)|rfl|(simp only [List.length_drop, List.length_take]; rfl)) ?_
                  with_reducible refine (logjamref02_With.calls kj2 a0_1 a1 t153 _ A20.out).mono ?_
                  rintro e w' ⟨rfl, ⟨nd, rfl⟩⟩
                  refine ⟨_, rfl, ?_⟩
                  refine hK.out _ _ ⟨(blk_cell BK149.out 0).trans rfl, (blk_cell BK149.out 1).trans rfl⟩ (fun hHeld => ?_)
                  clear hK K
                  refine norm_ (a' := ?_) ?_ ?_
                  rotate_left
                  · show Act.put _ (some 32) _ = _
                    simp only [Act.put, sA_, sZ_, sS_, i64_w, i32_w]
                    rfl
                  refine pure_ (i := 6) (N := some 33) (v := ?_) (a' := ?_) #[true, true, true, true, true, true, true, true, false] rfl rfl (any_of HT_.out (by kernel_rfl)) (fun _ _ _ h => h) (Or.inl ⟨by rfl, ?_⟩) ?_ ?_
                  rotate_left
                  · intro w'
                    go_simp
                    with_reducible rfl
                  rotate_left
                  · simp only [Act.put, sA_, sZ_, sS_, i64_w, i32_w]
                    rfl
                  exact norm_ (by simp only [putAll, Act.put, sA_, sZ_, sS_]) (hCont (gb154) _ ⟨hHeld, (by (with_reducible repeat first|refine bN_ ?_ _|refine bD_ ?_|refine bA_ ?_ _); exact BK149.out), (by (with_reducible repeat first|refine bN_ ?_ _|refine bD_ ?_|refine bA_ ?_ _); exact BK150.out), (by (with_reducible repeat first|refine bN_ ?_ _|refine bD_ ?_|refine bA_ ?_ _); exact BK154.out), GW154.out, GE154.out, NB149_154.out, NB154_149.out, NB150_154.out, NB154_150.out, (by repeat (first|(with_reducible first|exact HB.out|apply ba_|apply pN_|apply b1_|refine bs_ ?_ GE149.out|refine bs_ ?_ GE150.out|refine bs_ ?_ GE154.out)|exact HB.out))⟩)
              rintro gb154 w28 ⟨hS_, h0_, h1_, h2_, h3_, h4_, h5_, h6_, h7_, h8_, h9_⟩
              have n0_ : Aside0 (w28.heap[gb149]? = some (.cells #[.int .u64 a0_0, .int .u64 a0_1] 74 (0, 0))) := ⟨h0_⟩
              have n1_ : Aside0 (w28.heap[gb150]? = some (.cells #[.int .u64 0, .int .u64 0] 74 (0, 0))) := ⟨h1_⟩
              have n2_ : Aside0 (w28.heap[gb154]? = some (.cells #[.int .u64 0, .int .u64 0] 74 (0, 0))) := ⟨h2_⟩
              have n3_ : Aside0 (w.heap.size ≤ gb154) := ⟨h3_⟩
              have n4_ : Aside0 (w.heap.size ≤ gb154) := ⟨h4_⟩
              have n5_ : Aside0 (gb149 ≠ gb154) := ⟨h5_⟩
              have n6_ : Aside0 (gb154 ≠ gb149) := ⟨h6_⟩
              have n7_ : Aside0 (gb150 ≠ gb154) := ⟨h7_⟩
              have n8_ : Aside0 (gb154 ≠ gb150) := ⟨h8_⟩
              have n9_ : Aside0 (Below w.heap.size w w28) := ⟨h9_⟩
              clear BK149
              clear BK150
              clear HB
              clear h0_ h1_ h2_ h3_ h4_ h5_ h6_ h7_ h8_ h9_
              have BK149 := n0_
              have BK150 := n1_
              have BK154 := n2_
              have GW154 := n3_
              have GE154 := n4_
              have NB149_154 := n5_
              have NB154_149 := n6_
              have NB150_154 := n7_
              have NB154_150 := n8_
              have HB := n9_
              clear n0_ n1_ n2_ n3_ n4_ n5_ n6_ n7_ n8_ n9_
              have hHeld : w28.cell? ⟨gb149, 0, none⟩ = some (.int .u64 a0_0) ∧ w28.cell? ⟨gb149, 1, none⟩ = some (.int .u64 a0_1) := hS_
              refine norm_ (a' := ?_) ?_ ?_
              rotate_left
              · simp only [putAll, Act.put, sA_, sZ_, sS_]
                rfl
              refine one_ (i := 8) (N := none) #[true, true, true, true, true, true, true, true, true] rfl rfl (one_of HT_.out (by kernel_rfl)) (by decide) (fun K hK => ?_)
              have hs29 : w28.cell? ⟨gb154, 0, none⟩ = some (.int .u64 0) := (blk_cell BK154.out 0).trans rfl
              have hfs29 := blk_frozen BK154.out 0
              have hns29_0 := NB149_154.out
              have hns29_1 := NB150_154.out
              have hms29_0 := NB154_149.out
              have hms29_1 := NB154_150.out
              have hs30 : w28.cell? ⟨gb154, 1, none⟩ = some (.int .u64 0) := (blk_cell BK154.out 1).trans rfl
              have hfs30 := blk_frozen BK154.out 1
              have hns30_0 := NB149_154.out
              have hns30_1 := NB150_154.out
              have hms30_0 := NB154_149.out
              have hms30_1 := NB154_150.out
              refine skip_ (w1 := ?_) (by rfl) rfl ?_ ?_
              rotate_left
              · go_simp
                rfl
              refine hK.out _ _ ⟨((cell_far (p := ⟨gb154, _, none⟩) NB149_154.out _).trans (((cell_far (p := ⟨gb154, _, none⟩) NB149_154.out _).trans (hHeld.1)))), ((cell_far (p := ⟨gb154, _, none⟩) NB149_154.out _).trans (((cell_far (p := ⟨gb154, _, none⟩) NB149_154.out _).trans (hHeld.2))))⟩ (fun hHeld => ?_)
              clear hK K
              refine done_ (done_of HT_.out (by kernel_rfl)) ?_
              have hnb31 := NB154_149.out
              have hnc31 := NB149_154.out
              have hnb32 := NB154_150.out
              have hnc32 := NB150_154.out
              have hcz33_0 : w28.cell? ⟨gb154, 0, none⟩ = some (.int .u64 0) := (blk_cell BK154.out 0).trans rfl
              have hcz33_1 : w28.cell? ⟨gb154, 1, none⟩ = some (.int .u64 0) := (blk_cell BK154.out 1).trans rfl
              have hfz33_0 := blk_frozen BK154.out 0
              have hfz33_1 := blk_frozen BK154.out 1
              try go_wp2_with (first|((with_reducible refine gate_callee (f := 46) rfl ?_); refine goesL_ (some 35) rfl rfl Try.func46 (by kernel_rfl) rfl #[.agg #[.int .u64 a0_0, .int .u64 t153]] rfl (by first|(simp only [List.map_toArray, List.map_cons, List.map_nil] <;> rfl)|rfl|(simp only [List.length_drop, List.length_take]; rfl)) ?_; (with_reducible refine (logjamref19_Missing.calls kj2 a0_0 t153 t155 _ A21.out).mono ?_); rintro e w34 ⟨rfl, hb⟩; refine ⟨_, rfl, ?_⟩; have n0_ := A0_ (blk_below (g := gb149) (o := .cells #[.int .u64 a0_0, .int .u64 a0_1] 74 (0, 0)) (by (with_reducible repeat first|refine bN_ ?_ _|refine bD_ ?_|refine bA_ ?_ _); refine blk_far ?_ NB149_154.out _; (with_reducible repeat first|refine bN_ ?_ _|refine bD_ ?_|refine bA_ ?_ _); refine blk_far ?_ NB149_154.out _; (with_reducible repeat first|refine bN_ ?_ _|refine bD_ ?_|refine bA_ ?_ _); exact BK149.out) hb); have n1_ := A0_ (blk_below (g := gb150) (o := .cells #[.int .u64 0, .int .u64 0] 74 (0, 0)) (by (with_reducible repeat first|refine bN_ ?_ _|refine bD_ ?_|refine bA_ ?_ _); refine blk_far ?_ NB150_154.out _; (with_reducible repeat first|refine bN_ ?_ _|refine bD_ ?_|refine bA_ ?_ _); refine blk_far ?_ NB150_154.out _; (with_reducible repeat first|refine bN_ ?_ _|refine bD_ ?_|refine bA_ ?_ _); exact BK150.out) hb); have n2_ := A0_ (blk_below (g := gb154) (o := .cells #[.int .u64 a0_0, .int .u64 t153] 74 (0, 0)) (by (with_reducible repeat first|refine bN_ ?_ _|refine bD_ ?_|refine bA_ ?_ _); refine blk_put (cs := #[.int .u64 a0_0, .int .u64 0]) ?_ 1 _ rfl; (with_reducible repeat first|refine bN_ ?_ _|refine bD_ ?_|refine bA_ ?_ _); refine blk_put (cs := #[.int .u64 0, .int .u64 0]) ?_ 0 _ rfl; (with_reducible repeat first|refine bN_ ?_ _|refine bD_ ?_|refine bA_ ?_ _); exact BK154.out) hb); have n3_ := A0_ (below_step (by repeat (first|(with_reducible first|exact HB.out|apply ba_|apply pN_|apply b1_|refine bs_ ?_ GE149.out|refine bs_ ?_ GE150.out|refine bs_ ?_ GE154.out)|exact HB.out)) hb); clear BK149; clear BK150; clear BK154; clear HB; have BK149 := n0_; have BK150 := n1_; have BK154 := n2_; have HB := n3_; clear n0_ n1_ n2_ n3_; (try clear hb); (try clear hb2); (try clear hk); (try clear hi)))
              have n0_ := A0_ (blk_drew BK149.out)
              have n1_ := A0_ (blk_drew BK150.out)
              have n2_ := A0_ (blk_drew BK154.out)
              have n3_ := A0_ (b1_ HB.out)
              clear BK149
              clear BK150
              clear BK154
              clear HB
              have BK149 := n0_
              have BK150 := n1_
              have BK154 := n2_
              have HB := n3_
              clear n0_ n1_ n2_ n3_
              refine start_ (n := 9) (S := fun w' => w'.cell? ⟨gb149, 0, none⟩ = some (.int .u64 a0_0) ∧ w'.cell? ⟨gb149, 1, none⟩ = some (.int .u64 a0_1)) (ds := []) #[false, false, false, false, false, false, false, false, false] (by kernel_rfl) rfl rfl ⟨(blk_cell BK149.out 0).trans rfl, (blk_cell BK149.out 1).trans rfl⟩ (fun hHeld => ?_); refine with_tabW logjamref19_Arrive.tab9 logjamref19_Arrive.bits9 (fun HT_ HW_ => ?_)
              generalize w34.drew = w35 at BK149 BK150 BK154 HB hHeld ⊢
              refine pure_ (i := 0) (N := some 37) (v := ?_) (a' := ?_) #[true, false, false, false, false, false, false, false, false] rfl rfl (any_of HT_.out (by kernel_rfl)) (fun _ _ _ h => h) (Or.inl ⟨by rfl, ?_⟩) ?_ ?_
              rotate_left
              · intro w'
                go_simp
                with_reducible rfl
              rotate_left
              · simp only [Act.put, sA_, sZ_, sS_, i64_w, i32_w]
                rfl
              refine pure_ (i := 3) (N := some 40) (v := ?_) (a' := ?_) #[true, false, false, true, false, false, false, false, false] rfl rfl (any_of HT_.out (by kernel_rfl)) (fun _ _ _ h => h) (Or.inl ⟨by rfl, ?_⟩) ?_ ?_
              rotate_left
              · intro w'
                go_simp
                with_reducible rfl
              rotate_left
              · simp only [Act.put, sA_, sZ_, sS_, i64_w, i32_w]
                rfl
              refine take_ (i := 1) (N := some 38) (v := ?_) (a' := ?_) #[true, true, false, true, false, false, false, false, false] rfl rfl (take_ofW HT_.out HW_.out (by kernel_rfl)) (fun _ _ _ h => h) (Or.inl ⟨by rfl, ?_⟩) hHeld ?_ ?_
              rotate_left
              · rintro w' ⟨s0, s1⟩
                go_simp
                with_reducible rfl
              rotate_left
              · simp only [Act.put, sA_, sZ_, sS_, i64_w, i32_w]
                rfl
              refine pure_ (i := 2) (N := some 39) (v := ?_) (a' := ?_) #[true, true, true, true, false, false, false, false, false] rfl rfl (any_of HT_.out (by kernel_rfl)) (fun _ _ _ h => h) (Or.inl ⟨by rfl, ?_⟩) ?_ ?_
              rotate_left
              · intro w'
                go_simp
                with_reducible rfl
              rotate_left
              · simp only [Act.put, sA_, sZ_, sS_, i64_w, i32_w]
                rfl
              refine take_ (i := 4) (N := some 41) (v := ?_) (a' := ?_) #[true, true, true, true, true, false, false, false, false] rfl rfl (take_ofW HT_.out HW_.out (by kernel_rfl)) (fun _ _ _ h => h) (Or.inl ⟨by rfl, ?_⟩) hHeld ?_ ?_
              rotate_left
              · rintro w' ⟨s0, s1⟩
                go_simp
                with_reducible rfl
              rotate_left
              · simp only [Act.put, sA_, sZ_, sS_, i64_w, i32_w]
                rfl
              refine one_ (i := 5) (N := none) #[true, true, true, true, true, true, false, false, false] rfl rfl (one_of HT_.out (by kernel_rfl)) (by decide) (fun K hK => ?_)
              have hs36 : w35.cell? ⟨gb150, 0, none⟩ = some (.int .u64 0) := (blk_cell BK150.out 0).trans rfl
              have hfs36 := blk_frozen BK150.out 0
              have hns36_0 := NB149_150.out
              have hns36_2 := NB154_150.out
              have hms36_0 := NB150_149.out
              have hms36_2 := NB150_154.out
              have hs37 : w35.cell? ⟨gb150, 1, none⟩ = some (.int .u64 0) := (blk_cell BK150.out 1).trans rfl
              have hfs37 := blk_frozen BK150.out 1
              have hns37_0 := NB149_150.out
              have hns37_2 := NB154_150.out
              have hms37_0 := NB150_149.out
              have hms37_2 := NB150_154.out
              refine skip_ (w1 := ?_) (by rfl) rfl ?_ ?_
              rotate_left
              · go_simp
                rfl
              refine hK.out _ _ ⟨((cell_far (p := ⟨gb150, _, none⟩) NB149_150.out _).trans (((cell_far (p := ⟨gb150, _, none⟩) NB149_150.out _).trans (hHeld.1)))), ((cell_far (p := ⟨gb150, _, none⟩) NB149_150.out _).trans (((cell_far (p := ⟨gb150, _, none⟩) NB149_150.out _).trans (hHeld.2))))⟩ (fun hHeld => ?_)
              clear hK K
              refine pure_ (i := 6) (N := some 5) (v := ?_) (a' := ?_) #[true, true, true, true, true, true, true, false, false] rfl rfl (any_of HT_.out (by kernel_rfl)) (fun _ _ _ h => h) (Or.inl ⟨by rfl, ?_⟩) ?_ ?_
              rotate_left
              · intro w'
                go_simp
                with_reducible rfl
              rotate_left
              · simp only [Act.put, sA_, sZ_, sS_, i64_w, i32_w]
                rfl
              refine pure_ (i := 7) (N := some 6) (v := ?_) (a' := ?_) #[true, true, true, true, true, true, true, true, false] rfl rfl (any_of HT_.out (by kernel_rfl)) (fun _ _ _ h => h) (Or.inl ⟨by rfl, ?_⟩) ?_ ?_
              rotate_left
              · intro w'
                go_simp
                with_reducible rfl
              rotate_left
              · simp only [Act.put, sA_, sZ_, sS_, i64_w, i32_w]
                rfl
              refine pure_ (i := 8) (N := some 7) (v := ?_) (a' := ?_) #[true, true, true, true, true, true, true, true, true] rfl rfl (any_of HT_.out (by kernel_rfl)) (fun _ _ _ h => h) (Or.inl ⟨by rfl, ?_⟩) ?_ ?_
              rotate_left
              · intro w'
                go_simp
                with_reducible rfl
              rotate_left
              · simp only [Act.put, sA_, sZ_, sS_, i64_w, i32_w]
                rfl
              refine done_ (done_of HT_.out (by kernel_rfl)) ?_
              try go_wp2
              refine bodyPost_ret (results_list (rs := [.cell 4 74, .tmp 5, .tmp 6, .tmp 7]) rfl (by simp) (.cell gb150 74 #[.int .u64 a0_0, .int .u64 0] (0, 0) _ rfl (by (with_reducible repeat first|refine bN_ ?_ _|refine bD_ ?_|refine bA_ ?_ _); refine blk_put (cs := #[.int .u64 a0_0, .int .u64 0]) ?_ 1 _ rfl; (with_reducible repeat first|refine bN_ ?_ _|refine bD_ ?_|refine bA_ ?_ _); refine blk_put (cs := #[.int .u64 0, .int .u64 0]) ?_ 0 _ rfl; (with_reducible repeat first|refine bN_ ?_ _|refine bD_ ?_|refine bA_ ?_ _); exact BK150.out) Try.underlying74 rfl (by kernel_rfl) (.tmp (.tmp (.tmp .nil))))) rfl ?_
              exact ⟨by first|rfl|(simp [errW_none, errW_some] <;> rfl)|(simp [*, errW_none, errW_some] <;> rfl), by repeat (first|(with_reducible first|exact HB.out|apply ba_|apply pN_|apply b1_|refine bs_ ?_ GE149.out|refine bs_ ?_ GE150.out|refine bs_ ?_ GE154.out)|exact HB.out)⟩
            · rw [if_neg c22] at H
              have c22b0 : (t155 == 0) = false := beq_eq_false_iff_ne.mpr c22
              have c22b1 : (t155 != 0) = true := bne_iff_ne.mpr c22
              simp only [Option.some.injEq, Prod.mk.injEq] at H
              obtain ⟨rfl, rfl, rfl, rfl, rfl⟩ := H
              have hnb38 := NB149_150.out
              have hnc38 := NB150_149.out
              have hcz39_0 : wc.cell? ⟨gb149, 0, none⟩ = some (.int .u64 a0_0) := (blk_cell BK149.out 0).trans rfl
              have hcz39_1 : wc.cell? ⟨gb149, 1, none⟩ = some (.int .u64 a0_1) := (blk_cell BK149.out 1).trans rfl
              have hfz39_0 := blk_frozen BK149.out 0
              have hfz39_1 := blk_frozen BK149.out 1
              try go_wp2_with (first|((with_reducible refine gate_callee (f := 65) rfl ?_); refine goesL_ (some 19) rfl rfl Try.func65 (by kernel_rfl) rfl #[.int .u64 a0_0, .int .i64 a1] rfl (by first|(simp only [List.map_toArray, List.map_cons, List.map_nil] <;> rfl)|rfl|(simp only [List.length_drop, List.length_take]; rfl)) ?_; (with_reducible refine (logjamref02_Has.calls kj2 a0_0 a1 true _ A11.out).mono ?_); rintro e w' ⟨rfl, ⟨nd, rfl⟩⟩; refine ⟨_, rfl, ?_⟩; (try (rw [drewN_self wc]; generalize hq_ : World.drewN wc _ = wc; have n0_ : Aside0 (wc.heap[gb149]? = some (.cells #[.int .u64 a0_0, .int .u64 a0_1] 74 (0, 0))) := ⟨by rw [← hq_]; exact (by (with_reducible repeat first|refine bN_ ?_ _|refine bD_ ?_|refine bA_ ?_ _); exact BK149.out)⟩; have n1_ : Aside0 (wc.heap[gb150]? = some (.cells #[.int .u64 0, .int .u64 0] 74 (0, 0))) := ⟨by rw [← hq_]; exact (by (with_reducible repeat first|refine bN_ ?_ _|refine bD_ ?_|refine bA_ ?_ _); exact BK150.out)⟩; have n2_ : Aside0 (Below w.heap.size w wc) := ⟨by rw [← hq_]; exact (by repeat (first|(with_reducible first|exact HB.out|apply ba_|apply pN_|apply b1_|refine bs_ ?_ GE149.out|refine bs_ ?_ GE150.out)|exact HB.out))⟩; clear BK149 BK150 HB hq_; have BK149 := n0_; have BK150 := n1_; have HB := n2_; clear n0_ n1_ n2_)); have hcz40_0 : wc.cell? ⟨gb149, 0, none⟩ = some (.int .u64 a0_0) := (blk_cell BK149.out 0).trans rfl; have hcz40_1 : wc.cell? ⟨gb149, 1, none⟩ = some (.int .u64 a0_1) := (blk_cell BK149.out 1).trans rfl; have hfz40_0 := blk_frozen BK149.out 0; have hfz40_1 := blk_frozen BK149.out 1)|((with_reducible refine gate_callee (f := 65) rfl ?_); refine goesL_ (some 25) rfl rfl Try.func65 (by kernel_rfl) rfl #[.int .u64 a0_1, .int .i64 a1] rfl (by first|(simp only [List.map_toArray, List.map_cons, List.map_nil] <;> rfl)|rfl|(simp only [List.length_drop, List.length_take]; rfl)) ?_; (with_reducible refine (logjamref02_Has.calls kj2 a0_1 a1 false _ A13.out).mono ?_); rintro e w' ⟨rfl, ⟨nd, rfl⟩⟩; refine ⟨_, rfl, ?_⟩; (try (rw [drewN_self wc]; generalize hq_ : World.drewN wc _ = wc; have n0_ : Aside0 (wc.heap[gb149]? = some (.cells #[.int .u64 a0_0, .int .u64 a0_1] 74 (0, 0))) := ⟨by rw [← hq_]; exact (by (with_reducible repeat first|refine bN_ ?_ _|refine bD_ ?_|refine bA_ ?_ _); exact BK149.out)⟩; have n1_ : Aside0 (wc.heap[gb150]? = some (.cells #[.int .u64 0, .int .u64 0] 74 (0, 0))) := ⟨by rw [← hq_]; exact (by (with_reducible repeat first|refine bN_ ?_ _|refine bD_ ?_|refine bA_ ?_ _); exact BK150.out)⟩; have n2_ : Aside0 (Below w.heap.size w wc) := ⟨by rw [← hq_]; exact (by repeat (first|(with_reducible first|exact HB.out|apply ba_|apply pN_|apply b1_|refine bs_ ?_ GE149.out|refine bs_ ?_ GE150.out)|exact HB.out))⟩; clear BK149 BK150 HB hq_; have BK149 := n0_; have BK150 := n1_; have HB := n2_; clear n0_ n1_ n2_))))
              have n0_ := A0_ (blk_drew BK149.out)
              have n1_ := A0_ (blk_drew BK150.out)
              have n2_ := A0_ (b1_ HB.out)
              clear BK149
              clear BK150
              clear HB
              have BK149 := n0_
              have BK150 := n1_
              have HB := n2_
              clear n0_ n1_ n2_
              refine start_ (n := 9) (S := fun w' => w'.cell? ⟨gb149, 0, none⟩ = some (.int .u64 a0_0) ∧ w'.cell? ⟨gb149, 1, none⟩ = some (.int .u64 a0_1)) (ds := []) #[false, false, false, false, false, false, false, false, false] (by kernel_rfl) rfl rfl ⟨(blk_cell BK149.out 0).trans rfl, (blk_cell BK149.out 1).trans rfl⟩ (fun hHeld => ?_); refine with_tabW logjamref19_Arrive.tab7 logjamref19_Arrive.bits7 (fun HT_ HW_ => ?_)
              generalize wc.drew = w41 at BK149 BK150 HB hHeld ⊢
              refine pure_ (i := 0) (N := some 27) (v := ?_) (a' := ?_) #[true, false, false, false, false, false, false, false, false] rfl rfl (any_of HT_.out (by kernel_rfl)) (fun _ _ _ h => h) (Or.inl ⟨by rfl, ?_⟩) ?_ ?_
              rotate_left
              · intro w'
                go_simp
                with_reducible rfl
              rotate_left
              · simp only [Act.put, sA_, sZ_, sS_, i64_w, i32_w]
                rfl
              refine pure_ (i := 2) (N := some 29) (v := ?_) (a' := ?_) #[true, false, true, false, false, false, false, false, false] rfl rfl (any_of HT_.out (by kernel_rfl)) (fun _ _ _ h => h) (Or.inl ⟨by rfl, ?_⟩) ?_ ?_
              rotate_left
              · intro w'
                go_simp
                with_reducible rfl
              rotate_left
              · simp only [Act.put, sA_, sZ_, sS_, i64_w, i32_w]
                rfl
              refine pure_ (i := 4) (N := some 31) (v := ?_) (a' := ?_) #[true, false, true, false, true, false, false, false, false] rfl rfl (any_of HT_.out (by kernel_rfl)) (fun _ _ _ h => h) (Or.inl ⟨by rfl, ?_⟩) ?_ ?_
              rotate_left
              · intro w'
                go_simp
                with_reducible rfl
              rotate_left
              · simp only [Act.put, sA_, sZ_, sS_, i64_w, i32_w]
                rfl
              refine take_ (i := 1) (N := some 28) (v := ?_) (a' := ?_) #[true, true, true, false, true, false, false, false, false] rfl rfl (take_ofW HT_.out HW_.out (by kernel_rfl)) (fun _ _ _ h => h) (Or.inl ⟨by rfl, ?_⟩) hHeld ?_ ?_
              rotate_left
              · rintro w' ⟨s0, s1⟩
                go_simp
                with_reducible rfl
              rotate_left
              · simp only [Act.put, sA_, sZ_, sS_, i64_w, i32_w]
                rfl
              refine take_ (i := 3) (N := some 30) (v := ?_) (a' := ?_) #[true, true, true, true, true, false, false, false, false] rfl rfl (take_ofW HT_.out HW_.out (by kernel_rfl)) (fun _ _ _ h => h) (Or.inl ⟨by rfl, ?_⟩) hHeld ?_ ?_
              rotate_left
              · rintro w' ⟨s0, s1⟩
                go_simp
                with_reducible rfl
              rotate_left
              · simp only [Act.put, sA_, sZ_, sS_, i64_w, i32_w]
                rfl
              refine join_ (σ := Nat) 1 #[true, true, true, true, true, true, true, true, false] (fun s_ => [(32, .int .u64 t153), (8, .pointer (some ⟨s_, 0, none⟩)), (33, .agg #[.int .u64 a0_0, .int .u64 t153])]) (fun s_ w' => (w'.cell? ⟨gb149, 0, none⟩ = some (.int .u64 a0_0) ∧ w'.cell? ⟨gb149, 1, none⟩ = some (.int .u64 a0_1)) ∧ (w'.heap[gb149]? = some (.cells #[.int .u64 a0_0, .int .u64 a0_1] 74 (0, 0))) ∧ (w'.heap[gb150]? = some (.cells #[.int .u64 0, .int .u64 0] 74 (0, 0))) ∧ (w'.heap[s_]? = some (.cells #[.int .u64 0, .int .u64 0] 74 (0, 0))) ∧ (w.heap.size ≤ s_) ∧ (w.heap.size ≤ s_) ∧ (gb149 ≠ s_) ∧ (s_ ≠ gb149) ∧ (gb150 ≠ s_) ∧ (s_ ≠ gb150) ∧ (Below w.heap.size w w')) ?_ ?_
              rotate_left
              · intro hCont
                refine two_ (i := 5) (j := 7) (Ni := some 32) (Nj := some 8) #[true, true, true, true, true, true, false, false, false] #[true, true, true, true, true, false, false, true, false] rfl rfl rfl rfl (two_of HT_.out (by kernel_rfl)) (by decide) (by decide) (fun K hK => ?_) (fun K hK => ?_)
                · skip
                  refine goes_ Try.func66 (by kernel_rfl) rfl #[.int .u64 a0_1, .int .i64 a1] (by rfl) rfl rfl (by first|(simp only [List.map_toArray, List.map_cons, List.map_nil] <;> rfl)|rfl|(simp only [List.length_drop, List.length_take]; rfl)) ?_
                  with_reducible refine (logjamref02_With.calls kj2 a0_1 a1 t153 _ A20.out).mono ?_
                  rintro e w' ⟨rfl, ⟨nd, rfl⟩⟩
                  refine ⟨_, rfl, ?_⟩
                  refine hK.out _ _ ⟨(blk_cell BK149.out 0).trans rfl, (blk_cell BK149.out 1).trans rfl⟩ (fun hHeld => ?_)
                  clear hK K
                  refine norm_ (a' := ?_) ?_ ?_
                  rotate_left
                  · show Act.put _ (some 32) _ = _
                    simp only [Act.put, sA_, sZ_, sS_, i64_w, i32_w]
                    rfl
                  refine pure_ (i := 6) (N := some 33) (v := ?_) (a' := ?_) #[true, true, true, true, true, true, true, false, false] rfl rfl (any_of HT_.out (by kernel_rfl)) (fun _ _ _ h => h) (Or.inl ⟨by rfl, ?_⟩) ?_ ?_
                  rotate_left
                  · intro w'
                    go_simp
                    with_reducible rfl
                  rotate_left
                  · simp only [Act.put, sA_, sZ_, sS_, i64_w, i32_w]
                    rfl
                  refine one_ (i := 7) (N := some 8) #[true, true, true, true, true, true, true, true, false] rfl rfl (one_of HT_.out (by kernel_rfl)) (by decide) (fun K hK => ?_)
                  refine box_step ?hg (N := 8) ?hd (cs := #[.int .u64 0, .int .u64 0]) (t := 74) ?hr ?_; (case hd => rfl); (case hg => rfl); (case hr => first|(go_simp; done)|(go_simp; rfl))
                  intro gb154 hg w42 hbox hb
                  have n0_ := A0_ (blk_below (g := gb149) (o := .cells #[.int .u64 a0_0, .int .u64 a0_1] 74 (0, 0)) (by (with_reducible repeat first|refine bN_ ?_ _|refine bD_ ?_|refine bA_ ?_ _); exact BK149.out) hb)
                  have n1_ := A0_ (blk_below (g := gb150) (o := .cells #[.int .u64 0, .int .u64 0] 74 (0, 0)) (by (with_reducible repeat first|refine bN_ ?_ _|refine bD_ ?_|refine bA_ ?_ _); exact BK150.out) hb)
                  have n2_ := A0_ (below_step (by repeat (first|(with_reducible first|exact HB.out|apply ba_|apply pN_|apply b1_|refine bs_ ?_ GE149.out|refine bs_ ?_ GE150.out)|exact HB.out)) hb)
                  have n3_ := A0_ (hbox)
                  have n4_ := A0_ ((by rw [hg]; exact (below_size (by repeat (first|(with_reducible first|exact HB.out|apply ba_|apply pN_|apply b1_|refine bs_ ?_ GE149.out|refine bs_ ?_ GE150.out)|exact HB.out))) : w.heap.size ≤ gb154))
                  have n5_ := A0_ ((by rw [hg]; exact (below_size (by repeat (first|(with_reducible first|exact HB.out|apply ba_|apply pN_|apply b1_|refine bs_ ?_ GE149.out|refine bs_ ?_ GE150.out)|exact HB.out))) : w.heap.size ≤ gb154))
                  have n6_ := A0_ ((by rw [hg]; exact Nat.ne_of_lt (blk_lt (g := gb149) (o := .cells #[.int .u64 a0_0, .int .u64 a0_1] 74 (0, 0)) (by (with_reducible repeat first|refine bN_ ?_ _|refine bD_ ?_|refine bA_ ?_ _); exact BK149.out)) : gb149 ≠ gb154))
                  have n7_ := A0_ ((by rw [hg]; exact Nat.ne_of_gt (blk_lt (g := gb149) (o := .cells #[.int .u64 a0_0, .int .u64 a0_1] 74 (0, 0)) (by (with_reducible repeat first|refine bN_ ?_ _|refine bD_ ?_|refine bA_ ?_ _); exact BK149.out)) : gb154 ≠ gb149))
                  have n8_ := A0_ ((by rw [hg]; exact Nat.ne_of_lt (blk_lt (g := gb150) (o := .cells #[.int .u64 0, .int .u64 0] 74 (0, 0)) (by (with_reducible repeat first|refine bN_ ?_ _|refine bD_ ?_|refine bA_ ?_ _); exact BK150.out)) : gb150 ≠ gb154))
                  have n9_ := A0_ ((by rw [hg]; exact Nat.ne_of_gt (blk_lt (g := gb150) (o := .cells #[.int .u64 0, .int .u64 0] 74 (0, 0)) (by (with_reducible repeat first|refine bN_ ?_ _|refine bD_ ?_|refine bA_ ?_ _); exact BK150.out)) : gb154 ≠ gb150))
                  clear BK149
                  clear BK150
                  clear HB
                  have BK149 := n0_
                  have BK150 := n1_
                  have HB := n2_
                  have BK154 := n3_
                  have GW154 := n4_
                  have GE154 := n5_
                  have NB149_154 := n6_
                  have NB154_149 := n7_
                  have NB150_154 := n8_
                  have NB154_150 := n9_
                  clear n0_ n1_ n2_ n3_ n4_ n5_ n6_ n7_ n8_ n9_
                  clear hb hbox hg
                  refine hK.out _ _ ⟨(blk_cell BK149.out 0).trans rfl, (blk_cell BK149.out 1).trans rfl⟩ (fun hHeld => ?_)
                  clear hK K
                  refine norm_ (a' := ?_) ?_ ?_
                  rotate_left
                  · show Act.put _ (some 8) _ = _
                    simp only [Act.put, sA_, sZ_, sS_, i64_w, i32_w]
                    rfl
                  exact norm_ (by simp only [putAll, Act.put, sA_, sZ_, sS_]) (hCont (gb154) _ ⟨hHeld, (by (with_reducible repeat first|refine bN_ ?_ _|refine bD_ ?_|refine bA_ ?_ _); exact BK149.out), (by (with_reducible repeat first|refine bN_ ?_ _|refine bD_ ?_|refine bA_ ?_ _); exact BK150.out), (by (with_reducible repeat first|refine bN_ ?_ _|refine bD_ ?_|refine bA_ ?_ _); exact BK154.out), GW154.out, GE154.out, NB149_154.out, NB154_149.out, NB150_154.out, NB154_150.out, (by repeat (first|(with_reducible first|exact HB.out|apply ba_|apply pN_|apply b1_|refine bs_ ?_ GE149.out|refine bs_ ?_ GE150.out|refine bs_ ?_ GE154.out)|exact HB.out))⟩)
                · skip
                  refine box_step ?hg (N := 8) ?hd (cs := #[.int .u64 0, .int .u64 0]) (t := 74) ?hr ?_; (case hd => rfl); (case hg => rfl); (case hr => first|(go_simp; done)|(go_simp; rfl))
                  intro gb154 hg w42 hbox hb
                  have n0_ := A0_ (blk_below (g := gb149) (o := .cells #[.int .u64 a0_0, .int .u64 a0_1] 74 (0, 0)) (by (with_reducible repeat first|refine bN_ ?_ _|refine bD_ ?_|refine bA_ ?_ _); exact BK149.out) hb)
                  have n1_ := A0_ (blk_below (g := gb150) (o := .cells #[.int .u64 0, .int .u64 0] 74 (0, 0)) (by (with_reducible repeat first|refine bN_ ?_ _|refine bD_ ?_|refine bA_ ?_ _); exact BK150.out) hb)
                  have n2_ := A0_ (below_step (by repeat (first|(with_reducible first|exact HB.out|apply ba_|apply pN_|apply b1_|refine bs_ ?_ GE149.out|refine bs_ ?_ GE150.out)|exact HB.out)) hb)
                  have n3_ := A0_ (hbox)
                  have n4_ := A0_ ((by rw [hg]; exact (below_size (by repeat (first|(with_reducible first|exact HB.out|apply ba_|apply pN_|apply b1_|refine bs_ ?_ GE149.out|refine bs_ ?_ GE150.out)|exact HB.out))) : w.heap.size ≤ gb154))
                  have n5_ := A0_ ((by rw [hg]; exact (below_size (by repeat (first|(with_reducible first|exact HB.out|apply ba_|apply pN_|apply b1_|refine bs_ ?_ GE149.out|refine bs_ ?_ GE150.out)|exact HB.out))) : w.heap.size ≤ gb154))
                  have n6_ := A0_ ((by rw [hg]; exact Nat.ne_of_lt (blk_lt (g := gb149) (o := .cells #[.int .u64 a0_0, .int .u64 a0_1] 74 (0, 0)) (by (with_reducible repeat first|refine bN_ ?_ _|refine bD_ ?_|refine bA_ ?_ _); exact BK149.out)) : gb149 ≠ gb154))
                  have n7_ := A0_ ((by rw [hg]; exact Nat.ne_of_gt (blk_lt (g := gb149) (o := .cells #[.int .u64 a0_0, .int .u64 a0_1] 74 (0, 0)) (by (with_reducible repeat first|refine bN_ ?_ _|refine bD_ ?_|refine bA_ ?_ _); exact BK149.out)) : gb154 ≠ gb149))
                  have n8_ := A0_ ((by rw [hg]; exact Nat.ne_of_lt (blk_lt (g := gb150) (o := .cells #[.int .u64 0, .int .u64 0] 74 (0, 0)) (by (with_reducible repeat first|refine bN_ ?_ _|refine bD_ ?_|refine bA_ ?_ _); exact BK150.out)) : gb150 ≠ gb154))
                  have n9_ := A0_ ((by rw [hg]; exact Nat.ne_of_gt (blk_lt (g := gb150) (o := .cells #[.int .u64 0, .int .u64 0] 74 (0, 0)) (by (with_reducible repeat first|refine bN_ ?_ _|refine bD_ ?_|refine bA_ ?_ _); exact BK150.out)) : gb154 ≠ gb150))
                  clear BK149
                  clear BK150
                  clear HB
                  have BK149 := n0_
                  have BK150 := n1_
                  have HB := n2_
                  have BK154 := n3_
                  have GW154 := n4_
                  have GE154 := n5_
                  have NB149_154 := n6_
                  have NB154_149 := n7_
                  have NB150_154 := n8_
                  have NB154_150 := n9_
                  clear n0_ n1_ n2_ n3_ n4_ n5_ n6_ n7_ n8_ n9_
                  clear hb hbox hg
                  refine hK.out _ _ ⟨(blk_cell BK149.out 0).trans rfl, (blk_cell BK149.out 1).trans rfl⟩ (fun hHeld => ?_)
                  clear hK K
                  refine norm_ (a' := ?_) ?_ ?_
                  rotate_left
                  · show Act.put _ (some 8) _ = _
                    simp only [Act.put, sA_, sZ_, sS_, i64_w, i32_w]
                    rfl
                  refine one_ (i := 5) (N := some 32) #[true, true, true, true, true, true, false, true, false] rfl rfl (one_of HT_.out (by kernel_rfl)) (by decide) (fun K hK => ?_)
                  refine goes_ Try.func66 (by kernel_rfl) rfl #[.int .u64 a0_1, .int .i64 a1] (by rfl) rfl rfl (by first|(simp only [List.map_toArray, List.map_cons, List.map_nil] <;> rfl)|rfl|(simp only [List.length_drop, List.length_take]; rfl)) ?_
                  with_reducible refine (logjamref02_With.calls kj2 a0_1 a1 t153 _ A20.out).mono ?_
                  rintro e w' ⟨rfl, ⟨nd, rfl⟩⟩
                  refine ⟨_, rfl, ?_⟩
                  refine hK.out _ _ ⟨(blk_cell BK149.out 0).trans rfl, (blk_cell BK149.out 1).trans rfl⟩ (fun hHeld => ?_)
                  clear hK K
                  refine norm_ (a' := ?_) ?_ ?_
                  rotate_left
                  · show Act.put _ (some 32) _ = _
                    simp only [Act.put, sA_, sZ_, sS_, i64_w, i32_w]
                    rfl
                  refine pure_ (i := 6) (N := some 33) (v := ?_) (a' := ?_) #[true, true, true, true, true, true, true, true, false] rfl rfl (any_of HT_.out (by kernel_rfl)) (fun _ _ _ h => h) (Or.inl ⟨by rfl, ?_⟩) ?_ ?_
                  rotate_left
                  · intro w'
                    go_simp
                    with_reducible rfl
                  rotate_left
                  · simp only [Act.put, sA_, sZ_, sS_, i64_w, i32_w]
                    rfl
                  exact norm_ (by simp only [putAll, Act.put, sA_, sZ_, sS_]) (hCont (gb154) _ ⟨hHeld, (by (with_reducible repeat first|refine bN_ ?_ _|refine bD_ ?_|refine bA_ ?_ _); exact BK149.out), (by (with_reducible repeat first|refine bN_ ?_ _|refine bD_ ?_|refine bA_ ?_ _); exact BK150.out), (by (with_reducible repeat first|refine bN_ ?_ _|refine bD_ ?_|refine bA_ ?_ _); exact BK154.out), GW154.out, GE154.out, NB149_154.out, NB154_149.out, NB150_154.out, NB154_150.out, (by repeat (first|(with_reducible first|exact HB.out|apply ba_|apply pN_|apply b1_|refine bs_ ?_ GE149.out|refine bs_ ?_ GE150.out|refine bs_ ?_ GE154.out)|exact HB.out))⟩)
              rintro gb154 w43 ⟨hS_, h0_, h1_, h2_, h3_, h4_, h5_, h6_, h7_, h8_, h9_⟩
              have n0_ : Aside0 (w43.heap[gb149]? = some (.cells #[.int .u64 a0_0, .int .u64 a0_1] 74 (0, 0))) := ⟨h0_⟩
              have n1_ : Aside0 (w43.heap[gb150]? = some (.cells #[.int .u64 0, .int .u64 0] 74 (0, 0))) := ⟨h1_⟩
              have n2_ : Aside0 (w43.heap[gb154]? = some (.cells #[.int .u64 0, .int .u64 0] 74 (0, 0))) := ⟨h2_⟩
              have n3_ : Aside0 (w.heap.size ≤ gb154) := ⟨h3_⟩
              have n4_ : Aside0 (w.heap.size ≤ gb154) := ⟨h4_⟩
              have n5_ : Aside0 (gb149 ≠ gb154) := ⟨h5_⟩
              have n6_ : Aside0 (gb154 ≠ gb149) := ⟨h6_⟩
              have n7_ : Aside0 (gb150 ≠ gb154) := ⟨h7_⟩
              have n8_ : Aside0 (gb154 ≠ gb150) := ⟨h8_⟩
              have n9_ : Aside0 (Below w.heap.size w w43) := ⟨h9_⟩
              clear BK149
              clear BK150
              clear HB
              clear h0_ h1_ h2_ h3_ h4_ h5_ h6_ h7_ h8_ h9_
              have BK149 := n0_
              have BK150 := n1_
              have BK154 := n2_
              have GW154 := n3_
              have GE154 := n4_
              have NB149_154 := n5_
              have NB154_149 := n6_
              have NB150_154 := n7_
              have NB154_150 := n8_
              have HB := n9_
              clear n0_ n1_ n2_ n3_ n4_ n5_ n6_ n7_ n8_ n9_
              have hHeld : w43.cell? ⟨gb149, 0, none⟩ = some (.int .u64 a0_0) ∧ w43.cell? ⟨gb149, 1, none⟩ = some (.int .u64 a0_1) := hS_
              refine norm_ (a' := ?_) ?_ ?_
              rotate_left
              · simp only [putAll, Act.put, sA_, sZ_, sS_]
                rfl
              refine one_ (i := 8) (N := none) #[true, true, true, true, true, true, true, true, true] rfl rfl (one_of HT_.out (by kernel_rfl)) (by decide) (fun K hK => ?_)
              have hs44 : w43.cell? ⟨gb154, 0, none⟩ = some (.int .u64 0) := (blk_cell BK154.out 0).trans rfl
              have hfs44 := blk_frozen BK154.out 0
              have hns44_0 := NB149_154.out
              have hns44_1 := NB150_154.out
              have hms44_0 := NB154_149.out
              have hms44_1 := NB154_150.out
              have hs45 : w43.cell? ⟨gb154, 1, none⟩ = some (.int .u64 0) := (blk_cell BK154.out 1).trans rfl
              have hfs45 := blk_frozen BK154.out 1
              have hns45_0 := NB149_154.out
              have hns45_1 := NB150_154.out
              have hms45_0 := NB154_149.out
              have hms45_1 := NB154_150.out
              refine skip_ (w1 := ?_) (by rfl) rfl ?_ ?_
              rotate_left
              · go_simp
                rfl
              refine hK.out _ _ ⟨((cell_far (p := ⟨gb154, _, none⟩) NB149_154.out _).trans (((cell_far (p := ⟨gb154, _, none⟩) NB149_154.out _).trans (hHeld.1)))), ((cell_far (p := ⟨gb154, _, none⟩) NB149_154.out _).trans (((cell_far (p := ⟨gb154, _, none⟩) NB149_154.out _).trans (hHeld.2))))⟩ (fun hHeld => ?_)
              clear hK K
              refine done_ (done_of HT_.out (by kernel_rfl)) ?_
              have hnb46 := NB154_149.out
              have hnc46 := NB149_154.out
              have hnb47 := NB154_150.out
              have hnc47 := NB150_154.out
              have hcz48_0 : w43.cell? ⟨gb154, 0, none⟩ = some (.int .u64 0) := (blk_cell BK154.out 0).trans rfl
              have hcz48_1 : w43.cell? ⟨gb154, 1, none⟩ = some (.int .u64 0) := (blk_cell BK154.out 1).trans rfl
              have hfz48_0 := blk_frozen BK154.out 0
              have hfz48_1 := blk_frozen BK154.out 1
              try go_wp2_with (first|((with_reducible refine gate_callee (f := 46) rfl ?_); refine goesL_ (some 35) rfl rfl Try.func46 (by kernel_rfl) rfl #[.agg #[.int .u64 a0_0, .int .u64 t153]] rfl (by first|(simp only [List.map_toArray, List.map_cons, List.map_nil] <;> rfl)|rfl|(simp only [List.length_drop, List.length_take]; rfl)) ?_; (with_reducible refine (logjamref19_Missing.calls kj2 a0_0 t153 t155 _ A21.out).mono ?_); rintro e w49 ⟨rfl, hb⟩; refine ⟨_, rfl, ?_⟩; have n0_ := A0_ (blk_below (g := gb149) (o := .cells #[.int .u64 a0_0, .int .u64 a0_1] 74 (0, 0)) (by (with_reducible repeat first|refine bN_ ?_ _|refine bD_ ?_|refine bA_ ?_ _); refine blk_far ?_ NB149_154.out _; (with_reducible repeat first|refine bN_ ?_ _|refine bD_ ?_|refine bA_ ?_ _); refine blk_far ?_ NB149_154.out _; (with_reducible repeat first|refine bN_ ?_ _|refine bD_ ?_|refine bA_ ?_ _); exact BK149.out) hb); have n1_ := A0_ (blk_below (g := gb150) (o := .cells #[.int .u64 0, .int .u64 0] 74 (0, 0)) (by (with_reducible repeat first|refine bN_ ?_ _|refine bD_ ?_|refine bA_ ?_ _); refine blk_far ?_ NB150_154.out _; (with_reducible repeat first|refine bN_ ?_ _|refine bD_ ?_|refine bA_ ?_ _); refine blk_far ?_ NB150_154.out _; (with_reducible repeat first|refine bN_ ?_ _|refine bD_ ?_|refine bA_ ?_ _); exact BK150.out) hb); have n2_ := A0_ (blk_below (g := gb154) (o := .cells #[.int .u64 a0_0, .int .u64 t153] 74 (0, 0)) (by (with_reducible repeat first|refine bN_ ?_ _|refine bD_ ?_|refine bA_ ?_ _); refine blk_put (cs := #[.int .u64 a0_0, .int .u64 0]) ?_ 1 _ rfl; (with_reducible repeat first|refine bN_ ?_ _|refine bD_ ?_|refine bA_ ?_ _); refine blk_put (cs := #[.int .u64 0, .int .u64 0]) ?_ 0 _ rfl; (with_reducible repeat first|refine bN_ ?_ _|refine bD_ ?_|refine bA_ ?_ _); exact BK154.out) hb); have n3_ := A0_ (below_step (by repeat (first|(with_reducible first|exact HB.out|apply ba_|apply pN_|apply b1_|refine bs_ ?_ GE149.out|refine bs_ ?_ GE150.out|refine bs_ ?_ GE154.out)|exact HB.out)) hb); clear BK149; clear BK150; clear BK154; clear HB; have BK149 := n0_; have BK150 := n1_; have BK154 := n2_; have HB := n3_; clear n0_ n1_ n2_ n3_; (try clear hb); (try clear hb2); (try clear hk); (try clear hi); have hcz50_0 : w49.cell? ⟨gb154, 0, none⟩ = some (.int .u64 a0_0) := (blk_cell BK154.out 0).trans rfl; have hcz50_1 : w49.cell? ⟨gb154, 1, none⟩ = some (.int .u64 t153) := (blk_cell BK154.out 1).trans rfl; have hfz50_0 := blk_frozen BK154.out 0; have hfz50_1 := blk_frozen BK154.out 1; have hcz51_0 : w49.cell? ⟨gb150, 0, none⟩ = some (.int .u64 0) := (blk_cell BK150.out 0).trans rfl; have hcz51_1 : w49.cell? ⟨gb150, 1, none⟩ = some (.int .u64 0) := (blk_cell BK150.out 1).trans rfl; have hfz51_0 := blk_frozen BK150.out 0; have hfz51_1 := blk_frozen BK150.out 1))
              refine bodyPost_ret (results_list (rs := [.cell 4 74, .tmp 5, .tmp 6, .tmp 7]) rfl (by simp) (.cell gb150 74 #[.int .u64 a0_0, .int .u64 t153] (0, 0) _ rfl (by (with_reducible repeat first|refine bN_ ?_ _|refine bD_ ?_|refine bA_ ?_ _); refine blk_put (cs := #[.int .u64 a0_0, .int .u64 0]) ?_ 1 _ rfl; (with_reducible repeat first|refine bN_ ?_ _|refine bD_ ?_|refine bA_ ?_ _); refine blk_put (cs := #[.int .u64 0, .int .u64 0]) ?_ 0 _ rfl; (with_reducible repeat first|refine bN_ ?_ _|refine bD_ ?_|refine bA_ ?_ _); exact BK150.out) Try.underlying74 rfl (by kernel_rfl) (.tmp (.tmp (.tmp .nil))))) rfl ?_
              exact ⟨by first|rfl|(simp [errW_none, errW_some] <;> rfl)|(simp [*, errW_none, errW_some] <;> rfl), by repeat (first|(with_reducible first|exact HB.out|apply ba_|apply pN_|apply b1_|refine bs_ ?_ GE149.out|refine bs_ ?_ GE150.out|refine bs_ ?_ GE154.out)|exact HB.out)⟩
        · replace c12 := Bool.eq_false_iff.mpr c12
          subst c12
          have H1 : (some (a0_0, a0_1, 0, false, 9)) = some (r1, r2, r3, r4, r5) := by rw [if_neg (show ¬ (false = true) by decide)] at H; exact H
          clear H
          have H := H1
          clear H1
          simp only [Option.some.injEq, Prod.mk.injEq] at H
          obtain ⟨rfl, rfl, rfl, rfl, rfl⟩ := H
          have hnb52 := NB149_150.out
          have hnc52 := NB150_149.out
          have hcz53_0 : wc.cell? ⟨gb149, 0, none⟩ = some (.int .u64 a0_0) := (blk_cell BK149.out 0).trans rfl
          have hcz53_1 : wc.cell? ⟨gb149, 1, none⟩ = some (.int .u64 a0_1) := (blk_cell BK149.out 1).trans rfl
          have hfz53_0 := blk_frozen BK149.out 0
          have hfz53_1 := blk_frozen BK149.out 1
          go_wp2_with (first|((with_reducible refine gate_callee (f := 65) rfl ?_); refine goesL_ (some 19) rfl rfl Try.func65 (by kernel_rfl) rfl #[.int .u64 a0_0, .int .i64 a1] rfl (by first|(simp only [List.map_toArray, List.map_cons, List.map_nil] <;> rfl)|rfl|(simp only [List.length_drop, List.length_take]; rfl)) ?_; (with_reducible refine (logjamref02_Has.calls kj2 a0_0 a1 false _ A11.out).mono ?_); rintro e w' ⟨rfl, ⟨nd, rfl⟩⟩; refine ⟨_, rfl, ?_⟩; (try (rw [drewN_self wc]; generalize hq_ : World.drewN wc _ = wc; have n0_ : Aside0 (wc.heap[gb149]? = some (.cells #[.int .u64 a0_0, .int .u64 a0_1] 74 (0, 0))) := ⟨by rw [← hq_]; exact (by (with_reducible repeat first|refine bN_ ?_ _|refine bD_ ?_|refine bA_ ?_ _); exact BK149.out)⟩; have n1_ : Aside0 (wc.heap[gb150]? = some (.cells #[.int .u64 0, .int .u64 0] 74 (0, 0))) := ⟨by rw [← hq_]; exact (by (with_reducible repeat first|refine bN_ ?_ _|refine bD_ ?_|refine bA_ ?_ _); exact BK150.out)⟩; have n2_ : Aside0 (Below w.heap.size w wc) := ⟨by rw [← hq_]; exact (by repeat (first|(with_reducible first|exact HB.out|apply ba_|apply pN_|apply b1_|refine bs_ ?_ GE149.out|refine bs_ ?_ GE150.out)|exact HB.out))⟩; clear BK149 BK150 HB hq_; have BK149 := n0_; have BK150 := n1_; have HB := n2_; clear n0_ n1_ n2_)); have hcz54_0 : wc.cell? ⟨gb149, 0, none⟩ = some (.int .u64 a0_0) := (blk_cell BK149.out 0).trans rfl; have hcz54_1 : wc.cell? ⟨gb149, 1, none⟩ = some (.int .u64 a0_1) := (blk_cell BK149.out 1).trans rfl; have hfz54_0 := blk_frozen BK149.out 0; have hfz54_1 := blk_frozen BK149.out 1; have hcz55_0 : wc.cell? ⟨gb150, 0, none⟩ = some (.int .u64 0) := (blk_cell BK150.out 0).trans rfl; have hcz55_1 : wc.cell? ⟨gb150, 1, none⟩ = some (.int .u64 0) := (blk_cell BK150.out 1).trans rfl; have hfz55_0 := blk_frozen BK150.out 0; have hfz55_1 := blk_frozen BK150.out 1))
          refine bodyPost_ret (results_list (rs := [.cell 4 74, .tmp 5, .tmp 6, .tmp 7]) rfl (by simp) (.cell gb150 74 #[.int .u64 a0_0, .int .u64 a0_1] (0, 0) _ rfl (by (with_reducible repeat first|refine bN_ ?_ _|refine bD_ ?_|refine bA_ ?_ _); refine blk_put (cs := #[.int .u64 a0_0, .int .u64 0]) ?_ 1 _ rfl; (with_reducible repeat first|refine bN_ ?_ _|refine bD_ ?_|refine bA_ ?_ _); refine blk_put (cs := #[.int .u64 0, .int .u64 0]) ?_ 0 _ rfl; (with_reducible repeat first|refine bN_ ?_ _|refine bD_ ?_|refine bA_ ?_ _); exact BK150.out) Try.underlying74 rfl (by kernel_rfl) (.tmp (.tmp (.tmp .nil))))) rfl ?_
          exact ⟨by first|rfl|(simp [errW_none, errW_some] <;> rfl)|(simp [*, errW_none, errW_some] <;> rfl), by repeat (first|(with_reducible first|exact HB.out|apply ba_|apply pN_|apply b1_|refine bs_ ?_ GE149.out|refine bs_ ?_ GE150.out)|exact HB.out)⟩

end Go.Proofs.Ytbnkanlfepdlkaa.PBarrierPlays
