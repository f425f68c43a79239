/- Go functions as plain Lean functions, and that the calls come to them. Conditions: none. (Written by a program of this session.) -/
import Derived.Test.YtbnkanlfepdlkaaPBarrierPlaysx0
import Derived.Test.YtbnkanlfepdlkaaPBarrierPlaysx2
import Derived.Test.YtbnkanlfepdlkaaPBarrierPlaysx3
import Derived.Test.YtbnkanlfepdlkaaPBarrierPlaysx7
import Derived.Test.YtbnkanlfepdlkaaPBarrierPlaysx8
namespace Go.Proofs.Ytbnkanlfepdlkaa.PBarrierPlays
open Go.RowKit Go.Proofs.YtbnkanlfepdlkaaW.PrintWords Go.Proofs.YtbnkanlfepdlkaaW.PrintLast Go.Proofs.YtbnkanlfepdlkaaW.PrintMore
attribute [local go_sem] max2_int min2_int max_two min_two max_three min_three max_four min_four   -- for this text's walks alone
set_option linter.unusedVariables false
set_option linter.unusedSimpArgs false

set_option maxHeartbeats 8000000 in
set_option maxRecDepth 100000 in
theorem logjamlaw19_BarrierPlays.calls (k : Nat) (A0 : Option Addr) (c0 : Nat) (l0 : List (S80)) (r : Bool) (w : World) (hr0 : Kd.C k80 w A0 l0.length l0) (hc0 : l0.length ≤ c0) (h : logjamlaw19_BarrierPlays.f k l0 = some r) :
    Calls Try.prog 11 #[.slice A0 l0.length c0] w fun e w' => e = .returned (.bool r) ∧ Below w.heap.size w w' := by
  have hu66 := Try.underlying66
  have hu74 := Try.underlying74
  have hu80 := Try.underlying80
  have hu76 := Try.underlying76
  have HR0 := A0_ hr0
  have HC0 := A0_ hc0
  clear hr0 hc0
  have HB := A0_ (Below.refl w.heap.size w)
  have H : (logjamlaw19_BarrierPlays.l0 k l0 0 0 0 0 0) = some r := h
  clear h
  have H' := A0_ H
  clear H
  go_enter Try.func11, Try.ntmps11
  go_wp2_with (first|((with_reducible refine gate_dst (N := 9) rfl ?_); refine box_event ?hg (N := 9) ?hd (cs := #[.int .u64 0, .int .u64 0]) (t := 66) ?hr ?_; (case hd => rfl); (case hg => rfl); (case hr => first|(go_simp; done)|(go_simp; rfl)); intro gb217 hg w2 hbox hb; have n0_ := A0_ (below_step (by repeat (first|(with_reducible first|exact HB.out|apply ba_|apply pN_|apply b1_)|exact HB.out)) hb); have n1_ := A0_ ((by rw [hg]; exact (below_size (by repeat (first|(with_reducible first|exact HB.out|apply ba_|apply pN_|apply b1_)|exact HB.out))) : w.heap.size ≤ gb217)); have n2_ := A0_ ((⟨hbox, (by rw [hg]; exact (below_size (by repeat (first|(with_reducible first|exact HB.out|apply ba_|apply pN_|apply b1_)|exact HB.out))) : w.heap.size ≤ gb217)⟩ : IsS66 w w2 gb217 0 0)); clear HB; have HB := n0_; have GW217 := n1_; have HI217 := n2_; clear n0_ n1_ n2_; clear hb hbox hg)|((with_reducible refine gate_dst (N := 4) rfl ?_); refine box_event ?hg (N := 4) ?hd (cs := #[.int .u64 0, .int .u64 0]) (t := 74) ?hr ?_; (case hd => rfl); (case hg => rfl); (case hr => first|(go_simp; done)|(go_simp; rfl)); intro gb218 hg w3 hbox hb; have n0_ := A0_ (IsS66.below (by repeat (first|(with_reducible first|exact HI217.out|apply IsS66.alloc|apply IsS66.drewN|apply IsS66.drew|apply IsS66.set_0|apply IsS66.set_1)|exact HI217.out)) hb); have n1_ := A0_ (below_step (by repeat (first|(with_reducible first|exact HB.out|apply ba_|apply pN_|apply b1_|refine bs_ ?_ (IsS66.ge HI217.out))|exact HB.out)) hb); have n2_ := A0_ (hbox); have n3_ := A0_ ((by rw [hg]; exact (below_size (by repeat (first|(with_reducible first|exact HB.out|apply ba_|apply pN_|apply b1_|refine bs_ ?_ (IsS66.ge HI217.out))|exact HB.out))) : w.heap.size ≤ gb218)); have n4_ := A0_ ((by rw [hg]; exact (below_size (by repeat (first|(with_reducible first|exact HB.out|apply ba_|apply pN_|apply b1_|refine bs_ ?_ (IsS66.ge HI217.out))|exact HB.out))) : w.heap.size ≤ gb218)); have n5_ := A0_ ((by rw [hg]; exact Nat.ne_of_lt (IsS66.lt (show IsS66 w _ gb217 0 0 from by repeat (first|(with_reducible first|exact HI217.out|apply IsS66.alloc|apply IsS66.drewN|apply IsS66.drew|apply IsS66.set_0|apply IsS66.set_1)|exact HI217.out))) : gb217 ≠ gb218)); have n6_ := A0_ ((by rw [hg]; exact Nat.ne_of_gt (IsS66.lt (show IsS66 w _ gb217 0 0 from by repeat (first|(with_reducible first|exact HI217.out|apply IsS66.alloc|apply IsS66.drewN|apply IsS66.drew|apply IsS66.set_0|apply IsS66.set_1)|exact HI217.out))) : gb218 ≠ gb217)); clear HI217; clear HB; have HI217 := n0_; have HB := n1_; have BK218 := n2_; have GW218 := n3_; have GE218 := n4_; have NB217_218 := n5_; have NB218_217 := n6_; clear n0_ n1_ n2_ n3_ n4_ n5_ n6_; clear hb hbox hg; have hnb4 := NB218_217.out; have hnc4 := NB217_218.out; have hcz5_0 : w3.cell? ⟨gb218, 0, none⟩ = some (.int .u64 0) := (blk_cell BK218.out 0).trans rfl; have hcz5_1 : w3.cell? ⟨gb218, 1, none⟩ = some (.int .u64 0) := (blk_cell BK218.out 1).trans rfl; have hfz5_0 := blk_frozen BK218.out 0; have hfz5_1 := blk_frozen BK218.out 1))
  go_loopg [5] k (fun kq v5 w' => ∃ (x5_1 : Int) (x218000_1 : Int) (x218001_1 : Int) (x219000_1 : Int) (x219001_1 : Int), v5 = .int .i64 x5_1 ∧ Aside0 (logjamlaw19_BarrierPlays.l0 kq l0 x5_1 x218000_1 x218001_1 x219000_1 x219001_1 = some r) ∧ Aside0 (kq ≤ k) ∧ Aside0 (w'.heap[gb218]? = some (.cells #[.int .u64 x219000_1, .int .u64 x219001_1] 74 (0, 0))) ∧ Aside0 (IsS66 w w' gb217 x218000_1 x218001_1) ∧ Aside0 (Below w.heap.size w w'))
  case atStart => exact ⟨(0), (0), (0), (0), (0), (by first|rfl|(simp; done)|(simp [*]; done)), H', ⟨Nat.le_refl _⟩, ⟨by (with_reducible repeat first|refine bN_ ?_ _|refine bD_ ?_|refine bA_ ?_ _); refine blk_put (cs := #[.int .u64 0, .int .u64 0]) ?_ 1 _ rfl; (with_reducible repeat first|refine bN_ ?_ _|refine bD_ ?_|refine bA_ ?_ _); refine blk_put (cs := #[.int .u64 0, .int .u64 0]) ?_ 0 _ rfl; (with_reducible repeat first|refine bN_ ?_ _|refine bD_ ?_|refine bA_ ?_ _); exact BK218.out⟩, ⟨by repeat (first|(with_reducible first|exact HI217.out|apply IsS66.alloc|apply IsS66.drewN|apply IsS66.drew|apply IsS66.set_0|apply IsS66.set_1|refine IsS66.far ?_ NB217_218.out _)|exact HI217.out)⟩, ⟨by repeat (first|(with_reducible first|exact HB.out|apply ba_|apply pN_|apply b1_|refine bs_ ?_ (IsS66.ge HI217.out)|refine bs_ ?_ GE218.out)|exact HB.out)⟩⟩
  case round =>
    clear H'
    try clear c1
    try clear p2
    try clear c4
    try clear hcz5_0
    try clear hcz5_1
    try clear hfz5_0
    try clear hfz5_1
    obtain ⟨x5_1, x218000_1, x218001_1, x219000_1, x219001_1, rfl, HA, HK1, BK218, HI217, HB⟩ := hrel
    cases gk with
    | zero => exact absurd HA.out (by simp [logjamlaw19_BarrierPlays.l0])
    | succ k1 =>
      have H := HA.out
      clear HA
      simp only [logjamlaw19_BarrierPlays.l0] at H
      have HC6 := A0_ H
      clear H
      go_upto_region 3 with (fail)
      go_cut [18] (fun v18 wc => ∃ (kq : Nat) (x18_5 : Bool), v18 = .bool x18_5 ∧ Aside0 (logjamlaw19_BarrierPlays.j1 kq l0 x5_1 x18_5 x218000_1 x218001_1 x219000_1 x219001_1 = some r) ∧ Aside0 (kq ≤ k1) ∧ Aside0 (wc.heap[gb218]? = some (.cells #[.int .u64 x219000_1, .int .u64 x219001_1] 74 (0, 0))) ∧ Aside0 (IsS66 w wc gb217 x218000_1 x218001_1) ∧ Aside0 (Below w.heap.size w wc))
      case first =>
        have H := HC6.out
        clear HC6
        by_cases c7 : x5_1 < (l0.length : Int)
        · rw [if_pos c7] at H
          have c7b0 : decide (x5_1 < (l0.length : Int)) = true := decide_eq_true c7
          clear c7
          (first|rw [c7b0]|(simp only [i64_w, i32_w]; rw [c7b0])|skip)
          have H' := A0_ H
          clear H
          go_wp2
          go_meet
          case rel => exact ⟨_, (decide (x5_1 < 100)), (by first|rfl|(simp; done)|(simp [*]; done)), H', ⟨by have := HK1.out; first|omega|exact Nat.le_refl _⟩, ⟨by (with_reducible repeat first|refine bN_ ?_ _|refine bD_ ?_|refine bA_ ?_ _); exact BK218.out⟩, ⟨by repeat (first|(with_reducible first|exact HI217.out|apply IsS66.alloc|apply IsS66.drewN|apply IsS66.drew|apply IsS66.set_0|apply IsS66.set_1|refine IsS66.far ?_ NB217_218.out _)|exact HI217.out)⟩, ⟨by repeat (first|(with_reducible first|exact HB.out|apply ba_|apply pN_|apply b1_|refine bs_ ?_ (IsS66.ge HI217.out)|refine bs_ ?_ GE218.out)|exact HB.out)⟩⟩
        · rw [if_neg c7] at H
          have c7b0 : decide (x5_1 < (l0.length : Int)) = false := decide_eq_false c7
          clear c7
          (first|rw [c7b0]|(simp only [i64_w, i32_w]; rw [c7b0])|skip)
          have H' := A0_ H
          clear H
          go_wp2
          go_meet
          case rel => exact ⟨_, (false), (by first|rfl|(simp; done)|(simp [*]; done)), H', ⟨by have := HK1.out; first|omega|exact Nat.le_refl _⟩, ⟨by (with_reducible repeat first|refine bN_ ?_ _|refine bD_ ?_|refine bA_ ?_ _); exact BK218.out⟩, ⟨by repeat (first|(with_reducible first|exact HI217.out|apply IsS66.alloc|apply IsS66.drewN|apply IsS66.drew|apply IsS66.set_0|apply IsS66.set_1|refine IsS66.far ?_ NB217_218.out _)|exact HI217.out)⟩, ⟨by repeat (first|(with_reducible first|exact HB.out|apply ba_|apply pN_|apply b1_|refine bs_ ?_ (IsS66.ge HI217.out)|refine bs_ ?_ GE218.out)|exact HB.out)⟩⟩
      case rest =>
        clear HC6
        try clear c1
        try clear p2
        try clear c4
        try clear c7
        try clear c7b0
        try clear hcz5_0
        try clear hcz5_1
        try clear hfz5_0
        try clear hfz5_1
        try clear p2
        obtain ⟨kq, x18_5, rfl, HA, HJ5, BK218, HI217, HB⟩ := hcut
        cases kq with
        | zero => exact absurd HA.out (by simp [logjamlaw19_BarrierPlays.j1])
        | succ kj5 =>
          have H := HA.out
          clear HA
          simp only [logjamlaw19_BarrierPlays.j1] at H
          by_cases c8 : x18_5 = true
          · subst c8
            have H1 : (if 0 ≤ x5_1 then (if x5_1 < (l0.length : Int) then ((logjamref19_Do.f kj5 x219000_1 x219001_1 ((rd_T80 l0 x5_1).f0) ((rd_T80 l0 x5_1).f1)).bind fun bt220 => ((logjamlaw19_do.f x218000_1 x218001_1 ((rd_T80 l0 x5_1).f0) ((rd_T80 l0 x5_1).f1)).bind fun bt228 => (if (!(bt228.1 == bt220.2.2.1) || (!(bt228.2.1 == bt220.2.2.2.1) || (!(bt228.2.2.1 == bt220.2.2.2.2)))) = true then (logjamlaw19_BarrierPlays.j2 kj5 l0 x5_1 true bt228.2.2.2.1 bt228.2.2.2.2 bt220.1 bt220.2.1) else ((barrier_Barrier_Members.f bt228.2.2.2.1 bt228.2.2.2.2).bind fun bt233 => (if bt233.1 = bt220.1 then ((barrier_Barrier_Arrived.f bt233.2.1 bt233.2.2).bind fun bt236 => (if bt236.1 = bt220.2.1 then ((barrier_Barrier_Missing.f bt236.2.1 bt236.2.2).bind fun bt239 => ((logjamref19_Missing.f kj5 bt220.1 bt220.2.1).bind fun t242 => (logjamlaw19_BarrierPlays.j2 kj5 l0 x5_1 (bt239.1 != t242) bt239.2.1 bt239.2.2 bt220.1 bt220.2.1))) else (logjamlaw19_BarrierPlays.j2 kj5 l0 x5_1 true bt236.2.1 bt236.2.2 bt220.1 bt220.2.1))) else (logjamlaw19_BarrierPlays.j2 kj5 l0 x5_1 true bt233.2.1 bt233.2.2 bt220.1 bt220.2.1)))))) else (none)) else (none)) = some r := by rw [if_pos rfl] at H; exact H
            clear H
            have H := H1
            clear H1
            by_cases c9 : 0 ≤ x5_1
            · rw [if_pos c9] at H
              have c9b0 : decide (0 ≤ x5_1) = true := decide_eq_true c9
              clear c9
              by_cases c10 : x5_1 < (l0.length : Int)
              · rw [if_pos c10] at H
                have c10b0 : decide (x5_1 < (l0.length : Int)) = true := decide_eq_true c10
                clear c10
                replace H := bm_ H
                obtain ⟨⟨t220, t221, t222, t223, t224⟩, A110, H⟩ := H
                replace H : ((logjamlaw19_do.f x218000_1 x218001_1 ((rd_T80 l0 x5_1).f0) ((rd_T80 l0 x5_1).f1)).bind fun bt228 => (if (!(bt228.1 == t222) || (!(bt228.2.1 == t223) || (!(bt228.2.2.1 == t224)))) = true then (logjamlaw19_BarrierPlays.j2 kj5 l0 x5_1 true bt228.2.2.2.1 bt228.2.2.2.2 t220 t221) else ((barrier_Barrier_Members.f bt228.2.2.2.1 bt228.2.2.2.2).bind fun bt233 => (if bt233.1 = t220 then ((barrier_Barrier_Arrived.f bt233.2.1 bt233.2.2).bind fun bt236 => (if bt236.1 = t221 then ((barrier_Barrier_Missing.f bt236.2.1 bt236.2.2).bind fun bt239 => ((logjamref19_Missing.f kj5 t220 t221).bind fun t242 => (logjamlaw19_BarrierPlays.j2 kj5 l0 x5_1 (bt239.1 != t242) bt239.2.1 bt239.2.2 t220 t221))) else (logjamlaw19_BarrierPlays.j2 kj5 l0 x5_1 true bt236.2.1 bt236.2.2 t220 t221))) else (logjamlaw19_BarrierPlays.j2 kj5 l0 x5_1 true bt233.2.1 bt233.2.2 t220 t221))))) = some r := H
                have A11 := A0_ A110
                clear A110
                have HC12 := A0_ H
                clear H
                try go_wp2
                have n0_ := A0_ (blk_drew BK218.out)
                have n1_ := A0_ (IsS66.drew HI217.out)
                have n2_ := A0_ (b1_ HB.out)
                clear BK218
                clear HI217
                clear HB
                have BK218 := n0_
                have HI217 := n1_
                have HB := n2_
                clear n0_ n1_ n2_
                have p219 : 0 ≤ (x5_1 : Int) := of_decide_eq_true (by first|(with_reducible assumption)|assumption)
                have q219 : x5_1 < (l0.length : Int) := of_decide_eq_true (by first|(with_reducible assumption)|assumption)
                obtain ⟨ad219, e219, hx219_0, hx219_1⟩ := at_T80 HR0.out x5_1 p219 q219
                have hw219_1 := hx219_1
                have hw219_0 := hx219_0
                cases e219
                replace hx219_0 := (HB.out.cell (bl_ w _ hx219_0)).trans hx219_0
                replace hx219_1 := (HB.out.cell (bl_ w _ hx219_1)).trans hx219_1
                replace p219 := eq_true p219
                replace q219 := eq_true q219
                refine start_ (n := 13) (S := fun w' => w'.cell? ⟨gb218, 0, none⟩ = some (.int .u64 x219000_1) ∧ w'.cell? ⟨gb218, 1, none⟩ = some (.int .u64 x219001_1) ∧ w'.cell? (ad219.add ((x5_1).toNat * 2)) = some (.int .i64 ((rd_T80 l0 x5_1).f0)) ∧ w'.cell? ⟨(ad219.add ((x5_1).toNat * 2)).block, (ad219.add ((x5_1).toNat * 2)).off + 1, none⟩ = some (.int .i64 ((rd_T80 l0 x5_1).f1))) (ds := []) #[false, false, false, false, false, false, false, false, false, false, false, false, false] (by kernel_rfl) rfl rfl ⟨(blk_cell BK218.out 0).trans rfl, (blk_cell BK218.out 1).trans rfl, ((HB.out.cell (bl_ w _ hw219_0)).trans hw219_0), ((HB.out.cell (bl_ w _ hw219_1)).trans hw219_1)⟩ (fun hHeld => ?_); refine with_tabW logjamlaw19_BarrierPlays.tab5 logjamlaw19_BarrierPlays.bits5 (fun HT_ HW_ => ?_)
                generalize wc.drew = w13 at BK218 HI217 HB hx219_0 hx219_1 hHeld ⊢
                refine pure_ (i := 1) (N := some 23) (v := ?_) (a' := ?_) #[false, true, false, false, false, false, false, false, false, false, false, false, false] rfl rfl (any_of HT_.out (by kernel_rfl)) (fun _ _ _ h => h) (Or.inl ⟨by rfl, ?_⟩) ?_ ?_
                rotate_left
                · intro w'
                  go_simp
                  with_reducible rfl
                rotate_left
                · simp only [Act.put, sA_, sZ_, sS_, i64_w, i32_w]
                  rfl
                refine pure_ (i := 2) (N := some 24) (v := ?_) (a' := ?_) #[false, true, true, false, false, false, false, false, false, false, false, false, false] rfl rfl (any_of HT_.out (by kernel_rfl)) (fun _ _ _ h => h) (Or.inl ⟨by rfl, ?_⟩) ?_ ?_
                rotate_left
                · intro w'
                  go_simp
                  with_reducible rfl
                rotate_left
                · simp only [Act.put, sA_, sZ_, sS_, i64_w, i32_w]
                  rfl
                refine pure_ (i := 3) (N := some 25) (v := ?_) (a' := ?_) #[false, true, true, true, false, false, false, false, false, false, false, false, false] rfl rfl (any_of HT_.out (by kernel_rfl)) (fun _ _ _ h => h) (Or.inl ⟨by rfl, ?_⟩) ?_ ?_
                rotate_left
                · intro w'
                  go_simp
                  with_reducible rfl
                rotate_left
                · simp only [Act.put, sA_, sZ_, sS_, i64_w, i32_w]
                  rfl
                refine take_ (i := 0) (N := some 22) (v := ?_) (a' := ?_) #[true, true, true, true, false, false, false, false, false, false, false, false, false] rfl rfl (take_ofW HT_.out HW_.out (by kernel_rfl)) (fun _ _ _ h => h) (Or.inl ⟨by rfl, ?_⟩) hHeld ?_ ?_
                rotate_left
                · rintro w' ⟨s0, s1, s2, s3⟩
                  go_simp
                  with_reducible rfl
                rotate_left
                · simp only [Act.put, sA_, sZ_, sS_, i64_w, i32_w]
                  rfl
                refine take_ (i := 4) (N := some 26) (v := ?_) (a' := ?_) #[true, true, true, true, true, false, false, false, false, false, false, false, false] rfl rfl (take_ofW HT_.out HW_.out (by kernel_rfl)) (fun _ _ _ h => h) (Or.inl ⟨by rfl, ?_⟩) hHeld ?_ ?_
                rotate_left
                · rintro w' ⟨s0, s1, s2, s3⟩
                  go_simp
                  with_reducible rfl
                rotate_left
                · simp only [Act.put, sA_, sZ_, sS_, i64_w, i32_w]
                  rfl
                refine join_ (σ := Nat × Nat) 2 #[true, true, true, true, true, true, true, true, true, true, true, false, false] (fun s_ => [(27, .tuple #[.agg #[.int .u64 t220, .int .u64 t221], .agg #[.int .u64 t222, .bool t223, .int .i64 t224]]), (6, .pointer (some ⟨s_.1, 0, none⟩)), (7, .pointer (some ⟨s_.2, 0, none⟩)), (21, .tuple #[.agg #[.int .u64 t220, .int .u64 t221], .agg #[.int .u64 t222, .bool t223, .int .i64 t224]]), (28, .agg #[.int .u64 t220, .int .u64 t221]), (29, .agg #[.int .u64 t222, .bool t223, .int .i64 t224])]) (fun s_ w' => (w'.cell? ⟨gb218, 0, none⟩ = some (.int .u64 x219000_1) ∧ w'.cell? ⟨gb218, 1, none⟩ = some (.int .u64 x219001_1) ∧ w'.cell? (ad219.add ((x5_1).toNat * 2)) = some (.int .i64 ((rd_T80 l0 x5_1).f0)) ∧ w'.cell? ⟨(ad219.add ((x5_1).toNat * 2)).block, (ad219.add ((x5_1).toNat * 2)).off + 1, none⟩ = some (.int .i64 ((rd_T80 l0 x5_1).f1))) ∧ (w'.heap[gb218]? = some (.cells #[.int .u64 x219000_1, .int .u64 x219001_1] 74 (0, 0))) ∧ (w'.heap[s_.1]? = some (.cells #[.int .u64 0, .int .u64 0] 74 (0, 0))) ∧ (w'.heap[s_.2]? = some (.cells #[.int .u64 0, .bool false, .int .i64 0] 76 (0, 0))) ∧ (w.heap.size ≤ s_.1) ∧ (w.heap.size ≤ s_.1) ∧ (gb217 ≠ s_.1) ∧ (s_.1 ≠ gb217) ∧ (gb218 ≠ s_.1) ∧ (s_.1 ≠ gb218) ∧ (s_.2 ≠ s_.1) ∧ (s_.1 ≠ s_.2) ∧ (w.heap.size ≤ s_.2) ∧ (w.heap.size ≤ s_.2) ∧ (gb217 ≠ s_.2) ∧ (s_.2 ≠ gb217) ∧ (gb218 ≠ s_.2) ∧ (s_.2 ≠ gb218) ∧ (IsS66 w w' gb217 x218000_1 x218001_1) ∧ (Below w.heap.size w w')) ?_ ?_
                rotate_left
                · intro hJ5_9_10
                  refine join_ (σ := Nat) 3 #[true, true, true, true, true, true, true, true, true, true, false, false, false] (fun s_ => [(27, .tuple #[.agg #[.int .u64 t220, .int .u64 t221], .agg #[.int .u64 t222, .bool t223, .int .i64 t224]]), (6, .pointer (some ⟨s_, 0, none⟩)), (21, .tuple #[.agg #[.int .u64 t220, .int .u64 t221], .agg #[.int .u64 t222, .bool t223, .int .i64 t224]]), (28, .agg #[.int .u64 t220, .int .u64 t221]), (29, .agg #[.int .u64 t222, .bool t223, .int .i64 t224])]) (fun s_ w' => (w'.cell? ⟨gb218, 0, none⟩ = some (.int .u64 x219000_1) ∧ w'.cell? ⟨gb218, 1, none⟩ = some (.int .u64 x219001_1) ∧ w'.cell? (ad219.add ((x5_1).toNat * 2)) = some (.int .i64 ((rd_T80 l0 x5_1).f0)) ∧ w'.cell? ⟨(ad219.add ((x5_1).toNat * 2)).block, (ad219.add ((x5_1).toNat * 2)).off + 1, none⟩ = some (.int .i64 ((rd_T80 l0 x5_1).f1))) ∧ (w'.heap[gb218]? = some (.cells #[.int .u64 x219000_1, .int .u64 x219001_1] 74 (0, 0))) ∧ (w'.heap[s_]? = some (.cells #[.int .u64 0, .int .u64 0] 74 (0, 0))) ∧ (w.heap.size ≤ s_) ∧ (w.heap.size ≤ s_) ∧ (gb217 ≠ s_) ∧ (s_ ≠ gb217) ∧ (gb218 ≠ s_) ∧ (s_ ≠ gb218) ∧ (IsS66 w w' gb217 x218000_1 x218001_1) ∧ (Below w.heap.size w w')) ?_ ?_
                  rotate_left
                  · intro hJ5_9
                    refine join_ (σ := Nat) 3 #[true, true, true, true, true, true, true, true, true, false, true, false, false] (fun s_ => [(27, .tuple #[.agg #[.int .u64 t220, .int .u64 t221], .agg #[.int .u64 t222, .bool t223, .int .i64 t224]]), (7, .pointer (some ⟨s_, 0, none⟩)), (21, .tuple #[.agg #[.int .u64 t220, .int .u64 t221], .agg #[.int .u64 t222, .bool t223, .int .i64 t224]]), (28, .agg #[.int .u64 t220, .int .u64 t221]), (29, .agg #[.int .u64 t222, .bool t223, .int .i64 t224])]) (fun s_ w' => (w'.cell? ⟨gb218, 0, none⟩ = some (.int .u64 x219000_1) ∧ w'.cell? ⟨gb218, 1, none⟩ = some (.int .u64 x219001_1) ∧ w'.cell? (ad219.add ((x5_1).toNat * 2)) = some (.int .i64 ((rd_T80 l0 x5_1).f0)) ∧ w'.cell? ⟨(ad219.add ((x5_1).toNat * 2)).block, (ad219.add ((x5_1).toNat * 2)).off + 1, none⟩ = some (.int .i64 ((rd_T80 l0 x5_1).f1))) ∧ (w'.heap[gb218]? = some (.cells #[.int .u64 x219000_1, .int .u64 x219001_1] 74 (0, 0))) ∧ (w'.heap[s_]? = some (.cells #[.int .u64 0, .bool false, .int .i64 0] 76 (0, 0))) ∧ (w.heap.size ≤ s_) ∧ (w.heap.size ≤ s_) ∧ (gb217 ≠ s_) ∧ (s_ ≠ gb217) ∧ (gb218 ≠ s_) ∧ (s_ ≠ gb218) ∧ (IsS66 w w' gb217 x218000_1 x218001_1) ∧ (Below w.heap.size w w')) ?_ ?_
                    rotate_left
                    · intro hJ5_10
                      refine join_ (σ := Nat × Nat) 6 #[true, true, true, true, true, false, false, false, false, true, true, false, false] (fun s_ => [(6, .pointer (some ⟨s_.1, 0, none⟩)), (7, .pointer (some ⟨s_.2, 0, none⟩))]) (fun s_ w' => (w'.cell? ⟨gb218, 0, none⟩ = some (.int .u64 x219000_1) ∧ w'.cell? ⟨gb218, 1, none⟩ = some (.int .u64 x219001_1) ∧ w'.cell? (ad219.add ((x5_1).toNat * 2)) = some (.int .i64 ((rd_T80 l0 x5_1).f0)) ∧ w'.cell? ⟨(ad219.add ((x5_1).toNat * 2)).block, (ad219.add ((x5_1).toNat * 2)).off + 1, none⟩ = some (.int .i64 ((rd_T80 l0 x5_1).f1))) ∧ (w'.heap[gb218]? = some (.cells #[.int .u64 x219000_1, .int .u64 x219001_1] 74 (0, 0))) ∧ (w'.heap[s_.1]? = some (.cells #[.int .u64 0, .int .u64 0] 74 (0, 0))) ∧ (w'.heap[s_.2]? = some (.cells #[.int .u64 0, .bool false, .int .i64 0] 76 (0, 0))) ∧ (w.heap.size ≤ s_.1) ∧ (w.heap.size ≤ s_.1) ∧ (gb217 ≠ s_.1) ∧ (s_.1 ≠ gb217) ∧ (gb218 ≠ s_.1) ∧ (s_.1 ≠ gb218) ∧ (s_.2 ≠ s_.1) ∧ (s_.1 ≠ s_.2) ∧ (w.heap.size ≤ s_.2) ∧ (w.heap.size ≤ s_.2) ∧ (gb217 ≠ s_.2) ∧ (s_.2 ≠ gb217) ∧ (gb218 ≠ s_.2) ∧ (s_.2 ≠ gb218) ∧ (IsS66 w w' gb217 x218000_1 x218001_1) ∧ (Below w.heap.size w w')) ?_ ?_
                      rotate_left
                      · intro hJ9_10
                        refine join_ (σ := Unit) 4 #[true, true, true, true, true, true, true, true, true, false, false, false, false] (fun s_ => [(27, .tuple #[.agg #[.int .u64 t220, .int .u64 t221], .agg #[.int .u64 t222, .bool t223, .int .i64 t224]]), (21, .tuple #[.agg #[.int .u64 t220, .int .u64 t221], .agg #[.int .u64 t222, .bool t223, .int .i64 t224]]), (28, .agg #[.int .u64 t220, .int .u64 t221]), (29, .agg #[.int .u64 t222, .bool t223, .int .i64 t224])]) (fun s_ w' => (w'.cell? ⟨gb218, 0, none⟩ = some (.int .u64 x219000_1) ∧ w'.cell? ⟨gb218, 1, none⟩ = some (.int .u64 x219001_1) ∧ w'.cell? (ad219.add ((x5_1).toNat * 2)) = some (.int .i64 ((rd_T80 l0 x5_1).f0)) ∧ w'.cell? ⟨(ad219.add ((x5_1).toNat * 2)).block, (ad219.add ((x5_1).toNat * 2)).off + 1, none⟩ = some (.int .i64 ((rd_T80 l0 x5_1).f1))) ∧ (w'.heap[gb218]? = some (.cells #[.int .u64 x219000_1, .int .u64 x219001_1] 74 (0, 0))) ∧ (IsS66 w w' gb217 x218000_1 x218001_1) ∧ (Below w.heap.size w w')) ?_ ?_
                        rotate_left
                        · intro hJ5
                          refine join_ (σ := Nat) 7 #[true, true, true, true, true, false, false, false, false, true, false, false, false] (fun s_ => [(6, .pointer (some ⟨s_, 0, none⟩))]) (fun s_ w' => (w'.cell? ⟨gb218, 0, none⟩ = some (.int .u64 x219000_1) ∧ w'.cell? ⟨gb218, 1, none⟩ = some (.int .u64 x219001_1) ∧ w'.cell? (ad219.add ((x5_1).toNat * 2)) = some (.int .i64 ((rd_T80 l0 x5_1).f0)) ∧ w'.cell? ⟨(ad219.add ((x5_1).toNat * 2)).block, (ad219.add ((x5_1).toNat * 2)).off + 1, none⟩ = some (.int .i64 ((rd_T80 l0 x5_1).f1))) ∧ (w'.heap[gb218]? = some (.cells #[.int .u64 x219000_1, .int .u64 x219001_1] 74 (0, 0))) ∧ (w'.heap[s_]? = some (.cells #[.int .u64 0, .int .u64 0] 74 (0, 0))) ∧ (w.heap.size ≤ s_) ∧ (w.heap.size ≤ s_) ∧ (gb217 ≠ s_) ∧ (s_ ≠ gb217) ∧ (gb218 ≠ s_) ∧ (s_ ≠ gb218) ∧ (IsS66 w w' gb217 x218000_1 x218001_1) ∧ (Below w.heap.size w w')) ?_ ?_
                          rotate_left
                          · intro hJ9
                            refine join_ (σ := Nat) 7 #[true, true, true, true, true, false, false, false, false, false, true, false, false] (fun s_ => [(7, .pointer (some ⟨s_, 0, none⟩))]) (fun s_ w' => (w'.cell? ⟨gb218, 0, none⟩ = some (.int .u64 x219000_1) ∧ w'.cell? ⟨gb218, 1, none⟩ = some (.int .u64 x219001_1) ∧ w'.cell? (ad219.add ((x5_1).toNat * 2)) = some (.int .i64 ((rd_T80 l0 x5_1).f0)) ∧ w'.cell? ⟨(ad219.add ((x5_1).toNat * 2)).block, (ad219.add ((x5_1).toNat * 2)).off + 1, none⟩ = some (.int .i64 ((rd_T80 l0 x5_1).f1))) ∧ (w'.heap[gb218]? = some (.cells #[.int .u64 x219000_1, .int .u64 x219001_1] 74 (0, 0))) ∧ (w'.heap[s_]? = some (.cells #[.int .u64 0, .bool false, .int .i64 0] 76 (0, 0))) ∧ (w.heap.size ≤ s_) ∧ (w.heap.size ≤ s_) ∧ (gb217 ≠ s_) ∧ (s_ ≠ gb217) ∧ (gb218 ≠ s_) ∧ (s_ ≠ gb218) ∧ (IsS66 w w' gb217 x218000_1 x218001_1) ∧ (Below w.heap.size w w')) ?_ ?_
                            rotate_left
                            · intro hJ10
                              refine three_ (i := 5) (j := 9) (k := 10) (Ni := some 27) (Nj := some 6) (Nk := some 7) #[true, true, true, true, true, true, false, false, false, false, false, false, false] #[true, true, true, true, true, false, false, false, false, true, false, false, false] #[true, true, true, true, true, false, false, false, false, false, true, false, false] rfl rfl rfl rfl rfl rfl (three_of HT_.out (by kernel_rfl)) (by decide) (by decide) (by decide) (fun K hK => ?_) (fun K hK => ?_) (fun K hK => ?_)
                              · skip
                                refine goes_ Try.func43 (by kernel_rfl) rfl #[.agg #[.int .u64 x219000_1, .int .u64 x219001_1], .agg #[.int .i64 ((rd_T80 l0 x5_1).f0), .int .i64 ((rd_T80 l0 x5_1).f1)]] (by rfl) rfl rfl (by first|(simp only [List.map_toArray, List.map_cons, List.map_nil] <;> rfl)|rfl|(simp only [List.length_drop, List.length_take]; rfl)) ?_
                                with_reducible refine (logjamref19_Do.calls kj5 x219000_1 x219001_1 ((rd_T80 l0 x5_1).f0) ((rd_T80 l0 x5_1).f1) t220 t221 t222 t223 t224 _ A11.out).mono ?_
                                rintro e w14 ⟨rfl, hb⟩
                                refine ⟨_, rfl, ?_⟩
                                have n0_ := A0_ (blk_below (g := gb218) (o := .cells #[.int .u64 x219000_1, .int .u64 x219001_1] 74 (0, 0)) (by (with_reducible repeat first|refine bN_ ?_ _|refine bD_ ?_|refine bA_ ?_ _); exact BK218.out) hb)
                                have n1_ := A0_ (IsS66.below (by repeat (first|(with_reducible first|exact HI217.out|apply IsS66.alloc|apply IsS66.drewN|apply IsS66.drew|apply IsS66.set_0|apply IsS66.set_1|refine IsS66.far ?_ NB217_218.out _)|exact HI217.out)) hb)
                                have n2_ := A0_ (below_step (by repeat (first|(with_reducible first|exact HB.out|apply ba_|apply pN_|apply b1_|refine bs_ ?_ (IsS66.ge HI217.out)|refine bs_ ?_ GE218.out)|exact HB.out)) hb)
                                clear BK218
                                clear HI217
                                clear HB
                                have BK218 := n0_
                                have HI217 := n1_
                                have HB := n2_
                                clear n0_ n1_ n2_
                                (try clear hb)
                                (try clear hb2)
                                (try clear hk)
                                (try clear hi)
                                refine hK.out _ _ ⟨(blk_cell BK218.out 0).trans rfl, (blk_cell BK218.out 1).trans rfl, ((HB.out.cell (bl_ w _ hw219_0)).trans hw219_0), ((HB.out.cell (bl_ w _ hw219_1)).trans hw219_1)⟩ (fun hHeld => ?_)
                                clear hK K
                                refine norm_ (a' := ?_) ?_ ?_
                                rotate_left
                                · show Act.put _ (some 27) _ = _
                                  simp only [Act.put, sA_, sZ_, sS_, i64_w, i32_w]
                                  rfl
                                refine pure_ (i := 6) (N := some 21) (v := ?_) (a' := ?_) #[true, true, true, true, true, true, true, false, false, false, false, false, false] rfl rfl (any_of HT_.out (by kernel_rfl)) (fun _ _ _ h => h) (Or.inl ⟨by rfl, ?_⟩) ?_ ?_
                                rotate_left
                                · intro w'
                                  go_simp
                                  with_reducible rfl
                                rotate_left
                                · simp only [Act.put, sA_, sZ_, sS_, i64_w, i32_w]
                                  rfl
                                refine pure_ (i := 7) (N := some 28) (v := ?_) (a' := ?_) #[true, true, true, true, true, true, true, true, false, false, false, false, false] rfl rfl (any_of HT_.out (by kernel_rfl)) (fun _ _ _ h => h) (Or.inl ⟨by rfl, ?_⟩) ?_ ?_
                                rotate_left
                                · intro w'
                                  go_simp
                                  with_reducible rfl
                                rotate_left
                                · simp only [Act.put, sA_, sZ_, sS_, i64_w, i32_w]
                                  rfl
                                refine pure_ (i := 8) (N := some 29) (v := ?_) (a' := ?_) #[true, true, true, true, true, true, true, true, true, false, false, false, false] rfl rfl (any_of HT_.out (by kernel_rfl)) (fun _ _ _ h => h) (Or.inl ⟨by rfl, ?_⟩) ?_ ?_
                                rotate_left
                                · intro w'
                                  go_simp
                                  with_reducible rfl
                                rotate_left
                                · simp only [Act.put, sA_, sZ_, sS_, i64_w, i32_w]
                                  rfl
                                exact norm_ (by first|(simp only [putAll, Act.put, sA_, sZ_, sS_]; done)|(simp only [putAll, Act.put, sA_, sZ_, sS_]; rfl)) (hJ5 () _ ⟨hHeld, (by (with_reducible repeat first|refine bN_ ?_ _|refine bD_ ?_|refine bA_ ?_ _); exact BK218.out), (by repeat (first|(with_reducible first|exact HI217.out|apply IsS66.alloc|apply IsS66.drewN|apply IsS66.drew|apply IsS66.set_0|apply IsS66.set_1|refine IsS66.far ?_ NB217_218.out _)|exact HI217.out)), (by repeat (first|(with_reducible first|exact HB.out|apply ba_|apply pN_|apply b1_|refine bs_ ?_ (IsS66.ge HI217.out)|refine bs_ ?_ GE218.out)|exact HB.out))⟩)
                              · skip
                                refine box_step ?hg (N := 6) ?hd (cs := #[.int .u64 0, .int .u64 0]) (t := 74) ?hr ?_; (case hd => rfl); (case hg => rfl); (case hr => first|(go_simp; done)|(go_simp; rfl))
                                intro gb225 hg w14 hbox hb
                                have n0_ := A0_ (blk_below (g := gb218) (o := .cells #[.int .u64 x219000_1, .int .u64 x219001_1] 74 (0, 0)) (by (with_reducible repeat first|refine bN_ ?_ _|refine bD_ ?_|refine bA_ ?_ _); exact BK218.out) hb)
                                have n1_ := A0_ (IsS66.below (by repeat (first|(with_reducible first|exact HI217.out|apply IsS66.alloc|apply IsS66.drewN|apply IsS66.drew|apply IsS66.set_0|apply IsS66.set_1|refine IsS66.far ?_ NB217_218.out _)|exact HI217.out)) hb)
                                have n2_ := A0_ (below_step (by repeat (first|(with_reducible first|exact HB.out|apply ba_|apply pN_|apply b1_|refine bs_ ?_ (IsS66.ge HI217.out)|refine bs_ ?_ GE218.out)|exact HB.out)) hb)
                                have n3_ := A0_ (hbox)
                                have n4_ := A0_ ((by rw [hg]; exact (below_size (by repeat (first|(with_reducible first|exact HB.out|apply ba_|apply pN_|apply b1_|refine bs_ ?_ (IsS66.ge HI217.out)|refine bs_ ?_ GE218.out)|exact HB.out))) : w.heap.size ≤ gb225))
                                have n5_ := A0_ ((by rw [hg]; exact (below_size (by repeat (first|(with_reducible first|exact HB.out|apply ba_|apply pN_|apply b1_|refine bs_ ?_ (IsS66.ge HI217.out)|refine bs_ ?_ GE218.out)|exact HB.out))) : w.heap.size ≤ gb225))
                                have n6_ := A0_ ((by rw [hg]; exact Nat.ne_of_lt (blk_lt (g := gb218) (o := .cells #[.int .u64 x219000_1, .int .u64 x219001_1] 74 (0, 0)) (by (with_reducible repeat first|refine bN_ ?_ _|refine bD_ ?_|refine bA_ ?_ _); exact BK218.out)) : gb218 ≠ gb225))
                                have n7_ := A0_ ((by rw [hg]; exact Nat.ne_of_gt (blk_lt (g := gb218) (o := .cells #[.int .u64 x219000_1, .int .u64 x219001_1] 74 (0, 0)) (by (with_reducible repeat first|refine bN_ ?_ _|refine bD_ ?_|refine bA_ ?_ _); exact BK218.out)) : gb225 ≠ gb218))
                                have n8_ := A0_ ((by rw [hg]; exact Nat.ne_of_lt (IsS66.lt (show IsS66 w _ gb217 x218000_1 x218001_1 from by repeat (first|(with_reducible first|exact HI217.out|apply IsS66.alloc|apply IsS66.drewN|apply IsS66.drew|apply IsS66.set_0|apply IsS66.set_1|refine IsS66.far ?_ NB217_218.out _)|exact HI217.out))) : gb217 ≠ gb225))
                                have n9_ := A0_ ((by rw [hg]; exact Nat.ne_of_gt (IsS66.lt (show IsS66 w _ gb217 x218000_1 x218001_1 from by repeat (first|(with_reducible first|exact HI217.out|apply IsS66.alloc|apply IsS66.drewN|apply IsS66.drew|apply IsS66.set_0|apply IsS66.set_1|refine IsS66.far ?_ NB217_218.out _)|exact HI217.out))) : gb225 ≠ gb217))
                                clear BK218
                                clear HI217
                                clear HB
                                have BK218 := n0_
                                have HI217 := n1_
                                have HB := n2_
                                have BK225 := n3_
                                have GW225 := n4_
                                have GE225 := n5_
                                have NB218_225 := n6_
                                have NB225_218 := n7_
                                have NB217_225 := n8_
                                have NB225_217 := n9_
                                clear n0_ n1_ n2_ n3_ n4_ n5_ n6_ n7_ n8_ n9_
                                clear hb hbox hg
                                refine hK.out _ _ ⟨(blk_cell BK218.out 0).trans rfl, (blk_cell BK218.out 1).trans rfl, ((HB.out.cell (bl_ w _ hw219_0)).trans hw219_0), ((HB.out.cell (bl_ w _ hw219_1)).trans hw219_1)⟩ (fun hHeld => ?_)
                                clear hK K
                                refine norm_ (a' := ?_) ?_ ?_
                                rotate_left
                                · show Act.put _ (some 6) _ = _
                                  simp only [Act.put, sA_, sZ_, sS_, i64_w, i32_w]
                                  rfl
                                exact norm_ (by first|(simp only [putAll, Act.put, sA_, sZ_, sS_]; done)|(simp only [putAll, Act.put, sA_, sZ_, sS_]; rfl)) (hJ9 (gb225) _ ⟨hHeld, (by (with_reducible repeat first|refine bN_ ?_ _|refine bD_ ?_|refine bA_ ?_ _); exact BK218.out), (by (with_reducible repeat first|refine bN_ ?_ _|refine bD_ ?_|refine bA_ ?_ _); exact BK225.out), GW225.out, GE225.out, NB217_225.out, NB225_217.out, NB218_225.out, NB225_218.out, (by repeat (first|(with_reducible first|exact HI217.out|apply IsS66.alloc|apply IsS66.drewN|apply IsS66.drew|apply IsS66.set_0|apply IsS66.set_1|refine IsS66.far ?_ NB217_218.out _|refine IsS66.far ?_ NB217_225.out _)|exact HI217.out)), (by repeat (first|(with_reducible first|exact HB.out|apply ba_|apply pN_|apply b1_|refine bs_ ?_ (IsS66.ge HI217.out)|refine bs_ ?_ GE218.out|refine bs_ ?_ GE225.out)|exact HB.out))⟩)
                              · skip
                                refine box_step ?hg (N := 7) ?hd (cs := #[.int .u64 0, .bool false, .int .i64 0]) (t := 76) ?hr ?_; (case hd => rfl); (case hg => rfl); (case hr => first|(go_simp; done)|(go_simp; rfl))
                                intro gb226 hg w14 hbox hb
                                have n0_ := A0_ (blk_below (g := gb218) (o := .cells #[.int .u64 x219000_1, .int .u64 x219001_1] 74 (0, 0)) (by (with_reducible repeat first|refine bN_ ?_ _|refine bD_ ?_|refine bA_ ?_ _); exact BK218.out) hb)
                                have n1_ := A0_ (IsS66.below (by repeat (first|(with_reducible first|exact HI217.out|apply IsS66.alloc|apply IsS66.drewN|apply IsS66.drew|apply IsS66.set_0|apply IsS66.set_1|refine IsS66.far ?_ NB217_218.out _)|exact HI217.out)) hb)
                                have n2_ := A0_ (below_step (by repeat (first|(with_reducible first|exact HB.out|apply ba_|apply pN_|apply b1_|refine bs_ ?_ (IsS66.ge HI217.out)|refine bs_ ?_ GE218.out)|exact HB.out)) hb)
                                have n3_ := A0_ (hbox)
                                have n4_ := A0_ ((by rw [hg]; exact (below_size (by repeat (first|(with_reducible first|exact HB.out|apply ba_|apply pN_|apply b1_|refine bs_ ?_ (IsS66.ge HI217.out)|refine bs_ ?_ GE218.out)|exact HB.out))) : w.heap.size ≤ gb226))
                                have n5_ := A0_ ((by rw [hg]; exact (below_size (by repeat (first|(with_reducible first|exact HB.out|apply ba_|apply pN_|apply b1_|refine bs_ ?_ (IsS66.ge HI217.out)|refine bs_ ?_ GE218.out)|exact HB.out))) : w.heap.size ≤ gb226))
                                have n6_ := A0_ ((by rw [hg]; exact Nat.ne_of_lt (blk_lt (g := gb218) (o := .cells #[.int .u64 x219000_1, .int .u64 x219001_1] 74 (0, 0)) (by (with_reducible repeat first|refine bN_ ?_ _|refine bD_ ?_|refine bA_ ?_ _); exact BK218.out)) : gb218 ≠ gb226))
                                have n7_ := A0_ ((by rw [hg]; exact Nat.ne_of_gt (blk_lt (g := gb218) (o := .cells #[.int .u64 x219000_1, .int .u64 x219001_1] 74 (0, 0)) (by (with_reducible repeat first|refine bN_ ?_ _|refine bD_ ?_|refine bA_ ?_ _); exact BK218.out)) : gb226 ≠ gb218))
                                have n8_ := A0_ ((by rw [hg]; exact Nat.ne_of_lt (IsS66.lt (show IsS66 w _ gb217 x218000_1 x218001_1 from by repeat (first|(with_reducible first|exact HI217.out|apply IsS66.alloc|apply IsS66.drewN|apply IsS66.drew|apply IsS66.set_0|apply IsS66.set_1|refine IsS66.far ?_ NB217_218.out _)|exact HI217.out))) : gb217 ≠ gb226))
                                have n9_ := A0_ ((by rw [hg]; exact Nat.ne_of_gt (IsS66.lt (show IsS66 w _ gb217 x218000_1 x218001_1 from by repeat (first|(with_reducible first|exact HI217.out|apply IsS66.alloc|apply IsS66.drewN|apply IsS66.drew|apply IsS66.set_0|apply IsS66.set_1|refine IsS66.far ?_ NB217_218.out _)|exact HI217.out))) : gb226 ≠ gb217))
                                clear BK218
                                clear HI217
                                clear HB
                                have BK218 := n0_
                                have HI217 := n1_
                                have HB := n2_
                                have BK226 := n3_
                                have GW226 := n4_
                                have GE226 := n5_
                                have NB218_226 := n6_
                                have NB226_218 := n7_
                                have NB217_226 := n8_
                                have NB226_217 := n9_
                                clear n0_ n1_ n2_ n3_ n4_ n5_ n6_ n7_ n8_ n9_
                                clear hb hbox hg
                                refine hK.out _ _ ⟨(blk_cell BK218.out 0).trans rfl, (blk_cell BK218.out 1).trans rfl, ((HB.out.cell (bl_ w _ hw219_0)).trans hw219_0), ((HB.out.cell (bl_ w _ hw219_1)).trans hw219_1)⟩ (fun hHeld => ?_)
                                clear hK K
                                refine norm_ (a' := ?_) ?_ ?_
                                rotate_left
                                · show Act.put _ (some 7) _ = _
                                  simp only [Act.put, sA_, sZ_, sS_, i64_w, i32_w]
                                  rfl
                                exact norm_ (by first|(simp only [putAll, Act.put, sA_, sZ_, sS_]; done)|(simp only [putAll, Act.put, sA_, sZ_, sS_]; rfl)) (hJ10 (gb226) _ ⟨hHeld, (by (with_reducible repeat first|refine bN_ ?_ _|refine bD_ ?_|refine bA_ ?_ _); exact BK218.out), (by (with_reducible repeat first|refine bN_ ?_ _|refine bD_ ?_|refine bA_ ?_ _); exact BK226.out), GW226.out, GE226.out, NB217_226.out, NB226_217.out, NB218_226.out, NB226_218.out, (by repeat (first|(with_reducible first|exact HI217.out|apply IsS66.alloc|apply IsS66.drewN|apply IsS66.drew|apply IsS66.set_0|apply IsS66.set_1|refine IsS66.far ?_ NB217_218.out _|refine IsS66.far ?_ NB217_226.out _)|exact HI217.out)), (by repeat (first|(with_reducible first|exact HB.out|apply ba_|apply pN_|apply b1_|refine bs_ ?_ (IsS66.ge HI217.out)|refine bs_ ?_ GE218.out|refine bs_ ?_ GE226.out)|exact HB.out))⟩)
                            · skip
                              rintro gb226 w15 ⟨hS_, h0_, h1_, h2_, h3_, h4_, h5_, h6_, h7_, h8_, h9_⟩
                              have n0_ : Aside0 (w15.heap[gb218]? = some (.cells #[.int .u64 x219000_1, .int .u64 x219001_1] 74 (0, 0))) := ⟨h0_⟩
                              have n1_ : Aside0 (w15.heap[gb226]? = some (.cells #[.int .u64 0, .bool false, .int .i64 0] 76 (0, 0))) := ⟨h1_⟩
                              have n2_ : Aside0 (w.heap.size ≤ gb226) := ⟨h2_⟩
                              have n3_ : Aside0 (w.heap.size ≤ gb226) := ⟨h3_⟩
                              have n4_ : Aside0 (gb217 ≠ gb226) := ⟨h4_⟩
                              have n5_ : Aside0 (gb226 ≠ gb217) := ⟨h5_⟩
                              have n6_ : Aside0 (gb218 ≠ gb226) := ⟨h6_⟩
                              have n7_ : Aside0 (gb226 ≠ gb218) := ⟨h7_⟩
                              have n8_ : Aside0 (IsS66 w w15 gb217 x218000_1 x218001_1) := ⟨h8_⟩
                              have n9_ : Aside0 (Below w.heap.size w w15) := ⟨h9_⟩
                              clear BK218
                              clear HI217
                              clear HB
                              clear h0_ h1_ h2_ h3_ h4_ h5_ h6_ h7_ h8_ h9_
                              have BK218 := n0_
                              have BK226 := n1_
                              have GW226 := n2_
                              have GE226 := n3_
                              have NB217_226 := n4_
                              have NB226_217 := n5_
                              have NB218_226 := n6_
                              have NB226_218 := n7_
                              have HI217 := n8_
                              have HB := n9_
                              clear n0_ n1_ n2_ n3_ n4_ n5_ n6_ n7_ n8_ n9_
                              have hHeld : w15.cell? ⟨gb218, 0, none⟩ = some (.int .u64 x219000_1) ∧ w15.cell? ⟨gb218, 1, none⟩ = some (.int .u64 x219001_1) ∧ w15.cell? (ad219.add ((x5_1).toNat * 2)) = some (.int .i64 ((rd_T80 l0 x5_1).f0)) ∧ w15.cell? ⟨(ad219.add ((x5_1).toNat * 2)).block, (ad219.add ((x5_1).toNat * 2)).off + 1, none⟩ = some (.int .i64 ((rd_T80 l0 x5_1).f1)) := hS_
                              refine norm_ (a' := ?_) ?_ ?_
                              rotate_left
                              · simp only [putAll, Act.put, sA_, sZ_, sS_]
                                rfl
                              refine two_ (i := 5) (j := 9) (Ni := some 27) (Nj := some 6) #[true, true, true, true, true, true, false, false, false, false, true, false, false] #[true, true, true, true, true, false, false, false, false, true, true, false, false] rfl rfl rfl rfl (two_of HT_.out (by kernel_rfl)) (by decide) (by decide) (fun K hK => ?_) (fun K hK => ?_)
                              · skip
                                refine goes_ Try.func43 (by kernel_rfl) rfl #[.agg #[.int .u64 x219000_1, .int .u64 x219001_1], .agg #[.int .i64 ((rd_T80 l0 x5_1).f0), .int .i64 ((rd_T80 l0 x5_1).f1)]] (by rfl) rfl rfl (by first|(simp only [List.map_toArray, List.map_cons, List.map_nil] <;> rfl)|rfl|(simp only [List.length_drop, List.length_take]; rfl)) ?_
                                with_reducible refine (logjamref19_Do.calls kj5 x219000_1 x219001_1 ((rd_T80 l0 x5_1).f0) ((rd_T80 l0 x5_1).f1) t220 t221 t222 t223 t224 _ A11.out).mono ?_
                                rintro e w16 ⟨rfl, hb⟩
                                refine ⟨_, rfl, ?_⟩
                                have n0_ := A0_ (blk_below (g := gb218) (o := .cells #[.int .u64 x219000_1, .int .u64 x219001_1] 74 (0, 0)) (by (with_reducible repeat first|refine bN_ ?_ _|refine bD_ ?_|refine bA_ ?_ _); exact BK218.out) hb)
                                have n1_ := A0_ (IsS66.below (by repeat (first|(with_reducible first|exact HI217.out|apply IsS66.alloc|apply IsS66.drewN|apply IsS66.drew|apply IsS66.set_0|apply IsS66.set_1|refine IsS66.far ?_ NB217_218.out _|refine IsS66.far ?_ NB217_226.out _)|exact HI217.out)) hb)
                                have n2_ := A0_ (blk_below (g := gb226) (o := .cells #[.int .u64 0, .bool false, .int .i64 0] 76 (0, 0)) (by (with_reducible repeat first|refine bN_ ?_ _|refine bD_ ?_|refine bA_ ?_ _); exact BK226.out) hb)
                                have n3_ := A0_ (below_step (by repeat (first|(with_reducible first|exact HB.out|apply ba_|apply pN_|apply b1_|refine bs_ ?_ (IsS66.ge HI217.out)|refine bs_ ?_ GE218.out|refine bs_ ?_ GE226.out)|exact HB.out)) hb)
                                clear BK218
                                clear HI217
                                clear BK226
                                clear HB
                                have BK218 := n0_
                                have HI217 := n1_
                                have BK226 := n2_
                                have HB := n3_
                                clear n0_ n1_ n2_ n3_
                                (try clear hb)
                                (try clear hb2)
                                (try clear hk)
                                (try clear hi)
                                refine hK.out _ _ ⟨(blk_cell BK218.out 0).trans rfl, (blk_cell BK218.out 1).trans rfl, ((HB.out.cell (bl_ w _ hw219_0)).trans hw219_0), ((HB.out.cell (bl_ w _ hw219_1)).trans hw219_1)⟩ (fun hHeld => ?_)
                                clear hK K
                                refine norm_ (a' := ?_) ?_ ?_
                                rotate_left
                                · show Act.put _ (some 27) _ = _
                                  simp only [Act.put, sA_, sZ_, sS_, i64_w, i32_w]
                                  rfl
                                refine pure_ (i := 6) (N := some 21) (v := ?_) (a' := ?_) #[true, true, true, true, true, true, true, false, false, false, true, false, false] rfl rfl (any_of HT_.out (by kernel_rfl)) (fun _ _ _ h => h) (Or.inl ⟨by rfl, ?_⟩) ?_ ?_
                                rotate_left
                                · intro w'
                                  go_simp
                                  with_reducible rfl
                                rotate_left
                                · simp only [Act.put, sA_, sZ_, sS_, i64_w, i32_w]
                                  rfl
                                refine pure_ (i := 7) (N := some 28) (v := ?_) (a' := ?_) #[true, true, true, true, true, true, true, true, false, false, true, false, false] rfl rfl (any_of HT_.out (by kernel_rfl)) (fun _ _ _ h => h) (Or.inl ⟨by rfl, ?_⟩) ?_ ?_
                                rotate_left
                                · intro w'
                                  go_simp
                                  with_reducible rfl
                                rotate_left
                                · simp only [Act.put, sA_, sZ_, sS_, i64_w, i32_w]
                                  rfl
                                refine pure_ (i := 8) (N := some 29) (v := ?_) (a' := ?_) #[true, true, true, true, true, true, true, true, true, false, true, false, false] rfl rfl (any_of HT_.out (by kernel_rfl)) (fun _ _ _ h => h) (Or.inl ⟨by rfl, ?_⟩) ?_ ?_
                                rotate_left
                                · intro w'
                                  go_simp
                                  with_reducible rfl
                                rotate_left
                                · simp only [Act.put, sA_, sZ_, sS_, i64_w, i32_w]
                                  rfl
                                exact norm_ (by first|(simp only [putAll, Act.put, sA_, sZ_, sS_]; done)|(simp only [putAll, Act.put, sA_, sZ_, sS_]; rfl)) (hJ5_10 (gb226) _ ⟨hHeld, (by (with_reducible repeat first|refine bN_ ?_ _|refine bD_ ?_|refine bA_ ?_ _); exact BK218.out), (by (with_reducible repeat first|refine bN_ ?_ _|refine bD_ ?_|refine bA_ ?_ _); exact BK226.out), GW226.out, GE226.out, NB217_226.out, NB226_217.out, NB218_226.out, NB226_218.out, (by repeat (first|(with_reducible first|exact HI217.out|apply IsS66.alloc|apply IsS66.drewN|apply IsS66.drew|apply IsS66.set_0|apply IsS66.set_1|refine IsS66.far ?_ NB217_218.out _|refine IsS66.far ?_ NB217_226.out _)|exact HI217.out)), (by repeat (first|(with_reducible first|exact HB.out|apply ba_|apply pN_|apply b1_|refine bs_ ?_ (IsS66.ge HI217.out)|refine bs_ ?_ GE218.out|refine bs_ ?_ GE226.out)|exact HB.out))⟩)
                              · skip
                                refine box_step ?hg (N := 6) ?hd (cs := #[.int .u64 0, .int .u64 0]) (t := 74) ?hr ?_; (case hd => rfl); (case hg => rfl); (case hr => first|(go_simp; done)|(go_simp; rfl))
                                intro gb225 hg w16 hbox hb
                                have n0_ := A0_ (blk_below (g := gb218) (o := .cells #[.int .u64 x219000_1, .int .u64 x219001_1] 74 (0, 0)) (by (with_reducible repeat first|refine bN_ ?_ _|refine bD_ ?_|refine bA_ ?_ _); exact BK218.out) hb)
                                have n1_ := A0_ (IsS66.below (by repeat (first|(with_reducible first|exact HI217.out|apply IsS66.alloc|apply IsS66.drewN|apply IsS66.drew|apply IsS66.set_0|apply IsS66.set_1|refine IsS66.far ?_ NB217_218.out _|refine IsS66.far ?_ NB217_226.out _)|exact HI217.out)) hb)
                                have n2_ := A0_ (blk_below (g := gb226) (o := .cells #[.int .u64 0, .bool false, .int .i64 0] 76 (0, 0)) (by (with_reducible repeat first|refine bN_ ?_ _|refine bD_ ?_|refine bA_ ?_ _); exact BK226.out) hb)
                                have n3_ := A0_ (below_step (by repeat (first|(with_reducible first|exact HB.out|apply ba_|apply pN_|apply b1_|refine bs_ ?_ (IsS66.ge HI217.out)|refine bs_ ?_ GE218.out|refine bs_ ?_ GE226.out)|exact HB.out)) hb)
                                have n4_ := A0_ (hbox)
                                have n5_ := A0_ ((by rw [hg]; exact (below_size (by repeat (first|(with_reducible first|exact HB.out|apply ba_|apply pN_|apply b1_|refine bs_ ?_ (IsS66.ge HI217.out)|refine bs_ ?_ GE218.out|refine bs_ ?_ GE226.out)|exact HB.out))) : w.heap.size ≤ gb225))
                                have n6_ := A0_ ((by rw [hg]; exact (below_size (by repeat (first|(with_reducible first|exact HB.out|apply ba_|apply pN_|apply b1_|refine bs_ ?_ (IsS66.ge HI217.out)|refine bs_ ?_ GE218.out|refine bs_ ?_ GE226.out)|exact HB.out))) : w.heap.size ≤ gb225))
                                have n7_ := A0_ ((by rw [hg]; exact Nat.ne_of_lt (blk_lt (g := gb218) (o := .cells #[.int .u64 x219000_1, .int .u64 x219001_1] 74 (0, 0)) (by (with_reducible repeat first|refine bN_ ?_ _|refine bD_ ?_|refine bA_ ?_ _); exact BK218.out)) : gb218 ≠ gb225))
                                have n8_ := A0_ ((by rw [hg]; exact Nat.ne_of_gt (blk_lt (g := gb218) (o := .cells #[.int .u64 x219000_1, .int .u64 x219001_1] 74 (0, 0)) (by (with_reducible repeat first|refine bN_ ?_ _|refine bD_ ?_|refine bA_ ?_ _); exact BK218.out)) : gb225 ≠ gb218))
                                have n9_ := A0_ ((by rw [hg]; exact Nat.ne_of_lt (blk_lt (g := gb226) (o := .cells #[.int .u64 0, .bool false, .int .i64 0] 76 (0, 0)) (by (with_reducible repeat first|refine bN_ ?_ _|refine bD_ ?_|refine bA_ ?_ _); exact BK226.out)) : gb226 ≠ gb225))
                                have n10_ := A0_ ((by rw [hg]; exact Nat.ne_of_gt (blk_lt (g := gb226) (o := .cells #[.int .u64 0, .bool false, .int .i64 0] 76 (0, 0)) (by (with_reducible repeat first|refine bN_ ?_ _|refine bD_ ?_|refine bA_ ?_ _); exact BK226.out)) : gb225 ≠ gb226))
                                have n11_ := A0_ ((by rw [hg]; exact Nat.ne_of_lt (IsS66.lt (show IsS66 w _ gb217 x218000_1 x218001_1 from by repeat (first|(with_reducible first|exact HI217.out|apply IsS66.alloc|apply IsS66.drewN|apply IsS66.drew|apply IsS66.set_0|apply IsS66.set_1|refine IsS66.far ?_ NB217_218.out _|refine IsS66.far ?_ NB217_226.out _)|exact HI217.out))) : gb217 ≠ gb225))
                                have n12_ := A0_ ((by rw [hg]; exact Nat.ne_of_gt (IsS66.lt (show IsS66 w _ gb217 x218000_1 x218001_1 from by repeat (first|(with_reducible first|exact HI217.out|apply IsS66.alloc|apply IsS66.drewN|apply IsS66.drew|apply IsS66.set_0|apply IsS66.set_1|refine IsS66.far ?_ NB217_218.out _|refine IsS66.far ?_ NB217_226.out _)|exact HI217.out))) : gb225 ≠ gb217))
                                clear BK218
                                clear HI217
                                clear BK226
                                clear HB
                                have BK218 := n0_
                                have HI217 := n1_
                                have BK226 := n2_
                                have HB := n3_
                                have BK225 := n4_
                                have GW225 := n5_
                                have GE225 := n6_
                                have NB218_225 := n7_
                                have NB225_218 := n8_
                                have NB226_225 := n9_
                                have NB225_226 := n10_
                                have NB217_225 := n11_
                                have NB225_217 := n12_
                                clear n0_ n1_ n2_ n3_ n4_ n5_ n6_ n7_ n8_ n9_ n10_ n11_ n12_
                                clear hb hbox hg
                                refine hK.out _ _ ⟨(blk_cell BK218.out 0).trans rfl, (blk_cell BK218.out 1).trans rfl, ((HB.out.cell (bl_ w _ hw219_0)).trans hw219_0), ((HB.out.cell (bl_ w _ hw219_1)).trans hw219_1)⟩ (fun hHeld => ?_)
                                clear hK K
                                refine norm_ (a' := ?_) ?_ ?_
                                rotate_left
                                · show Act.put _ (some 6) _ = _
                                  simp only [Act.put, sA_, sZ_, sS_, i64_w, i32_w]
                                  rfl
                                exact norm_ (by first|(simp only [putAll, Act.put, sA_, sZ_, sS_]; done)|(simp only [putAll, Act.put, sA_, sZ_, sS_]; rfl)) (hJ9_10 (gb225, gb226) _ ⟨hHeld, (by (with_reducible repeat first|refine bN_ ?_ _|refine bD_ ?_|refine bA_ ?_ _); exact BK218.out), (by (with_reducible repeat first|refine bN_ ?_ _|refine bD_ ?_|refine bA_ ?_ _); exact BK225.out), (by (with_reducible repeat first|refine bN_ ?_ _|refine bD_ ?_|refine bA_ ?_ _); exact BK226.out), GW225.out, GE225.out, NB217_225.out, NB225_217.out, NB218_225.out, NB225_218.out, NB226_225.out, NB225_226.out, GW226.out, GE226.out, NB217_226.out, NB226_217.out, NB218_226.out, NB226_218.out, (by repeat (first|(with_reducible first|exact HI217.out|apply IsS66.alloc|apply IsS66.drewN|apply IsS66.drew|apply IsS66.set_0|apply IsS66.set_1|refine IsS66.far ?_ NB217_218.out _|refine IsS66.far ?_ NB217_226.out _|refine IsS66.far ?_ NB217_225.out _)|exact HI217.out)), (by repeat (first|(with_reducible first|exact HB.out|apply ba_|apply pN_|apply b1_|refine bs_ ?_ (IsS66.ge HI217.out)|refine bs_ ?_ GE218.out|refine bs_ ?_ GE226.out|refine bs_ ?_ GE225.out)|exact HB.out))⟩)
                          · skip
                            rintro gb225 w15 ⟨hS_, h0_, h1_, h2_, h3_, h4_, h5_, h6_, h7_, h8_, h9_⟩
                            have n0_ : Aside0 (w15.heap[gb218]? = some (.cells #[.int .u64 x219000_1, .int .u64 x219001_1] 74 (0, 0))) := ⟨h0_⟩
                            have n1_ : Aside0 (w15.heap[gb225]? = some (.cells #[.int .u64 0, .int .u64 0] 74 (0, 0))) := ⟨h1_⟩
                            have n2_ : Aside0 (w.heap.size ≤ gb225) := ⟨h2_⟩
                            have n3_ : Aside0 (w.heap.size ≤ gb225) := ⟨h3_⟩
                            have n4_ : Aside0 (gb217 ≠ gb225) := ⟨h4_⟩
                            have n5_ : Aside0 (gb225 ≠ gb217) := ⟨h5_⟩
                            have n6_ : Aside0 (gb218 ≠ gb225) := ⟨h6_⟩
                            have n7_ : Aside0 (gb225 ≠ gb218) := ⟨h7_⟩
                            have n8_ : Aside0 (IsS66 w w15 gb217 x218000_1 x218001_1) := ⟨h8_⟩
                            have n9_ : Aside0 (Below w.heap.size w w15) := ⟨h9_⟩
                            clear BK218
                            clear HI217
                            clear HB
                            clear h0_ h1_ h2_ h3_ h4_ h5_ h6_ h7_ h8_ h9_
                            have BK218 := n0_
                            have BK225 := n1_
                            have GW225 := n2_
                            have GE225 := n3_
                            have NB217_225 := n4_
                            have NB225_217 := n5_
                            have NB218_225 := n6_
                            have NB225_218 := n7_
                            have HI217 := n8_
                            have HB := n9_
                            clear n0_ n1_ n2_ n3_ n4_ n5_ n6_ n7_ n8_ n9_
                            have hHeld : w15.cell? ⟨gb218, 0, none⟩ = some (.int .u64 x219000_1) ∧ w15.cell? ⟨gb218, 1, none⟩ = some (.int .u64 x219001_1) ∧ w15.cell? (ad219.add ((x5_1).toNat * 2)) = some (.int .i64 ((rd_T80 l0 x5_1).f0)) ∧ w15.cell? ⟨(ad219.add ((x5_1).toNat * 2)).block, (ad219.add ((x5_1).toNat * 2)).off + 1, none⟩ = some (.int .i64 ((rd_T80 l0 x5_1).f1)) := hS_
                            refine norm_ (a' := ?_) ?_ ?_
                            rotate_left
                            · simp only [putAll, Act.put, sA_, sZ_, sS_]
                              rfl
                            refine two_ (i := 5) (j := 10) (Ni := some 27) (Nj := some 7) #[true, true, true, true, true, true, false, false, false, true, false, false, false] #[true, true, true, true, true, false, false, false, false, true, true, false, false] rfl rfl rfl rfl (two_of HT_.out (by kernel_rfl)) (by decide) (by decide) (fun K hK => ?_) (fun K hK => ?_)
                            · skip
                              refine goes_ Try.func43 (by kernel_rfl) rfl #[.agg #[.int .u64 x219000_1, .int .u64 x219001_1], .agg #[.int .i64 ((rd_T80 l0 x5_1).f0), .int .i64 ((rd_T80 l0 x5_1).f1)]] (by rfl) rfl rfl (by first|(simp only [List.map_toArray, List.map_cons, List.map_nil] <;> rfl)|rfl|(simp only [List.length_drop, List.length_take]; rfl)) ?_
                              with_reducible refine (logjamref19_Do.calls kj5 x219000_1 x219001_1 ((rd_T80 l0 x5_1).f0) ((rd_T80 l0 x5_1).f1) t220 t221 t222 t223 t224 _ A11.out).mono ?_
                              rintro e w16 ⟨rfl, hb⟩
                              refine ⟨_, rfl, ?_⟩
                              have n0_ := A0_ (blk_below (g := gb218) (o := .cells #[.int .u64 x219000_1, .int .u64 x219001_1] 74 (0, 0)) (by (with_reducible repeat first|refine bN_ ?_ _|refine bD_ ?_|refine bA_ ?_ _); exact BK218.out) hb)
                              have n1_ := A0_ (IsS66.below (by repeat (first|(with_reducible first|exact HI217.out|apply IsS66.alloc|apply IsS66.drewN|apply IsS66.drew|apply IsS66.set_0|apply IsS66.set_1|refine IsS66.far ?_ NB217_218.out _|refine IsS66.far ?_ NB217_225.out _)|exact HI217.out)) hb)
                              have n2_ := A0_ (blk_below (g := gb225) (o := .cells #[.int .u64 0, .int .u64 0] 74 (0, 0)) (by (with_reducible repeat first|refine bN_ ?_ _|refine bD_ ?_|refine bA_ ?_ _); exact BK225.out) hb)
                              have n3_ := A0_ (below_step (by repeat (first|(with_reducible first|exact HB.out|apply ba_|apply pN_|apply b1_|refine bs_ ?_ (IsS66.ge HI217.out)|refine bs_ ?_ GE218.out|refine bs_ ?_ GE225.out)|exact HB.out)) hb)
                              clear BK218
                              clear HI217
                              clear BK225
                              clear HB
                              have BK218 := n0_
                              have HI217 := n1_
                              have BK225 := n2_
                              have HB := n3_
                              clear n0_ n1_ n2_ n3_
                              (try clear hb)
                              (try clear hb2)
                              (try clear hk)
                              (try clear hi)
                              refine hK.out _ _ ⟨(blk_cell BK218.out 0).trans rfl, (blk_cell BK218.out 1).trans rfl, ((HB.out.cell (bl_ w _ hw219_0)).trans hw219_0), ((HB.out.cell (bl_ w _ hw219_1)).trans hw219_1)⟩ (fun hHeld => ?_)
                              clear hK K
                              refine norm_ (a' := ?_) ?_ ?_
                              rotate_left
                              · show Act.put _ (some 27) _ = _
                                simp only [Act.put, sA_, sZ_, sS_, i64_w, i32_w]
                                rfl
                              refine pure_ (i := 6) (N := some 21) (v := ?_) (a' := ?_) #[true, true, true, true, true, true, true, false, false, true, false, false, false] rfl rfl (any_of HT_.out (by kernel_rfl)) (fun _ _ _ h => h) (Or.inl ⟨by rfl, ?_⟩) ?_ ?_
                              rotate_left
                              · intro w'
                                go_simp
                                with_reducible rfl
                              rotate_left
                              · simp only [Act.put, sA_, sZ_, sS_, i64_w, i32_w]
                                rfl
                              refine pure_ (i := 7) (N := some 28) (v := ?_) (a' := ?_) #[true, true, true, true, true, true, true, true, false, true, false, false, false] rfl rfl (any_of HT_.out (by kernel_rfl)) (fun _ _ _ h => h) (Or.inl ⟨by rfl, ?_⟩) ?_ ?_
                              rotate_left
                              · intro w'
                                go_simp
                                with_reducible rfl
                              rotate_left
                              · simp only [Act.put, sA_, sZ_, sS_, i64_w, i32_w]
                                rfl
                              refine pure_ (i := 8) (N := some 29) (v := ?_) (a' := ?_) #[true, true, true, true, true, true, true, true, true, true, false, false, false] rfl rfl (any_of HT_.out (by kernel_rfl)) (fun _ _ _ h => h) (Or.inl ⟨by rfl, ?_⟩) ?_ ?_
                              rotate_left
                              · intro w'
                                go_simp
                                with_reducible rfl
                              rotate_left
                              · simp only [Act.put, sA_, sZ_, sS_, i64_w, i32_w]
                                rfl
                              exact norm_ (by first|(simp only [putAll, Act.put, sA_, sZ_, sS_]; done)|(simp only [putAll, Act.put, sA_, sZ_, sS_]; rfl)) (hJ5_9 (gb225) _ ⟨hHeld, (by (with_reducible repeat first|refine bN_ ?_ _|refine bD_ ?_|refine bA_ ?_ _); exact BK218.out), (by (with_reducible repeat first|refine bN_ ?_ _|refine bD_ ?_|refine bA_ ?_ _); exact BK225.out), GW225.out, GE225.out, NB217_225.out, NB225_217.out, NB218_225.out, NB225_218.out, (by repeat (first|(with_reducible first|exact HI217.out|apply IsS66.alloc|apply IsS66.drewN|apply IsS66.drew|apply IsS66.set_0|apply IsS66.set_1|refine IsS66.far ?_ NB217_218.out _|refine IsS66.far ?_ NB217_225.out _)|exact HI217.out)), (by repeat (first|(with_reducible first|exact HB.out|apply ba_|apply pN_|apply b1_|refine bs_ ?_ (IsS66.ge HI217.out)|refine bs_ ?_ GE218.out|refine bs_ ?_ GE225.out)|exact HB.out))⟩)
                            · skip
                              refine box_step ?hg (N := 7) ?hd (cs := #[.int .u64 0, .bool false, .int .i64 0]) (t := 76) ?hr ?_; (case hd => rfl); (case hg => rfl); (case hr => first|(go_simp; done)|(go_simp; rfl))
                              intro gb226 hg w16 hbox hb
                              have n0_ := A0_ (blk_below (g := gb218) (o := .cells #[.int .u64 x219000_1, .int .u64 x219001_1] 74 (0, 0)) (by (with_reducible repeat first|refine bN_ ?_ _|refine bD_ ?_|refine bA_ ?_ _); exact BK218.out) hb)
                              have n1_ := A0_ (IsS66.below (by repeat (first|(with_reducible first|exact HI217.out|apply IsS66.alloc|apply IsS66.drewN|apply IsS66.drew|apply IsS66.set_0|apply IsS66.set_1|refine IsS66.far ?_ NB217_218.out _|refine IsS66.far ?_ NB217_225.out _)|exact HI217.out)) hb)
                              have n2_ := A0_ (blk_below (g := gb225) (o := .cells #[.int .u64 0, .int .u64 0] 74 (0, 0)) (by (with_reducible repeat first|refine bN_ ?_ _|refine bD_ ?_|refine bA_ ?_ _); exact BK225.out) hb)
                              have n3_ := A0_ (below_step (by repeat (first|(with_reducible first|exact HB.out|apply ba_|apply pN_|apply b1_|refine bs_ ?_ (IsS66.ge HI217.out)|refine bs_ ?_ GE218.out|refine bs_ ?_ GE225.out)|exact HB.out)) hb)
                              have n4_ := A0_ (hbox)
                              have n5_ := A0_ ((by rw [hg]; exact (below_size (by repeat (first|(with_reducible first|exact HB.out|apply ba_|apply pN_|apply b1_|refine bs_ ?_ (IsS66.ge HI217.out)|refine bs_ ?_ GE218.out|refine bs_ ?_ GE225.out)|exact HB.out))) : w.heap.size ≤ gb226))
                              have n6_ := A0_ ((by rw [hg]; exact (below_size (by repeat (first|(with_reducible first|exact HB.out|apply ba_|apply pN_|apply b1_|refine bs_ ?_ (IsS66.ge HI217.out)|refine bs_ ?_ GE218.out|refine bs_ ?_ GE225.out)|exact HB.out))) : w.heap.size ≤ gb226))
                              have n7_ := A0_ ((by rw [hg]; exact Nat.ne_of_lt (blk_lt (g := gb218) (o := .cells #[.int .u64 x219000_1, .int .u64 x219001_1] 74 (0, 0)) (by (with_reducible repeat first|refine bN_ ?_ _|refine bD_ ?_|refine bA_ ?_ _); exact BK218.out)) : gb218 ≠ gb226))
                              have n8_ := A0_ ((by rw [hg]; exact Nat.ne_of_gt (blk_lt (g := gb218) (o := .cells #[.int .u64 x219000_1, .int .u64 x219001_1] 74 (0, 0)) (by (with_reducible repeat first|refine bN_ ?_ _|refine bD_ ?_|refine bA_ ?_ _); exact BK218.out)) : gb226 ≠ gb218))
                              have n9_ := A0_ ((by rw [hg]; exact Nat.ne_of_lt (blk_lt (g := gb225) (o := .cells #[.int .u64 0, .int .u64 0] 74 (0, 0)) (by (with_reducible repeat first|refine bN_ ?_ _|refine bD_ ?_|refine bA_ ?_ _); exact BK225.out)) : gb225 ≠ gb226))
                              have n10_ := A0_ ((by rw [hg]; exact Nat.ne_of_gt (blk_lt (g := gb225) (o := .cells #[.int .u64 0, .int .u64 0] 74 (0, 0)) (by (with_reducible repeat first|refine bN_ ?_ _|refine bD_ ?_|refine bA_ ?_ _); exact BK225.out)) : gb226 ≠ gb225))
                              have n11_ := A0_ ((by rw [hg]; exact Nat.ne_of_lt (IsS66.lt (show IsS66 w _ gb217 x218000_1 x218001_1 from by repeat (first|(with_reducible first|exact HI217.out|apply IsS66.alloc|apply IsS66.drewN|apply IsS66.drew|apply IsS66.set_0|apply IsS66.set_1|refine IsS66.far ?_ NB217_218.out _|refine IsS66.far ?_ NB217_225.out _)|exact HI217.out))) : gb217 ≠ gb226))
                              have n12_ := A0_ ((by rw [hg]; exact Nat.ne_of_gt (IsS66.lt (show IsS66 w _ gb217 x218000_1 x218001_1 from by repeat (first|(with_reducible first|exact HI217.out|apply IsS66.alloc|apply IsS66.drewN|apply IsS66.drew|apply IsS66.set_0|apply IsS66.set_1|refine IsS66.far ?_ NB217_218.out _|refine IsS66.far ?_ NB217_225.out _)|exact HI217.out))) : gb226 ≠ gb217))
                              clear BK218
                              clear HI217
                              clear BK225
                              clear HB
                              have BK218 := n0_
                              have HI217 := n1_
                              have BK225 := n2_
                              have HB := n3_
                              have BK226 := n4_
                              have GW226 := n5_
                              have GE226 := n6_
                              have NB218_226 := n7_
                              have NB226_218 := n8_
                              have NB225_226 := n9_
                              have NB226_225 := n10_
                              have NB217_226 := n11_
                              have NB226_217 := n12_
                              clear n0_ n1_ n2_ n3_ n4_ n5_ n6_ n7_ n8_ n9_ n10_ n11_ n12_
                              clear hb hbox hg
                              refine hK.out _ _ ⟨(blk_cell BK218.out 0).trans rfl, (blk_cell BK218.out 1).trans rfl, ((HB.out.cell (bl_ w _ hw219_0)).trans hw219_0), ((HB.out.cell (bl_ w _ hw219_1)).trans hw219_1)⟩ (fun hHeld => ?_)
                              clear hK K
                              refine norm_ (a' := ?_) ?_ ?_
                              rotate_left
                              · show Act.put _ (some 7) _ = _
                                simp only [Act.put, sA_, sZ_, sS_, i64_w, i32_w]
                                rfl
                              exact norm_ (by first|(simp only [putAll, Act.put, sA_, sZ_, sS_]; done)|(simp only [putAll, Act.put, sA_, sZ_, sS_]; rfl)) (hJ9_10 (gb225, gb226) _ ⟨hHeld, (by (with_reducible repeat first|refine bN_ ?_ _|refine bD_ ?_|refine bA_ ?_ _); exact BK218.out), (by (with_reducible repeat first|refine bN_ ?_ _|refine bD_ ?_|refine bA_ ?_ _); exact BK225.out), (by (with_reducible repeat first|refine bN_ ?_ _|refine bD_ ?_|refine bA_ ?_ _); exact BK226.out), GW225.out, GE225.out, NB217_225.out, NB225_217.out, NB218_225.out, NB225_218.out, NB226_225.out, NB225_226.out, GW226.out, GE226.out, NB217_226.out, NB226_217.out, NB218_226.out, NB226_218.out, (by repeat (first|(with_reducible first|exact HI217.out|apply IsS66.alloc|apply IsS66.drewN|apply IsS66.drew|apply IsS66.set_0|apply IsS66.set_1|refine IsS66.far ?_ NB217_218.out _|refine IsS66.far ?_ NB217_225.out _|refine IsS66.far ?_ NB217_226.out _)|exact HI217.out)), (by repeat (first|(with_reducible first|exact HB.out|apply ba_|apply pN_|apply b1_|refine bs_ ?_ (IsS66.ge HI217.out)|refine bs_ ?_ GE218.out|refine bs_ ?_ GE225.out|refine bs_ ?_ GE226.out)|exact HB.out))⟩)
                        · skip
                          rintro _ w15 ⟨hS_, h0_, h1_, h2_⟩
                          have n0_ : Aside0 (w15.heap[gb218]? = some (.cells #[.int .u64 x219000_1, .int .u64 x219001_1] 74 (0, 0))) := ⟨h0_⟩
                          have n1_ : Aside0 (IsS66 w w15 gb217 x218000_1 x218001_1) := ⟨h1_⟩
                          have n2_ : Aside0 (Below w.heap.size w w15) := ⟨h2_⟩
                          clear BK218
                          clear HI217
                          clear HB
                          clear h0_ h1_ h2_
                          have BK218 := n0_
                          have HI217 := n1_
                          have HB := n2_
                          clear n0_ n1_ n2_
                          have hHeld : w15.cell? ⟨gb218, 0, none⟩ = some (.int .u64 x219000_1) ∧ w15.cell? ⟨gb218, 1, none⟩ = some (.int .u64 x219001_1) ∧ w15.cell? (ad219.add ((x5_1).toNat * 2)) = some (.int .i64 ((rd_T80 l0 x5_1).f0)) ∧ w15.cell? ⟨(ad219.add ((x5_1).toNat * 2)).block, (ad219.add ((x5_1).toNat * 2)).off + 1, none⟩ = some (.int .i64 ((rd_T80 l0 x5_1).f1)) := hS_
                          refine norm_ (a' := ?_) ?_ ?_
                          rotate_left
                          · simp only [putAll, Act.put, sA_, sZ_, sS_]
                            rfl
                          refine two_ (i := 9) (j := 10) (Ni := some 6) (Nj := some 7) #[true, true, true, true, true, true, true, true, true, true, false, false, false] #[true, true, true, true, true, true, true, true, true, false, true, false, false] rfl rfl rfl rfl (two_of HT_.out (by kernel_rfl)) (by decide) (by decide) (fun K hK => ?_) (fun K hK => ?_)
                          · skip
                            refine box_step ?hg (N := 6) ?hd (cs := #[.int .u64 0, .int .u64 0]) (t := 74) ?hr ?_; (case hd => rfl); (case hg => rfl); (case hr => first|(go_simp; done)|(go_simp; rfl))
                            intro gb225 hg w16 hbox hb
                            have n0_ := A0_ (blk_below (g := gb218) (o := .cells #[.int .u64 x219000_1, .int .u64 x219001_1] 74 (0, 0)) (by (with_reducible repeat first|refine bN_ ?_ _|refine bD_ ?_|refine bA_ ?_ _); exact BK218.out) hb)
                            have n1_ := A0_ (IsS66.below (by repeat (first|(with_reducible first|exact HI217.out|apply IsS66.alloc|apply IsS66.drewN|apply IsS66.drew|apply IsS66.set_0|apply IsS66.set_1|refine IsS66.far ?_ NB217_218.out _)|exact HI217.out)) hb)
                            have n2_ := A0_ (below_step (by repeat (first|(with_reducible first|exact HB.out|apply ba_|apply pN_|apply b1_|refine bs_ ?_ (IsS66.ge HI217.out)|refine bs_ ?_ GE218.out)|exact HB.out)) hb)
                            have n3_ := A0_ (hbox)
                            have n4_ := A0_ ((by rw [hg]; exact (below_size (by repeat (first|(with_reducible first|exact HB.out|apply ba_|apply pN_|apply b1_|refine bs_ ?_ (IsS66.ge HI217.out)|refine bs_ ?_ GE218.out)|exact HB.out))) : w.heap.size ≤ gb225))
                            have n5_ := A0_ ((by rw [hg]; exact (below_size (by repeat (first|(with_reducible first|exact HB.out|apply ba_|apply pN_|apply b1_|refine bs_ ?_ (IsS66.ge HI217.out)|refine bs_ ?_ GE218.out)|exact HB.out))) : w.heap.size ≤ gb225))
                            have n6_ := A0_ ((by rw [hg]; exact Nat.ne_of_lt (blk_lt (g := gb218) (o := .cells #[.int .u64 x219000_1, .int .u64 x219001_1] 74 (0, 0)) (by (with_reducible repeat first|refine bN_ ?_ _|refine bD_ ?_|refine bA_ ?_ _); exact BK218.out)) : gb218 ≠ gb225))
                            have n7_ := A0_ ((by rw [hg]; exact Nat.ne_of_gt (blk_lt (g := gb218) (o := .cells #[.int .u64 x219000_1, .int .u64 x219001_1] 74 (0, 0)) (by (with_reducible repeat first|refine bN_ ?_ _|refine bD_ ?_|refine bA_ ?_ _); exact BK218.out)) : gb225 ≠ gb218))
                            have n8_ := A0_ ((by rw [hg]; exact Nat.ne_of_lt (IsS66.lt (show IsS66 w _ gb217 x218000_1 x218001_1 from by repeat (first|(with_reducible first|exact HI217.out|apply IsS66.alloc|apply IsS66.drewN|apply IsS66.drew|apply IsS66.set_0|apply IsS66.set_1|refine IsS66.far ?_ NB217_218.out _)|exact HI217.out))) : gb217 ≠ gb225))
                            have n9_ := A0_ ((by rw [hg]; exact Nat.ne_of_gt (IsS66.lt (show IsS66 w _ gb217 x218000_1 x218001_1 from by repeat (first|(with_reducible first|exact HI217.out|apply IsS66.alloc|apply IsS66.drewN|apply IsS66.drew|apply IsS66.set_0|apply IsS66.set_1|refine IsS66.far ?_ NB217_218.out _)|exact HI217.out))) : gb225 ≠ gb217))
                            clear BK218
                            clear HI217
                            clear HB
                            have BK218 := n0_
                            have HI217 := n1_
                            have HB := n2_
                            have BK225 := n3_
                            have GW225 := n4_
                            have GE225 := n5_
                            have NB218_225 := n6_
                            have NB225_218 := n7_
                            have NB217_225 := n8_
                            have NB225_217 := n9_
                            clear n0_ n1_ n2_ n3_ n4_ n5_ n6_ n7_ n8_ n9_
                            clear hb hbox hg
                            refine hK.out _ _ ⟨(blk_cell BK218.out 0).trans rfl, (blk_cell BK218.out 1).trans rfl, ((HB.out.cell (bl_ w _ hw219_0)).trans hw219_0), ((HB.out.cell (bl_ w _ hw219_1)).trans hw219_1)⟩ (fun hHeld => ?_)
                            clear hK K
                            refine norm_ (a' := ?_) ?_ ?_
                            rotate_left
                            · show Act.put _ (some 6) _ = _
                              simp only [Act.put, sA_, sZ_, sS_, i64_w, i32_w]
                              rfl
                            exact norm_ (by first|(simp only [putAll, Act.put, sA_, sZ_, sS_]; done)|(simp only [putAll, Act.put, sA_, sZ_, sS_]; rfl)) (hJ5_9 (gb225) _ ⟨hHeld, (by (with_reducible repeat first|refine bN_ ?_ _|refine bD_ ?_|refine bA_ ?_ _); exact BK218.out), (by (with_reducible repeat first|refine bN_ ?_ _|refine bD_ ?_|refine bA_ ?_ _); exact BK225.out), GW225.out, GE225.out, NB217_225.out, NB225_217.out, NB218_225.out, NB225_218.out, (by repeat (first|(with_reducible first|exact HI217.out|apply IsS66.alloc|apply IsS66.drewN|apply IsS66.drew|apply IsS66.set_0|apply IsS66.set_1|refine IsS66.far ?_ NB217_218.out _|refine IsS66.far ?_ NB217_225.out _)|exact HI217.out)), (by repeat (first|(with_reducible first|exact HB.out|apply ba_|apply pN_|apply b1_|refine bs_ ?_ (IsS66.ge HI217.out)|refine bs_ ?_ GE218.out|refine bs_ ?_ GE225.out)|exact HB.out))⟩)
                          · skip
                            refine box_step ?hg (N := 7) ?hd (cs := #[.int .u64 0, .bool false, .int .i64 0]) (t := 76) ?hr ?_; (case hd => rfl); (case hg => rfl); (case hr => first|(go_simp; done)|(go_simp; rfl))
                            intro gb226 hg w16 hbox hb
                            have n0_ := A0_ (blk_below (g := gb218) (o := .cells #[.int .u64 x219000_1, .int .u64 x219001_1] 74 (0, 0)) (by (with_reducible repeat first|refine bN_ ?_ _|refine bD_ ?_|refine bA_ ?_ _); exact BK218.out) hb)
                            have n1_ := A0_ (IsS66.below (by repeat (first|(with_reducible first|exact HI217.out|apply IsS66.alloc|apply IsS66.drewN|apply IsS66.drew|apply IsS66.set_0|apply IsS66.set_1|refine IsS66.far ?_ NB217_218.out _)|exact HI217.out)) hb)
                            have n2_ := A0_ (below_step (by repeat (first|(with_reducible first|exact HB.out|apply ba_|apply pN_|apply b1_|refine bs_ ?_ (IsS66.ge HI217.out)|refine bs_ ?_ GE218.out)|exact HB.out)) hb)
                            have n3_ := A0_ (hbox)
                            have n4_ := A0_ ((by rw [hg]; exact (below_size (by repeat (first|(with_reducible first|exact HB.out|apply ba_|apply pN_|apply b1_|refine bs_ ?_ (IsS66.ge HI217.out)|refine bs_ ?_ GE218.out)|exact HB.out))) : w.heap.size ≤ gb226))
                            have n5_ := A0_ ((by rw [hg]; exact (below_size (by repeat (first|(with_reducible first|exact HB.out|apply ba_|apply pN_|apply b1_|refine bs_ ?_ (IsS66.ge HI217.out)|refine bs_ ?_ GE218.out)|exact HB.out))) : w.heap.size ≤ gb226))
                            have n6_ := A0_ ((by rw [hg]; exact Nat.ne_of_lt (blk_lt (g := gb218) (o := .cells #[.int .u64 x219000_1, .int .u64 x219001_1] 74 (0, 0)) (by (with_reducible repeat first|refine bN_ ?_ _|refine bD_ ?_|refine bA_ ?_ _); exact BK218.out)) : gb218 ≠ gb226))
                            have n7_ := A0_ ((by rw [hg]; exact Nat.ne_of_gt (blk_lt (g := gb218) (o := .cells #[.int .u64 x219000_1, .int .u64 x219001_1] 74 (0, 0)) (by (with_reducible repeat first|refine bN_ ?_ _|refine bD_ ?_|refine bA_ ?_ _); exact BK218.out)) : gb226 ≠ gb218))
                            have n8_ := A0_ ((by rw [hg]; exact Nat.ne_of_lt (IsS66.lt (show IsS66 w _ gb217 x218000_1 x218001_1 from by repeat (first|(with_reducible first|exact HI217.out|apply IsS66.alloc|apply IsS66.drewN|apply IsS66.drew|apply IsS66.set_0|apply IsS66.set_1|refine IsS66.far ?_ NB217_218.out _)|exact HI217.out))) : gb217 ≠ gb226))
                            have n9_ := A0_ ((by rw [hg]; exact Nat.ne_of_gt (IsS66.lt (show IsS66 w _ gb217 x218000_1 x218001_1 from by repeat (first|(with_reducible first|exact HI217.out|apply IsS66.alloc|apply IsS66.drewN|apply IsS66.drew|apply IsS66.set_0|apply IsS66.set_1|refine IsS66.far ?_ NB217_218.out _)|exact HI217.out))) : gb226 ≠ gb217))
                            clear BK218
                            clear HI217
                            clear HB
                            have BK218 := n0_
                            have HI217 := n1_
                            have HB := n2_
                            have BK226 := n3_
                            have GW226 := n4_
                            have GE226 := n5_
                            have NB218_226 := n6_
                            have NB226_218 := n7_
                            have NB217_226 := n8_
                            have NB226_217 := n9_
                            clear n0_ n1_ n2_ n3_ n4_ n5_ n6_ n7_ n8_ n9_
                            clear hb hbox hg
                            refine hK.out _ _ ⟨(blk_cell BK218.out 0).trans rfl, (blk_cell BK218.out 1).trans rfl, ((HB.out.cell (bl_ w _ hw219_0)).trans hw219_0), ((HB.out.cell (bl_ w _ hw219_1)).trans hw219_1)⟩ (fun hHeld => ?_)
                            clear hK K
                            refine norm_ (a' := ?_) ?_ ?_
                            rotate_left
                            · show Act.put _ (some 7) _ = _
                              simp only [Act.put, sA_, sZ_, sS_, i64_w, i32_w]
                              rfl
                            exact norm_ (by first|(simp only [putAll, Act.put, sA_, sZ_, sS_]; done)|(simp only [putAll, Act.put, sA_, sZ_, sS_]; rfl)) (hJ5_10 (gb226) _ ⟨hHeld, (by (with_reducible repeat first|refine bN_ ?_ _|refine bD_ ?_|refine bA_ ?_ _); exact BK218.out), (by (with_reducible repeat first|refine bN_ ?_ _|refine bD_ ?_|refine bA_ ?_ _); exact BK226.out), GW226.out, GE226.out, NB217_226.out, NB226_217.out, NB218_226.out, NB226_218.out, (by repeat (first|(with_reducible first|exact HI217.out|apply IsS66.alloc|apply IsS66.drewN|apply IsS66.drew|apply IsS66.set_0|apply IsS66.set_1|refine IsS66.far ?_ NB217_218.out _|refine IsS66.far ?_ NB217_226.out _)|exact HI217.out)), (by repeat (first|(with_reducible first|exact HB.out|apply ba_|apply pN_|apply b1_|refine bs_ ?_ (IsS66.ge HI217.out)|refine bs_ ?_ GE218.out|refine bs_ ?_ GE226.out)|exact HB.out))⟩)
                      · skip
                        rintro ⟨gb225, gb226⟩ w16 ⟨hS_, h0_, h1_, h2_, h3_, h4_, h5_, h6_, h7_, h8_, h9_, h10_, h11_, h12_, h13_, h14_, h15_, h16_, h17_, h18_⟩
                        have n0_ : Aside0 (w16.heap[gb218]? = some (.cells #[.int .u64 x219000_1, .int .u64 x219001_1] 74 (0, 0))) := ⟨h0_⟩
                        have n1_ : Aside0 (w16.heap[gb225]? = some (.cells #[.int .u64 0, .int .u64 0] 74 (0, 0))) := ⟨h1_⟩
                        have n2_ : Aside0 (w16.heap[gb226]? = some (.cells #[.int .u64 0, .bool false, .int .i64 0] 76 (0, 0))) := ⟨h2_⟩
                        have n3_ : Aside0 (w.heap.size ≤ gb225) := ⟨h3_⟩
                        have n4_ : Aside0 (w.heap.size ≤ gb225) := ⟨h4_⟩
                        have n5_ : Aside0 (gb217 ≠ gb225) := ⟨h5_⟩
                        have n6_ : Aside0 (gb225 ≠ gb217) := ⟨h6_⟩
                        have n7_ : Aside0 (gb218 ≠ gb225) := ⟨h7_⟩
                        have n8_ : Aside0 (gb225 ≠ gb218) := ⟨h8_⟩
                        have n9_ : Aside0 (gb226 ≠ gb225) := ⟨h9_⟩
                        have n10_ : Aside0 (gb225 ≠ gb226) := ⟨h10_⟩
                        have n11_ : Aside0 (w.heap.size ≤ gb226) := ⟨h11_⟩
                        have n12_ : Aside0 (w.heap.size ≤ gb226) := ⟨h12_⟩
                        have n13_ : Aside0 (gb217 ≠ gb226) := ⟨h13_⟩
                        have n14_ : Aside0 (gb226 ≠ gb217) := ⟨h14_⟩
                        have n15_ : Aside0 (gb218 ≠ gb226) := ⟨h15_⟩
                        have n16_ : Aside0 (gb226 ≠ gb218) := ⟨h16_⟩
                        have n17_ : Aside0 (IsS66 w w16 gb217 x218000_1 x218001_1) := ⟨h17_⟩
                        have n18_ : Aside0 (Below w.heap.size w w16) := ⟨h18_⟩
                        clear BK218
                        clear HI217
                        clear HB
                        clear h0_ h1_ h2_ h3_ h4_ h5_ h6_ h7_ h8_ h9_ h10_ h11_ h12_ h13_ h14_ h15_ h16_ h17_ h18_
                        have BK218 := n0_
                        have BK225 := n1_
                        have BK226 := n2_
                        have GW225 := n3_
                        have GE225 := n4_
                        have NB217_225 := n5_
                        have NB225_217 := n6_
                        have NB218_225 := n7_
                        have NB225_218 := n8_
                        have NB226_225 := n9_
                        have NB225_226 := n10_
                        have GW226 := n11_
                        have GE226 := n12_
                        have NB217_226 := n13_
                        have NB226_217 := n14_
                        have NB218_226 := n15_
                        have NB226_218 := n16_
                        have HI217 := n17_
                        have HB := n18_
                        clear n0_ n1_ n2_ n3_ n4_ n5_ n6_ n7_ n8_ n9_ n10_ n11_ n12_ n13_ n14_ n15_ n16_ n17_ n18_
                        have hHeld : w16.cell? ⟨gb218, 0, none⟩ = some (.int .u64 x219000_1) ∧ w16.cell? ⟨gb218, 1, none⟩ = some (.int .u64 x219001_1) ∧ w16.cell? (ad219.add ((x5_1).toNat * 2)) = some (.int .i64 ((rd_T80 l0 x5_1).f0)) ∧ w16.cell? ⟨(ad219.add ((x5_1).toNat * 2)).block, (ad219.add ((x5_1).toNat * 2)).off + 1, none⟩ = some (.int .i64 ((rd_T80 l0 x5_1).f1)) := hS_
                        refine norm_ (a' := ?_) ?_ ?_
                        rotate_left
                        · simp only [putAll, Act.put, sA_, sZ_, sS_]
                          rfl
                        refine one_ (i := 5) (N := some 27) #[true, true, true, true, true, true, false, false, false, true, true, false, false] rfl rfl (one_of HT_.out (by kernel_rfl)) (by decide) (fun K hK => ?_)
                        refine goes_ Try.func43 (by kernel_rfl) rfl #[.agg #[.int .u64 x219000_1, .int .u64 x219001_1], .agg #[.int .i64 ((rd_T80 l0 x5_1).f0), .int .i64 ((rd_T80 l0 x5_1).f1)]] (by rfl) rfl rfl (by first|(simp only [List.map_toArray, List.map_cons, List.map_nil] <;> rfl)|rfl|(simp only [List.length_drop, List.length_take]; rfl)) ?_
                        with_reducible refine (logjamref19_Do.calls kj5 x219000_1 x219001_1 ((rd_T80 l0 x5_1).f0) ((rd_T80 l0 x5_1).f1) t220 t221 t222 t223 t224 _ A11.out).mono ?_
                        rintro e w17 ⟨rfl, hb⟩
                        refine ⟨_, rfl, ?_⟩
                        have n0_ := A0_ (blk_below (g := gb218) (o := .cells #[.int .u64 x219000_1, .int .u64 x219001_1] 74 (0, 0)) (by (with_reducible repeat first|refine bN_ ?_ _|refine bD_ ?_|refine bA_ ?_ _); exact BK218.out) hb)
                        have n1_ := A0_ (IsS66.below (by repeat (first|(with_reducible first|exact HI217.out|apply IsS66.alloc|apply IsS66.drewN|apply IsS66.drew|apply IsS66.set_0|apply IsS66.set_1|refine IsS66.far ?_ NB217_218.out _|refine IsS66.far ?_ NB217_225.out _|refine IsS66.far ?_ NB217_226.out _)|exact HI217.out)) hb)
                        have n2_ := A0_ (blk_below (g := gb225) (o := .cells #[.int .u64 0, .int .u64 0] 74 (0, 0)) (by (with_reducible repeat first|refine bN_ ?_ _|refine bD_ ?_|refine bA_ ?_ _); exact BK225.out) hb)
                        have n3_ := A0_ (blk_below (g := gb226) (o := .cells #[.int .u64 0, .bool false, .int .i64 0] 76 (0, 0)) (by (with_reducible repeat first|refine bN_ ?_ _|refine bD_ ?_|refine bA_ ?_ _); exact BK226.out) hb)
                        have n4_ := A0_ (below_step (by repeat (first|(with_reducible first|exact HB.out|apply ba_|apply pN_|apply b1_|refine bs_ ?_ (IsS66.ge HI217.out)|refine bs_ ?_ GE218.out|refine bs_ ?_ GE225.out|refine bs_ ?_ GE226.out)|exact HB.out)) hb)
                        clear BK218
                        clear HI217
                        clear BK225
                        clear BK226
                        clear HB
                        have BK218 := n0_
                        have HI217 := n1_
                        have BK225 := n2_
                        have BK226 := n3_
                        have HB := n4_
                        clear n0_ n1_ n2_ n3_ n4_
                        (try clear hb)
                        (try clear hb2)
                        (try clear hk)
                        (try clear hi)
                        refine hK.out _ _ ⟨(blk_cell BK218.out 0).trans rfl, (blk_cell BK218.out 1).trans rfl, ((HB.out.cell (bl_ w _ hw219_0)).trans hw219_0), ((HB.out.cell (bl_ w _ hw219_1)).trans hw219_1)⟩ (fun hHeld => ?_)
                        clear hK K
                        refine norm_ (a' := ?_) ?_ ?_
                        rotate_left
                        · show Act.put _ (some 27) _ = _
                          simp only [Act.put, sA_, sZ_, sS_, i64_w, i32_w]
                          rfl
                        refine pure_ (i := 6) (N := some 21) (v := ?_) (a' := ?_) #[true, true, true, true, true, true, true, false, false, true, true, false, false] rfl rfl (any_of HT_.out (by kernel_rfl)) (fun _ _ _ h => h) (Or.inl ⟨by rfl, ?_⟩) ?_ ?_
                        rotate_left
                        · intro w'
                          go_simp
                          with_reducible rfl
                        rotate_left
                        · simp only [Act.put, sA_, sZ_, sS_, i64_w, i32_w]
                          rfl
                        refine pure_ (i := 7) (N := some 28) (v := ?_) (a' := ?_) #[true, true, true, true, true, true, true, true, false, true, true, false, false] rfl rfl (any_of HT_.out (by kernel_rfl)) (fun _ _ _ h => h) (Or.inl ⟨by rfl, ?_⟩) ?_ ?_
                        rotate_left
                        · intro w'
                          go_simp
                          with_reducible rfl
                        rotate_left
                        · simp only [Act.put, sA_, sZ_, sS_, i64_w, i32_w]
                          rfl
                        refine pure_ (i := 8) (N := some 29) (v := ?_) (a' := ?_) #[true, true, true, true, true, true, true, true, true, true, true, false, false] rfl rfl (any_of HT_.out (by kernel_rfl)) (fun _ _ _ h => h) (Or.inl ⟨by rfl, ?_⟩) ?_ ?_
                        rotate_left
                        · intro w'
                          go_simp
                          with_reducible rfl
                        rotate_left
                        · simp only [Act.put, sA_, sZ_, sS_, i64_w, i32_w]
                          rfl
                        exact norm_ (by first|(simp only [putAll, Act.put, sA_, sZ_, sS_]; done)|(simp only [putAll, Act.put, sA_, sZ_, sS_]; rfl)) (hJ5_9_10 (gb225, gb226) _ ⟨hHeld, (by (with_reducible repeat first|refine bN_ ?_ _|refine bD_ ?_|refine bA_ ?_ _); exact BK218.out), (by (with_reducible repeat first|refine bN_ ?_ _|refine bD_ ?_|refine bA_ ?_ _); exact BK225.out), (by (with_reducible repeat first|refine bN_ ?_ _|refine bD_ ?_|refine bA_ ?_ _); exact BK226.out), GW225.out, GE225.out, NB217_225.out, NB225_217.out, NB218_225.out, NB225_218.out, NB226_225.out, NB225_226.out, GW226.out, GE226.out, NB217_226.out, NB226_217.out, NB218_226.out, NB226_218.out, (by repeat (first|(with_reducible first|exact HI217.out|apply IsS66.alloc|apply IsS66.drewN|apply IsS66.drew|apply IsS66.set_0|apply IsS66.set_1|refine IsS66.far ?_ NB217_218.out _|refine IsS66.far ?_ NB217_225.out _|refine IsS66.far ?_ NB217_226.out _)|exact HI217.out)), (by repeat (first|(with_reducible first|exact HB.out|apply ba_|apply pN_|apply b1_|refine bs_ ?_ (IsS66.ge HI217.out)|refine bs_ ?_ GE218.out|refine bs_ ?_ GE225.out|refine bs_ ?_ GE226.out)|exact HB.out))⟩)
                    · skip
                      rintro gb226 w16 ⟨hS_, h0_, h1_, h2_, h3_, h4_, h5_, h6_, h7_, h8_, h9_⟩
                      have n0_ : Aside0 (w16.heap[gb218]? = some (.cells #[.int .u64 x219000_1, .int .u64 x219001_1] 74 (0, 0))) := ⟨h0_⟩
                      have n1_ : Aside0 (w16.heap[gb226]? = some (.cells #[.int .u64 0, .bool false, .int .i64 0] 76 (0, 0))) := ⟨h1_⟩
                      have n2_ : Aside0 (w.heap.size ≤ gb226) := ⟨h2_⟩
                      have n3_ : Aside0 (w.heap.size ≤ gb226) := ⟨h3_⟩
                      have n4_ : Aside0 (gb217 ≠ gb226) := ⟨h4_⟩
                      have n5_ : Aside0 (gb226 ≠ gb217) := ⟨h5_⟩
                      have n6_ : Aside0 (gb218 ≠ gb226) := ⟨h6_⟩
                      have n7_ : Aside0 (gb226 ≠ gb218) := ⟨h7_⟩
                      have n8_ : Aside0 (IsS66 w w16 gb217 x218000_1 x218001_1) := ⟨h8_⟩
                      have n9_ : Aside0 (Below w.heap.size w w16) := ⟨h9_⟩
                      clear BK218
                      clear HI217
                      clear HB
                      clear h0_ h1_ h2_ h3_ h4_ h5_ h6_ h7_ h8_ h9_
                      have BK218 := n0_
                      have BK226 := n1_
                      have GW226 := n2_
                      have GE226 := n3_
                      have NB217_226 := n4_
                      have NB226_217 := n5_
                      have NB218_226 := n6_
                      have NB226_218 := n7_
                      have HI217 := n8_
                      have HB := n9_
                      clear n0_ n1_ n2_ n3_ n4_ n5_ n6_ n7_ n8_ n9_
                      have hHeld : w16.cell? ⟨gb218, 0, none⟩ = some (.int .u64 x219000_1) ∧ w16.cell? ⟨gb218, 1, none⟩ = some (.int .u64 x219001_1) ∧ w16.cell? (ad219.add ((x5_1).toNat * 2)) = some (.int .i64 ((rd_T80 l0 x5_1).f0)) ∧ w16.cell? ⟨(ad219.add ((x5_1).toNat * 2)).block, (ad219.add ((x5_1).toNat * 2)).off + 1, none⟩ = some (.int .i64 ((rd_T80 l0 x5_1).f1)) := hS_
                      refine norm_ (a' := ?_) ?_ ?_
                      rotate_left
                      · simp only [putAll, Act.put, sA_, sZ_, sS_]
                        rfl
                      refine one_ (i := 9) (N := some 6) #[true, true, true, true, true, true, true, true, true, true, true, false, false] rfl rfl (one_of HT_.out (by kernel_rfl)) (by decide) (fun K hK => ?_)
                      refine box_step ?hg (N := 6) ?hd (cs := #[.int .u64 0, .int .u64 0]) (t := 74) ?hr ?_; (case hd => rfl); (case hg => rfl); (case hr => first|(go_simp; done)|(go_simp; rfl))
                      intro gb225 hg w17 hbox hb
                      have n0_ := A0_ (blk_below (g := gb218) (o := .cells #[.int .u64 x219000_1, .int .u64 x219001_1] 74 (0, 0)) (by (with_reducible repeat first|refine bN_ ?_ _|refine bD_ ?_|refine bA_ ?_ _); exact BK218.out) hb)
                      have n1_ := A0_ (IsS66.below (by repeat (first|(with_reducible first|exact HI217.out|apply IsS66.alloc|apply IsS66.drewN|apply IsS66.drew|apply IsS66.set_0|apply IsS66.set_1|refine IsS66.far ?_ NB217_218.out _|refine IsS66.far ?_ NB217_226.out _)|exact HI217.out)) hb)
                      have n2_ := A0_ (blk_below (g := gb226) (o := .cells #[.int .u64 0, .bool false, .int .i64 0] 76 (0, 0)) (by (with_reducible repeat first|refine bN_ ?_ _|refine bD_ ?_|refine bA_ ?_ _); exact BK226.out) hb)
                      have n3_ := A0_ (below_step (by repeat (first|(with_reducible first|exact HB.out|apply ba_|apply pN_|apply b1_|refine bs_ ?_ (IsS66.ge HI217.out)|refine bs_ ?_ GE218.out|refine bs_ ?_ GE226.out)|exact HB.out)) hb)
                      have n4_ := A0_ (hbox)
                      have n5_ := A0_ ((by rw [hg]; exact (below_size (by repeat (first|(with_reducible first|exact HB.out|apply ba_|apply pN_|apply b1_|refine bs_ ?_ (IsS66.ge HI217.out)|refine bs_ ?_ GE218.out|refine bs_ ?_ GE226.out)|exact HB.out))) : w.heap.size ≤ gb225))
                      have n6_ := A0_ ((by rw [hg]; exact (below_size (by repeat (first|(with_reducible first|exact HB.out|apply ba_|apply pN_|apply b1_|refine bs_ ?_ (IsS66.ge HI217.out)|refine bs_ ?_ GE218.out|refine bs_ ?_ GE226.out)|exact HB.out))) : w.heap.size ≤ gb225))
                      have n7_ := A0_ ((by rw [hg]; exact Nat.ne_of_lt (blk_lt (g := gb218) (o := .cells #[.int .u64 x219000_1, .int .u64 x219001_1] 74 (0, 0)) (by (with_reducible repeat first|refine bN_ ?_ _|refine bD_ ?_|refine bA_ ?_ _); exact BK218.out)) : gb218 ≠ gb225))
                      have n8_ := A0_ ((by rw [hg]; exact Nat.ne_of_gt (blk_lt (g := gb218) (o := .cells #[.int .u64 x219000_1, .int .u64 x219001_1] 74 (0, 0)) (by (with_reducible repeat first|refine bN_ ?_ _|refine bD_ ?_|refine bA_ ?_ _); exact BK218.out)) : gb225 ≠ gb218))
                      have n9_ := A0_ ((by rw [hg]; exact Nat.ne_of_lt (blk_lt (g := gb226) (o := .cells #[.int .u64 0, .bool false, .int .i64 0] 76 (0, 0)) (by (with_reducible repeat first|refine bN_ ?_ _|refine bD_ ?_|refine bA_ ?_ _); exact BK226.out)) : gb226 ≠ gb225))
                      have n10_ := A0_ ((by rw [hg]; exact Nat.ne_of_gt (blk_lt (g := gb226) (o := .cells #[.int .u64 0, .bool false, .int .i64 0] 76 (0, 0)) (by (with_reducible repeat first|refine bN_ ?_ _|refine bD_ ?_|refine bA_ ?_ _); exact BK226.out)) : gb225 ≠ gb226))
                      have n11_ := A0_ ((by rw [hg]; exact Nat.ne_of_lt (IsS66.lt (show IsS66 w _ gb217 x218000_1 x218001_1 from by repeat (first|(with_reducible first|exact HI217.out|apply IsS66.alloc|apply IsS66.drewN|apply IsS66.drew|apply IsS66.set_0|apply IsS66.set_1|refine IsS66.far ?_ NB217_218.out _|refine IsS66.far ?_ NB217_226.out _)|exact HI217.out))) : gb217 ≠ gb225))
                      have n12_ := A0_ ((by rw [hg]; exact Nat.ne_of_gt (IsS66.lt (show IsS66 w _ gb217 x218000_1 x218001_1 from by repeat (first|(with_reducible first|exact HI217.out|apply IsS66.alloc|apply IsS66.drewN|apply IsS66.drew|apply IsS66.set_0|apply IsS66.set_1|refine IsS66.far ?_ NB217_218.out _|refine IsS66.far ?_ NB217_226.out _)|exact HI217.out))) : gb225 ≠ gb217))
                      clear BK218
                      clear HI217
                      clear BK226
                      clear HB
                      have BK218 := n0_
                      have HI217 := n1_
                      have BK226 := n2_
                      have HB := n3_
                      have BK225 := n4_
                      have GW225 := n5_
                      have GE225 := n6_
                      have NB218_225 := n7_
                      have NB225_218 := n8_
                      have NB226_225 := n9_
                      have NB225_226 := n10_
                      have NB217_225 := n11_
                      have NB225_217 := n12_
                      clear n0_ n1_ n2_ n3_ n4_ n5_ n6_ n7_ n8_ n9_ n10_ n11_ n12_
                      clear hb hbox hg
                      refine hK.out _ _ ⟨(blk_cell BK218.out 0).trans rfl, (blk_cell BK218.out 1).trans rfl, ((HB.out.cell (bl_ w _ hw219_0)).trans hw219_0), ((HB.out.cell (bl_ w _ hw219_1)).trans hw219_1)⟩ (fun hHeld => ?_)
                      clear hK K
                      refine norm_ (a' := ?_) ?_ ?_
                      rotate_left
                      · show Act.put _ (some 6) _ = _
                        simp only [Act.put, sA_, sZ_, sS_, i64_w, i32_w]
                        rfl
                      exact norm_ (by first|(simp only [putAll, Act.put, sA_, sZ_, sS_]; done)|(simp only [putAll, Act.put, sA_, sZ_, sS_]; rfl)) (hJ5_9_10 (gb225, gb226) _ ⟨hHeld, (by (with_reducible repeat first|refine bN_ ?_ _|refine bD_ ?_|refine bA_ ?_ _); exact BK218.out), (by (with_reducible repeat first|refine bN_ ?_ _|refine bD_ ?_|refine bA_ ?_ _); exact BK225.out), (by (with_reducible repeat first|refine bN_ ?_ _|refine bD_ ?_|refine bA_ ?_ _); exact BK226.out), GW225.out, GE225.out, NB217_225.out, NB225_217.out, NB218_225.out, NB225_218.out, NB226_225.out, NB225_226.out, GW226.out, GE226.out, NB217_226.out, NB226_217.out, NB218_226.out, NB226_218.out, (by repeat (first|(with_reducible first|exact HI217.out|apply IsS66.alloc|apply IsS66.drewN|apply IsS66.drew|apply IsS66.set_0|apply IsS66.set_1|refine IsS66.far ?_ NB217_218.out _|refine IsS66.far ?_ NB217_226.out _|refine IsS66.far ?_ NB217_225.out _)|exact HI217.out)), (by repeat (first|(with_reducible first|exact HB.out|apply ba_|apply pN_|apply b1_|refine bs_ ?_ (IsS66.ge HI217.out)|refine bs_ ?_ GE218.out|refine bs_ ?_ GE226.out|refine bs_ ?_ GE225.out)|exact HB.out))⟩)
                  · skip
                    rintro gb225 w16 ⟨hS_, h0_, h1_, h2_, h3_, h4_, h5_, h6_, h7_, h8_, h9_⟩
                    have n0_ : Aside0 (w16.heap[gb218]? = some (.cells #[.int .u64 x219000_1, .int .u64 x219001_1] 74 (0, 0))) := ⟨h0_⟩
                    have n1_ : Aside0 (w16.heap[gb225]? = some (.cells #[.int .u64 0, .int .u64 0] 74 (0, 0))) := ⟨h1_⟩
                    have n2_ : Aside0 (w.heap.size ≤ gb225) := ⟨h2_⟩
                    have n3_ : Aside0 (w.heap.size ≤ gb225) := ⟨h3_⟩
                    have n4_ : Aside0 (gb217 ≠ gb225) := ⟨h4_⟩
                    have n5_ : Aside0 (gb225 ≠ gb217) := ⟨h5_⟩
                    have n6_ : Aside0 (gb218 ≠ gb225) := ⟨h6_⟩
                    have n7_ : Aside0 (gb225 ≠ gb218) := ⟨h7_⟩
                    have n8_ : Aside0 (IsS66 w w16 gb217 x218000_1 x218001_1) := ⟨h8_⟩
                    have n9_ : Aside0 (Below w.heap.size w w16) := ⟨h9_⟩
                    clear BK218
                    clear HI217
                    clear HB
                    clear h0_ h1_ h2_ h3_ h4_ h5_ h6_ h7_ h8_ h9_
                    have BK218 := n0_
                    have BK225 := n1_
                    have GW225 := n2_
                    have GE225 := n3_
                    have NB217_225 := n4_
                    have NB225_217 := n5_
                    have NB218_225 := n6_
                    have NB225_218 := n7_
                    have HI217 := n8_
                    have HB := n9_
                    clear n0_ n1_ n2_ n3_ n4_ n5_ n6_ n7_ n8_ n9_
                    have hHeld : w16.cell? ⟨gb218, 0, none⟩ = some (.int .u64 x219000_1) ∧ w16.cell? ⟨gb218, 1, none⟩ = some (.int .u64 x219001_1) ∧ w16.cell? (ad219.add ((x5_1).toNat * 2)) = some (.int .i64 ((rd_T80 l0 x5_1).f0)) ∧ w16.cell? ⟨(ad219.add ((x5_1).toNat * 2)).block, (ad219.add ((x5_1).toNat * 2)).off + 1, none⟩ = some (.int .i64 ((rd_T80 l0 x5_1).f1)) := hS_
                    refine norm_ (a' := ?_) ?_ ?_
                    rotate_left
                    · simp only [putAll, Act.put, sA_, sZ_, sS_]
                      rfl
                    refine one_ (i := 10) (N := some 7) #[true, true, true, true, true, true, true, true, true, true, true, false, false] rfl rfl (one_of HT_.out (by kernel_rfl)) (by decide) (fun K hK => ?_)
                    refine box_step ?hg (N := 7) ?hd (cs := #[.int .u64 0, .bool false, .int .i64 0]) (t := 76) ?hr ?_; (case hd => rfl); (case hg => rfl); (case hr => first|(go_simp; done)|(go_simp; rfl))
                    intro gb226 hg w17 hbox hb
                    have n0_ := A0_ (blk_below (g := gb218) (o := .cells #[.int .u64 x219000_1, .int .u64 x219001_1] 74 (0, 0)) (by (with_reducible repeat first|refine bN_ ?_ _|refine bD_ ?_|refine bA_ ?_ _); exact BK218.out) hb)
                    have n1_ := A0_ (IsS66.below (by repeat (first|(with_reducible first|exact HI217.out|apply IsS66.alloc|apply IsS66.drewN|apply IsS66.drew|apply IsS66.set_0|apply IsS66.set_1|refine IsS66.far ?_ NB217_218.out _|refine IsS66.far ?_ NB217_225.out _)|exact HI217.out)) hb)
                    have n2_ := A0_ (blk_below (g := gb225) (o := .cells #[.int .u64 0, .int .u64 0] 74 (0, 0)) (by (with_reducible repeat first|refine bN_ ?_ _|refine bD_ ?_|refine bA_ ?_ _); exact BK225.out) hb)
                    have n3_ := A0_ (below_step (by repeat (first|(with_reducible first|exact HB.out|apply ba_|apply pN_|apply b1_|refine bs_ ?_ (IsS66.ge HI217.out)|refine bs_ ?_ GE218.out|refine bs_ ?_ GE225.out)|exact HB.out)) hb)
                    have n4_ := A0_ (hbox)
                    have n5_ := A0_ ((by rw [hg]; exact (below_size (by repeat (first|(with_reducible first|exact HB.out|apply ba_|apply pN_|apply b1_|refine bs_ ?_ (IsS66.ge HI217.out)|refine bs_ ?_ GE218.out|refine bs_ ?_ GE225.out)|exact HB.out))) : w.heap.size ≤ gb226))
                    have n6_ := A0_ ((by rw [hg]; exact (below_size (by repeat (first|(with_reducible first|exact HB.out|apply ba_|apply pN_|apply b1_|refine bs_ ?_ (IsS66.ge HI217.out)|refine bs_ ?_ GE218.out|refine bs_ ?_ GE225.out)|exact HB.out))) : w.heap.size ≤ gb226))
                    have n7_ := A0_ ((by rw [hg]; exact Nat.ne_of_lt (blk_lt (g := gb218) (o := .cells #[.int .u64 x219000_1, .int .u64 x219001_1] 74 (0, 0)) (by (with_reducible repeat first|refine bN_ ?_ _|refine bD_ ?_|refine bA_ ?_ _); exact BK218.out)) : gb218 ≠ gb226))
                    have n8_ := A0_ ((by rw [hg]; exact Nat.ne_of_gt (blk_lt (g := gb218) (o := .cells #[.int .u64 x219000_1, .int .u64 x219001_1] 74 (0, 0)) (by (with_reducible repeat first|refine bN_ ?_ _|refine bD_ ?_|refine bA_ ?_ _); exact BK218.out)) : gb226 ≠ gb218))
                    have n9_ := A0_ ((by rw [hg]; exact Nat.ne_of_lt (blk_lt (g := gb225) (o := .cells #[.int .u64 0, .int .u64 0] 74 (0, 0)) (by (with_reducible repeat first|refine bN_ ?_ _|refine bD_ ?_|refine bA_ ?_ _); exact BK225.out)) : gb225 ≠ gb226))
                    have n10_ := A0_ ((by rw [hg]; exact Nat.ne_of_gt (blk_lt (g := gb225) (o := .cells #[.int .u64 0, .int .u64 0] 74 (0, 0)) (by (with_reducible repeat first|refine bN_ ?_ _|refine bD_ ?_|refine bA_ ?_ _); exact BK225.out)) : gb226 ≠ gb225))
                    have n11_ := A0_ ((by rw [hg]; exact Nat.ne_of_lt (IsS66.lt (show IsS66 w _ gb217 x218000_1 x218001_1 from by repeat (first|(with_reducible first|exact HI217.out|apply IsS66.alloc|apply IsS66.drewN|apply IsS66.drew|apply IsS66.set_0|apply IsS66.set_1|refine IsS66.far ?_ NB217_218.out _|refine IsS66.far ?_ NB217_225.out _)|exact HI217.out))) : gb217 ≠ gb226))
                    have n12_ := A0_ ((by rw [hg]; exact Nat.ne_of_gt (IsS66.lt (show IsS66 w _ gb217 x218000_1 x218001_1 from by repeat (first|(with_reducible first|exact HI217.out|apply IsS66.alloc|apply IsS66.drewN|apply IsS66.drew|apply IsS66.set_0|apply IsS66.set_1|refine IsS66.far ?_ NB217_218.out _|refine IsS66.far ?_ NB217_225.out _)|exact HI217.out))) : gb226 ≠ gb217))
                    clear BK218
                    clear HI217
                    clear BK225
                    clear HB
                    have BK218 := n0_
                    have HI217 := n1_
                    have BK225 := n2_
                    have HB := n3_
                    have BK226 := n4_
                    have GW226 := n5_
                    have GE226 := n6_
                    have NB218_226 := n7_
                    have NB226_218 := n8_
                    have NB225_226 := n9_
                    have NB226_225 := n10_
                    have NB217_226 := n11_
                    have NB226_217 := n12_
                    clear n0_ n1_ n2_ n3_ n4_ n5_ n6_ n7_ n8_ n9_ n10_ n11_ n12_
                    clear hb hbox hg
                    refine hK.out _ _ ⟨(blk_cell BK218.out 0).trans rfl, (blk_cell BK218.out 1).trans rfl, ((HB.out.cell (bl_ w _ hw219_0)).trans hw219_0), ((HB.out.cell (bl_ w _ hw219_1)).trans hw219_1)⟩ (fun hHeld => ?_)
                    clear hK K
                    refine norm_ (a' := ?_) ?_ ?_
                    rotate_left
                    · show Act.put _ (some 7) _ = _
                      simp only [Act.put, sA_, sZ_, sS_, i64_w, i32_w]
                      rfl
                    exact norm_ (by first|(simp only [putAll, Act.put, sA_, sZ_, sS_]; done)|(simp only [putAll, Act.put, sA_, sZ_, sS_]; rfl)) (hJ5_9_10 (gb225, gb226) _ ⟨hHeld, (by (with_reducible repeat first|refine bN_ ?_ _|refine bD_ ?_|refine bA_ ?_ _); exact BK218.out), (by (with_reducible repeat first|refine bN_ ?_ _|refine bD_ ?_|refine bA_ ?_ _); exact BK225.out), (by (with_reducible repeat first|refine bN_ ?_ _|refine bD_ ?_|refine bA_ ?_ _); exact BK226.out), GW225.out, GE225.out, NB217_225.out, NB225_217.out, NB218_225.out, NB225_218.out, NB226_225.out, NB225_226.out, GW226.out, GE226.out, NB217_226.out, NB226_217.out, NB218_226.out, NB226_218.out, (by repeat (first|(with_reducible first|exact HI217.out|apply IsS66.alloc|apply IsS66.drewN|apply IsS66.drew|apply IsS66.set_0|apply IsS66.set_1|refine IsS66.far ?_ NB217_218.out _|refine IsS66.far ?_ NB217_225.out _|refine IsS66.far ?_ NB217_226.out _)|exact HI217.out)), (by repeat (first|(with_reducible first|exact HB.out|apply ba_|apply pN_|apply b1_|refine bs_ ?_ (IsS66.ge HI217.out)|refine bs_ ?_ GE218.out|refine bs_ ?_ GE225.out|refine bs_ ?_ GE226.out)|exact HB.out))⟩)
                rintro ⟨gb225, gb226⟩ w17 ⟨hS_, h0_, h1_, h2_, h3_, h4_, h5_, h6_, h7_, h8_, h9_, h10_, h11_, h12_, h13_, h14_, h15_, h16_, h17_, h18_⟩
                have n0_ : Aside0 (w17.heap[gb218]? = some (.cells #[.int .u64 x219000_1, .int .u64 x219001_1] 74 (0, 0))) := ⟨h0_⟩
                have n1_ : Aside0 (w17.heap[gb225]? = some (.cells #[.int .u64 0, .int .u64 0] 74 (0, 0))) := ⟨h1_⟩
                have n2_ : Aside0 (w17.heap[gb226]? = some (.cells #[.int .u64 0, .bool false, .int .i64 0] 76 (0, 0))) := ⟨h2_⟩
                have n3_ : Aside0 (w.heap.size ≤ gb225) := ⟨h3_⟩
                have n4_ : Aside0 (w.heap.size ≤ gb225) := ⟨h4_⟩
                have n5_ : Aside0 (gb217 ≠ gb225) := ⟨h5_⟩
                have n6_ : Aside0 (gb225 ≠ gb217) := ⟨h6_⟩
                have n7_ : Aside0 (gb218 ≠ gb225) := ⟨h7_⟩
                have n8_ : Aside0 (gb225 ≠ gb218) := ⟨h8_⟩
                have n9_ : Aside0 (gb226 ≠ gb225) := ⟨h9_⟩
                have n10_ : Aside0 (gb225 ≠ gb226) := ⟨h10_⟩
                have n11_ : Aside0 (w.heap.size ≤ gb226) := ⟨h11_⟩
                have n12_ : Aside0 (w.heap.size ≤ gb226) := ⟨h12_⟩
                have n13_ : Aside0 (gb217 ≠ gb226) := ⟨h13_⟩
                have n14_ : Aside0 (gb226 ≠ gb217) := ⟨h14_⟩
                have n15_ : Aside0 (gb218 ≠ gb226) := ⟨h15_⟩
                have n16_ : Aside0 (gb226 ≠ gb218) := ⟨h16_⟩
                have n17_ : Aside0 (IsS66 w w17 gb217 x218000_1 x218001_1) := ⟨h17_⟩
                have n18_ : Aside0 (Below w.heap.size w w17) := ⟨h18_⟩
                clear BK218
                clear HI217
                clear HB
                clear h0_ h1_ h2_ h3_ h4_ h5_ h6_ h7_ h8_ h9_ h10_ h11_ h12_ h13_ h14_ h15_ h16_ h17_ h18_
                have BK218 := n0_
                have BK225 := n1_
                have BK226 := n2_
                have GW225 := n3_
                have GE225 := n4_
                have NB217_225 := n5_
                have NB225_217 := n6_
                have NB218_225 := n7_
                have NB225_218 := n8_
                have NB226_225 := n9_
                have NB225_226 := n10_
                have GW226 := n11_
                have GE226 := n12_
                have NB217_226 := n13_
                have NB226_217 := n14_
                have NB218_226 := n15_
                have NB226_218 := n16_
                have HI217 := n17_
                have HB := n18_
                clear n0_ n1_ n2_ n3_ n4_ n5_ n6_ n7_ n8_ n9_ n10_ n11_ n12_ n13_ n14_ n15_ n16_ n17_ n18_
                have hHeld : w17.cell? ⟨gb218, 0, none⟩ = some (.int .u64 x219000_1) ∧ w17.cell? ⟨gb218, 1, none⟩ = some (.int .u64 x219001_1) ∧ w17.cell? (ad219.add ((x5_1).toNat * 2)) = some (.int .i64 ((rd_T80 l0 x5_1).f0)) ∧ w17.cell? ⟨(ad219.add ((x5_1).toNat * 2)).block, (ad219.add ((x5_1).toNat * 2)).off + 1, none⟩ = some (.int .i64 ((rd_T80 l0 x5_1).f1)) := hS_
                refine norm_ (a' := ?_) ?_ ?_
                rotate_left
                · simp only [putAll, Act.put, sA_, sZ_, sS_]
                  rfl
                refine one_ (i := 11) (N := none) #[true, true, true, true, true, true, true, true, true, true, true, true, false] rfl rfl (one_of HT_.out (by kernel_rfl)) (by decide) (fun K hK => ?_)
                have hs18 : w17.cell? ⟨gb225, 0, none⟩ = some (.int .u64 0) := (blk_cell BK225.out 0).trans rfl
                have hfs18 := blk_frozen BK225.out 0
                have hns18_0 := NB218_225.out
                have hns18_2 := NB226_225.out
                have hms18_0 := NB225_218.out
                have hms18_2 := NB225_226.out
                have hs19 : w17.cell? ⟨gb225, 1, none⟩ = some (.int .u64 0) := (blk_cell BK225.out 1).trans rfl
                have hfs19 := blk_frozen BK225.out 1
                have hns19_0 := NB218_225.out
                have hns19_2 := NB226_225.out
                have hms19_0 := NB225_218.out
                have hms19_2 := NB225_226.out
                refine skip_ (w1 := ?_) (by rfl) rfl ?_ ?_
                rotate_left
                · go_simp
                  rfl
                refine hK.out _ _ ⟨((cell_far (p := ⟨gb225, _, none⟩) NB218_225.out _).trans (((cell_far (p := ⟨gb225, _, none⟩) NB218_225.out _).trans (hHeld.1)))), ((cell_far (p := ⟨gb225, _, none⟩) NB218_225.out _).trans (((cell_far (p := ⟨gb225, _, none⟩) NB218_225.out _).trans (hHeld.2.1)))), ((cell_far (p := ⟨gb225, _, none⟩) (by first|exact Nat.ne_of_lt (Nat.lt_of_lt_of_le (by have := bl_ _ _ hw219_0; first|rwa [add_block] at this|exact this) GW225.out)|(rw [add_block]; exact Nat.ne_of_lt (Nat.lt_of_lt_of_le (by have := bl_ _ _ hw219_0; first|rwa [add_block] at this|exact this) GW225.out))|(show (Addr.add _ _).block ≠ _; rw [add_block]; exact Nat.ne_of_lt (Nat.lt_of_lt_of_le (by have := bl_ _ _ hw219_0; first|rwa [add_block] at this|exact this) GW225.out))|(dsimp only; exact Nat.ne_of_lt (Nat.lt_of_lt_of_le (by have := bl_ _ _ hw219_0; first|rwa [add_block] at this|exact this) GW225.out))) _).trans (((cell_far (p := ⟨gb225, _, none⟩) (by first|exact Nat.ne_of_lt (Nat.lt_of_lt_of_le (by have := bl_ _ _ hw219_0; first|rwa [add_block] at this|exact this) GW225.out)|(rw [add_block]; exact Nat.ne_of_lt (Nat.lt_of_lt_of_le (by have := bl_ _ _ hw219_0; first|rwa [add_block] at this|exact this) GW225.out))|(show (Addr.add _ _).block ≠ _; rw [add_block]; exact Nat.ne_of_lt (Nat.lt_of_lt_of_le (by have := bl_ _ _ hw219_0; first|rwa [add_block] at this|exact this) GW225.out))|(dsimp only; exact Nat.ne_of_lt (Nat.lt_of_lt_of_le (by have := bl_ _ _ hw219_0; first|rwa [add_block] at this|exact this) GW225.out))) _).trans (hHeld.2.2.1)))), ((cell_far (p := ⟨gb225, _, none⟩) (by first|exact Nat.ne_of_lt (Nat.lt_of_lt_of_le (by have := bl_ _ _ hw219_1; first|rwa [add_block] at this|exact this) GW225.out)|(rw [add_block]; exact Nat.ne_of_lt (Nat.lt_of_lt_of_le (by have := bl_ _ _ hw219_1; first|rwa [add_block] at this|exact this) GW225.out))|(show (Addr.add _ _).block ≠ _; rw [add_block]; exact Nat.ne_of_lt (Nat.lt_of_lt_of_le (by have := bl_ _ _ hw219_1; first|rwa [add_block] at this|exact this) GW225.out))|(dsimp only; exact Nat.ne_of_lt (Nat.lt_of_lt_of_le (by have := bl_ _ _ hw219_1; first|rwa [add_block] at this|exact this) GW225.out))) _).trans (((cell_far (p := ⟨gb225, _, none⟩) (by first|exact Nat.ne_of_lt (Nat.lt_of_lt_of_le (by have := bl_ _ _ hw219_1; first|rwa [add_block] at this|exact this) GW225.out)|(rw [add_block]; exact Nat.ne_of_lt (Nat.lt_of_lt_of_le (by have := bl_ _ _ hw219_1; first|rwa [add_block] at this|exact this) GW225.out))|(show (Addr.add _ _).block ≠ _; rw [add_block]; exact Nat.ne_of_lt (Nat.lt_of_lt_of_le (by have := bl_ _ _ hw219_1; first|rwa [add_block] at this|exact this) GW225.out))|(dsimp only; exact Nat.ne_of_lt (Nat.lt_of_lt_of_le (by have := bl_ _ _ hw219_1; first|rwa [add_block] at this|exact this) GW225.out))) _).trans (hHeld.2.2.2))))⟩ (fun hHeld => ?_)
                clear hK K
                refine one_ (i := 12) (N := none) #[true, true, true, true, true, true, true, true, true, true, true, true, true] rfl rfl (one_of HT_.out (by kernel_rfl)) (by decide) (fun K hK => ?_)
                have hs20 : w17.cell? ⟨gb226, 0, none⟩ = some (.int .u64 0) := (blk_cell BK226.out 0).trans rfl
                have hfs20 := blk_frozen BK226.out 0
                have hns20_0 := NB218_226.out
                have hns20_1 := NB225_226.out
                have hms20_0 := NB226_218.out
                have hms20_1 := NB226_225.out
                have hs21 : w17.cell? ⟨gb226, 1, none⟩ = some (.bool false) := (blk_cell BK226.out 1).trans rfl
                have hfs21 := blk_frozen BK226.out 1
                have hns21_0 := NB218_226.out
                have hns21_1 := NB225_226.out
                have hms21_0 := NB226_218.out
                have hms21_1 := NB226_225.out
                have hs22 : w17.cell? ⟨gb226, 2, none⟩ = some (.int .i64 0) := (blk_cell BK226.out 2).trans rfl
                have hfs22 := blk_frozen BK226.out 2
                have hns22_0 := NB218_226.out
                have hns22_1 := NB225_226.out
                have hms22_0 := NB226_218.out
                have hms22_1 := NB226_225.out
                refine skip_ (w1 := ?_) (by rfl) rfl ?_ ?_
                rotate_left
                · go_simp
                  rfl
                refine hK.out _ _ ⟨((cell_far (p := ⟨gb226, _, none⟩) NB218_226.out _).trans (((cell_far (p := ⟨gb226, _, none⟩) NB218_226.out _).trans (((cell_far (p := ⟨gb226, _, none⟩) NB218_226.out _).trans (hHeld.1)))))), ((cell_far (p := ⟨gb226, _, none⟩) NB218_226.out _).trans (((cell_far (p := ⟨gb226, _, none⟩) NB218_226.out _).trans (((cell_far (p := ⟨gb226, _, none⟩) NB218_226.out _).trans (hHeld.2.1)))))), ((cell_far (p := ⟨gb226, _, none⟩) (by first|exact Nat.ne_of_lt (Nat.lt_of_lt_of_le (by have := bl_ _ _ hw219_0; first|rwa [add_block] at this|exact this) GW226.out)|(rw [add_block]; exact Nat.ne_of_lt (Nat.lt_of_lt_of_le (by have := bl_ _ _ hw219_0; first|rwa [add_block] at this|exact this) GW226.out))|(show (Addr.add _ _).block ≠ _; rw [add_block]; exact Nat.ne_of_lt (Nat.lt_of_lt_of_le (by have := bl_ _ _ hw219_0; first|rwa [add_block] at this|exact this) GW226.out))|(dsimp only; exact Nat.ne_of_lt (Nat.lt_of_lt_of_le (by have := bl_ _ _ hw219_0; first|rwa [add_block] at this|exact this) GW226.out))) _).trans (((cell_far (p := ⟨gb226, _, none⟩) (by first|exact Nat.ne_of_lt (Nat.lt_of_lt_of_le (by have := bl_ _ _ hw219_0; first|rwa [add_block] at this|exact this) GW226.out)|(rw [add_block]; exact Nat.ne_of_lt (Nat.lt_of_lt_of_le (by have := bl_ _ _ hw219_0; first|rwa [add_block] at this|exact this) GW226.out))|(show (Addr.add _ _).block ≠ _; rw [add_block]; exact Nat.ne_of_lt (Nat.lt_of_lt_of_le (by have := bl_ _ _ hw219_0; first|rwa [add_block] at this|exact this) GW226.out))|(dsimp only; exact Nat.ne_of_lt (Nat.lt_of_lt_of_le (by have := bl_ _ _ hw219_0; first|rwa [add_block] at this|exact this) GW226.out))) _).trans (((cell_far (p := ⟨gb226, _, none⟩) (by first|exact Nat.ne_of_lt (Nat.lt_of_lt_of_le (by have := bl_ _ _ hw219_0; first|rwa [add_block] at this|exact this) GW226.out)|(rw [add_block]; exact Nat.ne_of_lt (Nat.lt_of_lt_of_le (by have := bl_ _ _ hw219_0; first|rwa [add_block] at this|exact this) GW226.out))|(show (Addr.add _ _).block ≠ _; rw [add_block]; exact Nat.ne_of_lt (Nat.lt_of_lt_of_le (by have := bl_ _ _ hw219_0; first|rwa [add_block] at this|exact this) GW226.out))|(dsimp only; exact Nat.ne_of_lt (Nat.lt_of_lt_of_le (by have := bl_ _ _ hw219_0; first|rwa [add_block] at this|exact this) GW226.out))) _).trans (hHeld.2.2.1)))))), ((cell_far (p := ⟨gb226, _, none⟩) (by first|exact Nat.ne_of_lt (Nat.lt_of_lt_of_le (by have := bl_ _ _ hw219_1; first|rwa [add_block] at this|exact this) GW226.out)|(rw [add_block]; exact Nat.ne_of_lt (Nat.lt_of_lt_of_le (by have := bl_ _ _ hw219_1; first|rwa [add_block] at this|exact this) GW226.out))|(show (Addr.add _ _).block ≠ _; rw [add_block]; exact Nat.ne_of_lt (Nat.lt_of_lt_of_le (by have := bl_ _ _ hw219_1; first|rwa [add_block] at this|exact this) GW226.out))|(dsimp only; exact Nat.ne_of_lt (Nat.lt_of_lt_of_le (by have := bl_ _ _ hw219_1; first|rwa [add_block] at this|exact this) GW226.out))) _).trans (((cell_far (p := ⟨gb226, _, none⟩) (by first|exact Nat.ne_of_lt (Nat.lt_of_lt_of_le (by have := bl_ _ _ hw219_1; first|rwa [add_block] at this|exact this) GW226.out)|(rw [add_block]; exact Nat.ne_of_lt (Nat.lt_of_lt_of_le (by have := bl_ _ _ hw219_1; first|rwa [add_block] at this|exact this) GW226.out))|(show (Addr.add _ _).block ≠ _; rw [add_block]; exact Nat.ne_of_lt (Nat.lt_of_lt_of_le (by have := bl_ _ _ hw219_1; first|rwa [add_block] at this|exact this) GW226.out))|(dsimp only; exact Nat.ne_of_lt (Nat.lt_of_lt_of_le (by have := bl_ _ _ hw219_1; first|rwa [add_block] at this|exact this) GW226.out))) _).trans (((cell_far (p := ⟨gb226, _, none⟩) (by first|exact Nat.ne_of_lt (Nat.lt_of_lt_of_le (by have := bl_ _ _ hw219_1; first|rwa [add_block] at this|exact this) GW226.out)|(rw [add_block]; exact Nat.ne_of_lt (Nat.lt_of_lt_of_le (by have := bl_ _ _ hw219_1; first|rwa [add_block] at this|exact this) GW226.out))|(show (Addr.add _ _).block ≠ _; rw [add_block]; exact Nat.ne_of_lt (Nat.lt_of_lt_of_le (by have := bl_ _ _ hw219_1; first|rwa [add_block] at this|exact this) GW226.out))|(dsimp only; exact Nat.ne_of_lt (Nat.lt_of_lt_of_le (by have := bl_ _ _ hw219_1; first|rwa [add_block] at this|exact this) GW226.out))) _).trans (hHeld.2.2.2))))))⟩ (fun hHeld => ?_)
                clear hK K
                refine done_ (done_of HT_.out (by kernel_rfl)) ?_
                have hnb23 := NB225_218.out
                have hnc23 := NB218_225.out
                have hnb24 := NB225_226.out
                have hnc24 := NB226_225.out
                have hnb25 := NB225_217.out
                have hnc25 := NB217_225.out
                have hcz26_0 : w17.cell? ⟨gb225, 0, none⟩ = some (.int .u64 0) := (blk_cell BK225.out 0).trans rfl
                have hcz26_1 : w17.cell? ⟨gb225, 1, none⟩ = some (.int .u64 0) := (blk_cell BK225.out 1).trans rfl
                have hfz26_0 := blk_frozen BK225.out 0
                have hfz26_1 := blk_frozen BK225.out 1
                have hnb27 := NB218_226.out
                have hnc27 := NB226_218.out
                have hnb28 := NB218_217.out
                have hnc28 := NB217_218.out
                have hcz29_0 : w17.cell? ⟨gb218, 0, none⟩ = some (.int .u64 x219000_1) := (blk_cell BK218.out 0).trans rfl
                have hcz29_1 : w17.cell? ⟨gb218, 1, none⟩ = some (.int .u64 x219001_1) := (blk_cell BK218.out 1).trans rfl
                have hfz29_0 := blk_frozen BK218.out 0
                have hfz29_1 := blk_frozen BK218.out 1
                go_upto_region 7 with (fail)
                go_cut [59] (fun v59 wc => ∃ (kq : Nat) (x59_11 : Bool) (x218000_11 : Int) (x218001_11 : Int), v59 = .bool x59_11 ∧ Aside0 (logjamlaw19_BarrierPlays.j2 kq l0 x5_1 x59_11 x218000_11 x218001_11 t220 t221 = some r) ∧ Aside0 (kq ≤ kj5) ∧ Aside0 (wc.heap[gb218]? = some (.cells #[.int .u64 t220, .int .u64 t221] 74 (0, 0))) ∧ Aside0 (wc.heap[gb225]? = some (.cells #[.int .u64 t220, .int .u64 t221] 74 (0, 0))) ∧ Aside0 (wc.heap[gb226]? = some (.cells #[.int .u64 t222, .bool t223, .int .i64 t224] 76 (0, 0))) ∧ Aside0 (IsS66 w wc gb217 x218000_11 x218001_11) ∧ Aside0 (Below w.heap.size w wc))
                case first =>
                  have H := HC12.out
                  clear HC12
                  replace H := bm_ H
                  obtain ⟨⟨t228, t229, t230, t231, t232⟩, A300, H⟩ := H
                  replace H : (if (!(t228 == t222) || (!(t229 == t223) || (!(t230 == t224)))) = true then (logjamlaw19_BarrierPlays.j2 kj5 l0 x5_1 true t231 t232 t220 t221) else ((barrier_Barrier_Members.f t231 t232).bind fun bt233 => (if bt233.1 = t220 then ((barrier_Barrier_Arrived.f bt233.2.1 bt233.2.2).bind fun bt236 => (if bt236.1 = t221 then ((barrier_Barrier_Missing.f bt236.2.1 bt236.2.2).bind fun bt239 => ((logjamref19_Missing.f kj5 t220 t221).bind fun t242 => (logjamlaw19_BarrierPlays.j2 kj5 l0 x5_1 (bt239.1 != t242) bt239.2.1 bt239.2.2 t220 t221))) else (logjamlaw19_BarrierPlays.j2 kj5 l0 x5_1 true bt236.2.1 bt236.2.2 t220 t221))) else (logjamlaw19_BarrierPlays.j2 kj5 l0 x5_1 true bt233.2.1 bt233.2.2 t220 t221)))) = some r := H
                  have A30 := A0_ A300
                  clear A300
                  by_cases c31 : (!(t228 == t222) || (!(t229 == t223) || (!(t230 == t224)))) = true
                  · rw [if_pos c31] at H
                    have c31b0 : (!(t228 == t222) || (!(t229 == t223) || (!(t230 == t224)))) = true := c31
                    clear c31
                    (first|rw [c31b0]|(simp only [i64_w, i32_w]; rw [c31b0])|skip)
                    have H' := A0_ H
                    clear H
                    try go_wp2
                    have n0_ : Aside0 ((((((((w17.setCell ⟨gb225, 0, none⟩ (.int .u64 t220)).setCell ⟨gb225, 1, none⟩ (.int .u64 t221)).setCell ⟨gb226, 0, none⟩ (.int .u64 t222)).setCell ⟨gb226, 1, none⟩ (.bool t223)).setCell ⟨gb226, 2, none⟩ (.int .i64 t224)).setCell ⟨gb218, 0, none⟩ (.int .u64 t220)).setCell ⟨gb218, 1, none⟩ (.int .u64 t221)).heap[gb218]? = some (.cells #[.int .u64 t220, .int .u64 t221] 74 (0, 0))) := ⟨by (with_reducible repeat first|refine bN_ ?_ _|refine bD_ ?_|refine bA_ ?_ _); refine blk_put (cs := #[.int .u64 t220, .int .u64 x219001_1]) ?_ 1 _ rfl; (with_reducible repeat first|refine bN_ ?_ _|refine bD_ ?_|refine bA_ ?_ _); refine blk_put (cs := #[.int .u64 x219000_1, .int .u64 x219001_1]) ?_ 0 _ rfl; (with_reducible repeat first|refine bN_ ?_ _|refine bD_ ?_|refine bA_ ?_ _); refine blk_far ?_ NB218_226.out _; (with_reducible repeat first|refine bN_ ?_ _|refine bD_ ?_|refine bA_ ?_ _); refine blk_far ?_ NB218_226.out _; (with_reducible repeat first|refine bN_ ?_ _|refine bD_ ?_|refine bA_ ?_ _); refine blk_far ?_ NB218_226.out _; (with_reducible repeat first|refine bN_ ?_ _|refine bD_ ?_|refine bA_ ?_ _); refine blk_far ?_ NB218_225.out _; (with_reducible repeat first|refine bN_ ?_ _|refine bD_ ?_|refine bA_ ?_ _); refine blk_far ?_ NB218_225.out _; (with_reducible repeat first|refine bN_ ?_ _|refine bD_ ?_|refine bA_ ?_ _); exact BK218.out⟩
                    have n1_ : Aside0 ((((((((w17.setCell ⟨gb225, 0, none⟩ (.int .u64 t220)).setCell ⟨gb225, 1, none⟩ (.int .u64 t221)).setCell ⟨gb226, 0, none⟩ (.int .u64 t222)).setCell ⟨gb226, 1, none⟩ (.bool t223)).setCell ⟨gb226, 2, none⟩ (.int .i64 t224)).setCell ⟨gb218, 0, none⟩ (.int .u64 t220)).setCell ⟨gb218, 1, none⟩ (.int .u64 t221)).heap[gb225]? = some (.cells #[.int .u64 t220, .int .u64 t221] 74 (0, 0))) := ⟨by (with_reducible repeat first|refine bN_ ?_ _|refine bD_ ?_|refine bA_ ?_ _); refine blk_far ?_ NB225_218.out _; (with_reducible repeat first|refine bN_ ?_ _|refine bD_ ?_|refine bA_ ?_ _); refine blk_far ?_ NB225_218.out _; (with_reducible repeat first|refine bN_ ?_ _|refine bD_ ?_|refine bA_ ?_ _); refine blk_far ?_ NB225_226.out _; (with_reducible repeat first|refine bN_ ?_ _|refine bD_ ?_|refine bA_ ?_ _); refine blk_far ?_ NB225_226.out _; (with_reducible repeat first|refine bN_ ?_ _|refine bD_ ?_|refine bA_ ?_ _); refine blk_far ?_ NB225_226.out _; (with_reducible repeat first|refine bN_ ?_ _|refine bD_ ?_|refine bA_ ?_ _); refine blk_put (cs := #[.int .u64 t220, .int .u64 0]) ?_ 1 _ rfl; (with_reducible repeat first|refine bN_ ?_ _|refine bD_ ?_|refine bA_ ?_ _); refine blk_put (cs := #[.int .u64 0, .int .u64 0]) ?_ 0 _ rfl; (with_reducible repeat first|refine bN_ ?_ _|refine bD_ ?_|refine bA_ ?_ _); exact BK225.out⟩
                    have n2_ : Aside0 ((((((((w17.setCell ⟨gb225, 0, none⟩ (.int .u64 t220)).setCell ⟨gb225, 1, none⟩ (.int .u64 t221)).setCell ⟨gb226, 0, none⟩ (.int .u64 t222)).setCell ⟨gb226, 1, none⟩ (.bool t223)).setCell ⟨gb226, 2, none⟩ (.int .i64 t224)).setCell ⟨gb218, 0, none⟩ (.int .u64 t220)).setCell ⟨gb218, 1, none⟩ (.int .u64 t221)).heap[gb226]? = some (.cells #[.int .u64 t222, .bool t223, .int .i64 t224] 76 (0, 0))) := ⟨by (with_reducible repeat first|refine bN_ ?_ _|refine bD_ ?_|refine bA_ ?_ _); refine blk_far ?_ NB226_218.out _; (with_reducible repeat first|refine bN_ ?_ _|refine bD_ ?_|refine bA_ ?_ _); refine blk_far ?_ NB226_218.out _; (with_reducible repeat first|refine bN_ ?_ _|refine bD_ ?_|refine bA_ ?_ _); refine blk_put (cs := #[.int .u64 t222, .bool t223, .int .i64 0]) ?_ 2 _ rfl; (with_reducible repeat first|refine bN_ ?_ _|refine bD_ ?_|refine bA_ ?_ _); refine blk_put (cs := #[.int .u64 t222, .bool false, .int .i64 0]) ?_ 1 _ rfl; (with_reducible repeat first|refine bN_ ?_ _|refine bD_ ?_|refine bA_ ?_ _); refine blk_put (cs := #[.int .u64 0, .bool false, .int .i64 0]) ?_ 0 _ rfl; (with_reducible repeat first|refine bN_ ?_ _|refine bD_ ?_|refine bA_ ?_ _); refine blk_far ?_ NB226_225.out _; (with_reducible repeat first|refine bN_ ?_ _|refine bD_ ?_|refine bA_ ?_ _); refine blk_far ?_ NB226_225.out _; (with_reducible repeat first|refine bN_ ?_ _|refine bD_ ?_|refine bA_ ?_ _); exact BK226.out⟩
                    have n3_ : Aside0 (IsS66 w (((((((w17.setCell ⟨gb225, 0, none⟩ (.int .u64 t220)).setCell ⟨gb225, 1, none⟩ (.int .u64 t221)).setCell ⟨gb226, 0, none⟩ (.int .u64 t222)).setCell ⟨gb226, 1, none⟩ (.bool t223)).setCell ⟨gb226, 2, none⟩ (.int .i64 t224)).setCell ⟨gb218, 0, none⟩ (.int .u64 t220)).setCell ⟨gb218, 1, none⟩ (.int .u64 t221)) gb217 x218000_1 x218001_1) := ⟨by repeat (first|(with_reducible first|exact HI217.out|apply IsS66.alloc|apply IsS66.drewN|apply IsS66.drew|apply IsS66.set_0|apply IsS66.set_1|refine IsS66.far ?_ NB217_218.out _|refine IsS66.far ?_ NB217_225.out _|refine IsS66.far ?_ NB217_226.out _)|exact HI217.out)⟩
                    have n4_ : Aside0 (Below w.heap.size w (((((((w17.setCell ⟨gb225, 0, none⟩ (.int .u64 t220)).setCell ⟨gb225, 1, none⟩ (.int .u64 t221)).setCell ⟨gb226, 0, none⟩ (.int .u64 t222)).setCell ⟨gb226, 1, none⟩ (.bool t223)).setCell ⟨gb226, 2, none⟩ (.int .i64 t224)).setCell ⟨gb218, 0, none⟩ (.int .u64 t220)).setCell ⟨gb218, 1, none⟩ (.int .u64 t221))) := ⟨by repeat (first|(with_reducible first|exact HB.out|apply ba_|apply pN_|apply b1_|refine bs_ ?_ (IsS66.ge HI217.out)|refine bs_ ?_ GE218.out|refine bs_ ?_ GE225.out|refine bs_ ?_ GE226.out)|exact HB.out)⟩
                    (try clear BK218)
                    (try clear BK225)
                    (try clear BK226)
                    (try clear HI217)
                    (try clear HB)
                    generalize (((((((w17.setCell ⟨gb225, 0, none⟩ (.int .u64 t220)).setCell ⟨gb225, 1, none⟩ (.int .u64 t221)).setCell ⟨gb226, 0, none⟩ (.int .u64 t222)).setCell ⟨gb226, 1, none⟩ (.bool t223)).setCell ⟨gb226, 2, none⟩ (.int .i64 t224)).setCell ⟨gb218, 0, none⟩ (.int .u64 t220)).setCell ⟨gb218, 1, none⟩ (.int .u64 t221)) = w32 at n0_ n1_ n2_ n3_ n4_ ⊢
                    have BK218 := n0_
                    have BK225 := n1_
                    have BK226 := n2_
                    have HI217 := n3_
                    have HB := n4_
                    clear n0_ n1_ n2_ n3_ n4_
                    have n0_ := A0_ (blk_drew BK218.out)
                    have n1_ := A0_ (blk_drew BK225.out)
                    have n2_ := A0_ (blk_drew BK226.out)
                    have n3_ := A0_ (IsS66.drew HI217.out)
                    have n4_ := A0_ (b1_ HB.out)
                    clear BK218
                    clear BK225
                    clear BK226
                    clear HI217
                    clear HB
                    have BK218 := n0_
                    have BK225 := n1_
                    have BK226 := n2_
                    have HI217 := n3_
                    have HB := n4_
                    clear n0_ n1_ n2_ n3_ n4_
                    have p227 : 0 ≤ (x5_1 : Int) := of_decide_eq_true (by first|(with_reducible assumption)|assumption)
                    have q227 : x5_1 < (l0.length : Int) := of_decide_eq_true (by first|(with_reducible assumption)|assumption)
                    obtain ⟨ad227, e227, hx227_0, hx227_1⟩ := at_T80 HR0.out x5_1 p227 q227
                    have hw227_1 := hx227_1
                    have hw227_0 := hx227_0
                    obtain rfl : ad219 = ad227 := (by injection e227)
                    replace hx227_0 := (HB.out.cell (bl_ w _ hx227_0)).trans hx227_0
                    replace hx227_1 := (HB.out.cell (bl_ w _ hx227_1)).trans hx227_1
                    replace p227 := eq_true p227
                    replace q227 := eq_true q227
                    refine start_ (n := 29) (S := fun w' => w'.cell? ⟨gb226, 0, none⟩ = some (.int .u64 t222) ∧ w'.cell? ⟨gb226, 1, none⟩ = some (.bool t223) ∧ w'.cell? ⟨gb226, 2, none⟩ = some (.int .i64 t224) ∧ w'.cell? (ad219.add ((x5_1).toNat * 2)) = some (.int .i64 ((rd_T80 l0 x5_1).f0)) ∧ w'.cell? ⟨(ad219.add ((x5_1).toNat * 2)).block, (ad219.add ((x5_1).toNat * 2)).off + 1, none⟩ = some (.int .i64 ((rd_T80 l0 x5_1).f1))) (ds := []) #[false, false, false, false, false, false, false, false, false, false, false, false, false, false, false, false, false, false, false, false, false, false, false, false, false, false, false, false, false] (by kernel_rfl) rfl rfl ⟨(blk_cell BK226.out 0).trans rfl, (blk_cell BK226.out 1).trans rfl, (blk_cell BK226.out 2).trans rfl, ((HB.out.cell (bl_ w _ hw227_0)).trans hw227_0), ((HB.out.cell (bl_ w _ hw227_1)).trans hw227_1)⟩ (fun hHeld => ?_); refine with_tabW logjamlaw19_BarrierPlays.tab7 logjamlaw19_BarrierPlays.bits7 (fun HT_ HW_ => ?_)
                    generalize w32.drew = w33 at BK218 BK225 BK226 HI217 HB hx227_0 hx227_1 hHeld ⊢
                    refine pure_ (i := 0) (N := some 31) (v := ?_) (a' := ?_) #[true, false, false, false, false, false, false, false, false, false, false, false, false, false, false, false, false, false, false, false, false, false, false, false, false, false, false, false, false] rfl rfl (any_of HT_.out (by kernel_rfl)) (fun _ _ _ h => h) (Or.inl ⟨by rfl, ?_⟩) ?_ ?_
                    rotate_left
                    · intro w'
                      go_simp
                      with_reducible rfl
                    rotate_left
                    · simp only [Act.put, sA_, sZ_, sS_, i64_w, i32_w]
                      rfl
                    refine pure_ (i := 1) (N := some 32) (v := ?_) (a' := ?_) #[true, true, false, false, false, false, false, false, false, false, false, false, false, false, false, false, false, false, false, false, false, false, false, false, false, false, false, false, false] rfl rfl (any_of HT_.out (by kernel_rfl)) (fun _ _ _ h => h) (Or.inl ⟨by rfl, ?_⟩) ?_ ?_
                    rotate_left
                    · intro w'
                      go_simp
                      with_reducible rfl
                    rotate_left
                    · simp only [Act.put, sA_, sZ_, sS_, i64_w, i32_w]
                      rfl
                    refine pure_ (i := 2) (N := some 33) (v := ?_) (a' := ?_) #[true, true, true, false, false, false, false, false, false, false, false, false, false, false, false, false, false, false, false, false, false, false, false, false, false, false, false, false, false] rfl rfl (any_of HT_.out (by kernel_rfl)) (fun _ _ _ h => h) (Or.inl ⟨by rfl, ?_⟩) ?_ ?_
                    rotate_left
                    · intro w'
                      go_simp
                      with_reducible rfl
                    rotate_left
                    · simp only [Act.put, sA_, sZ_, sS_, i64_w, i32_w]
                      rfl
                    refine pure_ (i := 3) (N := some 34) (v := ?_) (a' := ?_) #[true, true, true, true, false, false, false, false, false, false, false, false, false, false, false, false, false, false, false, false, false, false, false, false, false, false, false, false, false] rfl rfl (any_of HT_.out (by kernel_rfl)) (fun _ _ _ h => h) (Or.inl ⟨by rfl, ?_⟩) ?_ ?_
                    rotate_left
                    · intro w'
                      go_simp
                      with_reducible rfl
                    rotate_left
                    · simp only [Act.put, sA_, sZ_, sS_, i64_w, i32_w]
                      rfl
                    refine take_ (i := 4) (N := some 35) (v := ?_) (a' := ?_) #[true, true, true, true, true, false, false, false, false, false, false, false, false, false, false, false, false, false, false, false, false, false, false, false, false, false, false, false, false] rfl rfl (take_ofW HT_.out HW_.out (by kernel_rfl)) (fun _ _ _ h => h) (Or.inl ⟨by rfl, ?_⟩) hHeld ?_ ?_
                    rotate_left
                    · rintro w' ⟨s0, s1, s2, s3, s4⟩
                      go_simp
                      with_reducible rfl
                    rotate_left
                    · simp only [Act.put, sA_, sZ_, sS_, i64_w, i32_w]
                      rfl
                    refine take_ (i := 6) (N := some 37) (v := ?_) (a' := ?_) #[true, true, true, true, true, false, true, false, false, false, false, false, false, false, false, false, false, false, false, false, false, false, false, false, false, false, false, false, false] rfl rfl (take_ofW HT_.out HW_.out (by kernel_rfl)) (fun _ _ _ h => h) (Or.inl ⟨by rfl, ?_⟩) hHeld ?_ ?_
                    rotate_left
                    · rintro w' ⟨s0, s1, s2, s3, s4⟩
                      go_simp
                      with_reducible rfl
                    rotate_left
                    · simp only [Act.put, sA_, sZ_, sS_, i64_w, i32_w]
                      rfl
                    refine one_ (i := 5) (N := some 36) #[true, true, true, true, true, true, true, false, false, false, false, false, false, false, false, false, false, false, false, false, false, false, false, false, false, false, false, false, false] rfl rfl (one_of HT_.out (by kernel_rfl)) (by decide) (fun K hK => ?_)
                    refine goes_ Try.func44 (by kernel_rfl) rfl #[.pointer (some ⟨gb217, 0, none⟩), .agg #[.int .i64 ((rd_T80 l0 x5_1).f0), .int .i64 ((rd_T80 l0 x5_1).f1)]] (by rfl) rfl rfl (by first|(simp only [List.map_toArray, List.map_cons, List.map_nil] <;> rfl)|rfl|(simp only [List.length_drop, List.length_take]; rfl)) ?_
                    with_reducible refine (logjamlaw19_do.calls gb217 x218000_1 x218001_1 ((rd_T80 l0 x5_1).f0) ((rd_T80 l0 x5_1).f1) t228 t229 t230 t231 t232 w _ ?side1 ?side2 A30.out).mono ?_
                    (case side1 => repeat (first|(with_reducible first|exact HI217.out|apply IsS66.alloc|apply IsS66.drewN|apply IsS66.drew|apply IsS66.set_0|apply IsS66.set_1|refine IsS66.far ?_ NB217_218.out _|refine IsS66.far ?_ NB217_225.out _|refine IsS66.far ?_ NB217_226.out _)|exact HI217.out))
                    (case side2 => repeat (first|(with_reducible first|exact HB.out|apply ba_|apply pN_|apply b1_|refine bs_ ?_ (IsS66.ge HI217.out)|refine bs_ ?_ GE218.out|refine bs_ ?_ GE225.out|refine bs_ ?_ GE226.out)|exact HB.out))
                    rintro e w34 ⟨rfl, hi, hb, hk⟩
                    refine ⟨_, rfl, ?_⟩
                    have n0_ := A0_ (KeepBut.blk hk (g' := gb218) (o := .cells #[.int .u64 t220, .int .u64 t221] 74 (0, 0)) (by (with_reducible repeat first|refine bN_ ?_ _|refine bD_ ?_|refine bA_ ?_ _); exact BK218.out) NB218_217.out (by simp))
                    have n1_ := A0_ (KeepBut.blk hk (g' := gb225) (o := .cells #[.int .u64 t220, .int .u64 t221] 74 (0, 0)) (by (with_reducible repeat first|refine bN_ ?_ _|refine bD_ ?_|refine bA_ ?_ _); exact BK225.out) NB225_217.out (by simp))
                    have n2_ := A0_ (KeepBut.blk hk (g' := gb226) (o := .cells #[.int .u64 t222, .bool t223, .int .i64 t224] 76 (0, 0)) (by (with_reducible repeat first|refine bN_ ?_ _|refine bD_ ?_|refine bA_ ?_ _); exact BK226.out) NB226_217.out (by simp))
                    have n3_ := A0_ (hb)
                    have n4_ := A0_ (hi)
                    clear BK218
                    clear BK225
                    clear BK226
                    clear HB
                    clear HI217
                    have BK218 := n0_
                    have BK225 := n1_
                    have BK226 := n2_
                    have HB := n3_
                    have HI217 := n4_
                    clear n0_ n1_ n2_ n3_ n4_
                    (try clear hb)
                    (try clear hb2)
                    (try clear hk)
                    (try clear hi)
                    refine hK.out _ _ ⟨(blk_cell BK226.out 0).trans rfl, (blk_cell BK226.out 1).trans rfl, (blk_cell BK226.out 2).trans rfl, ((HB.out.cell (bl_ w _ hw227_0)).trans hw227_0), ((HB.out.cell (bl_ w _ hw227_1)).trans hw227_1)⟩ (fun hHeld => ?_)
                    clear hK K
                    refine norm_ (a' := ?_) ?_ ?_
                    rotate_left
                    · show Act.put _ (some 36) _ = _
                      simp only [Act.put, sA_, sZ_, sS_, i64_w, i32_w]
                      rfl
                    refine pure_ (i := 7) (N := some 38) (v := ?_) (a' := ?_) #[true, true, true, true, true, true, true, true, false, false, false, false, false, false, false, false, false, false, false, false, false, false, false, false, false, false, false, false, false] rfl rfl (any_of HT_.out (by kernel_rfl)) (fun _ _ _ h => h) (Or.inl ⟨by rfl, ?_⟩) ?_ ?_
                    rotate_left
                    · intro w'
                      go_simp
                      first|(simp only [ifr1_, ifr2_]; done)|(simp only [ifr1_, ifr2_]; with_reducible rfl)
                    rotate_left
                    · simp only [Act.put, sA_, sZ_, sS_, i64_w, i32_w]
                      rfl
                    refine pure_ (i := 8) (N := some 39) (v := ?_) (a' := ?_) #[true, true, true, true, true, true, true, true, true, false, false, false, false, false, false, false, false, false, false, false, false, false, false, false, false, false, false, false, false] rfl rfl (any_of HT_.out (by kernel_rfl)) (fun _ _ _ h => h) (Or.inl ⟨by rfl, ?_⟩) ?_ ?_
                    rotate_left
                    · intro w'
                      go_simp
                      with_reducible rfl
                    rotate_left
                    · simp only [Act.put, sA_, sZ_, sS_, i64_w, i32_w]
                      rfl
                    refine pure_ (i := 9) (N := some 40) (v := undef) (a' := ?_) #[true, true, true, true, true, true, true, true, true, true, false, false, false, false, false, false, false, false, false, false, false, false, false, false, false, false, false, false, false] rfl rfl (any_of HT_.out (by kernel_rfl)) (fun _ _ _ h => h) (Or.inr ⟨by rfl, rfl⟩) ?_ ?_
                    rotate_left
                    · simp only [Act.put, sA_, sZ_, sS_, i64_w, i32_w]
                      rfl
                    refine pure_ (i := 10) (N := some 41) (v := undef) (a' := ?_) #[true, true, true, true, true, true, true, true, true, true, true, false, false, false, false, false, false, false, false, false, false, false, false, false, false, false, false, false, false] rfl rfl (any_of HT_.out (by kernel_rfl)) (fun _ _ _ h => h) (Or.inr ⟨by rfl, rfl⟩) ?_ ?_
                    rotate_left
                    · simp only [Act.put, sA_, sZ_, sS_, i64_w, i32_w]
                      rfl
                    refine pure_ (i := 11) (N := some 42) (v := undef) (a' := ?_) #[true, true, true, true, true, true, true, true, true, true, true, true, false, false, false, false, false, false, false, false, false, false, false, false, false, false, false, false, false] rfl rfl (any_of HT_.out (by kernel_rfl)) (fun _ _ _ h => h) (Or.inr ⟨by rfl, rfl⟩) ?_ ?_
                    rotate_left
                    · simp only [Act.put, sA_, sZ_, sS_, i64_w, i32_w]
                      rfl
                    refine pure_ (i := 12) (N := some 43) (v := undef) (a' := ?_) #[true, true, true, true, true, true, true, true, true, true, true, true, true, false, false, false, false, false, false, false, false, false, false, false, false, false, false, false, false] rfl rfl (any_of HT_.out (by kernel_rfl)) (fun _ _ _ h => h) (Or.inr ⟨by rfl, rfl⟩) ?_ ?_
                    rotate_left
                    · simp only [Act.put, sA_, sZ_, sS_, i64_w, i32_w]
                      rfl
                    refine pure_ (i := 13) (N := some 44) (v := undef) (a' := ?_) #[true, true, true, true, true, true, true, true, true, true, true, true, true, true, false, false, false, false, false, false, false, false, false, false, false, false, false, false, false] rfl rfl (any_of HT_.out (by kernel_rfl)) (fun _ _ _ h => h) (Or.inr ⟨by rfl, rfl⟩) ?_ ?_
                    rotate_left
                    · simp only [Act.put, sA_, sZ_, sS_, i64_w, i32_w]
                      rfl
                    refine pure_ (i := 14) (N := some 45) (v := ?_) (a' := ?_) #[true, true, true, true, true, true, true, true, true, true, true, true, true, true, true, false, false, false, false, false, false, false, false, false, false, false, false, false, false] rfl rfl (any_of HT_.out (by kernel_rfl)) (fun _ _ _ h => h) (Or.inl ⟨by rfl, ?_⟩) ?_ ?_
                    rotate_left
                    · intro w'
                      go_simp
                      with_reducible rfl
                    rotate_left
                    · simp only [Act.put, sA_, sZ_, sS_, i64_w, i32_w]
                      rfl
                    refine pure_ (i := 15) (N := some 46) (v := ?_) (a' := ?_) #[true, true, true, true, true, true, true, true, true, true, true, true, true, true, true, true, false, false, false, false, false, false, false, false, false, false, false, false, false] rfl rfl (any_of HT_.out (by kernel_rfl)) (fun _ _ _ h => h) (Or.inl ⟨by rfl, ?_⟩) ?_ ?_
                    rotate_left
                    · intro w'
                      go_simp
                      with_reducible rfl
                    rotate_left
                    · simp only [Act.put, sA_, sZ_, sS_, i64_w, i32_w]
                      rfl
                    refine pure_ (i := 16) (N := some 47) (v := undef) (a' := ?_) #[true, true, true, true, true, true, true, true, true, true, true, true, true, true, true, true, true, false, false, false, false, false, false, false, false, false, false, false, false] rfl rfl (any_of HT_.out (by kernel_rfl)) (fun _ _ _ h => h) (Or.inr ⟨by rfl, rfl⟩) ?_ ?_
                    rotate_left
                    · simp only [Act.put, sA_, sZ_, sS_, i64_w, i32_w]
                      rfl
                    refine pure_ (i := 17) (N := some 48) (v := undef) (a' := ?_) #[true, true, true, true, true, true, true, true, true, true, true, true, true, true, true, true, true, true, false, false, false, false, false, false, false, false, false, false, false] rfl rfl (any_of HT_.out (by kernel_rfl)) (fun _ _ _ h => h) (Or.inr ⟨by rfl, rfl⟩) ?_ ?_
                    rotate_left
                    · simp only [Act.put, sA_, sZ_, sS_, i64_w, i32_w]
                      rfl
                    refine pure_ (i := 18) (N := some 49) (v := undef) (a' := ?_) #[true, true, true, true, true, true, true, true, true, true, true, true, true, true, true, true, true, true, true, false, false, false, false, false, false, false, false, false, false] rfl rfl (any_of HT_.out (by kernel_rfl)) (fun _ _ _ h => h) (Or.inr ⟨by rfl, rfl⟩) ?_ ?_
                    rotate_left
                    · simp only [Act.put, sA_, sZ_, sS_, i64_w, i32_w]
                      rfl
                    refine pure_ (i := 19) (N := some 50) (v := undef) (a' := ?_) #[true, true, true, true, true, true, true, true, true, true, true, true, true, true, true, true, true, true, true, true, false, false, false, false, false, false, false, false, false] rfl rfl (any_of HT_.out (by kernel_rfl)) (fun _ _ _ h => h) (Or.inr ⟨by rfl, rfl⟩) ?_ ?_
                    rotate_left
                    · simp only [Act.put, sA_, sZ_, sS_, i64_w, i32_w]
                      rfl
                    refine pure_ (i := 20) (N := some 51) (v := undef) (a' := ?_) #[true, true, true, true, true, true, true, true, true, true, true, true, true, true, true, true, true, true, true, true, true, false, false, false, false, false, false, false, false] rfl rfl (any_of HT_.out (by kernel_rfl)) (fun _ _ _ h => h) (Or.inr ⟨by rfl, rfl⟩) ?_ ?_
                    rotate_left
                    · simp only [Act.put, sA_, sZ_, sS_, i64_w, i32_w]
                      rfl
                    refine pure_ (i := 21) (N := some 52) (v := ?_) (a' := ?_) #[true, true, true, true, true, true, true, true, true, true, true, true, true, true, true, true, true, true, true, true, true, true, false, false, false, false, false, false, false] rfl rfl (any_of HT_.out (by kernel_rfl)) (fun _ _ _ h => h) (Or.inl ⟨by rfl, ?_⟩) ?_ ?_
                    rotate_left
                    · intro w'
                      go_simp
                      with_reducible rfl
                    rotate_left
                    · simp only [Act.put, sA_, sZ_, sS_, i64_w, i32_w]
                      rfl
                    refine pure_ (i := 22) (N := some 53) (v := ?_) (a' := ?_) #[true, true, true, true, true, true, true, true, true, true, true, true, true, true, true, true, true, true, true, true, true, true, true, false, false, false, false, false, false] rfl rfl (any_of HT_.out (by kernel_rfl)) (fun _ _ _ h => h) (Or.inl ⟨by rfl, ?_⟩) ?_ ?_
                    rotate_left
                    · intro w'
                      go_simp
                      with_reducible rfl
                    rotate_left
                    · simp only [Act.put, sA_, sZ_, sS_, i64_w, i32_w]
                      rfl
                    refine pure_ (i := 23) (N := some 54) (v := undef) (a' := ?_) #[true, true, true, true, true, true, true, true, true, true, true, true, true, true, true, true, true, true, true, true, true, true, true, true, false, false, false, false, false] rfl rfl (any_of HT_.out (by kernel_rfl)) (fun _ _ _ h => h) (Or.inr ⟨by rfl, rfl⟩) ?_ ?_
                    rotate_left
                    · simp only [Act.put, sA_, sZ_, sS_, i64_w, i32_w]
                      rfl
                    refine pure_ (i := 24) (N := some 55) (v := undef) (a' := ?_) #[true, true, true, true, true, true, true, true, true, true, true, true, true, true, true, true, true, true, true, true, true, true, true, true, true, false, false, false, false] rfl rfl (any_of HT_.out (by kernel_rfl)) (fun _ _ _ h => h) (Or.inr ⟨by rfl, rfl⟩) ?_ ?_
                    rotate_left
                    · simp only [Act.put, sA_, sZ_, sS_, i64_w, i32_w]
                      rfl
                    refine pure_ (i := 25) (N := some 56) (v := undef) (a' := ?_) #[true, true, true, true, true, true, true, true, true, true, true, true, true, true, true, true, true, true, true, true, true, true, true, true, true, true, false, false, false] rfl rfl (any_of HT_.out (by kernel_rfl)) (fun _ _ _ h => h) (Or.inr ⟨by rfl, rfl⟩) ?_ ?_
                    rotate_left
                    · simp only [Act.put, sA_, sZ_, sS_, i64_w, i32_w]
                      rfl
                    refine pure_ (i := 26) (N := some 57) (v := undef) (a' := ?_) #[true, true, true, true, true, true, true, true, true, true, true, true, true, true, true, true, true, true, true, true, true, true, true, true, true, true, true, false, false] rfl rfl (any_of HT_.out (by kernel_rfl)) (fun _ _ _ h => h) (Or.inr ⟨by rfl, rfl⟩) ?_ ?_
                    rotate_left
                    · simp only [Act.put, sA_, sZ_, sS_, i64_w, i32_w]
                      rfl
                    refine pure_ (i := 27) (N := some 58) (v := undef) (a' := ?_) #[true, true, true, true, true, true, true, true, true, true, true, true, true, true, true, true, true, true, true, true, true, true, true, true, true, true, true, true, false] rfl rfl (any_of HT_.out (by kernel_rfl)) (fun _ _ _ h => h) (Or.inr ⟨by rfl, rfl⟩) ?_ ?_
                    rotate_left
                    · simp only [Act.put, sA_, sZ_, sS_, i64_w, i32_w]
                      rfl
                    refine pure_ (i := 28) (N := some 59) (v := ?_) (a' := ?_) #[true, true, true, true, true, true, true, true, true, true, true, true, true, true, true, true, true, true, true, true, true, true, true, true, true, true, true, true, true] rfl rfl (any_of HT_.out (by kernel_rfl)) (fun _ _ _ h => h) (Or.inl ⟨by rfl, ?_⟩) ?_ ?_
                    rotate_left
                    · intro w'
                      go_simp
                      with_reducible rfl
                    rotate_left
                    · simp only [Act.put, sA_, sZ_, sS_, i64_w, i32_w]
                      rfl
                    refine done_ (done_of HT_.out (by kernel_rfl)) ?_
                    try go_wp2
                    go_meet
                    case rel => exact ⟨_, (true), (t231), (t232), (by first|rfl|(simp; done)|(simp [*]; done)), H', ⟨by have := HK1.out; have := HJ5.out; first|omega|exact Nat.le_refl _⟩, ⟨by (with_reducible repeat first|refine bN_ ?_ _|refine bD_ ?_|refine bA_ ?_ _); exact BK218.out⟩, ⟨by (with_reducible repeat first|refine bN_ ?_ _|refine bD_ ?_|refine bA_ ?_ _); exact BK225.out⟩, ⟨by (with_reducible repeat first|refine bN_ ?_ _|refine bD_ ?_|refine bA_ ?_ _); exact BK226.out⟩, ⟨by repeat (first|(with_reducible first|exact HI217.out|apply IsS66.alloc|apply IsS66.drewN|apply IsS66.drew|apply IsS66.set_0|apply IsS66.set_1|refine IsS66.far ?_ NB217_218.out _|refine IsS66.far ?_ NB217_225.out _|refine IsS66.far ?_ NB217_226.out _)|exact HI217.out)⟩, ⟨by repeat (first|(with_reducible first|exact HB.out|apply ba_|apply pN_|apply b1_|refine bs_ ?_ (IsS66.ge HI217.out)|refine bs_ ?_ GE218.out|refine bs_ ?_ GE225.out|refine bs_ ?_ GE226.out)|exact HB.out)⟩⟩
                  · rw [if_neg c31] at H
                    have c31b0 : (!(t228 == t222) || (!(t229 == t223) || (!(t230 == t224)))) = false := by simpa using c31
                    clear c31
                    (first|rw [c31b0]|(simp only [i64_w, i32_w]; rw [c31b0])|skip)
                    replace H := bm_ H
                    obtain ⟨⟨t233, t234, t235⟩, A350, H⟩ := H
                    replace H : (if t233 = t220 then ((barrier_Barrier_Arrived.f t234 t235).bind fun bt236 => (if bt236.1 = t221 then ((barrier_Barrier_Missing.f bt236.2.1 bt236.2.2).bind fun bt239 => ((logjamref19_Missing.f kj5 t220 t221).bind fun t242 => (logjamlaw19_BarrierPlays.j2 kj5 l0 x5_1 (bt239.1 != t242) bt239.2.1 bt239.2.2 t220 t221))) else (logjamlaw19_BarrierPlays.j2 kj5 l0 x5_1 true bt236.2.1 bt236.2.2 t220 t221))) else (logjamlaw19_BarrierPlays.j2 kj5 l0 x5_1 true t234 t235 t220 t221)) = some r := H
                    have A35 := A0_ A350
                    clear A350
                    by_cases c36 : t233 = t220
                    · rw [if_pos c36] at H
                      have c36b0 : (t233 == t220) = true := beq_iff_eq.mpr c36
                      have c36b1 : (t233 != t220) = false := bne_eq_false_iff_eq.mpr c36
                      clear c36
                      replace H := bm_ H
                      obtain ⟨⟨t236, t237, t238⟩, A370, H⟩ := H
                      replace H : (if t236 = t221 then ((barrier_Barrier_Missing.f t237 t238).bind fun bt239 => ((logjamref19_Missing.f kj5 t220 t221).bind fun t242 => (logjamlaw19_BarrierPlays.j2 kj5 l0 x5_1 (bt239.1 != t242) bt239.2.1 bt239.2.2 t220 t221))) else (logjamlaw19_BarrierPlays.j2 kj5 l0 x5_1 true t237 t238 t220 t221)) = some r := H
                      have A37 := A0_ A370
                      clear A370
                      by_cases c38 : t236 = t221
                      · rw [if_pos c38] at H
                        have c38b0 : (t236 == t221) = true := beq_iff_eq.mpr c38
                        have c38b1 : (t236 != t221) = false := bne_eq_false_iff_eq.mpr c38
                        clear c38
                        replace H := bm_ H
                        obtain ⟨⟨t239, t240, t241⟩, A390, H⟩ := H
                        replace H : ((logjamref19_Missing.f kj5 t220 t221).bind fun t242 => (logjamlaw19_BarrierPlays.j2 kj5 l0 x5_1 (t239 != t242) t240 t241 t220 t221)) = some r := H
                        have A39 := A0_ A390
                        clear A390
                        replace H := bm_ H
                        obtain ⟨t242, A400, H⟩ := H
                        replace H : (logjamlaw19_BarrierPlays.j2 kj5 l0 x5_1 (t239 != t242) t240 t241 t220 t221) = some r := H
                        have A40 := A0_ A400
                        clear A400
                        have H' := A0_ H
                        clear H
                        try go_wp2
                        have n0_ : Aside0 ((((((((w17.setCell ⟨gb225, 0, none⟩ (.int .u64 t220)).setCell ⟨gb225, 1, none⟩ (.int .u64 t221)).setCell ⟨gb226, 0, none⟩ (.int .u64 t222)).setCell ⟨gb226, 1, none⟩ (.bool t223)).setCell ⟨gb226, 2, none⟩ (.int .i64 t224)).setCell ⟨gb218, 0, none⟩ (.int .u64 t220)).setCell ⟨gb218, 1, none⟩ (.int .u64 t221)).heap[gb218]? = some (.cells #[.int .u64 t220, .int .u64 t221] 74 (0, 0))) := ⟨by (with_reducible repeat first|refine bN_ ?_ _|refine bD_ ?_|refine bA_ ?_ _); refine blk_put (cs := #[.int .u64 t220, .int .u64 x219001_1]) ?_ 1 _ rfl; (with_reducible repeat first|refine bN_ ?_ _|refine bD_ ?_|refine bA_ ?_ _); refine blk_put (cs := #[.int .u64 x219000_1, .int .u64 x219001_1]) ?_ 0 _ rfl; (with_reducible repeat first|refine bN_ ?_ _|refine bD_ ?_|refine bA_ ?_ _); refine blk_far ?_ NB218_226.out _; (with_reducible repeat first|refine bN_ ?_ _|refine bD_ ?_|refine bA_ ?_ _); refine blk_far ?_ NB218_226.out _; (with_reducible repeat first|refine bN_ ?_ _|refine bD_ ?_|refine bA_ ?_ _); refine blk_far ?_ NB218_226.out _; (with_reducible repeat first|refine bN_ ?_ _|refine bD_ ?_|refine bA_ ?_ _); refine blk_far ?_ NB218_225.out _; (with_reducible repeat first|refine bN_ ?_ _|refine bD_ ?_|refine bA_ ?_ _); refine blk_far ?_ NB218_225.out _; (with_reducible repeat first|refine bN_ ?_ _|refine bD_ ?_|refine bA_ ?_ _); exact BK218.out⟩
                        have n1_ : Aside0 ((((((((w17.setCell ⟨gb225, 0, none⟩ (.int .u64 t220)).setCell ⟨gb225, 1, none⟩ (.int .u64 t221)).setCell ⟨gb226, 0, none⟩ (.int .u64 t222)).setCell ⟨gb226, 1, none⟩ (.bool t223)).setCell ⟨gb226, 2, none⟩ (.int .i64 t224)).setCell ⟨gb218, 0, none⟩ (.int .u64 t220)).setCell ⟨gb218, 1, none⟩ (.int .u64 t221)).heap[gb225]? = some (.cells #[.int .u64 t220, .int .u64 t221] 74 (0, 0))) := ⟨by (with_reducible repeat first|refine bN_ ?_ _|refine bD_ ?_|refine bA_ ?_ _); refine blk_far ?_ NB225_218.out _; (with_reducible repeat first|refine bN_ ?_ _|refine bD_ ?_|refine bA_ ?_ _); refine blk_far ?_ NB225_218.out _; (with_reducible repeat first|refine bN_ ?_ _|refine bD_ ?_|refine bA_ ?_ _); refine blk_far ?_ NB225_226.out _; (with_reducible repeat first|refine bN_ ?_ _|refine bD_ ?_|refine bA_ ?_ _); refine blk_far ?_ NB225_226.out _; (with_reducible repeat first|refine bN_ ?_ _|refine bD_ ?_|refine bA_ ?_ _); refine blk_far ?_ NB225_226.out _; (with_reducible repeat first|refine bN_ ?_ _|refine bD_ ?_|refine bA_ ?_ _); refine blk_put (cs := #[.int .u64 t220, .int .u64 0]) ?_ 1 _ rfl; (with_reducible repeat first|refine bN_ ?_ _|refine bD_ ?_|refine bA_ ?_ _); refine blk_put (cs := #[.int .u64 0, .int .u64 0]) ?_ 0 _ rfl; (with_reducible repeat first|refine bN_ ?_ _|refine bD_ ?_|refine bA_ ?_ _); exact BK225.out⟩
                        have n2_ : Aside0 ((((((((w17.setCell ⟨gb225, 0, none⟩ (.int .u64 t220)).setCell ⟨gb225, 1, none⟩ (.int .u64 t221)).setCell ⟨gb226, 0, none⟩ (.int .u64 t222)).setCell ⟨gb226, 1, none⟩ (.bool t223)).setCell ⟨gb226, 2, none⟩ (.int .i64 t224)).setCell ⟨gb218, 0, none⟩ (.int .u64 t220)).setCell ⟨gb218, 1, none⟩ (.int .u64 t221)).heap[gb226]? = some (.cells #[.int .u64 t222, .bool t223, .int .i64 t224] 76 (0, 0))) := ⟨by (with_reducible repeat first|refine bN_ ?_ _|refine bD_ ?_|refine bA_ ?_ _); refine blk_far ?_ NB226_218.out _; (with_reducible repeat first|refine bN_ ?_ _|refine bD_ ?_|refine bA_ ?_ _); refine blk_far ?_ NB226_218.out _; (with_reducible repeat first|refine bN_ ?_ _|refine bD_ ?_|refine bA_ ?_ _); refine blk_put (cs := #[.int .u64 t222, .bool t223, .int .i64 0]) ?_ 2 _ rfl; (with_reducible repeat first|refine bN_ ?_ _|refine bD_ ?_|refine bA_ ?_ _); refine blk_put (cs := #[.int .u64 t222, .bool false, .int .i64 0]) ?_ 1 _ rfl; (with_reducible repeat first|refine bN_ ?_ _|refine bD_ ?_|refine bA_ ?_ _); refine blk_put (cs := #[.int .u64 0, .bool false, .int .i64 0]) ?_ 0 _ rfl; (with_reducible repeat first|refine bN_ ?_ _|refine bD_ ?_|refine bA_ ?_ _); refine blk_far ?_ NB226_225.out _; (with_reducible repeat first|refine bN_ ?_ _|refine bD_ ?_|refine bA_ ?_ _); refine blk_far ?_ NB226_225.out _; (with_reducible repeat first|refine bN_ ?_ _|refine bD_ ?_|refine bA_ ?_ _); exact BK226.out⟩
                        have n3_ : Aside0 (IsS66 w (((((((w17.setCell ⟨gb225, 0, none⟩ (.int .u64 t220)).setCell ⟨gb225, 1, none⟩ (.int .u64 t221)).setCell ⟨gb226, 0, none⟩ (.int .u64 t222)).setCell ⟨gb226, 1, none⟩ (.bool t223)).setCell ⟨gb226, 2, none⟩ (.int .i64 t224)).setCell ⟨gb218, 0, none⟩ (.int .u64 t220)).setCell ⟨gb218, 1, none⟩ (.int .u64 t221)) gb217 x218000_1 x218001_1) := ⟨by repeat (first|(with_reducible first|exact HI217.out|apply IsS66.alloc|apply IsS66.drewN|apply IsS66.drew|apply IsS66.set_0|apply IsS66.set_1|refine IsS66.far ?_ NB217_218.out _|refine IsS66.far ?_ NB217_225.out _|refine IsS66.far ?_ NB217_226.out _)|exact HI217.out)⟩
                        have n4_ : Aside0 (Below w.heap.size w (((((((w17.setCell ⟨gb225, 0, none⟩ (.int .u64 t220)).setCell ⟨gb225, 1, none⟩ (.int .u64 t221)).setCell ⟨gb226, 0, none⟩ (.int .u64 t222)).setCell ⟨gb226, 1, none⟩ (.bool t223)).setCell ⟨gb226, 2, none⟩ (.int .i64 t224)).setCell ⟨gb218, 0, none⟩ (.int .u64 t220)).setCell ⟨gb218, 1, none⟩ (.int .u64 t221))) := ⟨by repeat (first|(with_reducible first|exact HB.out|apply ba_|apply pN_|apply b1_|refine bs_ ?_ (IsS66.ge HI217.out)|refine bs_ ?_ GE218.out|refine bs_ ?_ GE225.out|refine bs_ ?_ GE226.out)|exact HB.out)⟩
                        (try clear BK218)
                        (try clear BK225)
                        (try clear BK226)
                        (try clear HI217)
                        (try clear HB)
                        generalize (((((((w17.setCell ⟨gb225, 0, none⟩ (.int .u64 t220)).setCell ⟨gb225, 1, none⟩ (.int .u64 t221)).setCell ⟨gb226, 0, none⟩ (.int .u64 t222)).setCell ⟨gb226, 1, none⟩ (.bool t223)).setCell ⟨gb226, 2, none⟩ (.int .i64 t224)).setCell ⟨gb218, 0, none⟩ (.int .u64 t220)).setCell ⟨gb218, 1, none⟩ (.int .u64 t221)) = w41 at n0_ n1_ n2_ n3_ n4_ ⊢
                        have BK218 := n0_
                        have BK225 := n1_
                        have BK226 := n2_
                        have HI217 := n3_
                        have HB := n4_
                        clear n0_ n1_ n2_ n3_ n4_
                        have n0_ := A0_ (blk_drew BK218.out)
                        have n1_ := A0_ (blk_drew BK225.out)
                        have n2_ := A0_ (blk_drew BK226.out)
                        have n3_ := A0_ (IsS66.drew HI217.out)
                        have n4_ := A0_ (b1_ HB.out)
                        clear BK218
                        clear BK225
                        clear BK226
                        clear HI217
                        clear HB
                        have BK218 := n0_
                        have BK225 := n1_
                        have BK226 := n2_
                        have HI217 := n3_
                        have HB := n4_
                        clear n0_ n1_ n2_ n3_ n4_
                        have p227 : 0 ≤ (x5_1 : Int) := of_decide_eq_true (by first|(with_reducible assumption)|assumption)
                        have q227 : x5_1 < (l0.length : Int) := of_decide_eq_true (by first|(with_reducible assumption)|assumption)
                        obtain ⟨ad227, e227, hx227_0, hx227_1⟩ := at_T80 HR0.out x5_1 p227 q227
                        have hw227_1 := hx227_1
                        have hw227_0 := hx227_0
                        obtain rfl : ad219 = ad227 := (by injection e227)
                        replace hx227_0 := (HB.out.cell (bl_ w _ hx227_0)).trans hx227_0
                        replace hx227_1 := (HB.out.cell (bl_ w _ hx227_1)).trans hx227_1
                        replace p227 := eq_true p227
                        replace q227 := eq_true q227
                        refine start_ (n := 29) (S := fun w' => w'.cell? ⟨gb226, 0, none⟩ = some (.int .u64 t222) ∧ w'.cell? ⟨gb226, 1, none⟩ = some (.bool t223) ∧ w'.cell? ⟨gb226, 2, none⟩ = some (.int .i64 t224) ∧ w'.cell? ⟨gb218, 0, none⟩ = some (.int .u64 t220) ∧ w'.cell? ⟨gb218, 1, none⟩ = some (.int .u64 t221) ∧ w'.cell? (ad219.add ((x5_1).toNat * 2)) = some (.int .i64 ((rd_T80 l0 x5_1).f0)) ∧ w'.cell? ⟨(ad219.add ((x5_1).toNat * 2)).block, (ad219.add ((x5_1).toNat * 2)).off + 1, none⟩ = some (.int .i64 ((rd_T80 l0 x5_1).f1))) (ds := []) #[false, false, false, false, false, false, false, false, false, false, false, false, false, false, false, false, false, false, false, false, false, false, false, false, false, false, false, false, false] (by kernel_rfl) rfl rfl ⟨(blk_cell BK226.out 0).trans rfl, (blk_cell BK226.out 1).trans rfl, (blk_cell BK226.out 2).trans rfl, (blk_cell BK218.out 0).trans rfl, (blk_cell BK218.out 1).trans rfl, ((HB.out.cell (bl_ w _ hw227_0)).trans hw227_0), ((HB.out.cell (bl_ w _ hw227_1)).trans hw227_1)⟩ (fun hHeld => ?_); refine with_tabW logjamlaw19_BarrierPlays.tab7 logjamlaw19_BarrierPlays.bits7 (fun HT_ HW_ => ?_)
                        generalize w41.drew = w42 at BK218 BK225 BK226 HI217 HB hx227_0 hx227_1 hHeld ⊢
                        refine pure_ (i := 0) (N := some 31) (v := ?_) (a' := ?_) #[true, false, false, false, false, false, false, false, false, false, false, false, false, false, false, false, false, false, false, false, false, false, false, false, false, false, false, false, false] rfl rfl (any_of HT_.out (by kernel_rfl)) (fun _ _ _ h => h) (Or.inl ⟨by rfl, ?_⟩) ?_ ?_
                        rotate_left
                        · intro w'
                          go_simp
                          with_reducible rfl
                        rotate_left
                        · simp only [Act.put, sA_, sZ_, sS_, i64_w, i32_w]
                          rfl
                        refine pure_ (i := 1) (N := some 32) (v := ?_) (a' := ?_) #[true, true, false, false, false, false, false, false, false, false, false, false, false, false, false, false, false, false, false, false, false, false, false, false, false, false, false, false, false] rfl rfl (any_of HT_.out (by kernel_rfl)) (fun _ _ _ h => h) (Or.inl ⟨by rfl, ?_⟩) ?_ ?_
                        rotate_left
                        · intro w'
                          go_simp
                          with_reducible rfl
                        rotate_left
                        · simp only [Act.put, sA_, sZ_, sS_, i64_w, i32_w]
                          rfl
                        refine pure_ (i := 2) (N := some 33) (v := ?_) (a' := ?_) #[true, true, true, false, false, false, false, false, false, false, false, false, false, false, false, false, false, false, false, false, false, false, false, false, false, false, false, false, false] rfl rfl (any_of HT_.out (by kernel_rfl)) (fun _ _ _ h => h) (Or.inl ⟨by rfl, ?_⟩) ?_ ?_
                        rotate_left
                        · intro w'
                          go_simp
                          with_reducible rfl
                        rotate_left
                        · simp only [Act.put, sA_, sZ_, sS_, i64_w, i32_w]
                          rfl
                        refine pure_ (i := 3) (N := some 34) (v := ?_) (a' := ?_) #[true, true, true, true, false, false, false, false, false, false, false, false, false, false, false, false, false, false, false, false, false, false, false, false, false, false, false, false, false] rfl rfl (any_of HT_.out (by kernel_rfl)) (fun _ _ _ h => h) (Or.inl ⟨by rfl, ?_⟩) ?_ ?_
                        rotate_left
                        · intro w'
                          go_simp
                          with_reducible rfl
                        rotate_left
                        · simp only [Act.put, sA_, sZ_, sS_, i64_w, i32_w]
                          rfl
                        refine take_ (i := 4) (N := some 35) (v := ?_) (a' := ?_) #[true, true, true, true, true, false, false, false, false, false, false, false, false, false, false, false, false, false, false, false, false, false, false, false, false, false, false, false, false] rfl rfl (take_ofW HT_.out HW_.out (by kernel_rfl)) (fun _ _ _ h => h) (Or.inl ⟨by rfl, ?_⟩) hHeld ?_ ?_
                        rotate_left
                        · rintro w' ⟨s0, s1, s2, s3, s4, s5, s6⟩
                          go_simp
                          with_reducible rfl
                        rotate_left
                        · simp only [Act.put, sA_, sZ_, sS_, i64_w, i32_w]
                          rfl
                        refine take_ (i := 6) (N := some 37) (v := ?_) (a' := ?_) #[true, true, true, true, true, false, true, false, false, false, false, false, false, false, false, false, false, false, false, false, false, false, false, false, false, false, false, false, false] rfl rfl (take_ofW HT_.out HW_.out (by kernel_rfl)) (fun _ _ _ h => h) (Or.inl ⟨by rfl, ?_⟩) hHeld ?_ ?_
                        rotate_left
                        · rintro w' ⟨s0, s1, s2, s3, s4, s5, s6⟩
                          go_simp
                          with_reducible rfl
                        rotate_left
                        · simp only [Act.put, sA_, sZ_, sS_, i64_w, i32_w]
                          rfl
                        refine one_ (i := 5) (N := some 36) #[true, true, true, true, true, true, true, false, false, false, false, false, false, false, false, false, false, false, false, false, false, false, false, false, false, false, false, false, false] rfl rfl (one_of HT_.out (by kernel_rfl)) (by decide) (fun K hK => ?_)
                        refine goes_ Try.func44 (by kernel_rfl) rfl #[.pointer (some ⟨gb217, 0, none⟩), .agg #[.int .i64 ((rd_T80 l0 x5_1).f0), .int .i64 ((rd_T80 l0 x5_1).f1)]] (by rfl) rfl rfl (by first|(simp only [List.map_toArray, List.map_cons, List.map_nil] <;> rfl)|rfl|(simp only [List.length_drop, List.length_take]; rfl)) ?_
                        with_reducible refine (logjamlaw19_do.calls gb217 x218000_1 x218001_1 ((rd_T80 l0 x5_1).f0) ((rd_T80 l0 x5_1).f1) t228 t229 t230 t231 t232 w _ ?side1 ?side2 A30.out).mono ?_
                        (case side1 => repeat (first|(with_reducible first|exact HI217.out|apply IsS66.alloc|apply IsS66.drewN|apply IsS66.drew|apply IsS66.set_0|apply IsS66.set_1|refine IsS66.far ?_ NB217_218.out _|refine IsS66.far ?_ NB217_225.out _|refine IsS66.far ?_ NB217_226.out _)|exact HI217.out))
                        (case side2 => repeat (first|(with_reducible first|exact HB.out|apply ba_|apply pN_|apply b1_|refine bs_ ?_ (IsS66.ge HI217.out)|refine bs_ ?_ GE218.out|refine bs_ ?_ GE225.out|refine bs_ ?_ GE226.out)|exact HB.out))
                        rintro e w43 ⟨rfl, hi, hb, hk⟩
                        refine ⟨_, rfl, ?_⟩
                        have n0_ := A0_ (KeepBut.blk hk (g' := gb218) (o := .cells #[.int .u64 t220, .int .u64 t221] 74 (0, 0)) (by (with_reducible repeat first|refine bN_ ?_ _|refine bD_ ?_|refine bA_ ?_ _); exact BK218.out) NB218_217.out (by simp))
                        have n1_ := A0_ (KeepBut.blk hk (g' := gb225) (o := .cells #[.int .u64 t220, .int .u64 t221] 74 (0, 0)) (by (with_reducible repeat first|refine bN_ ?_ _|refine bD_ ?_|refine bA_ ?_ _); exact BK225.out) NB225_217.out (by simp))
                        have n2_ := A0_ (KeepBut.blk hk (g' := gb226) (o := .cells #[.int .u64 t222, .bool t223, .int .i64 t224] 76 (0, 0)) (by (with_reducible repeat first|refine bN_ ?_ _|refine bD_ ?_|refine bA_ ?_ _); exact BK226.out) NB226_217.out (by simp))
                        have n3_ := A0_ (hb)
                        have n4_ := A0_ (hi)
                        clear BK218
                        clear BK225
                        clear BK226
                        clear HB
                        clear HI217
                        have BK218 := n0_
                        have BK225 := n1_
                        have BK226 := n2_
                        have HB := n3_
                        have HI217 := n4_
                        clear n0_ n1_ n2_ n3_ n4_
                        (try clear hb)
                        (try clear hb2)
                        (try clear hk)
                        (try clear hi)
                        refine hK.out _ _ ⟨(blk_cell BK226.out 0).trans rfl, (blk_cell BK226.out 1).trans rfl, (blk_cell BK226.out 2).trans rfl, (blk_cell BK218.out 0).trans rfl, (blk_cell BK218.out 1).trans rfl, ((HB.out.cell (bl_ w _ hw227_0)).trans hw227_0), ((HB.out.cell (bl_ w _ hw227_1)).trans hw227_1)⟩ (fun hHeld => ?_)
                        clear hK K
                        refine norm_ (a' := ?_) ?_ ?_
                        rotate_left
                        · show Act.put _ (some 36) _ = _
                          simp only [Act.put, sA_, sZ_, sS_, i64_w, i32_w]
                          rfl
                        refine pure_ (i := 7) (N := some 38) (v := ?_) (a' := ?_) #[true, true, true, true, true, true, true, true, false, false, false, false, false, false, false, false, false, false, false, false, false, false, false, false, false, false, false, false, false] rfl rfl (any_of HT_.out (by kernel_rfl)) (fun _ _ _ h => h) (Or.inl ⟨by rfl, ?_⟩) ?_ ?_
                        rotate_left
                        · intro w'
                          go_simp
                          first|(simp only [ifr1_, ifr2_]; done)|(simp only [ifr1_, ifr2_]; with_reducible rfl)
                        rotate_left
                        · simp only [Act.put, sA_, sZ_, sS_, i64_w, i32_w]
                          rfl
                        refine pure_ (i := 8) (N := some 39) (v := ?_) (a' := ?_) #[true, true, true, true, true, true, true, true, true, false, false, false, false, false, false, false, false, false, false, false, false, false, false, false, false, false, false, false, false] rfl rfl (any_of HT_.out (by kernel_rfl)) (fun _ _ _ h => h) (Or.inl ⟨by rfl, ?_⟩) ?_ ?_
                        rotate_left
                        · intro w'
                          go_simp
                          with_reducible rfl
                        rotate_left
                        · simp only [Act.put, sA_, sZ_, sS_, i64_w, i32_w]
                          rfl
                        refine pure_ (i := 9) (N := some 40) (v := ?_) (a' := ?_) #[true, true, true, true, true, true, true, true, true, true, false, false, false, false, false, false, false, false, false, false, false, false, false, false, false, false, false, false, false] rfl rfl (any_of HT_.out (by kernel_rfl)) (fun _ _ _ h => h) (Or.inl ⟨by rfl, ?_⟩) ?_ ?_
                        rotate_left
                        · intro w'
                          go_simp
                          with_reducible rfl
                        rotate_left
                        · simp only [Act.put, sA_, sZ_, sS_, i64_w, i32_w]
                          rfl
                        refine pure_ (i := 11) (N := some 42) (v := ?_) (a' := ?_) #[true, true, true, true, true, true, true, true, true, true, false, true, false, false, false, false, false, false, false, false, false, false, false, false, false, false, false, false, false] rfl rfl (any_of HT_.out (by kernel_rfl)) (fun _ _ _ h => h) (Or.inl ⟨by rfl, ?_⟩) ?_ ?_
                        rotate_left
                        · intro w'
                          go_simp
                          with_reducible rfl
                        rotate_left
                        · simp only [Act.put, sA_, sZ_, sS_, i64_w, i32_w]
                          rfl
                        refine take_ (i := 12) (N := some 43) (v := ?_) (a' := ?_) #[true, true, true, true, true, true, true, true, true, true, false, true, true, false, false, false, false, false, false, false, false, false, false, false, false, false, false, false, false] rfl rfl (take_ofW HT_.out HW_.out (by kernel_rfl)) (fun _ _ _ h => h) (Or.inl ⟨by rfl, ?_⟩) hHeld ?_ ?_
                        rotate_left
                        · rintro w' ⟨s0, s1, s2, s3, s4, s5, s6⟩
                          go_simp
                          with_reducible rfl
                        rotate_left
                        · simp only [Act.put, sA_, sZ_, sS_, i64_w, i32_w]
                          rfl
                        refine one_ (i := 10) (N := some 41) #[true, true, true, true, true, true, true, true, true, true, true, true, true, false, false, false, false, false, false, false, false, false, false, false, false, false, false, false, false] rfl rfl (one_of HT_.out (by kernel_rfl)) (by decide) (fun K hK => ?_)
                        refine goes_ Try.func40 (by kernel_rfl) rfl #[.pointer (some ⟨gb217, 0, none⟩)] (by rfl) rfl rfl (by first|(simp only [List.map_toArray, List.map_cons, List.map_nil] <;> rfl)|rfl|(simp only [List.length_drop, List.length_take]; rfl)) ?_
                        with_reducible refine (barrier_Barrier_Members.calls gb217 t231 t232 t233 t234 t235 w _ ?side1 ?side2 A35.out).mono ?_
                        (case side1 => repeat (first|(with_reducible first|exact HI217.out|apply IsS66.alloc|apply IsS66.drewN|apply IsS66.drew|apply IsS66.set_0|apply IsS66.set_1|refine IsS66.far ?_ NB217_218.out _|refine IsS66.far ?_ NB217_225.out _|refine IsS66.far ?_ NB217_226.out _)|exact HI217.out))
                        (case side2 => repeat (first|(with_reducible first|exact HB.out|apply ba_|apply pN_|apply b1_|refine bs_ ?_ (IsS66.ge HI217.out)|refine bs_ ?_ GE218.out|refine bs_ ?_ GE225.out|refine bs_ ?_ GE226.out)|exact HB.out))
                        rintro e w44 ⟨rfl, hi, hb, hk⟩
                        refine ⟨_, rfl, ?_⟩
                        have n0_ := A0_ (KeepBut.blk hk (g' := gb218) (o := .cells #[.int .u64 t220, .int .u64 t221] 74 (0, 0)) (by (with_reducible repeat first|refine bN_ ?_ _|refine bD_ ?_|refine bA_ ?_ _); exact BK218.out) NB218_217.out (by simp))
                        have n1_ := A0_ (KeepBut.blk hk (g' := gb225) (o := .cells #[.int .u64 t220, .int .u64 t221] 74 (0, 0)) (by (with_reducible repeat first|refine bN_ ?_ _|refine bD_ ?_|refine bA_ ?_ _); exact BK225.out) NB225_217.out (by simp))
                        have n2_ := A0_ (KeepBut.blk hk (g' := gb226) (o := .cells #[.int .u64 t222, .bool t223, .int .i64 t224] 76 (0, 0)) (by (with_reducible repeat first|refine bN_ ?_ _|refine bD_ ?_|refine bA_ ?_ _); exact BK226.out) NB226_217.out (by simp))
                        have n3_ := A0_ (hb)
                        have n4_ := A0_ (hi)
                        clear BK218
                        clear BK225
                        clear BK226
                        clear HB
                        clear HI217
                        have BK218 := n0_
                        have BK225 := n1_
                        have BK226 := n2_
                        have HB := n3_
                        have HI217 := n4_
                        clear n0_ n1_ n2_ n3_ n4_
                        (try clear hb)
                        (try clear hb2)
                        (try clear hk)
                        (try clear hi)
                        refine hK.out _ _ ⟨(blk_cell BK226.out 0).trans rfl, (blk_cell BK226.out 1).trans rfl, (blk_cell BK226.out 2).trans rfl, (blk_cell BK218.out 0).trans rfl, (blk_cell BK218.out 1).trans rfl, ((HB.out.cell (bl_ w _ hw227_0)).trans hw227_0), ((HB.out.cell (bl_ w _ hw227_1)).trans hw227_1)⟩ (fun hHeld => ?_)
                        clear hK K
                        refine norm_ (a' := ?_) ?_ ?_
                        rotate_left
                        · show Act.put _ (some 41) _ = _
                          simp only [Act.put, sA_, sZ_, sS_, i64_w, i32_w]
                          rfl
                        refine pure_ (i := 13) (N := some 44) (v := ?_) (a' := ?_) #[true, true, true, true, true, true, true, true, true, true, true, true, true, true, false, false, false, false, false, false, false, false, false, false, false, false, false, false, false] rfl rfl (any_of HT_.out (by kernel_rfl)) (fun _ _ _ h => h) (Or.inl ⟨by rfl, ?_⟩) ?_ ?_
                        rotate_left
                        · intro w'
                          go_simp
                          with_reducible rfl
                        rotate_left
                        · simp only [Act.put, sA_, sZ_, sS_, i64_w, i32_w]
                          rfl
                        refine pure_ (i := 14) (N := some 45) (v := ?_) (a' := ?_) #[true, true, true, true, true, true, true, true, true, true, true, true, true, true, true, false, false, false, false, false, false, false, false, false, false, false, false, false, false] rfl rfl (any_of HT_.out (by kernel_rfl)) (fun _ _ _ h => h) (Or.inl ⟨by rfl, ?_⟩) ?_ ?_
                        rotate_left
                        · intro w'
                          go_simp
                          with_reducible rfl
                        rotate_left
                        · simp only [Act.put, sA_, sZ_, sS_, i64_w, i32_w]
                          rfl
                        refine pure_ (i := 15) (N := some 46) (v := ?_) (a' := ?_) #[true, true, true, true, true, true, true, true, true, true, true, true, true, true, true, true, false, false, false, false, false, false, false, false, false, false, false, false, false] rfl rfl (any_of HT_.out (by kernel_rfl)) (fun _ _ _ h => h) (Or.inl ⟨by rfl, ?_⟩) ?_ ?_
                        rotate_left
                        · intro w'
                          go_simp
                          with_reducible rfl
                        rotate_left
                        · simp only [Act.put, sA_, sZ_, sS_, i64_w, i32_w]
                          rfl
                        refine pure_ (i := 16) (N := some 47) (v := ?_) (a' := ?_) #[true, true, true, true, true, true, true, true, true, true, true, true, true, true, true, true, true, false, false, false, false, false, false, false, false, false, false, false, false] rfl rfl (any_of HT_.out (by kernel_rfl)) (fun _ _ _ h => h) (Or.inl ⟨by rfl, ?_⟩) ?_ ?_
                        rotate_left
                        · intro w'
                          go_simp
                          with_reducible rfl
                        rotate_left
                        · simp only [Act.put, sA_, sZ_, sS_, i64_w, i32_w]
                          rfl
                        refine pure_ (i := 18) (N := some 49) (v := ?_) (a' := ?_) #[true, true, true, true, true, true, true, true, true, true, true, true, true, true, true, true, true, false, true, false, false, false, false, false, false, false, false, false, false] rfl rfl (any_of HT_.out (by kernel_rfl)) (fun _ _ _ h => h) (Or.inl ⟨by rfl, ?_⟩) ?_ ?_
                        rotate_left
                        · intro w'
                          go_simp
                          with_reducible rfl
                        rotate_left
                        · simp only [Act.put, sA_, sZ_, sS_, i64_w, i32_w]
                          rfl
                        refine take_ (i := 19) (N := some 50) (v := ?_) (a' := ?_) #[true, true, true, true, true, true, true, true, true, true, true, true, true, true, true, true, true, false, true, true, false, false, false, false, false, false, false, false, false] rfl rfl (take_ofW HT_.out HW_.out (by kernel_rfl)) (fun _ _ _ h => h) (Or.inl ⟨by rfl, ?_⟩) hHeld ?_ ?_
                        rotate_left
                        · rintro w' ⟨s0, s1, s2, s3, s4, s5, s6⟩
                          go_simp
                          with_reducible rfl
                        rotate_left
                        · simp only [Act.put, sA_, sZ_, sS_, i64_w, i32_w]
                          rfl
                        refine one_ (i := 17) (N := some 48) #[true, true, true, true, true, true, true, true, true, true, true, true, true, true, true, true, true, true, true, true, false, false, false, false, false, false, false, false, false] rfl rfl (one_of HT_.out (by kernel_rfl)) (by decide) (fun K hK => ?_)
                        refine goes_ Try.func41 (by kernel_rfl) rfl #[.pointer (some ⟨gb217, 0, none⟩)] (by rfl) rfl rfl (by first|(simp only [List.map_toArray, List.map_cons, List.map_nil] <;> rfl)|rfl|(simp only [List.length_drop, List.length_take]; rfl)) ?_
                        with_reducible refine (barrier_Barrier_Arrived.calls gb217 t234 t235 t236 t237 t238 w _ ?side1 ?side2 A37.out).mono ?_
                        (case side1 => repeat (first|(with_reducible first|exact HI217.out|apply IsS66.alloc|apply IsS66.drewN|apply IsS66.drew|apply IsS66.set_0|apply IsS66.set_1|refine IsS66.far ?_ NB217_218.out _|refine IsS66.far ?_ NB217_225.out _|refine IsS66.far ?_ NB217_226.out _)|exact HI217.out))
                        (case side2 => repeat (first|(with_reducible first|exact HB.out|apply ba_|apply pN_|apply b1_|refine bs_ ?_ (IsS66.ge HI217.out)|refine bs_ ?_ GE218.out|refine bs_ ?_ GE225.out|refine bs_ ?_ GE226.out)|exact HB.out))
                        rintro e w45 ⟨rfl, hi, hb, hk⟩
                        refine ⟨_, rfl, ?_⟩
                        have n0_ := A0_ (KeepBut.blk hk (g' := gb218) (o := .cells #[.int .u64 t220, .int .u64 t221] 74 (0, 0)) (by (with_reducible repeat first|refine bN_ ?_ _|refine bD_ ?_|refine bA_ ?_ _); exact BK218.out) NB218_217.out (by simp))
                        have n1_ := A0_ (KeepBut.blk hk (g' := gb225) (o := .cells #[.int .u64 t220, .int .u64 t221] 74 (0, 0)) (by (with_reducible repeat first|refine bN_ ?_ _|refine bD_ ?_|refine bA_ ?_ _); exact BK225.out) NB225_217.out (by simp))
                        have n2_ := A0_ (KeepBut.blk hk (g' := gb226) (o := .cells #[.int .u64 t222, .bool t223, .int .i64 t224] 76 (0, 0)) (by (with_reducible repeat first|refine bN_ ?_ _|refine bD_ ?_|refine bA_ ?_ _); exact BK226.out) NB226_217.out (by simp))
                        have n3_ := A0_ (hb)
                        have n4_ := A0_ (hi)
                        clear BK218
                        clear BK225
                        clear BK226
                        clear HB
                        clear HI217
                        have BK218 := n0_
                        have BK225 := n1_
                        have BK226 := n2_
                        have HB := n3_
                        have HI217 := n4_
                        clear n0_ n1_ n2_ n3_ n4_
                        (try clear hb)
                        (try clear hb2)
                        (try clear hk)
                        (try clear hi)
                        refine hK.out _ _ ⟨(blk_cell BK226.out 0).trans rfl, (blk_cell BK226.out 1).trans rfl, (blk_cell BK226.out 2).trans rfl, (blk_cell BK218.out 0).trans rfl, (blk_cell BK218.out 1).trans rfl, ((HB.out.cell (bl_ w _ hw227_0)).trans hw227_0), ((HB.out.cell (bl_ w _ hw227_1)).trans hw227_1)⟩ (fun hHeld => ?_)
                        clear hK K
                        refine norm_ (a' := ?_) ?_ ?_
                        rotate_left
                        · show Act.put _ (some 48) _ = _
                          simp only [Act.put, sA_, sZ_, sS_, i64_w, i32_w]
                          rfl
                        refine pure_ (i := 20) (N := some 51) (v := ?_) (a' := ?_) #[true, true, true, true, true, true, true, true, true, true, true, true, true, true, true, true, true, true, true, true, true, false, false, false, false, false, false, false, false] rfl rfl (any_of HT_.out (by kernel_rfl)) (fun _ _ _ h => h) (Or.inl ⟨by rfl, ?_⟩) ?_ ?_
                        rotate_left
                        · intro w'
                          go_simp
                          with_reducible rfl
                        rotate_left
                        · simp only [Act.put, sA_, sZ_, sS_, i64_w, i32_w]
                          rfl
                        refine pure_ (i := 21) (N := some 52) (v := ?_) (a' := ?_) #[true, true, true, true, true, true, true, true, true, true, true, true, true, true, true, true, true, true, true, true, true, true, false, false, false, false, false, false, false] rfl rfl (any_of HT_.out (by kernel_rfl)) (fun _ _ _ h => h) (Or.inl ⟨by rfl, ?_⟩) ?_ ?_
                        rotate_left
                        · intro w'
                          go_simp
                          with_reducible rfl
                        rotate_left
                        · simp only [Act.put, sA_, sZ_, sS_, i64_w, i32_w]
                          rfl
                        refine pure_ (i := 22) (N := some 53) (v := ?_) (a' := ?_) #[true, true, true, true, true, true, true, true, true, true, true, true, true, true, true, true, true, true, true, true, true, true, true, false, false, false, false, false, false] rfl rfl (any_of HT_.out (by kernel_rfl)) (fun _ _ _ h => h) (Or.inl ⟨by rfl, ?_⟩) ?_ ?_
                        rotate_left
                        · intro w'
                          go_simp
                          with_reducible rfl
                        rotate_left
                        · simp only [Act.put, sA_, sZ_, sS_, i64_w, i32_w]
                          rfl
                        refine pure_ (i := 23) (N := some 54) (v := ?_) (a' := ?_) #[true, true, true, true, true, true, true, true, true, true, true, true, true, true, true, true, true, true, true, true, true, true, true, true, false, false, false, false, false] rfl rfl (any_of HT_.out (by kernel_rfl)) (fun _ _ _ h => h) (Or.inl ⟨by rfl, ?_⟩) ?_ ?_
                        rotate_left
                        · intro w'
                          go_simp
                          with_reducible rfl
                        rotate_left
                        · simp only [Act.put, sA_, sZ_, sS_, i64_w, i32_w]
                          rfl
                        refine take_ (i := 25) (N := some 56) (v := ?_) (a' := ?_) #[true, true, true, true, true, true, true, true, true, true, true, true, true, true, true, true, true, true, true, true, true, true, true, true, false, true, false, false, false] rfl rfl (take_ofW HT_.out HW_.out (by kernel_rfl)) (fun _ _ _ h => h) (Or.inl ⟨by rfl, ?_⟩) hHeld ?_ ?_
                        rotate_left
                        · rintro w' ⟨s0, s1, s2, s3, s4, s5, s6⟩
                          go_simp
                          with_reducible rfl
                        rotate_left
                        · simp only [Act.put, sA_, sZ_, sS_, i64_w, i32_w]
                          rfl
                        refine one_ (i := 24) (N := some 55) #[true, true, true, true, true, true, true, true, true, true, true, true, true, true, true, true, true, true, true, true, true, true, true, true, true, true, false, false, false] rfl rfl (one_of HT_.out (by kernel_rfl)) (by decide) (fun K hK => ?_)
                        refine goes_ Try.func45 (by kernel_rfl) rfl #[.pointer (some ⟨gb217, 0, none⟩)] (by rfl) rfl rfl (by first|(simp only [List.map_toArray, List.map_cons, List.map_nil] <;> rfl)|rfl|(simp only [List.length_drop, List.length_take]; rfl)) ?_
                        with_reducible refine (barrier_Barrier_Missing.calls gb217 t237 t238 t239 t240 t241 w _ ?side1 ?side2 A39.out).mono ?_
                        (case side1 => repeat (first|(with_reducible first|exact HI217.out|apply IsS66.alloc|apply IsS66.drewN|apply IsS66.drew|apply IsS66.set_0|apply IsS66.set_1|refine IsS66.far ?_ NB217_218.out _|refine IsS66.far ?_ NB217_225.out _|refine IsS66.far ?_ NB217_226.out _)|exact HI217.out))
                        (case side2 => repeat (first|(with_reducible first|exact HB.out|apply ba_|apply pN_|apply b1_|refine bs_ ?_ (IsS66.ge HI217.out)|refine bs_ ?_ GE218.out|refine bs_ ?_ GE225.out|refine bs_ ?_ GE226.out)|exact HB.out))
                        rintro e w46 ⟨rfl, hi, hb, hk⟩
                        refine ⟨_, rfl, ?_⟩
                        have n0_ := A0_ (KeepBut.blk hk (g' := gb218) (o := .cells #[.int .u64 t220, .int .u64 t221] 74 (0, 0)) (by (with_reducible repeat first|refine bN_ ?_ _|refine bD_ ?_|refine bA_ ?_ _); exact BK218.out) NB218_217.out (by simp))
                        have n1_ := A0_ (KeepBut.blk hk (g' := gb225) (o := .cells #[.int .u64 t220, .int .u64 t221] 74 (0, 0)) (by (with_reducible repeat first|refine bN_ ?_ _|refine bD_ ?_|refine bA_ ?_ _); exact BK225.out) NB225_217.out (by simp))
                        have n2_ := A0_ (KeepBut.blk hk (g' := gb226) (o := .cells #[.int .u64 t222, .bool t223, .int .i64 t224] 76 (0, 0)) (by (with_reducible repeat first|refine bN_ ?_ _|refine bD_ ?_|refine bA_ ?_ _); exact BK226.out) NB226_217.out (by simp))
                        have n3_ := A0_ (hb)
                        have n4_ := A0_ (hi)
                        clear BK218
                        clear BK225
                        clear BK226
                        clear HB
                        clear HI217
                        have BK218 := n0_
                        have BK225 := n1_
                        have BK226 := n2_
                        have HB := n3_
                        have HI217 := n4_
                        clear n0_ n1_ n2_ n3_ n4_
                        (try clear hb)
                        (try clear hb2)
                        (try clear hk)
                        (try clear hi)
                        refine hK.out _ _ ⟨(blk_cell BK226.out 0).trans rfl, (blk_cell BK226.out 1).trans rfl, (blk_cell BK226.out 2).trans rfl, (blk_cell BK218.out 0).trans rfl, (blk_cell BK218.out 1).trans rfl, ((HB.out.cell (bl_ w _ hw227_0)).trans hw227_0), ((HB.out.cell (bl_ w _ hw227_1)).trans hw227_1)⟩ (fun hHeld => ?_)
                        clear hK K
                        refine norm_ (a' := ?_) ?_ ?_
                        rotate_left
                        · show Act.put _ (some 55) _ = _
                          simp only [Act.put, sA_, sZ_, sS_, i64_w, i32_w]
                          rfl
                        refine one_ (i := 26) (N := some 57) #[true, true, true, true, true, true, true, true, true, true, true, true, true, true, true, true, true, true, true, true, true, true, true, true, true, true, true, false, false] rfl rfl (one_of HT_.out (by kernel_rfl)) (by decide) (fun K hK => ?_)
                        refine goes_ Try.func46 (by kernel_rfl) rfl #[.agg #[.int .u64 t220, .int .u64 t221]] (by rfl) rfl rfl (by first|(simp only [List.map_toArray, List.map_cons, List.map_nil] <;> rfl)|rfl|(simp only [List.length_drop, List.length_take]; rfl)) ?_
                        with_reducible refine (logjamref19_Missing.calls kj5 t220 t221 t242 _ A40.out).mono ?_
                        rintro e w47 ⟨rfl, hb⟩
                        refine ⟨_, rfl, ?_⟩
                        have n0_ := A0_ (blk_below (g := gb218) (o := .cells #[.int .u64 t220, .int .u64 t221] 74 (0, 0)) (by (with_reducible repeat first|refine bN_ ?_ _|refine bD_ ?_|refine bA_ ?_ _); exact BK218.out) hb)
                        have n1_ := A0_ (IsS66.below (by repeat (first|(with_reducible first|exact HI217.out|apply IsS66.alloc|apply IsS66.drewN|apply IsS66.drew|apply IsS66.set_0|apply IsS66.set_1|refine IsS66.far ?_ NB217_218.out _|refine IsS66.far ?_ NB217_225.out _|refine IsS66.far ?_ NB217_226.out _)|exact HI217.out)) hb)
                        have n2_ := A0_ (blk_below (g := gb225) (o := .cells #[.int .u64 t220, .int .u64 t221] 74 (0, 0)) (by (with_reducible repeat first|refine bN_ ?_ _|refine bD_ ?_|refine bA_ ?_ _); exact BK225.out) hb)
                        have n3_ := A0_ (blk_below (g := gb226) (o := .cells #[.int .u64 t222, .bool t223, .int .i64 t224] 76 (0, 0)) (by (with_reducible repeat first|refine bN_ ?_ _|refine bD_ ?_|refine bA_ ?_ _); exact BK226.out) hb)
                        have n4_ := A0_ (below_step (by repeat (first|(with_reducible first|exact HB.out|apply ba_|apply pN_|apply b1_|refine bs_ ?_ (IsS66.ge HI217.out)|refine bs_ ?_ GE218.out|refine bs_ ?_ GE225.out|refine bs_ ?_ GE226.out)|exact HB.out)) hb)
                        clear BK218
                        clear HI217
                        clear BK225
                        clear BK226
                        clear HB
                        have BK218 := n0_
                        have HI217 := n1_
                        have BK225 := n2_
                        have BK226 := n3_
                        have HB := n4_
                        clear n0_ n1_ n2_ n3_ n4_
                        (try clear hb)
                        (try clear hb2)
                        (try clear hk)
                        (try clear hi)
                        refine hK.out _ _ ⟨(blk_cell BK226.out 0).trans rfl, (blk_cell BK226.out 1).trans rfl, (blk_cell BK226.out 2).trans rfl, (blk_cell BK218.out 0).trans rfl, (blk_cell BK218.out 1).trans rfl, ((HB.out.cell (bl_ w _ hw227_0)).trans hw227_0), ((HB.out.cell (bl_ w _ hw227_1)).trans hw227_1)⟩ (fun hHeld => ?_)
                        clear hK K
                        refine norm_ (a' := ?_) ?_ ?_
                        rotate_left
                        · show Act.put _ (some 57) _ = _
                          simp only [Act.put, sA_, sZ_, sS_, i64_w, i32_w]
                          rfl
                        refine pure_ (i := 27) (N := some 58) (v := ?_) (a' := ?_) #[true, true, true, true, true, true, true, true, true, true, true, true, true, true, true, true, true, true, true, true, true, true, true, true, true, true, true, true, false] rfl rfl (any_of HT_.out (by kernel_rfl)) (fun _ _ _ h => h) (Or.inl ⟨by rfl, ?_⟩) ?_ ?_
                        rotate_left
                        · intro w'
                          go_simp
                          with_reducible rfl
                        rotate_left
                        · simp only [Act.put, sA_, sZ_, sS_, i64_w, i32_w]
                          rfl
                        refine pure_ (i := 28) (N := some 59) (v := ?_) (a' := ?_) #[true, true, true, true, true, true, true, true, true, true, true, true, true, true, true, true, true, true, true, true, true, true, true, true, true, true, true, true, true] rfl rfl (any_of HT_.out (by kernel_rfl)) (fun _ _ _ h => h) (Or.inl ⟨by rfl, ?_⟩) ?_ ?_
                        rotate_left
                        · intro w'
                          go_simp
                          with_reducible rfl
                        rotate_left
                        · simp only [Act.put, sA_, sZ_, sS_, i64_w, i32_w]
                          rfl
                        refine done_ (done_of HT_.out (by kernel_rfl)) ?_
                        try go_wp2
                        go_meet
                        case rel => exact ⟨_, ((t239 != t242)), (t240), (t241), (by first|rfl|(simp; done)|(simp [*]; done)), H', ⟨by have := HK1.out; have := HJ5.out; first|omega|exact Nat.le_refl _⟩, ⟨by (with_reducible repeat first|refine bN_ ?_ _|refine bD_ ?_|refine bA_ ?_ _); exact BK218.out⟩, ⟨by (with_reducible repeat first|refine bN_ ?_ _|refine bD_ ?_|refine bA_ ?_ _); exact BK225.out⟩, ⟨by (with_reducible repeat first|refine bN_ ?_ _|refine bD_ ?_|refine bA_ ?_ _); exact BK226.out⟩, ⟨by repeat (first|(with_reducible first|exact HI217.out|apply IsS66.alloc|apply IsS66.drewN|apply IsS66.drew|apply IsS66.set_0|apply IsS66.set_1|refine IsS66.far ?_ NB217_218.out _|refine IsS66.far ?_ NB217_225.out _|refine IsS66.far ?_ NB217_226.out _)|exact HI217.out)⟩, ⟨by repeat (first|(with_reducible first|exact HB.out|apply ba_|apply pN_|apply b1_|refine bs_ ?_ (IsS66.ge HI217.out)|refine bs_ ?_ GE218.out|refine bs_ ?_ GE225.out|refine bs_ ?_ GE226.out)|exact HB.out)⟩⟩
                      · rw [if_neg c38] at H
                        have c38b0 : (t236 == t221) = false := beq_eq_false_iff_ne.mpr c38
                        have c38b1 : (t236 != t221) = true := bne_iff_ne.mpr c38
                        have H' := A0_ H
                        clear H
                        try go_wp2
                        have n0_ : Aside0 ((((((((w17.setCell ⟨gb225, 0, none⟩ (.int .u64 t220)).setCell ⟨gb225, 1, none⟩ (.int .u64 t221)).setCell ⟨gb226, 0, none⟩ (.int .u64 t222)).setCell ⟨gb226, 1, none⟩ (.bool t223)).setCell ⟨gb226, 2, none⟩ (.int .i64 t224)).setCell ⟨gb218, 0, none⟩ (.int .u64 t220)).setCell ⟨gb218, 1, none⟩ (.int .u64 t221)).heap[gb218]? = some (.cells #[.int .u64 t220, .int .u64 t221] 74 (0, 0))) := ⟨by (with_reducible repeat first|refine bN_ ?_ _|refine bD_ ?_|refine bA_ ?_ _); refine blk_put (cs := #[.int .u64 t220, .int .u64 x219001_1]) ?_ 1 _ rfl; (with_reducible repeat first|refine bN_ ?_ _|refine bD_ ?_|refine bA_ ?_ _); refine blk_put (cs := #[.int .u64 x219000_1, .int .u64 x219001_1]) ?_ 0 _ rfl; (with_reducible repeat first|refine bN_ ?_ _|refine bD_ ?_|refine bA_ ?_ _); refine blk_far ?_ NB218_226.out _; (with_reducible repeat first|refine bN_ ?_ _|refine bD_ ?_|refine bA_ ?_ _); refine blk_far ?_ NB218_226.out _; (with_reducible repeat first|refine bN_ ?_ _|refine bD_ ?_|refine bA_ ?_ _); refine blk_far ?_ NB218_226.out _; (with_reducible repeat first|refine bN_ ?_ _|refine bD_ ?_|refine bA_ ?_ _); refine blk_far ?_ NB218_225.out _; (with_reducible repeat first|refine bN_ ?_ _|refine bD_ ?_|refine bA_ ?_ _); refine blk_far ?_ NB218_225.out _; (with_reducible repeat first|refine bN_ ?_ _|refine bD_ ?_|refine bA_ ?_ _); exact BK218.out⟩
                        have n1_ : Aside0 ((((((((w17.setCell ⟨gb225, 0, none⟩ (.int .u64 t220)).setCell ⟨gb225, 1, none⟩ (.int .u64 t221)).setCell ⟨gb226, 0, none⟩ (.int .u64 t222)).setCell ⟨gb226, 1, none⟩ (.bool t223)).setCell ⟨gb226, 2, none⟩ (.int .i64 t224)).setCell ⟨gb218, 0, none⟩ (.int .u64 t220)).setCell ⟨gb218, 1, none⟩ (.int .u64 t221)).heap[gb225]? = some (.cells #[.int .u64 t220, .int .u64 t221] 74 (0, 0))) := ⟨by (with_reducible repeat first|refine bN_ ?_ _|refine bD_ ?_|refine bA_ ?_ _); refine blk_far ?_ NB225_218.out _; (with_reducible repeat first|refine bN_ ?_ _|refine bD_ ?_|refine bA_ ?_ _); refine blk_far ?_ NB225_218.out _; (with_reducible repeat first|refine bN_ ?_ _|refine bD_ ?_|refine bA_ ?_ _); refine blk_far ?_ NB225_226.out _; (with_reducible repeat first|refine bN_ ?_ _|refine bD_ ?_|refine bA_ ?_ _); refine blk_far ?_ NB225_226.out _; (with_reducible repeat first|refine bN_ ?_ _|refine bD_ ?_|refine bA_ ?_ _); refine blk_far ?_ NB225_226.out _; (with_reducible repeat first|refine bN_ ?_ _|refine bD_ ?_|refine bA_ ?_ _); refine blk_put (cs := #[.int .u64 t220, .int .u64 0]) ?_ 1 _ rfl; (with_reducible repeat first|refine bN_ ?_ _|refine bD_ ?_|refine bA_ ?_ _); refine blk_put (cs := #[.int .u64 0, .int .u64 0]) ?_ 0 _ rfl; (with_reducible repeat first|refine bN_ ?_ _|refine bD_ ?_|refine bA_ ?_ _); exact BK225.out⟩
                        have n2_ : Aside0 ((((((((w17.setCell ⟨gb225, 0, none⟩ (.int .u64 t220)).setCell ⟨gb225, 1, none⟩ (.int .u64 t221)).setCell ⟨gb226, 0, none⟩ (.int .u64 t222)).setCell ⟨gb226, 1, none⟩ (.bool t223)).setCell ⟨gb226, 2, none⟩ (.int .i64 t224)).setCell ⟨gb218, 0, none⟩ (.int .u64 t220)).setCell ⟨gb218, 1, none⟩ (.int .u64 t221)).heap[gb226]? = some (.cells #[.int .u64 t222, .bool t223, .int .i64 t224] 76 (0, 0))) := ⟨by (with_reducible repeat first|refine bN_ ?_ _|refine bD_ ?_|refine bA_ ?_ _); refine blk_far ?_ NB226_218.out _; (with_reducible repeat first|refine bN_ ?_ _|refine bD_ ?_|refine bA_ ?_ _); refine blk_far ?_ NB226_218.out _; (with_reducible repeat first|refine bN_ ?_ _|refine bD_ ?_|refine bA_ ?_ _); refine blk_put (cs := #[.int .u64 t222, .bool t223, .int .i64 0]) ?_ 2 _ rfl; (with_reducible repeat first|refine bN_ ?_ _|refine bD_ ?_|refine bA_ ?_ _); refine blk_put (cs := #[.int .u64 t222, .bool false, .int .i64 0]) ?_ 1 _ rfl; (with_reducible repeat first|refine bN_ ?_ _|refine bD_ ?_|refine bA_ ?_ _); refine blk_put (cs := #[.int .u64 0, .bool false, .int .i64 0]) ?_ 0 _ rfl; (with_reducible repeat first|refine bN_ ?_ _|refine bD_ ?_|refine bA_ ?_ _); refine blk_far ?_ NB226_225.out _; (with_reducible repeat first|refine bN_ ?_ _|refine bD_ ?_|refine bA_ ?_ _); refine blk_far ?_ NB226_225.out _; (with_reducible repeat first|refine bN_ ?_ _|refine bD_ ?_|refine bA_ ?_ _); exact BK226.out⟩
                        have n3_ : Aside0 (IsS66 w (((((((w17.setCell ⟨gb225, 0, none⟩ (.int .u64 t220)).setCell ⟨gb225, 1, none⟩ (.int .u64 t221)).setCell ⟨gb226, 0, none⟩ (.int .u64 t222)).setCell ⟨gb226, 1, none⟩ (.bool t223)).setCell ⟨gb226, 2, none⟩ (.int .i64 t224)).setCell ⟨gb218, 0, none⟩ (.int .u64 t220)).setCell ⟨gb218, 1, none⟩ (.int .u64 t221)) gb217 x218000_1 x218001_1) := ⟨by repeat (first|(with_reducible first|exact HI217.out|apply IsS66.alloc|apply IsS66.drewN|apply IsS66.drew|apply IsS66.set_0|apply IsS66.set_1|refine IsS66.far ?_ NB217_218.out _|refine IsS66.far ?_ NB217_225.out _|refine IsS66.far ?_ NB217_226.out _)|exact HI217.out)⟩
                        have n4_ : Aside0 (Below w.heap.size w (((((((w17.setCell ⟨gb225, 0, none⟩ (.int .u64 t220)).setCell ⟨gb225, 1, none⟩ (.int .u64 t221)).setCell ⟨gb226, 0, none⟩ (.int .u64 t222)).setCell ⟨gb226, 1, none⟩ (.bool t223)).setCell ⟨gb226, 2, none⟩ (.int .i64 t224)).setCell ⟨gb218, 0, none⟩ (.int .u64 t220)).setCell ⟨gb218, 1, none⟩ (.int .u64 t221))) := ⟨by repeat (first|(with_reducible first|exact HB.out|apply ba_|apply pN_|apply b1_|refine bs_ ?_ (IsS66.ge HI217.out)|refine bs_ ?_ GE218.out|refine bs_ ?_ GE225.out|refine bs_ ?_ GE226.out)|exact HB.out)⟩
                        (try clear BK218)
                        (try clear BK225)
                        (try clear BK226)
                        (try clear HI217)
                        (try clear HB)
                        generalize (((((((w17.setCell ⟨gb225, 0, none⟩ (.int .u64 t220)).setCell ⟨gb225, 1, none⟩ (.int .u64 t221)).setCell ⟨gb226, 0, none⟩ (.int .u64 t222)).setCell ⟨gb226, 1, none⟩ (.bool t223)).setCell ⟨gb226, 2, none⟩ (.int .i64 t224)).setCell ⟨gb218, 0, none⟩ (.int .u64 t220)).setCell ⟨gb218, 1, none⟩ (.int .u64 t221)) = w48 at n0_ n1_ n2_ n3_ n4_ ⊢
                        have BK218 := n0_
                        have BK225 := n1_
                        have BK226 := n2_
                        have HI217 := n3_
                        have HB := n4_
                        clear n0_ n1_ n2_ n3_ n4_
                        have n0_ := A0_ (blk_drew BK218.out)
                        have n1_ := A0_ (blk_drew BK225.out)
                        have n2_ := A0_ (blk_drew BK226.out)
                        have n3_ := A0_ (IsS66.drew HI217.out)
                        have n4_ := A0_ (b1_ HB.out)
                        clear BK218
                        clear BK225
                        clear BK226
                        clear HI217
                        clear HB
                        have BK218 := n0_
                        have BK225 := n1_
                        have BK226 := n2_
                        have HI217 := n3_
                        have HB := n4_
                        clear n0_ n1_ n2_ n3_ n4_
                        have p227 : 0 ≤ (x5_1 : Int) := of_decide_eq_true (by first|(with_reducible assumption)|assumption)
                        have q227 : x5_1 < (l0.length : Int) := of_decide_eq_true (by first|(with_reducible assumption)|assumption)
                        obtain ⟨ad227, e227, hx227_0, hx227_1⟩ := at_T80 HR0.out x5_1 p227 q227
                        have hw227_1 := hx227_1
                        have hw227_0 := hx227_0
                        obtain rfl : ad219 = ad227 := (by injection e227)
                        replace hx227_0 := (HB.out.cell (bl_ w _ hx227_0)).trans hx227_0
                        replace hx227_1 := (HB.out.cell (bl_ w _ hx227_1)).trans hx227_1
                        replace p227 := eq_true p227
                        replace q227 := eq_true q227
                        refine start_ (n := 29) (S := fun w' => w'.cell? ⟨gb226, 0, none⟩ = some (.int .u64 t222) ∧ w'.cell? ⟨gb226, 1, none⟩ = some (.bool t223) ∧ w'.cell? ⟨gb226, 2, none⟩ = some (.int .i64 t224) ∧ w'.cell? ⟨gb218, 0, none⟩ = some (.int .u64 t220) ∧ w'.cell? ⟨gb218, 1, none⟩ = some (.int .u64 t221) ∧ w'.cell? (ad219.add ((x5_1).toNat * 2)) = some (.int .i64 ((rd_T80 l0 x5_1).f0)) ∧ w'.cell? ⟨(ad219.add ((x5_1).toNat * 2)).block, (ad219.add ((x5_1).toNat * 2)).off + 1, none⟩ = some (.int .i64 ((rd_T80 l0 x5_1).f1))) (ds := []) #[false, false, false, false, false, false, false, false, false, false, false, false, false, false, false, false, false, false, false, false, false, false, false, false, false, false, false, false, false] (by kernel_rfl) rfl rfl ⟨(blk_cell BK226.out 0).trans rfl, (blk_cell BK226.out 1).trans rfl, (blk_cell BK226.out 2).trans rfl, (blk_cell BK218.out 0).trans rfl, (blk_cell BK218.out 1).trans rfl, ((HB.out.cell (bl_ w _ hw227_0)).trans hw227_0), ((HB.out.cell (bl_ w _ hw227_1)).trans hw227_1)⟩ (fun hHeld => ?_); refine with_tabW logjamlaw19_BarrierPlays.tab7 logjamlaw19_BarrierPlays.bits7 (fun HT_ HW_ => ?_)
                        generalize w48.drew = w49 at BK218 BK225 BK226 HI217 HB hx227_0 hx227_1 hHeld ⊢
                        refine pure_ (i := 0) (N := some 31) (v := ?_) (a' := ?_) #[true, false, false, false, false, false, false, false, false, false, false, false, false, false, false, false, false, false, false, false, false, false, false, false, false, false, false, false, false] rfl rfl (any_of HT_.out (by kernel_rfl)) (fun _ _ _ h => h) (Or.inl ⟨by rfl, ?_⟩) ?_ ?_
                        rotate_left
                        · intro w'
                          go_simp
                          with_reducible rfl
                        rotate_left
                        · simp only [Act.put, sA_, sZ_, sS_, i64_w, i32_w]
                          rfl
                        refine pure_ (i := 1) (N := some 32) (v := ?_) (a' := ?_) #[true, true, false, false, false, false, false, false, false, false, false, false, false, false, false, false, false, false, false, false, false, false, false, false, false, false, false, false, false] rfl rfl (any_of HT_.out (by kernel_rfl)) (fun _ _ _ h => h) (Or.inl ⟨by rfl, ?_⟩) ?_ ?_
                        rotate_left
                        · intro w'
                          go_simp
                          with_reducible rfl
                        rotate_left
                        · simp only [Act.put, sA_, sZ_, sS_, i64_w, i32_w]
                          rfl
                        refine pure_ (i := 2) (N := some 33) (v := ?_) (a' := ?_) #[true, true, true, false, false, false, false, false, false, false, false, false, false, false, false, false, false, false, false, false, false, false, false, false, false, false, false, false, false] rfl rfl (any_of HT_.out (by kernel_rfl)) (fun _ _ _ h => h) (Or.inl ⟨by rfl, ?_⟩) ?_ ?_
                        rotate_left
                        · intro w'
                          go_simp
                          with_reducible rfl
                        rotate_left
                        · simp only [Act.put, sA_, sZ_, sS_, i64_w, i32_w]
                          rfl
                        refine pure_ (i := 3) (N := some 34) (v := ?_) (a' := ?_) #[true, true, true, true, false, false, false, false, false, false, false, false, false, false, false, false, false, false, false, false, false, false, false, false, false, false, false, false, false] rfl rfl (any_of HT_.out (by kernel_rfl)) (fun _ _ _ h => h) (Or.inl ⟨by rfl, ?_⟩) ?_ ?_
                        rotate_left
                        · intro w'
                          go_simp
                          with_reducible rfl
                        rotate_left
                        · simp only [Act.put, sA_, sZ_, sS_, i64_w, i32_w]
                          rfl
                        refine take_ (i := 4) (N := some 35) (v := ?_) (a' := ?_) #[true, true, true, true, true, false, false, false, false, false, false, false, false, false, false, false, false, false, false, false, false, false, false, false, false, false, false, false, false] rfl rfl (take_ofW HT_.out HW_.out (by kernel_rfl)) (fun _ _ _ h => h) (Or.inl ⟨by rfl, ?_⟩) hHeld ?_ ?_
                        rotate_left
                        · rintro w' ⟨s0, s1, s2, s3, s4, s5, s6⟩
                          go_simp
                          with_reducible rfl
                        rotate_left
                        · simp only [Act.put, sA_, sZ_, sS_, i64_w, i32_w]
                          rfl
                        refine take_ (i := 6) (N := some 37) (v := ?_) (a' := ?_) #[true, true, true, true, true, false, true, false, false, false, false, false, false, false, false, false, false, false, false, false, false, false, false, false, false, false, false, false, false] rfl rfl (take_ofW HT_.out HW_.out (by kernel_rfl)) (fun _ _ _ h => h) (Or.inl ⟨by rfl, ?_⟩) hHeld ?_ ?_
                        rotate_left
                        · rintro w' ⟨s0, s1, s2, s3, s4, s5, s6⟩
                          go_simp
                          with_reducible rfl
                        rotate_left
                        · simp only [Act.put, sA_, sZ_, sS_, i64_w, i32_w]
                          rfl
                        refine one_ (i := 5) (N := some 36) #[true, true, true, true, true, true, true, false, false, false, false, false, false, false, false, false, false, false, false, false, false, false, false, false, false, false, false, false, false] rfl rfl (one_of HT_.out (by kernel_rfl)) (by decide) (fun K hK => ?_)
                        refine goes_ Try.func44 (by kernel_rfl) rfl #[.pointer (some ⟨gb217, 0, none⟩), .agg #[.int .i64 ((rd_T80 l0 x5_1).f0), .int .i64 ((rd_T80 l0 x5_1).f1)]] (by rfl) rfl rfl (by first|(simp only [List.map_toArray, List.map_cons, List.map_nil] <;> rfl)|rfl|(simp only [List.length_drop, List.length_take]; rfl)) ?_
                        with_reducible refine (logjamlaw19_do.calls gb217 x218000_1 x218001_1 ((rd_T80 l0 x5_1).f0) ((rd_T80 l0 x5_1).f1) t228 t229 t230 t231 t232 w _ ?side1 ?side2 A30.out).mono ?_
                        (case side1 => repeat (first|(with_reducible first|exact HI217.out|apply IsS66.alloc|apply IsS66.drewN|apply IsS66.drew|apply IsS66.set_0|apply IsS66.set_1|refine IsS66.far ?_ NB217_218.out _|refine IsS66.far ?_ NB217_225.out _|refine IsS66.far ?_ NB217_226.out _)|exact HI217.out))
                        (case side2 => repeat (first|(with_reducible first|exact HB.out|apply ba_|apply pN_|apply b1_|refine bs_ ?_ (IsS66.ge HI217.out)|refine bs_ ?_ GE218.out|refine bs_ ?_ GE225.out|refine bs_ ?_ GE226.out)|exact HB.out))
                        rintro e w50 ⟨rfl, hi, hb, hk⟩
                        refine ⟨_, rfl, ?_⟩
                        have n0_ := A0_ (KeepBut.blk hk (g' := gb218) (o := .cells #[.int .u64 t220, .int .u64 t221] 74 (0, 0)) (by (with_reducible repeat first|refine bN_ ?_ _|refine bD_ ?_|refine bA_ ?_ _); exact BK218.out) NB218_217.out (by simp))
                        have n1_ := A0_ (KeepBut.blk hk (g' := gb225) (o := .cells #[.int .u64 t220, .int .u64 t221] 74 (0, 0)) (by (with_reducible repeat first|refine bN_ ?_ _|refine bD_ ?_|refine bA_ ?_ _); exact BK225.out) NB225_217.out (by simp))
                        have n2_ := A0_ (KeepBut.blk hk (g' := gb226) (o := .cells #[.int .u64 t222, .bool t223, .int .i64 t224] 76 (0, 0)) (by (with_reducible repeat first|refine bN_ ?_ _|refine bD_ ?_|refine bA_ ?_ _); exact BK226.out) NB226_217.out (by simp))
                        have n3_ := A0_ (hb)
                        have n4_ := A0_ (hi)
                        clear BK218
                        clear BK225
                        clear BK226
                        clear HB
                        clear HI217
                        have BK218 := n0_
                        have BK225 := n1_
                        have BK226 := n2_
                        have HB := n3_
                        have HI217 := n4_
                        clear n0_ n1_ n2_ n3_ n4_
                        (try clear hb)
                        (try clear hb2)
                        (try clear hk)
                        (try clear hi)
                        refine hK.out _ _ ⟨(blk_cell BK226.out 0).trans rfl, (blk_cell BK226.out 1).trans rfl, (blk_cell BK226.out 2).trans rfl, (blk_cell BK218.out 0).trans rfl, (blk_cell BK218.out 1).trans rfl, ((HB.out.cell (bl_ w _ hw227_0)).trans hw227_0), ((HB.out.cell (bl_ w _ hw227_1)).trans hw227_1)⟩ (fun hHeld => ?_)
                        clear hK K
                        refine norm_ (a' := ?_) ?_ ?_
                        rotate_left
                        · show Act.put _ (some 36) _ = _
                          simp only [Act.put, sA_, sZ_, sS_, i64_w, i32_w]
                          rfl
                        refine pure_ (i := 7) (N := some 38) (v := ?_) (a' := ?_) #[true, true, true, true, true, true, true, true, false, false, false, false, false, false, false, false, false, false, false, false, false, false, false, false, false, false, false, false, false] rfl rfl (any_of HT_.out (by kernel_rfl)) (fun _ _ _ h => h) (Or.inl ⟨by rfl, ?_⟩) ?_ ?_
                        rotate_left
                        · intro w'
                          go_simp
                          first|(simp only [ifr1_, ifr2_]; done)|(simp only [ifr1_, ifr2_]; with_reducible rfl)
                        rotate_left
                        · simp only [Act.put, sA_, sZ_, sS_, i64_w, i32_w]
                          rfl
                        refine pure_ (i := 8) (N := some 39) (v := ?_) (a' := ?_) #[true, true, true, true, true, true, true, true, true, false, false, false, false, false, false, false, false, false, false, false, false, false, false, false, false, false, false, false, false] rfl rfl (any_of HT_.out (by kernel_rfl)) (fun _ _ _ h => h) (Or.inl ⟨by rfl, ?_⟩) ?_ ?_
                        rotate_left
                        · intro w'
                          go_simp
                          with_reducible rfl
                        rotate_left
                        · simp only [Act.put, sA_, sZ_, sS_, i64_w, i32_w]
                          rfl
                        refine pure_ (i := 9) (N := some 40) (v := ?_) (a' := ?_) #[true, true, true, true, true, true, true, true, true, true, false, false, false, false, false, false, false, false, false, false, false, false, false, false, false, false, false, false, false] rfl rfl (any_of HT_.out (by kernel_rfl)) (fun _ _ _ h => h) (Or.inl ⟨by rfl, ?_⟩) ?_ ?_
                        rotate_left
                        · intro w'
                          go_simp
                          with_reducible rfl
                        rotate_left
                        · simp only [Act.put, sA_, sZ_, sS_, i64_w, i32_w]
                          rfl
                        refine pure_ (i := 11) (N := some 42) (v := ?_) (a' := ?_) #[true, true, true, true, true, true, true, true, true, true, false, true, false, false, false, false, false, false, false, false, false, false, false, false, false, false, false, false, false] rfl rfl (any_of HT_.out (by kernel_rfl)) (fun _ _ _ h => h) (Or.inl ⟨by rfl, ?_⟩) ?_ ?_
                        rotate_left
                        · intro w'
                          go_simp
                          with_reducible rfl
                        rotate_left
                        · simp only [Act.put, sA_, sZ_, sS_, i64_w, i32_w]
                          rfl
                        refine take_ (i := 12) (N := some 43) (v := ?_) (a' := ?_) #[true, true, true, true, true, true, true, true, true, true, false, true, true, false, false, false, false, false, false, false, false, false, false, false, false, false, false, false, false] rfl rfl (take_ofW HT_.out HW_.out (by kernel_rfl)) (fun _ _ _ h => h) (Or.inl ⟨by rfl, ?_⟩) hHeld ?_ ?_
                        rotate_left
                        · rintro w' ⟨s0, s1, s2, s3, s4, s5, s6⟩
                          go_simp
                          with_reducible rfl
                        rotate_left
                        · simp only [Act.put, sA_, sZ_, sS_, i64_w, i32_w]
                          rfl
                        refine one_ (i := 10) (N := some 41) #[true, true, true, true, true, true, true, true, true, true, true, true, true, false, false, false, false, false, false, false, false, false, false, false, false, false, false, false, false] rfl rfl (one_of HT_.out (by kernel_rfl)) (by decide) (fun K hK => ?_)
                        refine goes_ Try.func40 (by kernel_rfl) rfl #[.pointer (some ⟨gb217, 0, none⟩)] (by rfl) rfl rfl (by first|(simp only [List.map_toArray, List.map_cons, List.map_nil] <;> rfl)|rfl|(simp only [List.length_drop, List.length_take]; rfl)) ?_
                        with_reducible refine (barrier_Barrier_Members.calls gb217 t231 t232 t233 t234 t235 w _ ?side1 ?side2 A35.out).mono ?_
                        (case side1 => repeat (first|(with_reducible first|exact HI217.out|apply IsS66.alloc|apply IsS66.drewN|apply IsS66.drew|apply IsS66.set_0|apply IsS66.set_1|refine IsS66.far ?_ NB217_218.out _|refine IsS66.far ?_ NB217_225.out _|refine IsS66.far ?_ NB217_226.out _)|exact HI217.out))
                        (case side2 => repeat (first|(with_reducible first|exact HB.out|apply ba_|apply pN_|apply b1_|refine bs_ ?_ (IsS66.ge HI217.out)|refine bs_ ?_ GE218.out|refine bs_ ?_ GE225.out|refine bs_ ?_ GE226.out)|exact HB.out))
                        rintro e w51 ⟨rfl, hi, hb, hk⟩
                        refine ⟨_, rfl, ?_⟩
                        have n0_ := A0_ (KeepBut.blk hk (g' := gb218) (o := .cells #[.int .u64 t220, .int .u64 t221] 74 (0, 0)) (by (with_reducible repeat first|refine bN_ ?_ _|refine bD_ ?_|refine bA_ ?_ _); exact BK218.out) NB218_217.out (by simp))
                        have n1_ := A0_ (KeepBut.blk hk (g' := gb225) (o := .cells #[.int .u64 t220, .int .u64 t221] 74 (0, 0)) (by (with_reducible repeat first|refine bN_ ?_ _|refine bD_ ?_|refine bA_ ?_ _); exact BK225.out) NB225_217.out (by simp))
                        have n2_ := A0_ (KeepBut.blk hk (g' := gb226) (o := .cells #[.int .u64 t222, .bool t223, .int .i64 t224] 76 (0, 0)) (by (with_reducible repeat first|refine bN_ ?_ _|refine bD_ ?_|refine bA_ ?_ _); exact BK226.out) NB226_217.out (by simp))
                        have n3_ := A0_ (hb)
                        have n4_ := A0_ (hi)
                        clear BK218
                        clear BK225
                        clear BK226
                        clear HB
                        clear HI217
                        have BK218 := n0_
                        have BK225 := n1_
                        have BK226 := n2_
                        have HB := n3_
                        have HI217 := n4_
                        clear n0_ n1_ n2_ n3_ n4_
                        (try clear hb)
                        (try clear hb2)
                        (try clear hk)
                        (try clear hi)
                        refine hK.out _ _ ⟨(blk_cell BK226.out 0).trans rfl, (blk_cell BK226.out 1).trans rfl, (blk_cell BK226.out 2).trans rfl, (blk_cell BK218.out 0).trans rfl, (blk_cell BK218.out 1).trans rfl, ((HB.out.cell (bl_ w _ hw227_0)).trans hw227_0), ((HB.out.cell (bl_ w _ hw227_1)).trans hw227_1)⟩ (fun hHeld => ?_)
                        clear hK K
                        refine norm_ (a' := ?_) ?_ ?_
                        rotate_left
                        · show Act.put _ (some 41) _ = _
                          simp only [Act.put, sA_, sZ_, sS_, i64_w, i32_w]
                          rfl
                        refine pure_ (i := 13) (N := some 44) (v := ?_) (a' := ?_) #[true, true, true, true, true, true, true, true, true, true, true, true, true, true, false, false, false, false, false, false, false, false, false, false, false, false, false, false, false] rfl rfl (any_of HT_.out (by kernel_rfl)) (fun _ _ _ h => h) (Or.inl ⟨by rfl, ?_⟩) ?_ ?_
                        rotate_left
                        · intro w'
                          go_simp
                          with_reducible rfl
                        rotate_left
                        · simp only [Act.put, sA_, sZ_, sS_, i64_w, i32_w]
                          rfl
                        refine pure_ (i := 14) (N := some 45) (v := ?_) (a' := ?_) #[true, true, true, true, true, true, true, true, true, true, true, true, true, true, true, false, false, false, false, false, false, false, false, false, false, false, false, false, false] rfl rfl (any_of HT_.out (by kernel_rfl)) (fun _ _ _ h => h) (Or.inl ⟨by rfl, ?_⟩) ?_ ?_
                        rotate_left
                        · intro w'
                          go_simp
                          with_reducible rfl
                        rotate_left
                        · simp only [Act.put, sA_, sZ_, sS_, i64_w, i32_w]
                          rfl
                        refine pure_ (i := 15) (N := some 46) (v := ?_) (a' := ?_) #[true, true, true, true, true, true, true, true, true, true, true, true, true, true, true, true, false, false, false, false, false, false, false, false, false, false, false, false, false] rfl rfl (any_of HT_.out (by kernel_rfl)) (fun _ _ _ h => h) (Or.inl ⟨by rfl, ?_⟩) ?_ ?_
                        rotate_left
                        · intro w'
                          go_simp
                          with_reducible rfl
                        rotate_left
                        · simp only [Act.put, sA_, sZ_, sS_, i64_w, i32_w]
                          rfl
                        refine pure_ (i := 16) (N := some 47) (v := ?_) (a' := ?_) #[true, true, true, true, true, true, true, true, true, true, true, true, true, true, true, true, true, false, false, false, false, false, false, false, false, false, false, false, false] rfl rfl (any_of HT_.out (by kernel_rfl)) (fun _ _ _ h => h) (Or.inl ⟨by rfl, ?_⟩) ?_ ?_
                        rotate_left
                        · intro w'
                          go_simp
                          with_reducible rfl
                        rotate_left
                        · simp only [Act.put, sA_, sZ_, sS_, i64_w, i32_w]
                          rfl
                        refine pure_ (i := 18) (N := some 49) (v := ?_) (a' := ?_) #[true, true, true, true, true, true, true, true, true, true, true, true, true, true, true, true, true, false, true, false, false, false, false, false, false, false, false, false, false] rfl rfl (any_of HT_.out (by kernel_rfl)) (fun _ _ _ h => h) (Or.inl ⟨by rfl, ?_⟩) ?_ ?_
                        rotate_left
                        · intro w'
                          go_simp
                          with_reducible rfl
                        rotate_left
                        · simp only [Act.put, sA_, sZ_, sS_, i64_w, i32_w]
                          rfl
                        refine take_ (i := 19) (N := some 50) (v := ?_) (a' := ?_) #[true, true, true, true, true, true, true, true, true, true, true, true, true, true, true, true, true, false, true, true, false, false, false, false, false, false, false, false, false] rfl rfl (take_ofW HT_.out HW_.out (by kernel_rfl)) (fun _ _ _ h => h) (Or.inl ⟨by rfl, ?_⟩) hHeld ?_ ?_
                        rotate_left
                        · rintro w' ⟨s0, s1, s2, s3, s4, s5, s6⟩
                          go_simp
                          with_reducible rfl
                        rotate_left
                        · simp only [Act.put, sA_, sZ_, sS_, i64_w, i32_w]
                          rfl
                        refine one_ (i := 17) (N := some 48) #[true, true, true, true, true, true, true, true, true, true, true, true, true, true, true, true, true, true, true, true, false, false, false, false, false, false, false, false, false] rfl rfl (one_of HT_.out (by kernel_rfl)) (by decide) (fun K hK => ?_)
                        refine goes_ Try.func41 (by kernel_rfl) rfl #[.pointer (some ⟨gb217, 0, none⟩)] (by rfl) rfl rfl (by first|(simp only [List.map_toArray, List.map_cons, List.map_nil] <;> rfl)|rfl|(simp only [List.length_drop, List.length_take]; rfl)) ?_
                        with_reducible refine (barrier_Barrier_Arrived.calls gb217 t234 t235 t236 t237 t238 w _ ?side1 ?side2 A37.out).mono ?_
                        (case side1 => repeat (first|(with_reducible first|exact HI217.out|apply IsS66.alloc|apply IsS66.drewN|apply IsS66.drew|apply IsS66.set_0|apply IsS66.set_1|refine IsS66.far ?_ NB217_218.out _|refine IsS66.far ?_ NB217_225.out _|refine IsS66.far ?_ NB217_226.out _)|exact HI217.out))
                        (case side2 => repeat (first|(with_reducible first|exact HB.out|apply ba_|apply pN_|apply b1_|refine bs_ ?_ (IsS66.ge HI217.out)|refine bs_ ?_ GE218.out|refine bs_ ?_ GE225.out|refine bs_ ?_ GE226.out)|exact HB.out))
                        rintro e w52 ⟨rfl, hi, hb, hk⟩
                        refine ⟨_, rfl, ?_⟩
                        have n0_ := A0_ (KeepBut.blk hk (g' := gb218) (o := .cells #[.int .u64 t220, .int .u64 t221] 74 (0, 0)) (by (with_reducible repeat first|refine bN_ ?_ _|refine bD_ ?_|refine bA_ ?_ _); exact BK218.out) NB218_217.out (by simp))
                        have n1_ := A0_ (KeepBut.blk hk (g' := gb225) (o := .cells #[.int .u64 t220, .int .u64 t221] 74 (0, 0)) (by (with_reducible repeat first|refine bN_ ?_ _|refine bD_ ?_|refine bA_ ?_ _); exact BK225.out) NB225_217.out (by simp))
                        have n2_ := A0_ (KeepBut.blk hk (g' := gb226) (o := .cells #[.int .u64 t222, .bool t223, .int .i64 t224] 76 (0, 0)) (by (with_reducible repeat first|refine bN_ ?_ _|refine bD_ ?_|refine bA_ ?_ _); exact BK226.out) NB226_217.out (by simp))
                        have n3_ := A0_ (hb)
                        have n4_ := A0_ (hi)
                        clear BK218
                        clear BK225
                        clear BK226
                        clear HB
                        clear HI217
                        have BK218 := n0_
                        have BK225 := n1_
                        have BK226 := n2_
                        have HB := n3_
                        have HI217 := n4_
                        clear n0_ n1_ n2_ n3_ n4_
                        (try clear hb)
                        (try clear hb2)
                        (try clear hk)
                        (try clear hi)
                        refine hK.out _ _ ⟨(blk_cell BK226.out 0).trans rfl, (blk_cell BK226.out 1).trans rfl, (blk_cell BK226.out 2).trans rfl, (blk_cell BK218.out 0).trans rfl, (blk_cell BK218.out 1).trans rfl, ((HB.out.cell (bl_ w _ hw227_0)).trans hw227_0), ((HB.out.cell (bl_ w _ hw227_1)).trans hw227_1)⟩ (fun hHeld => ?_)
                        clear hK K
                        refine norm_ (a' := ?_) ?_ ?_
                        rotate_left
                        · show Act.put _ (some 48) _ = _
                          simp only [Act.put, sA_, sZ_, sS_, i64_w, i32_w]
                          rfl
                        refine pure_ (i := 20) (N := some 51) (v := ?_) (a' := ?_) #[true, true, true, true, true, true, true, true, true, true, true, true, true, true, true, true, true, true, true, true, true, false, false, false, false, false, false, false, false] rfl rfl (any_of HT_.out (by kernel_rfl)) (fun _ _ _ h => h) (Or.inl ⟨by rfl, ?_⟩) ?_ ?_
                        rotate_left
                        · intro w'
                          go_simp
                          with_reducible rfl
                        rotate_left
                        · simp only [Act.put, sA_, sZ_, sS_, i64_w, i32_w]
                          rfl
                        refine pure_ (i := 21) (N := some 52) (v := ?_) (a' := ?_) #[true, true, true, true, true, true, true, true, true, true, true, true, true, true, true, true, true, true, true, true, true, true, false, false, false, false, false, false, false] rfl rfl (any_of HT_.out (by kernel_rfl)) (fun _ _ _ h => h) (Or.inl ⟨by rfl, ?_⟩) ?_ ?_
                        rotate_left
                        · intro w'
                          go_simp
                          with_reducible rfl
                        rotate_left
                        · simp only [Act.put, sA_, sZ_, sS_, i64_w, i32_w]
                          rfl
                        refine pure_ (i := 22) (N := some 53) (v := ?_) (a' := ?_) #[true, true, true, true, true, true, true, true, true, true, true, true, true, true, true, true, true, true, true, true, true, true, true, false, false, false, false, false, false] rfl rfl (any_of HT_.out (by kernel_rfl)) (fun _ _ _ h => h) (Or.inl ⟨by rfl, ?_⟩) ?_ ?_
                        rotate_left
                        · intro w'
                          go_simp
                          with_reducible rfl
                        rotate_left
                        · simp only [Act.put, sA_, sZ_, sS_, i64_w, i32_w]
                          rfl
                        refine pure_ (i := 23) (N := some 54) (v := undef) (a' := ?_) #[true, true, true, true, true, true, true, true, true, true, true, true, true, true, true, true, true, true, true, true, true, true, true, true, false, false, false, false, false] rfl rfl (any_of HT_.out (by kernel_rfl)) (fun _ _ _ h => h) (Or.inr ⟨by rfl, rfl⟩) ?_ ?_
                        rotate_left
                        · simp only [Act.put, sA_, sZ_, sS_, i64_w, i32_w]
                          rfl
                        refine pure_ (i := 24) (N := some 55) (v := undef) (a' := ?_) #[true, true, true, true, true, true, true, true, true, true, true, true, true, true, true, true, true, true, true, true, true, true, true, true, true, false, false, false, false] rfl rfl (any_of HT_.out (by kernel_rfl)) (fun _ _ _ h => h) (Or.inr ⟨by rfl, rfl⟩) ?_ ?_
                        rotate_left
                        · simp only [Act.put, sA_, sZ_, sS_, i64_w, i32_w]
                          rfl
                        refine pure_ (i := 25) (N := some 56) (v := undef) (a' := ?_) #[true, true, true, true, true, true, true, true, true, true, true, true, true, true, true, true, true, true, true, true, true, true, true, true, true, true, false, false, false] rfl rfl (any_of HT_.out (by kernel_rfl)) (fun _ _ _ h => h) (Or.inr ⟨by rfl, rfl⟩) ?_ ?_
                        rotate_left
                        · simp only [Act.put, sA_, sZ_, sS_, i64_w, i32_w]
                          rfl
                        refine pure_ (i := 26) (N := some 57) (v := undef) (a' := ?_) #[true, true, true, true, true, true, true, true, true, true, true, true, true, true, true, true, true, true, true, true, true, true, true, true, true, true, true, false, false] rfl rfl (any_of HT_.out (by kernel_rfl)) (fun _ _ _ h => h) (Or.inr ⟨by rfl, rfl⟩) ?_ ?_
                        rotate_left
                        · simp only [Act.put, sA_, sZ_, sS_, i64_w, i32_w]
                          rfl
                        refine pure_ (i := 27) (N := some 58) (v := undef) (a' := ?_) #[true, true, true, true, true, true, true, true, true, true, true, true, true, true, true, true, true, true, true, true, true, true, true, true, true, true, true, true, false] rfl rfl (any_of HT_.out (by kernel_rfl)) (fun _ _ _ h => h) (Or.inr ⟨by rfl, rfl⟩) ?_ ?_
                        rotate_left
                        · simp only [Act.put, sA_, sZ_, sS_, i64_w, i32_w]
                          rfl
                        refine pure_ (i := 28) (N := some 59) (v := ?_) (a' := ?_) #[true, true, true, true, true, true, true, true, true, true, true, true, true, true, true, true, true, true, true, true, true, true, true, true, true, true, true, true, true] rfl rfl (any_of HT_.out (by kernel_rfl)) (fun _ _ _ h => h) (Or.inl ⟨by rfl, ?_⟩) ?_ ?_
                        rotate_left
                        · intro w'
                          go_simp
                          with_reducible rfl
                        rotate_left
                        · simp only [Act.put, sA_, sZ_, sS_, i64_w, i32_w]
                          rfl
                        refine done_ (done_of HT_.out (by kernel_rfl)) ?_
                        try go_wp2
                        go_meet
                        case rel => exact ⟨_, (true), (t237), (t238), (by first|rfl|(simp; done)|(simp [*]; done)), H', ⟨by have := HK1.out; have := HJ5.out; first|omega|exact Nat.le_refl _⟩, ⟨by (with_reducible repeat first|refine bN_ ?_ _|refine bD_ ?_|refine bA_ ?_ _); exact BK218.out⟩, ⟨by (with_reducible repeat first|refine bN_ ?_ _|refine bD_ ?_|refine bA_ ?_ _); exact BK225.out⟩, ⟨by (with_reducible repeat first|refine bN_ ?_ _|refine bD_ ?_|refine bA_ ?_ _); exact BK226.out⟩, ⟨by repeat (first|(with_reducible first|exact HI217.out|apply IsS66.alloc|apply IsS66.drewN|apply IsS66.drew|apply IsS66.set_0|apply IsS66.set_1|refine IsS66.far ?_ NB217_218.out _|refine IsS66.far ?_ NB217_225.out _|refine IsS66.far ?_ NB217_226.out _)|exact HI217.out)⟩, ⟨by repeat (first|(with_reducible first|exact HB.out|apply ba_|apply pN_|apply b1_|refine bs_ ?_ (IsS66.ge HI217.out)|refine bs_ ?_ GE218.out|refine bs_ ?_ GE225.out|refine bs_ ?_ GE226.out)|exact HB.out)⟩⟩
                    · rw [if_neg c36] at H
                      have c36b0 : (t233 == t220) = false := beq_eq_false_iff_ne.mpr c36
                      have c36b1 : (t233 != t220) = true := bne_iff_ne.mpr c36
                      have H' := A0_ H
                      clear H
                      try go_wp2
                      have n0_ : Aside0 ((((((((w17.setCell ⟨gb225, 0, none⟩ (.int .u64 t220)).setCell ⟨gb225, 1, none⟩ (.int .u64 t221)).setCell ⟨gb226, 0, none⟩ (.int .u64 t222)).setCell ⟨gb226, 1, none⟩ (.bool t223)).setCell ⟨gb226, 2, none⟩ (.int .i64 t224)).setCell ⟨gb218, 0, none⟩ (.int .u64 t220)).setCell ⟨gb218, 1, none⟩ (.int .u64 t221)).heap[gb218]? = some (.cells #[.int .u64 t220, .int .u64 t221] 74 (0, 0))) := ⟨by (with_reducible repeat first|refine bN_ ?_ _|refine bD_ ?_|refine bA_ ?_ _); refine blk_put (cs := #[.int .u64 t220, .int .u64 x219001_1]) ?_ 1 _ rfl; (with_reducible repeat first|refine bN_ ?_ _|refine bD_ ?_|refine bA_ ?_ _); refine blk_put (cs := #[.int .u64 x219000_1, .int .u64 x219001_1]) ?_ 0 _ rfl; (with_reducible repeat first|refine bN_ ?_ _|refine bD_ ?_|refine bA_ ?_ _); refine blk_far ?_ NB218_226.out _; (with_reducible repeat first|refine bN_ ?_ _|refine bD_ ?_|refine bA_ ?_ _); refine blk_far ?_ NB218_226.out _; (with_reducible repeat first|refine bN_ ?_ _|refine bD_ ?_|refine bA_ ?_ _); refine blk_far ?_ NB218_226.out _; (with_reducible repeat first|refine bN_ ?_ _|refine bD_ ?_|refine bA_ ?_ _); refine blk_far ?_ NB218_225.out _; (with_reducible repeat first|refine bN_ ?_ _|refine bD_ ?_|refine bA_ ?_ _); refine blk_far ?_ NB218_225.out _; (with_reducible repeat first|refine bN_ ?_ _|refine bD_ ?_|refine bA_ ?_ _); exact BK218.out⟩
                      have n1_ : Aside0 ((((((((w17.setCell ⟨gb225, 0, none⟩ (.int .u64 t220)).setCell ⟨gb225, 1, none⟩ (.int .u64 t221)).setCell ⟨gb226, 0, none⟩ (.int .u64 t222)).setCell ⟨gb226, 1, none⟩ (.bool t223)).setCell ⟨gb226, 2, none⟩ (.int .i64 t224)).setCell ⟨gb218, 0, none⟩ (.int .u64 t220)).setCell ⟨gb218, 1, none⟩ (.int .u64 t221)).heap[gb225]? = some (.cells #[.int .u64 t220, .int .u64 t221] 74 (0, 0))) := ⟨by (with_reducible repeat first|refine bN_ ?_ _|refine bD_ ?_|refine bA_ ?_ _); refine blk_far ?_ NB225_218.out _; (with_reducible repeat first|refine bN_ ?_ _|refine bD_ ?_|refine bA_ ?_ _); refine blk_far ?_ NB225_218.out _; (with_reducible repeat first|refine bN_ ?_ _|refine bD_ ?_|refine bA_ ?_ _); refine blk_far ?_ NB225_226.out _; (with_reducible repeat first|refine bN_ ?_ _|refine bD_ ?_|refine bA_ ?_ _); refine blk_far ?_ NB225_226.out _; (with_reducible repeat first|refine bN_ ?_ _|refine bD_ ?_|refine bA_ ?_ _); refine blk_far ?_ NB225_226.out _; (with_reducible repeat first|refine bN_ ?_ _|refine bD_ ?_|refine bA_ ?_ _); refine blk_put (cs := #[.int .u64 t220, .int .u64 0]) ?_ 1 _ rfl; (with_reducible repeat first|refine bN_ ?_ _|refine bD_ ?_|refine bA_ ?_ _); refine blk_put (cs := #[.int .u64 0, .int .u64 0]) ?_ 0 _ rfl; (with_reducible repeat first|refine bN_ ?_ _|refine bD_ ?_|refine bA_ ?_ _); exact BK225.out⟩
                      have n2_ : Aside0 ((((((((w17.setCell ⟨gb225, 0, none⟩ (.int .u64 t220)).setCell ⟨gb225, 1, none⟩ (.int .u64 t221)).setCell ⟨gb226, 0, none⟩ (.int .u64 t222)).setCell ⟨gb226, 1, none⟩ (.bool t223)).setCell ⟨gb226, 2, none⟩ (.int .i64 t224)).setCell ⟨gb218, 0, none⟩ (.int .u64 t220)).setCell ⟨gb218, 1, none⟩ (.int .u64 t221)).heap[gb226]? = some (.cells #[.int .u64 t222, .bool t223, .int .i64 t224] 76 (0, 0))) := ⟨by (with_reducible repeat first|refine bN_ ?_ _|refine bD_ ?_|refine bA_ ?_ _); refine blk_far ?_ NB226_218.out _; (with_reducible repeat first|refine bN_ ?_ _|refine bD_ ?_|refine bA_ ?_ _); refine blk_far ?_ NB226_218.out _; (with_reducible repeat first|refine bN_ ?_ _|refine bD_ ?_|refine bA_ ?_ _); refine blk_put (cs := #[.int .u64 t222, .bool t223, .int .i64 0]) ?_ 2 _ rfl; (with_reducible repeat first|refine bN_ ?_ _|refine bD_ ?_|refine bA_ ?_ _); refine blk_put (cs := #[.int .u64 t222, .bool false, .int .i64 0]) ?_ 1 _ rfl; (with_reducible repeat first|refine bN_ ?_ _|refine bD_ ?_|refine bA_ ?_ _); refine blk_put (cs := #[.int .u64 0, .bool false, .int .i64 0]) ?_ 0 _ rfl; (with_reducible repeat first|refine bN_ ?_ _|refine bD_ ?_|refine bA_ ?_ _); refine blk_far ?_ NB226_225.out _; (with_reducible repeat first|refine bN_ ?_ _|refine bD_ ?_|refine bA_ ?_ _); refine blk_far ?_ NB226_225.out _; (with_reducible repeat first|refine bN_ ?_ _|refine bD_ ?_|refine bA_ ?_ _); exact BK226.out⟩
                      have n3_ : Aside0 (IsS66 w (((((((w17.setCell ⟨gb225, 0, none⟩ (.int .u64 t220)).setCell ⟨gb225, 1, none⟩ (.int .u64 t221)).setCell ⟨gb226, 0, none⟩ (.int .u64 t222)).setCell ⟨gb226, 1, none⟩ (.bool t223)).setCell ⟨gb226, 2, none⟩ (.int .i64 t224)).setCell ⟨gb218, 0, none⟩ (.int .u64 t220)).setCell ⟨gb218, 1, none⟩ (.int .u64 t221)) gb217 x218000_1 x218001_1) := ⟨by repeat (first|(with_reducible first|exact HI217.out|apply IsS66.alloc|apply IsS66.drewN|apply IsS66.drew|apply IsS66.set_0|apply IsS66.set_1|refine IsS66.far ?_ NB217_218.out _|refine IsS66.far ?_ NB217_225.out _|refine IsS66.far ?_ NB217_226.out _)|exact HI217.out)⟩
                      have n4_ : Aside0 (Below w.heap.size w (((((((w17.setCell ⟨gb225, 0, none⟩ (.int .u64 t220)).setCell ⟨gb225, 1, none⟩ (.int .u64 t221)).setCell ⟨gb226, 0, none⟩ (.int .u64 t222)).setCell ⟨gb226, 1, none⟩ (.bool t223)).setCell ⟨gb226, 2, none⟩ (.int .i64 t224)).setCell ⟨gb218, 0, none⟩ (.int .u64 t220)).setCell ⟨gb218, 1, none⟩ (.int .u64 t221))) := ⟨by repeat (first|(with_reducible first|exact HB.out|apply ba_|apply pN_|apply b1_|refine bs_ ?_ (IsS66.ge HI217.out)|refine bs_ ?_ GE218.out|refine bs_ ?_ GE225.out|refine bs_ ?_ GE226.out)|exact HB.out)⟩
                      (try clear BK218)
                      (try clear BK225)
                      (try clear BK226)
                      (try clear HI217)
                      (try clear HB)
                      generalize (((((((w17.setCell ⟨gb225, 0, none⟩ (.int .u64 t220)).setCell ⟨gb225, 1, none⟩ (.int .u64 t221)).setCell ⟨gb226, 0, none⟩ (.int .u64 t222)).setCell ⟨gb226, 1, none⟩ (.bool t223)).setCell ⟨gb226, 2, none⟩ (.int .i64 t224)).setCell ⟨gb218, 0, none⟩ (.int .u64 t220)).setCell ⟨gb218, 1, none⟩ (.int .u64 t221)) = w53 at n0_ n1_ n2_ n3_ n4_ ⊢
                      have BK218 := n0_
                      have BK225 := n1_
                      have BK226 := n2_
                      have HI217 := n3_
                      have HB := n4_
                      clear n0_ n1_ n2_ n3_ n4_
                      have n0_ := A0_ (blk_drew BK218.out)
                      have n1_ := A0_ (blk_drew BK225.out)
                      have n2_ := A0_ (blk_drew BK226.out)
                      have n3_ := A0_ (IsS66.drew HI217.out)
                      have n4_ := A0_ (b1_ HB.out)
                      clear BK218
                      clear BK225
                      clear BK226
                      clear HI217
                      clear HB
                      have BK218 := n0_
                      have BK225 := n1_
                      have BK226 := n2_
                      have HI217 := n3_
                      have HB := n4_
                      clear n0_ n1_ n2_ n3_ n4_
                      have p227 : 0 ≤ (x5_1 : Int) := of_decide_eq_true (by first|(with_reducible assumption)|assumption)
                      have q227 : x5_1 < (l0.length : Int) := of_decide_eq_true (by first|(with_reducible assumption)|assumption)
                      obtain ⟨ad227, e227, hx227_0, hx227_1⟩ := at_T80 HR0.out x5_1 p227 q227
                      have hw227_1 := hx227_1
                      have hw227_0 := hx227_0
                      obtain rfl : ad219 = ad227 := (by injection e227)
                      replace hx227_0 := (HB.out.cell (bl_ w _ hx227_0)).trans hx227_0
                      replace hx227_1 := (HB.out.cell (bl_ w _ hx227_1)).trans hx227_1
                      replace p227 := eq_true p227
                      replace q227 := eq_true q227
                      refine start_ (n := 29) (S := fun w' => w'.cell? ⟨gb226, 0, none⟩ = some (.int .u64 t222) ∧ w'.cell? ⟨gb226, 1, none⟩ = some (.bool t223) ∧ w'.cell? ⟨gb226, 2, none⟩ = some (.int .i64 t224) ∧ w'.cell? ⟨gb218, 0, none⟩ = some (.int .u64 t220) ∧ w'.cell? ⟨gb218, 1, none⟩ = some (.int .u64 t221) ∧ w'.cell? (ad219.add ((x5_1).toNat * 2)) = some (.int .i64 ((rd_T80 l0 x5_1).f0)) ∧ w'.cell? ⟨(ad219.add ((x5_1).toNat * 2)).block, (ad219.add ((x5_1).toNat * 2)).off + 1, none⟩ = some (.int .i64 ((rd_T80 l0 x5_1).f1))) (ds := []) #[false, false, false, false, false, false, false, false, false, false, false, false, false, false, false, false, false, false, false, false, false, false, false, false, false, false, false, false, false] (by kernel_rfl) rfl rfl ⟨(blk_cell BK226.out 0).trans rfl, (blk_cell BK226.out 1).trans rfl, (blk_cell BK226.out 2).trans rfl, (blk_cell BK218.out 0).trans rfl, (blk_cell BK218.out 1).trans rfl, ((HB.out.cell (bl_ w _ hw227_0)).trans hw227_0), ((HB.out.cell (bl_ w _ hw227_1)).trans hw227_1)⟩ (fun hHeld => ?_); refine with_tabW logjamlaw19_BarrierPlays.tab7 logjamlaw19_BarrierPlays.bits7 (fun HT_ HW_ => ?_)
                      generalize w53.drew = w54 at BK218 BK225 BK226 HI217 HB hx227_0 hx227_1 hHeld ⊢
                      refine pure_ (i := 0) (N := some 31) (v := ?_) (a' := ?_) #[true, false, false, false, false, false, false, false, false, false, false, false, false, false, false, false, false, false, false, false, false, false, false, false, false, false, false, false, false] rfl rfl (any_of HT_.out (by kernel_rfl)) (fun _ _ _ h => h) (Or.inl ⟨by rfl, ?_⟩) ?_ ?_
                      rotate_left
                      · intro w'
                        go_simp
                        with_reducible rfl
                      rotate_left
                      · simp only [Act.put, sA_, sZ_, sS_, i64_w, i32_w]
                        rfl
                      refine pure_ (i := 1) (N := some 32) (v := ?_) (a' := ?_) #[true, true, false, false, false, false, false, false, false, false, false, false, false, false, false, false, false, false, false, false, false, false, false, false, false, false, false, false, false] rfl rfl (any_of HT_.out (by kernel_rfl)) (fun _ _ _ h => h) (Or.inl ⟨by rfl, ?_⟩) ?_ ?_
                      rotate_left
                      · intro w'
                        go_simp
                        with_reducible rfl
                      rotate_left
                      · simp only [Act.put, sA_, sZ_, sS_, i64_w, i32_w]
                        rfl
                      refine pure_ (i := 2) (N := some 33) (v := ?_) (a' := ?_) #[true, true, true, false, false, false, false, false, false, false, false, false, false, false, false, false, false, false, false, false, false, false, false, false, false, false, false, false, false] rfl rfl (any_of HT_.out (by kernel_rfl)) (fun _ _ _ h => h) (Or.inl ⟨by rfl, ?_⟩) ?_ ?_
                      rotate_left
                      · intro w'
                        go_simp
                        with_reducible rfl
                      rotate_left
                      · simp only [Act.put, sA_, sZ_, sS_, i64_w, i32_w]
                        rfl
                      refine pure_ (i := 3) (N := some 34) (v := ?_) (a' := ?_) #[true, true, true, true, false, false, false, false, false, false, false, false, false, false, false, false, false, false, false, false, false, false, false, false, false, false, false, false, false] rfl rfl (any_of HT_.out (by kernel_rfl)) (fun _ _ _ h => h) (Or.inl ⟨by rfl, ?_⟩) ?_ ?_
                      rotate_left
                      · intro w'
                        go_simp
                        with_reducible rfl
                      rotate_left
                      · simp only [Act.put, sA_, sZ_, sS_, i64_w, i32_w]
                        rfl
                      refine take_ (i := 4) (N := some 35) (v := ?_) (a' := ?_) #[true, true, true, true, true, false, false, false, false, false, false, false, false, false, false, false, false, false, false, false, false, false, false, false, false, false, false, false, false] rfl rfl (take_ofW HT_.out HW_.out (by kernel_rfl)) (fun _ _ _ h => h) (Or.inl ⟨by rfl, ?_⟩) hHeld ?_ ?_
                      rotate_left
                      · rintro w' ⟨s0, s1, s2, s3, s4, s5, s6⟩
                        go_simp
                        with_reducible rfl
                      rotate_left
                      · simp only [Act.put, sA_, sZ_, sS_, i64_w, i32_w]
                        rfl
                      refine take_ (i := 6) (N := some 37) (v := ?_) (a' := ?_) #[true, true, true, true, true, false, true, false, false, false, false, false, false, false, false, false, false, false, false, false, false, false, false, false, false, false, false, false, false] rfl rfl (take_ofW HT_.out HW_.out (by kernel_rfl)) (fun _ _ _ h => h) (Or.inl ⟨by rfl, ?_⟩) hHeld ?_ ?_
                      rotate_left
                      · rintro w' ⟨s0, s1, s2, s3, s4, s5, s6⟩
                        go_simp
                        with_reducible rfl
                      rotate_left
                      · simp only [Act.put, sA_, sZ_, sS_, i64_w, i32_w]
                        rfl
                      refine one_ (i := 5) (N := some 36) #[true, true, true, true, true, true, true, false, false, false, false, false, false, false, false, false, false, false, false, false, false, false, false, false, false, false, false, false, false] rfl rfl (one_of HT_.out (by kernel_rfl)) (by decide) (fun K hK => ?_)
                      refine goes_ Try.func44 (by kernel_rfl) rfl #[.pointer (some ⟨gb217, 0, none⟩), .agg #[.int .i64 ((rd_T80 l0 x5_1).f0), .int .i64 ((rd_T80 l0 x5_1).f1)]] (by rfl) rfl rfl (by first|(simp only [List.map_toArray, List.map_cons, List.map_nil] <;> rfl)|rfl|(simp only [List.length_drop, List.length_take]; rfl)) ?_
                      with_reducible refine (logjamlaw19_do.calls gb217 x218000_1 x218001_1 ((rd_T80 l0 x5_1).f0) ((rd_T80 l0 x5_1).f1) t228 t229 t230 t231 t232 w _ ?side1 ?side2 A30.out).mono ?_
                      (case side1 => repeat (first|(with_reducible first|exact HI217.out|apply IsS66.alloc|apply IsS66.drewN|apply IsS66.drew|apply IsS66.set_0|apply IsS66.set_1|refine IsS66.far ?_ NB217_218.out _|refine IsS66.far ?_ NB217_225.out _|refine IsS66.far ?_ NB217_226.out _)|exact HI217.out))
                      (case side2 => repeat (first|(with_reducible first|exact HB.out|apply ba_|apply pN_|apply b1_|refine bs_ ?_ (IsS66.ge HI217.out)|refine bs_ ?_ GE218.out|refine bs_ ?_ GE225.out|refine bs_ ?_ GE226.out)|exact HB.out))
                      rintro e w55 ⟨rfl, hi, hb, hk⟩
                      refine ⟨_, rfl, ?_⟩
                      have n0_ := A0_ (KeepBut.blk hk (g' := gb218) (o := .cells #[.int .u64 t220, .int .u64 t221] 74 (0, 0)) (by (with_reducible repeat first|refine bN_ ?_ _|refine bD_ ?_|refine bA_ ?_ _); exact BK218.out) NB218_217.out (by simp))
                      have n1_ := A0_ (KeepBut.blk hk (g' := gb225) (o := .cells #[.int .u64 t220, .int .u64 t221] 74 (0, 0)) (by (with_reducible repeat first|refine bN_ ?_ _|refine bD_ ?_|refine bA_ ?_ _); exact BK225.out) NB225_217.out (by simp))
                      have n2_ := A0_ (KeepBut.blk hk (g' := gb226) (o := .cells #[.int .u64 t222, .bool t223, .int .i64 t224] 76 (0, 0)) (by (with_reducible repeat first|refine bN_ ?_ _|refine bD_ ?_|refine bA_ ?_ _); exact BK226.out) NB226_217.out (by simp))
                      have n3_ := A0_ (hb)
                      have n4_ := A0_ (hi)
                      clear BK218
                      clear BK225
                      clear BK226
                      clear HB
                      clear HI217
                      have BK218 := n0_
                      have BK225 := n1_
                      have BK226 := n2_
                      have HB := n3_
                      have HI217 := n4_
                      clear n0_ n1_ n2_ n3_ n4_
                      (try clear hb)
                      (try clear hb2)
                      (try clear hk)
                      (try clear hi)
                      refine hK.out _ _ ⟨(blk_cell BK226.out 0).trans rfl, (blk_cell BK226.out 1).trans rfl, (blk_cell BK226.out 2).trans rfl, (blk_cell BK218.out 0).trans rfl, (blk_cell BK218.out 1).trans rfl, ((HB.out.cell (bl_ w _ hw227_0)).trans hw227_0), ((HB.out.cell (bl_ w _ hw227_1)).trans hw227_1)⟩ (fun hHeld => ?_)
                      clear hK K
                      refine norm_ (a' := ?_) ?_ ?_
                      rotate_left
                      · show Act.put _ (some 36) _ = _
                        simp only [Act.put, sA_, sZ_, sS_, i64_w, i32_w]
                        rfl
                      refine pure_ (i := 7) (N := some 38) (v := ?_) (a' := ?_) #[true, true, true, true, true, true, true, true, false, false, false, false, false, false, false, false, false, false, false, false, false, false, false, false, false, false, false, false, false] rfl rfl (any_of HT_.out (by kernel_rfl)) (fun _ _ _ h => h) (Or.inl ⟨by rfl, ?_⟩) ?_ ?_
                      rotate_left
                      · intro w'
                        go_simp
                        first|(simp only [ifr1_, ifr2_]; done)|(simp only [ifr1_, ifr2_]; with_reducible rfl)
                      rotate_left
                      · simp only [Act.put, sA_, sZ_, sS_, i64_w, i32_w]
                        rfl
                      refine pure_ (i := 8) (N := some 39) (v := ?_) (a' := ?_) #[true, true, true, true, true, true, true, true, true, false, false, false, false, false, false, false, false, false, false, false, false, false, false, false, false, false, false, false, false] rfl rfl (any_of HT_.out (by kernel_rfl)) (fun _ _ _ h => h) (Or.inl ⟨by rfl, ?_⟩) ?_ ?_
                      rotate_left
                      · intro w'
                        go_simp
                        with_reducible rfl
                      rotate_left
                      · simp only [Act.put, sA_, sZ_, sS_, i64_w, i32_w]
                        rfl
                      refine pure_ (i := 9) (N := some 40) (v := ?_) (a' := ?_) #[true, true, true, true, true, true, true, true, true, true, false, false, false, false, false, false, false, false, false, false, false, false, false, false, false, false, false, false, false] rfl rfl (any_of HT_.out (by kernel_rfl)) (fun _ _ _ h => h) (Or.inl ⟨by rfl, ?_⟩) ?_ ?_
                      rotate_left
                      · intro w'
                        go_simp
                        with_reducible rfl
                      rotate_left
                      · simp only [Act.put, sA_, sZ_, sS_, i64_w, i32_w]
                        rfl
                      refine pure_ (i := 11) (N := some 42) (v := ?_) (a' := ?_) #[true, true, true, true, true, true, true, true, true, true, false, true, false, false, false, false, false, false, false, false, false, false, false, false, false, false, false, false, false] rfl rfl (any_of HT_.out (by kernel_rfl)) (fun _ _ _ h => h) (Or.inl ⟨by rfl, ?_⟩) ?_ ?_
                      rotate_left
                      · intro w'
                        go_simp
                        with_reducible rfl
                      rotate_left
                      · simp only [Act.put, sA_, sZ_, sS_, i64_w, i32_w]
                        rfl
                      refine take_ (i := 12) (N := some 43) (v := ?_) (a' := ?_) #[true, true, true, true, true, true, true, true, true, true, false, true, true, false, false, false, false, false, false, false, false, false, false, false, false, false, false, false, false] rfl rfl (take_ofW HT_.out HW_.out (by kernel_rfl)) (fun _ _ _ h => h) (Or.inl ⟨by rfl, ?_⟩) hHeld ?_ ?_
                      rotate_left
                      · rintro w' ⟨s0, s1, s2, s3, s4, s5, s6⟩
                        go_simp
                        with_reducible rfl
                      rotate_left
                      · simp only [Act.put, sA_, sZ_, sS_, i64_w, i32_w]
                        rfl
                      refine one_ (i := 10) (N := some 41) #[true, true, true, true, true, true, true, true, true, true, true, true, true, false, false, false, false, false, false, false, false, false, false, false, false, false, false, false, false] rfl rfl (one_of HT_.out (by kernel_rfl)) (by decide) (fun K hK => ?_)
                      refine goes_ Try.func40 (by kernel_rfl) rfl #[.pointer (some ⟨gb217, 0, none⟩)] (by rfl) rfl rfl (by first|(simp only [List.map_toArray, List.map_cons, List.map_nil] <;> rfl)|rfl|(simp only [List.length_drop, List.length_take]; rfl)) ?_
                      with_reducible refine (barrier_Barrier_Members.calls gb217 t231 t232 t233 t234 t235 w _ ?side1 ?side2 A35.out).mono ?_
                      (case side1 => repeat (first|(with_reducible first|exact HI217.out|apply IsS66.alloc|apply IsS66.drewN|apply IsS66.drew|apply IsS66.set_0|apply IsS66.set_1|refine IsS66.far ?_ NB217_218.out _|refine IsS66.far ?_ NB217_225.out _|refine IsS66.far ?_ NB217_226.out _)|exact HI217.out))
                      (case side2 => repeat (first|(with_reducible first|exact HB.out|apply ba_|apply pN_|apply b1_|refine bs_ ?_ (IsS66.ge HI217.out)|refine bs_ ?_ GE218.out|refine bs_ ?_ GE225.out|refine bs_ ?_ GE226.out)|exact HB.out))
                      rintro e w56 ⟨rfl, hi, hb, hk⟩
                      refine ⟨_, rfl, ?_⟩
                      have n0_ := A0_ (KeepBut.blk hk (g' := gb218) (o := .cells #[.int .u64 t220, .int .u64 t221] 74 (0, 0)) (by (with_reducible repeat first|refine bN_ ?_ _|refine bD_ ?_|refine bA_ ?_ _); exact BK218.out) NB218_217.out (by simp))
                      have n1_ := A0_ (KeepBut.blk hk (g' := gb225) (o := .cells #[.int .u64 t220, .int .u64 t221] 74 (0, 0)) (by (with_reducible repeat first|refine bN_ ?_ _|refine bD_ ?_|refine bA_ ?_ _); exact BK225.out) NB225_217.out (by simp))
                      have n2_ := A0_ (KeepBut.blk hk (g' := gb226) (o := .cells #[.int .u64 t222, .bool t223, .int .i64 t224] 76 (0, 0)) (by (with_reducible repeat first|refine bN_ ?_ _|refine bD_ ?_|refine bA_ ?_ _); exact BK226.out) NB226_217.out (by simp))
                      have n3_ := A0_ (hb)
                      have n4_ := A0_ (hi)
                      clear BK218
                      clear BK225
                      clear BK226
                      clear HB
                      clear HI217
                      have BK218 := n0_
                      have BK225 := n1_
                      have BK226 := n2_
                      have HB := n3_
                      have HI217 := n4_
                      clear n0_ n1_ n2_ n3_ n4_
                      (try clear hb)
                      (try clear hb2)
                      (try clear hk)
                      (try clear hi)
                      refine hK.out _ _ ⟨(blk_cell BK226.out 0).trans rfl, (blk_cell BK226.out 1).trans rfl, (blk_cell BK226.out 2).trans rfl, (blk_cell BK218.out 0).trans rfl, (blk_cell BK218.out 1).trans rfl, ((HB.out.cell (bl_ w _ hw227_0)).trans hw227_0), ((HB.out.cell (bl_ w _ hw227_1)).trans hw227_1)⟩ (fun hHeld => ?_)
                      clear hK K
                      refine norm_ (a' := ?_) ?_ ?_
                      rotate_left
                      · show Act.put _ (some 41) _ = _
                        simp only [Act.put, sA_, sZ_, sS_, i64_w, i32_w]
                        rfl
                      refine pure_ (i := 13) (N := some 44) (v := ?_) (a' := ?_) #[true, true, true, true, true, true, true, true, true, true, true, true, true, true, false, false, false, false, false, false, false, false, false, false, false, false, false, false, false] rfl rfl (any_of HT_.out (by kernel_rfl)) (fun _ _ _ h => h) (Or.inl ⟨by rfl, ?_⟩) ?_ ?_
                      rotate_left
                      · intro w'
                        go_simp
                        with_reducible rfl
                      rotate_left
                      · simp only [Act.put, sA_, sZ_, sS_, i64_w, i32_w]
                        rfl
                      refine pure_ (i := 14) (N := some 45) (v := ?_) (a' := ?_) #[true, true, true, true, true, true, true, true, true, true, true, true, true, true, true, false, false, false, false, false, false, false, false, false, false, false, false, false, false] rfl rfl (any_of HT_.out (by kernel_rfl)) (fun _ _ _ h => h) (Or.inl ⟨by rfl, ?_⟩) ?_ ?_
                      rotate_left
                      · intro w'
                        go_simp
                        with_reducible rfl
                      rotate_left
                      · simp only [Act.put, sA_, sZ_, sS_, i64_w, i32_w]
                        rfl
                      refine pure_ (i := 15) (N := some 46) (v := ?_) (a' := ?_) #[true, true, true, true, true, true, true, true, true, true, true, true, true, true, true, true, false, false, false, false, false, false, false, false, false, false, false, false, false] rfl rfl (any_of HT_.out (by kernel_rfl)) (fun _ _ _ h => h) (Or.inl ⟨by rfl, ?_⟩) ?_ ?_
                      rotate_left
                      · intro w'
                        go_simp
                        with_reducible rfl
                      rotate_left
                      · simp only [Act.put, sA_, sZ_, sS_, i64_w, i32_w]
                        rfl
                      refine pure_ (i := 16) (N := some 47) (v := undef) (a' := ?_) #[true, true, true, true, true, true, true, true, true, true, true, true, true, true, true, true, true, false, false, false, false, false, false, false, false, false, false, false, false] rfl rfl (any_of HT_.out (by kernel_rfl)) (fun _ _ _ h => h) (Or.inr ⟨by rfl, rfl⟩) ?_ ?_
                      rotate_left
                      · simp only [Act.put, sA_, sZ_, sS_, i64_w, i32_w]
                        rfl
                      refine pure_ (i := 17) (N := some 48) (v := undef) (a' := ?_) #[true, true, true, true, true, true, true, true, true, true, true, true, true, true, true, true, true, true, false, false, false, false, false, false, false, false, false, false, false] rfl rfl (any_of HT_.out (by kernel_rfl)) (fun _ _ _ h => h) (Or.inr ⟨by rfl, rfl⟩) ?_ ?_
                      rotate_left
                      · simp only [Act.put, sA_, sZ_, sS_, i64_w, i32_w]
                        rfl
                      refine pure_ (i := 18) (N := some 49) (v := undef) (a' := ?_) #[true, true, true, true, true, true, true, true, true, true, true, true, true, true, true, true, true, true, true, false, false, false, false, false, false, false, false, false, false] rfl rfl (any_of HT_.out (by kernel_rfl)) (fun _ _ _ h => h) (Or.inr ⟨by rfl, rfl⟩) ?_ ?_
                      rotate_left
                      · simp only [Act.put, sA_, sZ_, sS_, i64_w, i32_w]
                        rfl
                      refine pure_ (i := 19) (N := some 50) (v := undef) (a' := ?_) #[true, true, true, true, true, true, true, true, true, true, true, true, true, true, true, true, true, true, true, true, false, false, false, false, false, false, false, false, false] rfl rfl (any_of HT_.out (by kernel_rfl)) (fun _ _ _ h => h) (Or.inr ⟨by rfl, rfl⟩) ?_ ?_
                      rotate_left
                      · simp only [Act.put, sA_, sZ_, sS_, i64_w, i32_w]
                        rfl
                      refine pure_ (i := 20) (N := some 51) (v := undef) (a' := ?_) #[true, true, true, true, true, true, true, true, true, true, true, true, true, true, true, true, true, true, true, true, true, false, false, false, false, false, false, false, false] rfl rfl (any_of HT_.out (by kernel_rfl)) (fun _ _ _ h => h) (Or.inr ⟨by rfl, rfl⟩) ?_ ?_
                      rotate_left
                      · simp only [Act.put, sA_, sZ_, sS_, i64_w, i32_w]
                        rfl
                      refine pure_ (i := 21) (N := some 52) (v := ?_) (a' := ?_) #[true, true, true, true, true, true, true, true, true, true, true, true, true, true, true, true, true, true, true, true, true, true, false, false, false, false, false, false, false] rfl rfl (any_of HT_.out (by kernel_rfl)) (fun _ _ _ h => h) (Or.inl ⟨by rfl, ?_⟩) ?_ ?_
                      rotate_left
                      · intro w'
                        go_simp
                        with_reducible rfl
                      rotate_left
                      · simp only [Act.put, sA_, sZ_, sS_, i64_w, i32_w]
                        rfl
                      refine pure_ (i := 22) (N := some 53) (v := ?_) (a' := ?_) #[true, true, true, true, true, true, true, true, true, true, true, true, true, true, true, true, true, true, true, true, true, true, true, false, false, false, false, false, false] rfl rfl (any_of HT_.out (by kernel_rfl)) (fun _ _ _ h => h) (Or.inl ⟨by rfl, ?_⟩) ?_ ?_
                      rotate_left
                      · intro w'
                        go_simp
                        with_reducible rfl
                      rotate_left
                      · simp only [Act.put, sA_, sZ_, sS_, i64_w, i32_w]
                        rfl
                      refine pure_ (i := 23) (N := some 54) (v := undef) (a' := ?_) #[true, true, true, true, true, true, true, true, true, true, true, true, true, true, true, true, true, true, true, true, true, true, true, true, false, false, false, false, false] rfl rfl (any_of HT_.out (by kernel_rfl)) (fun _ _ _ h => h) (Or.inr ⟨by rfl, rfl⟩) ?_ ?_
                      rotate_left
                      · simp only [Act.put, sA_, sZ_, sS_, i64_w, i32_w]
                        rfl
                      refine pure_ (i := 24) (N := some 55) (v := undef) (a' := ?_) #[true, true, true, true, true, true, true, true, true, true, true, true, true, true, true, true, true, true, true, true, true, true, true, true, true, false, false, false, false] rfl rfl (any_of HT_.out (by kernel_rfl)) (fun _ _ _ h => h) (Or.inr ⟨by rfl, rfl⟩) ?_ ?_
                      rotate_left
                      · simp only [Act.put, sA_, sZ_, sS_, i64_w, i32_w]
                        rfl
                      refine pure_ (i := 25) (N := some 56) (v := undef) (a' := ?_) #[true, true, true, true, true, true, true, true, true, true, true, true, true, true, true, true, true, true, true, true, true, true, true, true, true, true, false, false, false] rfl rfl (any_of HT_.out (by kernel_rfl)) (fun _ _ _ h => h) (Or.inr ⟨by rfl, rfl⟩) ?_ ?_
                      rotate_left
                      · simp only [Act.put, sA_, sZ_, sS_, i64_w, i32_w]
                        rfl
                      refine pure_ (i := 26) (N := some 57) (v := undef) (a' := ?_) #[true, true, true, true, true, true, true, true, true, true, true, true, true, true, true, true, true, true, true, true, true, true, true, true, true, true, true, false, false] rfl rfl (any_of HT_.out (by kernel_rfl)) (fun _ _ _ h => h) (Or.inr ⟨by rfl, rfl⟩) ?_ ?_
                      rotate_left
                      · simp only [Act.put, sA_, sZ_, sS_, i64_w, i32_w]
                        rfl
                      refine pure_ (i := 27) (N := some 58) (v := undef) (a' := ?_) #[true, true, true, true, true, true, true, true, true, true, true, true, true, true, true, true, true, true, true, true, true, true, true, true, true, true, true, true, false] rfl rfl (any_of HT_.out (by kernel_rfl)) (fun _ _ _ h => h) (Or.inr ⟨by rfl, rfl⟩) ?_ ?_
                      rotate_left
                      · simp only [Act.put, sA_, sZ_, sS_, i64_w, i32_w]
                        rfl
                      refine pure_ (i := 28) (N := some 59) (v := ?_) (a' := ?_) #[true, true, true, true, true, true, true, true, true, true, true, true, true, true, true, true, true, true, true, true, true, true, true, true, true, true, true, true, true] rfl rfl (any_of HT_.out (by kernel_rfl)) (fun _ _ _ h => h) (Or.inl ⟨by rfl, ?_⟩) ?_ ?_
                      rotate_left
                      · intro w'
                        go_simp
                        with_reducible rfl
                      rotate_left
                      · simp only [Act.put, sA_, sZ_, sS_, i64_w, i32_w]
                        rfl
                      refine done_ (done_of HT_.out (by kernel_rfl)) ?_
                      try go_wp2
                      go_meet
                      case rel => exact ⟨_, (true), (t234), (t235), (by first|rfl|(simp; done)|(simp [*]; done)), H', ⟨by have := HK1.out; have := HJ5.out; first|omega|exact Nat.le_refl _⟩, ⟨by (with_reducible repeat first|refine bN_ ?_ _|refine bD_ ?_|refine bA_ ?_ _); exact BK218.out⟩, ⟨by (with_reducible repeat first|refine bN_ ?_ _|refine bD_ ?_|refine bA_ ?_ _); exact BK225.out⟩, ⟨by (with_reducible repeat first|refine bN_ ?_ _|refine bD_ ?_|refine bA_ ?_ _); exact BK226.out⟩, ⟨by repeat (first|(with_reducible first|exact HI217.out|apply IsS66.alloc|apply IsS66.drewN|apply IsS66.drew|apply IsS66.set_0|apply IsS66.set_1|refine IsS66.far ?_ NB217_218.out _|refine IsS66.far ?_ NB217_225.out _|refine IsS66.far ?_ NB217_226.out _)|exact HI217.out)⟩, ⟨by repeat (first|(with_reducible first|exact HB.out|apply ba_|apply pN_|apply b1_|refine bs_ ?_ (IsS66.ge HI217.out)|refine bs_ ?_ GE218.out|refine bs_ ?_ GE225.out|refine bs_ ?_ GE226.out)|exact HB.out)⟩⟩
                case rest =>
                  clear HC12
                  try clear p2
                  try clear q2
                  try clear hx2
                  try clear c3
                  try clear c4
                  try clear p22
                  try clear q22
                  try clear hx22
                  try clear c36
                  try clear c36b0
                  try clear c36b1
                  try clear c40
                  try clear c41
                  try clear c44
                  try clear hx227_0
                  try clear hx227_1
                  try clear p227
                  try clear q227
                  obtain ⟨kq, x59_11, x218000_11, x218001_11, rfl, HA, HJ11, BK218, BK225, BK226, HI217, HB⟩ := hcut
                  cases kq with
                  | zero => exact absurd HA.out (by simp [logjamlaw19_BarrierPlays.j2])
                  | succ kj11 =>
                    have H := HA.out
                    clear HA
                    simp only [logjamlaw19_BarrierPlays.j2] at H
                    by_cases c57 : x59_11 = true
                    · subst c57
                      have H1 : (some false) = some r := by rw [if_pos rfl] at H; exact H
                      clear H
                      have H := H1
                      clear H1
                      obtain rfl := Option.some.inj H
                      go_wp2
                      go_ret
                      exact ⟨by first|rfl|(simp [errW_none, errW_some] <;> rfl)|(simp [*, errW_none, errW_some] <;> rfl), by repeat (first|(with_reducible first|exact HB.out|apply ba_|apply pN_|apply b1_|refine bs_ ?_ (IsS66.ge HI217.out)|refine bs_ ?_ GE218.out|refine bs_ ?_ GE225.out|refine bs_ ?_ GE226.out)|exact HB.out)⟩
                    · replace c57 := Bool.eq_false_iff.mpr c57
                      subst c57
                      have H1 : (logjamlaw19_BarrierPlays.l0 kj11 l0 (wrap64 (x5_1 + 1)) x218000_11 x218001_11 t220 t221) = some r := by rw [if_neg (show ¬ (false = true) by decide)] at H; exact H
                      clear H
                      have H := H1
                      clear H1
                      have H' := A0_ H
                      clear H
                      go_wp2
                      go_roundg kj11
                      case measure => have := HK1.out; have := HJ5.out; have := HJ11.out; omega
                      case rel => exact ⟨(wrap64 (x5_1 + 1)), (x218000_11), (x218001_11), (t220), (t221), (by first|rfl|(simp; done)|(simp [*]; done)), H', ⟨by have := HK1.out; have := HJ5.out; have := HJ11.out; omega⟩, ⟨by (with_reducible repeat first|refine bN_ ?_ _|refine bD_ ?_|refine bA_ ?_ _); exact BK218.out⟩, ⟨by repeat (first|(with_reducible first|exact HI217.out|apply IsS66.alloc|apply IsS66.drewN|apply IsS66.drew|apply IsS66.set_0|apply IsS66.set_1|refine IsS66.far ?_ NB217_218.out _|refine IsS66.far ?_ NB217_225.out _|refine IsS66.far ?_ NB217_226.out _)|exact HI217.out)⟩, ⟨by repeat (first|(with_reducible first|exact HB.out|apply ba_|apply pN_|apply b1_|refine bs_ ?_ (IsS66.ge HI217.out)|refine bs_ ?_ GE218.out|refine bs_ ?_ GE225.out|refine bs_ ?_ GE226.out)|exact HB.out)⟩⟩
              · rw [if_neg c10] at H
                exact absurd H (by simp)
            · rw [if_neg c9] at H
              exact absurd H (by simp)
          · replace c8 := Bool.eq_false_iff.mpr c8
            subst c8
            have H1 : ((logjamlaw19_lives.f).bind fun t243 => (some t243)) = some r := by rw [if_neg (show ¬ (false = true) by decide)] at H; exact H
            clear H
            have H := H1
            clear H1
            replace H := bm_ H
            obtain ⟨t243, A580, H⟩ := H
            replace H : (some t243) = some r := H
            have A58 := A0_ A580
            clear A580
            obtain rfl := Option.some.inj H
            go_wp2_with (first|((with_reducible refine gate_callee (f := 42) rfl ?_); refine goesL_ (some 60) rfl rfl Try.func42 (by kernel_rfl) rfl #[] rfl (by first|(simp only [List.map_toArray, List.map_cons, List.map_nil] <;> rfl)|rfl|(simp only [List.length_drop, List.length_take]; rfl)) ?_; (with_reducible refine (logjamlaw19_lives.calls  t243 _ A58.out).mono ?_); rintro e w59 ⟨rfl, hb⟩; refine ⟨_, rfl, ?_⟩; have n0_ := A0_ (blk_below (g := gb218) (o := .cells #[.int .u64 x219000_1, .int .u64 x219001_1] 74 (0, 0)) (by (with_reducible repeat first|refine bN_ ?_ _|refine bD_ ?_|refine bA_ ?_ _); exact BK218.out) hb); have n1_ := A0_ (IsS66.below (by repeat (first|(with_reducible first|exact HI217.out|apply IsS66.alloc|apply IsS66.drewN|apply IsS66.drew|apply IsS66.set_0|apply IsS66.set_1|refine IsS66.far ?_ NB217_218.out _)|exact HI217.out)) hb); have n2_ := A0_ (below_step (by repeat (first|(with_reducible first|exact HB.out|apply ba_|apply pN_|apply b1_|refine bs_ ?_ (IsS66.ge HI217.out)|refine bs_ ?_ GE218.out)|exact HB.out)) hb); clear BK218; clear HI217; clear HB; have BK218 := n0_; have HI217 := n1_; have HB := n2_; clear n0_ n1_ n2_; (try clear hb); (try clear hb2); (try clear hk); (try clear hi)))
            go_ret
            exact ⟨by first|rfl|(simp [errW_none, errW_some] <;> rfl)|(simp [*, errW_none, errW_some] <;> rfl), by repeat (first|(with_reducible first|exact HB.out|apply ba_|apply pN_|apply b1_|refine bs_ ?_ (IsS66.ge HI217.out)|refine bs_ ?_ GE218.out)|exact HB.out)⟩

/-- THE ONE PURE STATEMENT of logjamlaw19_BarrierPlays: yours. -/
def ok80 (s : S80) : Prop := (fun x => (Lit.int .i64 x).wf = true) s.f0 ∧ (fun x => (Lit.int .i64 x).wf = true) s.f1
def logjamlaw19_BarrierPlays.Pure : Prop := ∀ (l0 : List (S80)), (fun l => (∀ a ∈ l, (ok80) a) ∧ l.length * 16 ≤ 140737488351232) l0 → ∃ k, logjamlaw19_BarrierPlays.f k l0 = some true

end Go.Proofs.Ytbnkanlfepdlkaa.PBarrierPlays
