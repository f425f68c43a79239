/- RingPlays, walked: for every input it answers true. Conditions: none. -/
import Derived.Test.YtbnkanlfepdlkaaOkRingPlays
import Derived.Test.YtbnkanlfepdlkaaRing8
namespace Go.Proofs.Ytbnkanlfepdlkaa.ringPlaysW
open Go.RowKit Go.Proofs.Ytbnkanlfepdlkaa.PRingPlays Go.Proofs.YtbnkanlfepdlkaaW.PrintWords Go.Proofs.YtbnkanlfepdlkaaW.PrintLast Go.Proofs.YtbnkanlfepdlkaaW.PrintMore Ap Rg
set_option linter.unusedSimpArgs false
set_option linter.unusedVariables false

theorem _root_.Go.Proofs.Ytbnkanlfepdlkaa.Rg.Row.lt {W : World} {g b c cap : Nat} {ex : List Value} {l : List Int} (h : Row W g b c ex cap l) : g < W.heap.size ∧ b < W.heap.size := by
  obtain ⟨p, n, xs, h, rfl⟩ := h
  exact ⟨blk_lt h.hg, blk_lt h.hb⟩
theorem below_mono {B B' : Nat} {w w' : World} (h : Below B w w') (hb : B' ≤ B) : Below B' w w' := ⟨h.os, h.tape, h.output, h.size, fun k hk => h.block k (by omega)⟩
theorem refDo_len (l : List Int) (room kd x : Int) : (refDo l room kd x).1.length ≤ l.length + 1 := by
  unfold refDo
  repeat' split
  all_goals simp
  all_goals omega

set_option maxHeartbeats 3000000 in
theorem walk (a0 : Int) (A1 : Option Addr) (c1 : Nat) (l1 : List (S48)) (w : World) (hr1 : Kd.C k48 w A1 l1.length l1) (hc1 : l1.length ≤ c1) (w0 : (fun x => (Lit.int .i64 x).wf = true) a0) (w1 : (fun l => (∀ a ∈ l, (ok48) a) ∧ l.length * 16 ≤ 140737488351232) l1) :
    Calls Try.prog 7 #[.int .i64 a0, .slice A1 l1.length c1] w fun e w' => e = .returned (.bool true) ∧ Below w.heap.size w w' := by
  obtain ⟨c, hc⟩ : ∃ c : Nat, (c : Int) = min (max a0 0) 4096 := ⟨(min (max a0 0) 4096).toNat, by omega⟩
  go_enter Try.func7, Try.ntmps7
  go_wp2_with (first
    | (go_at_call 24; refine (row_new _ a0 c hc).mono ?_; rintro e wa ⟨g, b, rfl, hB0, hR0, hg, hb⟩))
  go_loopg [6, 7] 60 (fun d v6 v7 w' => ∃ (i : Nat) (l : List Int), d + i = 60 ∧ v7 = .int .i64 (i : Int) ∧ Below w.heap.size w w' ∧ Row w' g b c [] c l ∧ Own w' v6 l ∧ (∀ k, v6.ownBlock = some k → ¬ two g b k) ∧ l.length ≤ i)
  case atStart =>
    obtain ⟨l1', l2'⟩ := hR0.lt
    refine ⟨0, [], by omega, rfl, below_alloc hB0 _, hR0.below (below_alloc (Below.refl _ _) _), own_zero (own_new wa wa.heap.size 3 .i64 (Nat.le_refl _)) rfl, ?_, by simp⟩
    intro k hk
    have hk : wa.heap.size = k := by simpa [Value.ownBlock] using hk
    rintro (q | q) <;> omega
  case round =>
    obtain ⟨i, l, hd, rfl, HB, HR, HO, hap, hli⟩ := hrel
    have hl8 : l.length ≤ 8192 := by omega
    by_cases c1 : i < l1.length ∧ i < 60
    · have d1 : decide ((i : Int) < (l1.length : Int)) = true := decide_eq_true (by omega)
      have d2 : decide ((i : Int) < 60) = true := decide_eq_true (by omega)
      obtain ⟨ad, rfl, y0, y1⟩ := at_T48 hr1 (i : Int) (by omega) (by omega)
      have p1 : (0 ≤ (i : Int)) = True := eq_true (by omega)
      have p2 : ((i : Int) < (l1.length : Int)) = True := eq_true (by omega)
      have ht : (i : Int).toNat = i := rfl
      rw [ht] at y0 y1
      have b0 := World.block_lt_of_cell? _ _ y0
      have b1 := World.block_lt_of_cell? _ _ y1
      generalize rd_T48 l1 (i : Int) = x at y0 y1
      obtain ⟨kd, x⟩ := x
      have x0 := (HB.cell b0).trans y0
      have x1 := (HB.cell b1).trans y1
      have hD := do_any HR kd x
      have hF := fun W (h : Own W u6 l) => refdo_any h hl8 (c : Int) kd x
      have hlen := refDo_len l (c : Int) kd x
      have hroom : ∀ W, Calls Try.prog 33 #[.int .i64 a0] W fun e w' => e = .returned (.int .i64 (c : Int)) ∧ w' = W := fun W => by rw [hc]; exact room_any W a0
      clear hc
      generalize refDo l (c : Int) kd x = r at hD hF hlen
      obtain ⟨l', y, ok⟩ := r
      go_wp2_with (first
        | (go_at_call 31; refine hD.mono ?_; rintro e w2 ⟨rfl, hC, hR2⟩; have hB2 := chg_below HB hC hg hb; have hO2 := HO.kept hC hap; have z0 := (hB2.cell b0).trans y0; have z1 := (hB2.cell b1).trans y1))
      obtain ⟨lg, lb⟩ := hR2.lt
      go_region_with (first
        | (go_at_call 33; refine (hroom _).mono ?_; rintro e w' ⟨rfl, rfl⟩)
        | (go_at_call 32; refine (hF _ ?_).mono ?_; exact hO2.drewN _; rintro e w3 ⟨v3, rfl, hB3, hO3, hap3⟩))
      all_goals obtain ⟨A3, c3, rfl, hRd3⟩ := own_reads hO3
      all_goals have hR3 := (hR2.drewN 1).below hB3
      all_goals have hB4 := Below.trans (below_drew1 hB2) (below_mono hB3 hB2.size)
      all_goals
        have hap4 : ∀ k, (Value.slice A3 l'.length c3).ownBlock = some k → ¬ two g b k := by
          intro k hk
          rcases hap3 with q | q
          · exact hap k (by rw [← q]; exact hk)
          · have q := q k hk
            have q : w2.heap.size ≤ k := q
            rintro (q' | q') <;> omega
        go_wp2_with (first
          | (go_at_call 29; refine (row_len hR3).mono ?_; rintro e w' ⟨rfl, rfl⟩)
          | (go_at_call 35; refine (row_all hR3).mono ?_; rintro e w5 ⟨v5, rfl, hB5, hO5⟩; obtain ⟨A5, c5, rfl, hRd5⟩ := own_reads hO5; have hRd6 := hRd3.below hB5)
          | (go_at_call 34; refine (same_any hRd5 hRd6).mono ?_; rintro e w' ⟨rfl, k6, rfl⟩))
        cases gk with
        | zero => omega
        | succ d =>
          go_roundg d
          case measure => omega
          case rel =>
            have hB6 := Below.trans hB4 (below_mono hB5 hB4.size)
            exact ⟨i + 1, l', by omega, by simp, pw_below_drewN hB6 k6, (hR3.below hB5).drewN k6, (hO3.below hB5).drewN k6, hap4, by omega⟩
    · have e1 : ∀ w' : World, Below w.heap.size w w' → Calls Try.prog 30 #[] w' fun e w'' => e = .returned (.bool true) ∧ Below w.heap.size w w'' := fun w' h => (lives_any w').mono fun e w'' ⟨q1, q2⟩ => ⟨q1, Below.trans h (below_mono q2 h.size)⟩
      by_cases c2 : i < l1.length
      · have d1 : decide ((i : Int) < (l1.length : Int)) = true := decide_eq_true (by omega)
        have d2 : decide ((i : Int) < 60) = false := decide_eq_false (by omega)
        go_wp2_with (go_at_call 30; refine (e1 _ HB).mono ?_; rintro e w' ⟨rfl, hB7⟩)
        all_goals go_ret
        all_goals exact ⟨rfl, hB7⟩
      · have d1 : decide ((i : Int) < (l1.length : Int)) = false := decide_eq_false (by omega)
        go_wp2_with (go_at_call 30; refine (e1 _ HB).mono ?_; rintro e w' ⟨rfl, hB7⟩)
        all_goals go_ret
        all_goals exact ⟨rfl, hB7⟩
end Go.Proofs.Ytbnkanlfepdlkaa.ringPlaysW
