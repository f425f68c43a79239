/- Timers: lives. Conditions: none. -/
import Derived.Test.YtlggjacghemakaaTr1
namespace Go.Proofs.Ytlggjacghemakaa.Tm
open Go.RowKit Go.Proofs.YtlggjacghemakaaW.PrintWords Go.Proofs.YtlggjacghemakaaW.PrintLast
set_option linter.unusedVariables false
set_option linter.unusedSimpArgs false
theorem live_first {W : World} {base g n : Nat} {S : Nat → Prop} (h : TR W base g n (rSet (rSet [] 1 9) 2 5) S) : Calls Try.prog 20 #[.pointer (some ⟨g, 0, none⟩)] W fun e w' => e = .returned (.tuple #[.int .i64 2, .int .i64 5, .bool true]) ∧ Below W.heap.size W w' := by
  have h2 := first_r h
  rw [show (if 0 < (rSet (rSet [] 1 9) 2 5).length then (fst_ (rSet (rSet [] 1 9) 2 5)).2 else 0) = 2 from by decide, show (if 0 < (rSet (rSet [] 1 9) 2 5).length then (fst_ (rSet (rSet [] 1 9) 2 5)).1 else 0) = 5 from by decide, show decide (0 < (rSet (rSet [] 1 9) 2 5).length) = true from by decide] at h2
  exact h2
theorem live_due {W : World} {base g n : Nat} {S : Nat → Prop} (h : TR W base g n (rSet (rSet [] 1 9) 2 5) S) (hn : n ≤ 1000000000) : Calls Try.prog 12 #[.pointer (some ⟨g, 0, none⟩), .int .i64 9] W fun e w' => ∃ gl c, e = .returned (.slice (some ⟨gl, 0, none⟩) 2 c) ∧ w'.cell? ⟨gl, 1, none⟩ = some (.int .i64 1) ∧
    Aside0 (∃ S', TR w' base g (n + 1000000) [] S' ∧ ∀ k, S' k → S k ∨ W.heap.size ≤ k) ∧ Chg S W w' := by
  have h2 := due_r h 9 (by decide) hn
  rw [show rDue (rSet (rSet [] 1 9) 2 5).length 9 (rSet (rSet [] 1 9) 2 5) [] = ([2, 1], []) from by decide] at h2
  refine h2.mono fun e w' ⟨v, he, hr, ht, hc⟩ => ?_
  obtain ⟨gl, c, rfl, _⟩ := Kd.R_form hr.out (by decide)
  have := (Kd.R_celln (0 : Int) hr.out 1 (by decide) (by decide)).1
  exact ⟨gl, c, he, this, ht, hc⟩
set_option maxHeartbeats 4000000 in
set_option maxRecDepth 100000 in
theorem lives_any (W : World) : Calls Try.prog 16 #[] W fun e w' => e = .returned (.bool true) ∧ Below W.heap.size W w' := by
  have hu28 := Try.underlying28
  go_enter Try.func16, Try.ntmps16
  go_wp2_with (first
    | ((with_reducible refine gate_dst (N := 7) rfl ?_); refine box_event ?hg (N := 7) ?hd (cs := #[.slice none 0 0, .map none]) (t := 28) ?hr ?_; (case hd => rfl); (case hg => rfl); (case hr => first | (go_simp; done) | (go_simp; rfl)); intro g hg w1 hbox hb; have T1 := Aside0.mk (TR.new hbox (show W.heap.size ≤ g from by omega)); have C1 := Aside0.mk hb; have GE := Aside0.mk (show W.heap.size ≤ g from by omega); clear hbox hb hg)
    | (go_at_call 10; have q := T2; clear q; refine (set_r T2.out.1 (id := 2) (at_ := 5) (by decide) (by decide) (by omega) (by have := C2.out.size; omega)).mono ?_; rintro e w3 ⟨rfl, ⟨⟨S3, t3, s3⟩⟩, hc⟩; have T3 := Aside0.mk (show TR w3 W.heap.size g _ _ S3 ∧ ∀ k, S3 k → W.heap.size ≤ k from ⟨t3, t3.base_le⟩); have C3 := Aside0.mk (Chg.below C2.out hc C2.out.size T2.out.2); clear t3 s3 hc)
    | (go_at_call 10; refine (set_r T1.out (id := 1) (at_ := 9) (by decide) (by decide) (by omega) (by have := C1.out.size; omega)).mono ?_; rintro e w2 ⟨rfl, ⟨⟨S2, t2, s2⟩⟩, hc⟩; have T2 := Aside0.mk (show TR w2 W.heap.size g _ _ S2 ∧ ∀ k, S2 k → W.heap.size ≤ k from ⟨t2, t2.base_le⟩); have C2 := Aside0.mk (Chg.below C1.out hc C1.out.size T1.out.base_le); clear t2 s2 hc)
    | (go_at_call 20; refine (live_first T3.out.1).mono ?_; rintro e w4 ⟨rfl, hb⟩; have T4 := Aside0.mk (show TR w4 W.heap.size g _ _ S3 ∧ ∀ k, S3 k → W.heap.size ≤ k from ⟨T3.out.1.below hb, T3.out.2⟩); have C4 := Aside0.mk (below_step C3.out hb); clear hb)
    | (go_at_call 12; refine (live_due T4.out.1 (by omega)).mono ?_; rintro e w5 ⟨gl, c, rfl, hl, ⟨⟨S5, t5, s5⟩⟩, hc⟩; have T5 := Aside0.mk t5; have C5 := Aside0.mk (Chg.below C4.out hc C4.out.size T4.out.2); clear t5 s5 hc)
    | (go_at_call 15; refine (len_r T5.out).mono ?_; rintro e w6 ⟨rfl, rfl⟩))
  go_ret
  exact ⟨rfl, C5.out⟩
end Go.Proofs.Ytlggjacghemakaa.Tm
