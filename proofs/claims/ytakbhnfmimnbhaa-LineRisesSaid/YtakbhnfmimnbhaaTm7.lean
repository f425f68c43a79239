/- Timers: First, At. Conditions: none. -/
import Derived.Test.YtakbhnfmimnbhaaTm6
namespace Go.Proofs.Ytakbhnfmimnbhaa.Tm
open Go.RowKit Go.Proofs.YtakbhnfmimnbhaaW.PrintWords Go.Proofs.YtakbhnfmimnbhaaW.PrintLast
open Go.Maps (int_keyed keyOf_int_mk)
set_option linter.unusedVariables false
set_option linter.unusedSimpArgs false
variable {sh : Shp}
section
variable {W W' : World} {base g n : Nat} {xs : List (Int × Int)} {p : Int → Option Int} {S S2 : Nat → Prop}
set_option maxHeartbeats 4000000 in
set_option maxRecDepth 100000 in
theorem first_nil (h : TT sh W base g n [] p S) : Calls Try.prog 79 #[.pointer (some ⟨g, sh.o, none⟩)] W fun e w' => e = .returned (.tuple #[.int .i64 0, .int .i64 0, .bool false]) ∧ Below W.heap.size W w' := by
  have hl := len_any h
  clear h
  go_enter Try.func79, Try.ntmps79
  go_wp2_with (go_at_call 95; refine hl.mono ?_; rintro e w3 ⟨rfl, rfl⟩)
  refine bodyPost_ret (results_tmp3 rfl _ _ _) rfl ?_
  exact ⟨rfl, Below.refl _ _⟩
set_option maxHeartbeats 4000000 in
set_option maxRecDepth 100000 in
theorem first_some (h : TT sh W base g n xs p S) (hx : 0 < xs.length) : Calls Try.prog 79 #[.pointer (some ⟨g, sh.o, none⟩)] W fun e w' => e = .returned (.tuple #[.int .i64 (xs.getD 0 (0, 0)).2, .int .i64 (xs.getD 0 (0, 0)).1, .bool true]) ∧ Below W.heap.size W w' := by
  have hu28 := Try.underlying42
  have hu77 := Try.underlying145
  have hl := len_any h
  rcases h with ⟨v, h, rfl, rfl, rfl⟩ | ⟨gh, m, c, b, h, rfl⟩
  · exact absurd hx (by decide)
  have c0 := h.c0
  obtain ⟨a0, a1, _, _⟩ := h.at (i := 0) hx
  rw [Nat.zero_mul] at a0 a1
  rw [Nat.zero_add] at a1
  have hm := h.len
  have p2 : ((0 : Int) < (m : Int)) = True := eq_true (by omega)
  have p3 : (0 < m) = True := eq_true (by omega)
  have d1 : ((xs.length : Int) == 0) = false := beq_eq_false_iff_ne.2 (by omega)
  have d2 : (xs.length == 0) = false := beq_eq_false_iff_ne.2 (by omega)
  clear h hx hm
  obtain ⟨y, hy⟩ : ∃ y, y = xs.getD 0 (0, 0) := ⟨_, rfl⟩
  rw [← hy] at a0 a1 ⊢
  clear hy
  obtain ⟨k, hk⟩ : ∃ k, k = xs.length := ⟨_, rfl⟩
  rw [← hk] at d1 d2 hl
  clear hk
  go_enter Try.func79, Try.ntmps79
  go_upto_region 3 with (go_at_call 95; refine hl.mono ?_; rintro e w3 ⟨rfl, rfl⟩)
  go_quiet (fail)
  go_wp2
  refine bodyPost_ret (results_tmp3 rfl _ _ _) rfl ?_
  exact ⟨rfl, pw_below_drewN (Below.refl _ _) _⟩
end
end Go.Proofs.Ytakbhnfmimnbhaa.Tm
