/- Timers: First, At. Conditions: none. -/
import Derived.Test.YtlggjacghemakaaTm6
namespace Go.Proofs.Ytlggjacghemakaa.Tm
open Go.RowKit Go.Proofs.YtlggjacghemakaaW.PrintWords Go.Proofs.YtlggjacghemakaaW.PrintLast
open Go.Maps (int_keyed keyOf_int_mk)
set_option linter.unusedVariables false
set_option linter.unusedSimpArgs false
section
variable {W W' : World} {base g n : Nat} {xs : List (Int × Int)} {p : Int → Option Int} {S S2 : Nat → Prop}
set_option maxHeartbeats 4000000 in
set_option maxRecDepth 100000 in
theorem first_nil (h : TT W base g n [] p S) : Calls Try.prog 20 #[.pointer (some ⟨g, 0, none⟩)] W fun e w' => e = .returned (.tuple #[.int .i64 0, .int .i64 0, .bool false]) ∧ Below W.heap.size W w' := by
  have hl := len_any h
  clear h
  go_enter Try.func20, Try.ntmps20
  go_wp2_with (go_at_call 15; refine hl.mono ?_; rintro e w3 ⟨rfl, rfl⟩)
  refine bodyPost_ret (results_tmp3 rfl _ _ _) rfl ?_
  exact ⟨rfl, Below.refl _ _⟩
set_option maxHeartbeats 4000000 in
set_option maxRecDepth 100000 in
theorem first_some (h : TT W base g n xs p S) (hx : 0 < xs.length) : Calls Try.prog 20 #[.pointer (some ⟨g, 0, none⟩)] W fun e w' => e = .returned (.tuple #[.int .i64 (xs.getD 0 (0, 0)).2, .int .i64 (xs.getD 0 (0, 0)).1, .bool true]) ∧ Below W.heap.size W w' := by
  have hu28 := Try.underlying28
  have hu77 := Try.underlying77
  have hl := len_any h
  rcases h with ⟨v, h, rfl, rfl, rfl⟩ | ⟨gh, m, c, b, h, rfl⟩
  · exact absurd hx (by decide)
  have c0 := h.c0
  obtain ⟨a0, a1, _, _⟩ := h.at (i := 0) hx
  rw [Nat.zero_mul] at a0 a1
  rw [Nat.zero_add] at a1
  have hm := h.len
  have p2 : ((0 : Int) < (m : Int)) = True := eq_true (by omega)
  have p3 : (0 < m) = True := eq_true (by omega)
  have d1 : ((xs.length : Int) == 0) = false := beq_eq_false_iff_ne.2 (by omega)
  have d2 : (xs.length == 0) = false := beq_eq_false_iff_ne.2 (by omega)
  clear h hx hm
  obtain ⟨y, hy⟩ : ∃ y, y = xs.getD 0 (0, 0) := ⟨_, rfl⟩
  rw [← hy] at a0 a1 ⊢
  clear hy
  obtain ⟨k, hk⟩ : ∃ k, k = xs.length := ⟨_, rfl⟩
  rw [← hk] at d1 d2 hl
  clear hk
  go_enter Try.func20, Try.ntmps20
  go_upto_region 3 with (go_at_call 15; refine hl.mono ?_; rintro e w3 ⟨rfl, rfl⟩)
  go_quiet (fail)
  go_wp2
  refine bodyPost_ret (results_tmp3 rfl _ _ _) rfl ?_
  exact ⟨rfl, pw_below_drewN (Below.refl _ _) _⟩
set_option maxHeartbeats 4000000 in
set_option maxRecDepth 100000 in
theorem at_none (h : TT W base g n xs p S) {id : Int} (wid : (Lit.int .i64 id).wf = true) (hid : p id = none) : Calls Try.prog 21 #[.pointer (some ⟨g, 0, none⟩), .int .i64 id] W fun e w' => e = .returned (.tuple #[.int .i64 0, .bool false]) ∧ Below W.heap.size W w' := by
  have hu28 := Try.underlying28
  rcases h with ⟨v, h, rfl, rfl, rfl⟩ | ⟨gh, m, c, b, h, rfl⟩
  · have c1 : W.cell? ⟨g, 1, none⟩ = some (.map none) := (blk_cell h.hg 1).trans rfl
    have hlook := Maps.look_nil (P := Try.prog) (w := W) true (int_keyed Try.underlying3) Try.underlying26 (z := .int .i64 0) (zero3 W) (keyOf_int_mk Try.underlying3 wid)
    simp only [if_true] at hlook
    clear h hid
    go_enter Try.func21, Try.ntmps21
    go_wp2
    refine bodyPost_ret (results_tmp2 rfl _ _ _) rfl ?_
    exact ⟨rfl, Below.refl _ _⟩
  · have c1 := h.c1
    have hlook := h.lookok wid
    rw [hid] at hlook
    have hlook : (Instr.lookup 26 (.map (some b)) (.int .i64 id) true).run Try.prog W = .ok (.tuple #[.int .i64 0, .bool false]) W := hlook
    clear h hid
    go_enter Try.func21, Try.ntmps21
    go_wp2
    refine bodyPost_ret (results_tmp2 rfl _ _ _) rfl ?_
    exact ⟨rfl, Below.refl _ _⟩
set_option maxHeartbeats 4000000 in
set_option maxRecDepth 100000 in
theorem at_some (h : TT W base g n xs p S) {id : Int} (wid : (Lit.int .i64 id).wf = true) {j : Nat} (hid : p id = some (j : Int)) (hj : j < xs.length) : Calls Try.prog 21 #[.pointer (some ⟨g, 0, none⟩), .int .i64 id] W fun e w' => e = .returned (.tuple #[.int .i64 (xs.getD j (0, 0)).1, .bool true]) ∧ Below W.heap.size W w' := by
  have hu28 := Try.underlying28
  have hu77 := Try.underlying77
  rcases h with ⟨v, h, rfl, rfl, rfl⟩ | ⟨gh, m, c, b, h, rfl⟩
  · cases hid
  have c0 := h.c0
  have c1 := h.c1
  have hlook := h.lookok wid
  rw [hid] at hlook
  have hlook : (Instr.lookup 26 (.map (some b)) (.int .i64 id) true).run Try.prog W = .ok (.tuple #[.int .i64 (j : Int), .bool true]) W := hlook
  obtain ⟨a0, a1, _, _⟩ := h.at hj
  have hm := h.len
  have p1 : ((0 : Int) ≤ (j : Int)) = True := eq_true (by omega)
  have p2 : ((j : Int) < (m : Int)) = True := eq_true (by omega)
  clear h hid hm
  obtain ⟨y, hy⟩ : ∃ y, y = xs.getD j (0, 0) := ⟨_, rfl⟩
  rw [← hy] at a0 a1 ⊢
  clear hy
  go_enter Try.func21, Try.ntmps21
  go_wp2
  refine bodyPost_ret (results_tmp2 rfl _ _ _) rfl ?_
  exact ⟨rfl, Below.refl _ _⟩
end
end Go.Proofs.Ytlggjacghemakaa.Tm
