/- Places: what is asked. Conditions: none. -/
import Derived.Test.YtjcjhmnfknenlaaPl1
namespace Go.Proofs.Ytjcjhmnfknenlaa.Pl
open Go.RowKit Go.Proofs.YtjcjhmnfknenlaaW.PrintWords Go.Proofs.YtjcjhmnfknenlaaW.PrintLast Go.Proofs.YtjcjhmnfknenlaaW.PrintMore
open Rg (Chg Row row_back row_popback row_popfront row_all row_new row_clone two refDo)
set_option linter.unusedVariables false
set_option linter.unusedSimpArgs false

section
variable {S : Nat → Prop} {W W' : World} {gp bl cl : Nat} {A : Pa} {ex : List Value} {r : Nat → Rk} {q : Rk}
set_option maxHeartbeats 2000000 in
set_option maxRecDepth 100000 in
theorem at_out (h : At S W gp A bl cl ex r q) (x : Int) (hx : x < 0 ∨ (A.n : Int) ≤ x) : Calls Try.prog 29 #[.pointer (some ⟨gp, 0, none⟩), .int .i64 x] W fun e w' => e = .returned (.pointer none) ∧ w' = W := by
  have hu57 := Try.underlying57
  have hu54 := Try.underlying54
  have c0 := h.c0
  clear h
  generalize A.n = n at *
  by_cases h0 : x < 0
  · have d0 : decide (x < 0) = true := decide_eq_true h0
    clear hx
    go_enter Try.func29, Try.ntmps29
    go_wp2
    go_ret
    exact ⟨rfl, rfl⟩
  · have d0 : decide (x < 0) = false := decide_eq_false h0
    have d1 : decide ((n : Int) ≤ x) = true := decide_eq_true (by omega)
    clear hx
    go_enter Try.func29, Try.ntmps29
    go_wp2
    go_ret
    exact ⟨rfl, rfl⟩
set_option maxHeartbeats 2000000 in
set_option maxRecDepth 100000 in
theorem at_in (h : At S W gp A bl cl ex r q) {i : Nat} (hi : i < A.n) : Calls Try.prog 29 #[.pointer (some ⟨gp, 0, none⟩), .int .i64 (i : Int)] W fun e w' => e = .returned (.pointer (some ⟨bl, i * 3, none⟩)) ∧ w' = W := by
  have hu57 := Try.underlying57
  have hu54 := Try.underlying54
  have hu59 := Try.underlying59
  have c0 := h.c0
  clear h
  generalize A.n = n at *
  have d0 : decide ((i : Int) < 0) = false := decide_eq_false (by omega)
  have d1 : decide ((n : Int) ≤ (i : Int)) = false := decide_eq_false (by omega)
  have d2 : decide (n ≤ i) = false := decide_eq_false (by omega)
  have p1 : (0 ≤ (i : Int)) = True := eq_true (by omega)
  have p2 : ((i : Int) < (n : Int)) = True := eq_true (by omega)
  go_enter Try.func29, Try.ntmps29
  go_wp2
  go_ret
  exact ⟨by simp, rfl⟩
/-- On, Where. -/
def on (A : Pa) (x : Int) : Int := if 0 ≤ x ∧ x < (A.n : Int) then A.runs x.toNat - 1 else -1
def wher (A : Pa) (t : Int) : Int := if 0 ≤ t ∧ t < 64 then A.wh t.toNat else 0
/-- Numbers that are kept. -/
def Rg64 (x : Int) : Prop := 0 ≤ x ∧ x ≤ 64
/-- Numbers in their bounds. -/
structure Ok (A : Pa) : Prop where
  runs : ∀ i, i < A.n → Rg64 (A.runs i)
  wh : ∀ t, t < 64 → 0 ≤ A.wh t ∧ A.wh t ≤ 3
  own : ∀ i, i < A.n → ∀ t ∈ A.own i, 0 ≤ t ∧ t < 64
  gl : ∀ t ∈ A.gl, 0 ≤ t ∧ t < 64
set_option maxHeartbeats 2000000 in
set_option maxRecDepth 100000 in
theorem on_any (h : At S W gp A bl cl ex r q) (hr : ∀ i, i < A.n → Rg64 (A.runs i)) (x : Int) : Calls Try.prog 11 #[.pointer (some ⟨gp, 0, none⟩), .int .i64 x] W fun e w' => e = .returned (.int .i64 (on A x)) ∧ w' = W := by
  have hu59 := Try.underlying59
  by_cases hx : x < 0 ∨ (A.n : Int) ≤ x
  · have HC := Aside0.mk (at_out h x hx)
    have HV := Aside0.mk (show on A x = -1 from by unfold on; rw [if_neg (by omega)])
    clear h hr hx
    rw [HV.out]
    go_enter Try.func11, Try.ntmps11
    go_wp2_with (go_at_call 29; (refine HC.out.mono ?_); rintro e w1 ⟨rfl, rfl⟩)
    go_ret
    exact ⟨rfl, rfl⟩
  · obtain ⟨i, rfl⟩ : ∃ i : Nat, x = (i : Int) := ⟨x.toNat, by omega⟩
    have hi : i < A.n := by omega
    have HC := Aside0.mk (at_in h hi)
    have HV := Aside0.mk (show on A (i : Int) = A.runs i - 1 from by unfold on; rw [if_pos (by omega), Int.toNat_natCast])
    have c0 := h.w0 hi
    have ew : Aside0 (wrap64 (A.runs i - 1) = A.runs i - 1) := ⟨by have := hr i hi; unfold Rg64 at this; unfold wrap64; omega⟩
    rw [HV.out]
    clear h hr hx HV hi
    generalize A.runs i = u at *
    go_enter Try.func11, Try.ntmps11
    go_wp2_with (go_at_call 29; (refine HC.out.mono ?_); rintro e w1 ⟨rfl, rfl⟩)
    go_ret
    exact ⟨congrArg (fun x => Ending.returned (Value.int .i64 x)) ew.out, rfl⟩
set_option maxHeartbeats 2000000 in
set_option maxRecDepth 100000 in
theorem where_any (h : At S W gp A bl cl ex r q) (hr : ∀ t, t < 64 → 0 ≤ A.wh t ∧ A.wh t ≤ 3) (t : Int) : Calls Try.prog 20 #[.pointer (some ⟨gp, 0, none⟩), .int .i64 t] W fun e w' => e = .returned (.int .i64 (wher A t)) ∧ w' = W := by
  have hu57 := Try.underlying57
  by_cases hx : 0 ≤ t ∧ t < 64
  · obtain ⟨i, rfl⟩ : ∃ i : Nat, t = (i : Int) := ⟨t.toNat, by omega⟩
    have HV := Aside0.mk (show wher A (i : Int) = A.wh i from by unfold wher; rw [if_pos hx, Int.toNat_natCast])
    have c0 := h.cw (t := i) (by omega)
    have hw := hr i (by omega)
    have d0 : decide ((i : Int) < 0) = false := decide_eq_false (by omega)
    have d1 : decide ((64 : Int) ≤ (i : Int)) = false := decide_eq_false (by omega)
    have d2 : decide (64 ≤ i) = false := decide_eq_false (by omega)
    have p1 : (0 ≤ (i : Int)) = True := eq_true (by omega)
    have p2 : ((i : Int) < 64) = True := eq_true (by omega)
    rw [HV.out]
    clear h hr hx HV
    generalize A.wh i = v at *
    have ew : IntKind.i64.wrap v = v := by rw [i64_w]; unfold wrap64; omega
    clear hw
    go_enter Try.func20, Try.ntmps20
    go_wp2
    go_ret
    exact ⟨rfl, rfl⟩
  · have HV := Aside0.mk (show wher A t = 0 from by unfold wher; rw [if_neg hx])
    rw [HV.out]
    clear h hr HV
    by_cases h0 : t < 0
    · have d0 : decide (t < 0) = true := decide_eq_true h0
      clear hx
      go_enter Try.func20, Try.ntmps20
      go_wp2
      go_ret
      exact ⟨rfl, rfl⟩
    · have d0 : decide (t < 0) = false := decide_eq_false h0
      have d1 : decide ((64 : Int) ≤ t) = true := decide_eq_true (by omega)
      clear hx
      go_enter Try.func20, Try.ntmps20
      go_wp2
      go_ret
      exact ⟨rfl, rfl⟩
set_option maxHeartbeats 2000000 in
theorem workers_any (h : At S W gp A bl cl ex r q) : Calls Try.prog 10 #[.pointer (some ⟨gp, 0, none⟩)] W fun e w' => e = .returned (.int .i64 (A.n : Int)) ∧ w' = W := by
  have hu57 := Try.underlying57
  have hu54 := Try.underlying54
  have c0 := h.c0
  clear h
  go_enter Try.func10, Try.ntmps10
  go_wp2
  go_ret
  exact ⟨rfl, rfl⟩
set_option maxHeartbeats 2000000 in
theorem global_any (h : At S W gp A bl cl ex r q) : Calls Try.prog 18 #[.pointer (some ⟨gp, 0, none⟩)] W fun e w' => ∃ v, e = .returned v ∧ Below W.heap.size W w' ∧ w'.ownsRow W.heap.size 3 1 v A.gl.length (nums .i64 A.gl) := by
  have hu57 := Try.underlying57
  have c1 := h.c1
  have HC := Aside0.mk (row_all h.glob)
  clear h
  go_enter Try.func18, Try.ntmps18
  go_wp2_with (go_at_call 40; (refine HC.out.mono ?_); rintro e w1 ⟨v, rfl, hb, ho⟩; have HB := Aside0.mk hb; have HO := Aside0.mk ho; clear hb ho)
  go_ret
  exact ⟨v, rfl, HB.out, HO.out⟩
set_option maxHeartbeats 2000000 in
theorem own_in (h : At S W gp A bl cl ex r q) {i : Nat} (hi : i < A.n) : Calls Try.prog 19 #[.pointer (some ⟨gp, 0, none⟩), .int .i64 (i : Int)] W fun e w' => ∃ v, e = .returned v ∧ Below W.heap.size W w' ∧ w'.ownsRow W.heap.size 3 1 v (A.own i).length (nums .i64 (A.own i)) := by
  have hu59 := Try.underlying59
  have c2 := h.w2 hi
  have HC := Aside0.mk (row_all (h.own i hi))
  have HA := Aside0.mk (at_in h hi)
  clear h hi
  go_enter Try.func19, Try.ntmps19
  go_wp2_with (first
    | (go_at_call 29; (refine HA.out.mono ?_); rintro e w1 ⟨rfl, rfl⟩)
    | (go_at_call 40; (refine HC.out.mono ?_); rintro e w1 ⟨v, rfl, hb, ho⟩; have HB := Aside0.mk hb; have HO := Aside0.mk ho; clear hb ho))
  go_ret
  exact ⟨v, rfl, HB.out, HO.out⟩
set_option maxHeartbeats 2000000 in
theorem own_out (h : At S W gp A bl cl ex r q) (x : Int) (hx : x < 0 ∨ (A.n : Int) ≤ x) : Calls Try.prog 19 #[.pointer (some ⟨gp, 0, none⟩), .int .i64 x] W fun e w' => e = .returned (.slice none 0 0) ∧ w' = W := by
  have HA := Aside0.mk (at_out h x hx)
  clear h hx
  go_enter Try.func19, Try.ntmps19
  go_wp2_with (go_at_call 29; (refine HA.out.mono ?_); rintro e w1 ⟨rfl, rfl⟩)
  go_ret
  exact ⟨rfl, rfl⟩
end
end Go.Proofs.Ytjcjhmnfknenlaa.Pl
