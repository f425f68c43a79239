/- Whether two lists are one; the page's room; the law's own call of the package. Conditions: none beyond the lists' readings. -/
import Derived.Test.YtbnkanlfepdlkaaRing7
namespace Go.Proofs.Ytbnkanlfepdlkaa.Rg
open Go.RowKit Go.Proofs.YtbnkanlfepdlkaaW.PrintWords Go.Proofs.YtbnkanlfepdlkaaW.PrintLast Go.Proofs.YtbnkanlfepdlkaaW.PrintMore Ap
set_option linter.unusedSimpArgs false
set_option linter.unusedVariables false

theorem room_any (W : World) (x : Int) : Calls Try.prog 33 #[.int .i64 x] W fun e w' => e = .returned (.int .i64 (min (max x 0) 4096)) ∧ w' = W := by
  have e : (min (max x 0) 4096 : Int) = (if (if x < 0 then (0 : Int) else x) < 4096 then (if x < 0 then (0 : Int) else x) else 4096) := by
    split <;> split <;> omega
  rw [e]
  go_enter Try.func33, Try.ntmps33
  go_wp2
  all_goals go_ret
  all_goals try simp [*]
  all_goals (split at * <;> omega)
theorem same_any {W : World} {A0 A1 : Option Addr} {c0 c1 : Nat} {l : List Int} (h0 : ReadsInt W .i64 A0 l.length l) (h1 : ReadsInt W .i64 A1 l.length l) :
    Calls Try.prog 34 #[.slice A0 l.length c0, .slice A1 l.length c1] W fun e w' => e = .returned (.bool true) ∧ ∃ k, w' = W.drewN k := by
  have hb := h0.2.1
  have q0 : ((l.length : Int) != (l.length : Int)) = false := by simp
  go_enter Try.func34, Try.ntmps34
  go_wp2
  repeat (go_quiet (fail); try go_wp2)
  go_loopg [5] l.length (fun d v5 w' => ∃ i : Nat, d + i = l.length ∧ v5 = .int .i64 (i : Int) ∧ ∃ k, w' = W.drewN k)
  case atStart => exact ⟨0, by omega, rfl, 0, rfl⟩
  case round =>
    obtain ⟨i, hd, rfl, k, rfl⟩ := hrel
    rcases gk with _ | d
    · obtain rfl : i = l.length := by omega
      go_wp2
      go_ret
      exact ⟨rfl, _, rfl⟩
    · have hin : i < l.length := by omega
      have d1 : decide ((i : Int) < (l.length : Int)) = true := decide_eq_true (by omega)
      obtain ⟨a0, rfl, z0⟩ := h0.2.2 (by omega)
      obtain ⟨a1, rfl, z1⟩ := h1.2.2 (by omega)
      have y0 := z0 i hin
      have y1 := z1 i hin
      have p1 : (0 ≤ (i : Int)) = True := eq_true (by omega)
      have p2 : ((i : Int) < (l.length : Int)) = True := eq_true (by omega)
      have ht : (i : Int).toNat = i := rfl
      go_wp2
      repeat (go_quiet (fail); try go_wp2)
      all_goals go_roundg d
      case measure => omega
      case rel => exact ⟨i + 1, by omega, by simp, _, rfl⟩

section
variable {W : World} {g b c cap : Nat} {ex : List Value} {l : List Int}
theorem row_back' (h : Row W g b c ex cap l) (x : Int) {l' : List Int} {y : Int} {ok : Bool} (q : refDo l cap 0 x = (l', y, ok)) :
    Calls Try.prog 25 #[.pointer (some ⟨g, 0, none⟩), .int .i64 x] W fun e w' => e = .returned (.bool ok) ∧ Chg (two g b) W w' ∧ Row w' g b c ex cap l' := by
  have := row_back h x
  rw [q] at this
  exact this
theorem row_front' (h : Row W g b c ex cap l) (x : Int) {l' : List Int} {y : Int} {ok : Bool} (q : refDo l cap 1 x = (l', y, ok)) :
    Calls Try.prog 27 #[.pointer (some ⟨g, 0, none⟩), .int .i64 x] W fun e w' => e = .returned (.bool ok) ∧ Chg (two g b) W w' ∧ Row w' g b c ex cap l' := by
  have := row_front h x
  rw [q] at this
  exact this
theorem row_popback' (h : Row W g b c ex cap l) {l' : List Int} {y : Int} {ok : Bool} (q : refDo l cap 2 0 = (l', y, ok)) :
    Calls Try.prog 28 #[.pointer (some ⟨g, 0, none⟩)] W fun e w' => e = .returned (.tuple #[.int .i64 y, .bool ok]) ∧ Chg (two g b) W w' ∧ Row w' g b c ex cap l' := by
  have := row_popback h
  rw [q] at this
  exact this
theorem row_popfront' (h : Row W g b c ex cap l) {l' : List Int} {y : Int} {ok : Bool} (q : refDo l cap 3 0 = (l', y, ok)) :
    Calls Try.prog 26 #[.pointer (some ⟨g, 0, none⟩)] W fun e w' => e = .returned (.tuple #[.int .i64 y, .bool ok]) ∧ Chg (two g b) W w' ∧ Row w' g b c ex cap l' := by
  have := row_popfront h
  rw [q] at this
  exact this
end
theorem chg_below {W W1 W2 : World} {g b : Nat} (hB : Below W.heap.size W W1) (h : Chg (two g b) W1 W2) (h1 : W.heap.size ≤ g) (h2 : W.heap.size ≤ b) : Below W.heap.size W W2 :=
  Chg.below hB h hB.size (by rintro k (rfl | rfl) <;> assumption)
theorem lives_any (W : World) : Calls Try.prog 30 #[] W fun e w' => e = .returned (.bool true) ∧ Below W.heap.size W w' := by
  go_enter Try.func30, Try.ntmps30
  go_wp2_with (first
    | (go_at_call 24; refine (row_new _ 2 2 (by decide)).mono ?_; rintro e w1 ⟨g, b, rfl, hB0, hR0, hg, hb⟩)
    | (go_at_call 25; refine (row_back' hR0 1 (l' := [1]) (y := 0) (ok := true) (by decide)).mono ?_; rintro e w2 ⟨rfl, hC1, hR1⟩; have hB1 := chg_below hB0 hC1 hg hb; clear hR0)
    | (go_at_call 27; refine (row_front' hR1 3 (l' := [3, 1]) (y := 0) (ok := true) (by decide)).mono ?_; rintro e w3 ⟨rfl, hC2, hR2⟩; have hB2 := chg_below hB1 hC2 hg hb; clear hR1)
    | (go_at_call 25; refine (row_back' hR2 9 (l' := [3, 1]) (y := 0) (ok := false) (by decide)).mono ?_; rintro e w4 ⟨rfl, hC3, hR3⟩; have hB3 := chg_below hB2 hC3 hg hb; clear hR2)
    | (go_at_call 28; refine (row_popback' hR3 (l' := [3]) (y := 1) (ok := true) (by decide)).mono ?_; rintro e w5 ⟨rfl, hC4, hR4⟩; have hB4 := chg_below hB3 hC4 hg hb)
    | (go_at_call 29; refine (row_len hR4).mono ?_; rintro e w6 ⟨rfl, rfl⟩))
  all_goals go_ret
  all_goals exact ⟨rfl, hB4⟩
end Go.Proofs.Ytbnkanlfepdlkaa.Rg
