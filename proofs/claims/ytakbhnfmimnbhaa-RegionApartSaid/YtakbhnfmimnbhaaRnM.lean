/- Kinds of RegionPlays' arguments: frames (27 numbers each). Conditions: none. -/
import Derived.Test.YtakbhnfmimnbhaaRnL
import Derived.Test.YtakbhnfmimnbhaaRn3
namespace Go.Proofs.Ytakbhnfmimnbhaa.Rn
open Go.ChangeShapes Go.WideShapes Go.ChangeAt Go.RowKit Go.Proofs.YtakbhnfmimnbhaaW.PrintWords
set_option linter.unusedVariables false
set_option linter.unusedSimpArgs false
set_option linter.constructorNameAsVariable false

/-- n whole numbers. -/
def kA (n : Nat) : Kd (List Int) where
  sz := n
  E := []
  K := fun _ x cs => cs = nums .i64 x ∧ x.length = n
  M := fun _ _ _ x cs => cs = nums .i64 x ∧ x.length = n
  K_len := by
    rintro w x cs ⟨rfl, h⟩
    simpa [nums] using h
  K_one := by
    rintro w x cs ⟨rfl, h⟩ u hu
    simp only [nums, List.mem_map] at hu
    obtain ⟨q, _, rfl⟩ := hu
    rfl
  K_below := fun _ h => h
  K_of_M := fun h => h
  M_mono := fun _ h => h
  M_bound := fun h => h
  M_move := fun _ h => h
  M_lower := fun _ h => h
theorem opn_arr {H : Type} {enc : TypeId × Value → H} {w : World} {t n : Nat} (ht : Try.prog.underlying t = some (.array n 3)) (hc : Try.prog.cellsOf t = n) : Rw.Opn enc Try.prog w t (kA n) (fun _ => True) := by
  refine ⟨hc, fun base spare held fuel cs x h hw => ?_⟩
  obtain ⟨xs, m, h1, h2, hl, hn, hx⟩ := DataW.trod_array ht h
  have hc3 : Try.prog.cellsOf 3 = 1 := by kernel_rfl
  obtain ⟨f, e⟩ := nums_of cs (fun i hi => by
    have hin : i < n := by rw [hl, hc] at hi; exact hi
    have h3 := hx i hin
    rw [hc3, Nat.mul_one, List.getElem?_eq_getElem (by rw [hn]; exact hin)] at h3
    obtain ⟨a, ha, _⟩ := DataW.trod_int Try.underlying3 h3
    exact ⟨a, ha⟩)
  refine ⟨f, ⟨e, ?_⟩, trivial⟩
  have := congrArg List.length e
  rw [hl, hc] at this
  simpa [nums] using this.symm
theorem opn110 {H : Type} {enc : TypeId × Value → H} {w : World} : Rw.Opn enc Try.prog w 110 (kA 27) (fun _ => True) := by
  refine ⟨by kernel_rfl, fun base spare held fuel cs x h hw => ?_⟩
  have hl : cs.length = 27 := (Rw.struct_len Try.underlying110 h).trans (by kernel_rfl)
  obtain ⟨a0, q0, _⟩ := Rw.opn_field Try.underlying110 h hw 0 _ rfl (Rw.opn_int Try.underlying3 (by kernel_rfl))
  have k0 : (cs.drop 0).take 1 = [.int .i64 a0] := q0
  obtain ⟨a1, q1, _⟩ := Rw.opn_field Try.underlying110 h hw 1 _ rfl (Rw.opn_int Try.underlying3 (by kernel_rfl))
  have k1 : (cs.drop 1).take 1 = [.int .i64 a1] := q1
  obtain ⟨a2, q2, _⟩ := Rw.opn_field Try.underlying110 h hw 2 _ rfl (Rw.opn_int Try.underlying3 (by kernel_rfl))
  have k2 : (cs.drop 2).take 1 = [.int .i64 a2] := q2
  obtain ⟨f3, q3, _⟩ := Rw.opn_field Try.underlying110 h hw 3 _ rfl (opn_arr (n := 8) Try.underlying22 (by kernel_rfl))
  have k3 : (cs.drop 3).take 8 = nums .i64 f3 ∧ f3.length = 8 := q3
  obtain ⟨f4, q4, _⟩ := Rw.opn_field Try.underlying110 h hw 4 _ rfl (opn_arr (n := 16) Try.underlying108 (by kernel_rfl))
  have k4 : (cs.drop 11).take 16 = nums .i64 f4 ∧ f4.length = 16 := q4
  refine ⟨a0 :: a1 :: a2 :: (f3 ++ f4), ⟨?_, by simp [k3.2, k4.2]⟩, trivial⟩
  have e4 := Rw.cut_last cs 11 16 hl
  have e3 := Rw.cut_at cs 3 8
  have e2 := Rw.cut_at cs 2 1
  have e1 := Rw.cut_at cs 1 1
  have e0 := Rw.cut_at cs 0 1
  rw [k4.1] at e4
  rw [k3.1, e4] at e3
  rw [k2, e3] at e2
  rw [k1, e2] at e1
  rw [k0, e1] at e0
  rw [List.drop_zero] at e0
  rw [e0]
  simp [nums]
theorem flat_get : ∀ (xs : List (List Int)) (h : ∀ x ∈ xs, x.length = 27) (j : Nat) (a : Int), xs.flatten[j]? = some a → ∃ x, xs[j / 27]? = some x ∧ x[j % 27]? = some a
  | [], _, j, a, h => by simp at h
  | x :: t, hx, j, a, h => by
    have h27 : x.length = 27 := hx x List.mem_cons_self
    rw [List.flatten_cons, List.getElem?_append] at h
    by_cases c : j < 27
    · rw [if_pos (by omega)] at h
      exact ⟨x, by rw [show j / 27 = 0 by omega]; rfl, by rw [show j % 27 = j by omega]; exact h⟩
    · rw [if_neg (by omega), h27] at h
      obtain ⟨y, h1, h2⟩ := flat_get t (fun z hz => hx z (List.mem_cons_of_mem _ hz)) (j - 27) a h
      refine ⟨y, ?_, ?_⟩
      · rw [show j / 27 = (j - 27) / 27 + 1 by omega]
        exact h1
      · rw [show j % 27 = (j - 27) % 27 by omega]
        exact h2
theorem flat_len : ∀ (xs : List (List Int)), (∀ x ∈ xs, x.length = 27) → xs.flatten.length = xs.length * 27
  | [], _ => rfl
  | x :: t, hx => by
    rw [List.flatten_cons, List.length_append, flat_len t (fun z hz => hx z (List.mem_cons_of_mem _ hz)), hx x List.mem_cons_self, List.length_cons]
    omega
theorem c110_rd {W : World} {A : Option Addr} {xs : List (List Int)} (h : Kd.C (kA 27) W A xs.length xs) : RdC W A xs.length 27 (nums .i64 xs.flatten) := by
  obtain ⟨_, _, hr⟩ := h
  have h27 : ∀ x ∈ xs, x.length = 27 := by
    intro x hx
    obtain ⟨j, hj⟩ := List.getElem?_of_mem hx
    have hjl : j < xs.length := (List.getElem?_eq_some_iff.1 hj).1
    obtain ⟨a, _, hc⟩ := hr (by omega)
    obtain ⟨cs, _, hk, _⟩ := hc j x hj
    exact hk.2
  refine ⟨by rw [show (nums .i64 xs.flatten).length = xs.flatten.length from List.length_map _, flat_len xs h27], fun h0 => ?_⟩
  obtain ⟨a, e, hc⟩ := hr h0
  refine ⟨a, e, fun j u hj => ?_⟩
  unfold nums at hj
  rw [List.getElem?_map] at hj
  obtain ⟨z, hz, rfl⟩ := Option.map_eq_some_iff.1 hj
  obtain ⟨x, h1, h2⟩ := flat_get xs h27 j z hz
  obtain ⟨cs, _, hk, hat⟩ := hc (j / 27) x h1
  have := hat (j % 27) (.int .i64 z) (by rw [hk.1]; simp [nums, h2])
  rw [show j / 27 * (kA 27).sz + j % 27 = j from by show j / 27 * 27 + j % 27 = j; omega] at this
  exact this
end Go.Proofs.Ytakbhnfmimnbhaa.Rn
