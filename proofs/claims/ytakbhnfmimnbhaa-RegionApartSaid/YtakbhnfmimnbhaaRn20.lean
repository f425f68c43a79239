/- The page's Has, and whether the program's pairs are like the page's. Conditions: none. -/
import Derived.Test.YtakbhnfmimnbhaaRn10
namespace Go.Proofs.Ytakbhnfmimnbhaa.Rn
open Go.RowKit Go.Proofs.YtakbhnfmimnbhaaW.PrintWords Go.Proofs.YtakbhnfmimnbhaaW.PrintLast Go.Proofs.YtakbhnfmimnbhaaW.PrintMore
set_option linter.unusedVariables false
set_option linter.unusedSimpArgs false

theorem rd_pair {W : World} {A : Option Addr} {l : List (Int × Int)} (hr : RdC W A l.length 2 (pcs l)) {i : Nat} (hi : i < l.length) : ∃ ad, A = some ad ∧ W.cell? (ad.add (i * 2)) = some (.int .i64 (l.getD i (0, 0)).1) ∧ W.cell? ⟨(ad.add (i * 2)).block, (ad.add (i * 2)).off + 1, none⟩ = some (.int .i64 (l.getD i (0, 0)).2) := by
  obtain ⟨ad, e, hc⟩ := hr.2 (by omega)
  obtain ⟨h1, h2⟩ := pcs_get l i hi
  exact ⟨ad, e, hc _ _ h1, by rw [← add_field _ _ 1 (by omega)]; exact hc _ _ h2⟩
def hasB (l : List (Int × Int)) (o : Int) : Bool := decide (∃ j, j < l.length ∧ (l.getD j (0, 0)).1 = o)
set_option maxHeartbeats 4000000 in
theorem has_any {W : World} {A : Option Addr} {c n : Nat} {l : List (Int × Int)} (hr : RdC W A l.length 2 (pcs l)) (hl : l.length ≤ 1000000) (hn : n = l.length) (o : Int) : Calls Try.prog 89 #[.slice A n c, .int .i64 o] W fun e w' => e = .returned (.bool (hasB l o)) ∧ w' = W := by
  have hu23 := Try.underlying23
  have hu28 := Try.underlying28
  have HR := Aside0.mk hr
  have HL := Aside0.mk hl
  have HN := Aside0.mk hn
  clear hr hl hn
  go_enter Try.func89, Try.ntmps89
  go_upto_block 0 with (fail)
  go_wp2
  go_loopg [5] n (fun kq v5 w' => ∃ (i : Nat), v5 = .int .i64 (i : Int) ∧ Aside0 (i + kq = n) ∧ Aside0 (∀ j, j < i → (l.getD j (0, 0)).1 ≠ o) ∧ w' = W)
  case atStart => exact ⟨0, rfl, ⟨by omega⟩, ⟨fun j hj => absurd hj (by omega)⟩, rfl⟩
  case round =>
    obtain ⟨i, rfl, HK, HG, rfl⟩ := hrel
    by_cases hi : i < n
    · rcases gk with _ | k1
      · exact absurd hi (by have := HK.out; omega)
      have d1 : decide ((i : Int) < (n : Int)) = true := decide_eq_true (by omega)
      have d2 : decide (i < n) = true := decide_eq_true hi
      have p1 : (0 ≤ (i : Int)) = True := eq_true (by omega)
      have p2 : ((i : Int) < (n : Int)) = True := eq_true (by omega)
      obtain ⟨ad, rfl, y0, _⟩ := rd_pair HR.out (i := i) (by rw [← HN.out]; exact hi)
      have HI := Aside0.mk (show i < l.length from by rw [← HN.out]; exact hi)
      have ew : Aside0 (wrap64 ((i : Int) + 1) = (i : Int) + 1) := ⟨by have h3 := HL.out; have h4 := HI.out; unfold wrap64; omega⟩
      obtain ⟨z, hz⟩ : ∃ z, z = (l.getD i (0, 0)).1 := ⟨_, rfl⟩
      rw [← hz] at y0
      have HZ := Aside0.mk hz
      clear hi hz
      by_cases h0 : z = o
      · have d3 : (z == o) = true := beq_iff_eq.2 h0
        have HB := Aside0.mk (show hasB l o = true from decide_eq_true ⟨i, HI.out, by rw [← HZ.out]; exact h0⟩)
        clear h0
        go_wp2
        go_ret
        exact ⟨by rw [HB.out]; rfl, rfl⟩
      · have d3 : (z == o) = false := beq_eq_false_iff_ne.2 h0
        have HZ0 := Aside0.mk h0
        clear h0
        go_wp2
        go_roundg k1
        case measure => omega
        case rel => exact ⟨i + 1, by rw [ew.out]; simp, ⟨by have := HK.out; omega⟩, ⟨fun j hj => by
          by_cases q : j = i
          · rw [q, ← HZ.out]; exact HZ0.out
          · exact HG.out j (by omega)⟩, rfl⟩
    · have d1 : decide ((i : Int) < (n : Int)) = false := decide_eq_false (by omega)
      have d2 : decide (i < n) = false := decide_eq_false hi
      have HB := Aside0.mk (show hasB l o = false from decide_eq_false (fun ⟨j, hj, e⟩ => HG.out j (by have := HN.out; omega) e))
      clear hi
      go_wp2
      go_ret
      exact ⟨by rw [HB.out]; rfl, rfl⟩
end Go.Proofs.Ytakbhnfmimnbhaa.Rn
