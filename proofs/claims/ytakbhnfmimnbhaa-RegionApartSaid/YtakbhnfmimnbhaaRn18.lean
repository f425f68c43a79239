/- The page's Good: whether the frames' counts are in their bounds. Conditions: none. -/
import Derived.Test.YtakbhnfmimnbhaaRn10
namespace Go.Proofs.Ytakbhnfmimnbhaa.Rn
open Go.RowKit Go.Proofs.YtakbhnfmimnbhaaW.PrintWords Go.Proofs.YtakbhnfmimnbhaaW.PrintLast Go.Proofs.YtakbhnfmimnbhaaW.PrintMore
set_option linter.unusedVariables false
set_option linter.unusedSimpArgs false

def cntI (is : List Int) (i : Nat) : Int := is.getD (i * 27 + 2) 0
def goodB (n : Nat) (is : List Int) : Bool := decide (∀ i, i < n → 0 ≤ cntI is i ∧ cntI is i ≤ 16) && decide (n ≤ 100)
theorem rd_cnt {W : World} {A : Option Addr} {n : Nat} {is : List Int} (hr : RdC W A n 27 (nums .i64 is)) {i : Nat} (hi : i < n) : ∃ ad, A = some ad ∧ W.cell? ⟨(ad.add (i * 27)).block, (ad.add (i * 27)).off + 2, none⟩ = some (.int .i64 (cntI is i)) := by
  obtain ⟨ad, e, hc⟩ := hr.2 (by omega)
  have hl : is.length = n * 27 := by have := hr.1; simpa [nums] using this
  exact ⟨ad, e, by rw [← add_field _ _ 2 (by omega)]; exact hc _ _ (nums_at (by omega))⟩
set_option maxHeartbeats 4000000 in
theorem good_any {W : World} {A : Option Addr} {n c : Nat} {is : List Int} (hr : RdC W A n 27 (nums .i64 is)) (hn : n ≤ 1000000000000) : Calls Try.prog 20 #[.slice A n c] W fun e w' => e = .returned (.bool (goodB n is)) ∧ w' = W := by
  have hu59 := Try.underlying59
  have hu110 := Try.underlying110
  have HR := Aside0.mk hr
  have HN := Aside0.mk hn
  clear hr hn
  go_enter Try.func20, Try.ntmps20
  go_upto_block 0 with (fail)
  go_wp2
  go_loopg [3] n (fun kq v3 w' => ∃ (i : Nat), v3 = .int .i64 (i : Int) ∧ Aside0 (i + kq = n) ∧ Aside0 (∀ j, j < i → 0 ≤ cntI is j ∧ cntI is j ≤ 16) ∧ w' = W)
  case atStart => exact ⟨0, rfl, ⟨by omega⟩, ⟨fun j hj => absurd hj (by omega)⟩, rfl⟩
  case round =>
    obtain ⟨i, rfl, HK, HG, rfl⟩ := hrel
    by_cases hi : i < n
    · rcases gk with _ | k1
      · exact absurd hi (by have := HK.out; omega)
      have d1 : decide ((i : Int) < (n : Int)) = true := decide_eq_true (by omega)
      have d2 : decide (i < n) = true := decide_eq_true hi
      have p1 : (0 ≤ (i : Int)) = True := eq_true (by omega)
      have p2 : ((i : Int) < (n : Int)) = True := eq_true (by omega)
      obtain ⟨ad, rfl, y0⟩ := rd_cnt HR.out hi
      have HI := Aside0.mk hi
      have ew : Aside0 (wrap64 ((i : Int) + 1) = (i : Int) + 1) := ⟨by have h3 := HN.out; unfold wrap64; omega⟩
      obtain ⟨z, hz⟩ : ∃ z, z = cntI is i := ⟨_, rfl⟩
      rw [← hz] at y0
      have HZ := Aside0.mk hz
      clear hi hz
      by_cases h0 : z < 0
      · have d3 : decide (z < 0) = true := decide_eq_true h0
        have HB := Aside0.mk (show goodB n is = false from by
          unfold goodB
          rw [decide_eq_false (fun q => by have h1 := (q i HI.out).1; rw [← HZ.out] at h1; omega)]
          rfl)
        clear h0
        go_wp2
        go_ret
        exact ⟨by rw [HB.out]; rfl, rfl⟩
      · have d3 : decide (z < 0) = false := decide_eq_false h0
        by_cases h1 : 16 < z
        · have d4 : decide (16 < z) = true := decide_eq_true h1
          have HB := Aside0.mk (show goodB n is = false from by
            unfold goodB
            rw [decide_eq_false (fun q => by have h1 := (q i HI.out).2; rw [← HZ.out] at h1; omega)]
            rfl)
          clear h0 h1
          go_wp2
          go_ret
          exact ⟨by rw [HB.out]; rfl, rfl⟩
        · have d4 : decide (16 < z) = false := decide_eq_false h1
          have HZB := Aside0.mk (show 0 ≤ z ∧ z ≤ 16 from by omega)
          clear h0 h1
          go_wp2
          go_roundg k1
          case measure => omega
          case rel => exact ⟨i + 1, by rw [ew.out]; simp, ⟨by have := HK.out; omega⟩, ⟨fun j hj => by
            by_cases q : j = i
            · rw [q, ← HZ.out]; exact HZB.out
            · exact HG.out j (by omega)⟩, rfl⟩
    · have d1 : decide ((i : Int) < (n : Int)) = false := decide_eq_false (by omega)
      have d2 : decide (i < n) = false := decide_eq_false hi
      have HB := Aside0.mk (show goodB n is = decide (n ≤ 100) from by
        unfold goodB
        rw [decide_eq_true (fun j hj => HG.out j (by omega))]
        rfl)
      obtain ⟨bb, hbb⟩ : ∃ bb, bb = decide (n ≤ 100) := ⟨_, rfl⟩
      have d5 : decide ((n : Int) ≤ 100) = bb := by rw [hbb]; exact decide_eq_decide.2 (by omega)
      rw [← hbb] at HB
      have d6 : decide (n ≤ 100) = bb := hbb.symm
      clear hi hbb
      go_wp2
      go_ret
      exact ⟨by rw [HB.out]; rfl, rfl⟩
end Go.Proofs.Ytakbhnfmimnbhaa.Rn
