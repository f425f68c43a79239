/- What the page's functions on sets of numbers tell, as bits (plain functions PPlaceApart.logjamref02_*). Conditions: none. -/
import Derived.Test.YtjcjhmnfknenlaaBt
import Derived.Test.YtjcjhmnfknenlaaPPlaceApartx3
namespace Go.Proofs.Ytjcjhmnfknenlaa.R2
open Go.RowKit Go.Proofs.Ytjcjhmnfknenlaa.PPlaceApart Go.Proofs.YtjcjhmnfknenlaaW.PrintWords Go.Proofs.YtjcjhmnfknenlaaW.PrintLast Go.Proofs.YtjcjhmnfknenlaaW.PrintMore

theorem w64 {x : Int} (h : -9223372036854775808 ≤ x ∧ x ≤ 9223372036854775807) : wrap64 x = x := by unfold wrap64; omega
theorem wrap_half {s : Nat} (hs : s < Bt.top) : IntKind.u64.wrap (Int.tdiv (s : Int) 2) = ((s / 2 : Nat) : Int) := by
  have e : Int.tdiv (s : Int) 2 = ((s / 2 : Nat) : Int) := rfl
  rw [e]
  exact Bt.wrapU (Nat.lt_of_le_of_lt (Nat.div_le_self _ _) hs)
theorem mod_two (s : Nat) : (Int.tmod (s : Int) 2 == 1) = s.testBit 0 := by
  rw [Bool.eq_iff_iff, beq_iff_eq, Nat.testBit_zero, decide_eq_true_iff]
  have e : Int.tmod (s : Int) 2 = ((s % 2 : Nat) : Int) := rfl
  rw [e]
  omega
theorem has_loop (n : Nat) (hn : n < 64) : ∀ (d k i s : Nat), i + d = n → d < k → s < Bt.top → logjamref02_Has.l0 k (s : Int) (n : Int) (i : Int) = some (s.testBit d) := by
  intro d
  induction d with
  | zero =>
    intro k i s hi hk hs
    obtain ⟨k, rfl⟩ : ∃ q, k = q + 1 := ⟨k - 1, by omega⟩
    simp only [logjamref02_Has.l0]
    rw [if_neg (by omega), mod_two]
  | succ d ih =>
    intro k i s hi hk hs
    obtain ⟨k, rfl⟩ : ∃ q, k = q + 1 := ⟨k - 1, by omega⟩
    simp only [logjamref02_Has.l0]
    rw [if_pos (by omega), wrap_half hs, w64 (by omega)]
    have := ih k (i + 1) (s / 2) (by omega) (by omega) (Nat.lt_of_le_of_lt (Nat.div_le_self _ _) hs)
    rw [Bt.bit_succ]
    exact this
theorem has_in {s t k : Nat} (hs : s < Bt.top) (ht : t < 64) (hk : 66 ≤ k) : logjamref02_Has.f k (s : Int) (t : Int) = some (s.testBit t) := by
  obtain ⟨k, rfl⟩ : ∃ q, k = q + 1 := ⟨k - 1, by omega⟩
  unfold logjamref02_Has.f
  rw [if_neg (by omega)]
  have : decide ((t : Int) > 63) = false := by simp; omega
  rw [this]
  simp only [logjamref02_Has.j0, Bool.false_eq_true, if_false]
  exact has_loop t ht t k 0 s (by omega) (by omega) hs
theorem power_loop (n : Nat) (hn : n < 64) : ∀ (d k i : Nat), i + d = n → d < k → logjamref02_power.l0 k (n : Int) ((2 ^ i : Nat) : Int) (i : Int) = some ((2 ^ n : Nat) : Int) := by
  intro d
  induction d with
  | zero =>
    intro k i hi hk
    obtain ⟨k, rfl⟩ : ∃ q, k = q + 1 := ⟨k - 1, by omega⟩
    obtain rfl : i = n := by omega
    simp only [logjamref02_power.l0]
    rw [if_neg (by omega)]
  | succ d ih =>
    intro k i hi hk
    obtain ⟨k, rfl⟩ : ∃ q, k = q + 1 := ⟨k - 1, by omega⟩
    simp only [logjamref02_power.l0]
    have e : ((2 ^ i : Nat) : Int) * 2 = ((2 ^ (i + 1) : Nat) : Int) := by rw [Nat.pow_succ]; omega
    rw [if_pos (by omega), e, Bt.wrapU (Bt.lt_pow (by omega)), w64 (by omega)]
    exact ih k (i + 1) (by omega) (by omega)
theorem power_in {t k : Nat} (ht : t < 64) (hk : 66 ≤ k) : logjamref02_power.f k (t : Int) = some ((2 ^ t : Nat) : Int) := by
  unfold logjamref02_power.f
  exact power_loop t ht t k 0 (by omega) (by omega)
theorem with_in {s t k : Nat} (hs : s < Bt.top) (ht : t < 64) (hk : 68 ≤ k) : logjamref02_With.f k (s : Int) (t : Int) = some ((s ||| 2 ^ t : Nat) : Int) := by
  obtain ⟨k, rfl⟩ : ∃ q, k = q + 1 := ⟨k - 1, by omega⟩
  unfold logjamref02_With.f
  rw [if_neg (by omega), if_neg (by omega), has_in hs ht (by omega)]
  simp only [Option.bind_some, power_in ht (show 66 ≤ k + 1 by omega)]
  by_cases h : s.testBit t = true
  · rw [if_pos h]
    have : s ||| 2 ^ t = s := by
      apply Bt.ext (Bt.lt_or hs (Bt.lt_pow ht)) hs
      intro i _
      rw [Bt.tb_or, Bt.tb_pow]
      by_cases e : t = i
      · subst e; simp [h]
      · simp [e]
    rw [this]
  · rw [if_neg h, ← Bt.add_pow (by simpa using h)]
    have e : (s : Int) + ((2 ^ t : Nat) : Int) = ((s + 2 ^ t : Nat) : Int) := by omega
    rw [e, Bt.wrapU (by rw [Bt.add_pow (by simpa using h)]; exact Bt.lt_or hs (Bt.lt_pow ht))]
end Go.Proofs.Ytjcjhmnfknenlaa.R2
