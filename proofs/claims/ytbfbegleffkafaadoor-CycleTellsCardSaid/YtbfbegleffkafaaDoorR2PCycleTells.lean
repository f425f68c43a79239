/- What the page's functions on sets of numbers tell, as bits (plain functions PCycleTells.logjamref02_*). Conditions: none. -/
import Derived.Test.YtbfbegleffkafaaDoorBt
import Derived.Test.YtbfbegleffkafaaDoorPCycleTellsx6
import Derived.Test.YtbfbegleffkafaaDoorPCycleTellsx8
namespace Go.Proofs.YtbfbegleffkafaaDoor.R2
open Go.RowKit Go.Proofs.YtbfbegleffkafaaDoor.PCycleTells Go.Proofs.YtbfbegleffkafaaDoorW.PrintWords Go.Proofs.YtbfbegleffkafaaDoorW.PrintLast Go.Proofs.YtbfbegleffkafaaDoorW.PrintMore

theorem w64 {x : Int} (h : -9223372036854775808 ≤ x ∧ x ≤ 9223372036854775807) : wrap64 x = x := by unfold wrap64; omega
theorem wrap_half {s : Nat} (hs : s < Bt.top) : IntKind.u64.wrap (Int.tdiv (s : Int) 2) = ((s / 2 : Nat) : Int) := by
  have e : Int.tdiv (s : Int) 2 = ((s / 2 : Nat) : Int) := rfl
  rw [e]
  exact Bt.wrapU (Nat.lt_of_le_of_lt (Nat.div_le_self _ _) hs)
theorem mod_two (s : Nat) : (Int.tmod (s : Int) 2 == 1) = s.testBit 0 := by
  rw [Bool.eq_iff_iff, beq_iff_eq, Nat.testBit_zero, decide_eq_true_iff]
  have e : Int.tmod (s : Int) 2 = ((s % 2 : Nat) : Int) := rfl
  rw [e]
  omega
theorem has_loop (n : Nat) (hn : n < 64) : ∀ (d k i s : Nat), i + d = n → d < k → s < Bt.top → logjamref02_Has.l0 k (s : Int) (n : Int) (i : Int) = some (s.testBit d) := by
  intro d
  induction d with
  | zero =>
    intro k i s hi hk hs
    obtain ⟨k, rfl⟩ : ∃ q, k = q + 1 := ⟨k - 1, by omega⟩
    simp only [logjamref02_Has.l0]
    rw [if_neg (by omega), mod_two]
  | succ d ih =>
    intro k i s hi hk hs
    obtain ⟨k, rfl⟩ : ∃ q, k = q + 1 := ⟨k - 1, by omega⟩
    simp only [logjamref02_Has.l0]
    rw [if_pos (by omega), wrap_half hs, w64 (by omega)]
    have := ih k (i + 1) (s / 2) (by omega) (by omega) (Nat.lt_of_le_of_lt (Nat.div_le_self _ _) hs)
    rw [Bt.bit_succ]
    exact this
theorem has_in {s t k : Nat} (hs : s < Bt.top) (ht : t < 64) (hk : 66 ≤ k) : logjamref02_Has.f k (s : Int) (t : Int) = some (s.testBit t) := by
  obtain ⟨k, rfl⟩ : ∃ q, k = q + 1 := ⟨k - 1, by omega⟩
  unfold logjamref02_Has.f
  rw [if_neg (by omega)]
  have : decide ((t : Int) > 63) = false := by simp; omega
  rw [this]
  simp only [logjamref02_Has.j0, Bool.false_eq_true, if_false]
  exact has_loop t ht t k 0 s (by omega) (by omega) hs
theorem has_out {s : Int} {t : Int} {k : Nat} (ht : t < 0 ∨ 64 ≤ t) (hk : 66 ≤ k) : logjamref02_Has.f k s t = some false := by
  obtain ⟨k, rfl⟩ : ∃ q, k = q + 1 := ⟨k - 1, by omega⟩
  unfold logjamref02_Has.f
  by_cases c : t < 0
  · rw [if_pos c]; simp [logjamref02_Has.j0]
  · rw [if_neg c]
    have : decide (t > 63) = true := by simp; omega
    rw [this]; simp [logjamref02_Has.j0]
theorem power_loop (n : Nat) (hn : n < 64) : ∀ (d k i : Nat), i + d = n → d < k → logjamref02_power.l0 k (n : Int) ((2 ^ i : Nat) : Int) (i : Int) = some ((2 ^ n : Nat) : Int) := by
  intro d
  induction d with
  | zero =>
    intro k i hi hk
    obtain ⟨k, rfl⟩ : ∃ q, k = q + 1 := ⟨k - 1, by omega⟩
    obtain rfl : i = n := by omega
    simp only [logjamref02_power.l0]
    rw [if_neg (by omega)]
  | succ d ih =>
    intro k i hi hk
    obtain ⟨k, rfl⟩ : ∃ q, k = q + 1 := ⟨k - 1, by omega⟩
    simp only [logjamref02_power.l0]
    have e : ((2 ^ i : Nat) : Int) * 2 = ((2 ^ (i + 1) : Nat) : Int) := by rw [Nat.pow_succ]; omega
    rw [if_pos (by omega), e, Bt.wrapU (Bt.lt_pow (by omega)), w64 (by omega)]
    exact ih k (i + 1) (by omega) (by omega)
theorem power_in {t k : Nat} (ht : t < 64) (hk : 66 ≤ k) : logjamref02_power.f k (t : Int) = some ((2 ^ t : Nat) : Int) := by
  unfold logjamref02_power.f
  exact power_loop t ht t k 0 (by omega) (by omega)
theorem with_in {s t k : Nat} (hs : s < Bt.top) (ht : t < 64) (hk : 68 ≤ k) : logjamref02_With.f k (s : Int) (t : Int) = some ((s ||| 2 ^ t : Nat) : Int) := by
  obtain ⟨k, rfl⟩ : ∃ q, k = q + 1 := ⟨k - 1, by omega⟩
  unfold logjamref02_With.f
  rw [if_neg (by omega), if_neg (by omega), has_in hs ht (by omega)]
  simp only [Option.bind_some, power_in ht (show 66 ≤ k + 1 by omega)]
  by_cases h : s.testBit t = true
  · rw [if_pos h]
    have : s ||| 2 ^ t = s := by
      apply Bt.ext (Bt.lt_or hs (Bt.lt_pow ht)) hs
      intro i _
      rw [Bt.tb_or, Bt.tb_pow]
      by_cases e : t = i
      · subst e; simp [h]
      · simp [e]
    rw [this]
  · rw [if_neg h, ← Bt.add_pow (by simpa using h)]
    have e : (s : Int) + ((2 ^ t : Nat) : Int) = ((s + 2 ^ t : Nat) : Int) := by omega
    rw [e, Bt.wrapU (by rw [Bt.add_pow (by simpa using h)]; exact Bt.lt_or hs (Bt.lt_pow ht))]
theorem with_out {s : Int} {t : Int} {k : Nat} (ht : t < 0 ∨ 64 ≤ t) (hk : 68 ≤ k) : logjamref02_With.f k s t = some s := by
  obtain ⟨k, rfl⟩ : ∃ q, k = q + 1 := ⟨k - 1, by omega⟩
  unfold logjamref02_With.f
  by_cases c : t < 0
  · rw [if_pos c]
  · rw [if_neg c, if_pos (by omega)]
/-- The numbers of a set below t, rising. -/
def low (m t : Nat) : List Nat := (List.range t).filter fun i => m.testBit i
theorem low_succ (m t : Nat) : low m (t + 1) = if m.testBit t = true then low m t ++ [t] else low m t := by
  unfold low
  rw [List.range_succ, List.filter_append]
  cases h : m.testBit t <;> simp [h]
theorem mem_low {m t i : Nat} : i ∈ low m t ↔ i < t ∧ m.testBit i = true := by simp [low]
theorem low_len (m t : Nat) : (low m t).length ≤ t := by
  unfold low
  exact Nat.le_trans (List.length_filter_le _ _) (by simp)
theorem low_nodup (m t : Nat) : (low m t).Nodup := List.Pairwise.filter _ List.nodup_range
def ints (l : List Nat) : List Int := l.map fun (n : Nat) => (n : Int)
theorem ints_len (l : List Nat) : (ints l).length = l.length := by simp [ints]
theorem rd_ints {l : List Nat} {i : Nat} (h : i < l.length) : rd (ints l) (i : Int) = ((l[i] : Nat) : Int) := by
  unfold rd ints
  simp [List.getD_eq_getElem?_getD, h]
theorem list_loop (m : Nat) (hm : m < Bt.top) : ∀ (d k t : Nat), t + d = 64 → d < k → logjamref02_List.l0 k ((m / 2 ^ t : Nat) : Int) (ints (low m t)) (t : Int) = some (ints (low m 64)) := by
  intro d
  induction d with
  | zero =>
    intro k t ht hk
    obtain ⟨k, rfl⟩ : ∃ q, k = q + 1 := ⟨k - 1, by omega⟩
    obtain rfl : t = 64 := by omega
    simp only [logjamref02_List.l0]
    rw [if_neg (by omega)]
  | succ d ih =>
    intro k t ht hk
    obtain ⟨k, rfl⟩ : ∃ q, k = q + 1 := ⟨k - 1, by omega⟩
    have hlt : m / 2 ^ t < Bt.top := Nat.lt_of_le_of_lt (Nat.div_le_self _ _) hm
    simp only [logjamref02_List.l0]
    rw [if_pos (by omega), wrap_half hlt, w64 (by omega)]
    have e2 : m / 2 ^ t / 2 = m / 2 ^ (t + 1) := by rw [Nat.div_div_eq_div_mul, Nat.pow_succ]
    have go := ih k (t + 1) (by omega) (by omega)
    rw [low_succ] at go
    have e1 : ((t + 1 : Nat) : Int) = (t : Int) + 1 := by omega
    rw [e1] at go
    rw [e2]
    have hb : (Int.tmod ((m / 2 ^ t : Nat) : Int) 2 = 1) ↔ m.testBit t = true := by
      have e : Int.tmod ((m / 2 ^ t : Nat) : Int) 2 = ((m / 2 ^ t % 2 : Nat) : Int) := rfl
      rw [e, Nat.testBit_eq_decide_div_mod_eq, decide_eq_true_iff]
      omega
    by_cases c : m.testBit t = true
    · rw [if_pos (hb.2 c), if_pos (by rw [ints_len]; have := low_len m t; omega)]
      rw [if_pos c] at go
      have : ints (low m t) ++ [(t : Int)] = ints (low m t ++ [t]) := by simp [ints]
      rw [this]
      exact go
    · rw [if_neg (fun h => c (hb.1 h))]
      rw [if_neg c] at go
      exact go
theorem list_in {m k : Nat} (hm : m < Bt.top) (hk : 66 ≤ k) : logjamref02_List.f k (m : Int) = some (ints (low m 64)) := by
  unfold logjamref02_List.f
  have := list_loop m hm 64 k 0 (by omega) (by omega)
  rw [Nat.pow_zero, Nat.div_one] at this
  exact this
end Go.Proofs.YtbfbegleffkafaaDoor.R2
