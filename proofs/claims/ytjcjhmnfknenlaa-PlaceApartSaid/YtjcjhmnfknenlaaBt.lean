/- Sets of numbers from 0 to 63 as the bits of a number: what and, or, and-not and shifts do, bit by bit. Conditions: none. -/
import Derived.Test.YtjcjhmnfknenlaaWMore
import Derived.Laws.BitsAllLaws
namespace Go.Proofs.Ytjcjhmnfknenlaa.Bt
open Go.RowKit Go.Proofs.YtjcjhmnfknenlaaW.PrintWords Go.Proofs.YtjcjhmnfknenlaaW.PrintMore

/-- The number of a set fits. -/
abbrev top : Nat := 18446744073709551616
theorem top_pow : top = 2 ^ 64 := by decide
theorem tb_high {a i : Nat} (ha : a < top) (hi : 64 ≤ i) : a.testBit i = false :=
  Nat.testBit_lt_two_pow (Nat.lt_of_lt_of_le (top_pow ▸ ha) (Nat.pow_le_pow_right (by decide) hi))
theorem ext {a b : Nat} (ha : a < top) (hb : b < top) (h : ∀ i, i < 64 → a.testBit i = b.testBit i) : a = b := by
  apply Nat.eq_of_testBit_eq
  intro i
  by_cases hi : i < 64
  · exact h i hi
  · rw [tb_high ha (by omega), tb_high hb (by omega)]
theorem lt_or {a b : Nat} (ha : a < top) (hb : b < top) : a ||| b < top := Nat.or_lt_two_pow (n := 64) ha hb
theorem lt_pow {t : Nat} (ht : t < 64) : 2 ^ t < top := by
  have := Nat.pow_lt_pow_right (a := 2) (by decide) ht
  rw [top_pow]; exact this
theorem tb_or (a b i : Nat) : (a ||| b).testBit i = (a.testBit i || b.testBit i) := Nat.testBit_or a b i
theorem tb_and (a b i : Nat) : (a &&& b).testBit i = (a.testBit i && b.testBit i) := Nat.testBit_and a b i
theorem tb_pow (t i : Nat) : (2 ^ t).testBit i = decide (t = i) := Nat.testBit_two_pow
theorem tb_zero (i : Nat) : (0 : Nat).testBit i = false := Nat.zero_testBit i
/-! ### the machine's words -/
theorem or_nat {a b : Nat} (ha : a < top) (hb : b < top) : Go.bits .or .u64 (a : Int) (b : Int) = ((a ||| b : Nat) : Int) := u64_or_nat a b ha hb
theorem wrapU {n : Nat} (h : n < top) : IntKind.u64.wrap (n : Int) = (n : Int) := by
  simp only [IntKind.wrap, IntKind.bits, IntKind.signed]
  have : (2 : Int) ^ 64 = 18446744073709551616 := by decide
  simp
  have h' : n < 18446744073709551616 := h
  omega
theorem shl_one {t : Nat} (ht : t < 64) : shl .u64 1 (t : Int) = ((2 ^ t : Nat) : Int) := by
  unfold shl
  have e : (1 : Int) * 2 ^ min (t : Int).toNat IntKind.u64.bits = ((2 ^ t : Nat) : Int) := by
    have : min (t : Int).toNat IntKind.u64.bits = t := by simp [IntKind.bits]; omega
    rw [this, Int.one_mul]
    simp
  rw [e]
  exact wrapU (lt_pow ht)
/-- A number that isn't in it, added; one that is, taken. -/
theorem add_disj : ∀ (a b : Nat), a &&& b = 0 → a + b = a ||| b := by
  intro a b h
  have hn : ∃ n, a < 2 ^ n ∧ b < 2 ^ n := ⟨a + b, Nat.lt_of_lt_of_le Nat.lt_two_pow_self (Nat.pow_le_pow_right (by decide) (by omega)), Nat.lt_of_lt_of_le Nat.lt_two_pow_self (Nat.pow_le_pow_right (by decide) (by omega))⟩
  obtain ⟨n, ha, hb⟩ := hn
  have ha' : a < 2 ^ (n + 1) := by rw [Nat.pow_succ]; omega
  have hb' : b < 2 ^ (n + 1) := by rw [Nat.pow_succ]; omega
  have hor : a ||| b < 2 ^ (n + 1) := Nat.or_lt_two_pow ha' hb'
  have hs : a + b < 2 ^ (n + 1) := by rw [Nat.pow_succ]; omega
  have key := BitVec.add_eq_or_of_and_eq_zero (BitVec.ofNat (n + 1) a) (BitVec.ofNat (n + 1) b) (by
    apply BitVec.eq_of_toNat_eq
    simp only [BitVec.toNat_and, BitVec.toNat_ofNat]
    rw [Nat.mod_eq_of_lt ha', Nat.mod_eq_of_lt hb', h, Nat.zero_mod])
  have k2 := congrArg BitVec.toNat key
  simp only [BitVec.toNat_add, BitVec.toNat_or, BitVec.toNat_ofNat] at k2
  rw [Nat.mod_eq_of_lt ha', Nat.mod_eq_of_lt hb', Nat.mod_eq_of_lt hs] at k2
  exact k2
theorem add_pow {s t : Nat} (h : s.testBit t = false) : s + 2 ^ t = s ||| 2 ^ t := by
  apply add_disj
  apply Nat.eq_of_testBit_eq
  intro i
  rw [tb_and, tb_pow, tb_zero]
  by_cases e : t = i
  · subst e; simp [h]
  · simp [e]
theorem bit_succ (s i : Nat) : s.testBit (i + 1) = (s / 2).testBit i := Nat.testBit_succ s i
end Go.Proofs.Ytjcjhmnfknenlaa.Bt
