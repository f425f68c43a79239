/- Sets of numbers from 0 to 63 as the bits of a number: what and, or, and-not and shifts do, bit by bit. Conditions: none. -/
import Derived.Test.YtjcjhmnfknenlaaWMore
import Derived.Laws.BitsAllLaws
namespace Go.Proofs.Ytjcjhmnfknenlaa.Bt
open Go.RowKit Go.Proofs.YtjcjhmnfknenlaaW.PrintWords Go.Proofs.YtjcjhmnfknenlaaW.PrintMore

/-- The number of a set fits. -/
abbrev top : Nat := 18446744073709551616
theorem top_pow : top = 2 ^ 64 := by decide
theorem tb_high {a i : Nat} (ha : a < top) (hi : 64 ≤ i) : a.testBit i = false :=
  Nat.testBit_lt_two_pow (Nat.lt_of_lt_of_le (top_pow ▸ ha) (Nat.pow_le_pow_right (by decide) hi))
theorem ext {a b : Nat} (ha : a < top) (hb : b < top) (h : ∀ i, i < 64 → a.testBit i = b.testBit i) : a = b := by
  apply Nat.eq_of_testBit_eq
  intro i
  by_cases hi : i < 64
  · exact h i hi
  · rw [tb_high ha (by omega), tb_high hb (by omega)]
theorem lt_or {a b : Nat} (ha : a < top) (hb : b < top) : a ||| b < top := Nat.or_lt_two_pow (n := 64) ha hb
theorem lt_and {a b : Nat} (hb : b < top) : a &&& b < top := Nat.and_lt_two_pow (n := 64) a hb
theorem lt_and' {a b : Nat} (ha : a < top) : a &&& b < top := by rw [Nat.and_comm]; exact lt_and ha
theorem lt_pow {t : Nat} (ht : t < 64) : 2 ^ t < top := by
  have := Nat.pow_lt_pow_right (a := 2) (by decide) ht
  rw [top_pow]; exact this
/-- a without b. -/
def sub (a b : Nat) : Nat := a &&& (18446744073709551615 - b)
theorem lt_sub {a b : Nat} (ha : a < top) : sub a b < top := lt_and' ha
theorem tb_sub {a b : Nat} (hb : b < top) (i : Nat) (hi : i < 64) : (sub a b).testBit i = (a.testBit i && !b.testBit i) := by
  unfold sub
  have e : 18446744073709551615 - b = 2 ^ 64 - (b + 1) := by have : (2 : Nat) ^ 64 = 18446744073709551616 := by decide
                                                             omega
  rw [Nat.testBit_and, e, Nat.testBit_two_pow_sub_succ (n := 64) hb]
  simp [hi]
theorem tb_or (a b i : Nat) : (a ||| b).testBit i = (a.testBit i || b.testBit i) := Nat.testBit_or a b i
theorem tb_and (a b i : Nat) : (a &&& b).testBit i = (a.testBit i && b.testBit i) := Nat.testBit_and a b i
theorem tb_pow (t i : Nat) : (2 ^ t).testBit i = decide (t = i) := Nat.testBit_two_pow
theorem tb_zero (i : Nat) : (0 : Nat).testBit i = false := Nat.zero_testBit i
theorem zero_iff {a : Nat} (ha : a < top) : a = 0 ↔ ∀ i, i < 64 → a.testBit i = false := by
  constructor
  · rintro rfl i _; exact tb_zero i
  · intro h; exact ext ha (by decide) (fun i hi => by rw [h i hi, tb_zero])
theorem sub_zero_iff {a b : Nat} (ha : a < top) (hb : b < top) : sub a b = 0 ↔ ∀ i, i < 64 → a.testBit i = true → b.testBit i = true := by
  rw [zero_iff (lt_sub ha)]
  constructor
  · intro h i hi ha1
    have := h i hi
    rw [tb_sub hb i hi, ha1] at this
    simpa using this
  · intro h i hi
    rw [tb_sub hb i hi]
    cases e : a.testBit i with
    | false => rfl
    | true => rw [h i hi e]; rfl

/-! ### the machine's words -/
theorem and_nat {a b : Nat} (ha : a < top) (hb : b < top) : Go.bits .and .u64 (a : Int) (b : Int) = ((a &&& b : Nat) : Int) := u64_and_nat a b ha hb
theorem or_nat {a b : Nat} (ha : a < top) (hb : b < top) : Go.bits .or .u64 (a : Int) (b : Int) = ((a ||| b : Nat) : Int) := u64_or_nat a b ha hb
theorem andNot_nat {a b : Nat} (ha : a < top) (hb : b < top) : Go.bits .andNot .u64 (a : Int) (b : Int) = ((sub a b : Nat) : Int) := u64_andNot_nat a b ha hb
theorem wrapU {n : Nat} (h : n < top) : IntKind.u64.wrap (n : Int) = (n : Int) := by
  simp only [IntKind.wrap, IntKind.bits, IntKind.signed]
  have : (2 : Int) ^ 64 = 18446744073709551616 := by decide
  simp
  have h' : n < 18446744073709551616 := h
  omega
theorem shl_one {t : Nat} (ht : t < 64) : shl .u64 1 (t : Int) = ((2 ^ t : Nat) : Int) := by
  unfold shl
  have e : (1 : Int) * 2 ^ min (t : Int).toNat IntKind.u64.bits = ((2 ^ t : Nat) : Int) := by
    have : min (t : Int).toNat IntKind.u64.bits = t := by simp [IntKind.bits]; omega
    rw [this, Int.one_mul]
    simp
  rw [e]
  exact wrapU (lt_pow ht)
theorem has_iff {s t : Nat} : ((s &&& 2 ^ t : Nat) != 0) = s.testBit t := by
  cases e : s.testBit t with
  | true =>
    have : s &&& 2 ^ t ≠ 0 := by
      intro h
      have h1 : (s &&& 2 ^ t).testBit t = true := by rw [tb_and, e, tb_pow]; simp
      rw [h, tb_zero] at h1
      cases h1
    simpa using this
  | false =>
    have : s &&& 2 ^ t = 0 := by
      apply Nat.eq_of_testBit_eq
      intro i
      rw [tb_and, tb_pow, tb_zero]
      by_cases h : t = i
      · subst h; simp [e]
      · simp [h]
    simp [this]
theorem has_int {s t : Nat} (hs : s < top) (ht : t < 64) : ((Go.bits .and .u64 (s : Int) (((2 ^ t : Nat) : Nat) : Int)) != 0) = s.testBit t := by
  rw [and_nat hs (lt_pow ht), ← has_iff]
  rw [Bool.eq_iff_iff, bne_iff_ne, bne_iff_ne]
  omega
/-- A number that isn't in it, added; one that is, taken. -/
theorem add_disj : ∀ (a b : Nat), a &&& b = 0 → a + b = a ||| b := by
  intro a b h
  have hn : ∃ n, a < 2 ^ n ∧ b < 2 ^ n := ⟨a + b, Nat.lt_of_lt_of_le Nat.lt_two_pow_self (Nat.pow_le_pow_right (by decide) (by omega)), Nat.lt_of_lt_of_le Nat.lt_two_pow_self (Nat.pow_le_pow_right (by decide) (by omega))⟩
  obtain ⟨n, ha, hb⟩ := hn
  have ha' : a < 2 ^ (n + 1) := by rw [Nat.pow_succ]; omega
  have hb' : b < 2 ^ (n + 1) := by rw [Nat.pow_succ]; omega
  have hor : a ||| b < 2 ^ (n + 1) := Nat.or_lt_two_pow ha' hb'
  have hs : a + b < 2 ^ (n + 1) := by rw [Nat.pow_succ]; omega
  have key := BitVec.add_eq_or_of_and_eq_zero (BitVec.ofNat (n + 1) a) (BitVec.ofNat (n + 1) b) (by
    apply BitVec.eq_of_toNat_eq
    simp only [BitVec.toNat_and, BitVec.toNat_ofNat]
    rw [Nat.mod_eq_of_lt ha', Nat.mod_eq_of_lt hb', h, Nat.zero_mod])
  have k2 := congrArg BitVec.toNat key
  simp only [BitVec.toNat_add, BitVec.toNat_or, BitVec.toNat_ofNat] at k2
  rw [Nat.mod_eq_of_lt ha', Nat.mod_eq_of_lt hb', Nat.mod_eq_of_lt hs] at k2
  exact k2
theorem add_pow {s t : Nat} (h : s.testBit t = false) : s + 2 ^ t = s ||| 2 ^ t := by
  apply add_disj
  apply Nat.eq_of_testBit_eq
  intro i
  rw [tb_and, tb_pow, tb_zero]
  by_cases e : t = i
  · subst e; simp [h]
  · simp [e]
theorem pow_le {s t : Nat} (h : s.testBit t = true) : 2 ^ t ≤ s := Nat.ge_two_pow_of_testBit h
theorem sub_pow {s t : Nat} (ht : t < 64) (hs : s < top) (h : s.testBit t = true) : s - 2 ^ t = sub s (2 ^ t) := by
  have h1 : (sub s (2 ^ t)).testBit t = false := by rw [tb_sub (lt_pow ht) t ht, tb_pow]; simp
  have h2 := add_pow h1
  have h3 : sub s (2 ^ t) ||| 2 ^ t = s := by
    apply ext (lt_or (lt_sub hs) (lt_pow ht)) hs
    intro i hi
    rw [tb_or, tb_sub (lt_pow ht) i hi, tb_pow]
    by_cases e : t = i
    · subst e; simp [h]
    · simp [e]
  omega
theorem half (s : Nat) : ((s : Int) / 2) = ((s / 2 : Nat) : Int) := by omega
theorem bit0 (s : Nat) : (((s : Int) % 2) == 1) = s.testBit 0 := by
  rw [Bool.eq_iff_iff, beq_iff_eq, Nat.testBit_zero, decide_eq_true_iff]
  omega
theorem bit_succ (s i : Nat) : s.testBit (i + 1) = (s / 2).testBit i := Nat.testBit_succ s i
end Go.Proofs.Ytjcjhmnfknenlaa.Bt
