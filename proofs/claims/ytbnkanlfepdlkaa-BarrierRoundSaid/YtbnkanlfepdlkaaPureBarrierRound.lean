/- BarrierRound, over numbers and lists alone: for every input the law's plain function answers true. Conditions: none. -/
import Derived.Test.YtbnkanlfepdlkaaPBarrierRoundx2
import Derived.Test.YtbnkanlfepdlkaaRw
import Derived.Test.YtbnkanlfepdlkaaBt
namespace Go.Proofs.Ytbnkanlfepdlkaa.Pure
open Go.RowKit Go.Proofs.Ytbnkanlfepdlkaa.PBarrierRound Go.Proofs.YtbnkanlfepdlkaaW.PrintWords Go.Proofs.YtbnkanlfepdlkaaW.PrintLast Go.Proofs.YtbnkanlfepdlkaaW.PrintMore

theorem w64 {x : Int} (h : -9223372036854775808 ≤ x ∧ x ≤ 9223372036854775807) : wrap64 x = x := by unfold wrap64; omega
theorem lives_true : logjamlaw19_lives.f = some true := by decide +kernel
theorem one_in {t : Nat} (ht : t < 64) : bits_one.f (t : Int) = some ((2 ^ t : Nat) : Int) := by
  unfold bits_one.f
  rw [if_neg (by omega), if_neg (by omega), if_pos (by omega), Bt.shl_one ht]
theorem has_in {s t : Nat} (hs : s < Bt.top) (ht : t < 64) : bits_Set_Has.f (s : Int) (t : Int) = some (s.testBit t) := by
  unfold bits_Set_Has.f
  rw [one_in ht, Option.bind_some, Bt.has_int hs ht]
theorem with_in {s t : Nat} (hs : s < Bt.top) (ht : t < 64) : bits_Set_With.f (s : Int) (t : Int) = some ((s ||| 2 ^ t : Nat) : Int) := by
  unfold bits_Set_With.f
  rw [one_in ht, Option.bind_some, Bt.or_nat hs (Bt.lt_pow ht)]
theorem bad_in {m a t : Nat} (ht : t < 64) : barrier_Barrier_bad.f (m : Int) (a : Int) (t : Int) = some (false, (m : Int), (a : Int)) := by
  unfold barrier_Barrier_bad.f
  rw [if_neg (by omega)]
  simp; omega
theorem enrol_in {m t : Nat} (hm : m < Bt.top) (ht : t < 64) (hn : m.testBit t = false) : barrier_Barrier_Enrol.f (m : Int) 0 (t : Int) = some (0, ((m ||| 2 ^ t : Nat) : Int), 0) := by
  unfold barrier_Barrier_Enrol.f
  have := bad_in (m := m) (a := 0) ht
  simp only [Int.natCast_zero] at this
  simp only [this, Option.bind_some, Bool.false_eq_true, if_false, has_in hm ht, hn, if_true, with_in hm ht]
theorem arrive_in {m a t : Nat} (hm : m < Bt.top) (ha : a < Bt.top) (ht : t < 64) (h1 : m.testBit t = true) (h2 : a.testBit t = false) :
    barrier_Barrier_Arrive.f (m : Int) (a : Int) (t : Int) = if a ||| 2 ^ t = m then some ((a : Int), true, 0, (m : Int), 0) else some (0, false, 0, (m : Int), ((a ||| 2 ^ t : Nat) : Int)) := by
  unfold barrier_Barrier_Arrive.f barrier_Barrier_clear.f
  simp only [bad_in ht, Option.bind_some, Bool.false_eq_true, if_false, has_in hm ht, has_in ha ht, h1, h2, if_true, with_in ha ht]
  by_cases c : a ||| 2 ^ t = m
  · rw [if_pos (by rw [c]), if_pos c]
  · rw [if_neg (by omega), if_neg c]

/-- The numbers of a set below t, rising. -/
def low (m t : Nat) : List Nat := (List.range t).filter fun i => m.testBit i
theorem low_succ (m t : Nat) : low m (t + 1) = if m.testBit t = true then low m t ++ [t] else low m t := by
  unfold low
  rw [List.range_succ, List.filter_append]
  cases h : m.testBit t <;> simp [h]
theorem mem_low {m t i : Nat} : i ∈ low m t ↔ i < t ∧ m.testBit i = true := by simp [low]
theorem low_len (m t : Nat) : (low m t).length ≤ t := by
  unfold low
  exact Nat.le_trans (List.length_filter_le _ _) (by simp)
theorem low_nodup (m t : Nat) : (low m t).Nodup := List.Pairwise.filter _ List.nodup_range
def ints (l : List Nat) : List Int := l.map fun (n : Nat) => (n : Int)
theorem ints_len (l : List Nat) : (ints l).length = l.length := by simp [ints]
theorem rd_ints {l : List Nat} {i : Nat} (h : i < l.length) : rd (ints l) (i : Int) = ((l[i] : Nat) : Int) := by
  unfold rd ints
  simp [List.getD_eq_getElem?_getD, h]

theorem shr_bit {m t : Nat} (hm : m < Bt.top) (ht : t < 64) : (Go.bits .and .u64 (shr .u64 (m : Int) (t : Int)) 1 = 1) ↔ m.testBit t = true := by
  have e : shr .u64 (m : Int) (t : Int) = ((m / 2 ^ t : Nat) : Int) := by
    unfold shr
    have : min (t : Int).toNat IntKind.u64.bits = t := by simp [IntKind.bits]; omega
    rw [this]
    simp
  rw [e]
  have hlt : m / 2 ^ t < Bt.top := Nat.lt_of_le_of_lt (Nat.div_le_self _ _) hm
  have h1 := Bt.and_nat (a := m / 2 ^ t) (b := 1) hlt (by decide)
  have h1' : Go.bits .and .u64 ((m / 2 ^ t : Nat) : Int) 1 = ((m / 2 ^ t &&& 1 : Nat) : Int) := h1
  rw [h1', Nat.and_one_is_mod, Nat.testBit_eq_decide_div_mod_eq, decide_eq_true_iff]
  omega

section
variable (x0 x1 : Int) (m : Nat) (hm : m < Bt.top) (hx : x0 = (m : Int))
include hm hx
theorem first_loop (P : ∀ k, 250 < k → logjamlaw19_BarrierRound.l1 k x0 x1 (ints (low m 64)) 0 0 0 = some true) : ∀ (d k t : Nat), t + d = 64 → d + 251 < k →
    logjamlaw19_BarrierRound.l0 k x0 x1 (ints (low m t)) (t : Int) 0 0 = some true := by
  intro d
  induction d with
  | zero =>
    intro k t ht hk
    obtain ⟨k, rfl⟩ : ∃ q, k = q + 1 := ⟨k - 1, by omega⟩
    obtain rfl : t = 64 := by omega
    simp only [logjamlaw19_BarrierRound.l0]
    rw [if_neg (by omega)]
    exact P k (by omega)
  | succ d ih =>
    intro k t ht hk
    obtain ⟨k, rfl⟩ : ∃ q, k = q + 1 := ⟨k - 1, by omega⟩
    have htl : t < 64 := by omega
    have hw : IntKind.u64.wrap (t : Int) = (t : Int) := Bt.wrapU (Nat.lt_trans htl (by decide))
    simp only [logjamlaw19_BarrierRound.l0]
    rw [if_pos (by omega), hw, if_pos (by omega), hx, w64 (by omega)]
    have go := ih k (t + 1) (by omega) (by omega)
    rw [hx, low_succ] at go
    have e1 : ((t + 1 : Nat) : Int) = (t : Int) + 1 := by omega
    rw [e1] at go
    by_cases c : m.testBit t = true
    · rw [if_pos ((shr_bit hm htl).2 c), if_pos (by rw [ints_len]; have := low_len m t; omega)]
      rw [if_pos c] at go
      have : ints (low m t) ++ [(t : Int)] = ints (low m t ++ [t]) := by simp [ints]
      rw [this]
      exact go
    · rw [if_neg (fun h => c ((shr_bit hm htl).1 h))]
      rw [if_neg c] at go
      exact go

/-- The set of the first i of a list. -/
def some_of (l : List Nat) : Nat → Nat
  | 0 => 0
  | i + 1 => some_of l i ||| 2 ^ (l.getD i 0)
omit hm hx in
theorem tb_some_of {l : List Nat} : ∀ {i b : Nat}, (some_of l i).testBit b = true ↔ ∃ j, j < i ∧ l.getD j 0 = b := by
  intro i
  induction i with
  | zero => intro b; simp [some_of]
  | succ i ih =>
    intro b
    simp only [some_of]
    rw [Bt.tb_or, Bool.or_eq_true, ih, Bt.tb_pow, decide_eq_true_iff]
    constructor
    · rintro (⟨j, h1, h2⟩ | h)
      · exact ⟨j, by omega, h2⟩
      · exact ⟨i, by omega, h⟩
    · rintro ⟨j, h1, h2⟩
      by_cases e : j = i
      · subst e; exact .inr h2
      · exact .inl ⟨j, by omega, h2⟩
omit hm hx in
theorem some_of_lt {l : List Nat} (hl : ∀ x ∈ l, x < 64) : ∀ i, i ≤ l.length → some_of l i < Bt.top := by
  intro i
  induction i with
  | zero => intro _; show 0 < Bt.top; decide
  | succ i ih =>
    intro hi
    have : l.getD i 0 < 64 := by
      rw [List.getD_eq_getElem?_getD, List.getElem?_eq_getElem (by omega)]
      exact hl _ (List.getElem_mem _)
    exact Bt.lt_or (ih (by omega)) (Bt.lt_pow this)
omit hm hx in
theorem getD_lt {l : List Nat} {i : Nat} (hi : i < l.length) : l.getD i 0 = l[i] := by
  rw [List.getD_eq_getElem?_getD, List.getElem?_eq_getElem hi]; rfl

omit hx in
theorem second_loop (P : ∀ k, 180 < k → logjamlaw19_BarrierRound.l2 k x0 x1 (ints (low m 64)) 0 (m : Int) 0 = some true) : ∀ (d k i : Nat), i + d = (low m 64).length → d + 181 < k →
    logjamlaw19_BarrierRound.l1 k x0 x1 (ints (low m 64)) (i : Int) (some_of (low m 64) i : Int) 0 = some true := by
  have hl : ∀ x ∈ low m 64, x < 64 := fun x h => (mem_low.1 h).1
  have hall : some_of (low m 64) (low m 64).length = m := by
    apply Bt.ext (some_of_lt hl _ (Nat.le_refl _)) hm
    intro b hb
    rw [Bool.eq_iff_iff, tb_some_of]
    constructor
    · rintro ⟨j, hj, e⟩
      rw [getD_lt hj] at e
      have := List.getElem_mem hj
      rw [e] at this
      exact (mem_low.1 this).2
    · intro h
      obtain ⟨j, hj, e⟩ := List.mem_iff_getElem.1 (mem_low.2 ⟨hb, h⟩)
      exact ⟨j, hj, by rw [getD_lt hj]; exact e⟩
  intro d
  induction d with
  | zero =>
    intro k i hi hk
    obtain ⟨k, rfl⟩ : ∃ q, k = q + 1 := ⟨k - 1, by omega⟩
    obtain rfl : i = (low m 64).length := by omega
    simp only [logjamlaw19_BarrierRound.l1, ints_len]
    rw [if_neg (by omega), hall]
    exact P k (by omega)
  | succ d ih =>
    intro k i hi hk
    obtain ⟨k, rfl⟩ : ∃ q, k = q + 1 := ⟨k - 1, by omega⟩
    have hil : i < (low m 64).length := by omega
    have h64 := low_len m 64
    simp only [logjamlaw19_BarrierRound.l1, ints_len]
    rw [if_pos (by omega), if_pos (by omega), rd_ints hil, w64 (by omega)]
    have hx64 : (low m 64)[i] < 64 := hl _ (List.getElem_mem _)
    have hnot : (some_of (low m 64) i).testBit (low m 64)[i] = false := by
      cases e : (some_of (low m 64) i).testBit (low m 64)[i] with
      | false => rfl
      | true =>
        obtain ⟨j, hj, e'⟩ := tb_some_of.1 e
        rw [getD_lt (by omega)] at e'
        have := (List.getElem_inj (low_nodup m 64)).1 e'
        omega
    rw [enrol_in (some_of_lt hl i (by omega)) hx64 hnot]
    simp only [Option.bind_some, if_true]
    have go := ih k (i + 1) (by omega) (by omega)
    simp only [some_of, getD_lt hil] at go
    have e1 : ((i + 1 : Nat) : Int) = (i : Int) + 1 := by omega
    rw [e1] at go
    exact go

/-- The numbers in the order in which they come, c on. -/
def turn (l : List Nat) (c : Nat) : List Nat := (List.range l.length).map fun i => l.getD ((i + c) % l.length) 0
omit hm hx in
theorem turn_len (l : List Nat) (c : Nat) : (turn l c).length = l.length := by simp [turn]
omit hm hx in
theorem turn_at {l : List Nat} {c i : Nat} (hi : i < l.length) : (turn l c).getD i 0 = l.getD ((i + c) % l.length) 0 := by
  rw [List.getD_eq_getElem?_getD]
  simp [turn, hi]
omit hm hx in
theorem mod_inj {n c i j : Nat} (hi : i < n) (hj : j < n) (h : (i + c) % n = (j + c) % n) : i = j := by
  have h1 := Nat.div_add_mod (i + c) n
  have h2 := Nat.div_add_mod (j + c) n
  rw [h] at h1
  rcases Nat.lt_trichotomy ((i + c) / n) ((j + c) / n) with q | q | q
  · have : n * ((i + c) / n + 1) ≤ n * ((j + c) / n) := Nat.mul_le_mul_left _ q
    rw [Nat.mul_add] at this
    omega
  · rw [q] at h1; omega
  · have : n * ((j + c) / n + 1) ≤ n * ((i + c) / n) := Nat.mul_le_mul_left _ q
    rw [Nat.mul_add] at this
    omega
omit hm hx in
theorem turn_new {l : List Nat} (hl : l.Nodup) {c i j : Nat} (hi : i < l.length) (hj : j < l.length) (h : (turn l c).getD i 0 = (turn l c).getD j 0) : i = j := by
  have hp : 0 < l.length := by omega
  rw [turn_at hi, turn_at hj, getD_lt (Nat.mod_lt _ hp), getD_lt (Nat.mod_lt _ hp)] at h
  exact mod_inj hi hj ((List.getElem_inj hl).1 h)
omit hm hx in
theorem turn_all {l : List Nat} {c k : Nat} (hk : k < l.length) : ∃ i, i < l.length ∧ (turn l c).getD i 0 = l[k] := by
  have hp : 0 < l.length := by omega
  refine ⟨(k + (l.length - c % l.length)) % l.length, Nat.mod_lt _ hp, ?_⟩
  rw [turn_at (Nat.mod_lt _ hp)]
  have e : ((k + (l.length - c % l.length)) % l.length + c) % l.length = k := by
    have hc := Nat.mod_lt c hp
    rw [Nat.mod_add_mod]
    have e2 : k + (l.length - c % l.length) + c = k + l.length * (1 + c / l.length) := by
      have := Nat.div_add_mod c l.length
      rw [Nat.mul_add]
      omega
    rw [e2, Nat.add_mul_mod_self_left, Nat.mod_eq_of_lt hk]
  rw [e, getD_lt hk]

omit hx in
theorem third_loop (c : Nat) (hc : c < 64) (hcx : wrap64 (Int.tmod (IntKind.u64.wrap x1) 64) = (c : Int)) (x9 : Int) (h9 : 0 ≤ x9 ∧ x9 ≤ 1) (B : Nat)
    (P : ∀ k, B < k → logjamlaw19_BarrierRound.l2 k x0 x1 (ints (low m 64)) (x9 + 1) (m : Int) 0 = some true) : ∀ (d k i : Nat), i + d = (low m 64).length → d + B + 1 < k →
    logjamlaw19_BarrierRound.l3 k x0 x1 (ints (low m 64)) x9 (some_of (turn (low m 64) c) i : Int) (i : Int) (m : Int) ((if i = (low m 64).length then 0 else some_of (turn (low m 64) c) i : Nat) : Int) = some true := by
  have hl : ∀ x ∈ low m 64, x < 64 := fun x h => (mem_low.1 h).1
  have h64 := low_len m 64
  have htl : ∀ x ∈ turn (low m 64) c, x < 64 := by
    intro x hx'
    obtain ⟨i, hi, rfl⟩ := List.mem_map.1 hx'
    have hp : 0 < (low m 64).length := by
      have := List.mem_range.1 hi
      omega
    rw [getD_lt (Nat.mod_lt _ hp)]
    exact hl _ (List.getElem_mem _)
  intro d
  induction d with
  | zero =>
    intro k i hi hk
    obtain ⟨k, rfl⟩ : ∃ q, k = q + 1 := ⟨k - 1, by omega⟩
    obtain rfl : i = (low m 64).length := by omega
    simp only [logjamlaw19_BarrierRound.l3, ints_len]
    rw [if_neg (by omega), w64 (by omega), if_pos trivial]
    exact P k (by omega)
  | succ d ih =>
    intro k i hi hk
    obtain ⟨k, rfl⟩ : ∃ q, k = q + 1 := ⟨k - 1, by omega⟩
    have hil : i < (low m 64).length := by omega
    have hp : 0 < (low m 64).length := by omega
    have hmod := Nat.mod_lt (i + c) hp
    have eidx : Int.tmod (wrap64 ((i : Int) + (wrap64 (Int.tmod (IntKind.u64.wrap x1) 64)))) ((low m 64).length : Int) = (((i + c) % (low m 64).length : Nat) : Int) := by
      rw [hcx, w64 (by omega)]
      rw [Int.tmod_eq_emod_of_nonneg (by omega), show ((i : Int) + (c : Int)) = ((i + c : Nat) : Int) from by omega, Int.natCast_emod]
    have hat := turn_at (l := low m 64) (c := c) hil
    rw [getD_lt hmod] at hat
    have htx : (low m 64)[(i + c) % (low m 64).length] < 64 := hl _ (List.getElem_mem _)
    have htm : m.testBit (low m 64)[(i + c) % (low m 64).length] = true := (mem_low.1 (List.getElem_mem hmod)).2
    have hA : some_of (turn (low m 64) c) i < Bt.top := some_of_lt htl i (by rw [turn_len]; omega)
    have hA1 : some_of (turn (low m 64) c) (i + 1) < Bt.top := some_of_lt htl (i + 1) (by rw [turn_len]; omega)
    have hnot : (some_of (turn (low m 64) c) i).testBit (low m 64)[(i + c) % (low m 64).length] = false := by
      cases e : (some_of (turn (low m 64) c) i).testBit (low m 64)[(i + c) % (low m 64).length] with
      | false => rfl
      | true =>
        obtain ⟨j, hj, e'⟩ := tb_some_of.1 e
        rw [← hat] at e'
        have := turn_new (low_nodup m 64) (by omega) hil e'
        omega
    have step : some_of (turn (low m 64) c) (i + 1) = some_of (turn (low m 64) c) i ||| 2 ^ (low m 64)[(i + c) % (low m 64).length] := by
      show _ ||| 2 ^ ((turn (low m 64) c).getD i 0) = _
      rw [hat]
    have hlast : (some_of (turn (low m 64) c) i ||| 2 ^ (low m 64)[(i + c) % (low m 64).length] = m) ↔ i + 1 = (low m 64).length := by
      rw [← step]
      constructor
      · intro e
        by_cases q : i + 1 < (low m 64).length
        · exfalso
          have h1 : m.testBit ((turn (low m 64) c).getD (i + 1) 0) = true := by
            rw [turn_at q, getD_lt (Nat.mod_lt _ hp)]
            exact (mem_low.1 (List.getElem_mem _)).2
          have h1' : (some_of (turn (low m 64) c) (i + 1)).testBit ((turn (low m 64) c).getD (i + 1) 0) = true := by rw [e]; exact h1
          obtain ⟨j, hj, e'⟩ := tb_some_of.1 h1'
          have := turn_new (low_nodup m 64) (by omega) q e'
          omega
        · omega
      · intro e
        apply Bt.ext hA1 hm
        intro b hb
        rw [Bool.eq_iff_iff, tb_some_of]
        constructor
        · rintro ⟨j, hj, e'⟩
          rw [turn_at (by omega), getD_lt (Nat.mod_lt _ hp)] at e'
          have := List.getElem_mem (Nat.mod_lt (j + c) hp)
          rw [e'] at this
          exact (mem_low.1 this).2
        · intro h
          obtain ⟨q, hq, e'⟩ := List.mem_iff_getElem.1 (mem_low.2 ⟨hb, h⟩)
          obtain ⟨j, hj, e2⟩ := turn_all (c := c) hq
          exact ⟨j, by omega, by rw [e2]; exact e'⟩
    have go := ih k (i + 1) (by omega) (by omega)
    have e1 : ((i + 1 : Nat) : Int) = (i : Int) + 1 := by omega
    rw [step, e1] at go
    simp only [logjamlaw19_BarrierRound.l3, ints_len]
    rw [if_pos (by omega), if_neg (by omega), eidx, if_pos (by omega), if_pos (by omega), rd_ints hmod, if_neg (by omega), arrive_in hm hA htx htm hnot, Bt.wrapU (Nat.lt_trans htx (by decide)), w64 (x := (i : Int) + 1) (by omega), w64 (x := ((low m 64).length : Int) - 1) (by omega), Bt.shl_one htx, Bt.or_nat hA (Bt.lt_pow htx)]
    by_cases q : i + 1 = (low m 64).length
    · rw [if_pos (hlast.2 q)]
      have hb : ((i : Int) == ((low m 64).length : Int) - 1) = true := beq_iff_eq.2 (by omega)
      simp only [Option.bind_some, if_true, hb, bne_self_eq_false, Bool.false_eq_true, if_false]
      rw [if_pos (by omega)]
      rw [if_pos q] at go
      exact go
    · rw [if_neg (fun h => q (hlast.1 h))]
      have hb : ((i : Int) == ((low m 64).length : Int) - 1) = false := beq_eq_false_iff_ne.2 (by omega)
      simp only [Option.bind_some, if_true, hb, bne_self_eq_false, Bool.false_eq_true, if_false]
      rw [if_pos (by omega)]
      rw [if_neg q] at go
      exact go
end
theorem BarrierRound : logjamlaw19_BarrierRound.Pure := by
  intro a0 a1 h0 h1
  obtain ⟨b0, b1⟩ := Rw.wfu64 h0
  obtain ⟨c0, c1⟩ := Rw.wf64 h1
  obtain ⟨m, rfl⟩ : ∃ m : Nat, a0 = (m : Int) := ⟨a0.toNat, by omega⟩
  have hm : m < Bt.top := by show m < 18446744073709551616; omega
  have hcx : ∃ c : Nat, c < 64 ∧ wrap64 (Int.tmod (IntKind.u64.wrap a1) 64) = (c : Int) := by
    rw [IntKind.wrap_u64, Int.tmod_eq_emod_of_nonneg (Int.emod_nonneg _ (by decide))]
    refine ⟨(a1 % 18446744073709551616 % 64).toNat, by omega, ?_⟩
    rw [w64 (by omega)]
    omega
  obtain ⟨c, hc, hcx⟩ := hcx
  have h64 := low_len m 64
  obtain ⟨K, hK⟩ : ∃ K, 400 < K := ⟨_, Nat.lt_succ_self _⟩
  refine ⟨K, ?_⟩
  unfold logjamlaw19_BarrierRound.f
  have last : ∀ k, 0 < k → logjamlaw19_BarrierRound.l2 k (m : Int) a1 (ints (low m 64)) 2 (m : Int) 0 = some true := by
    intro k hk
    obtain ⟨k, rfl⟩ : ∃ q, k = q + 1 := ⟨k - 1, by omega⟩
    simp only [logjamlaw19_BarrierRound.l2, barrier_Barrier_Members.f, barrier_Barrier_Arrived.f, Option.bind_some, if_true, lives_true]
    rw [if_neg (by omega)]
  have round : ∀ (x9 : Int), 0 ≤ x9 ∧ x9 ≤ 1 → ∀ B, (∀ k, B < k → logjamlaw19_BarrierRound.l2 k (m : Int) a1 (ints (low m 64)) (x9 + 1) (m : Int) 0 = some true) →
      ∀ k, B + 68 < k → logjamlaw19_BarrierRound.l2 k (m : Int) a1 (ints (low m 64)) x9 (m : Int) 0 = some true := by
    intro x9 h9 B P k hk
    obtain ⟨k, rfl⟩ : ∃ q, k = q + 1 := ⟨k - 1, by omega⟩
    have := third_loop (m : Int) a1 m hm c hc hcx x9 h9 B P (low m 64).length k 0 (by omega) (by omega)
    simp only [logjamlaw19_BarrierRound.l2]
    rw [if_pos (by omega)]
    have e : ((if 0 = (low m 64).length then 0 else some_of (turn (low m 64) c) 0 : Nat) : Int) = 0 := by split <;> rfl
    rw [e] at this
    exact this
  have r1 := round 1 (by omega) 0 last
  have r0 := round 0 (by omega) 68 (fun k hk => r1 k (by omega))
  exact first_loop (m : Int) a1 m hm rfl (fun k hk => second_loop (m : Int) a1 m hm (fun k hk => r0 k (by omega)) (low m 64).length k 0 (by omega) (by omega)) 64 K 0 (by omega) (by omega)
end Go.Proofs.Ytbnkanlfepdlkaa.Pure
