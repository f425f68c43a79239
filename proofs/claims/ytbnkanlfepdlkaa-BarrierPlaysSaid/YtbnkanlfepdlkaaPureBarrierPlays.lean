/- BarrierPlays, over numbers and lists alone: for every input the law's plain function answers true. Conditions: none. -/
import Derived.Test.YtbnkanlfepdlkaaPBarrierPlaysx9
import Derived.Test.YtbnkanlfepdlkaaRw
import Derived.Test.YtbnkanlfepdlkaaR2PBarrierPlays
namespace Go.Proofs.Ytbnkanlfepdlkaa.Pure
open Go.RowKit Go.Proofs.Ytbnkanlfepdlkaa.PBarrierPlays Go.Proofs.YtbnkanlfepdlkaaW.PrintWords Go.Proofs.YtbnkanlfepdlkaaW.PrintLast Go.Proofs.YtbnkanlfepdlkaaW.PrintMore
open R2 (w64)

theorem lives_true : logjamlaw19_lives.f = some true := by decide +kernel

theorem one_in {t : Nat} (ht : t < 64) : bits_one.f (t : Int) = some ((2 ^ t : Nat) : Int) := by
  unfold bits_one.f
  rw [if_neg (by omega), if_neg (by omega), if_pos (by omega), Bt.shl_one ht]
theorem has_in {s t : Nat} (hs : s < Bt.top) (ht : t < 64) : bits_Set_Has.f (s : Int) (t : Int) = some (s.testBit t) := by
  unfold bits_Set_Has.f
  rw [one_in ht, Option.bind_some, Bt.has_int hs ht]
theorem with_in {s t : Nat} (hs : s < Bt.top) (ht : t < 64) : bits_Set_With.f (s : Int) (t : Int) = some ((s ||| 2 ^ t : Nat) : Int) := by
  unfold bits_Set_With.f
  rw [one_in ht, Option.bind_some, Bt.or_nat hs (Bt.lt_pow ht)]
theorem without_in {s t : Nat} (hs : s < Bt.top) (ht : t < 64) : bits_Set_Without.f (s : Int) (t : Int) = some ((Bt.sub s (2 ^ t) : Nat) : Int) := by
  unfold bits_Set_Without.f
  rw [one_in ht, Option.bind_some, Bt.andNot_nat hs (Bt.lt_pow ht)]
theorem bad_in {m a t : Nat} (ht : t < 64) : barrier_Barrier_bad.f (m : Int) (a : Int) (t : Int) = some (false, (m : Int), (a : Int)) := by
  unfold barrier_Barrier_bad.f
  rw [if_neg (by omega)]
  simp; omega
theorem bad_out {m a : Nat} {t : Int} (ht : t < 0 ∨ 64 ≤ t) : barrier_Barrier_bad.f (m : Int) (a : Int) t = some (true, (m : Int), (a : Int)) := by
  unfold barrier_Barrier_bad.f
  by_cases c : t < 0
  · rw [if_pos c]
  · rw [if_neg c]; simp; omega

/-- A set without the first i of a list. -/
def less (m : Nat) (l : List Nat) : Nat → Nat
  | 0 => m
  | i + 1 => Bt.sub (less m l i) (2 ^ (l.getD i 0))
theorem getD_lt {l : List Nat} {i : Nat} (hi : i < l.length) : l.getD i 0 = l[i] := by
  rw [List.getD_eq_getElem?_getD, List.getElem?_eq_getElem hi]; rfl
theorem less_lt {m : Nat} {l : List Nat} (hm : m < Bt.top) : ∀ i, less m l i < Bt.top := by
  intro i
  induction i with
  | zero => exact hm
  | succ i ih => exact Bt.lt_sub ih
theorem tb_less {m : Nat} {l : List Nat} (hl : ∀ x ∈ l, x < 64) {b : Nat} (hb : b < 64) : ∀ i, i ≤ l.length → ((less m l i).testBit b = true ↔ m.testBit b = true ∧ ¬ ∃ j, j < i ∧ l.getD j 0 = b) := by
  intro i
  induction i with
  | zero => intro _; simp [less]
  | succ i ih =>
    intro hi
    have hx : l.getD i 0 < 64 := by rw [getD_lt (by omega)]; exact hl _ (List.getElem_mem _)
    simp only [less]
    rw [Bt.tb_sub (Bt.lt_pow hx) b hb, Bt.tb_pow, Bool.and_eq_true, ih (by omega)]
    constructor
    · rintro ⟨⟨h1, h2⟩, h3⟩
      refine ⟨h1, ?_⟩
      rintro ⟨j, hj, e⟩
      by_cases q : j = i
      · subst q
        rw [e] at h3
        simp at h3
      · exact h2 ⟨j, by omega, e⟩
    · rintro ⟨h1, h2⟩
      refine ⟨⟨h1, fun ⟨j, hj, e⟩ => h2 ⟨j, by omega, e⟩⟩, ?_⟩
      have : ¬ l.getD i 0 = b := fun e => h2 ⟨i, by omega, e⟩
      simpa using this
theorem missing_in {m a k : Nat} (hm : m < Bt.top) (ha : a < Bt.top) (hk : 140 ≤ k) : logjamref19_Missing.f k (m : Int) (a : Int) = some ((Bt.sub m a : Nat) : Int) := by
  have hl : ∀ x ∈ R2.low a 64, x < 64 := fun x h => (R2.mem_low.1 h).1
  have h64 := R2.low_len a 64
  have loop : ∀ (d k i : Nat), i + d = (R2.low a 64).length → d + 66 < k → logjamref19_Missing.l0 k (less m (R2.low a 64) i : Int) (R2.ints (R2.low a 64)) (i : Int) = some ((Bt.sub m a : Nat) : Int) := by
    intro d
    induction d with
    | zero =>
      intro k i hi hk
      obtain ⟨k, rfl⟩ : ∃ q, k = q + 1 := ⟨k - 1, by omega⟩
      obtain rfl : i = (R2.low a 64).length := by omega
      simp only [logjamref19_Missing.l0, R2.ints_len]
      rw [if_neg (by omega)]
      have : less m (R2.low a 64) (R2.low a 64).length = Bt.sub m a := by
        apply Bt.ext (less_lt hm _) (Bt.lt_sub hm)
        intro b hb
        rw [Bool.eq_iff_iff, tb_less hl hb _ (Nat.le_refl _), Bt.tb_sub ha b hb, Bool.and_eq_true]
        constructor
        · rintro ⟨h1, h2⟩
          refine ⟨h1, ?_⟩
          cases e : a.testBit b with
          | false => rfl
          | true =>
            obtain ⟨j, hj, e'⟩ := List.mem_iff_getElem.1 (R2.mem_low.2 ⟨hb, e⟩)
            exact absurd ⟨j, hj, by rw [getD_lt hj]; exact e'⟩ h2
        · rintro ⟨h1, h2⟩
          refine ⟨h1, ?_⟩
          rintro ⟨j, hj, e⟩
          rw [getD_lt hj] at e
          have := List.getElem_mem hj
          rw [e] at this
          rw [(R2.mem_low.1 this).2] at h2
          cases h2
      rw [this]
    | succ d ih =>
      intro k i hi hk
      obtain ⟨k, rfl⟩ : ∃ q, k = q + 1 := ⟨k - 1, by omega⟩
      have hil : i < (R2.low a 64).length := by omega
      simp only [logjamref19_Missing.l0, R2.ints_len]
      rw [if_pos (by omega), if_pos (by omega), R2.rd_ints hil, w64 (by omega), R2.without_in (less_lt hm i) (hl _ (List.getElem_mem _)) (by omega)]
      have := ih k (i + 1) (by omega) (by omega)
      simp only [less, getD_lt hil] at this
      exact this
  unfold logjamref19_Missing.f
  rw [R2.list_in ha (by omega), Option.bind_some]
  exact loop (R2.low a 64).length k 0 (by omega) (by omega)

/-- What holds of a barrier at all times. -/
def Inv (m a : Nat) : Prop := m < Bt.top ∧ a < Bt.top ∧ (∀ i, i < 64 → a.testBit i = true → m.testBit i = true)
theorem eq_zero {m a : Nat} (hm : m < Bt.top) (ha : a < Bt.top) (hs : ∀ i, i < 64 → a.testBit i = true → m.testBit i = true) : ((Bt.sub m a : Nat) : Int) = 0 ↔ m = a := by
  constructor
  · intro h
    have q := (Bt.sub_zero_iff hm ha).1 (by omega)
    exact Bt.ext hm ha (fun i hi => by rw [Bool.eq_iff_iff]; exact ⟨q i hi, hs i hi⟩)
  · intro h
    subst h
    have := (Bt.sub_zero_iff hm hm).2 (fun _ _ q => q)
    omega

theorem do_spec (m a : Nat) (h : Inv m a) (kd t : Int) {k : Nat} (hk : 150 ≤ k) : ∃ (s : Nat) (is : Bool) (e : Int) (m' a' : Nat), logjamlaw19_do.f (m : Int) (a : Int) kd t = some ((s : Int), is, e, (m' : Int), (a' : Int)) ∧
    logjamref19_Do.f k (m : Int) (a : Int) kd t = some ((m' : Int), (a' : Int), (s : Int), is, e) ∧ Inv m' a' := by
  obtain ⟨hm, ha, hs⟩ := h
  have z : (0 : Nat) < Bt.top := by decide
  have same : Inv m a := ⟨hm, ha, hs⟩
  have clear : ∀ x : Nat, x < Bt.top → Inv x 0 := fun x hx => ⟨hx, z, fun i _ q => by rw [Bt.tb_zero] at q; cases q⟩
  obtain ⟨k, rfl⟩ : ∃ q, k = q + 1 := ⟨k - 1, by omega⟩
  unfold logjamlaw19_do.f barrier_Barrier_Enrol.f barrier_Barrier_Leave.f barrier_Barrier_Arrive.f barrier_Barrier_Withdraw.f barrier_Barrier_Break.f barrier_Barrier_clear.f
  unfold logjamref19_Do.f logjamref19_Enrol.f logjamref19_Leave.f logjamref19_Arrive.f logjamref19_Withdraw.f logjamref19_Break.f logjamref19_Out.f
  by_cases ct : t < 0 ∨ 64 ≤ t
  · have e1 : logjamref19_Enrol.j0 (k + 1) t true (m : Int) (a : Int) = some ((m : Int), (a : Int), 1) := by simp [logjamref19_Enrol.j0]
    have e2 : logjamref19_Leave.j0 (k + 1) t true (m : Int) (a : Int) = some ((m : Int), (a : Int), 0, 1) := by simp [logjamref19_Leave.j0]
    have e3 : logjamref19_Arrive.j0 (k + 1) t true (m : Int) (a : Int) = some ((m : Int), (a : Int), 0, false, 1) := by simp [logjamref19_Arrive.j0]
    have d : ¬ t < 0 → decide (t > 63) = true := fun c => by simp; omega
    have ite : ∀ {α : Type} (f : Bool → α), (if t < 0 then f true else f (decide (t > 63))) = f true := fun f => by
      by_cases c : t < 0
      · rw [if_pos c]
      · rw [if_neg c, d c]
    rw [ite (fun b => logjamref19_Enrol.j0 (k + 1) t b (m : Int) (a : Int)), ite (fun b => logjamref19_Leave.j0 (k + 1) t b (m : Int) (a : Int)), ite (fun b => logjamref19_Arrive.j0 (k + 1) t b (m : Int) (a : Int)), e1, e2, e3]
    simp only [bad_out ct, Option.bind_some, if_true, R2.has_out ct (show 66 ≤ k + 1 by omega), R2.without_out ct (show 66 ≤ k + 1 by omega), Bool.false_eq_true, if_false]
    by_cases k0 : kd = 0
    · simp only [k0, if_true]; exact ⟨0, _, _, m, a, rfl, rfl, same⟩
    by_cases k1 : kd = 1
    · subst k1; simp only [Int.reduceEq, if_false, if_true]; exact ⟨0, _, _, m, a, rfl, rfl, same⟩
    by_cases k2 : kd = 2
    · subst k2; simp only [Int.reduceEq, if_false, if_true]; exact ⟨0, _, _, m, a, rfl, rfl, same⟩
    by_cases k3 : kd = 3
    · subst k3; simp only [Int.reduceEq, if_false, if_true]; exact ⟨0, _, _, m, a, rfl, rfl, same⟩
    · simp only [k0, k1, k2, k3, if_false]; exact ⟨0, _, _, m, a, rfl, rfl, same⟩
  · obtain ⟨t, rfl⟩ : ∃ n : Nat, t = (n : Int) := ⟨t.toNat, by omega⟩
    have ht : t < 64 := by omega
    have hp := Bt.lt_pow ht
    have ite : ∀ {α : Type} (f : Bool → α), (if (t : Int) < 0 then f true else f (decide ((t : Int) > 63))) = f false := fun f => by
      rw [if_neg (by omega)]
      have : decide ((t : Int) > 63) = false := by simp; omega
      rw [this]
    rw [ite (fun b => logjamref19_Enrol.j0 (k + 1) t b (m : Int) (a : Int)), ite (fun b => logjamref19_Leave.j0 (k + 1) t b (m : Int) (a : Int)), ite (fun b => logjamref19_Arrive.j0 (k + 1) t b (m : Int) (a : Int))]
    simp only [logjamref19_Enrol.j0, logjamref19_Leave.j0, logjamref19_Arrive.j0, logjamref19_Out.f]
    simp only [bad_in ht, Option.bind_some, Bool.false_eq_true, if_false, has_in hm ht, has_in ha ht, with_in hm ht, with_in ha ht, without_in hm ht, without_in ha ht,
      R2.has_in hm ht (show 66 ≤ k by omega), R2.has_in ha ht (show 66 ≤ k by omega), R2.has_in hm ht (show 66 ≤ k + 1 by omega), R2.has_in ha ht (show 66 ≤ k + 1 by omega), R2.with_in hm ht (show 68 ≤ k by omega), R2.with_in ha ht (show 68 ≤ k by omega),
      R2.without_in hm ht (show 66 ≤ k by omega), R2.without_in ha ht (show 66 ≤ k by omega), R2.without_in hm ht (show 66 ≤ k + 1 by omega), R2.without_in ha ht (show 66 ≤ k + 1 by omega),
      missing_in (Bt.lt_sub (b := 2 ^ t) hm) (Bt.lt_sub (b := 2 ^ t) ha) (show 140 ≤ k by omega), missing_in hm (Bt.lt_or ha hp) (show 140 ≤ k by omega)]
    have hsM : ∀ i, i < 64 → (Bt.sub a (2 ^ t)).testBit i = true → (Bt.sub m (2 ^ t)).testBit i = true := by
      intro i hi q
      rw [Bt.tb_sub hp i hi, Bool.and_eq_true] at q
      rw [Bt.tb_sub hp i hi, hs i hi q.1, q.2]; rfl
    have hsub : ∀ i, i < 64 → (Bt.sub a (2 ^ t)).testBit i = true → a.testBit i = true := by
      intro i hi q
      rw [Bt.tb_sub hp i hi, Bool.and_eq_true] at q
      exact q.1
    have without : a.testBit t = false → Bt.sub a (2 ^ t) = a := by
      intro q
      apply Bt.ext (Bt.lt_sub ha) ha
      intro i hi
      rw [Bt.tb_sub hp i hi, Bt.tb_pow]
      by_cases e : t = i
      · subst e; simp [q]
      · simp [e]
    by_cases hM : m.testBit t = true
    · by_cases k0 : kd = 0
      · simp only [k0, if_true, hM, Option.bind_some]
        exact ⟨0, _, _, m, a, rfl, rfl, same⟩
      by_cases k1 : kd = 1
      · subst k1
        simp only [Int.reduceEq, if_false, if_true, hM]
        by_cases c : Bt.sub m (2 ^ t) = Bt.sub a (2 ^ t)
        · rw [if_pos (by rw [c]), if_pos ((eq_zero (Bt.lt_sub hm) (Bt.lt_sub ha) hsM).2 c)]
          exact ⟨Bt.sub a (2 ^ t), _, _, Bt.sub m (2 ^ t), 0, rfl, rfl, clear _ (Bt.lt_sub hm)⟩
        · rw [if_neg (by omega), if_neg (fun h => c ((eq_zero (Bt.lt_sub hm) (Bt.lt_sub ha) hsM).1 h))]
          exact ⟨0, _, _, Bt.sub m (2 ^ t), Bt.sub a (2 ^ t), rfl, rfl, ⟨Bt.lt_sub hm, Bt.lt_sub ha, hsM⟩⟩
      by_cases k2 : kd = 2
      · subst k2
        simp only [Int.reduceEq, if_false, if_true, hM]
        by_cases hA : a.testBit t = true
        · simp only [hA, if_true, Option.bind_some]
          exact ⟨0, _, _, m, a, rfl, rfl, same⟩
        · simp only [hA, Bool.false_eq_true, if_false]
          have hor : ∀ i, i < 64 → (a ||| 2 ^ t).testBit i = true → m.testBit i = true := by
            intro i hi q
            rw [Bt.tb_or, Bool.or_eq_true, Bt.tb_pow] at q
            rcases q with q | q
            · exact hs i hi q
            · have : t = i := by simpa using q
              subst this; exact hM
          by_cases c : a ||| 2 ^ t = m
          · rw [if_pos (by rw [c]), if_pos ((eq_zero hm (Bt.lt_or ha hp) hor).2 c.symm)]
            exact ⟨a, _, _, m, 0, rfl, rfl, clear _ hm⟩
          · rw [if_neg (by omega), if_neg (fun h => c ((eq_zero hm (Bt.lt_or ha hp) hor).1 h).symm)]
            exact ⟨0, _, _, m, a ||| 2 ^ t, rfl, rfl, ⟨hm, Bt.lt_or ha hp, hor⟩⟩
      by_cases k3 : kd = 3
      · subst k3
        simp only [Int.reduceEq, if_false, if_true]
        by_cases hA : a.testBit t = true
        · simp only [hA, if_true, Option.bind_some]
          exact ⟨0, _, _, m, Bt.sub a (2 ^ t), rfl, rfl, ⟨hm, Bt.lt_sub ha, fun i hi q => hs i hi (hsub i hi q)⟩⟩
        · have hA' : a.testBit t = false := by simpa using hA
          simp only [hA', Bool.false_eq_true, if_false, Option.bind_some, without hA']
          exact ⟨0, _, _, m, a, rfl, rfl, same⟩
      · simp only [k0, k1, k2, k3, if_false, hM, if_true, Option.bind_some]
        exact ⟨Bt.sub a (2 ^ t), _, _, Bt.sub m (2 ^ t), 0, rfl, rfl, clear _ (Bt.lt_sub hm)⟩
    · have hA : a.testBit t = false := by
        cases e : a.testBit t with
        | false => rfl
        | true => exact absurd (hs t ht e) hM
      simp only [hM, hA, Bool.false_eq_true, if_false, without hA]
      by_cases k0 : kd = 0
      · simp only [k0, if_true]
        by_cases c : a = 0
        · rw [if_pos (by omega), if_pos (by omega)]
          refine ⟨0, _, _, m ||| 2 ^ t, a, rfl, rfl, ⟨Bt.lt_or hm hp, ha, ?_⟩⟩
          intro i hi q
          rw [Bt.tb_or, hs i hi q]; rfl
        · rw [if_neg (by omega), if_neg (by omega)]
          exact ⟨0, _, _, m, a, rfl, rfl, same⟩
      simp only [k0, if_false, Option.bind_some]
      by_cases k1 : kd = 1
      · subst k1; simp only [if_true]; exact ⟨0, _, _, m, a, rfl, rfl, same⟩
      by_cases k2 : kd = 2
      · subst k2; simp only [Int.reduceEq, if_false, if_true]; exact ⟨0, _, _, m, a, rfl, rfl, same⟩
      by_cases k3 : kd = 3
      · subst k3; simp only [Int.reduceEq, if_false, if_true]; exact ⟨0, _, _, m, a, rfl, rfl, same⟩
      · simp only [k1, k2, k3, if_false]; exact ⟨0, _, _, m, a, rfl, rfl, same⟩

theorem plays_loop (l : List S80) : ∀ (d k : Nat) (i : Int) (m a : Nat), 0 ≤ i → i ≤ 100 → 100 - i = d → 3 * d + 160 < k → Inv m a →
    logjamlaw19_BarrierPlays.l0 k l i (m : Int) (a : Int) (m : Int) (a : Int) = some true := by
  intro d
  induction d with
  | zero =>
    intro k i m a hi0 hi1 hd hk h
    obtain ⟨k, rfl⟩ : ∃ q, k = q + 3 := ⟨k - 3, by omega⟩
    have c : ¬ i < 100 := by omega
    simp only [logjamlaw19_BarrierPlays.l0, logjamlaw19_BarrierPlays.j1, lives_true]
    split <;> simp [c]
  | succ d ih =>
    intro k i m a hi0 hi1 hd hk h
    obtain ⟨k, rfl⟩ : ∃ q, k = q + 3 := ⟨k - 3, by omega⟩
    have c : i < 100 := by omega
    simp only [logjamlaw19_BarrierPlays.l0, logjamlaw19_BarrierPlays.j1, lives_true]
    by_cases c1 : i < (l.length : Int)
    · rw [if_pos c1, if_pos (by simpa using c), if_pos hi0, if_pos c1]
      generalize rd_T80 l i = x
      obtain ⟨kd, t⟩ := x
      obtain ⟨s, is, e, m', a', hd1, hd2, hI⟩ := do_spec m a h kd t (k := k + 1) (by omega)
      have hI' := hI
      obtain ⟨hm, ha, hs⟩ := hI
      simp only [barrier_Barrier_Arrived.f, barrier_Barrier_Members.f, barrier_Barrier_Missing.f, Option.bind_some, hd1, hd2, beq_self_eq_true, Bool.not_true, Bool.or_self, Bool.false_eq_true, if_false, if_true,
        missing_in hm ha (show 140 ≤ k + 1 by omega), Bt.andNot_nat hm ha, bne_self_eq_false, logjamlaw19_BarrierPlays.j2]
      rw [w64 (by omega)]
      exact ih k (i + 1) m' a' (by omega) (by omega) (by omega) (by omega) hI'
    · rw [if_neg c1]; simp

theorem BarrierPlays : logjamlaw19_BarrierPlays.Pure := by
  intro l hl
  obtain ⟨K, hK⟩ : ∃ K, 3 * 100 + 160 < K := ⟨_, Nat.lt_succ_self _⟩
  refine ⟨K, ?_⟩
  unfold logjamlaw19_BarrierPlays.f
  exact plays_loop l 100 K 0 0 0 (by omega) (by omega) (by omega) hK ⟨by decide, by decide, fun i _ q => q⟩
end Go.Proofs.Ytbnkanlfepdlkaa.Pure
