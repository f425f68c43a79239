/- BarrierWaits, over numbers and lists alone: for every input the law's plain function answers true. Conditions: none. -/
import Derived.Test.YtbnkanlfepdlkaaPBarrierWaitsx2
import Derived.Test.YtbnkanlfepdlkaaRw
import Derived.Test.YtbnkanlfepdlkaaBt
namespace Go.Proofs.Ytbnkanlfepdlkaa.Pure
open Go.RowKit Go.Proofs.Ytbnkanlfepdlkaa.PBarrierWaits Go.Proofs.YtbnkanlfepdlkaaW.PrintWords Go.Proofs.YtbnkanlfepdlkaaW.PrintLast Go.Proofs.YtbnkanlfepdlkaaW.PrintMore

theorem w64 {x : Int} (h : -9223372036854775808 ≤ x ∧ x ≤ 9223372036854775807) : wrap64 x = x := by unfold wrap64; omega
theorem lives_true : logjamlaw19_lives.f = some true := by decide +kernel

theorem one_in {t : Nat} (ht : t < 64) : bits_one.f (t : Int) = some ((2 ^ t : Nat) : Int) := by
  unfold bits_one.f
  rw [if_neg (by omega), if_neg (by omega), if_pos (by omega), Bt.shl_one ht]
theorem has_in {s t : Nat} (hs : s < Bt.top) (ht : t < 64) : bits_Set_Has.f (s : Int) (t : Int) = some (s.testBit t) := by
  unfold bits_Set_Has.f
  rw [one_in ht, Option.bind_some, Bt.has_int hs ht]
theorem with_in {s t : Nat} (hs : s < Bt.top) (ht : t < 64) : bits_Set_With.f (s : Int) (t : Int) = some ((s ||| 2 ^ t : Nat) : Int) := by
  unfold bits_Set_With.f
  rw [one_in ht, Option.bind_some, Bt.or_nat hs (Bt.lt_pow ht)]
theorem without_in {s t : Nat} (hs : s < Bt.top) (ht : t < 64) : bits_Set_Without.f (s : Int) (t : Int) = some ((Bt.sub s (2 ^ t) : Nat) : Int) := by
  unfold bits_Set_Without.f
  rw [one_in ht, Option.bind_some, Bt.andNot_nat hs (Bt.lt_pow ht)]
theorem bad_in {m a t : Nat} (ht : t < 64) : barrier_Barrier_bad.f (m : Int) (a : Int) (t : Int) = some (false, (m : Int), (a : Int)) := by
  unfold barrier_Barrier_bad.f
  rw [if_neg (by omega)]
  simp; omega
theorem bad_out {m a : Nat} {t : Int} (ht : t < 0 ∨ 64 ≤ t) : barrier_Barrier_bad.f (m : Int) (a : Int) t = some (true, (m : Int), (a : Int)) := by
  unfold barrier_Barrier_bad.f
  by_cases c : t < 0
  · rw [if_pos c]
  · rw [if_neg c]; simp; omega

/-- What holds of a barrier at all times. -/
def Inv (m a : Nat) : Prop := m < Bt.top ∧ a < Bt.top ∧ (∀ i, i < 64 → a.testBit i = true → m.testBit i = true) ∧ (a = 0 ∨ a ≠ m)

theorem do_spec (m a : Nat) (h : Inv m a) (kd t : Int) : ∃ (s : Nat) (is : Bool) (e : Int) (m' a' : Nat), logjamlaw19_do.f (m : Int) (a : Int) kd t = some ((s : Int), is, e, (m' : Int), (a' : Int)) ∧ Inv m' a' ∧
    s < Bt.top ∧ (∀ i, i < 64 → s.testBit i = true → a.testBit i = true) ∧ (s = 0 ∨ a' = 0) := by
  obtain ⟨hm, ha, hs, hn⟩ := h
  have z : (0 : Nat) < Bt.top := by decide
  have same : Inv m a := ⟨hm, ha, hs, hn⟩
  have nz : ∀ i, i < 64 → (0 : Nat).testBit i = true → a.testBit i = true := fun i _ q => by rw [Bt.tb_zero] at q; cases q
  unfold logjamlaw19_do.f barrier_Barrier_Enrol.f barrier_Barrier_Leave.f barrier_Barrier_Arrive.f barrier_Barrier_Withdraw.f barrier_Barrier_Break.f barrier_Barrier_clear.f
  by_cases ct : t < 0 ∨ 64 ≤ t
  · simp only [bad_out ct, Option.bind_some, if_true]
    repeat' split
    all_goals exact ⟨0, _, _, m, a, rfl, same, z, nz, .inl rfl⟩
  · obtain ⟨t, rfl⟩ : ∃ n : Nat, t = (n : Int) := ⟨t.toNat, by omega⟩
    have ht : t < 64 := by omega
    simp only [bad_in ht, Option.bind_some, Bool.false_eq_true, if_false, has_in hm ht, has_in ha ht, with_in hm ht, with_in ha ht, without_in hm ht, without_in ha ht]
    have hp := Bt.lt_pow ht
    by_cases hM : m.testBit t = true
    · have hsM : ∀ i, i < 64 → (Bt.sub a (2 ^ t)).testBit i = true → (Bt.sub m (2 ^ t)).testBit i = true := by
        intro i hi q
        rw [Bt.tb_sub hp i hi, Bool.and_eq_true] at q
        rw [Bt.tb_sub hp i hi, hs i hi q.1, q.2]; rfl
      have hsub : ∀ i, i < 64 → (Bt.sub a (2 ^ t)).testBit i = true → a.testBit i = true := by
        intro i hi q
        rw [Bt.tb_sub hp i hi, Bool.and_eq_true] at q
        exact q.1
      by_cases k0 : kd = 0
      · simp only [k0, if_true, hM, Option.bind_some]
        exact ⟨0, _, _, m, a, rfl, same, z, nz, .inl rfl⟩
      by_cases k1 : kd = 1
      · subst k1
        simp only [Int.reduceEq, if_false, if_true, hM]
        by_cases c : Bt.sub m (2 ^ t) = Bt.sub a (2 ^ t)
        · rw [if_pos (by rw [c])]
          exact ⟨Bt.sub a (2 ^ t), _, _, Bt.sub m (2 ^ t), 0, rfl, ⟨Bt.lt_sub hm, z, fun i _ q => (by rw [Bt.tb_zero] at q; cases q), .inl rfl⟩, Bt.lt_sub ha, hsub, .inr rfl⟩
        · rw [if_neg (by omega)]
          exact ⟨0, _, _, Bt.sub m (2 ^ t), Bt.sub a (2 ^ t), rfl, ⟨Bt.lt_sub hm, Bt.lt_sub ha, hsM, .inr (fun e => c e.symm)⟩, z, nz, .inl rfl⟩
      by_cases k2 : kd = 2
      · subst k2
        simp only [Int.reduceEq, if_false, if_true, hM]
        by_cases hA : a.testBit t = true
        · simp only [hA, if_true, Option.bind_some]
          exact ⟨0, _, _, m, a, rfl, same, z, nz, .inl rfl⟩
        · simp only [hA, Bool.false_eq_true, if_false]
          by_cases c : a ||| 2 ^ t = m
          · rw [if_pos (by rw [c])]
            exact ⟨a, _, _, m, 0, rfl, ⟨hm, z, fun i _ q => (by rw [Bt.tb_zero] at q; cases q), .inl rfl⟩, ha, fun i _ q => q, .inr rfl⟩
          · rw [if_neg (by omega)]
            refine ⟨0, _, _, m, a ||| 2 ^ t, rfl, ⟨hm, Bt.lt_or ha hp, ?_, .inr c⟩, z, nz, .inl rfl⟩
            intro i hi q
            rw [Bt.tb_or, Bool.or_eq_true, Bt.tb_pow] at q
            rcases q with q | q
            · exact hs i hi q
            · have : t = i := by simpa using q
              subst this; exact hM
      by_cases k3 : kd = 3
      · subst k3
        simp only [Int.reduceEq, if_false, if_true]
        by_cases hA : a.testBit t = true
        · simp only [hA, if_true, Option.bind_some]
          refine ⟨0, _, _, m, Bt.sub a (2 ^ t), rfl, ⟨hm, Bt.lt_sub ha, fun i hi q => hs i hi (hsub i hi q), .inr ?_⟩, z, nz, .inl rfl⟩
          intro e
          have h1 : (Bt.sub a (2 ^ t)).testBit t = false := by rw [Bt.tb_sub hp t ht, Bt.tb_pow]; simp
          rw [e, hM] at h1; cases h1
        · simp only [hA, Bool.false_eq_true, if_false, Option.bind_some]
          exact ⟨0, _, _, m, a, rfl, same, z, nz, .inl rfl⟩
      · simp only [k0, k1, k2, k3, if_false, hM, if_true, Option.bind_some]
        exact ⟨Bt.sub a (2 ^ t), _, _, Bt.sub m (2 ^ t), 0, rfl, ⟨Bt.lt_sub hm, z, fun i _ q => (by rw [Bt.tb_zero] at q; cases q), .inl rfl⟩, Bt.lt_sub ha, hsub, .inr rfl⟩
    · have hA : a.testBit t = false := by
        cases e : a.testBit t with
        | false => rfl
        | true => exact absurd (hs t ht e) hM
      simp only [hM, hA, Bool.false_eq_true, if_false]
      by_cases k0 : kd = 0
      · simp only [k0, if_true]
        by_cases c : a = 0
        · rw [if_pos (by omega)]
          refine ⟨0, _, _, m ||| 2 ^ t, a, rfl, ⟨Bt.lt_or hm hp, ha, ?_, .inl c⟩, z, nz, .inl rfl⟩
          intro i hi q
          rw [Bt.tb_or, hs i hi q]; rfl
        · rw [if_neg (by omega)]
          exact ⟨0, _, _, m, a, rfl, same, z, nz, .inl rfl⟩
      simp only [k0, if_false, Option.bind_some]
      repeat' split
      all_goals exact ⟨0, _, _, m, a, rfl, same, z, nz, .inl rfl⟩

theorem waits_loop (l : List S80) : ∀ (d k : Nat) (i : Int) (m a : Nat), 0 ≤ i → i ≤ 100 → 100 - i = d → 2 * d + 2 < k → Inv m a →
    logjamlaw19_BarrierWaits.l0 k l i (m : Int) (a : Int) = some true := by
  intro d
  induction d with
  | zero =>
    intro k i m a hi0 hi1 hd hk h
    obtain ⟨k, rfl⟩ : ∃ q, k = q + 2 := ⟨k - 2, by omega⟩
    have c : ¬ i < 100 := by omega
    simp only [logjamlaw19_BarrierWaits.l0, logjamlaw19_BarrierWaits.j1, lives_true]
    split <;> simp [c]
  | succ d ih =>
    intro k i m a hi0 hi1 hd hk h
    obtain ⟨k, rfl⟩ : ∃ q, k = q + 2 := ⟨k - 2, by omega⟩
    have c : i < 100 := by omega
    simp only [logjamlaw19_BarrierWaits.l0, logjamlaw19_BarrierWaits.j1, lives_true]
    by_cases c1 : i < (l.length : Int)
    · rw [if_pos c1, if_pos (by simpa using c)]
      generalize rd_T80 l i = x
      obtain ⟨kd, t⟩ := x
      obtain ⟨s, is, e, m', a', hd', hI, hsT, hsub, hz⟩ := do_spec m a h kd t
      have hI' := hI
      obtain ⟨hm, ha, hs, hn⟩ := hI
      have e1 : Go.bits .andNot .u64 (a' : Int) (m' : Int) = 0 := by rw [Bt.andNot_nat ha hm, (Bt.sub_zero_iff ha hm).2 hs]; rfl
      have e2 : Go.bits .andNot .u64 (s : Int) (a : Int) = 0 := by rw [Bt.andNot_nat hsT h.2.1, (Bt.sub_zero_iff hsT h.2.1).2 hsub]; rfl
      simp only [barrier_Barrier_Arrived.f, barrier_Barrier_Members.f, barrier_Barrier_Missing.f, Option.bind_some, hd', e1, e2, if_true]
      rw [if_pos hi0, if_pos c1, w64 (by omega)]
      have go := ih k (i + 1) m' a' (by omega) (by omega) (by omega) (by omega) hI'
      by_cases cz : a' = 0
      · subst cz
        simp only [Int.natCast_zero, if_true] at go ⊢
        split
        · exact go
        · exact go
      · rw [if_neg (by omega)]
        have e3 : ¬ Go.bits .andNot .u64 (m' : Int) (a' : Int) = 0 := by
          rw [Bt.andNot_nat hm ha]
          intro q
          have q' := (Bt.sub_zero_iff hm ha).1 (by omega)
          rcases hn with hn | hn
          · exact cz hn
          · exact hn (Bt.ext ha hm (fun i hi => by rw [Bool.eq_iff_iff]; exact ⟨hs i hi, q' i hi⟩))
        rw [if_neg e3]
        have : s = 0 := by
          rcases hz with hz | hz
          · exact hz
          · exact absurd hz cz
        subst this
        rw [if_pos (by rfl)]
        exact go
    · rw [if_neg c1]; simp

theorem BarrierWaits : logjamlaw19_BarrierWaits.Pure := by
  intro l hl
  obtain ⟨K, hK⟩ : ∃ K, 2 * 100 + 2 < K := ⟨_, Nat.lt_succ_self _⟩
  refine ⟨K, ?_⟩
  unfold logjamlaw19_BarrierWaits.f
  exact waits_loop l 100 K 0 0 0 (by omega) (by omega) (by omega) hK ⟨by decide, by decide, fun i _ q => q, .inl rfl⟩
end Go.Proofs.Ytbnkanlfepdlkaa.Pure
