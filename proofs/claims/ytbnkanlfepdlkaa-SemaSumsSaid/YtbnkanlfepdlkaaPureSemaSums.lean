/- SemaSums, over numbers and lists alone: for every input the law's plain function answers true. Conditions: none. -/
import Derived.Test.YtbnkanlfepdlkaaPSemaSumsx2
import Derived.Test.YtbnkanlfepdlkaaRw
namespace Go.Proofs.Ytbnkanlfepdlkaa.Pure
open Go.RowKit Go.Proofs.Ytbnkanlfepdlkaa.PSemaSums Go.Proofs.YtbnkanlfepdlkaaW.PrintWords Go.Proofs.YtbnkanlfepdlkaaW.PrintLast Go.Proofs.YtbnkanlfepdlkaaW.PrintMore

theorem w64 {x : Int} (h : -9223372036854775808 ≤ x ∧ x ≤ 9223372036854775807) : wrap64 x = x := by unfold wrap64; omega

theorem do_spec (v m kd n : Int) (h0 : 0 ≤ v) (h1 : v ≤ m) (h2 : m ≤ 1000) (hn : -9223372036854775808 ≤ n ∧ n ≤ 9223372036854775807) :
    ∃ r v', logjamlaw18_do.f v m kd n = some (r, v', m) ∧ 0 ≤ v' ∧ v' ≤ m ∧ (kd = 0 → r = 1 → v' = v - n) ∧ (kd = 0 → r ≠ 1 → v' = v) ∧ (kd = 1 → r = 0 → v' = v + n) ∧ (kd = 1 → r ≠ 0 → v' = v) ∧ (kd ≠ 0 → kd ≠ 1 → v' = v + r) := by
  unfold logjamlaw18_do.f sema_Sema_Down.f sema_Sema_Post.f sema_Sema_Fill.f
  by_cases k0 : kd = 0
  · subst k0
    rw [if_pos rfl]
    by_cases c1 : n < 1
    · rw [if_pos c1]; exact ⟨0, v, by simp, by omega, by omega, by omega, by omega, by omega, by omega, by omega⟩
    · rw [if_neg c1]
      by_cases c2 : n > v
      · rw [if_pos c2]; exact ⟨0, v, by simp, by omega, by omega, by omega, by omega, by omega, by omega, by omega⟩
      · rw [if_neg c2, w64 (by omega)]; exact ⟨1, v - n, by simp, by omega, by omega, by omega, by omega, by omega, by omega, by omega⟩
  · rw [if_neg k0]
    by_cases k1 : kd = 1
    · subst k1
      rw [if_pos rfl]
      by_cases c1 : n < 1
      · rw [if_pos c1]; exact ⟨1, v, by simp, by omega, by omega, by omega, by omega, by omega, by omega, by omega⟩
      · rw [if_neg c1, w64 (by omega)]
        by_cases c2 : n > m - v
        · rw [if_pos c2]; exact ⟨11, v, by simp, by omega, by omega, by omega, by omega, by omega, by omega, by omega⟩
        · rw [if_neg c2, w64 (by omega)]; exact ⟨0, v + n, by simp, by omega, by omega, by omega, by omega, by omega, by omega, by omega⟩
    · rw [if_neg k1, w64 (by omega)]
      exact ⟨m - v, m, by simp, by omega, by omega, by omega, by omega, by omega, by omega, by omega⟩

theorem lives_true : logjamlaw18_lives.f = some true := by decide +kernel

theorem sums_loop (l : List S32) (hl : ∀ a ∈ l, ok32 a) (m : Int) (h1 : 1 ≤ m) (h2 : m ≤ 1000) : ∀ (d k : Nat) (i v : Int), 0 ≤ i → i ≤ 80 → 80 - i = d → 8 * d + 8 < k → 0 ≤ v → v ≤ m →
    logjamlaw18_SemaSums.l0 k l v i v m = some true := by
  intro d
  induction d with
  | zero =>
    intro k i v hi0 hi1 hd hk hv0 hv1
    obtain ⟨k, rfl⟩ : ∃ q, k = q + 8 := ⟨k - 8, by omega⟩
    have c : ¬ i < 80 := by omega
    simp only [logjamlaw18_SemaSums.l0, logjamlaw18_SemaSums.j1, lives_true]
    split <;> simp [c]
  | succ d ih =>
    intro k i v hi0 hi1 hd hk hv0 hv1
    obtain ⟨k, rfl⟩ : ∃ q, k = q + 8 := ⟨k - 8, by omega⟩
    have c : i < 80 := by omega
    simp only [logjamlaw18_SemaSums.l0, logjamlaw18_SemaSums.j1, lives_true]
    by_cases c1 : i < (l.length : Int)
    · rw [if_pos c1, if_pos (by simpa using c), if_pos hi0, if_pos c1]
      have hx : ok32 (rd_T32 l i) := by
        unfold rd_T32
        rw [List.getD_eq_getElem?_getD, List.getElem?_eq_getElem (show i.toNat < l.length by omega)]
        exact hl _ (List.getElem_mem _)
      generalize rd_T32 l i = x at hx
      obtain ⟨kd, n⟩ := x
      obtain ⟨r, v', e, g0, g1, q1, q2, q3, q4, q5⟩ := do_spec v m kd n hv0 hv1 h2 (Rw.wf64 hx.2)
      simp only [e, Option.bind_some]
      have hn := Rw.wf64 hx.2
      have fin : ∀ s : Int, s = v' → logjamlaw18_SemaSums.j7 (k + 1) l s i v' m = some true := by
        intro s hs
        subst hs
        simp only [logjamlaw18_SemaSums.j7, sema_Sema_Value.f, sema_Sema_Most.f, Option.bind_some, if_true]
        rw [if_neg (by omega), if_neg (by omega), w64 (by omega)]
        exact ih k (i + 1) _ (by omega) (by omega) (by omega) (by omega) g0 g1
      simp only [logjamlaw18_SemaSums.j2, logjamlaw18_SemaSums.j3, logjamlaw18_SemaSums.j4, logjamlaw18_SemaSums.j5, logjamlaw18_SemaSums.j6]
      by_cases k0 : kd = 0
      · subst k0
        by_cases r1 : r = 1
        · have := q1 rfl r1
          subst r1
          simp
          rw [w64 (by omega)]
          exact fin _ (by omega)
        · have := q2 rfl r1
          simp [r1]
          exact fin _ (by omega)
      · by_cases k1 : kd = 1
        · subst k1
          by_cases r0 : r = 0
          · have := q3 rfl r0
            subst r0
            simp
            rw [w64 (by omega)]
            exact fin _ (by omega)
          · have := q4 rfl r0
            simp [r0]
            exact fin _ (by omega)
        · have := q5 k0 k1
          simp [k0, k1]
          rw [w64 (by omega)]
          exact fin _ (by omega)
    · rw [if_neg c1]; simp

theorem SemaSums : logjamlaw18_SemaSums.Pure := by
  intro a0 a1 l2 h0 h1 hl
  obtain ⟨K, hK⟩ : ∃ K, 8 * 80 + 8 < K := ⟨_, Nat.lt_succ_self _⟩
  refine ⟨K, ?_⟩
  unfold logjamlaw18_SemaSums.f sema_New.f sema_Sema_Value.f
  simp only [Option.bind_some]
  have hm : 1 ≤ mn (mx a1 1) 1000 ∧ mn (mx a1 1) 1000 ≤ 1000 := by unfold mn mx; omega
  have hv : 0 ≤ mn (mx a0 0) (mn (mx a1 1) 1000) ∧ mn (mx a0 0) (mn (mx a1 1) 1000) ≤ mn (mx a1 1) 1000 := by
    generalize mn (mx a1 1) 1000 = m at hm
    unfold mn mx; omega
  exact sums_loop l2 hl.1 _ hm.1 hm.2 80 _ 0 _ (by omega) (by omega) (by omega) hK hv.1 hv.2

end Go.Proofs.Ytbnkanlfepdlkaa.Pure
