/- SemaPlays, over numbers and lists alone: for every input the law's plain function answers true. Conditions: none. -/
import Derived.Test.YtbnkanlfepdlkaaPSemaPlaysx3
import Derived.Test.YtbnkanlfepdlkaaRw
namespace Go.Proofs.Ytbnkanlfepdlkaa.Pure
open Go.RowKit Go.Proofs.Ytbnkanlfepdlkaa.PSemaPlays Go.Proofs.YtbnkanlfepdlkaaW.PrintWords Go.Proofs.YtbnkanlfepdlkaaW.PrintLast Go.Proofs.YtbnkanlfepdlkaaW.PrintMore

theorem w64 {x : Int} (h : -9223372036854775808 ≤ x ∧ x ≤ 9223372036854775807) : wrap64 x = x := by unfold wrap64; omega
theorem lives_true : logjamlaw18_lives.f = some true := by decide +kernel

/-- The program's call and the page's agree. -/
theorem do_spec (v m kd n : Int) (h0 : 0 ≤ v) (h1 : v ≤ m) (h2 : m ≤ 1000) (hn : -9223372036854775808 ≤ n ∧ n ≤ 9223372036854775807) :
    ∃ r v', logjamlaw18_do.f v m kd n = some (r, v', m) ∧ logjamref18_Do.f v m kd n = some (v', m, r) ∧ 0 ≤ v' ∧ v' ≤ m := by
  unfold logjamlaw18_do.f logjamref18_Do.f sema_Sema_Down.f sema_Sema_Post.f sema_Sema_Fill.f
  by_cases k0 : kd = 0
  · rw [if_pos k0, if_pos k0]
    by_cases c1 : n < 1
    · rw [if_pos c1, if_pos c1]; exact ⟨0, v, by simp, by simp, by omega, by omega⟩
    · rw [if_neg c1, if_neg c1]
      by_cases c2 : n > v
      · rw [if_pos c2, if_pos c2]; exact ⟨0, v, by simp, by simp, by omega, by omega⟩
      · rw [if_neg c2, if_neg c2, w64 (by omega)]; exact ⟨1, v - n, by simp, by simp, by omega, by omega⟩
  · rw [if_neg k0, if_neg k0]
    by_cases k1 : kd = 1
    · rw [if_pos k1, if_pos k1]
      by_cases c1 : n < 1
      · rw [if_pos c1, if_pos c1]; exact ⟨1, v, by simp, by simp, by omega, by omega⟩
      · rw [if_neg c1, if_neg c1, w64 (x := m - v) (by omega)]
        by_cases c3 : n > 1000
        · rw [if_pos (by omega), if_pos c3]; exact ⟨11, v, by simp, by simp, by omega, by omega⟩
        · rw [if_neg c3, w64 (x := v + n) (by omega)]
          by_cases c2 : n > m - v
          · rw [if_pos c2, if_pos (by omega)]; exact ⟨11, v, by simp, by simp, by omega, by omega⟩
          · rw [if_neg c2, if_neg (by omega)]; exact ⟨0, v + n, by simp, by simp, by omega, by omega⟩
    · rw [if_neg k1, if_neg k1, w64 (by omega)]
      exact ⟨m - v, m, by simp, by simp, by omega, by omega⟩

theorem new_spec (a0 a1 : Int) (k : Nat) (hk : 3 ≤ k) : ∃ v m, sema_New.f a0 a1 = some (v, m) ∧ logjamref18_New.f k a0 a1 = some (v, m) ∧ 0 ≤ v ∧ v ≤ m ∧ m ≤ 1000 := by
  obtain ⟨k, rfl⟩ : ∃ q, k = q + 3 := ⟨k - 3, by omega⟩
  have hm : ∃ m, m = mn (mx a1 1) 1000 ∧ 1 ≤ m ∧ m ≤ 1000 ∧ (∀ x1, x1 = (if a1 < 1 then (1 : Int) else a1) → m = if x1 > 1000 then 1000 else x1) := by
    refine ⟨_, rfl, ?_, ?_, ?_⟩ <;> unfold mn mx
    · omega
    · omega
    · intro x1 hx; subst hx; (repeat' split) <;> omega
  obtain ⟨m, em, m1, m2, m3⟩ := hm
  have hv : ∃ v, v = mn (mx a0 0) m ∧ 0 ≤ v ∧ v ≤ m ∧ v = (if (if a0 < 0 then (0 : Int) else a0) > m then m else (if a0 < 0 then 0 else a0)) := by
    refine ⟨_, rfl, ?_, ?_, ?_⟩ <;> unfold mn mx
    · omega
    · omega
    · (repeat' split) <;> omega
  obtain ⟨v, ev, v1, v2, v3⟩ := hv
  refine ⟨v, m, by unfold sema_New.f; rw [← em, ← ev], ?_, v1, v2, m2⟩
  have last : ∀ x1 : Int, x1 = (if a1 < 1 then (1 : Int) else a1) → logjamref18_New.j0 (k + 3) a0 x1 = some (v, m) := by
    intro x1 hx
    have e := m3 x1 hx
    simp only [logjamref18_New.j0, logjamref18_New.j1, logjamref18_New.j2]
    have q : ∀ z : Int, z = m → (if a0 < 0 then if (0 : Int) > z then some (z, z) else some (0, z) else if a0 > z then some (z, z) else some (a0, z)) = some (v, m) := by
      intro z hz
      subst hz
      rw [v3]
      by_cases c : a0 < 0
      · simp only [if_pos c]; split <;> rfl
      · simp only [if_neg c]; split <;> rfl
    split
    · rename_i c; rw [if_pos c] at e; exact q _ e.symm
    · rename_i c; rw [if_neg c] at e; exact q _ e.symm
  unfold logjamref18_New.f
  split
  · rename_i c; exact last 1 (by rw [if_pos c])
  · rename_i c; exact last a1 (by rw [if_neg c])

theorem plays_loop (l : List S32) (hl : ∀ a ∈ l, ok32 a) (m : Int) (h2 : m ≤ 1000) : ∀ (d k : Nat) (i v : Int), 0 ≤ i → i ≤ 80 → 80 - i = d → 4 * d + 4 < k → 0 ≤ v → v ≤ m →
    logjamlaw18_SemaPlays.l0 k l i v m v m = some true := by
  intro d
  induction d with
  | zero =>
    intro k i v hi0 hi1 hd hk hv0 hv1
    obtain ⟨k, rfl⟩ : ∃ q, k = q + 3 := ⟨k - 3, by omega⟩
    have c : ¬ i < 80 := by omega
    simp only [logjamlaw18_SemaPlays.l0, logjamlaw18_SemaPlays.j2, lives_true]
    split <;> simp [c]
  | succ d ih =>
    intro k i v hi0 hi1 hd hk hv0 hv1
    obtain ⟨k, rfl⟩ : ∃ q, k = q + 3 := ⟨k - 3, by omega⟩
    have c : i < 80 := by omega
    simp only [logjamlaw18_SemaPlays.l0, logjamlaw18_SemaPlays.j2, lives_true]
    by_cases c1 : i < (l.length : Int)
    · rw [if_pos c1, if_pos (by simpa using c), if_pos hi0, if_pos c1]
      have hx : ok32 (rd_T32 l i) := by
        unfold rd_T32
        rw [List.getD_eq_getElem?_getD, List.getElem?_eq_getElem (show i.toNat < l.length by omega)]
        exact hl _ (List.getElem_mem _)
      generalize rd_T32 l i = x at hx
      obtain ⟨kd, n⟩ := x
      obtain ⟨r, v', e, e', g0, g1⟩ := do_spec v m kd n hv0 hv1 h2 (Rw.wf64 hx.2)
      simp only [e, e', Option.bind_some, if_true, sema_Sema_Value.f, sema_Sema_Most.f, logjamlaw18_SemaPlays.j3]
      simp only [bne_self_eq_false, Bool.false_eq_true, if_false]
      rw [w64 (by omega)]
      exact ih k (i + 1) _ (by omega) (by omega) (by omega) (by omega) g0 g1
    · rw [if_neg c1]; simp

theorem SemaPlays : logjamlaw18_SemaPlays.Pure := by
  intro a0 a1 l2 h0 h1 hl
  obtain ⟨K, hK⟩ : ∃ K, 4 * 80 + 4 < K := ⟨_, Nat.lt_succ_self _⟩
  refine ⟨K + 1, ?_⟩
  unfold logjamlaw18_SemaPlays.f
  obtain ⟨v, m, e, e', v0, v1, v2⟩ := new_spec a0 a1 (K + 1) (by omega)
  simp only [e, e', Option.bind_some, sema_Sema_Value.f, sema_Sema_Most.f, if_true, logjamlaw18_SemaPlays.j0, bne_self_eq_false, Bool.false_eq_true, if_false]
  exact plays_loop l2 hl.1 m v2 80 _ 0 v (by omega) (by omega) (by omega) hK v0 v1

end Go.Proofs.Ytbnkanlfepdlkaa.Pure
