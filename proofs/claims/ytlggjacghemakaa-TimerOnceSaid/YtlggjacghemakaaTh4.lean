/- What is due by and by is what is due at last. Conditions: none. -/
import Derived.Test.YtlggjacghemakaaTr2
namespace Go.Proofs.Ytlggjacghemakaa.Tm
open Go.RowKit Go.Proofs.YtlggjacghemakaaW.PrintWords Go.Proofs.YtlggjacghemakaaW.PrintLast
set_option linter.unusedVariables false
set_option linter.unusedSimpArgs false
def D (now : Int) (m : List (Int × Int)) : List Int × List (Int × Int) := rDue m.length now m []
def top (m : List (Int × Int)) : Int × Int := E m (rFirst m).toNat
theorem drop_lt {m : List (Int × Int)} (h : 0 < m.length) : (rDrop m (top m).2).length < m.length := by
  refine Nat.lt_of_le_of_ne (List.length_filter_le _ _) fun q => ?_
  have hall := List.length_filter_eq_length_iff.1 q
  obtain ⟨_, h2, _⟩ := rFirst_ok h
  have := hall (top m) (by unfold top; rw [E_at h2]; exact List.getElem_mem h2)
  simp at this
theorem rDue_acc : ∀ k now m acc, rDue k now m acc = (acc ++ (rDue k now m []).1, (rDue k now m []).2)
  | 0, now, m, acc => by simp [rDue]
  | k + 1, now, m, acc => by
    simp only [rDue]
    split
    · rw [rDue_acc k now _ (acc ++ _), rDue_acc k now _ ([] ++ _)]
      simp
    · simp
theorem rDue_fuel : ∀ k now m, m.length ≤ k → rDue k now m [] = D now m := by
  intro k
  induction k with
  | zero =>
    intro now m h
    obtain rfl : m = [] := List.eq_nil_of_length_eq_zero (by omega)
    rfl
  | succ k ih =>
    intro now m h
    by_cases c0 : 0 < m.length
    · obtain ⟨l, hl⟩ : ∃ l, m.length = l + 1 := ⟨m.length - 1, by omega⟩
      unfold D
      rw [hl]
      simp only [rDue]
      split
      · have hd := drop_lt c0
        have hd : (rDrop m (E m (rFirst m).toNat).2).length < m.length := hd
        rw [rDue_acc k, rDue_acc l, ih now _ (by omega)]
        have : rDue l now (rDrop m (E m (rFirst m).toNat).2) [] = D now (rDrop m (E m (rFirst m).toNat).2) := by
          by_cases e : l ≤ k
          · rw [← ih now _ (by omega : (rDrop m (E m (rFirst m).toNat).2).length ≤ k)]
            have hll : (rDrop m (E m (rFirst m).toNat).2).length ≤ l := by omega
            exact (rDue_two k l now _ (by omega) hll).symm ▸ rfl
          · omega
        rw [this]
      · rfl
    · obtain rfl : m = [] := List.eq_nil_of_length_eq_zero (by omega)
      rfl
where
  rDue_two : ∀ k l now (m : List (Int × Int)), m.length ≤ k → m.length ≤ l → rDue k now m [] = rDue l now m [] := by
    intro k
    induction k with
    | zero =>
      intro l now m h1 h2
      obtain rfl : m = [] := List.eq_nil_of_length_eq_zero (by omega)
      cases l <;> simp [rDue]
    | succ k ih =>
      intro l now m h1 h2
      by_cases c0 : 0 < m.length
      · obtain ⟨l', rfl⟩ : ∃ l', l = l' + 1 := ⟨l - 1, by omega⟩
        simp only [rDue]
        split
        · have hd : (rDrop m (E m (rFirst m).toNat).2).length < m.length := drop_lt c0
          rw [rDue_acc k, rDue_acc l', ih l' now _ (by omega) (by omega)]
        · rfl
      · obtain rfl : m = [] := List.eq_nil_of_length_eq_zero (by omega)
        cases l <;> simp [rDue]
theorem D_step {now : Int} {m : List (Int × Int)} (h : 0 < m.length) (hn : (top m).1 ≤ now) : D now m = ((top m).2 :: (D now (rDrop m (top m).2)).1, (D now (rDrop m (top m).2)).2) := by
  obtain ⟨l, hl⟩ : ∃ l, m.length = l + 1 := ⟨m.length - 1, by omega⟩
  have hd := drop_lt h
  have e : D now m = rDue (l + 1) now m [] := by unfold D; rw [hl]
  rw [e]
  simp only [rDue]
  rw [if_pos ⟨h, hn⟩, rDue_acc, rDue_fuel l now _ (by show (rDrop m (top m).2).length ≤ l; omega)]
  rfl
theorem D_stop {now : Int} {m : List (Int × Int)} (h : ¬ (0 < m.length ∧ (top m).1 ≤ now)) : D now m = ([], m) := by
  unfold D
  cases hl : m.length with
  | zero => rfl
  | succ l =>
    simp only [rDue]
    exact if_neg h
theorem D_merge : ∀ l (m : List (Int × Int)), m.length ≤ l → ∀ n1 n2 : Int, n1 ≤ n2 → D n2 m = ((D n1 m).1 ++ (D n2 (D n1 m).2).1, (D n2 (D n1 m).2).2) := by
  intro l
  induction l with
  | zero =>
    intro m h n1 n2 hn
    obtain rfl : m = [] := List.eq_nil_of_length_eq_zero (by omega)
    rfl
  | succ l ih =>
    intro m h n1 n2 hn
    by_cases c : 0 < m.length ∧ (top m).1 ≤ n1
    · have hd := drop_lt c.1
      rw [D_step c.1 c.2, D_step c.1 (Int.le_trans c.2 hn), ih _ (by omega) n1 n2 hn]
      rfl
    · rw [D_stop c]
      rfl
theorem D_len : ∀ l (m : List (Int × Int)), m.length ≤ l → ∀ n : Int, (D n m).1.length ≤ m.length ∧ (D n m).2.length ≤ m.length := by
  intro l
  induction l with
  | zero =>
    intro m h n
    obtain rfl : m = [] := List.eq_nil_of_length_eq_zero (by omega)
    exact ⟨Nat.le_refl _, Nat.le_refl _⟩
  | succ l ih =>
    intro m h n
    by_cases c : 0 < m.length ∧ (top m).1 ≤ n
    · have hd := drop_lt c.1
      have := ih (rDrop m (top m).2) (by omega) n
      rw [D_step c.1 c.2]
      simp only [List.length_cons]
      omega
    · rw [D_stop c]
      exact ⟨Nat.zero_le _, Nat.le_refl _⟩
theorem due_r2 {W : World} {base g n : Nat} {m : List (Int × Int)} {S : Nat → Prop} (h : TR W base g n m S) (now : Int) (hm : m.length ≤ 200) (hn : n ≤ 1000000000) :
    Calls Try.prog 12 #[.pointer (some ⟨g, 0, none⟩), .int .i64 now] W fun e w' => ∃ v, e = .returned v ∧ Aside0 (Kd.R (Kd.int .i64) 3 w' W.heap.size (fun k => W.heap.size ≤ k) v (D now m).1) ∧
      Aside0 (∃ S', TR w' base g (n + 1000000) (D now m).2 S' ∧ ∀ k, S' k → S k) ∧ Chg S W w' := by
  obtain ⟨xs, p, h1, h2, h3⟩ := h
  have hl := h2.len
  obtain ⟨r1, r2⟩ := Rel.due m.length now xs m p [] h2
  have hw := Wx.due m.length now xs p [] h3
  unfold D
  rw [← r1]
  rw [← hl] at r1 r2 hw ⊢
  exact (due_any h1 h3 now (by omega) (by omega)).mono fun e w' ⟨v, he, hr, ⟨⟨S', t1, t2⟩⟩, hc⟩ => ⟨v, he, hr, ⟨⟨S', ⟨_, _, t1.mono (by omega), r2, hw⟩, t2⟩⟩, hc⟩
end Go.Proofs.Ytlggjacghemakaa.Tm
