/- Customers, what they hold and may still ask: an order in which all can be met, and that the greedy one is as good as any. Plain law, no program in sight. Conditions: none. -/
namespace Go.Proofs.YtbfbegleffkafaaDoor.Cm

def S (f : Nat → Int) : List Nat → Int
  | [] => 0
  | x :: t => f x + S f t
theorem S_append (f : Nat → Int) (a b : List Nat) : S f (a ++ b) = S f a + S f b := by
  induction a with
  | nil => simp [S]
  | cons x t ih => simp only [List.cons_append, S, ih]; omega
theorem S_snoc (f : Nat → Int) (a : List Nat) (x : Nat) : S f (a ++ [x]) = S f a + f x := by rw [S_append]; simp [S]
theorem S_erase (f : Nat → Int) {l : List Nat} {x : Nat} (h : x ∈ l) : S f l = f x + S f (l.erase x) := by
  induction l with
  | nil => cases h
  | cons y t ih =>
    by_cases e : y = x
    · subst e
      simp [S]
    · have hx : x ∈ t := by
        rcases List.mem_cons.1 h with q | q
        · exact absurd q.symm e
        · exact q
      have e2 : (y :: t).erase x = y :: t.erase x := by
        rw [List.erase_cons]
        simp [e]
      rw [e2]
      simp only [S, ih hx]
      omega
theorem S_sub (f : Nat → Int) (hf : ∀ x, 0 ≤ f x) : ∀ (a l : List Nat), a.Nodup → (∀ x ∈ a, x ∈ l) → S f a ≤ S f l
  | [], l, _, _ => by
    have : ∀ l, 0 ≤ S f l := fun l => by
      induction l with
      | nil => simp [S]
      | cons y t ih => have := hf y; simp only [S]; omega
    exact this l
  | x :: t, l, hn, hs => by
    have hx : x ∈ l := hs x List.mem_cons_self
    rw [List.nodup_cons] at hn
    have h2 := S_sub f hf t (l.erase x) hn.2 (fun y hy => by
      have hne : y ≠ x := fun e => hn.1 (e ▸ hy)
      exact (List.mem_erase_of_ne hne).2 (hs y (List.mem_cons_of_mem _ hy)))
    rw [S_erase f hx]
    simp only [S]
    omega
theorem S_one (l : List Nat) : S (fun _ => 1) l = l.length := by
  induction l with
  | nil => rfl
  | cons x t ih => simp only [S, ih, List.length_cons]; omega
theorem S_le (f g : Nat → Int) (h : ∀ x, f x ≤ g x) (l : List Nat) : S f l ≤ S g l := by
  induction l with
  | nil => simp [S]
  | cons x t ih => have := h x; simp only [S]; omega
theorem S_const (f : Nat → Int) (b : Int) (h : ∀ x, f x ≤ b) (l : List Nat) : S f l ≤ b * l.length := by
  induction l with
  | nil => simp [S]
  | cons x t ih =>
    have := h x
    simp only [S, List.length_cons]
    have e : b * ((t.length + 1 : Nat) : Int) = b * t.length + b := by
      rw [Int.natCast_add, Int.mul_add]
      simp
    omega
theorem S_nonneg (f : Nat → Int) (h : ∀ x, 0 ≤ f x) (l : List Nat) : 0 ≤ S f l := by
  induction l with
  | nil => simp [S]
  | cons x t ih => have := h x; simp only [S]; omega
theorem len_sub {a l : List Nat} (hn : a.Nodup) (hs : ∀ x ∈ a, x ∈ l) : a.length ≤ l.length := by
  have := S_sub (fun _ => 1) (fun _ => by decide) a l hn hs
  rw [S_one, S_one] at this
  omega
theorem least (P : Nat → Prop) : ∀ n, P n → ∃ j, P j ∧ ∀ i, i < j → ¬ P i := by
  intro n
  induction n using Nat.strongRecOn with
  | ind n ih =>
    intro h
    by_cases q : ∃ i, i < n ∧ P i
    · obtain ⟨i, hi, hp⟩ := q
      exact ih i hi hp
    · exact ⟨n, h, fun i hi hp => q ⟨i, hi, hp⟩⟩

section
variable (m n : Nat) (F : Nat → Int) (h c : Nat → Nat → Int)
/-- What is free of kind k when those of l have gone. -/
def fr (l : List Nat) (k : Nat) : Int := F k + S (fun i => h i k) l
/-- i comes next behind l. -/
def ComesNext (l : List Nat) (i : Nat) : Prop := i < m ∧ i ∉ l ∧ ∀ k, k < n → c i k - h i k ≤ fr F h l k
/-- Each of l came behind those ahead of it. -/
def Chain (l : List Nat) : Prop := ∀ j, (hj : j < l.length) → ComesNext m n F h c (l.take j) l[j]
end
section
variable {m n : Nat} {F : Nat → Int} {h c : Nat → Nat → Int}
theorem Chain.nil : Chain m n F h c [] := fun j hj => by simp at hj
theorem Chain.snoc {l : List Nat} {i : Nat} (hl : Chain m n F h c l) (hi : ComesNext m n F h c l i) : Chain m n F h c (l ++ [i]) := by
  intro j hj
  rw [List.length_append] at hj
  by_cases e : j < l.length
  · rw [List.getElem_append_left e, List.take_append_of_le_length (by omega)]
    exact hl j e
  · have ej : j = l.length := by simp at hj; omega
    subst ej
    rw [List.getElem_append_right (Nat.le_refl _), List.take_append_of_le_length (Nat.le_refl _), List.take_length]
    simpa using hi
theorem Chain.nodup {l : List Nat} (hl : Chain m n F h c l) : l.Nodup := by
  rw [List.nodup_iff_pairwise_ne, List.pairwise_iff_getElem]
  intro i j hi hj hij e
  have := (hl j hj).2.1
  apply this
  rw [← e]
  exact List.mem_take_iff_getElem.2 ⟨i, by omega, rfl⟩
theorem Chain.lt {l : List Nat} (hl : Chain m n F h c l) {i : Nat} (hi : i ∈ l) : i < m := by
  obtain ⟨j, hj, e⟩ := List.getElem_of_mem hi
  rw [← e]
  exact (hl j hj).1
theorem Chain.len {l : List Nat} (hl : Chain m n F h c l) : l.length ≤ m := by
  have := len_sub hl.nodup (l := List.range m) (fun x hx => List.mem_range.2 (hl.lt hx))
  simpa using this
theorem Chain.all {o : List Nat} (ho : Chain m n F h c o) (hl : o.length = m) {i : Nat} (hi : i < m) : i ∈ o := by
  by_cases q : i ∈ o
  · exact q
  exfalso
  have := len_sub ho.nodup (l := (List.range m).erase i) (fun x hx => (List.mem_erase_of_ne (fun e => by subst e; exact q hx)).2 (List.mem_range.2 (ho.lt hx)))
  rw [List.length_erase_of_mem (List.mem_range.2 hi)] at this
  simp at this
  omega
/-- If none comes next, though not all have gone, no order meets all. -/
theorem greedy (hh : ∀ i k, 0 ≤ h i k) {l o : List Nat} (hlen : l.length < m) (hs : ∀ i, ¬ ComesNext m n F h c l i) (ho : Chain m n F h c o) (hol : o.length = m) : False := by
  have hex : ∃ j, ∃ hj : j < o.length, o[j] ∉ l := by
    by_cases q : ∃ j, ∃ hj : j < o.length, o[j] ∉ l
    · exact q
    exfalso
    have hin : ∀ x ∈ o, x ∈ l := fun x hx => by
      obtain ⟨j, hj, e⟩ := List.getElem_of_mem hx
      by_cases r : x ∈ l
      · exact r
      · exact absurd ⟨j, hj, e ▸ r⟩ q
    have := len_sub ho.nodup hin
    omega
  obtain ⟨j0, hj0⟩ := hex
  obtain ⟨j, ⟨hj, hne⟩, hmin⟩ := least (fun j => ∃ hj : j < o.length, o[j] ∉ l) j0 hj0
  obtain ⟨h1, h2, h3⟩ := ho j hj
  apply hs o[j]
  refine ⟨h1, hne, fun k hk => Int.le_trans (h3 k hk) ?_⟩
  unfold fr
  have := S_sub (fun i => h i k) (fun i => hh i k) (o.take j) l (ho.nodup.sublist (List.take_sublist j o)) (fun x hx => by
    obtain ⟨i, hi, e⟩ := List.mem_take_iff_getElem.1 hx
    by_cases r : x ∈ l
    · exact r
    · exact absurd ⟨by omega, e ▸ r⟩ (hmin i (by omega)))
  omega
end
end Go.Proofs.YtbfbegleffkafaaDoor.Cm
