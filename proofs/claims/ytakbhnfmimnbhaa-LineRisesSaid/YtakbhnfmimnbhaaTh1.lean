/- A heap with holes: up and down, over lists alone. Conditions: none. -/
import Derived.Test.YtakbhnfmimnbhaaTm9
namespace Go.Proofs.Ytakbhnfmimnbhaa.Tm
set_option linter.unusedVariables false
set_option linter.unusedSimpArgs false
variable {sh : Shp}

/-! ### the order -/
theorem lss_iff {x y : Int × Int} : lss x y = true ↔ x.1 < y.1 ∨ x.1 = y.1 ∧ x.2 < y.2 := by simp [lss]
theorem lss_not {x y : Int × Int} : lss x y = false ↔ y.1 < x.1 ∨ y.1 = x.1 ∧ y.2 ≤ x.2 := by
  rw [← Bool.not_eq_true, lss_iff]
  omega
theorem lss_irr (x : Int × Int) : lss x x = false := lss_not.2 (by omega)
theorem lss_asym {x y : Int × Int} (h : lss x y = true) : lss y x = false := by rw [lss_iff] at h; rw [lss_not]; omega
/-- not below, twice. -/
theorem nl_trans {x y z : Int × Int} (h1 : lss x y = false) (h2 : lss y z = false) : lss x z = false := by rw [lss_not] at *; omega
theorem nl_lt {x y z : Int × Int} (h1 : lss x y = false) (h2 : lss z y = true) : lss x z = false := nl_trans h1 (lss_asym h2)
theorem lss_eq {x y : Int × Int} (h1 : lss x y = false) (h2 : lss y x = false) : x = y := by
  rw [lss_not] at *
  apply Prod.ext <;> omega

abbrev E (xs : List (Int × Int)) (j : Nat) : Int × Int := xs.getD j (0, 0)
def par (j : Nat) : Nat := (j - 1) / 2
theorem par_lt {j : Nat} (h : 0 < j) : par j < j := by unfold par; omega
def Ok (xs : List (Int × Int)) (j : Nat) : Prop := lss (E xs j) (E xs (par j)) = false
def Hp (xs : List (Int × Int)) : Prop := ∀ j, 0 < j → j < xs.length → Ok xs j
theorem E_set {xs : List (Int × Int)} {i j : Nat} {x : Int × Int} (hi : i < xs.length) : E (xs.set i x) j = if j = i then x else E xs j := getD_set hi
/-- A heap but for place i. -/
structure Ho (i : Nat) (xs : List (Int × Int)) : Prop where
  far : ∀ j, 0 < j → j < xs.length → j ≠ i → par j ≠ i → Ok xs j
  grand : ∀ j, 0 < j → j < xs.length → par j = i → 0 < i → lss (E xs j) (E xs (par i)) = false
/-- What is behind up: only those below place i may be wrong. -/
structure Dn (i : Nat) (xs : List (Int × Int)) : Prop where
  far : ∀ j, 0 < j → j < xs.length → par j ≠ i → Ok xs j
  grand : ∀ j, 0 < j → j < xs.length → par j = i → 0 < i → lss (E xs j) (E xs (par i)) = false
/-- The places are told, but for the one at i; x is to come there. -/
structure Pl (i : Nat) (x : Int × Int) (xs : List (Int × Int)) (p : Int → Option Int) : Prop where
  at_ : ∀ j, j < xs.length → j ≠ i → p (E xs j).2 = some (j : Int) ∧ (E xs j).2 ≠ x.2
  of : ∀ id k, p id = some k → id = x.2 ∨ ∃ j, j < xs.length ∧ j ≠ i ∧ k = (j : Int) ∧ (E xs j).2 = id
structure Inv (xs : List (Int × Int)) (p : Int → Option Int) : Prop where
  at_ : ∀ j, j < xs.length → p (E xs j).2 = some (j : Int)
  of : ∀ id k, p id = some k → ∃ j, j < xs.length ∧ k = (j : Int) ∧ (E xs j).2 = id
def M (xs : List (Int × Int)) (z : Int × Int) : Prop := ∃ j, j < xs.length ∧ E xs j = z
theorem Pl.close {i : Nat} {x : Int × Int} {xs : List (Int × Int)} {p : Int → Option Int} (h : Pl i x xs p) (hi : i < xs.length) : Inv (xs.set i x) (upd p x.2 (i : Int)) := by
  refine ⟨fun j hj => ?_, fun id k hk => ?_⟩
  · rw [List.length_set] at hj
    rw [E_set hi]
    by_cases e : j = i
    · rw [if_pos e, e]; simp [upd]
    · rw [if_neg e]
      obtain ⟨h1, h2⟩ := h.at_ j hj e
      simp only [upd, if_neg h2]
      exact h1
  · unfold upd at hk
    by_cases e : id = x.2
    · rw [if_pos e] at hk
      injection hk with hk
      exact ⟨i, by rw [List.length_set]; exact hi, hk.symm, by rw [E_set hi, if_pos rfl]; exact e.symm⟩
    · rw [if_neg e] at hk
      rcases h.of id k hk with h1 | ⟨j, h1, h2, h3, h4⟩
      · exact absurd h1 e
      · exact ⟨j, by rw [List.length_set]; exact h1, h3, by rw [E_set hi, if_neg h2]; exact h4⟩
/-- One at a goes to the empty place i; a is empty then. -/
theorem Pl.step {i a : Nat} {x : Int × Int} {xs : List (Int × Int)} {p : Int → Option Int} (h : Pl i x xs p) (hi : i < xs.length) (ha : a < xs.length) (hne : a ≠ i) : Pl a x (xs.set i (E xs a)) (upd p (E xs a).2 (i : Int)) := by
  obtain ⟨g1, g2⟩ := h.at_ a ha hne
  refine ⟨fun j hj hja => ?_, fun id k hk => ?_⟩
  · rw [List.length_set] at hj
    rw [E_set hi]
    by_cases e : j = i
    · rw [if_pos e, e]
      exact ⟨by simp [upd], g2⟩
    · rw [if_neg e]
      obtain ⟨h1, h2⟩ := h.at_ j hj e
      have h3 : (E xs j).2 ≠ (E xs a).2 := fun q => by
        rw [q, g1] at h1
        injection h1 with h1
        exact hja (by omega)
      simp only [upd, if_neg h3]
      exact ⟨h1, h2⟩
  · unfold upd at hk
    by_cases e : id = (E xs a).2
    · rw [if_pos e] at hk
      injection hk with hk
      exact .inr ⟨i, by rw [List.length_set]; exact hi, hne.symm, hk.symm, by rw [E_set hi, if_pos rfl]; exact e.symm⟩
    · rw [if_neg e] at hk
      rcases h.of id k hk with h1 | ⟨j, h1, h2, h3, h4⟩
      · exact .inl h1
      · exact .inr ⟨j, by rw [List.length_set]; exact h1, fun q => e (by rw [← h4, q]), h3, by rw [E_set hi, if_neg h2]; exact h4⟩
theorem M_step {i a : Nat} {x : Int × Int} {xs : List (Int × Int)} (hi : i < xs.length) (ha : a < xs.length) (hne : a ≠ i) (z : Int × Int) : M ((xs.set i (E xs a)).set a x) z ↔ M (xs.set i x) z := by
  have ha' : a < (xs.set i (E xs a)).length := by rw [List.length_set]; exact ha
  constructor
  · rintro ⟨j, hj, h⟩
    rw [List.length_set, List.length_set] at hj
    rw [E_set ha', E_set hi] at h
    by_cases e1 : j = a
    · rw [if_pos e1] at h
      exact ⟨i, by rw [List.length_set]; exact hi, by rw [E_set hi, if_pos rfl]; exact h⟩
    · rw [if_neg e1] at h
      by_cases e2 : j = i
      · rw [if_pos e2] at h
        exact ⟨a, by rw [List.length_set]; exact ha, by rw [E_set hi, if_neg hne]; exact h⟩
      · rw [if_neg e2] at h
        exact ⟨j, by rw [List.length_set]; exact hj, by rw [E_set hi, if_neg e2]; exact h⟩
  · rintro ⟨j, hj, h⟩
    rw [List.length_set] at hj
    rw [E_set hi] at h
    by_cases e2 : j = i
    · rw [if_pos e2] at h
      exact ⟨a, by rw [List.length_set]; exact ha', by rw [E_set ha', if_pos rfl]; exact h⟩
    · rw [if_neg e2] at h
      by_cases e1 : j = a
      · exact ⟨i, by rw [List.length_set, List.length_set]; exact hi, by rw [E_set ha', if_neg (Ne.symm hne), E_set hi, if_pos rfl, ← e1]; exact h⟩
      · exact ⟨j, by rw [List.length_set, List.length_set]; exact hj, by rw [E_set ha', if_neg e1, E_set hi, if_neg e2]; exact h⟩
/-! ### up -/
theorem Ho.up {i : Nat} {x : Int × Int} {xs : List (Int × Int)} (h : Ho i xs) (hi : i < xs.length) (h0 : 0 < i) (hx : lss x (E xs (par i)) = true) :
    Ho (par i) (xs.set i (E xs (par i))) ∧ ∀ j, 0 < j → j < xs.length → par j = par i → lss (E (xs.set i (E xs (par i))) j) x = false := by
  have hpi := par_lt h0
  refine ⟨⟨fun j hj hl hja hpa => ?_, fun j hj hl hpa ha0 => ?_⟩, fun j hj hl hpa => ?_⟩
  · rw [List.length_set] at hl
    unfold Ok
    by_cases e : j = i
    · exact absurd (by rw [e]) hpa
    · rw [E_set hi, if_neg e, E_set hi]
      by_cases e2 : par j = i
      · rw [if_pos e2]
        exact h.grand j hj hl e2 h0
      · rw [if_neg e2]
        exact h.far j hj hl e e2
  · rw [List.length_set] at hl
    have hpp := par_lt ha0
    rw [E_set hi, E_set (j := par (par i)) hi, if_neg (show par (par i) ≠ i by omega)]
    have hA : Ok xs (par i) := h.far (par i) ha0 (by omega) (by omega) (by omega)
    by_cases e : j = i
    · rw [if_pos e]; exact hA
    · rw [if_neg e]
      have := h.far j hj hl e (by omega)
      unfold Ok at this
      rw [hpa] at this
      exact nl_trans this hA
  · rw [E_set hi]
    by_cases e : j = i
    · rw [if_pos e]; exact lss_asym hx
    · rw [if_neg e]
      have := h.far j hj hl e (by omega)
      unfold Ok at this
      rw [hpa] at this
      exact nl_lt this hx
theorem Ho.stop {i : Nat} {x : Int × Int} {xs : List (Int × Int)} (h : Ho i xs) (hi : i < xs.length) (hx : 0 < i → lss x (E xs (par i)) = false) : Dn i (xs.set i x) := by
  refine ⟨fun j hj hl hpa => ?_, fun j hj hl hpa h0 => ?_⟩
  · rw [List.length_set] at hl
    unfold Ok
    rw [E_set hi, E_set (j := par j) hi, if_neg hpa]
    by_cases e : j = i
    · rw [if_pos e, e]
      exact hx (e ▸ hj)
    · rw [if_neg e]
      exact h.far j hj hl e hpa
  · rw [List.length_set] at hl
    have := par_lt h0
    have h2 : j ≠ i := fun e => by have := par_lt hj; omega
    rw [E_set hi, if_neg h2, E_set hi, if_neg (by omega)]
    exact h.grand j hj hl hpa h0
theorem Dn.full {i : Nat} {xs : List (Int × Int)} (h : Dn i xs) (hc : ∀ j, 0 < j → j < xs.length → par j = i → lss (E xs j) (E xs i) = false) : Hp xs := fun j hj hl => by
  by_cases e : par j = i
  · unfold Ok; rw [e]; exact hc j hj hl e
  · exact h.far j hj hl e
/-- up: c tells that those below i are not below x. -/
theorem upF_ok : ∀ k (x : Int × Int) i xs p, i < xs.length → i ≤ k → Ho i xs → Pl i x xs p →
    ∃ j, j ≤ i ∧ Dn j (upF k x i xs p).1 ∧ (upF k x i xs p).2 x.2 = some (j : Int) ∧ E (upF k x i xs p).1 j = x ∧ Inv (upF k x i xs p).1 (upF k x i xs p).2 ∧ (∀ z, M (upF k x i xs p).1 z ↔ M (xs.set i x) z) ∧
      ((∀ j, 0 < j → j < xs.length → par j = i → lss (E xs j) x = false) → Hp (upF k x i xs p).1) := by
  intro k
  induction k with
  | zero =>
    intro x i xs p hi hk h hp
    obtain rfl : i = 0 := by omega
    refine ⟨0, Nat.le_refl _, h.stop hi (fun q => absurd q (Nat.lt_irrefl _)), by simp [upF, upd], by simp only [upF]; rw [E_set hi, if_pos rfl], hp.close hi, fun z => Iff.rfl, fun hc => ?_⟩
    refine (h.stop hi (fun q => absurd q (Nat.lt_irrefl _)) : Dn 0 (xs.set 0 x)).full fun j hj hl e => ?_
    rw [List.length_set] at hl
    rw [E_set hi, if_neg (by omega), E_set hi, if_pos rfl]
    exact hc j hj hl e
  | succ k ih =>
    intro x i xs p hi hk h hp
    simp only [upF]
    by_cases c : 0 < i ∧ lss x (E xs (par i)) = true
    · have c' : 0 < i ∧ lss x (xs.getD ((i - 1) / 2) (0, 0)) = true := c
      rw [if_pos c']
      obtain ⟨g1, g2⟩ := h.up hi c.1 c.2
      have hpi := par_lt c.1
      have hpl := hp.step hi (show par i < xs.length by omega) (by omega)
      obtain ⟨j, j1, j2, j3, j4, j5, j6, j7⟩ := ih x (par i) (xs.set i (E xs (par i))) (upd p (E xs (par i)).2 (i : Int)) (by rw [List.length_set]; omega) (by omega) g1 hpl
      exact ⟨j, by omega, j2, j3, j4, j5, fun z => (j6 z).trans (M_step hi (by omega) (by omega) z), fun _ => j7 fun q hq hl e => g2 q hq (by rw [List.length_set] at hl; exact hl) e⟩
    · have c' : ¬ (0 < i ∧ lss x (xs.getD ((i - 1) / 2) (0, 0)) = true) := c
      rw [if_neg c']
      have hs := h.stop (x := x) hi (fun q => Bool.eq_false_iff.2 fun r => c ⟨q, r⟩)
      refine ⟨i, Nat.le_refl _, hs, by simp [upd], by rw [E_set hi, if_pos rfl], hp.close hi, fun z => Iff.rfl, fun hc => hs.full fun j hj hl e => ?_⟩
      rw [List.length_set] at hl
      have := par_lt hj
      rw [E_set hi, if_neg (by omega), E_set hi, if_pos rfl]
      exact hc j hj hl e
end Go.Proofs.Ytakbhnfmimnbhaa.Tm
