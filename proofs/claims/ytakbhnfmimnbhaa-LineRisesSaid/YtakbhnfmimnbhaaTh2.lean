/- A heap: down, cut, drop, set, due, over lists alone. Conditions: none. -/
import Derived.Test.YtakbhnfmimnbhaaTh1
namespace Go.Proofs.Ytakbhnfmimnbhaa.Tm
set_option linter.unusedVariables false
set_option linter.unusedSimpArgs false
variable {sh : Shp}

theorem par_cases {i j : Nat} (h0 : 0 < j) (h : par j = i) : j = 2 * i + 1 ∨ j = 2 * i + 2 := by unfold par at h; omega
theorem dk_min {i : Nat} {xs : List (Int × Int)} {j : Nat} (h0 : 0 < j) (hl : j < xs.length) (h : par j = i) : lss (E xs j) (E xs (dk i xs)) = false := by
  unfold dk
  by_cases c : 2 * i + 2 < xs.length ∧ lss (xs.getD (2 * i + 2) (0, 0)) (xs.getD (2 * i + 1) (0, 0)) = true
  · rw [if_pos c]
    rcases par_cases h0 h with rfl | rfl
    · exact lss_asym c.2
    · exact lss_irr _
  · rw [if_neg c]
    rcases par_cases h0 h with rfl | rfl
    · exact lss_irr _
    · exact Bool.eq_false_iff.2 fun q => c ⟨hl, q⟩
theorem dk_par {i : Nat} {xs : List (Int × Int)} : par (dk i xs) = i ∧ i < dk i xs ∧ 0 < dk i xs := by
  have := dk_le i xs
  unfold par
  omega
/-- x is to come to the empty place i, or below it. -/
structure Ed (i : Nat) (x : Int × Int) (xs : List (Int × Int)) : Prop where
  far : ∀ j, 0 < j → j < xs.length → j ≠ i → par j ≠ i → Ok xs j
  top : 0 < i → lss x (E xs (par i)) = false
  grand : ∀ j, 0 < j → j < xs.length → par j = i → 0 < i → lss (E xs j) (E xs (par i)) = false
theorem Dn.ed {i : Nat} {xs : List (Int × Int)} (h : Dn i xs) (hi : i < xs.length) : Ed i (E xs i) xs :=
  ⟨fun j h0 hl _ hp => h.far j h0 hl hp, fun h0 => h.far i h0 hi (by have := par_lt h0; omega), h.grand⟩
theorem Ed.step {i : Nat} {x : Int × Int} {xs : List (Int × Int)} (h : Ed i x xs) (hi : i < xs.length) (hk : dk i xs < xs.length) (hx : lss (E xs (dk i xs)) x = true) : Ed (dk i xs) x (xs.set i (E xs (dk i xs))) := by
  obtain ⟨k1, k2, k3⟩ := dk_par (i := i) (xs := xs)
  refine ⟨fun j h0 hl hj hp => ?_, fun _ => ?_, fun j h0 hl hp _ => ?_⟩
  · rw [List.length_set] at hl
    unfold Ok
    by_cases e : j = i
    · subst e
      have := par_lt h0
      rw [E_set hi, if_pos rfl, E_set hi, if_neg (by omega)]
      exact h.grand _ k3 hk k1 h0
    · rw [E_set hi, if_neg e, E_set hi]
      by_cases e2 : par j = i
      · rw [if_pos e2]
        exact dk_min h0 hl e2
      · rw [if_neg e2]
        exact h.far j h0 hl e e2
  · rw [k1, E_set hi, if_pos rfl]
    exact lss_asym hx
  · rw [List.length_set] at hl
    have := par_lt h0
    rw [k1, E_set hi, if_neg (by omega), E_set hi, if_pos rfl]
    have := h.far j h0 hl (by omega) (by omega)
    unfold Ok at this
    rw [hp] at this
    exact this
theorem Ed.stop {i : Nat} {x : Int × Int} {xs : List (Int × Int)} (h : Ed i x xs) (hi : i < xs.length) (hx : ∀ j, 0 < j → j < xs.length → par j = i → lss (E xs j) x = false) : Hp (xs.set i x) := fun j h0 hl => by
  rw [List.length_set] at hl
  have := par_lt h0
  unfold Ok
  by_cases e : par j = i
  · rw [E_set hi, if_neg (by omega), E_set hi, if_pos e]
    exact hx j h0 hl e
  · rw [E_set (j := par j) hi, if_neg e, E_set hi]
    by_cases e2 : j = i
    · rw [if_pos e2, e2]
      exact h.top (e2 ▸ h0)
    · rw [if_neg e2]
      exact h.far j h0 hl e2 e
theorem downF_ok : ∀ k (x : Int × Int) i xs p, i < xs.length → xs.length ≤ i + k → Ed i x xs → Pl i x xs p →
    Hp (downF k x i xs p).1 ∧ Inv (downF k x i xs p).1 (downF k x i xs p).2 ∧ ∀ z, M (downF k x i xs p).1 z ↔ M (xs.set i x) z := by
  intro k
  induction k with
  | zero => intro x i xs p hi hk; omega
  | succ k ih =>
    intro x i xs p hi hk h hp
    obtain ⟨k1, k2, k3⟩ := dk_par (i := i) (xs := xs)
    have k4 := (dk_le i xs).2.2
    simp only [downF]
    by_cases c : 2 * i + 1 < xs.length ∧ lss (E xs (dk i xs)) x = true
    · rw [if_pos c]
      have hkl := k4 c.1
      obtain ⟨j1, j2, j3⟩ := ih x (dk i xs) (xs.set i (E xs (dk i xs))) (upd p (E xs (dk i xs)).2 (i : Int)) (by rw [List.length_set]; exact hkl) (by rw [List.length_set]; omega) (h.step hi hkl c.2) (hp.step hi hkl (by omega))
      exact ⟨j1, j2, fun z => (j3 z).trans (M_step hi hkl (by omega) z)⟩
    · rw [if_neg c]
      refine ⟨h.stop hi fun j h0 hl e => ?_, hp.close hi, fun z => Iff.rfl⟩
      have hj := par_cases h0 e
      have hd : lss (E xs (dk i xs)) x = false := Bool.eq_false_iff.2 fun q => c ⟨by omega, q⟩
      exact nl_trans (dk_min h0 hl e) hd
/-- The whole: order, places, ids. -/
structure Good (xs : List (Int × Int)) (p : Int → Option Int) : Prop where
  hp : Hp xs
  inv : Inv xs p
theorem Inv.inj {xs : List (Int × Int)} {p : Int → Option Int} (h : Inv xs p) {i j : Nat} (hi : i < xs.length) (hj : j < xs.length) (e : (E xs i).2 = (E xs j).2) : i = j := by
  have h1 := h.at_ i hi
  rw [e, h.at_ j hj] at h1
  injection h1 with h1
  omega
theorem E_take {xs : List (Int × Int)} {l j : Nat} (h : j < l) : E (xs.take l) j = E xs j := by
  show (xs.take l).getD j (0, 0) = xs.getD j (0, 0)
  rw [List.getD_eq_getElem?_getD, List.getElem?_take, if_pos h, ← List.getD_eq_getElem?_getD]
theorem cutF_ne {i j : Nat} {xs : List (Int × Int)} {p : Int → Option Int} {x : Int × Int} {u : List (Int × Int) × (Int → Option Int)} (c : i ≠ xs.length - 1) (hx : x = E xs (xs.length - 1)) (hu : u = upF i x i ((xs.take (xs.length - 1)).set i x) (upd (del p (E xs i).2) x.2 (i : Int))) (hj : u.2 x.2 = some (j : Int)) :
    cutF i xs p = downF u.1.length (E u.1 j) j u.1 u.2 := by
  subst hx
  subst hu
  unfold cutF
  rw [if_neg c]
  dsimp only
  rw [hj]
  rfl
theorem Good.cut {xs : List (Int × Int)} {p : Int → Option Int} (h : Good xs p) {i : Nat} (hi : i < xs.length) :
    Good (cutF i xs p).1 (cutF i xs p).2 ∧ ∀ z, M (cutF i xs p).1 z ↔ M xs z ∧ z.2 ≠ (E xs i).2 := by
  obtain ⟨hH, hI⟩ := h
  obtain ⟨l, hl⟩ : ∃ l, l = xs.length - 1 := ⟨_, rfl⟩
  have htl : (xs.take l).length = l := by rw [List.length_take]; omega
  by_cases c : i = l
  · have e0 : cutF i xs p = (xs.take l, del p (E xs i).2) := by
      unfold cutF
      dsimp only
      rw [← hl, if_pos c]
    rw [e0]
    show Good (xs.take l) (del p (E xs i).2) ∧ ∀ z, M (xs.take l) z ↔ _
    refine ⟨⟨fun j h0 hj => ?_, fun j hj => ?_, fun id k hk => ?_⟩, fun z => ⟨?_, ?_⟩⟩
    · rw [htl] at hj
      have := par_lt h0
      unfold Ok
      rw [E_take hj, E_take (by omega)]
      exact hH j h0 (by omega)
    · rw [htl] at hj
      rw [E_take hj]
      have hne : (E xs j).2 ≠ (E xs i).2 := fun q => by have := hI.inj (by omega) hi q; omega
      simp only [del, if_neg hne]
      exact hI.at_ j (by omega)
    · unfold del at hk
      by_cases e : id = (E xs i).2
      · rw [if_pos e] at hk; cases hk
      · rw [if_neg e] at hk
        obtain ⟨j, h1, h2, h3⟩ := hI.of id k hk
        have hji : j ≠ i := fun q => e (by rw [← h3, q])
        have hjl : j < l := by omega
        exact ⟨j, by rw [htl]; exact hjl, h2, by rw [E_take hjl]; exact h3⟩
    · rintro ⟨j, hj, rfl⟩
      rw [htl] at hj
      rw [E_take hj]
      exact ⟨⟨j, by omega, rfl⟩, fun q => by have := hI.inj (by omega) hi q; omega⟩
    · rintro ⟨⟨j, hj, rfl⟩, hz⟩
      have hji : j ≠ i := fun q => hz (by rw [q])
      have hjl : j < l := by omega
      exact ⟨j, by rw [htl]; exact hjl, E_take hjl⟩
  · have hil : i < l := by omega
    have hi2 : i < (xs.take l).length := by rw [htl]; exact hil
    have hll : l < xs.length := by omega
    obtain ⟨x, hx⟩ : ∃ x, x = E xs l := ⟨_, rfl⟩
    obtain ⟨ys, hys⟩ : ∃ ys, ys = (xs.take l).set i x := ⟨_, rfl⟩
    have hyl : ys.length = l := by rw [hys, List.length_set, htl]
    have hyE : ∀ j, j < l → E ys j = if j = i then x else E xs j := fun j hj => by
      rw [hys, E_set hi2]
      split
      · rfl
      · exact E_take hj
    have hHo : Ho i ys := by
      refine ⟨fun j h0 hj hji hpi => ?_, fun j h0 hj hpi h0i => ?_⟩
      · rw [hyl] at hj
        have := par_lt h0
        unfold Ok
        rw [hyE j hj, if_neg hji, hyE _ (by omega), if_neg hpi]
        exact hH j h0 (by omega)
      · rw [hyl] at hj
        have := par_lt h0
        have h2 := par_lt h0i
        rw [hyE j hj, if_neg (by omega), hyE _ (by omega), if_neg (by omega)]
        have a := hH j h0 (by omega)
        have b := hH i h0i (by omega)
        unfold Ok at a b
        rw [hpi] at a
        exact nl_trans a b
    have hPl : Pl i x ys (upd (del p (E xs i).2) x.2 (i : Int)) := by
      refine ⟨fun j hj hji => ?_, fun id k hk => ?_⟩
      · rw [hyl] at hj
        rw [hyE j hj, if_neg hji]
        have h1 : (E xs j).2 ≠ x.2 := fun q => by rw [hx] at q; have := hI.inj (by omega) hll q; omega
        have h2 : (E xs j).2 ≠ (E xs i).2 := fun q => hji (hI.inj (by omega) hi q)
        simp only [upd, if_neg h1, del, if_neg h2]
        exact ⟨hI.at_ j (by omega), h1⟩
      · unfold upd at hk
        by_cases e : id = x.2
        · exact .inl e
        · rw [if_neg e] at hk
          unfold del at hk
          by_cases e2 : id = (E xs i).2
          · rw [if_pos e2] at hk; cases hk
          · rw [if_neg e2] at hk
            obtain ⟨j, h1, h2, h3⟩ := hI.of id k hk
            have hji : j ≠ i := fun q => e2 (by rw [← h3, q])
            have hjl : j ≠ l := fun q => e (by rw [← h3, q, hx])
            exact .inr ⟨j, by rw [hyl]; omega, hji, h2, by rw [hyE j (by omega), if_neg hji]; exact h3⟩
    obtain ⟨j, j1, j2, j3, j4, j5, j6, _⟩ := upF_ok i x i ys _ (by rw [hyl]; exact hil) (Nat.le_refl _) hHo hPl
    obtain ⟨ul, _⟩ := upF_at i x i ys (upd (del p (E xs i).2) x.2 (i : Int)) (by rw [hyl]; exact hil)
    obtain ⟨u, hu⟩ : ∃ u, u = upF i x i ys (upd (del p (E xs i).2) x.2 (i : Int)) := ⟨_, rfl⟩
    rw [← hu] at j2 j3 j4 j5 j6 ul
    rw [cutF_ne (by rw [← hl]; exact c) (by rw [← hl]; exact hx) (by rw [← hl, ← hys]; exact hu) j3]
    have hju : j < u.1.length := by rw [ul, hyl]; omega
    have hPd : Pl j (E u.1 j) u.1 u.2 := by
      refine ⟨fun q hq hqj => ⟨j5.at_ q hq, fun e => hqj (j5.inj hq hju e)⟩, fun id k hk => ?_⟩
      obtain ⟨q, h1, h2, h3⟩ := j5.of id k hk
      by_cases e : q = j
      · exact .inl (by rw [← h3, e])
      · exact .inr ⟨q, h1, e, h2, h3⟩
    obtain ⟨d1, d2, d3⟩ := downF_ok u.1.length (E u.1 j) j u.1 u.2 hju (Nat.le_add_left _ _) (j2.ed hju) hPd
    refine ⟨⟨d1, d2⟩, fun z => (d3 z).trans ?_⟩
    have hself : u.1.set j (E u.1 j) = u.1 := by
      apply List.ext_getElem?
      intro q
      rw [List.getElem?_set]
      by_cases e : j = q
      · subst e
        rw [if_pos rfl, if_pos hju]
        show some (u.1.getD j (0, 0)) = _
        rw [List.getD_eq_getElem?_getD, List.getElem?_eq_getElem hju]
        rfl
      · rw [if_neg e]
    rw [hself]
    refine (j6 z).trans ⟨?_, ?_⟩
    · rintro ⟨q, hq, rfl⟩
      rw [List.length_set, hyl] at hq
      rw [E_set (by rw [hyl]; exact hil)]
      by_cases e : q = i
      · rw [if_pos e, hx]
        exact ⟨⟨l, hll, rfl⟩, fun r => by have := hI.inj hll hi r; omega⟩
      · rw [if_neg e, hyE q hq, if_neg e]
        exact ⟨⟨q, by omega, rfl⟩, fun r => e (hI.inj (by omega) hi r)⟩
    · rintro ⟨⟨q, hq, rfl⟩, hz⟩
      have hqi : q ≠ i := fun r => hz (by rw [r])
      by_cases e : q = l
      · exact ⟨i, by rw [List.length_set, hyl]; exact hil, by rw [E_set (by rw [hyl]; exact hil), if_pos rfl, hx, e]⟩
      · exact ⟨q, by rw [List.length_set, hyl]; omega, by rw [E_set (by rw [hyl]; exact hil), if_neg hqi, hyE q (by omega), if_neg hqi]⟩
end Go.Proofs.Ytakbhnfmimnbhaa.Tm
