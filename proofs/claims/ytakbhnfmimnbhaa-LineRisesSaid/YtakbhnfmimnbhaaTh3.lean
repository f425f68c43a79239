/- Timers against a plain list: drop, set, first, due. Conditions: none. -/
import Derived.Test.YtakbhnfmimnbhaaTh2
namespace Go.Proofs.Ytakbhnfmimnbhaa.Tm
set_option linter.unusedVariables false
set_option linter.unusedSimpArgs false
variable {sh : Shp}

theorem len_le {α : Type} [DecidableEq α] : ∀ {a l : List α}, a.Nodup → (∀ x ∈ a, x ∈ l) → a.length ≤ l.length
  | [], l, _, _ => Nat.zero_le _
  | x :: t, l, hn, hs => by
    rw [List.nodup_cons] at hn
    have hx : x ∈ l := hs x List.mem_cons_self
    have := len_le (l := l.erase x) hn.2 (fun y hy => (List.mem_erase_of_ne (fun e => hn.1 (by rw [← e]; exact hy))).2 (hs y (List.mem_cons_of_mem _ hy)))
    rw [List.length_erase_of_mem hx] at this
    have h0 : 0 < l.length := List.length_pos_of_mem hx
    simp only [List.length_cons]
    omega
theorem E_at {xs : List (Int × Int)} {j : Nat} (h : j < xs.length) : E xs j = xs[j] := by
  show xs.getD j (0, 0) = _
  rw [List.getD_eq_getElem?_getD, List.getElem?_eq_getElem h]
  rfl
theorem M_iff {xs : List (Int × Int)} {z : Int × Int} : M xs z ↔ z ∈ xs := by
  constructor
  · rintro ⟨j, hj, rfl⟩
    rw [E_at hj]
    exact List.getElem_mem hj
  · intro h
    obtain ⟨j, hj, e⟩ := List.getElem_of_mem h
    exact ⟨j, hj, (E_at hj).trans e⟩
theorem Inv.nodup {xs : List (Int × Int)} {p : Int → Option Int} (h : Inv xs p) : xs.Nodup := by
  rw [List.nodup_iff_pairwise_ne, List.pairwise_iff_getElem]
  intro i j hi hj hij e
  have := h.inj hi hj (by rw [E_at hi, E_at hj, e])
  omega
/-- Ids are apart. -/
def Ids (m : List (Int × Int)) : Prop := m.Pairwise (fun a b => a.2 ≠ b.2)
theorem Ids.nodup {m : List (Int × Int)} (h : Ids m) : m.Nodup := by
  rw [List.nodup_iff_pairwise_ne]
  exact h.imp fun hab e => hab (by rw [e])
theorem Ids.inj {m : List (Int × Int)} (h : Ids m) {a b : Int × Int} (ha : a ∈ m) (hb : b ∈ m) (e : a.2 = b.2) : a = b := by
  obtain ⟨i, hi, rfl⟩ := List.getElem_of_mem ha
  obtain ⟨j, hj, rfl⟩ := List.getElem_of_mem hb
  rw [Ids, List.pairwise_iff_getElem] at h
  rcases Nat.lt_trichotomy i j with q | q | q
  · exact absurd e (h i j hi hj q)
  · subst q; rfl
  · exact absurd e.symm (h j i hj hi q)
/-- The heap and the plain list have the same. -/
structure Rel (xs : List (Int × Int)) (p : Int → Option Int) (m : List (Int × Int)) : Prop where
  good : Good xs p
  mem : ∀ z, M xs z ↔ z ∈ m
  ids : Ids m
section
variable {xs m : List (Int × Int)} {p : Int → Option Int}
theorem Rel.len (h : Rel xs p m) : xs.length = m.length := by
  have h1 := len_le h.good.inv.nodup (l := m) (fun z hz => (h.mem z).1 (M_iff.2 hz))
  have h2 := len_le h.ids.nodup (l := xs) (fun z hz => M_iff.1 ((h.mem z).2 hz))
  omega
theorem Rel.pb (h : Rel xs p m) : PB xs p := fun id k hk => by
  obtain ⟨j, h1, h2, _⟩ := h.good.inv.of id k hk
  exact ⟨j, h2, h1⟩
theorem Rel.nil : Rel [] (fun _ => none) [] :=
  ⟨⟨fun j _ h => absurd h (Nat.not_lt_zero _), ⟨fun j h => absurd h (Nat.not_lt_zero _), fun id k h => by cases h⟩⟩, fun z => ⟨fun ⟨j, h, _⟩ => absurd h (Nat.not_lt_zero _), fun h => by cases h⟩, List.Pairwise.nil⟩
def rDrop (m : List (Int × Int)) (id : Int) : List (Int × Int) := m.filter (fun z => decide (z.2 ≠ id))
def rSet (m : List (Int × Int)) (id at_ : Int) : List (Int × Int) := rDrop m id ++ [(at_, id)]
theorem mem_rDrop {z : Int × Int} {id : Int} : z ∈ rDrop m id ↔ z ∈ m ∧ z.2 ≠ id := by simp [rDrop]
theorem Ids.drop (h : Ids m) (id : Int) : Ids (rDrop m id) := List.Pairwise.filter _ h
/-- An id that is known stands where it is told. -/
theorem Rel.some_ (h : Rel xs p m) {id : Int} {k : Int} (hk : p id = some k) : ∃ j : Nat, k = (j : Int) ∧ j < xs.length ∧ (E xs j).2 = id ∧ E xs j ∈ m := by
  obtain ⟨j, h1, h2, h3⟩ := h.good.inv.of id k hk
  exact ⟨j, h2, h1, h3, (h.mem _).1 ⟨j, h1, rfl⟩⟩
theorem Rel.none_ (h : Rel xs p m) {id : Int} (hk : p id = none) : ∀ z ∈ m, z.2 ≠ id := fun z hz e => by
  obtain ⟨j, hj, rfl⟩ := (h.mem z).2 hz
  have := h.good.inv.at_ j hj
  rw [e, hk] at this
  cases this
theorem Rel.drop (h : Rel xs p m) (id : Int) : Rel (dropF id xs p).1 (dropF id xs p).2 (rDrop m id) := by
  unfold dropF
  cases hk : p id with
  | none =>
    refine ⟨h.good, fun z => ?_, h.ids.drop id⟩
    rw [mem_rDrop, h.mem z]
    exact ⟨fun q => ⟨q, h.none_ hk z q⟩, fun q => q.1⟩
  | some k =>
    obtain ⟨j, rfl, hj, hid, _⟩ := h.some_ hk
    obtain ⟨g1, g2⟩ := h.good.cut hj
    refine ⟨g1, fun z => ?_, h.ids.drop id⟩
    show M (cutF j xs p).1 z ↔ _
    rw [g2 z, mem_rDrop, h.mem z, hid]
theorem Rel.cut (h : Rel xs p m) {i : Nat} (hi : i < xs.length) : Rel (cutF i xs p).1 (cutF i xs p).2 (rDrop m (E xs i).2) := by
  obtain ⟨g1, g2⟩ := h.good.cut hi
  exact ⟨g1, fun z => by rw [g2 z, mem_rDrop, h.mem z], h.ids.drop _⟩
theorem Rel.set_ (h : Rel xs p m) (id at_ : Int) : Rel (setF id at_ xs p).1 (setF id at_ xs p).2 (rSet m id at_) := by
  have hd := h.drop id
  unfold setF
  obtain ⟨ys, hys⟩ : ∃ ys, ys = (dropF id xs p).1 := ⟨_, rfl⟩
  obtain ⟨q, hq⟩ : ∃ q, q = (dropF id xs p).2 := ⟨_, rfl⟩
  rw [← hys, ← hq] at hd ⊢
  obtain ⟨x, hx⟩ : ∃ x : Int × Int, x = (at_, id) := ⟨_, rfl⟩
  rw [← hx]
  have hl : (ys ++ [x]).length = ys.length + 1 := by simp
  have hE : ∀ j, j < ys.length → E (ys ++ [x]) j = E ys j := fun j hj => by
    rw [E_at (by omega), E_at hj, List.getElem_append_left hj]
  have hEx : E (ys ++ [x]) ys.length = x := by rw [E_at (by omega)]; simp
  have hno : ∀ z ∈ rDrop m id, z.2 ≠ id := fun z hz => (mem_rDrop.1 hz).2
  have hHo : Ho ys.length (ys ++ [x]) := by
    refine ⟨fun j h0 hj hji hpi => ?_, fun j h0 hj hpi h0i => ?_⟩
    · have := par_lt h0
      unfold Ok
      rw [hE j (by omega), hE _ (by omega)]
      exact hd.good.hp j h0 (by omega)
    · have := par_lt h0
      omega
  have hx2 : x.2 = id := by rw [hx]
  have hPl : Pl ys.length x (ys ++ [x]) q := by
    refine ⟨fun j hj hji => ?_, fun i k hk => ?_⟩
    · rw [hE j (by omega)]
      exact ⟨hd.good.inv.at_ j (by omega), by rw [hx2]; exact hno _ ((hd.mem _).1 ⟨j, by omega, rfl⟩)⟩
    · obtain ⟨j, h1, h2, h3⟩ := hd.good.inv.of i k hk
      exact .inr ⟨j, by omega, by omega, h2, by rw [hE j h1]; exact h3⟩
  obtain ⟨j, j1, j2, j3, j4, j5, j6, j7⟩ := upF_ok ys.length x ys.length (ys ++ [x]) q (by omega) (Nat.le_refl _) hHo hPl
  refine ⟨⟨j7 fun j h0 hj e => ?_, j5⟩, fun z => (j6 z).trans ?_, ?_⟩
  · have := par_lt h0
    omega
  · have hset : (ys ++ [x]).set ys.length x = ys ++ [x] := by simp
    rw [hset, M_iff, List.mem_append, List.mem_singleton, ← M_iff, hd.mem z]
    unfold rSet
    rw [List.mem_append, List.mem_singleton, hx]
  · unfold rSet Ids
    rw [List.pairwise_append]
    exact ⟨h.ids.drop id, List.pairwise_singleton _ _, fun a ha b hb => by
      rw [List.mem_singleton] at hb
      rw [hb]
      exact hno a ha⟩
theorem Good.min (h : Hp xs) : ∀ j, j < xs.length → lss (E xs j) (E xs 0) = false := by
  intro j
  induction j using Nat.strongRecOn with
  | ind j ih =>
    intro hj
    by_cases e : j = 0
    · rw [e]; exact lss_irr _
    · have h0 : 0 < j := by omega
      have := par_lt h0
      exact nl_trans (h j h0 hj) (ih (par j) this (by omega))
/-- A least one of the list is the heap's first. -/
theorem Rel.first (h : Rel xs p m) {z : Int × Int} (hz : z ∈ m) (hmin : ∀ y ∈ m, lss y z = false) : z = E xs 0 := by
  obtain ⟨j, hj, rfl⟩ := (h.mem z).2 hz
  exact lss_eq (Good.min h.good.hp j hj) (hmin _ ((h.mem _).1 ⟨0, by omega, rfl⟩))
/-- Where the first one stands, looked for from place i on, k being the best so far. -/
def fI (m : List (Int × Int)) : Nat → Nat → Int → Int
  | 0, _, k => k
  | d + 1, i, k => fI m d (i + 1) (if k < 0 ∨ lss (E m i) (E m k.toNat) = true then (i : Int) else k)
theorem fI_ok (m : List (Int × Int)) : ∀ d i k, d + i = m.length → (k < 0 → i = 0) → (0 ≤ k → k.toNat < i ∧ k.toNat < m.length ∧ ∀ j, j < i → lss (E m j) (E m k.toNat) = false) →
    (m.length = 0 → fI m d i k = k) ∧ (0 < m.length → 0 ≤ fI m d i k ∧ (fI m d i k).toNat < m.length ∧ ∀ j, j < m.length → lss (E m j) (E m (fI m d i k).toNat) = false)
  | 0, i, k, h, h1, h2 => by
    refine ⟨fun _ => rfl, fun hl => ?_⟩
    have hk : 0 ≤ k := by
      by_cases q : 0 ≤ k
      · exact q
      · have := h1 (by omega); omega
    obtain ⟨g1, g2, g3⟩ := h2 hk
    exact ⟨hk, g2, fun j hj => g3 j (by omega)⟩
  | d + 1, i, k, h, h1, h2 => by
    have ih := fI_ok m d (i + 1) (if k < 0 ∨ lss (E m i) (E m k.toNat) = true then (i : Int) else k) (by omega)
      (fun q => by
        split at q
        · omega
        · rename_i c; exact absurd (.inl q) c)
      (fun q => by
        by_cases c : k < 0 ∨ lss (E m i) (E m k.toNat) = true
        · rw [if_pos c, Int.toNat_natCast]
          refine ⟨by omega, by omega, fun j hj => ?_⟩
          by_cases e : j = i
          · rw [e]; exact lss_irr _
          · by_cases c2 : k < 0
            · have := h1 c2; omega
            · have c3 : lss (E m i) (E m k.toNat) = true := c.resolve_left c2
              exact nl_lt ((h2 (by omega)).2.2 j (by omega)) c3
        · rw [if_neg c]
          have c2 : ¬ k < 0 := fun r => c (.inl r)
          obtain ⟨g1, g2, g3⟩ := h2 (by omega)
          refine ⟨by omega, g2, fun j hj => ?_⟩
          by_cases e : j = i
          · rw [e]; exact Bool.eq_false_iff.2 fun r => c (.inr r)
          · exact g3 j (by omega))
    exact ⟨fun hl => by omega, fun hl => ih.2 hl⟩
def rFirst (m : List (Int × Int)) : Int := fI m m.length 0 (-1)
theorem rFirst_nil : rFirst [] = -1 := rfl
theorem rFirst_ok {m : List (Int × Int)} (h : 0 < m.length) : 0 ≤ rFirst m ∧ (rFirst m).toNat < m.length ∧ ∀ j, j < m.length → lss (E m j) (E m (rFirst m).toNat) = false :=
  (fI_ok m m.length 0 (-1) rfl (fun _ => rfl) (fun q => absurd q (by decide))).2 h
theorem Rel.first_at (h : Rel xs p m) (hl : 0 < m.length) : E m (rFirst m).toNat = E xs 0 := by
  obtain ⟨h1, h2, h3⟩ := rFirst_ok hl
  refine h.first (by rw [E_at h2]; exact List.getElem_mem h2) fun y hy => ?_
  obtain ⟨j, hj, rfl⟩ := List.getElem_of_mem hy
  rw [← E_at hj]
  exact h3 j hj
/-- All that is due, and the list without them. -/
def rDue : Nat → Int → List (Int × Int) → List Int → List Int × List (Int × Int)
  | 0, _, m, acc => (acc, m)
  | k + 1, now, m, acc => if 0 < m.length ∧ (E m (rFirst m).toNat).1 ≤ now then rDue k now (rDrop m (E m (rFirst m).toNat).2) (acc ++ [(E m (rFirst m).toNat).2]) else (acc, m)
end
theorem Rel.due : ∀ k now (xs m : List (Int × Int)) p acc, Rel xs p m → (dueF k now xs p acc).1 = (rDue k now m acc).1 ∧ Rel (dueF k now xs p acc).2.1 (dueF k now xs p acc).2.2 (rDue k now m acc).2
  | 0, now, xs, m, p, acc, h => ⟨rfl, h⟩
  | k + 1, now, xs, m, p, acc, h => by
    have hl := h.len
    simp only [dueF, rDue]
    by_cases c0 : 0 < m.length
    · have hf := h.first_at c0
      by_cases c : (E xs 0).1 ≤ now
      · rw [if_pos ⟨by omega, c⟩, if_pos ⟨c0, by rw [hf]; exact c⟩, hf]
        exact Rel.due k now _ _ _ _ (h.cut (by omega))
      · rw [if_neg (fun q => c q.2), if_neg (fun q => c (by rw [← hf]; exact q.2))]
        exact ⟨rfl, h⟩
    · rw [if_neg (fun q => c0 (by omega)), if_neg (fun q => c0 q.1)]
      exact ⟨rfl, h⟩
end Go.Proofs.Ytakbhnfmimnbhaa.Tm
