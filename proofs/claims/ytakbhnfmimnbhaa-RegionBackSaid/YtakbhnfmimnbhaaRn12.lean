/- What is written, and what Undo tells, on eight cells: the plain law of RegionBack. Conditions: none. -/
import Derived.Test.YtakbhnfmimnbhaaRn11
namespace Go.Proofs.Ytakbhnfmimnbhaa.Rn
set_option linter.unusedVariables false

theorem len_le {α : Type} [DecidableEq α] : ∀ {a l : List α}, a.Nodup → (∀ x ∈ a, x ∈ l) → a.length ≤ l.length
  | [], l, _, _ => Nat.zero_le _
  | x :: t, l, hn, hs => by
    rw [List.nodup_cons] at hn
    have hx : x ∈ l := hs x List.mem_cons_self
    have := len_le (l := l.erase x) hn.2 (fun y hy => (List.mem_erase_of_ne (fun e => hn.1 (by rw [← e]; exact hy))).2 (hs y (List.mem_cons_of_mem _ hy)))
    rw [List.length_erase_of_mem hx] at this
    have h0 : 0 < l.length := List.length_pos_of_mem hx
    simp only [List.length_cons]
    omega
structure Bk (f now : List Int) (u : List (Int × Int)) : Prop where
  l8 : now.length = 8
  nd : (u.map Prod.fst).Nodup
  at_ : ∀ p ∈ u, 0 ≤ p.1 ∧ p.1 < 8 ∧ p.2 = f.getD p.1.toNat 0
  no : ∀ c : Nat, c < 8 → (∃ p ∈ u, p.1 = (c : Int)) ∨ now.getD c 0 = f.getD c 0
def bkU (now : List Int) (u : List (Int × Int)) (c : Nat) : List (Int × Int) := if (fnd u c).isNone = true then u ++ [((c : Int), now.getD c 0)] else u
theorem getD_set_i (l : List Int) (j k : Nat) (p : Int) (hj : j < l.length) : (l.set j p).getD k 0 = if k = j then p else l.getD k 0 := by
  rw [List.getD_eq_getElem?_getD, List.getD_eq_getElem?_getD, List.getElem?_set]
  by_cases h : j = k
  · subst h
    rw [if_pos rfl, if_pos hj, if_pos rfl]
    rfl
  · rw [if_neg h, if_neg (fun e => h e.symm)]
theorem fnd_no {u : List (Int × Int)} {c : Int} (h : (fnd u c).isNone = true) : ∀ p ∈ u, p.1 ≠ c := by
  unfold fnd at h
  rw [Option.isNone_iff_eq_none, List.findIdx?_eq_none_iff] at h
  intro p hp e
  have := h p hp
  rw [e] at this
  simp at this
theorem fnd_yes {u : List (Int × Int)} {c : Int} (h : ¬ (fnd u c).isNone = true) : ∃ p ∈ u, p.1 = c := by
  refine Classical.byContradiction fun hx => h ?_
  unfold fnd
  rw [Option.isNone_iff_eq_none, List.findIdx?_eq_none_iff]
  intro p hp
  exact beq_eq_false_iff_ne.2 (fun e => hx ⟨p, hp, e⟩)
theorem Bk.init {f : List Int} (h : f.length = 8) : Bk f f [] := ⟨h, List.nodup_nil, (fun p hp => by cases hp), fun c _ => .inr rfl⟩
theorem Bk.step {f now : List Int} {u : List (Int × Int)} (h : Bk f now u) {c : Nat} (hc : c < 8) (y : Int) : Bk f (now.set c y) (bkU now u c) := by
  unfold bkU
  by_cases hf : (fnd u c).isNone = true
  · rw [if_pos hf]
    have hno := fnd_no hf
    refine ⟨by rw [List.length_set]; exact h.l8, ?_, ?_, ?_⟩
    · rw [List.map_append, List.nodup_append]
      refine ⟨h.nd, by simp, ?_⟩
      intro a ha b hb
      obtain ⟨p, hp, rfl⟩ := List.mem_map.1 ha
      simp at hb
      rw [hb]
      exact hno p hp
    · intro p hp
      rcases List.mem_append.1 hp with hp | hp
      · exact h.at_ p hp
      · rw [List.mem_singleton] at hp
        subst hp
        refine ⟨by simp, by simp; omega, ?_⟩
        rcases h.no c hc with ⟨q, hq, e⟩ | e
        · exact absurd e (hno q hq)
        · simpa using e
    · intro k hk
      by_cases e : k = c
      · subst e
        exact .inl ⟨_, List.mem_append_right _ (List.mem_singleton.2 rfl), rfl⟩
      · rcases h.no k hk with ⟨q, hq, e1⟩ | e1
        · exact .inl ⟨q, List.mem_append_left _ hq, e1⟩
        · exact .inr (by rw [getD_set_i _ _ _ _ (by rw [h.l8]; exact hc), if_neg e]; exact e1)
  · rw [if_neg hf]
    refine ⟨by rw [List.length_set]; exact h.l8, h.nd, h.at_, ?_⟩
    intro k hk
    by_cases e : k = c
    · subst e
      exact .inl (fnd_yes hf)
    · rcases h.no k hk with e1 | e1
      · exact .inl e1
      · exact .inr (by rw [getD_set_i _ _ _ _ (by rw [h.l8]; exact hc), if_neg e]; exact e1)
theorem Bk.len {f now : List Int} {u : List (Int × Int)} (h : Bk f now u) : u.length ≤ 8 := by
  have := len_le (l := (List.range 8).map Int.ofNat) h.nd (fun x hx => by
    obtain ⟨p, hp, rfl⟩ := List.mem_map.1 hx
    have := h.at_ p hp
    exact List.mem_map.2 ⟨p.1.toNat, List.mem_range.2 (by omega), by show ((p.1.toNat : Nat) : Int) = p.1; omega⟩)
  simpa using this
/-- Behind j of the told pairs set back. -/
structure Rs (f now : List Int) (l : List (Int × Int)) (j : Nat) : Prop where
  l8 : now.length = 8
  at_ : ∀ p ∈ l, 0 ≤ p.1 ∧ p.1 < 8 ∧ p.2 = f.getD p.1.toNat 0
  no : ∀ c : Nat, c < 8 → now.getD c 0 = f.getD c 0 ∨ ∃ k, j ≤ k ∧ k < l.length ∧ (l.getD k (0, 0)).1 = (c : Int)
theorem Rs.init {f now : List Int} {u : List (Int × Int)} (h : Bk f now u) : Rs f now u.reverse 0 := by
  refine ⟨h.l8, fun p hp => h.at_ p (List.mem_reverse.1 hp), fun c hc => ?_⟩
  rcases h.no c hc with ⟨p, hp, e⟩ | e
  · obtain ⟨k, hk, e1⟩ := List.getElem_of_mem (List.mem_reverse.2 hp)
    refine .inr ⟨k, Nat.zero_le _, hk, ?_⟩
    rw [List.getD_eq_getElem?_getD, List.getElem?_eq_getElem hk, e1]
    exact e
  · exact .inl e
theorem Rs.at_k {f now : List Int} {l : List (Int × Int)} {j : Nat} (h : Rs f now l j) {k : Nat} (hk : k < l.length) : 0 ≤ (l.getD k (0, 0)).1 ∧ (l.getD k (0, 0)).1 < 8 ∧ (l.getD k (0, 0)).2 = f.getD (l.getD k (0, 0)).1.toNat 0 := by
  refine h.at_ _ ?_
  rw [List.getD_eq_getElem?_getD, List.getElem?_eq_getElem hk]
  exact List.getElem_mem hk
theorem Rs.step {f now : List Int} {l : List (Int × Int)} {j : Nat} (h : Rs f now l j) (hj : j < l.length) : Rs f (now.set (l.getD j (0, 0)).1.toNat (l.getD j (0, 0)).2) l (j + 1) := by
  obtain ⟨a, b, c⟩ := h.at_k hj
  refine ⟨by rw [List.length_set]; exact h.l8, h.at_, fun k hk => ?_⟩
  rw [getD_set_i _ _ _ _ (by rw [h.l8]; omega)]
  by_cases e : k = (l.getD j (0, 0)).1.toNat
  · rw [if_pos e, c, e]
    exact .inl rfl
  · rw [if_neg e]
    rcases h.no k hk with e1 | ⟨q, h1, h2, h3⟩
    · exact .inl e1
    · refine .inr ⟨q, ?_, h2, h3⟩
      rcases Nat.lt_or_ge j q with h4 | h4
      · exact h4
      · obtain rfl : q = j := by omega
        exact absurd (by rw [h3]; simp) e
theorem Rs.done {f now : List Int} {l : List (Int × Int)} {j : Nat} (h : Rs f now l j) (hj : l.length ≤ j) (hf : f.length = 8) : now = f := by
  refine List.ext_getElem (by rw [h.l8, hf]) fun k h1 h2 => ?_
  rcases h.no k (by rw [h.l8] at h1; exact h1) with e | ⟨q, a, b, _⟩
  · rw [List.getD_eq_getElem?_getD, List.getD_eq_getElem?_getD, List.getElem?_eq_getElem h1, List.getElem?_eq_getElem h2] at e
    exact e
  · omega
end Go.Proofs.Ytakbhnfmimnbhaa.Rn
