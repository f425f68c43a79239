/- What the calls of a row with two ends do, as calls on a list. Conditions: the row lies in memory of its own. -/
import Derived.Test.YtjcjhmnfknenlaaRing4
namespace Go.Proofs.Ytjcjhmnfknenlaa.Rg
open Go.RowKit Go.Proofs.YtjcjhmnfknenlaaW.PrintWords Go.Proofs.YtjcjhmnfknenlaaW.PrintLast Go.Proofs.YtjcjhmnfknenlaaW.PrintMore Ap
set_option linter.unusedSimpArgs false
set_option linter.unusedVariables false

/-! ### The list behind the slots -/
theorem mod_ne {cap p i j : Nat} (hi : i < cap) (hj : j < cap) (h : i ≠ j) : (p + i) % cap ≠ (p + j) % cap := by
  intro e
  have h1 := Nat.div_add_mod (p + i) cap
  have h2 := Nat.div_add_mod (p + j) cap
  rw [e] at h1
  have h3 : cap * ((p + i) / cap) + j = cap * ((p + j) / cap) + i := by omega
  rcases Nat.lt_trichotomy ((p + i) / cap) ((p + j) / cap) with q | q | q
  · have := Nat.mul_le_mul_left cap q
    rw [Nat.mul_succ] at this
    omega
  · rw [q] at h3; omega
  · have := Nat.mul_le_mul_left cap q
    rw [Nat.mul_succ] at this
    omega
theorem elems_get {cap p n : Nat} {xs : List Int} {i : Nat} (hi : i < n) : (elems cap p n xs).getD i 0 = xs.getD ((p + i) % cap) 0 := by
  simp [elems, List.getD_eq_getElem?_getD, hi]
theorem elems_congr {cap p n : Nat} {xs ys : List Int} (h : ∀ i, i < n → xs.getD ((p + i) % cap) 0 = ys.getD ((p + i) % cap) 0) : elems cap p n xs = elems cap p n ys := by
  unfold elems
  apply List.map_congr_left
  intro i hi
  exact h i (List.mem_range.1 hi)
theorem elems_back {cap p n : Nat} {xs : List Int} (hl : xs.length = cap) (hn : n < cap) (x : Int) : elems cap p (n + 1) (xs.set ((p + n) % cap) x) = elems cap p n xs ++ [x] := by
  have hm : (p + n) % cap < cap := Nat.mod_lt _ (by omega)
  rw [elems_take_succ]
  congr 1
  · apply elems_congr
    intro i hi
    have := mod_ne (p := p) (show i < cap by omega) hn (by omega)
    simp [List.getD_eq_getElem?_getD, List.getElem?_set, Ne.symm this]
  · simp [List.getD_eq_getElem?_getD, List.getElem?_set, hl, hm]
theorem elems_front {cap p n : Nat} {xs : List Int} (hl : xs.length = cap) (hn : n < cap) (x : Int) :
    elems cap ((p + (cap - 1)) % cap) (n + 1) (xs.set ((p + (cap - 1)) % cap) x) = x :: elems cap p n xs := by
  have hm : (p + (cap - 1)) % cap < cap := Nat.mod_lt _ (by omega)
  have hs : ∀ i, ((p + (cap - 1)) % cap + i) % cap = (p + (cap - 1) + i) % cap := fun i => by rw [Nat.mod_add_mod]
  have h1 : ∀ i, ((p + (cap - 1)) % cap + (i + 1)) % cap = (p + i) % cap := fun i => by
    rw [hs, show p + (cap - 1) + (i + 1) = p + i + cap by omega, Nat.add_mod_right]
  unfold elems
  rw [List.range_succ_eq_map, List.map_cons, List.map_map]
  congr 1
  · rw [Nat.add_zero, Nat.mod_mod]
    simp [List.getD_eq_getElem?_getD, List.getElem?_set, hl, hm]
  · apply List.map_congr_left
    intro i hi
    have hi := List.mem_range.1 hi
    simp only [Function.comp, Nat.succ_eq_add_one, h1]
    have : (p + (cap - 1)) % cap ≠ (p + i) % cap := mod_ne (by omega) (by omega) (by omega)
    simp [List.getD_eq_getElem?_getD, List.getElem?_set, this]
theorem elems_popback {cap p n : Nat} {xs : List Int} (hn : 0 < n) : elems cap p (n - 1) xs = (elems cap p n xs).take (n - 1) := by
  unfold elems
  rw [← List.map_take, List.take_range]
  congr 2
  omega
theorem elems_popfront {cap p n : Nat} {xs : List Int} (hn : 0 < n) : elems cap ((p + 1) % cap) (n - 1) xs = (elems cap p n xs).drop 1 := by
  obtain ⟨m, rfl⟩ : ∃ m, n = m + 1 := ⟨n - 1, by omega⟩
  unfold elems
  rw [List.range_succ_eq_map, List.map_cons, List.map_map]
  simp only [List.drop_succ_cons, List.drop_zero, Nat.add_sub_cancel]
  apply List.map_congr_left
  intro i _
  simp only [Function.comp, Nat.succ_eq_add_one]
  rw [Nat.mod_add_mod, show p + 1 + i = p + (i + 1) by omega]

/-- The page's call, on a list. -/
def refDo (l : List Int) (room kd x : Int) : List Int × Int × Bool :=
  if kd = 0 then (if room ≤ (l.length : Int) then (l, 0, false) else (l ++ [x], 0, true))
  else if kd = 1 then (if room ≤ (l.length : Int) then (l, 0, false) else (x :: l, 0, true))
  else if kd = 2 then (if l.length = 0 then (l, 0, false) else (l.take (l.length - 1), l.getD (l.length - 1) 0, true))
  else if kd = 3 then (if l.length = 0 then (l, 0, false) else (l.drop 1, l.getD 0 0, true))
  else if x < 0 ∨ (l.length : Int) ≤ x then (l, 0, false) else (l, l.getD x.toNat 0, true)
/-- A row that holds a list. -/
def Row (W : World) (g b c : Nat) (ex : List Value) (cap : Nat) (l : List Int) : Prop := ∃ p n xs, At W g b c ex cap p n xs ∧ elems cap p n xs = l
def two (g b k : Nat) : Prop := k = g ∨ k = b
section
variable {W : World} {g b c cap : Nat} {ex : List Value} {l : List Int}
theorem Row.kept {W' : World} (h : Row W g b c ex cap l) {S : Nat → Prop} (hc : Chg S W W') (h1 : ¬ S g) (h2 : ¬ S b) : Row W' g b c ex cap l := by
  obtain ⟨p, n, xs, h, e⟩ := h
  exact ⟨p, n, xs, h.kept hc h1 h2, e⟩
theorem Row.below {W' : World} (h : Row W g b c ex cap l) (hc : Below W.heap.size W W') : Row W' g b c ex cap l := h.kept (Chg.of_below hc (S := fun _ => False)) id id
theorem Row.drewN (h : Row W g b c ex cap l) (k : Nat) : Row (W.drewN k) g b c ex cap l := by
  obtain ⟨p, n, xs, h, e⟩ := h
  exact ⟨p, n, xs, h.drewN k, e⟩
theorem Row.le (h : Row W g b c ex cap l) : l.length ≤ cap := by
  obtain ⟨p, n, xs, h, rfl⟩ := h
  rw [elems_len]; exact h.n_le
theorem Row.room (h : Row W g b c ex cap l) : cap ≤ 4096 := by
  obtain ⟨p, n, xs, h, rfl⟩ := h
  exact h.room
theorem Chg.drawn {S : Nat → Prop} (W : World) (k : Nat) : Chg S W (W.drewN k) := (Chg.refl S W).drewN k

theorem row_back (h : Row W g b c ex cap l) (x : Int) :
    Calls Try.prog 43 #[.pointer (some ⟨g, 0, none⟩), .int .i64 x] W fun e w' => e = .returned (.bool (refDo l cap 0 x).2.2) ∧ Chg (two g b) W w' ∧ Row w' g b c ex cap (refDo l cap 0 x).1 := by
  obtain ⟨p, n, xs, h, rfl⟩ := h
  have hn := h.n_le
  simp only [refDo, if_true, elems_len]
  by_cases e : n = cap
  · rw [if_pos (by omega)]
    refine (back_full h e x).mono ?_
    rintro _ w' ⟨rfl, k, rfl⟩
    exact ⟨rfl, Chg.drawn _ _, p, n, xs, h.drewN k, rfl⟩
  · rw [if_neg (by omega)]
    refine (back_any h (by omega) x).mono ?_
    rintro _ w' ⟨rfl, hc, h'⟩
    exact ⟨rfl, hc, p, n + 1, _, h', elems_back h.len (by omega) x⟩
theorem row_popback (h : Row W g b c ex cap l) :
    Calls Try.prog 46 #[.pointer (some ⟨g, 0, none⟩)] W fun e w' => e = .returned (.tuple #[.int .i64 (refDo l cap 2 0).2.1, .bool (refDo l cap 2 0).2.2]) ∧ Chg (two g b) W w' ∧ Row w' g b c ex cap (refDo l cap 2 0).1 := by
  obtain ⟨p, n, xs, h, rfl⟩ := h
  have hn := h.n_le
  simp only [refDo, Int.reduceEq, if_false, if_true, elems_len]
  by_cases e : n = 0
  · subst e
    rw [if_pos rfl]
    refine (popback_none h).mono ?_
    rintro _ w' ⟨rfl, k, rfl⟩
    exact ⟨rfl, Chg.drawn _ _, p, 0, xs, h.drewN k, rfl⟩
  · rw [if_neg e]
    refine (popback_some h (by omega)).mono ?_
    rintro _ w' ⟨rfl, hc, h'⟩
    exact ⟨by rw [elems_get (by omega)], hc, p, n - 1, _, h', elems_popback (by omega)⟩
theorem row_popfront (h : Row W g b c ex cap l) :
    Calls Try.prog 47 #[.pointer (some ⟨g, 0, none⟩)] W fun e w' => e = .returned (.tuple #[.int .i64 (refDo l cap 3 0).2.1, .bool (refDo l cap 3 0).2.2]) ∧ Chg (two g b) W w' ∧ Row w' g b c ex cap (refDo l cap 3 0).1 := by
  obtain ⟨p, n, xs, h, rfl⟩ := h
  have hn := h.n_le
  simp only [refDo, Int.reduceEq, if_false, if_true, elems_len]
  by_cases e : n = 0
  · subst e
    rw [if_pos rfl]
    refine (popfront_none h).mono ?_
    rintro _ w' ⟨rfl, k, rfl⟩
    exact ⟨rfl, Chg.drawn _ _, p, 0, xs, h.drewN k, rfl⟩
  · rw [if_neg e]
    refine (popfront_some h (by omega)).mono ?_
    rintro _ w' ⟨rfl, hc, h'⟩
    exact ⟨by rw [elems_get (by omega), Nat.add_zero], hc, _, n - 1, _, h', elems_popfront (by omega)⟩
theorem row_at (h : Row W g b c ex cap l) (x : Int) :
    Calls Try.prog 57 #[.pointer (some ⟨g, 0, none⟩), .int .i64 x] W fun e w' => e = .returned (.tuple #[.int .i64 (refDo l cap 4 x).2.1, .bool (refDo l cap 4 x).2.2]) ∧ Chg (two g b) W w' ∧ Row w' g b c ex cap (refDo l cap 4 x).1 := by
  obtain ⟨p, n, xs, h, rfl⟩ := h
  have hn := h.n_le
  simp only [refDo, Int.reduceEq, if_false, if_true, elems_len]
  by_cases e : x < 0 ∨ (n : Int) ≤ x
  · rw [if_pos e]
    refine (at_out h x e).mono ?_
    rintro _ w' ⟨rfl, k, rfl⟩
    exact ⟨rfl, Chg.drawn _ _, p, n, xs, h.drewN k, rfl⟩
  · rw [if_neg e]
    obtain ⟨i, rfl⟩ : ∃ i : Nat, x = (i : Int) := ⟨x.toNat, by omega⟩
    refine (at_in h i (by omega)).mono ?_
    rintro _ w' ⟨rfl, k, rfl⟩
    exact ⟨by rw [show (i : Int).toNat = i from rfl, elems_get (by omega)], Chg.drawn _ _, p, n, xs, h.drewN k, rfl⟩
theorem row_len (h : Row W g b c ex cap l) :
    Calls Try.prog 54 #[.pointer (some ⟨g, 0, none⟩)] W fun e w' => e = .returned (.int .i64 (l.length : Int)) ∧ W = w' := by
  obtain ⟨p, n, xs, h, rfl⟩ := h
  rw [elems_len]
  exact len_any h
theorem row_all (h : Row W g b c ex cap l) :
    Calls Try.prog 40 #[.pointer (some ⟨g, 0, none⟩)] W fun e w' => ∃ v, e = .returned v ∧ Below W.heap.size W w' ∧ w'.ownsRow W.heap.size 3 1 v l.length (nums .i64 l) := by
  obtain ⟨p, n, xs, h, rfl⟩ := h
  exact all_any h
theorem row_new (W : World) (room : Int) (c : Nat) (hc : (c : Int) = min (max room 0) 4096) :
    Calls Try.prog 26 #[.int .i64 room] W fun e w' => ∃ g b, e = .returned (.pointer (some ⟨g, 0, none⟩)) ∧ Below W.heap.size W w' ∧ Row w' g b c [] c [] ∧ W.heap.size ≤ g ∧ W.heap.size ≤ b := by
  refine (new_any W room c hc).mono ?_
  rintro e w' ⟨g, b, he, hb, h, h1, h2⟩
  exact ⟨g, b, he, hb, ⟨0, 0, _, h, rfl⟩, h1, h2⟩
theorem row_clone (h : Row W g b c ex cap l) :
    Calls Try.prog 42 #[.pointer (some ⟨g, 0, none⟩)] W fun e w' => ∃ g' b' c' ex', e = .returned (.pointer (some ⟨g', 0, none⟩)) ∧ Below W.heap.size W w' ∧ Row w' g' b' c' ex' cap l ∧ W.heap.size ≤ g' ∧ W.heap.size ≤ b' := by
  obtain ⟨p, n, xs, h, rfl⟩ := h
  refine (clone_any h).mono ?_
  rintro e w' ⟨g, b, c1, ex1, he, hb, h, h1, h2⟩
  exact ⟨g, b, c1, ex1, he, hb, ⟨p, n, xs, h, rfl⟩, h1, h2⟩
end
end Go.Proofs.Ytjcjhmnfknenlaa.Rg
