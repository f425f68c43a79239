/- The document's answer for timers, as plain lists. Conditions: none. -/
import Derived.Test.YtlggjacghemakaaPTimerApartx1
import Derived.Test.YtlggjacghemakaaTr2
namespace Go.Proofs.Ytlggjacghemakaa.TxTimerApart
open Go.RowKit Go.Proofs.Ytlggjacghemakaa.PTimerApart Go.Proofs.YtlggjacghemakaaW.PrintWords Go.Proofs.YtlggjacghemakaaW.PrintLast Go.Proofs.YtlggjacghemakaaW.PrintMore Tm
set_option linter.unusedVariables false
set_option linter.unusedSimpArgs false
def Evt {α : Type} (f : Nat → Option α) (v : α) : Prop := ∃ K, ∀ k, K ≤ k → f k = some v
theorem Evt.const {α : Type} {f : Nat → Option α} {v : α} (h : ∀ k, f k = some v) : Evt f v := ⟨0, fun k _ => h k⟩
theorem Evt.step {α : Type} {f g : Nat → Option α} {v : α} (h : ∀ k, f (k + 1) = g k) (hg : Evt g v) : Evt f v := by
  obtain ⟨K, hK⟩ := hg
  refine ⟨K + 1, fun k hk => ?_⟩
  obtain ⟨j, rfl⟩ : ∃ j, k = j + 1 := ⟨k - 1, by omega⟩
  rw [h]
  exact hK j (by omega)
theorem Evt.of {α : Type} {f g : Nat → Option α} {v : α} (h : ∀ k, f k = g k) (hg : Evt g v) : Evt f v := by
  obtain ⟨K, hK⟩ := hg
  exact ⟨K, fun k hk => by rw [h]; exact hK k hk⟩
theorem Evt.bind {α β : Type} {f : Nat → Option α} {g : Nat → α → Option β} {a : α} {b : β} (hf : Evt f a) (hg : Evt (fun k => g k a) b) : Evt (fun k => (f k).bind (g k)) b := by
  obtain ⟨K, hK⟩ := hf
  obtain ⟨L, hL⟩ := hg
  refine ⟨K + L, fun k hk => ?_⟩
  show (f k).bind (g k) = some b
  rw [hK k (by omega), Option.bind_some]
  exact hL k (by omega)
theorem Evt.get {α : Type} {f : Nat → Option α} {v : α} (h : Evt f v) : ∃ k, f k = some v := by
  obtain ⟨K, hK⟩ := h
  exact ⟨K, hK K (Nat.le_refl _)⟩
theorem w1 {i : Nat} (h : i < 4611686018427387904) : wrap64 ((i : Int) + 1) = ((i + 1 : Nat) : Int) := by unfold wrap64; omega

/-- The list's pairs: (at, id). -/
def cv (ms : List S81) : List (Int × Int) := ms.map fun s => (s.f1, s.f0)
theorem cv_len (ms : List S81) : (cv ms).length = ms.length := by simp [cv]
theorem cv_E (ms : List S81) (j : Nat) : E (cv ms) j = ((rd_T81 ms (j : Int)).f1, (rd_T81 ms (j : Int)).f0) := by
  unfold rd_T81
  rw [Int.toNat_natCast]
  show (ms.map _).getD j (0, 0) = _
  rw [List.getD_eq_getElem?_getD, List.getElem?_map, List.getD_eq_getElem?_getD]
  cases ms[j]? with
  | none => rfl
  | some s => rfl
theorem drop_cons {ms : List S81} {i : Nat} (h : i < ms.length) : ms.drop i = rd_T81 ms (i : Int) :: ms.drop (i + 1) := by
  rw [List.drop_eq_getElem_cons h]
  congr 1
  unfold rd_T81
  rw [Int.toNat_natCast, List.getD_eq_getElem?_getD, List.getElem?_eq_getElem h]
  rfl
def Dp (ms : List S81) (id : Int) : List S81 := ms.filter fun s => decide (s.f0 ≠ id)
theorem cv_Dp (ms : List S81) (id : Int) : cv (Dp ms id) = rDrop (cv ms) id := by
  unfold cv Dp rDrop
  rw [List.filter_map]
  rfl
theorem drop_ev (ms : List S81) (id : Int) (hl : ms.length < 1000000) : ∀ d i acc, d + i = ms.length → acc.length ≤ i → Evt (fun k => logjamref05_Drop.l0 k ms id acc (i : Int)) (acc ++ Dp (ms.drop i) id)
  | 0, i, acc, h, ha => by
    refine Evt.step (g := fun _ => some (acc ++ Dp (ms.drop i) id)) (fun k => ?_) (Evt.const fun _ => rfl)
    show logjamref05_Drop.l0 (k + 1) _ _ _ _ = _
    simp only [logjamref05_Drop.l0]
    rw [if_neg (by omega), List.drop_of_length_le (by omega)]
    simp [Dp]
  | d + 1, i, acc, h, ha => by
    have hd := drop_cons (ms := ms) (i := i) (by omega)
    by_cases c : (rd_T81 ms (i : Int)).f0 = id
    · have e : Dp (ms.drop i) id = Dp (ms.drop (i + 1)) id := by
        rw [hd]
        unfold Dp
        rw [List.filter_cons_of_neg (by simpa using c)]
      rw [e]
      refine Evt.step (fun k => ?_) (drop_ev ms id hl d (i + 1) acc (by omega) (by omega))
      show logjamref05_Drop.l0 (k + 1) _ _ _ _ = _
      simp only [logjamref05_Drop.l0]
      rw [if_pos (by omega), if_pos (by omega), if_pos c, w1 (by omega)]
    · have e : acc ++ Dp (ms.drop i) id = acc ++ [rd_T81 ms (i : Int)] ++ Dp (ms.drop (i + 1)) id := by
        rw [hd]
        unfold Dp
        rw [List.filter_cons_of_pos (by simpa using c)]
        simp
      rw [e]
      refine Evt.step (fun k => ?_) (drop_ev ms id hl d (i + 1) (acc ++ [rd_T81 ms (i : Int)]) (by omega) (by simp; omega))
      show logjamref05_Drop.l0 (k + 1) _ _ _ _ = _
      simp only [logjamref05_Drop.l0]
      rw [if_pos (by omega), if_pos (by omega), if_neg c, if_pos (by omega), w1 (by omega)]
theorem drop_f (ms : List S81) (id : Int) (hl : ms.length < 1000000) : Evt (fun k => logjamref05_Drop.f k ms id) (Dp ms id) := by
  have := drop_ev ms id hl ms.length 0 [] rfl (Nat.le_refl _)
  rw [List.nil_append, List.drop_zero] at this
  exact this
theorem Dp_len (ms : List S81) (id : Int) : (Dp ms id).length ≤ ms.length := List.length_filter_le _ _
theorem set_f (ms : List S81) (id at_ : Int) (hl : ms.length < 1000000) : Evt (fun k => logjamref05_Set.f k ms id at_) (Dp ms id ++ [⟨id, at_⟩]) := by
  refine Evt.of (fun k => ?_) (Evt.bind (g := fun _ t => if t.length < 8796093022208 then some (t ++ [(⟨id, at_⟩ : S81)]) else none) (drop_f ms id hl) (Evt.const fun _ => by rw [if_pos (by have := Dp_len ms id; omega)]))
  rfl
theorem cv_Set (ms : List S81) (id at_ : Int) : cv (Dp ms id ++ [⟨id, at_⟩]) = rSet (cv ms) id at_ := by
  unfold rSet
  rw [← cv_Dp]
  unfold cv
  rw [List.map_append]
  rfl
theorem first_ev (ms : List S81) (hl : ms.length < 1000000) : ∀ d i (k : Int), d + i = ms.length → k < i → -1 ≤ k → Evt (fun n => logjamref05_First.l0 n ms k (i : Int)) (fI (cv ms) d i k)
  | 0, i, k, h, h1, h2 => by
    refine Evt.step (g := fun _ => some k) (fun n => ?_) (Evt.const fun _ => rfl)
    show logjamref05_First.l0 (n + 1) _ _ _ = _
    simp only [logjamref05_First.l0]
    rw [if_neg (by omega)]
  | d + 1, i, k, h, h1, h2 => by
    have ih := first_ev ms hl d (i + 1) (if k < 0 ∨ lss (E (cv ms) i) (E (cv ms) k.toNat) = true then (i : Int) else k) (by omega) (by split <;> omega) (by split <;> omega)
    refine Evt.step (fun n => ?_) ih
    show logjamref05_First.l0 (n + 1) _ _ _ = _
    simp only [logjamref05_First.l0]
    rw [if_pos (by omega), w1 (by omega)]
    by_cases c : k < 0
    · rw [if_pos c, if_pos (Or.inl c)]
    · rw [if_neg c, if_pos (by omega), if_pos (by omega), if_pos (by omega)]
      have ek : ((k.toNat : Nat) : Int) = k := by omega
      rw [cv_E, cv_E, ek]
      by_cases c1 : (rd_T81 ms (i : Int)).f1 < (rd_T81 ms k).f1
      · rw [if_pos c1, if_pos (Or.inr (lss_iff.2 (.inl c1)))]
      · rw [if_neg c1]
        by_cases c2 : (rd_T81 ms (i : Int)).f1 = (rd_T81 ms k).f1
        · rw [if_pos c2]
          by_cases c3 : (rd_T81 ms (i : Int)).f0 < (rd_T81 ms k).f0
          · rw [if_pos c3, if_pos (Or.inr (lss_iff.2 (.inr ⟨c2, c3⟩)))]
          · rw [if_neg c3, if_neg (fun q => by
              rcases q with q | q
              · exact c q
              · rcases lss_iff.1 q with q | q
                · exact c1 q
                · exact c3 q.2)]
        · rw [if_neg c2, if_neg (fun q => by
            rcases q with q | q
            · exact c q
            · rcases lss_iff.1 q with q | q
              · exact c1 q
              · exact c2 q.1)]
theorem first_f (ms : List S81) (hl : ms.length < 1000000) : Evt (fun k => logjamref05_First.f k ms) (rFirst (cv ms)) := by
  have := first_ev ms hl ms.length 0 (-1) rfl (by decide) (by decide)
  unfold rFirst
  rw [cv_len]
  exact this
theorem find_ev (ms : List S81) (id : Int) (hl : ms.length < 1000000) : ∀ d i, d + i = ms.length → (∀ j, j < i → (rd_T81 ms (j : Int)).f0 ≠ id) →
    ∃ r, Evt (fun n => logjamref05_Find.l0 n ms id (i : Int)) r ∧ ((r = -1 ∧ ∀ j, j < ms.length → (rd_T81 ms (j : Int)).f0 ≠ id) ∨ ∃ j : Nat, r = (j : Int) ∧ j < ms.length ∧ (rd_T81 ms (j : Int)).f0 = id)
  | 0, i, h, hn => by
    refine ⟨-1, Evt.step (g := fun _ => some (-1)) (fun n => ?_) (Evt.const fun _ => rfl), .inl ⟨rfl, fun j hj => hn j (by omega)⟩⟩
    show logjamref05_Find.l0 (n + 1) _ _ _ = _
    simp only [logjamref05_Find.l0]
    rw [if_neg (by omega)]
  | d + 1, i, h, hn => by
    by_cases c : (rd_T81 ms (i : Int)).f0 = id
    · refine ⟨(i : Int), Evt.step (g := fun _ => some (i : Int)) (fun n => ?_) (Evt.const fun _ => rfl), .inr ⟨i, rfl, by omega, c⟩⟩
      show logjamref05_Find.l0 (n + 1) _ _ _ = _
      simp only [logjamref05_Find.l0]
      rw [if_pos (by omega), if_pos (by omega), if_pos c]
    · obtain ⟨r, h1, h2⟩ := find_ev ms id hl d (i + 1) (by omega) (fun j hj => by
        by_cases e : j = i
        · rw [e]; exact c
        · exact hn j (by omega))
      refine ⟨r, Evt.step (fun n => ?_) h1, h2⟩
      show logjamref05_Find.l0 (n + 1) _ _ _ = _
      simp only [logjamref05_Find.l0]
      rw [if_pos (by omega), if_pos (by omega), if_neg c, w1 (by omega)]
theorem find_f (ms : List S81) (id : Int) (hl : ms.length < 1000000) : ∃ r, Evt (fun k => logjamref05_Find.f k ms id) r ∧ ((r = -1 ∧ Tm.has (cv ms) id = false) ∨ ∃ j : Nat, r = (j : Int) ∧ j < ms.length ∧ (rd_T81 ms (j : Int)).f0 = id ∧ Tm.has (cv ms) id = true) := by
  obtain ⟨r, h1, h2⟩ := find_ev ms id hl ms.length 0 rfl (fun j hj => absurd hj (Nat.not_lt_zero _))
  refine ⟨r, h1, ?_⟩
  rcases h2 with ⟨rfl, h3⟩ | ⟨j, rfl, hj, h3⟩
  · refine .inl ⟨rfl, ?_⟩
    unfold Tm.has
    rw [List.any_eq_false]
    intro z hz
    obtain ⟨j, hj, rfl⟩ := List.getElem_of_mem hz
    rw [cv_len] at hj
    have := h3 j hj
    rw [← E_at, cv_E]
    simpa using this
  · refine .inr ⟨j, rfl, hj, h3, ?_⟩
    unfold Tm.has
    rw [List.any_eq_true]
    have hj2 : j < (cv ms).length := by rw [cv_len]; exact hj
    refine ⟨E (cv ms) j, by rw [E_at hj2]; exact List.getElem_mem hj2, ?_⟩
    rw [cv_E]
    simpa using h3
theorem due_ev (now : Int) : ∀ n (ms : List S81) acc, ms.length ≤ n → ms.length < 1000000 → acc.length + n < 1000000 → ∃ ms', cv ms' = (rDue n now (cv ms) acc).2 ∧ ms'.length ≤ ms.length ∧ Evt (fun k => logjamref05_Due.l0 k ms now acc) ((rDue n now (cv ms) acc).1, ms') := by
  intro n
  induction n with
  | zero =>
    intro ms acc h hl ha
    obtain rfl : ms = [] := List.eq_nil_of_length_eq_zero (by omega)
    refine ⟨[], rfl, Nat.le_refl _, Evt.step (fun k => rfl) (Evt.bind (g := fun k t => if t < 0 then some (acc, []) else _) (first_f [] (by decide)) (Evt.const fun _ => rfl))⟩
  | succ n ih =>
    intro ms acc h hl ha
    by_cases c0 : 0 < ms.length
    · have c0' : 0 < (cv ms).length := by rw [cv_len]; exact c0
      obtain ⟨g1, g2, _⟩ := rFirst_ok c0'
      rw [cv_len] at g2
      have ek : (((rFirst (cv ms)).toNat : Nat) : Int) = rFirst (cv ms) := by omega
      have eE := cv_E ms (rFirst (cv ms)).toNat
      rw [ek] at eE
      by_cases c : (rd_T81 ms (rFirst (cv ms))).f1 ≤ now
      · have e : rDue (n + 1) now (cv ms) acc = rDue n now (cv (Dp ms (rd_T81 ms (rFirst (cv ms))).f0)) (acc ++ [(rd_T81 ms (rFirst (cv ms))).f0]) := by
          simp only [rDue]
          rw [eE, if_pos ⟨c0', c⟩, cv_Dp]
        have hlt : (Dp ms (rd_T81 ms (rFirst (cv ms))).f0).length < ms.length := by
          refine Nat.lt_of_le_of_ne (Dp_len _ _) fun q => ?_
          have hall := List.length_filter_eq_length_iff.1 q
          have hmem : rd_T81 ms (rFirst (cv ms)) ∈ ms := by
            unfold rd_T81
            rw [List.getD_eq_getElem?_getD, List.getElem?_eq_getElem g2]
            exact List.getElem_mem g2
          have := hall _ hmem
          simp at this
        obtain ⟨ms', h1, h2, h3⟩ := ih (Dp ms (rd_T81 ms (rFirst (cv ms))).f0) (acc ++ [(rd_T81 ms (rFirst (cv ms))).f0]) (by omega) (by omega) (by simp; omega)
        refine ⟨ms', by rw [e]; exact h1, by omega, ?_⟩
        rw [e]
        refine Evt.step (fun k => rfl) (Evt.bind (g := fun k t => if t < 0 then some (acc, ms) else if 0 ≤ t then if t < (ms.length : Int) then if (rd_T81 ms t).f1 > now then some (acc, ms) else if acc.length < 17592186044416 then (logjamref05_Drop.f k ms (rd_T81 ms t).f0).bind fun t133 => logjamref05_Due.l0 k t133 now (acc ++ [(rd_T81 ms t).f0]) else none else none else none) (first_f ms hl) ?_)
        refine Evt.of (fun k => ?_) (Evt.bind (g := fun k t => logjamref05_Due.l0 k t now (acc ++ [(rd_T81 ms (rFirst (cv ms))).f0])) (drop_f ms (rd_T81 ms (rFirst (cv ms))).f0 hl) h3)
        rw [if_neg (by omega), if_pos g1, if_pos (by omega), if_neg (by omega), if_pos (by omega)]
      · refine ⟨ms, ?_, Nat.le_refl _, ?_⟩
        · simp only [rDue]
          rw [eE, if_neg (fun q => c q.2)]
        · have e : rDue (n + 1) now (cv ms) acc = (acc, cv ms) := by
            simp only [rDue]
            rw [eE, if_neg (fun q => c q.2)]
          rw [e]
          refine Evt.step (fun k => rfl) (Evt.bind (g := fun k t => if t < 0 then some (acc, ms) else if 0 ≤ t then if t < (ms.length : Int) then if (rd_T81 ms t).f1 > now then some (acc, ms) else if acc.length < 17592186044416 then (logjamref05_Drop.f k ms (rd_T81 ms t).f0).bind fun t133 => logjamref05_Due.l0 k t133 now (acc ++ [(rd_T81 ms t).f0]) else none else none else none) (first_f ms hl) (Evt.const fun k => ?_))
          rw [if_neg (by omega), if_pos g1, if_pos (by omega), if_pos (by omega)]
    · obtain rfl : ms = [] := List.eq_nil_of_length_eq_zero (by omega)
      refine ⟨[], rfl, Nat.le_refl _, Evt.step (fun k => rfl) (Evt.bind (g := fun k t => if t < 0 then some (acc, []) else _) (first_f [] (by decide)) (Evt.const fun _ => rfl))⟩
theorem due_f (ms : List S81) (now : Int) (hl : ms.length < 400000) : ∃ ms', cv ms' = (rDue ms.length now (cv ms) []).2 ∧ ms'.length ≤ ms.length ∧ Evt (fun k => logjamref05_Due.f k ms now) ((rDue ms.length now (cv ms) []).1, ms') := due_ev now ms.length ms [] (Nat.le_refl _) (by omega) (by simp; omega)
theorem same_f (l : List Int) (hl : l.length < 4611686018427387904) : Evt (fun k => logjamlaw05_same.f k l l) true := by
  have h : ∀ d i, d + i = l.length → Evt (fun k => logjamlaw05_same.l0 k l l (i : Int)) true := by
    intro d
    induction d with
    | zero =>
      intro i h
      exact Evt.step (g := fun _ => some true) (fun k => by show logjamlaw05_same.l0 (k + 1) _ _ _ = _; simp only [logjamlaw05_same.l0]; rw [if_neg (by omega)]) (Evt.const fun _ => rfl)
    | succ d ih =>
      intro i h
      refine Evt.step (fun k => ?_) (ih (i + 1) (by omega))
      show logjamlaw05_same.l0 (k + 1) _ _ _ = _
      simp only [logjamlaw05_same.l0]
      rw [if_pos (by omega), if_pos (by omega), if_pos (by omega), if_pos trivial, w1 (by omega)]
  refine Evt.of (fun k => ?_) (h l.length 0 (by omega))
  show logjamlaw05_same.f k l l = _
  unfold logjamlaw05_same.f
  rw [if_pos rfl]
  rfl
end Go.Proofs.Ytlggjacghemakaa.TxTimerApart
