/- What is known of a log holds behind one call more. Conditions: none. -/
import Derived.Test.YtakbhnfmimnbhaaRn19
namespace Go.Proofs.Ytakbhnfmimnbhaa.Rn
set_option linter.unusedVariables false
set_option linter.unusedSimpArgs false

def SrtP (l : List (Int × Int)) : Prop := l.Pairwise fun a b => a.1 < b.1
theorem getD_el (l : List (Int × Int)) {i : Nat} (h : i < l.length) : l.getD i (0, 0) = l[i] := by
  rw [List.getD_eq_getElem?_getD, List.getElem?_eq_getElem h]
  rfl
theorem srt_iff (l : List (Int × Int)) : Srt l ↔ SrtP l := by
  unfold Srt SrtP
  rw [List.pairwise_iff_getElem]
  constructor
  · intro h i j hi hj hij
    have := h i j hij hj
    rwa [getD_el l hi, getD_el l hj] at this
  · intro h i j hij hj
    rw [getD_el l (by omega), getD_el l hj]
    exact h i j (by omega) hj hij
theorem all_iff (l : List (Int × Int)) (P : Int × Int → Prop) : (∀ k, k < l.length → P (l.getD k (0, 0))) ↔ ∀ q ∈ l, P q := by
  constructor
  · intro h q hq
    obtain ⟨k, hk, rfl⟩ := List.getElem_of_mem hq
    have := h k hk
    rwa [getD_el l hk] at this
  · intro h k hk
    rw [getD_el l hk]
    exact h _ (List.getElem_mem hk)
theorem got_len : ∀ (l : List (Int × Int)) (o n : Int), (gotR l o n).length ≤ l.length + 1
  | [], o, n => by simp [gotR]
  | p :: l, o, n => by
    unfold gotR
    split
    · have := got_len l o n
      simp only [List.length_cons]
      omega
    · split <;> simp
theorem got_mem : ∀ {l : List (Int × Int)} {o n : Int} {q : Int × Int}, q ∈ gotR l o n → q = (o, n) ∨ q ∈ l ∨ ∃ p ∈ l, p.1 = o ∧ q = (o, p.2 + n)
  | [], o, n, q, h => by
    simp only [gotR, List.mem_singleton] at h
    exact .inl h
  | p :: l, o, n, q, h => by
    unfold gotR at h
    split at h
    · rcases List.mem_cons.1 h with h | h
      · exact .inr (.inl (by rw [h]; exact List.mem_cons_self))
      · rcases got_mem h with h | h | ⟨r, hr, e⟩
        · exact .inl h
        · exact .inr (.inl (List.mem_cons_of_mem _ h))
        · exact .inr (.inr ⟨r, List.mem_cons_of_mem _ hr, e⟩)
    · split at h
      · rename_i c
        rcases List.mem_cons.1 h with h | h
        · exact .inr (.inr ⟨p, List.mem_cons_self, c, by rw [h, c]⟩)
        · exact .inr (.inl (List.mem_cons_of_mem _ h))
      · rcases List.mem_cons.1 h with h | h
        · exact .inl h
        · exact .inr (.inl h)
theorem got_srt : ∀ {l : List (Int × Int)} {o n : Int}, SrtP l → SrtP (gotR l o n)
  | [], o, n, h => by simp [gotR, SrtP]
  | p :: l, o, n, h => by
    have h' := List.pairwise_cons.1 h
    unfold gotR
    split
    · rename_i c
      refine List.pairwise_cons.2 ⟨fun q hq => ?_, got_srt h'.2⟩
      rcases got_mem hq with e | e | ⟨r, hr, e, e2⟩
      · rw [e]; exact c
      · exact h'.1 q e
      · rw [e2]; exact c
    · split
      · exact List.pairwise_cons.2 ⟨fun q hq => h'.1 q hq, h'.2⟩
      · rename_i c1 c2
        refine List.pairwise_cons.2 ⟨fun q hq => ?_, h⟩
        rcases List.mem_cons.1 hq with e | e
        · rw [e]; show o < p.1; omega
        · have := h'.1 q e
          show o < q.1
          omega
theorem lost_mem {l : List (Int × Int)} {o n : Int} {q : Int × Int} (h : q ∈ lostR l o n) : q ∈ l ∨ ∃ p ∈ l, p.1 = q.1 ∧ q.2 = p.2 - n ∧ 0 < q.2 := by
  unfold lostR at h
  split at h
  · exact .inl h
  · rename_i i hi
    have hl := (fnd_lt hi).1
    split at h
    · exact .inl (List.mem_of_mem_eraseIdx h)
    · rename_i c
      rcases List.mem_or_eq_of_mem_set h with e | e
      · exact .inl e
      · refine .inr ⟨l.getD i (0, 0), by rw [getD_el l hl]; exact List.getElem_mem hl, by rw [e], by rw [e], by rw [e]; show 0 < (l.getD i (0, 0)).2 - n; omega⟩
theorem lost_len (l : List (Int × Int)) (o n : Int) : (lostR l o n).length ≤ l.length := by
  unfold lostR
  split
  · exact Nat.le_refl _
  · split
    · exact List.length_eraseIdx_le _ _
    · rw [List.length_set]; exact Nat.le_refl _
theorem lost_srt {l : List (Int × Int)} {o n : Int} (h : SrtP l) : SrtP (lostR l o n) := by
  unfold lostR
  split
  · exact h
  · rename_i i hi
    have hl := (fnd_lt hi).1
    split
    · exact List.Pairwise.sublist (List.eraseIdx_sublist _ _) h
    · have hm : ∀ m : List (Int × Int), SrtP m ↔ (m.map Prod.fst).Pairwise (· < ·) := fun m => by
        unfold SrtP
        rw [List.pairwise_map]
      rw [hm] at h ⊢
      rw [List.map_set]
      have e : (l.map Prod.fst).set i (l.getD i (0, 0)).1 = l.map Prod.fst := by
        rw [getD_el l hl]
        refine List.ext_getElem (by simp) fun k h1 h2 => ?_
        rw [List.getElem_set]
        split
        · rename_i c; subst c; simp
        · rfl
      show ((l.map Prod.fst).set i (l.getD i (0, 0)).1).Pairwise (· < ·)
      rw [e]
      exact h
theorem GI.step {i : Nat} {A : La} (h : GI i A) (hi : i + 1 ≤ 110) {k o n : Int} (ho : -1099511627776 ≤ o ∧ o ≤ 1099511627776) (hn : -1099511627776 ≤ n ∧ n ≤ 1099511627776) : GI (i + 1) (doL A k o n) := by
  have bd := (all_iff A.go (fun q => -1099511627776 ≤ q.1 ∧ q.1 ≤ 1099511627776)).1 h.bd
  have vl := (all_iff A.go (fun q => 0 ≤ q.2 ∧ q.2 ≤ i * 1099511627776)).1 h.vl
  have sr := (srt_iff _).1 h.sr
  have hw : GI (i + 1) A := ⟨hi, by have := h.ul; omega, by have := h.gl; omega, h.sr, h.bd, fun k hk => ⟨(h.vl k hk).1, by have := (h.vl k hk).2; omega⟩, ⟨h.ab.1, by have := h.ab.2; omega⟩, h.an⟩
  unfold doL
  split
  · refine ⟨hi, ?_, hw.gl, hw.sr, hw.bd, hw.vl, hw.ab, hw.an⟩
    unfold wrA
    have := h.ul
    dsimp only
    split
    · rw [List.length_append]; simp; omega
    · omega
  · split
    · split
      · exact hw
      · rename_i c
        refine ⟨hi, hw.ul, ?_, (srt_iff _).2 (got_srt sr), (all_iff _ (fun q => -1099511627776 ≤ q.1 ∧ q.1 ≤ 1099511627776)).2 fun q hq => ?_, (all_iff _ (fun q => 0 ≤ q.2 ∧ q.2 ≤ ((i + 1 : Nat) : Int) * 1099511627776)).2 fun q hq => ?_, hw.ab, hw.an⟩
        · have h1 := got_len A.go o n
          have h2 := h.gl
          dsimp only
          omega
        · rcases got_mem hq with e | e | ⟨r, hr, e, e2⟩
          · rw [e]; exact ho
          · exact bd q e
          · rw [e2]; exact ho
        · rcases got_mem hq with e | e | ⟨r, hr, e, e2⟩
          · rw [e]; dsimp only; omega
          · have := vl q e; omega
          · have := vl r hr; rw [e2]; dsimp only; omega
    · split
      · split
        · exact hw
        · rename_i c
          refine ⟨hi, hw.ul, Nat.le_trans (lost_len _ _ _) hw.gl, (srt_iff _).2 (lost_srt sr), (all_iff _ (fun q => -1099511627776 ≤ q.1 ∧ q.1 ≤ 1099511627776)).2 fun q hq => ?_, (all_iff _ (fun q => 0 ≤ q.2 ∧ q.2 ≤ ((i + 1 : Nat) : Int) * 1099511627776)).2 fun q hq => ?_, hw.ab, hw.an⟩
          · rcases lost_mem hq with e | ⟨r, hr, e, _⟩
            · exact bd q e
            · rw [← e]; exact bd r hr
          · rcases lost_mem hq with e | ⟨r, hr, e, e2, e3⟩
            · have := vl q e; omega
            · have := vl r hr; omega
      · refine ⟨hi, Nat.zero_le _, Nat.zero_le _, fun i j _ h2 => by simp at h2, fun i h2 => by simp at h2, fun k h2 => by simp at h2, ⟨by have := h.ab.1; dsimp only; omega, by have := h.ab.2; dsimp only; omega⟩, h.an⟩
end Go.Proofs.Ytakbhnfmimnbhaa.Rn
namespace Go.Proofs.Ytakbhnfmimnbhaa.Rn
set_option linter.unusedVariables false
set_option linter.unusedSimpArgs false

def Pos (l : List (Int × Int)) : Prop := ∀ q ∈ l, 0 < q.2
/-- What the page's loop does with one pair (out, whether the object was met). -/
def addS (o n : Int) (s : List (Int × Int) × Bool) (p : Int × Int) : List (Int × Int) × Bool :=
  let q : Int × Int := if s.2 = false ∧ o ≤ p.1 ∧ p.1 = o then (p.1, p.2 + n) else p
  let out := if s.2 = false ∧ o ≤ p.1 ∧ p.1 ≠ o ∧ 0 < n then s.1 ++ [(o, n)] else s.1
  (if 0 < q.2 then out ++ [q] else out, s.2 || decide (o ≤ p.1))
def addR (l : List (Int × Int)) (o n : Int) : List (Int × Int) :=
  let s := l.foldl (addS o n) ([], false)
  if s.2 = false ∧ 0 < n then s.1 ++ [(o, n)] else s.1
theorem add_done {o n : Int} : ∀ {l : List (Int × Int)} {out : List (Int × Int)}, Pos l → l.foldl (addS o n) (out, true) = (out ++ l, true)
  | [], out, _ => by simp
  | p :: l, out, h => by
    have hp : 0 < p.2 := h p List.mem_cons_self
    rw [List.foldl_cons]
    have e : addS o n (out, true) p = (out ++ [p], true) := by simp [addS, hp]
    rw [e, add_done (fun q hq => h q (List.mem_cons_of_mem _ hq)), List.append_assoc]
    rfl
theorem add_got {o n : Int} (hn : 0 < n) : ∀ {l : List (Int × Int)} {out : List (Int × Int)}, Pos l → (let s := l.foldl (addS o n) (out, false); if s.2 = false ∧ 0 < n then s.1 ++ [(o, n)] else s.1) = out ++ gotR l o n
  | [], out, _ => by simp [gotR, hn]
  | p :: l, out, h => by
    have hp : 0 < p.2 := h p List.mem_cons_self
    have hl : Pos l := fun q hq => h q (List.mem_cons_of_mem _ hq)
    rw [List.foldl_cons]
    unfold gotR
    by_cases c : p.1 < o
    · have e : addS o n (out, false) p = (out ++ [p], false) := by
        have c1 : ¬ o ≤ p.1 := by omega
        simp [addS, hp, c1]
      rw [e, if_pos c, add_got hn hl, List.append_assoc]
      rfl
    · rw [if_neg c]
      by_cases c2 : p.1 = o
      · have e : addS o n (out, false) p = (out ++ [(p.1, p.2 + n)], true) := by
          have c3 : 0 < p.2 + n := by omega
          simp [addS, c2, c3]
        rw [e, if_pos c2, add_done hl]
        simp
      · have e : addS o n (out, false) p = (out ++ [(o, n)] ++ [p], true) := by
          have c3 : o ≤ p.1 := by omega
          simp [addS, c2, c3, hn, hp]
        rw [e, if_neg c2, add_done hl]
        simp
theorem addR_got {l : List (Int × Int)} {o n : Int} (h : Pos l) (hn : 0 < n) : addR l o n = gotR l o n := by
  have := add_got (o := o) hn (out := []) h
  simpa [addR] using this
end Go.Proofs.Ytakbhnfmimnbhaa.Rn
namespace Go.Proofs.Ytakbhnfmimnbhaa.Rn
set_option linter.unusedVariables false
set_option linter.unusedSimpArgs false

theorem fnd_cons (p : Int × Int) (l : List (Int × Int)) (o : Int) : fnd (p :: l) o = if p.1 = o then some 0 else (fnd l o).map (· + 1) := by
  unfold fnd
  rw [List.findIdx?_cons]
  by_cases c : p.1 = o
  · rw [if_pos c, if_pos (by simpa using c)]
  · rw [if_neg c, if_neg (by simpa using c)]
def lostP : List (Int × Int) → Int → Int → List (Int × Int)
  | [], _, _ => []
  | p :: l, o, m => if p.1 < o then p :: lostP l o m else if p.1 = o then (if p.2 - m ≤ 0 then l else (p.1, p.2 - m) :: l) else p :: l
theorem lost_nil (o m : Int) : lostR [] o m = [] := rfl
theorem lost_cons (p : Int × Int) (l : List (Int × Int)) (o m : Int) (h : p.1 ≠ o) : lostR (p :: l) o m = p :: lostR l o m := by
  unfold lostR
  rw [fnd_cons, if_neg h]
  cases hf : fnd l o with
  | none => rfl
  | some i =>
    simp only [Option.map_some, List.getD_cons_succ, List.eraseIdx_cons_succ, List.set_cons_succ]
    split <;> rfl
theorem lost_head (p : Int × Int) (l : List (Int × Int)) (o m : Int) (h : p.1 = o) : lostR (p :: l) o m = if p.2 - m ≤ 0 then l else (p.1, p.2 - m) :: l := by
  unfold lostR
  rw [fnd_cons, if_pos h]
  simp only [List.getD_cons_zero, List.eraseIdx_cons_zero, List.set_cons_zero]
theorem lost_none : ∀ {l : List (Int × Int)} {o m : Int}, (∀ q ∈ l, q.1 ≠ o) → lostR l o m = l
  | [], o, m, _ => rfl
  | p :: l, o, m, h => by rw [lost_cons p l o m (h p List.mem_cons_self), lost_none (fun q hq => h q (List.mem_cons_of_mem _ hq))]
theorem lost_eq : ∀ {l : List (Int × Int)} {o m : Int}, SrtP l → lostR l o m = lostP l o m
  | [], o, m, _ => rfl
  | p :: l, o, m, h => by
    have h' := List.pairwise_cons.1 h
    unfold lostP
    by_cases c : p.1 < o
    · rw [if_pos c, lost_cons p l o m (by omega), lost_eq h'.2]
    · rw [if_neg c]
      by_cases c2 : p.1 = o
      · rw [if_pos c2, lost_head p l o m c2]
      · rw [if_neg c2, lost_cons p l o m c2, lost_none (fun q hq => by have := h'.1 q hq; omega)]
theorem add_lost {o m : Int} (hm : 0 < m) : ∀ {l : List (Int × Int)} {out : List (Int × Int)}, Pos l → (let s := l.foldl (addS o (-m)) (out, false); if s.2 = false ∧ 0 < -m then s.1 ++ [(o, -m)] else s.1) = out ++ lostP l o m
  | [], out, _ => by
    have c : ¬ 0 < -m := by omega
    simp [lostP, c]
    omega
  | p :: l, out, h => by
    have hp : 0 < p.2 := h p List.mem_cons_self
    have hl : Pos l := fun q hq => h q (List.mem_cons_of_mem _ hq)
    have cm : ¬ 0 < -m := by omega
    rw [List.foldl_cons]
    unfold lostP
    by_cases c : p.1 < o
    · have e : addS o (-m) (out, false) p = (out ++ [p], false) := by
        have c1 : ¬ o ≤ p.1 := by omega
        simp [addS, hp, c1]
      rw [e, if_pos c, add_lost hm hl, List.append_assoc]
      rfl
    · rw [if_neg c]
      by_cases c2 : p.1 = o
      · by_cases c3 : p.2 - m ≤ 0
        · have e : addS o (-m) (out, false) p = (out, true) := by
            have c4 : ¬ 0 < p.2 + -m := by omega
            simp [addS, c2, c4, cm]
          rw [e, if_pos c2, if_pos c3, add_done hl]
          simp
        · have e : addS o (-m) (out, false) p = (out ++ [(p.1, p.2 - m)], true) := by
            have c4 : 0 < p.2 + -m := by omega
            have c5 : p.2 + -m = p.2 - m := by omega
            simp [addS, c2, c4, c5, cm]
            omega
          rw [e, if_pos c2, if_neg c3, add_done hl]
          simp
      · have e : addS o (-m) (out, false) p = (out ++ [p], true) := by
          have c3 : o ≤ p.1 := by omega
          simp [addS, c2, c3, cm, hp]
          omega
        rw [e, if_neg c2, add_done hl]
        simp
theorem addR_lost {l : List (Int × Int)} {o m : Int} (h : Pos l) (hs : SrtP l) (hm : 0 < m) : addR l o (-m) = lostR l o m := by
  have := add_lost (o := o) hm (out := []) h
  rw [lost_eq hs]
  simpa [addR] using this
theorem got_pos {l : List (Int × Int)} {o n : Int} (h : Pos l) (hn : 0 < n) : Pos (gotR l o n) := fun q hq => by
  rcases got_mem hq with e | e | ⟨r, hr, _, e⟩
  · rw [e]; exact hn
  · exact h q e
  · have := h r hr
    rw [e]
    show 0 < r.2 + n
    omega
theorem lost_pos {l : List (Int × Int)} {o n : Int} (h : Pos l) : Pos (lostR l o n) := fun q hq => by
  rcases lost_mem hq with e | ⟨_, _, _, _, e⟩
  · exact h q e
  · exact e
end Go.Proofs.Ytakbhnfmimnbhaa.Rn
