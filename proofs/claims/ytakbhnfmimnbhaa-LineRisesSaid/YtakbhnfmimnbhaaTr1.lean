/- Timers, told by a plain list: the calls. Conditions: none. -/
import Derived.Test.YtakbhnfmimnbhaaTh3
namespace Go.Proofs.Ytakbhnfmimnbhaa.Tm
open Go.RowKit Go.Proofs.YtakbhnfmimnbhaaW.PrintWords Go.Proofs.YtakbhnfmimnbhaaW.PrintLast
set_option linter.unusedVariables false
set_option linter.unusedSimpArgs false
variable {sh : Shp}

/-- Block g holds timers that tell m; S: their blocks. -/
def TR (sh : Shp) (W : World) (base g n : Nat) (m : List (Int × Int)) (S : Nat → Prop) : Prop := ∃ xs p, TT sh W base g n xs p S ∧ Rel xs p m ∧ Wx xs
abbrev okId (id : Int) : Prop := (Lit.int .i64 id).wf = true
theorem Wx.drop {xs : List (Int × Int)} {p : Int → Option Int} (hw : Wx xs) (hp : PB xs p) (id : Int) : Wx (dropF id xs p).1 := by
  unfold dropF
  cases hk : p id with
  | none => exact hw
  | some k =>
    obtain ⟨j, rfl, hj⟩ := hp id k hk
    exact hw.cutF hj
theorem dropF_len {xs : List (Int × Int)} {p : Int → Option Int} (hp : PB xs p) (id : Int) : (dropF id xs p).1.length ≤ xs.length := by
  unfold dropF
  cases hk : p id with
  | none => exact Nat.le_refl _
  | some k =>
    obtain ⟨j, rfl, hj⟩ := hp id k hk
    show (cutF j xs p).1.length ≤ _
    rw [cutF_len hj]
    omega
theorem Wx.setF {xs : List (Int × Int)} {p : Int → Option Int} (hw : Wx xs) (hp : PB xs p) {id at_ : Int} (hid : okId id) : Wx (Tm.setF id at_ xs p).1 :=
  Wx.upF _ _ _ _ _ (by simp) ((hw.drop hp id).snoc hid) hid
theorem Wx.due : ∀ k now (xs : List (Int × Int)) p acc, Wx xs → Wx (dueF k now xs p acc).2.1
  | 0, now, xs, p, acc, h => h
  | k + 1, now, xs, p, acc, h => by
    simp only [dueF]
    split
    · rename_i c
      exact Wx.due k now _ _ _ (h.cutF c.1)
    · exact h
section
variable {W W' : World} {base g n : Nat} {m : List (Int × Int)} {S S2 : Nat → Prop}
theorem TR.kept (h : TR sh W base g n m S) (hc : Chg S2 W W') (hs : ∀ k, S k → ¬ S2 k) : TR sh W' base g n m S := by
  obtain ⟨xs, p, h1, h2, h3⟩ := h
  exact ⟨xs, p, h1.kept hc hs, h2, h3⟩
theorem TR.below (h : TR sh W base g n m S) (hb : Below W.heap.size W W') : TR sh W' base g n m S := h.kept (S2 := fun _ => False) (.of_below hb) (fun _ _ q => q)
theorem TR.lt (h : TR sh W base g n m S) : ∀ k, S k → k < W.heap.size := by obtain ⟨xs, p, h1, h2, h3⟩ := h; exact h1.lt
theorem TR.base_le (h : TR sh W base g n m S) : ∀ k, S k → base ≤ k := by obtain ⟨xs, p, h1, h2, h3⟩ := h; exact h1.base_le
theorem TR.mono {n' : Nat} (h : TR sh W base g n m S) (hn : n ≤ n') : TR sh W base g n' m S := by
  obtain ⟨xs, p, h1, h2, h3⟩ := h
  exact ⟨xs, p, h1.mono hn, h2, h3⟩
theorem TR.new (h : W.heap[g]? = some (.cells (sh.C (.slice none 0 0) (.map none)) sh.ty (0, 0))) (hb : base ≤ g) : TR sh W base g 0 [] (S0 g (.slice none 0 0)) :=
  ⟨[], fun _ => none, .inl ⟨_, ⟨h, Kd.R_nil _ _ _ _ _, hb⟩, rfl, rfl, rfl⟩, Rel.nil, fun j => by rw [show ([] : List (Int × Int)).getD j (0, 0) = (0, 0) from by simp]; decide⟩
theorem set_r (h : TR sh W base g n m S) {id at_ : Int} (hid : okId id) (hm : m.length ≤ 200) (hn : n ≤ 1000000000) (hb : base ≤ W.heap.size) :
    Calls Try.prog 54 #[.pointer (some ⟨g, sh.o, none⟩), .int .i64 id, .int .i64 at_] W fun e w' => e = .returned (.tuple #[]) ∧ Aside0 (∃ S', TR sh w' base g (n + 1000000) (rSet m id at_) S' ∧ ∀ k, S' k → S k ∨ W.heap.size ≤ k) ∧ Chg S W w' := by
  obtain ⟨xs, p, h1, h2, h3⟩ := h
  have hl := h2.len
  refine (set_any h1 h3 h2.pb hid (by omega) (h3.drop h2.pb id) (dropF_len h2.pb id) hb).mono fun e w' ⟨he, ⟨⟨S', t1, t2⟩⟩, hc⟩ => ⟨he, ⟨⟨S', ⟨_, _, t1.mono (by omega), h2.set_ id at_, h3.setF h2.pb hid⟩, t2⟩⟩, hc⟩
def has (m : List (Int × Int)) (id : Int) : Bool := m.any (fun z => decide (z.2 = id))
theorem Rel.has {xs : List (Int × Int)} {p : Int → Option Int} (h : Rel xs p m) (id : Int) : (p id).isSome = Tm.has m id := by
  unfold Tm.has
  cases hk : p id with
  | none =>
    symm
    rw [show (none : Option Int).isSome = false from rfl, List.any_eq_false]
    intro z hz
    simpa using h.none_ hk z hz
  | some k =>
    obtain ⟨j, _, _, h3, h4⟩ := h.some_ hk
    symm
    rw [show (some k).isSome = true from rfl, List.any_eq_true]
    exact ⟨_, h4, by simpa using h3⟩
theorem drop_r (h : TR sh W base g n m S) {id : Int} (hid : okId id) (hm : m.length ≤ 200) (hn : n ≤ 1000000000) :
    Calls Try.prog 56 #[.pointer (some ⟨g, sh.o, none⟩), .int .i64 id] W fun e w' => e = .returned (.bool (has m id)) ∧ Aside0 (∃ S', TR sh w' base g (n + 1000000) (rDrop m id) S' ∧ ∀ k, S' k → S k ∨ W.heap.size ≤ k) ∧ Chg S W w' := by
  obtain ⟨xs, p, h1, h2, h3⟩ := h
  have hl := h2.len
  rw [← h2.has id]
  refine (drop_any h1 h3 h2.pb hid (by omega)).mono fun e w' ⟨he, ⟨⟨S', t1, t2⟩⟩, hc⟩ => ⟨he, ⟨⟨S', ⟨_, _, t1.mono (by omega), h2.drop id, h3.drop h2.pb id⟩, t2⟩⟩, hc⟩
theorem len_r (h : TR sh W base g n m S) : Calls Try.prog 95 #[.pointer (some ⟨g, sh.o, none⟩)] W fun e w' => e = .returned (.int .i64 (m.length : Int)) ∧ w' = W := by
  obtain ⟨xs, p, h1, h2, h3⟩ := h
  rw [← h2.len]
  exact len_any h1
/-- Who is first, told by the list. -/
def fst_ (m : List (Int × Int)) : Int × Int := E m (rFirst m).toNat
theorem first_r (h : TR sh W base g n m S) : Calls Try.prog 79 #[.pointer (some ⟨g, sh.o, none⟩)] W fun e w' => e = .returned (.tuple #[.int .i64 (if 0 < m.length then (fst_ m).2 else 0), .int .i64 (if 0 < m.length then (fst_ m).1 else 0), .bool (decide (0 < m.length))]) ∧ Below W.heap.size W w' := by
  obtain ⟨xs, p, h1, h2, h3⟩ := h
  have hl := h2.len
  by_cases c : 0 < m.length
  · rw [if_pos c, if_pos c, decide_eq_true c]
    unfold fst_
    rw [h2.first_at c]
    exact first_some h1 (by omega)
  · rw [if_neg c, if_neg c, decide_eq_false c]
    obtain rfl : xs = [] := List.eq_nil_of_length_eq_zero (by omega)
    exact first_nil h1
theorem due_r (h : TR sh W base g n m S) (now : Int) (hm : m.length ≤ 200) (hn : n ≤ 1000000000) :
    Calls Try.prog 74 #[.pointer (some ⟨g, sh.o, none⟩), .int .i64 now] W fun e w' => ∃ v, e = .returned v ∧ Aside0 (Kd.R (Kd.int .i64) 3 w' W.heap.size (fun k => W.heap.size ≤ k) v (rDue m.length now m []).1) ∧
      Aside0 (∃ S', TR sh w' base g (n + 1000000) (rDue m.length now m []).2 S' ∧ ∀ k, S' k → S k ∨ W.heap.size ≤ k) ∧ Chg S W w' := by
  obtain ⟨xs, p, h1, h2, h3⟩ := h
  have hl := h2.len
  obtain ⟨r1, r2⟩ := Rel.due m.length now xs m p [] h2
  have hw := Wx.due m.length now xs p [] h3
  rw [← r1]
  rw [← hl] at r1 r2 hw ⊢
  exact (due_any h1 h3 now (by omega) (by omega)).mono fun e w' ⟨v, he, hr, ⟨⟨S', t1, t2⟩⟩, hc⟩ => ⟨v, he, hr, ⟨⟨S', ⟨_, _, t1.mono (by omega), r2, hw⟩, fun k hk => .inl (t2 k hk)⟩⟩, hc⟩
end
end Go.Proofs.Ytakbhnfmimnbhaa.Tm
