/- Who waits for whom, as lists of numbers: rings, and from where they can be reached. Plain law, no program in sight. Conditions: none. -/
import Derived.Test.YtjcjhmnfknenlaaDoorBt
namespace Go.Proofs.YtjcjhmnfknenlaaDoor.Gr

/-- f comes to v, whatever the bound on rounds, if only great enough. -/
def Evt {α : Type} (f : Nat → Option α) (v : α) : Prop := ∃ K, ∀ k, K ≤ k → f k = some v
theorem Evt.const {α : Type} {f : Nat → Option α} {v : α} (h : ∀ k, f k = some v) : Evt f v := ⟨0, fun k _ => h k⟩
theorem Evt.step {α : Type} {f g : Nat → Option α} {v : α} (h : ∀ k, f (k + 1) = g k) (hg : Evt g v) : Evt f v := by
  obtain ⟨K, hK⟩ := hg
  refine ⟨K + 1, fun k hk => ?_⟩
  obtain ⟨j, rfl⟩ : ∃ j, k = j + 1 := ⟨k - 1, by omega⟩
  rw [h j]
  exact hK j (by omega)
theorem Evt.of {α : Type} {f g : Nat → Option α} {v : α} (h : ∀ k, f k = g k) (hg : Evt g v) : Evt f v := by
  obtain ⟨K, hK⟩ := hg
  exact ⟨K, fun k hk => (h k).trans (hK k hk)⟩
theorem Evt.bind {α β : Type} {f : Nat → Option α} {g : Nat → α → Option β} {a : α} {b : β} (hf : Evt f a) (hg : Evt (fun k => g k a) b) : Evt (fun k => (f k).bind (g k)) b := by
  obtain ⟨K, hK⟩ := hf
  obtain ⟨L, hL⟩ := hg
  refine ⟨K + L, fun k hk => ?_⟩
  show (f k).bind (g k) = some b
  rw [hK k (by omega), Option.bind_some]
  exact hL k (by omega)
theorem Evt.up {α : Type} {f : Nat → Option α} {v : α} (K : Nat) (h : ∀ k, K ≤ k → f k = some v) : Evt f v := ⟨K, h⟩
theorem Evt.ite {α : Type} {c : Bool} {f g : Nat → Option α} {v : α} (hf : c = true → Evt f v) (hg : c = false → Evt g v) : Evt (fun k => if c = true then f k else g k) v := by
  cases c with
  | true => exact Evt.of (fun k => if_pos rfl) (hf rfl)
  | false => exact Evt.of (fun k => if_neg (by decide)) (hg rfl)

/-! ### counting -/
theorem countP_lt {p q : Nat → Bool} {l : List Nat} (h : ∀ x ∈ l, p x = true → q x = true) {t : Nat} (h1 : q t = true) (h2 : p t = false) : t ∈ l → l.countP p < l.countP q := by
  induction l with
  | nil => intro h; cases h
  | cons a l ih =>
    intro hm
    have hle : l.countP p ≤ l.countP q := List.countP_mono_left (fun x hx => h x (by simp [hx]))
    simp only [List.countP_cons]
    by_cases e : a = t
    · subst e
      rw [h1, h2]
      simp
      omega
    · have hm' : t ∈ l := by
        rcases List.mem_cons.1 hm with q | q
        · exact absurd q.symm e
        · exact q
      have h3 := ih (fun x hx => h x (by simp [hx])) hm'
      have h4 := h a (by simp)
      cases c1 : p a
      · cases c2 : q a <;> simp <;> omega
      · rw [h4 c1]
        simp
        omega

/-! ### ways -/
section
variable (G : List (List Nat))
def sc (t : Nat) : List Nat := G.getD t []
/-- One step or more. -/
inductive Plus : Nat → Nat → Prop
  | one {u v : Nat} : v ∈ sc G u → Plus u v
  | more {u v w : Nat} : v ∈ sc G u → Plus v w → Plus u w
/-- A ring can be reached. -/
def Bad (t : Nat) : Prop := ∃ c, (t = c ∨ Plus G t c) ∧ Plus G c c
end
section
variable {G : List (List Nat)} {u v w t : Nat}
theorem Plus.snoc (h : Plus G u v) (hw : w ∈ sc G v) : Plus G u w := by
  induction h with
  | one h => exact .more h (.one hw)
  | more h _ ih => exact .more h (ih hw)
theorem Plus.trans (h : Plus G u v) (k : Plus G v w) : Plus G u w := by
  induction h with
  | one h => exact .more h k
  | more h _ ih => exact .more h (ih k)
theorem Bad.of_ring (h : Plus G t t) : Bad G t := ⟨t, .inl rfl, h⟩
theorem Bad.back (hu : u ∈ sc G t) (h : Bad G u) : Bad G t := by
  obtain ⟨c, h1, h2⟩ := h
  refine ⟨c, .inr ?_, h2⟩
  rcases h1 with rfl | h1
  · exact .one hu
  · exact .more hu h1
theorem Bad.next (h : Bad G t) : ∃ u ∈ sc G t, Bad G u := by
  obtain ⟨c, h1, h2⟩ := h
  have go : ∀ {a : Nat}, Plus G a c → ∃ u ∈ sc G a, Bad G u := by
    intro a ha
    cases ha with
    | one h => exact ⟨c, h, c, .inl rfl, h2⟩
    | more h k => exact ⟨_, h, c, .inr k, h2⟩
  rcases h1 with rfl | h1
  · exact go h2
  · exact go h1
theorem Plus.lt (h : Plus G u v) : u < G.length := by
  have go : ∀ {a b : Nat}, b ∈ sc G a → a < G.length := by
    intro a b h
    unfold sc at h
    rw [List.getD_eq_getElem?_getD] at h
    rcases Nat.lt_or_ge a G.length with q | q
    · exact q
    · rw [List.getElem?_eq_none q] at h; cases h
  cases h with
  | one h => exact go h
  | more h _ => exact go h
theorem Bad.lt (h : Bad G t) : t < G.length := by
  obtain ⟨c, h1, h2⟩ := h
  rcases h1 with rfl | h1
  · exact h2.lt
  · exact h1.lt
/-- All steps stay among the nodes. -/
def Lt (G : List (List Nat)) : Prop := ∀ t u, u ∈ sc G t → u < G.length
theorem Plus.lt2 (hG : Lt G) (h : Plus G u v) : v < G.length := by
  induction h with
  | one h => exact hG _ _ h
  | more _ _ ih => exact ih
end

/-! ### all that can be reached, round by round -/
section
variable (G : List (List Nat))
/-- A set with some more. -/
def adds (s : Nat) (l : List Nat) : Nat := l.foldl (fun s u => s ||| 2 ^ u) s
/-- .. with all that some of those lead to. -/
def exps (s : Nat) (l : List Nat) : Nat := l.foldl (fun s t => adds s (sc G t)) s
def low (m t : Nat) : List Nat := (List.range t).filter fun i => m.testBit i
/-- One round. -/
def rnd (s : Nat) : Nat := exps G s (low s 64)
def rnds : Nat → Nat → Nat
  | 0, s => s
  | k + 1, s => rnds k (rnd G s)
def reach (t : Nat) : Nat := rnds G G.length (adds 0 (sc G t))
end
theorem adds_lt {l : List Nat} (hl : ∀ u ∈ l, u < 64) : ∀ {s : Nat}, s < Bt.top → adds s l < Bt.top := by
  induction l with
  | nil => intro s h; exact h
  | cons a l ih => intro s h; exact ih (fun u hu => hl u (by simp [hu])) (Bt.lt_or h (Bt.lt_pow (hl a (by simp))))
theorem tb_adds (l : List Nat) : ∀ (s i : Nat), (adds s l).testBit i = (s.testBit i || l.contains i) := by
  induction l with
  | nil => intro s i; simp [adds]
  | cons a l ih =>
    intro s i
    have := ih (s ||| 2 ^ a) i
    unfold adds at this ⊢
    rw [List.foldl_cons, this, Bt.tb_or, Bt.tb_pow]
    simp only [List.contains_cons]
    have e : decide (a = i) = (i == a) := by
      by_cases h : a = i
      · simp [h]
      · simp [h, Ne.symm h]
    rw [e, Bool.or_assoc]
section
variable {G : List (List Nat)}
theorem exps_lt (hG : ∀ t u, u ∈ sc G t → u < 64) (l : List Nat) : ∀ {s : Nat}, s < Bt.top → exps G s l < Bt.top := by
  induction l with
  | nil => intro s h; exact h
  | cons a l ih => intro s h; exact ih (adds_lt (hG a) h)
theorem tb_exps (l : List Nat) : ∀ (s i : Nat), (exps G s l).testBit i = true ↔ s.testBit i = true ∨ ∃ t ∈ l, i ∈ sc G t := by
  induction l with
  | nil => intro s i; simp [exps]
  | cons a l ih =>
    intro s i
    have := ih (adds s (sc G a)) i
    unfold exps at this ⊢
    rw [List.foldl_cons, this, tb_adds]
    simp only [Bool.or_eq_true, List.contains_eq_mem, decide_eq_true_eq, List.mem_cons]
    constructor
    · rintro ((h | h) | ⟨t, ht, h⟩)
      · exact .inl h
      · exact .inr ⟨a, .inl rfl, h⟩
      · exact .inr ⟨t, .inr ht, h⟩
    · rintro (h | ⟨t, rfl | ht, h⟩)
      · exact .inl (.inl h)
      · exact .inl (.inr h)
      · exact .inr ⟨t, ht, h⟩
theorem mem_low {m t i : Nat} : i ∈ low m t ↔ i < t ∧ m.testBit i = true := by simp [low]
theorem tb_rnd {s : Nat} (hs : s < Bt.top) (i : Nat) : (rnd G s).testBit i = true ↔ s.testBit i = true ∨ ∃ t, s.testBit t = true ∧ i ∈ sc G t := by
  unfold rnd
  rw [tb_exps]
  constructor
  · rintro (h | ⟨t, ht, h⟩)
    · exact .inl h
    · exact .inr ⟨t, (mem_low.1 ht).2, h⟩
  · rintro (h | ⟨t, ht, h⟩)
    · exact .inl h
    · refine .inr ⟨t, mem_low.2 ⟨?_, ht⟩, h⟩
      rcases Nat.lt_or_ge t 64 with q | q
      · exact q
      · rw [Bt.tb_high hs q] at ht; cases ht
/-- What is in it leads to nothing else. -/
def Cl (G : List (List Nat)) (s : Nat) : Prop := ∀ t u, s.testBit t = true → u ∈ sc G t → s.testBit u = true
def miss (n s : Nat) : Nat := (List.range n).countP fun i => !s.testBit i
theorem rnd_cl {s : Nat} (hs : s < Bt.top) (h : Cl G s) (h64 : ∀ t u, u ∈ sc G t → u < 64) : rnd G s = s := by
  apply Bt.ext (show rnd G s < Bt.top from exps_lt h64 _ hs) hs
  intro i _
  rw [Bool.eq_iff_iff, tb_rnd hs]
  constructor
  · rintro (h1 | ⟨t, ht, h1⟩)
    · exact h1
    · exact h t i ht h1
  · exact .inl
theorem rnds_cl {s : Nat} (hs : s < Bt.top) (h : Cl G s) (h64 : ∀ t u, u ∈ sc G t → u < 64) : ∀ k, rnds G k s = s := by
  intro k
  induction k with
  | zero => rfl
  | succ k ih => simp only [rnds]; rw [rnd_cl hs h h64]; exact ih
theorem rnds_facts (hG : Lt G) (h64 : ∀ t u, u ∈ sc G t → u < 64) : ∀ (k s : Nat), s < Bt.top → miss G.length s ≤ k → rnds G k s < Bt.top ∧ Cl G (rnds G k s) ∧ (∀ i, s.testBit i = true → (rnds G k s).testBit i = true) ∧ ∀ i, (rnds G k s).testBit i = true → s.testBit i = true ∨ ∃ t, s.testBit t = true ∧ Plus G t i := by
  intro k
  induction k with
  | zero =>
    intro s hs hm
    refine ⟨hs, fun t u ht hu => ?_, fun _ h => h, fun _ h => .inl h⟩
    have h0 : miss G.length s = 0 := by omega
    unfold miss at h0
    rw [List.countP_eq_zero] at h0
    have h1 := h0 u (by simpa using hG t u hu)
    show s.testBit u = true
    simpa using h1
  | succ k ih =>
    intro s hs hm
    by_cases hc : Cl G s
    · rw [rnds_cl hs hc h64]
      exact ⟨hs, hc, fun _ h => h, fun _ h => .inl h⟩
    · have hlt : miss G.length (rnd G s) < miss G.length s := by
        have : ∃ t u, s.testBit t = true ∧ u ∈ sc G t ∧ s.testBit u = false := by
          refine Classical.byContradiction fun hn => hc fun t u ht hu => ?_
          cases e : s.testBit u
          · exact absurd ⟨t, u, ht, hu, e⟩ hn
          · rfl
        obtain ⟨t, u, ht, hu, he⟩ := this
        unfold miss
        refine countP_lt (t := u) (fun x _ hx => ?_) (by rw [he]; rfl) ?_ (by simpa using hG t u hu)
        · cases e : s.testBit x
          · rfl
          · have := (tb_rnd (G := G) hs x).2 (.inl e)
            rw [this] at hx
            cases hx
        · rw [(tb_rnd (G := G) hs u).2 (.inr ⟨t, ht, hu⟩)]
          rfl
      obtain ⟨h1, h2, h3, h4⟩ := ih (rnd G s) (exps_lt h64 _ hs) (by omega)
      refine ⟨h1, h2, fun i hi => h3 i ((tb_rnd hs i).2 (.inl hi)), fun i hi => ?_⟩
      rcases h4 i hi with q | ⟨t, ht, q⟩
      · rcases (tb_rnd hs i).1 q with q | ⟨t, ht, q⟩
        · exact .inl q
        · exact .inr ⟨t, ht, .one q⟩
      · rcases (tb_rnd hs t).1 ht with ht | ⟨t', ht', q'⟩
        · exact .inr ⟨t, ht, q⟩
        · exact .inr ⟨t', ht', .more q' q⟩
theorem miss_le (n s : Nat) : miss n s ≤ n := by
  unfold miss
  exact Nat.le_trans List.countP_le_length (by simp)
theorem reach_lt (hG : Lt G) (h64 : ∀ t u, u ∈ sc G t → u < 64) (t : Nat) : reach G t < Bt.top :=
  (rnds_facts hG h64 G.length _ (adds_lt (h64 t) (by decide)) (miss_le _ _)).1
theorem tb_reach (hG : Lt G) (h64 : ∀ t u, u ∈ sc G t → u < 64) (t i : Nat) : (reach G t).testBit i = true ↔ Plus G t i := by
  obtain ⟨_, h2, h3, h4⟩ := rnds_facts hG h64 G.length (adds 0 (sc G t)) (adds_lt (h64 t) (by decide)) (miss_le _ _)
  have h0 : ∀ j, (adds 0 (sc G t)).testBit j = true ↔ j ∈ sc G t := by
    intro j
    rw [tb_adds]
    simp
  constructor
  · intro h
    rcases h4 i h with q | ⟨u, hu, q⟩
    · exact .one ((h0 i).1 q)
    · exact .more ((h0 u).1 hu) q
  · intro h
    have go : ∀ {a b : Nat}, Plus G a b → (∀ c, c ∈ sc G a → (reach G t).testBit c = true) → (reach G t).testBit b = true := by
      intro a b hab
      induction hab with
      | one h => intro hc; exact hc _ h
      | more h _ ih => intro hc; exact ih (fun c hcc => h2 _ c (hc _ h) hcc)
    exact go h (fun c hc => h3 c ((h0 c).2 hc))
end
end Go.Proofs.YtjcjhmnfknenlaaDoor.Gr
