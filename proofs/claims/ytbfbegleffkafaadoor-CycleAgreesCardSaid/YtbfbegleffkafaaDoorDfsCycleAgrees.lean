/- The walk through a graph marks just those from which a ring can be reached; the ring that is told. Plain law over PCycleAgrees.Cy. Conditions: none. -/
import Derived.Test.YtbfbegleffkafaaDoorGr
import Derived.Test.YtbfbegleffkafaaDoorPCycleAgreesx3
import Derived.Test.YtbfbegleffkafaaDoorPCycleAgreesx4

namespace Go.Proofs.YtbfbegleffkafaaDoor.Dfs
open Go.Proofs.YtbfbegleffkafaaDoor.PCycleAgrees Go.Proofs.YtbfbegleffkafaaDoor.PCycleAgrees.Cy
open Gr (sc Plus Bad Lt)
set_option linter.unusedVariables false

structure Inv (G : List (List Nat)) (s : St) : Prop where
  b : ∀ u, s.b.testBit u = true → Bad G u
  d : ∀ u, s.d.testBit u = true → Bad G u → s.b.testBit u = true
section
variable {G : List (List Nat)}
theorem loop_bad {v : Nat → St → St × Bool} {t o : Nat} (ht : t < 64)
    (hv : ∀ u s, u ∈ sc G t → s.ok → Inv G s → s.o = o → (v u s).1.ok ∧ (v u s).1.o = o ∧ Inv G (v u s).1 ∧ ((v u s).2 = true ↔ Bad G u) ∧ ∀ x, s.d.testBit x = true → (v u s).1.d.testBit x = true) :
    ∀ (l : List Nat) (s : St), (∀ u ∈ l, u ∈ sc G t) → s.ok → Inv G s → s.o = o → Inv G (loop v t l s) ∧ ((∃ u ∈ l, Bad G u) → (loop v t l s).b.testBit t = true) ∧ ∀ x, s.d.testBit x = true → (loop v t l s).d.testBit x = true := by
  intro l
  induction l with
  | nil => intro s _ _ hi _; exact ⟨hi, fun ⟨u, hu, _⟩ => (List.not_mem_nil hu).elim, fun _ h => h⟩
  | cons u l ih =>
    intro s hl hs hi ho
    obtain ⟨h1, h2, h3, h4, h5⟩ := hv u s (hl u (by simp)) hs hi ho
    simp only [loop]
    by_cases c : (v u s).2 = true
    · rw [if_pos c]
      have hb : Bad G t := Bad.back (hl u (by simp)) (h4.1 c)
      refine ⟨⟨fun x hx => ?_, fun x hx hbx => ?_⟩, fun _ => ?_, h5⟩
      · have hx' : ((v u s).1.b ||| 2 ^ t).testBit x = true := hx
        rw [Bt.tb_or, Bt.tb_pow, Bool.or_eq_true] at hx'
        rcases hx' with q | q
        · exact h3.b x q
        · have : t = x := by simpa using q
          rw [← this]; exact hb
      · show ((v u s).1.b ||| 2 ^ t).testBit x = true
        rw [Bt.tb_or, h3.d x hx hbx]
        rfl
      · show ((v u s).1.b ||| 2 ^ t).testBit t = true
        rw [Bt.tb_or, Bt.tb_pow]
        simp
    · rw [if_neg c]
      obtain ⟨k1, k2, k3⟩ := ih (v u s).1 (fun x hx => hl x (by simp [hx])) h1 h3 h2
      refine ⟨k1, fun ⟨x, hx, hbx⟩ => ?_, fun x hx => k3 x (h5 x hx)⟩
      rcases List.mem_cons.1 hx with rfl | hx
      · exact absurd (h4.2 hbx) c
      · exact k2 ⟨x, hx, hbx⟩
theorem visit_bad (hG : In G) : ∀ (k t : Nat) (s : St), t < 64 → left s.o < k → s.ok → Inv G s → (∀ u, s.o.testBit u = true → Plus G u t) →
    Inv G (visit G k t s).1 ∧ ((visit G k t s).2 = true ↔ Bad G t) ∧ (∀ u, s.d.testBit u = true → (visit G k t s).1.d.testBit u = true) ∧ (s.o.testBit t = true ∨ (visit G k t s).1.d.testBit t = true) := by
  intro k
  induction k with
  | zero => intro t s _ h; omega
  | succ k ih =>
    intro t s ht hk hs hi hp
    simp only [visit]
    by_cases c1 : s.o.testBit t = true
    · rw [if_pos c1]
      exact ⟨hi, ⟨fun _ => Bad.of_ring (hp t c1), fun _ => rfl⟩, fun _ h => h, .inl c1⟩
    · rw [if_neg c1]
      by_cases c2 : s.d.testBit t = true
      · rw [if_pos c2]
        exact ⟨hi, ⟨fun h => hi.b t h, fun h => hi.d t c2 h⟩, fun _ h => h, .inr c2⟩
      · rw [if_neg c2]
        have h64 : ∀ u ∈ sc G t, u < 64 := hG.at t
        have hof : s.o.testBit t = false := by simpa using c1
        have hok1 : ({ s with o := s.o ||| 2 ^ t } : St).ok := ⟨Bt.lt_or hs.o (Bt.lt_pow ht), hs.d, hs.b⟩
        have hl1 := left_with ht hof
        have hlp := loop_ok (v := visit G k) ht (fun u s hu hs => visit_ok hG k u s hu hs) (sc G t) { s with o := s.o ||| 2 ^ t } h64 hok1
        obtain ⟨k1, k2, k3⟩ := loop_bad (G := G) (v := visit G k) (t := t) (o := s.o ||| 2 ^ t) ht (fun u s' hu hs' hi' ho' => by
          have q := visit_ok hG k u s' (h64 u hu) hs'
          obtain ⟨q1, q2, q3, _⟩ := ih u s' (h64 u hu) (by rw [ho']; omega) hs' hi' (fun x hx => by
            rw [ho', Bt.tb_or, Bt.tb_pow, Bool.or_eq_true] at hx
            rcases hx with q | q
            · exact (hp x q).snoc hu
            · have : t = x := by simpa using q
              rw [← this]; exact .one hu)
          exact ⟨q.1, q.2.trans ho', q1, q2, q3⟩) (sc G t) { s with o := s.o ||| 2 ^ t } (fun _ h => h) hok1 ⟨hi.b, hi.d⟩ rfl
        have kb : ∀ h : Bad G t, (loop (visit G k) t (sc G t) { s with o := s.o ||| 2 ^ t }).b.testBit t = true := fun h => by
          obtain ⟨u, hu, hb⟩ := h.next
          exact k2 ⟨u, hu, hb⟩
        show Inv G { loop (visit G k) t (sc G t) { s with o := s.o ||| 2 ^ t } with o := Bt.sub (loop (visit G k) t (sc G t) { s with o := s.o ||| 2 ^ t }).o (2 ^ t), d := (loop (visit G k) t (sc G t) { s with o := s.o ||| 2 ^ t }).d ||| 2 ^ t } ∧ ((loop (visit G k) t (sc G t) { s with o := s.o ||| 2 ^ t }).b.testBit t = true ↔ Bad G t) ∧ (∀ u, s.d.testBit u = true → ((loop (visit G k) t (sc G t) { s with o := s.o ||| 2 ^ t }).d ||| 2 ^ t).testBit u = true) ∧ (s.o.testBit t = true ∨ ((loop (visit G k) t (sc G t) { s with o := s.o ||| 2 ^ t }).d ||| 2 ^ t).testBit t = true)
        generalize loop (visit G k) t (sc G t) { s with o := s.o ||| 2 ^ t } = s2 at *
        refine ⟨⟨k1.b, fun u hu hb => ?_⟩, ⟨fun h => k1.b t h, kb⟩, fun u hu => ?_, .inr ?_⟩
        · have hu' : (s2.d ||| 2 ^ t).testBit u = true := hu
          rw [Bt.tb_or, Bt.tb_pow, Bool.or_eq_true] at hu'
          rcases hu' with q | q
          · exact k1.d u q hb
          · have e : t = u := by simpa using q
            subst e
            exact kb hb
        · rw [Bt.tb_or, k3 u hu]
          rfl
        · rw [Bt.tb_or, Bt.tb_pow]
          simp
theorem upto_bad (hG : In G) : ∀ j, j ≤ 64 → Inv G (upto G j) ∧ ∀ t, t < j → (upto G j).d.testBit t = true := by
  intro j
  induction j with
  | zero =>
    intro _
    refine ⟨⟨fun u hu => ?_, fun u hu => ?_⟩, fun t ht => by omega⟩
    · have h : (0 : Nat).testBit u = true := hu
      rw [Bt.tb_zero] at h; cases h
    · have h : (0 : Nat).testBit u = true := hu
      rw [Bt.tb_zero] at h; cases h
  | succ j ih =>
    intro hj
    obtain ⟨h1, h2⟩ := ih (by omega)
    obtain ⟨h3, h4⟩ := upto_ok hG j (by omega)
    rw [upto_succ]
    obtain ⟨q1, q2, q3, q4⟩ := visit_bad hG 65 j (upto G j) (by omega) (Nat.lt_succ_of_le (left_le _)) h3 h1 (fun u hu => by rw [h4, Bt.tb_zero] at hu; cases hu)
    refine ⟨q1, fun t ht => ?_⟩
    rcases Nat.lt_or_ge t j with q | q
    · exact q3 t (h2 t q)
    · obtain rfl : t = j := by omega
      rcases q4 with q | q
      · rw [h4, Bt.tb_zero] at q; cases q
      · exact q
/-- Those that are doomed. -/
theorem doomed_iff (hG : In G) (hn : G.length ≤ 64) (t : Nat) : (upto G G.length).b.testBit t = true ↔ Bad G t := by
  obtain ⟨h1, h2⟩ := upto_bad hG G.length hn
  exact ⟨fun h => h1.b t h, fun h => h1.d t (h2 t h.lt) h⟩
end
end Go.Proofs.YtbfbegleffkafaaDoor.Dfs
