/- Rights as the page has them, and as the map tells them. Conditions: none. -/
import Derived.Test.YtjcjhmnfknenlaaDoorRu2
namespace Go.Proofs.YtjcjhmnfknenlaaDoor.Rt
open Go.RowKit Go.Proofs.YtjcjhmnfknenlaaDoor.PRightNil Go.Proofs.YtjcjhmnfknenlaaDoorW.PrintWords Go.Proofs.YtjcjhmnfknenlaaDoorW.PrintLast
set_option linter.unusedVariables false
set_option linter.unusedSimpArgs false

theorem upd_eq (p : Int → Int → Bool) (t o x y : Int) : upd p t o x y = (p x y || (decide (x = t) && decide (y = o))) := by
  unfold upd
  rw [Bool.or_comm]
theorem add1_eq (p : Int → Int → Bool) (t o x y : Int) : add1 p t o x y = (p x y || (decide (x = t) && decide (y = o) && mayB t o)) := by
  unfold add1
  cases h : mayB t o with
  | true => rw [if_pos rfl, upd_eq, Bool.and_true]
  | false => rw [if_neg (by decide), Bool.and_false, Bool.or_false]
theorem adds_eq (t x y : Int) : ∀ (L : List Nat) (p : Int → Int → Bool), adds p t L x y = (p x y || (decide (x = t) && mayB t y && L.any fun o => decide (y = (o : Int)))) := by
  intro L
  induction L with
  | nil => intro p; simp [adds]
  | cons a L ih =>
    intro p
    show adds (add1 p t (a : Int)) t L x y = _
    rw [ih, add1_eq, List.any_cons]
    by_cases e : y = (a : Int)
    · subst e
      cases p x (a : Int) <;> cases decide (x = t) <;> cases mayB t (a : Int) <;> simp
    · rw [decide_eq_false e]
      simp
theorem dels_eq (t x y : Int) : ∀ (L : List Nat) (p : Int → Int → Bool), dels p t L x y = (p x y && !(decide (x = t) && L.any fun o => decide (y = (o : Int)))) := by
  intro L
  induction L with
  | nil => intro p; simp [dels]
  | cons a L ih =>
    intro p
    show dels (del p t (a : Int)) t L x y = _
    rw [ih, List.any_cons]
    unfold del
    cases p x y <;> cases decide (x = t) <;> cases decide (y = (a : Int)) <;> simp
theorem low_any (S : Nat) (y : Int) : ((Gr.low S 64).any fun o => decide (y = (o : Int))) = (decide (0 ≤ y) && decide (y < 64) && S.testBit y.toNat) := by
  rw [Bool.eq_iff_iff, List.any_eq_true]
  simp only [Bool.and_eq_true, decide_eq_true_eq]
  constructor
  · rintro ⟨o, ho, rfl⟩
    rw [Gr.mem_low] at ho
    rw [Int.toNat_natCast]
    exact ⟨⟨by omega, by omega⟩, ho.2⟩
  · rintro ⟨⟨h0, h1⟩, h2⟩
    exact ⟨y.toNat, Gr.mem_low.2 ⟨by omega, h2⟩, by omega⟩
namespace Rf
/-- The page's rights are what p tells. -/
structure Rel (p : Int → Int → Bool) (B : List Nat) : Prop where
  len : B.length = 64
  small : ∀ j, B.getD j 0 < 2 ^ 32
  tells : ∀ x y, p x y = (decide (0 ≤ y) && (of B x).testBit y.toNat)
section
variable {p : Int → Int → Bool} {B : List Nat}
theorem Rel.ok (h : Rel p B) : Ok B := ⟨h.len, fun j => Nat.lt_of_lt_of_le (h.small j) (by decide)⟩
theorem Rel.of_small (h : Rel p B) (x : Int) : of B x < 2 ^ 32 := by
  unfold of
  split
  · exact h.small _
  · decide
theorem small_bit {n : Nat} (h : n < 2 ^ 32) {i : Nat} (hi : 32 ≤ i) : n.testBit i = false :=
  Nat.testBit_lt_two_pow (Nat.lt_of_lt_of_le h (Nat.pow_le_pow_right (by decide) hi))
theorem rel0 : Rel (fun _ _ => false) Z0 := by
  have h0 : ∀ j, Z0.getD j 0 = 0 := fun j => by unfold Z0; rw [List.getD_eq_getElem?_getD, List.getElem?_replicate]; split <;> rfl
  refine ⟨rfl, fun j => by rw [h0]; decide, fun x y => ?_⟩
  have : of Z0 x = 0 := by
    unfold of
    split
    · exact h0 _
    · rfl
  rw [this, Nat.zero_testBit, Bool.and_false]
theorem Rel.of_eq (h : Rel p B) (t : Int) : ofS p t = of B t := by
  apply Nat.eq_of_testBit_eq
  intro i
  unfold ofS
  rw [Gs.tb_setOf, h.tells, Int.toNat_natCast, decide_eq_true (by omega : (0 : Int) ≤ (i : Int)), Bool.true_and]
  by_cases hi : i < 64
  · rw [decide_eq_true hi, Bool.true_and]
  · rw [decide_eq_false hi, small_bit (h.of_small t) (by omega)]; rfl
def has (s : Nat) (o : Int) : Bool := decide (0 ≤ o) && decide (o < 64) && s.testBit o.toNat
def whoB (B : List Nat) (o : Int) (t : Nat) : Bool := decide (o < 32) && has (B.getD t 0) o
def who (B : List Nat) (o : Int) : Nat := Gs.setOf (whoB B o) 64
theorem has_small {n : Nat} (h : n < 2 ^ 32) (o : Int) : (decide (o < 32) && has n o) = (decide (0 ≤ o) && n.testBit o.toNat) := by
  unfold has
  by_cases h0 : 0 ≤ o
  · rw [decide_eq_true h0]
    by_cases h1 : o < 32
    · rw [decide_eq_true h1, decide_eq_true (show o < 64 by omega)]; simp
    · rw [small_bit h (show 32 ≤ o.toNat by omega)]; simp
  · rw [decide_eq_false h0]; simp
theorem Rel.has_eq (h : Rel p B) (t o : Int) : p t o = (decide (o < 32) && has (of B t) o) := by
  rw [has_small (h.of_small t), h.tells]
theorem Rel.who_eq (h : Rel p B) (o : Int) : whoS p o = who B o := by
  apply Nat.eq_of_testBit_eq
  intro i
  unfold whoS who
  rw [Gs.tb_setOf, Gs.tb_setOf]
  by_cases hi : i < 64
  · rw [decide_eq_true hi, h.tells]
    unfold whoB
    rw [has_small (h.small i)]
    have : of B (i : Int) = B.getD i 0 := by unfold of; rw [if_pos (by omega), Int.toNat_natCast]
    rw [this]
  · rw [decide_eq_false hi]; rfl
theorem Rel.put (h : Rel p B) {q : Int → Int → Bool} {t : Int} {s : Nat} (hs : s < 2 ^ 32) (hq : ∀ x y, q x y = if x = t ∧ 0 ≤ t ∧ t ≤ 63 then (decide (0 ≤ y) && s.testBit y.toNat) else p x y) : Rel q (set B t s) := by
  have hl : (set B t s).length = 64 := by
    unfold Rf.set
    split
    · rw [List.length_set]; exact h.len
    · exact h.len
  refine ⟨hl, fun j => ?_, fun x y => ?_⟩
  · unfold Rf.set
    split
    · rw [getD_set _ _ _ _ (by rw [h.len]; omega)]
      split
      · exact hs
      · exact h.small j
    · exact h.small j
  · rw [hq, of_set h.ok]
    split
    · rfl
    · exact h.tells x y
theorem mayB_eq (t y : Int) : mayB t y = (decide (0 ≤ t ∧ t ≤ 63) && (decide (0 ≤ y) && decide (y < 32))) := by
  unfold mayB
  rw [Bool.eq_iff_iff]
  simp only [Bool.and_eq_true, decide_eq_true_eq]
  omega
theorem and_small {a b : Nat} (ha : a < 2 ^ 32) : a &&& b < 2 ^ 32 := Nat.lt_of_le_of_lt Nat.and_le_left ha
theorem Rel.none (h : Rel p B) {t : Int} (ht : ¬ (0 ≤ t ∧ t ≤ 63)) (y : Int) : p t y = false := by
  rw [h.tells]
  have : of B t = 0 := by unfold of; rw [if_neg ht]
  rw [this, Nat.zero_testBit, Bool.and_false]
theorem all_bit (i : Nat) : (4294967295 : Nat).testBit i = decide (i < 32) := by
  rw [show (4294967295 : Nat) = 2 ^ 32 - 1 from rfl, Nat.testBit_two_pow_sub_one]
theorem Rel.do_ (h : Rel p B) (k f t : Int) {s : Nat} (hs : s < Bt.top) : Rel (doP p k f t s) (do_ B k f t s) := by
  have hf := h.of_small f
  have ht := h.of_small t
  have hP := h.tells t
  have hof := h.of_eq
  have hclr : ∀ x y, clr p t x y = (p x y && !decide (x = t)) := by
    intro x y
    unfold clr
    rw [dels_eq, low_any, hof]
    by_cases e : x = t
    · subst e
      rw [decide_eq_true rfl, hP]
      cases hb : (of B x).testBit y.toNat with
      | false => simp
      | true =>
        by_cases h0 : 0 ≤ y
        · have : y < 64 := Classical.byContradiction fun q => by
            rw [small_bit ht (by omega)] at hb; cases hb
          rw [decide_eq_true h0, decide_eq_true this]
          rfl
        · rw [decide_eq_false h0]; rfl
    · rw [decide_eq_false e]; simp
  have hsm : ∀ (S : Nat), S < 2 ^ 32 → ∀ y : Int, (mayB t y && (decide (0 ≤ y) && decide (y < 64) && S.testBit y.toNat)) = (decide (0 ≤ t ∧ t ≤ 63) && (decide (0 ≤ y) && S.testBit y.toNat)) := by
    intro S hS y
    rw [mayB_eq]
    by_cases h0 : 0 ≤ y
    · by_cases h1 : y < 32
      · rw [decide_eq_true h0, decide_eq_true h1, decide_eq_true (show y < 64 by omega)]; simp
      · rw [small_bit hS (show 32 ≤ y.toNat by omega)]; simp
    · rw [decide_eq_false h0]; simp
  unfold doP Rf.do_
  split
  · refine h.put (by decide) fun x y => ?_
    rw [adds_eq, low_any, Bool.and_assoc, hsm _ (by decide), all_bit]
    by_cases e : x = t
    · subst e
      rw [decide_eq_true rfl, Bool.true_and]
      by_cases c : 0 ≤ x ∧ x ≤ 63
      · rw [if_pos ⟨rfl, c⟩, decide_eq_true c, Bool.true_and, hP]
        cases hb : (of B x).testBit y.toNat with
        | false => simp
        | true =>
          have : y.toNat < 32 := Classical.byContradiction fun q => by
            rw [small_bit ht (by omega)] at hb; cases hb
          rw [decide_eq_true this]; simp
      · rw [if_neg (fun q => c q.2), decide_eq_false c]; simp
    · rw [if_neg (fun q => e q.1), decide_eq_false e]; simp
  · split
    · refine h.put (and_small hf) fun x y => ?_
      rw [adds_eq, low_any, hclr, hof, Bool.and_assoc, hsm _ (and_small hf)]
      by_cases e : x = t
      · subst e
        rw [decide_eq_true rfl]
        by_cases c : 0 ≤ x ∧ x ≤ 63
        · rw [if_pos ⟨rfl, c⟩, decide_eq_true c]; simp
        · rw [if_neg (fun q => c q.2), decide_eq_false c, h.none c]; simp
      · rw [if_neg (fun q => e q.1), decide_eq_false e]; simp
    · split
      · have hor : of B t ||| (of B f &&& s) < 2 ^ 32 := Nat.or_lt_two_pow ht (and_small hf)
        refine h.put hor fun x y => ?_
        rw [adds_eq, low_any, hof, Bool.and_assoc, hsm _ (and_small hf)]
        by_cases e : x = t
        · subst e
          rw [decide_eq_true rfl]
          by_cases c : 0 ≤ x ∧ x ≤ 63
          · rw [if_pos ⟨rfl, c⟩, decide_eq_true c, hP, Nat.testBit_or]
            cases decide (0 ≤ y) <;> simp
          · rw [if_neg (fun q => c q.2), decide_eq_false c]; simp
        · rw [if_neg (fun q => e q.1), decide_eq_false e]; simp
      · split
        · refine h.put (show Bt.sub (of B t) s < 2 ^ 32 from and_small ht) fun x y => ?_
          rw [dels_eq, low_any]
          by_cases e : x = t
          · subst e
            rw [decide_eq_true rfl, hP]
            by_cases c : 0 ≤ x ∧ x ≤ 63
            · rw [if_pos ⟨rfl, c⟩]
              by_cases h0 : 0 ≤ y
              · by_cases h1 : y < 64
                · rw [Bt.tb_sub hs _ (by omega), decide_eq_true h0, decide_eq_true h1]; simp
                · have h2 : (of B x).testBit y.toNat = false := small_bit ht (by omega)
                  have h3 : (Bt.sub (of B x) s).testBit y.toNat = false := small_bit (and_small ht) (by omega)
                  rw [h2, h3]; simp
              · rw [decide_eq_false h0]; simp
            · rw [if_neg (fun q => c q.2), ← hP, h.none c]; simp
          · rw [if_neg (fun q => e q.1), decide_eq_false e]; simp
        · refine h.put (by decide) fun x y => ?_
          rw [hclr]
          by_cases e : x = t
          · subst e
            rw [decide_eq_true rfl]
            by_cases c : 0 ≤ x ∧ x ≤ 63
            · rw [if_pos ⟨rfl, c⟩, Nat.zero_testBit]; simp
            · rw [if_neg (fun q => c q.2), h.none c]; simp
          · rw [if_neg (fun q => e q.1), decide_eq_false e]; simp
end
end Rf
end Go.Proofs.YtjcjhmnfknenlaaDoor.Rt
