/- The functions on accounts, over numbers and lists: what they come to. Conditions: none. -/
import Derived.Test.YtlggjacghemakaaPClaimBackx
import Derived.Test.YtlggjacghemakaaCm
namespace Go.Proofs.Ytlggjacghemakaa.ClClaimBack
open Go.RowKit Go.Proofs.Ytlggjacghemakaa.PClaimBack Go.Proofs.YtlggjacghemakaaW.PrintWords Go.Proofs.YtlggjacghemakaaW.PrintLast Go.Proofs.YtlggjacghemakaaW.PrintMore
open Cm

/-- From some number of rounds on, f comes to v. -/
def Evt {α : Type} (f : Nat → Option α) (v : α) : Prop := ∃ K, ∀ k, K ≤ k → f k = some v
theorem Evt.const {α : Type} {f : Nat → Option α} {v : α} (h : ∀ k, f k = some v) : Evt f v := ⟨0, fun k _ => h k⟩
theorem Evt.step {α : Type} {f g : Nat → Option α} {v : α} (h : ∀ k, f (k + 1) = g k) (hg : Evt g v) : Evt f v := by
  obtain ⟨K, hK⟩ := hg
  refine ⟨K + 1, fun k hk => ?_⟩
  obtain ⟨j, rfl⟩ : ∃ j, k = j + 1 := ⟨k - 1, by omega⟩
  rw [h]
  exact hK j (by omega)
theorem Evt.of {α : Type} {f g : Nat → Option α} {v : α} (h : ∀ k, f k = g k) (hg : Evt g v) : Evt f v := by
  obtain ⟨K, hK⟩ := hg
  exact ⟨K, fun k hk => by rw [h]; exact hK k hk⟩
theorem Evt.bind {α β : Type} {f : Nat → Option α} {g : Nat → α → Option β} {a : α} {b : β} (hf : Evt f a) (hg : Evt (fun k => g k a) b) : Evt (fun k => (f k).bind (g k)) b := by
  obtain ⟨K, hK⟩ := hf
  obtain ⟨L, hL⟩ := hg
  refine ⟨K + L, fun k hk => ?_⟩
  show (f k).bind (g k) = some b
  rw [hK k (by omega), Option.bind_some]
  exact hL k (by omega)

theorem w1 {i : Nat} (h : i < 4611686018427387904) : wrap64 ((i : Int) + 1) = ((i + 1 : Nat) : Int) := by unfold wrap64; omega
theorem w0 {x : Int} (h : -4611686018427387904 ≤ x) (h2 : x ≤ 4611686018427387904) : wrap64 x = x := by unfold wrap64; omega
theorem rd_at {l : List Int} {i : Nat} (h : i < l.length) : rd l (i : Int) = l[i] := by simp [rd, h]
theorem rl_at {l : List (List Int)} {i : Nat} (h : i < l.length) : rd_L1 l (i : Int) = l[i] := by simp [rd_L1, h]

/-! ### numbers by their place -/
def vec (n : Nat) (g : Nat → Int) : List Int := (List.range n).map g
theorem vec_len (n : Nat) (g : Nat → Int) : (vec n g).length = n := by simp [vec]
theorem vec_rd {n : Nat} {g : Nat → Int} {q : Nat} (h : q < n) : rd (vec n g) (q : Int) = g q := by
  rw [rd_at (by rw [vec_len]; exact h)]
  simp [vec]
theorem vec_set (n : Nat) (g : Nat → Int) (j : Nat) (v : Int) : (vec n g).set j v = vec n (fun q => if q = j then v else g q) := by
  apply List.ext_getElem
  · simp [vec]
  · intro i h1 h2
    simp only [vec, List.getElem_set, List.getElem_map, List.getElem_range]
    by_cases e : j = i
    · subst e; simp
    · rw [if_neg e, if_neg (fun q => e q.symm)]
theorem vec_congr {n : Nat} {f g : Nat → Int} (h : ∀ q, q < n → f q = g q) : vec n f = vec n g := by
  apply List.map_congr_left
  intro q hq
  exact h q (List.mem_range.1 hq)
theorem vec_of (l : List Int) : l = vec l.length (fun q => rd l (q : Int)) := by
  apply List.ext_getElem
  · simp [vec]
  · intro i h1 h2
    simp only [vec, List.getElem_map, List.getElem_range]
    rw [rd_at h1]
theorem vec_snoc (n : Nat) (g : Nat → Int) : vec n g ++ [g n] = vec (n + 1) g := by simp [vec, List.range_succ]
theorem vec_zero (n : Nat) : List.replicate n 0 = vec n (fun _ => 0) := by
  apply List.ext_getElem
  · simp [vec]
  · intro i h1 h2
    simp [vec]

/-- Is p true of one of d from i on? -/
def anyF (p : Nat → Bool) : Nat → Nat → Bool
  | _, 0 => false
  | i, d + 1 => p i || anyF p (i + 1) d
theorem anyF_iff (p : Nat → Bool) : ∀ d i, anyF p i d = true ↔ ∃ q, i ≤ q ∧ q < i + d ∧ p q = true
  | 0, i => by simp [anyF]; intro q h1 h2; omega
  | d + 1, i => by
    simp only [anyF, Bool.or_eq_true, anyF_iff p d (i + 1)]
    constructor
    · rintro (h | ⟨q, h1, h2, h3⟩)
      · exact ⟨i, by omega, by omega, h⟩
      · exact ⟨q, by omega, by omega, h3⟩
    · rintro ⟨q, h1, h2, h3⟩
      by_cases e : q = i
      · subst e; exact .inl h3
      · exact .inr ⟨q, by omega, by omega, h3⟩
theorem anyF_false (p : Nat → Bool) (d i : Nat) : anyF p i d = false ↔ ∀ q, i ≤ q → q < i + d → p q = false := by
  rw [← Bool.not_eq_true, anyF_iff]
  constructor
  · intro h q h1 h2
    cases e : p q with
    | false => rfl
    | true => exact absurd ⟨q, h1, h2, e⟩ h
  · rintro h ⟨q, h1, h2, h3⟩
    rw [h q h1 h2] at h3
    cases h3
/-- The first one of d from i on of which p is true. -/
def nxt (p : Nat → Bool) : Nat → Nat → Option Nat
  | _, 0 => none
  | i, d + 1 => if p i = true then some i else nxt p (i + 1) d
theorem nxt_some {p : Nat → Bool} : ∀ {d i q : Nat}, nxt p i d = some q → i ≤ q ∧ q < i + d ∧ p q = true
  | 0, i, q, h => by cases h
  | d + 1, i, q, h => by
    simp only [nxt] at h
    split at h
    · rename_i hp
      injection h with h
      subst h
      exact ⟨by omega, by omega, hp⟩
    · have := nxt_some h
      exact ⟨by omega, by omega, this.2.2⟩
theorem nxt_none {p : Nat → Bool} : ∀ {d i : Nat}, nxt p i d = none → ∀ q, i ≤ q → q < i + d → p q = false
  | 0, i, _, q, h1, h2 => by omega
  | d + 1, i, h, q, h1, h2 => by
    simp only [nxt] at h
    split at h
    · cases h
    · rename_i hp
      by_cases e : q = i
      · subst e; simpa using hp
      · exact nxt_none h q (by omega) (by omega)

/-! ### what an account is -/
def hh (H : List (List Int)) (i k : Nat) : Int := rd (rd_L1 H (i : Int)) (k : Int)
def OkA (F : List Int) (H C : List (List Int)) : Prop :=
  H.length = C.length ∧ H.length ≤ 64 ∧ F.length ≤ 32 ∧ (∀ k, k < F.length → 0 ≤ rd F (k : Int) ∧ rd F (k : Int) ≤ 1000) ∧
  ∀ i, i < H.length → (rd_L1 H (i : Int)).length = F.length ∧ (rd_L1 C (i : Int)).length = F.length ∧ ∀ k, k < F.length → 0 ≤ hh H i k ∧ hh H i k ≤ 1000 ∧ 0 ≤ hh C i k ∧ hh C i k ≤ 1000 ∧ hh H i k ≤ hh C i k

/-! ### units, under, left, has, sum -/
def badv (x : Int) : Bool := decide (x < 0) || decide (x > 1000)
theorem units_ev (l : List Int) (hl : l.length < 4611686018427387904) : ∀ d i, d + i = l.length → Evt (fun k => claim_units.l0 k l (l.length : Int) (i : Int)) (!(anyF (fun q => badv (rd l (q : Int))) i d))
  | 0, i, h => Evt.step (g := fun _ => some true) (fun k => by show claim_units.l0 (k + 1) _ _ _ = _; simp only [claim_units.l0]; rw [if_neg (by omega)]) (Evt.const fun _ => rfl)
  | d + 1, i, h => by
    simp only [anyF]
    by_cases c1 : rd l (i : Int) < 0
    · rw [show badv (rd l (i : Int)) = true by simp [badv, c1]]
      exact Evt.step (g := fun _ => some false) (fun k => by show claim_units.l0 (k + 1) _ _ _ = _; simp only [claim_units.l0]; rw [if_pos (by omega), if_pos (by omega), if_pos (by omega), if_pos c1]) (Evt.const fun _ => rfl)
    by_cases c2 : rd l (i : Int) > 1000
    · rw [show badv (rd l (i : Int)) = true by simp [badv, c2]]
      exact Evt.step (g := fun _ => some false) (fun k => by show claim_units.l0 (k + 1) _ _ _ = _; simp only [claim_units.l0]; rw [if_pos (by omega), if_pos (by omega), if_pos (by omega), if_neg c1, if_pos c2]) (Evt.const fun _ => rfl)
    rw [show badv (rd l (i : Int)) = false by simp [badv]; omega, Bool.false_or]
    refine Evt.step (g := fun k => claim_units.l0 k l (l.length : Int) ((i + 1 : Nat) : Int)) (fun k => ?_) (units_ev l hl d (i + 1) (by omega))
    show claim_units.l0 (k + 1) _ _ _ = _
    simp only [claim_units.l0]
    rw [if_pos (by omega), if_pos (by omega), if_pos (by omega), if_neg c1, if_neg c2, w1 (by omega)]
def uni (l : List Int) : Bool := !(anyF (fun q => badv (rd l (q : Int))) 0 l.length)
theorem units_f (l : List Int) (hl : l.length < 4611686018427387904) : Evt (fun k => claim_units.f k l) (uni l) := units_ev l hl l.length 0 rfl
def und (a b : List Int) : Bool := !(anyF (fun q => decide (rd a (q : Int) > rd b (q : Int))) 0 a.length)
theorem under_ev (a b : List Int) (hl : a.length < 4611686018427387904) (hb : a.length ≤ b.length) : ∀ d i, d + i = a.length → Evt (fun k => claim_under.l0 k b a (a.length : Int) (i : Int)) (!(anyF (fun q => decide (rd a (q : Int) > rd b (q : Int))) i d))
  | 0, i, h => Evt.step (g := fun _ => some true) (fun k => by show claim_under.l0 (k + 1) _ _ _ _ = _; simp only [claim_under.l0]; rw [if_neg (by omega)]) (Evt.const fun _ => rfl)
  | d + 1, i, h => by
    simp only [anyF]
    by_cases c1 : rd a (i : Int) > rd b (i : Int)
    · rw [decide_eq_true c1]
      exact Evt.step (g := fun _ => some false) (fun k => by show claim_under.l0 (k + 1) _ _ _ _ = _; simp only [claim_under.l0]; rw [if_pos (by omega), if_pos (by omega), if_pos (by omega), if_pos (by omega), if_pos c1]) (Evt.const fun _ => rfl)
    rw [decide_eq_false c1, Bool.false_or]
    refine Evt.step (g := fun k => claim_under.l0 k b a (a.length : Int) ((i + 1 : Nat) : Int)) (fun k => ?_) (under_ev a b hl hb d (i + 1) (by omega))
    show claim_under.l0 (k + 1) _ _ _ _ = _
    simp only [claim_under.l0]
    rw [if_pos (by omega), if_pos (by omega), if_pos (by omega), if_pos (by omega), if_neg c1, w1 (by omega)]
theorem under_f (a b : List Int) (hl : a.length < 4611686018427387904) (hb : a.length ≤ b.length) : Evt (fun k => claim_under.f k a b) (und a b) := under_ev a b hl hb a.length 0 rfl
theorem sum_ev (a b : List Int) (g : Nat → Int) (hl : a.length < 1000000) (hb : a.length ≤ b.length) (hg : ∀ q, q < a.length → wrap64 (rd a (q : Int) + rd b (q : Int)) = g q) : ∀ d i, d + i = a.length → Evt (fun k => logjamref25_sum.l0 k a b (vec i g) (i : Int)) (vec a.length g)
  | 0, i, h => by
    have e : i = a.length := by omega
    subst e
    exact Evt.step (g := fun _ => some (vec a.length g)) (fun k => by show logjamref25_sum.l0 (k + 1) _ _ _ _ = _; simp only [logjamref25_sum.l0]; rw [if_neg (by omega)]) (Evt.const fun _ => rfl)
  | d + 1, i, h => by
    refine Evt.step (g := fun k => logjamref25_sum.l0 k a b (vec (i + 1) g) ((i + 1 : Nat) : Int)) (fun k => ?_) (sum_ev a b g hl hb hg d (i + 1) (by omega))
    show logjamref25_sum.l0 (k + 1) _ _ _ _ = _
    simp only [logjamref25_sum.l0]
    rw [if_pos (by omega), if_pos (by omega), if_pos (by omega), if_pos (by rw [vec_len]; omega), w1 (by omega), hg i (by omega), vec_snoc]
theorem sum_f (a b : List Int) (g : Nat → Int) (hl : a.length < 1000000) (hb : a.length ≤ b.length) (hg : ∀ q, q < a.length → wrap64 (rd a (q : Int) + rd b (q : Int)) = g q) : Evt (fun k => logjamref25_sum.f k a b) (vec a.length g) := sum_ev a b g hl hb hg a.length 0 rfl

section
variable {F : List Int} {H C : List (List Int)}
/-- What i may still ask. -/
def lf (F : List Int) (H C : List (List Int)) (i : Nat) : List Int := vec F.length (fun q => hh C i q - hh H i q)
theorem left_ev (ok : OkA F H C) {i : Nat} (hi : i < H.length) : ∀ d j, d + j = F.length → Evt (fun k => claim_left.l0 k (i : Int) (vec F.length (fun q => if q < j then hh C i q - hh H i q else 0)) (F.length : Int) (j : Int) F H C) (lf F H C i)
  | 0, j, h => by
    refine Evt.step (g := fun _ => some (lf F H C i)) (fun k => ?_) (Evt.const fun _ => rfl)
    show claim_left.l0 (k + 1) _ _ _ _ _ _ _ = _
    simp only [claim_left.l0]
    rw [if_neg (by omega)]
    exact congrArg some (vec_congr fun q hq => if_pos (by omega))
  | d + 1, j, h => by
    obtain ⟨o1, o2, o3, o4, o5⟩ := ok
    obtain ⟨p1, p2, p3⟩ := o5 i hi
    obtain ⟨q1, q2, q3, q4, q5⟩ := p3 j (by omega)
    refine Evt.step (g := fun k => claim_left.l0 k (i : Int) (vec F.length (fun q => if q < j + 1 then hh C i q - hh H i q else 0)) (F.length : Int) ((j + 1 : Nat) : Int) F H C) (fun k => ?_) (left_ev ⟨o1, o2, o3, o4, o5⟩ hi d (j + 1) (by omega))
    show claim_left.l0 (k + 1) _ _ _ _ _ _ _ = _
    simp only [claim_left.l0]
    rw [if_pos (by omega), if_pos (by omega), if_pos (by omega), if_pos (by omega), if_pos (by omega), if_pos (by omega), if_pos (by omega), if_pos (by rw [vec_len]; omega), w1 (by omega), Int.toNat_natCast, vec_set]
    have e : wrap64 (rd (rd_L1 C (i : Int)) (j : Int) - rd (rd_L1 H (i : Int)) (j : Int)) = hh C i j - hh H i j := w0 (by show _ ≤ hh C i j - hh H i j; omega) (by show hh C i j - hh H i j ≤ _; omega)
    rw [e]
    congr 2
    funext q
    by_cases c : q = j
    · subst c; simp
    · rw [if_neg c]
      by_cases c2 : q < j
      · rw [if_pos c2, if_pos (by omega)]
      · rw [if_neg c2, if_neg (by omega)]
theorem left_f (ok : OkA F H C) {i : Nat} (hi : i < H.length) : Evt (fun k => claim_left.f k F H C (i : Int)) (lf F H C i) := by
  have := left_ev ok hi F.length 0 rfl
  refine Evt.of (g := fun k => claim_left.l0 k (i : Int) (vec F.length (fun q => if q < 0 then hh C i q - hh H i q else 0)) (F.length : Int) ((0 : Nat) : Int) F H C) (fun k => ?_) this
  show claim_left.f k F H C (i : Int) = _
  unfold claim_left.f
  have := ok.2.2.1
  rw [if_pos (by omega), Int.toNat_natCast, if_pos (by omega), Option.bind_some, List.length_replicate, vec_zero]
  simp
theorem rleft_ev (ok : OkA F H C) {i : Nat} (hi : i < H.length) : ∀ d j, d + j = F.length → Evt (fun k => logjamref25_Left.l0 k (i : Int) (vec j (fun q => hh C i q - hh H i q)) (j : Int) F H C) (lf F H C i)
  | 0, j, h => by
    have e : j = F.length := by omega
    subst e
    refine Evt.step (g := fun _ => some (lf F H C i)) (fun k => ?_) (Evt.const fun _ => rfl)
    show logjamref25_Left.l0 (k + 1) _ _ _ _ _ _ = _
    simp only [logjamref25_Left.l0]
    rw [if_neg (by omega)]
    rfl
  | d + 1, j, h => by
    obtain ⟨o1, o2, o3, o4, o5⟩ := ok
    obtain ⟨p1, p2, p3⟩ := o5 i hi
    obtain ⟨q1, q2, q3, q4, q5⟩ := p3 j (by omega)
    refine Evt.step (g := fun k => logjamref25_Left.l0 k (i : Int) (vec (j + 1) (fun q => hh C i q - hh H i q)) ((j + 1 : Nat) : Int) F H C) (fun k => ?_) (rleft_ev ⟨o1, o2, o3, o4, o5⟩ hi d (j + 1) (by omega))
    show logjamref25_Left.l0 (k + 1) _ _ _ _ _ _ = _
    simp only [logjamref25_Left.l0]
    rw [if_pos (by omega), if_pos (by omega), if_pos (by omega), if_pos (by omega), if_pos (by omega), if_pos (by omega), if_pos (by omega), if_pos (by rw [vec_len]; omega), w1 (by omega)]
    have e : wrap64 (rd (rd_L1 C (i : Int)) (j : Int) - rd (rd_L1 H (i : Int)) (j : Int)) = hh C i j - hh H i j := w0 (by show _ ≤ hh C i j - hh H i j; omega) (by show hh C i j - hh H i j ≤ _; omega)
    rw [e, vec_snoc j (fun q => hh C i q - hh H i q)]
theorem rleft_f (ok : OkA F H C) {i : Nat} (hi : i < H.length) : Evt (fun k => logjamref25_Left.f k F H C (i : Int)) (lf F H C i) := rleft_ev ok hi F.length 0 rfl
end
/-! ### the order -/
section
variable {F : List Int} {H C : List (List Int)}
def FF (F : List Int) (k : Nat) : Int := rd F (k : Int)
/-- What is free when those of l have gone, as a list. -/
def frv (F : List Int) (H : List (List Int)) (l : List Nat) : List Int := vec F.length (fr (FF F) (hh H) l)
def pN (F : List Int) (H C : List (List Int)) (l : List Nat) (q : Nat) : Bool := decide (q ∉ l) && und (lf F H C q) (frv F H l)
theorem und_vec {n : Nat} (f g : Nat → Int) : und (vec n f) (vec n g) = true ↔ ∀ k, k < n → f k ≤ g k := by
  unfold und
  rw [Bool.not_eq_true', anyF_false, vec_len]
  constructor
  · intro h k hk
    have := of_decide_eq_false (h k (by omega) (by omega))
    rw [vec_rd hk, vec_rd hk] at this
    omega
  · intro h q _ hq
    rw [vec_rd (by omega), vec_rd (by omega)]
    exact decide_eq_false (by have := h q (by omega); omega)
theorem pN_iff {l : List Nat} {q : Nat} (hq : q < H.length) : pN F H C l q = true ↔ ComesNext H.length F.length (FF F) (hh H) (hh C) l q := by
  unfold pN ComesNext lf frv
  rw [Bool.and_eq_true, decide_eq_true_iff, und_vec]
  exact ⟨fun h => ⟨hq, h.1, h.2⟩, fun h => ⟨h.2.1, h.2.2⟩⟩
theorem hh_out {i : Nat} (hi : H.length ≤ i) (k : Nat) : hh H i k = 0 := by
  unfold hh rd_L1
  have e : H.getD (i : Int).toNat [] = [] := by simp [hi]
  rw [e]
  simp [rd]
theorem hh_outk (ok : OkA F H C) {i : Nat} {k : Nat} (hk : F.length ≤ k) : hh H i k = 0 := by
  by_cases hi : i < H.length
  · have := (ok.2.2.2.2 i hi).1
    unfold hh rd
    simp only [Int.toNat_natCast]
    rw [List.getD_eq_getElem?_getD, List.getElem?_eq_none (by omega)]
    rfl
  · exact hh_out (by omega) k
theorem hh_nn (ok : OkA F H C) (i k : Nat) : 0 ≤ hh H i k ∧ hh H i k ≤ 1000 := by
  by_cases hi : i < H.length
  · by_cases hk : k < F.length
    · have := (ok.2.2.2.2 i hi).2.2 k hk
      omega
    · rw [hh_outk ok (by omega)]
      omega
  · rw [hh_out (by omega)]
    omega
theorem fr_in (ok : OkA F H C) {l : List Nat} (hl : l.length ≤ 64) {k : Nat} (hk : k < F.length) : 0 ≤ fr (FF F) (hh H) l k ∧ fr (FF F) (hh H) l k ≤ 65000 := by
  have h1 := ok.2.2.2.1 k hk
  have h2 := S_nonneg (fun i => hh H i k) (fun i => (hh_nn ok i k).1) l
  have h3 := S_const (fun i => hh H i k) 1000 (fun i => (hh_nn ok i k).2) l
  unfold fr FF
  omega
theorem frv_snoc (l : List Nat) (q : Nat) : frv F H (l ++ [q]) = vec F.length (fun k => fr (FF F) (hh H) l k + hh H q k) := by
  unfold frv
  apply vec_congr
  intro k _
  unfold fr
  rw [S_snoc]
  omega
/-- What is not done yet. -/
def dn (m : Nat) (l : List Nat) : List Bool := (List.range m).map fun i => decide (i ∈ l)
theorem dn_set (m : Nat) (l : List Nat) (q : Nat) : (dn m l).set q true = dn m (l ++ [q]) := by
  apply List.ext_getElem
  · simp [dn]
  · intro i h1 h2
    simp only [dn, List.getElem_set, List.getElem_map, List.getElem_range, List.mem_append, List.mem_singleton]
    by_cases e : q = i
    · subst e; simp
    · rw [if_neg e]
      simp [Ne.symm e]
theorem dn_at {m : Nat} {l : List Nat} {q : Nat} (h : q < m) : rdOf false (dn m l) (q : Int) = decide (q ∈ l) := by
  simp [rdOf, dn, h]
def lI (l : List Nat) : List Int := l.map (fun (i : Nat) => (i : Int))
theorem lI_len (l : List Nat) : (lI l).length = l.length := by simp [lI]
theorem lI_snoc (l : List Nat) (q : Nat) : lI l ++ [(q : Int)] = lI (l ++ [q]) := by simp [lI]
def ndv (F : List Int) (H C : List (List Int)) : List (List Int) := (List.range H.length).map (lf F H C)
theorem ndv_len : (ndv F H C).length = H.length := by simp [ndv]
theorem ndv_at {q : Nat} (h : q < H.length) : rd_L1 (ndv F H C) (q : Int) = lf F H C q := by
  rw [rl_at (by rw [ndv_len]; exact h)]
  simp [ndv]
/-- The greedy order, from l on. -/
def G (p : List Nat → Nat → Bool) (m : Nat) : Nat → List Nat → List Nat
  | 0, l => l
  | d + 1, l => match nxt (p l) 0 m with
    | none => l
    | some q => G p m d (l ++ [q])
theorem fill_ev (ok : OkA F H C) (x4 : List Int) (x6 : List Bool) (v : List Int × Bool) (hv : Evt (fun k => claim_order.l1 k x4 [] x6 (ndv F H C) F H C) v) : ∀ d i, d + i = H.length →
    Evt (fun k => claim_order.l0 k x4 x6 ((List.range H.length).map fun q => if q < i then lf F H C q else []) (H.length : Int) (i : Int) F H C) v
  | 0, i, h => by
    refine Evt.step (g := fun k => claim_order.l1 k x4 [] x6 (ndv F H C) F H C) (fun k => ?_) hv
    show claim_order.l0 (k + 1) _ _ _ _ _ _ _ _ = _
    simp only [claim_order.l0]
    rw [if_neg (by omega)]
    congr 1
    unfold ndv
    apply List.map_congr_left
    intro q hq
    rw [if_pos (by have := List.mem_range.1 hq; omega)]
  | d + 1, i, h => by
    refine Evt.step (g := fun k => (claim_left.f k F H C (i : Int)).bind fun t => (claim_order.l0 k x4 x6 (((List.range H.length).map fun q => if q < i then lf F H C q else []).set i t) (H.length : Int) ((i + 1 : Nat) : Int) F H C)) (fun k => ?_) (Evt.bind (left_f ok (by omega)) ?_)
    · show claim_order.l0 (k + 1) _ _ _ _ _ _ _ _ = _
      have := ok.2.1
      simp only [claim_order.l0]
      rw [if_pos (by omega)]
      congr 1
      funext t
      rw [if_pos (by omega), if_pos (by simp; omega), w1 (by omega), Int.toNat_natCast]
    · refine Evt.of (fun k => ?_) (fill_ev ok x4 x6 v hv d (i + 1) (by omega))
      show claim_order.l0 k _ _ _ _ _ _ _ _ = _
      congr 1
      apply List.ext_getElem
      · simp
      · intro j h1 h2
        simp only [List.getElem_set, List.getElem_map, List.getElem_range]
        by_cases e : i = j
        · subst e; simp
        · rw [if_neg e]
          by_cases c : j < i
          · rw [if_pos c, if_pos (by omega)]
          · rw [if_neg c, if_neg (by omega)]
theorem scan_ev (ok : OkA F H C) (l : List Nat) (x5 : List Int) (v : List Int × Bool) : ∀ d i, d + i = H.length →
    Evt (fun k => claim_order.j3 k (frv F H l) x5 (dn H.length l) (ndv F H C) (match nxt (pN F H C l) i d with | some q => (q : Int) | none => -1) F H C) v →
    Evt (fun k => claim_order.l2 k (frv F H l) x5 (dn H.length l) (ndv F H C) (-1) (H.length : Int) (i : Int) F H C) v
  | 0, i, h, hv => by
    refine Evt.step (g := fun k => claim_order.j3 k (frv F H l) x5 (dn H.length l) (ndv F H C) (-1) F H C) (fun k => ?_) hv
    show claim_order.l2 (k + 1) _ _ _ _ _ _ _ _ _ _ = _
    simp only [claim_order.l2]
    rw [if_neg (by omega)]
  | d + 1, i, h, hv => by
    have hm := ok.2.1
    have hn := ok.2.2.1
    simp only [nxt] at hv
    by_cases c : i ∈ l
    · have e : pN F H C l i = false := by unfold pN; simp [c]
      rw [e] at hv
      refine Evt.step (g := fun k => claim_order.l2 k (frv F H l) x5 (dn H.length l) (ndv F H C) (-1) (H.length : Int) ((i + 1 : Nat) : Int) F H C) (fun k => ?_) (scan_ev ok l x5 v d (i + 1) (by omega) hv)
      show claim_order.l2 (k + 1) _ _ _ _ _ _ _ _ _ _ = _
      simp only [claim_order.l2]
      rw [if_pos (by omega), if_pos (by omega), if_pos (by simp [dn]; omega), dn_at (by omega), decide_eq_true c, if_pos rfl, w1 (by omega)]
    · have hu := under_f (lf F H C i) (frv F H l) (by rw [lf, vec_len]; omega) (by rw [lf, frv, vec_len, vec_len]; exact Nat.le_refl _)
      have e : pN F H C l i = und (lf F H C i) (frv F H l) := by unfold pN; simp [c]
      rw [e] at hv
      refine Evt.step (g := fun k => (claim_under.f k (lf F H C i) (frv F H l)).bind fun t => if t = true then claim_order.j3 k (frv F H l) x5 (dn H.length l) (ndv F H C) (i : Int) F H C else claim_order.l2 k (frv F H l) x5 (dn H.length l) (ndv F H C) (-1) (H.length : Int) ((i + 1 : Nat) : Int) F H C) (fun k => ?_) (Evt.bind hu ?_)
      · show claim_order.l2 (k + 1) _ _ _ _ _ _ _ _ _ _ = _
        simp only [claim_order.l2]
        rw [if_pos (by omega), if_pos (by omega), if_pos (by simp [dn]; omega), dn_at (by omega), decide_eq_false c, if_neg (by decide), if_pos (by rw [ndv_len]; omega), ndv_at (by omega), w1 (by omega)]
      · cases b : und (lf F H C i) (frv F H l) with
        | true =>
          rw [b] at hv
          exact Evt.of (fun k => by rw [if_pos rfl]; rfl) hv
        | false =>
          rw [b] at hv
          exact Evt.of (fun k => by rw [if_neg (by decide)]) (scan_ev ok l x5 v d (i + 1) (by omega) hv)
theorem add_ev (ok : OkA F H C) {l : List Nat} {q : Nat} (hq : q < H.length) (hl : l.length < 64) (x5 : List Int) (x6 : List Bool) (x7 : List (List Int)) (v : List Int × Bool) (hv : Evt (fun k => claim_order.l1 k (frv F H (l ++ [q])) x5 x6 x7 F H C) v) : ∀ d j, d + j = F.length →
    Evt (fun k => claim_order.l3 k (vec F.length (fun i => if i < j then fr (FF F) (hh H) l i + hh H q i else fr (FF F) (hh H) l i)) x5 x6 x7 (rd_L1 H (q : Int)) (F.length : Int) (j : Int) F H C) v
  | 0, j, h => by
    refine Evt.step (g := fun k => claim_order.l1 k (frv F H (l ++ [q])) x5 x6 x7 F H C) (fun k => ?_) hv
    show claim_order.l3 (k + 1) _ _ _ _ _ _ _ _ _ _ = _
    simp only [claim_order.l3]
    rw [if_neg (by omega), frv_snoc]
    congr 1
    apply vec_congr
    intro i hi
    rw [if_pos (by omega)]
  | d + 1, j, h => by
    have hp := (ok.2.2.2.2 q hq).1
    have hn := ok.2.2.1
    refine Evt.step (g := fun k => claim_order.l3 k (vec F.length (fun i => if i < j + 1 then fr (FF F) (hh H) l i + hh H q i else fr (FF F) (hh H) l i)) x5 x6 x7 (rd_L1 H (q : Int)) (F.length : Int) ((j + 1 : Nat) : Int) F H C) (fun k => ?_) (add_ev ok hq hl x5 x6 x7 v hv d (j + 1) (by omega))
    show claim_order.l3 (k + 1) _ _ _ _ _ _ _ _ _ _ = _
    simp only [claim_order.l3]
    have h1 := fr_in ok (l := l) (by omega) (k := j) (by omega)
    have h2 := hh_nn ok q j
    rw [if_pos (by omega), if_pos (by omega), if_pos (by omega), if_pos (by rw [vec_len]; omega), w1 (by omega), Int.toNat_natCast, vec_rd (by omega), if_neg (by omega), vec_set]
    have e : wrap64 (fr (FF F) (hh H) l j + rd (rd_L1 H (q : Int)) (j : Int)) = fr (FF F) (hh H) l j + hh H q j := w0 (by show _ ≤ fr (FF F) (hh H) l j + hh H q j; omega) (by show fr (FF F) (hh H) l j + hh H q j ≤ _; omega)
    rw [e]
    congr 2
    funext i
    by_cases c : i = j
    · subst c; simp
    · rw [if_neg c]
      by_cases c2 : i < j
      · rw [if_pos c2, if_pos (by omega)]
      · rw [if_neg c2, if_neg (by omega)]
def outO (m : Nat) (l : List Nat) : List Int × Bool := if l.length = m then (lI l, true) else ([], false)
theorem run_ev (ok : OkA F H C) : ∀ d l, l.length + d = H.length → Evt (fun k => claim_order.l1 k (frv F H l) (lI l) (dn H.length l) (ndv F H C) F H C) (outO H.length (G (pN F H C) H.length d l))
  | 0, l, h => by
    refine Evt.step (g := fun _ => some (lI l, true)) (fun k => ?_) (Evt.const fun _ => by show some (lI l, true) = some (outO H.length l); unfold outO; rw [if_pos (by omega)])
    show claim_order.l1 (k + 1) _ _ _ _ _ _ _ = _
    simp only [claim_order.l1]
    rw [if_neg (by rw [lI_len]; omega)]
  | d + 1, l, h => by
    have hm := ok.2.1
    refine Evt.step (g := fun k => claim_order.l2 k (frv F H l) (lI l) (dn H.length l) (ndv F H C) (-1) (H.length : Int) ((0 : Nat) : Int) F H C) (fun k => ?_) (scan_ev ok l (lI l) _ H.length 0 rfl ?_)
    · show claim_order.l1 (k + 1) _ _ _ _ _ _ _ = _
      simp only [claim_order.l1]
      rw [if_pos (by rw [lI_len]; omega), ndv_len]
      rfl
    · simp only [G]
      cases e : nxt (pN F H C l) 0 H.length with
      | none =>
        refine Evt.step (g := fun _ => some ([], false)) (fun k => ?_) (Evt.const fun _ => by show some ([], false) = some (outO H.length l); unfold outO; rw [if_neg (by omega)])
        show claim_order.j3 (k + 1) _ _ _ _ _ _ _ _ = _
        simp only [claim_order.j3]
        rw [if_pos (by decide)]
      | some q =>
        obtain ⟨_, hq, _⟩ := nxt_some e
        have hq : q < H.length := by omega
        have hp := (ok.2.2.2.2 q hq).1
        refine Evt.step (g := fun k => claim_order.l3 k (frv F H l) (lI (l ++ [q])) (dn H.length (l ++ [q])) (ndv F H C) (rd_L1 H (q : Int)) (F.length : Int) ((0 : Nat) : Int) F H C) (fun k => ?_) ?_
        · show claim_order.j3 (k + 1) _ _ _ _ _ _ _ _ = _
          simp only [claim_order.j3]
          rw [if_neg (by omega), if_pos (by omega), if_pos (by simp [dn]; omega), if_pos (by rw [lI_len]; omega), if_pos (by omega), lI_snoc, Int.toNat_natCast, dn_set, hp]
          rfl
        · refine Evt.of (fun k => ?_) (add_ev ok hq (by omega) (lI (l ++ [q])) (dn H.length (l ++ [q])) (ndv F H C) _ (run_ev ok d (l ++ [q]) (by simp; omega)) F.length 0 rfl)
          show claim_order.l3 k _ _ _ _ _ _ _ _ _ _ = _
          congr 1
def ord (F : List Int) (H C : List (List Int)) : List Nat := G (pN F H C) H.length H.length []
theorem clone_f {l : List Int} (h : l.length < 17592186044416) : slices_Clone_int_int_48.f l = some l := by
  unfold slices_Clone_int_int_48.f
  simp [h]
theorem order_f (ok : OkA F H C) : Evt (fun k => claim_order.f k F H C) (outO H.length (ord F H C)) := by
  have hm := ok.2.1
  have hn := ok.2.2.1
  have h1 : Evt (fun k => claim_order.l1 k (frv F H []) [] (dn H.length []) (ndv F H C) F H C) (outO H.length (ord F H C)) := run_ev ok H.length [] (by simp)
  have h2 := fill_ev ok (frv F H []) (dn H.length []) _ h1 H.length 0 rfl
  refine Evt.of (fun k => ?_) h2
  show claim_order.f k F H C = _
  unfold claim_order.f
  rw [clone_f (by omega), Option.bind_some, if_pos (by omega), Int.toNat_natCast, if_pos (by omega), if_pos (by omega), Option.bind_some, List.length_replicate]
  have e1 : F = frv F H [] := by
    conv => lhs; rw [vec_of F]
    unfold frv
    apply vec_congr
    intro q _
    simp [fr, FF, S]
  have e2 : List.replicate H.length false = dn H.length [] := by
    apply List.ext_getElem
    · simp [dn]
    · intro i h1 h2
      simp [dn]
  have e3 : List.replicate H.length ([] : List Int) = (List.range H.length).map fun q => if q < 0 then lf F H C q else [] := by
    apply List.ext_getElem
    · simp
    · intro i h1 h2
      simp
  rw [e2, e3, ← e1]
  rfl
/-- The greedy order is a chain, and if it is short nobody comes next. -/
theorem G_chain : ∀ d l, l.length + d = H.length → Chain H.length F.length (FF F) (hh H) (hh C) l → Chain H.length F.length (FF F) (hh H) (hh C) (G (pN F H C) H.length d l) ∧ ((G (pN F H C) H.length d l).length < H.length → ∀ i, ¬ ComesNext H.length F.length (FF F) (hh H) (hh C) (G (pN F H C) H.length d l) i)
  | 0, l, h, hc => by
    simp only [G]
    exact ⟨hc, fun h2 => by omega⟩
  | d + 1, l, h, hc => by
    simp only [G]
    cases e : nxt (pN F H C l) 0 H.length with
    | none =>
      refine ⟨hc, fun _ i hi => ?_⟩
      have := nxt_none e i (by omega) (by have := hi.1; omega)
      rw [(pN_iff hi.1).2 hi] at this
      cases this
    | some q =>
      obtain ⟨_, hq, hp⟩ := nxt_some e
      exact G_chain d (l ++ [q]) (by simp; omega) (hc.snoc ((pN_iff (by omega)).1 hp))
theorem ord_chain : Chain H.length F.length (FF F) (hh H) (hh C) (ord F H C) ∧ ((ord F H C).length < H.length → ∀ i, ¬ ComesNext H.length F.length (FF F) (hh H) (hh C) (ord F H C) i) := G_chain H.length [] (by simp) Chain.nil
end
theorem Evt.up {α : Type} {f : Nat → Option α} {v : α} {K : Nat} (hm : ∀ k, LeO (f k) (f (k + 1))) (h : f K = some v) : Evt f v := by
  refine ⟨K, fun k hk => ?_⟩
  obtain ⟨n, rfl⟩ : ∃ n, k = K + n := ⟨k - K, by omega⟩
  clear hk
  induction n with
  | zero => exact h
  | succ n ih => exact hm (K + n) v ih
theorem Evt.get {α : Type} {f : Nat → Option α} {v : α} (h : Evt f v) : ∃ k, f k = some v := by
  obtain ⟨K, hK⟩ := h
  exact ⟨K, hK K (Nat.le_refl _)⟩

/-! ### rows, few, own -/
def rv (l : List (List Int)) : List (List Int) := (l.take 70).map (·.take 40)
theorem rv_rv (l : List (List Int)) : rv (rv l) = rv l := by
  simp [rv, List.take_take, ← List.map_take, Function.comp_def]
theorem rows_ev (l : List (List Int)) : ∀ d i, d + i = min l.length 70 → Evt (fun k => logjamlaw25_rows.l0 k l ((l.take i).map (·.take 40)) (i : Int)) (rv l)
  | 0, i, h => by
    have e : rv l = (l.take i).map (·.take 40) := by
      unfold rv
      by_cases c : l.length ≤ 70
      · rw [List.take_of_length_le c, List.take_of_length_le (by omega)]
      · rw [show i = 70 by omega]
    rw [e]
    refine Evt.step (g := fun k => logjamlaw25_rows.j1 k l ((l.take i).map (·.take 40)) (i : Int) false) (fun k => ?_) (Evt.step (g := fun _ => some ((l.take i).map (·.take 40))) (fun k => ?_) (Evt.const fun _ => rfl))
    · show logjamlaw25_rows.l0 (k + 1) _ _ _ = _
      simp only [logjamlaw25_rows.l0]
      by_cases c : (i : Int) < (l.length : Int)
      · rw [if_pos c, decide_eq_false (by omega)]
      · rw [if_neg c]
    · show logjamlaw25_rows.j1 (k + 1) _ _ _ _ = _
      simp only [logjamlaw25_rows.j1]
      rw [if_neg (by decide)]
  | d + 1, i, h => by
    have hi : i < l.length := by omega
    have h70 : i < 70 := by omega
    have ho : ((l.take i).map (·.take 40)).length ≤ 70 := by simp; omega
    have ex : (l.take i).map (·.take 40) ++ [(rd_L1 l (i : Int)).take 40] = (l.take (i + 1)).map (·.take 40) := by
      rw [rl_at hi, List.take_succ_eq_append_getElem hi, List.map_append]
      rfl
    refine Evt.step (g := fun k => logjamlaw25_rows.j1 k l ((l.take i).map (·.take 40)) (i : Int) true) (fun k => ?_) (Evt.step (g := fun k => logjamlaw25_rows.l0 k l ((l.take (i + 1)).map (·.take 40)) ((i + 1 : Nat) : Int)) (fun k => ?_) (rows_ev l d (i + 1) (by omega)))
    · show logjamlaw25_rows.l0 (k + 1) _ _ _ = _
      simp only [logjamlaw25_rows.l0]
      rw [if_pos (by omega), decide_eq_true (by omega)]
    · show logjamlaw25_rows.j1 (k + 1) _ _ _ _ = _
      simp only [logjamlaw25_rows.j1]
      rw [if_pos trivial, if_pos (by omega), if_pos (by omega)]
      by_cases c : ((rd_L1 l (i : Int)).length : Int) > 40
      · rw [if_pos c, if_pos (by omega), Option.bind_some, if_pos (by simp; omega), if_pos (by omega), List.nil_append, ex, w1 (by omega)]
      · rw [if_neg c, Option.bind_some, if_pos (by simp; omega), if_pos (by omega), List.nil_append, w1 (by omega), ← ex, show (rd_L1 l (i : Int)).take 40 = rd_L1 l (i : Int) from List.take_of_length_le (by omega)]
theorem rows_f (l : List (List Int)) : Evt (fun k => logjamlaw25_rows.f k l) (rv l) := rows_ev l (min l.length 70) 0 rfl
theorem few_f (F : List Int) (H C : List (List Int)) : Evt (fun k => logjamlaw25_few.f k F H C) (F.take 40, rv H, rv C) := by
  have hb : ∀ X : List Int, Evt (fun k => (logjamlaw25_rows.f k H).bind fun t => (logjamlaw25_rows.f k C).bind fun u => some (X, t, u)) (X, rv H, rv C) := fun X =>
    Evt.bind (g := fun k t => (logjamlaw25_rows.f k C).bind fun u => some (X, t, u)) (rows_f H) (Evt.bind (g := fun _ u => some (X, rv H, u)) (rows_f C) (Evt.const fun _ => rfl))
  by_cases c : (F.length : Int) > 40
  · refine Evt.of (fun k => ?_) (hb (F.take 40))
    show logjamlaw25_few.f k F H C = _
    unfold logjamlaw25_few.f
    rw [if_pos c, if_pos (by omega)]
  · rw [show F.take 40 = F from List.take_of_length_le (by omega)]
    refine Evt.of (fun k => ?_) (hb F)
    show logjamlaw25_few.f k F H C = _
    unfold logjamlaw25_few.f
    rw [if_neg c]
theorem own_f (F : List Int) (H C : List (List Int)) (hF : F.length ≤ 40) : Evt (fun k => logjamlaw25_own.f k F H C) (F, rv H, rv C) := by
  have hb : Evt (fun k => (logjamlaw25_rows.f k H).bind fun t => (logjamlaw25_rows.f k C).bind fun u => some (F, t, u)) (F, rv H, rv C) :=
    Evt.bind (g := fun k t => (logjamlaw25_rows.f k C).bind fun u => some (F, t, u)) (rows_f H) (Evt.bind (g := fun _ u => some (F, rv H, u)) (rows_f C) (Evt.const fun _ => rfl))
  refine Evt.of (fun k => ?_) hb
  show logjamlaw25_own.f k F H C = _
  unfold logjamlaw25_own.f
  rw [Option.bind_some, if_pos (by simp; omega)]
  rfl

/-! ### what is wrong with an account -/
def rb (H C : List (List Int)) (i q : Nat) : Bool := badv (hh H i q) || badv (hh C i q)
def ro (H C : List (List Int)) (i q : Nat) : Bool := decide (hh H i q > hh C i q)
def bl (n : Nat) (H C : List (List Int)) (q : Nat) : Bool := !(decide ((rd_L1 H (q : Int)).length = n) && decide ((rd_L1 C (q : Int)).length = n))
theorem bl_false {n : Nat} {H C : List (List Int)} {q : Nat} : bl n H C q = false ↔ (rd_L1 H (q : Int)).length = n ∧ (rd_L1 C (q : Int)).length = n := by simp [bl]
def fin (n : Nat) (H C : List (List Int)) (x3 x4 : Bool) (i d : Nat) : Int :=
  if anyF (bl n H C) i d = true then 2 else if (x3 || anyF (fun q => anyF (rb H C q) 0 n) i d) = true then 1 else if (x4 || anyF (fun q => anyF (ro H C q) 0 n) i d) = true then 17 else 0
section
variable {F : List Int} {H C : List (List Int)}
theorem chk_row (hn : F.length ≤ 32) (hc : H.length = C.length) {i : Nat} (hm : H.length ≤ 64) (hi : i < H.length) (h1 : (rd_L1 H (i : Int)).length = F.length) (h2 : (rd_L1 C (i : Int)).length = F.length) (v : Int) : ∀ d j x3 x4, d + j = F.length →
    Evt (fun k => logjamref25_Check.l1 k (x3 || anyF (rb H C i) j d) (x4 || anyF (ro H C i) j d) ((i + 1 : Nat) : Int) F H C) v → Evt (fun k => logjamref25_Check.l2 k x3 x4 (i : Int) (j : Int) F H C) v
  | 0, j, x3, x4, h, hv => by
    simp only [anyF, Bool.or_false] at hv
    refine Evt.step (fun k => ?_) hv
    show logjamref25_Check.l2 (k + 1) _ _ _ _ _ _ _ = _
    simp only [logjamref25_Check.l2]
    rw [if_neg (by omega), w1 (by omega)]
  | d + 1, j, x3, x4, h, hv => by
    simp only [anyF] at hv
    refine Evt.step (g := fun k => logjamref25_Check.l2 k (x3 || rb H C i j) (x4 || ro H C i j) (i : Int) ((j + 1 : Nat) : Int) F H C) (fun k => ?_) (chk_row hn hc hm hi h1 h2 v d (j + 1) _ _ (by omega) (by simpa [Bool.or_assoc] using hv))
    show logjamref25_Check.l2 (k + 1) _ _ _ _ _ _ _ = _
    simp only [logjamref25_Check.l2]
    rw [if_pos (by omega), if_pos (by omega), if_pos (by omega), if_pos (by omega), if_pos (by omega), if_pos (by omega), if_pos (by omega), w1 (by omega)]
    have e1 : rd (rd_L1 H (i : Int)) (j : Int) = hh H i j := rfl
    have e2 : rd (rd_L1 C (i : Int)) (j : Int) = hh C i j := rfl
    rw [e1, e2]
    unfold rb ro badv
    by_cases a1 : hh H i j < 0 <;> by_cases a2 : hh H i j > 1000 <;> by_cases a3 : hh C i j < 0 <;> by_cases a4 : hh C i j > 1000 <;> cases x3 <;> cases x4 <;> simp [a1, a2, a3, a4]
theorem chk_l1 (hn : F.length ≤ 32) (hc : H.length = C.length) (hm : H.length ≤ 64) : ∀ d i x3 x4, d + i = H.length → Evt (fun k => logjamref25_Check.l1 k x3 x4 (i : Int) F H C) (fin F.length H C x3 x4 i d)
  | 0, i, x3, x4, h => by
    refine Evt.step (g := fun _ => some (fin F.length H C x3 x4 i 0)) (fun k => ?_) (Evt.const fun _ => rfl)
    show logjamref25_Check.l1 (k + 1) _ _ _ _ _ _ = _
    simp only [logjamref25_Check.l1, fin, anyF]
    rw [if_neg (by omega)]
    cases x3 <;> cases x4 <;> rfl
  | d + 1, i, x3, x4, h => by
    by_cases c : bl F.length H C i = true
    · have e : fin F.length H C x3 x4 i (d + 1) = 2 := by simp only [fin, anyF, c, Bool.true_or, if_true]
      rw [e]
      refine Evt.step (g := fun k => logjamref25_Check.j3 k x3 x4 (i : Int) true F H C) (fun k => ?_) (Evt.step (g := fun _ => some 2) (fun k => ?_) (Evt.const fun _ => rfl))
      · show logjamref25_Check.l1 (k + 1) _ _ _ _ _ _ = _
        simp only [logjamref25_Check.l1]
        rw [if_pos (by omega), if_pos (by omega)]
        by_cases a : ((rd_L1 H (i : Int)).length : Int) = (F.length : Int)
        · rw [if_pos a, if_pos (by omega)]
          have : ¬ (rd_L1 C (i : Int)).length = F.length := fun e => by
            rw [bl_false.2 ⟨by omega, e⟩] at c
            cases c
          rw [bne_iff_ne.mpr (by omega : ((rd_L1 C (i : Int)).length : Int) ≠ (F.length : Int))]
        · rw [if_neg a]
      · show logjamref25_Check.j3 (k + 1) _ _ _ _ _ _ _ = _
        simp only [logjamref25_Check.j3]
        rw [if_pos trivial]
    · have c := Bool.eq_false_iff.2 c
      obtain ⟨b1, b2⟩ := bl_false.1 c
      have e : fin F.length H C x3 x4 i (d + 1) = fin F.length H C (x3 || anyF (rb H C i) 0 F.length) (x4 || anyF (ro H C i) 0 F.length) (i + 1) d := by
        simp only [fin, anyF, c, Bool.false_or, Bool.or_assoc]
        rfl
      rw [e]
      refine Evt.step (g := fun k => logjamref25_Check.j3 k x3 x4 (i : Int) false F H C) (fun k => ?_) (Evt.step (g := fun k => logjamref25_Check.l2 k x3 x4 (i : Int) ((0 : Nat) : Int) F H C) (fun k => ?_) (chk_row hn hc hm (by omega) b1 b2 _ F.length 0 x3 x4 rfl (chk_l1 hn hc hm d (i + 1) _ _ (by omega))))
      · show logjamref25_Check.l1 (k + 1) _ _ _ _ _ _ = _
        simp only [logjamref25_Check.l1]
        rw [if_pos (by omega), if_pos (by omega), if_pos (by omega), if_pos (by omega), b2, bne_self_eq_false]
      · show logjamref25_Check.j3 (k + 1) _ _ _ _ _ _ _ = _
        simp only [logjamref25_Check.j3]
        rw [if_neg (by decide)]
        rfl
theorem chk_l0 (hn : F.length ≤ 32) (hc : H.length = C.length) (hm : H.length ≤ 64) : ∀ d j x3, d + j = F.length → Evt (fun k => logjamref25_Check.l0 k x3 false (j : Int) F H C) (fin F.length H C (x3 || anyF (fun q => badv (rd F (q : Int))) j d) false 0 H.length)
  | 0, j, x3, h => by
    simp only [anyF, Bool.or_false]
    refine Evt.step (fun k => ?_) (chk_l1 hn hc hm H.length 0 x3 false rfl)
    show logjamref25_Check.l0 (k + 1) _ _ _ _ _ _ = _
    simp only [logjamref25_Check.l0]
    rw [if_neg (by omega)]
    rfl
  | d + 1, j, x3, h => by
    simp only [anyF, ← Bool.or_assoc]
    refine Evt.step (g := fun k => logjamref25_Check.l0 k (x3 || badv (rd F (j : Int))) false ((j + 1 : Nat) : Int) F H C) (fun k => ?_) (chk_l0 hn hc hm d (j + 1) _ (by omega))
    show logjamref25_Check.l0 (k + 1) _ _ _ _ _ _ = _
    simp only [logjamref25_Check.l0]
    rw [if_pos (by omega), if_pos (by omega : (0 : Int) ≤ (j : Int)), w1 (by omega)]
    unfold badv
    by_cases a1 : rd F (j : Int) < 0 <;> by_cases a2 : rd F (j : Int) > 1000 <;> cases x3 <;> simp [a1, a2]
def chk (F : List Int) (H C : List (List Int)) : Int :=
  if H.length = C.length ∧ H.length ≤ 64 ∧ F.length ≤ 32 then fin F.length H C (anyF (fun q => badv (rd F (q : Int))) 0 F.length) false 0 H.length else 2
theorem rcheck_f (F : List Int) (H C : List (List Int)) : Evt (fun k => logjamref25_Check.f k F H C) (chk F H C) := by
  unfold chk
  have tw : Evt (fun k => logjamref25_Check.j0 k true F H C) 2 := Evt.step (g := fun _ => some 2) (fun k => by show logjamref25_Check.j0 (k + 1) _ _ _ _ = _; simp only [logjamref25_Check.j0]; rw [if_pos trivial]) (Evt.const fun _ => rfl)
  by_cases c1 : H.length = C.length
  · by_cases c2 : H.length ≤ 64
    · by_cases c3 : F.length ≤ 32
      · rw [if_pos ⟨c1, c2, c3⟩]
        refine Evt.of (g := fun k => logjamref25_Check.j0 k false F H C) (fun k => ?_) (Evt.step (g := fun k => logjamref25_Check.l0 k false false ((0 : Nat) : Int) F H C) (fun k => ?_) (by have := chk_l0 c3 c1 c2 F.length 0 false rfl; rw [Bool.false_or] at this; exact this))
        · show logjamref25_Check.f k F H C = _
          unfold logjamref25_Check.f
          rw [if_pos (by omega), if_neg (by omega), decide_eq_false (by omega)]
        · show logjamref25_Check.j0 (k + 1) _ _ _ _ = _
          simp only [logjamref25_Check.j0]
          rw [if_neg (by decide)]
          rfl
      · rw [if_neg (fun h => c3 h.2.2)]
        refine Evt.of (fun k => ?_) tw
        show logjamref25_Check.f k F H C = _
        unfold logjamref25_Check.f
        rw [if_pos (by omega), if_neg (by omega), decide_eq_true (by omega)]
    · rw [if_neg (fun h => c2 h.2.1)]
      refine Evt.of (fun k => ?_) tw
      show logjamref25_Check.f k F H C = _
      unfold logjamref25_Check.f
      rw [if_pos (by omega), if_pos (by omega)]
  · rw [if_neg (fun h => c1 h.1)]
    refine Evt.of (fun k => ?_) tw
    show logjamref25_Check.f k F H C = _
    unfold logjamref25_Check.f
    rw [if_neg (by omega)]
theorem badv_false {x : Int} : badv x = false ↔ 0 ≤ x ∧ x ≤ 1000 := by unfold badv; simp
theorem chk_ok (h : chk F H C = 0) : OkA F H C := by
  unfold chk at h
  split at h
  · rename_i c
    unfold fin at h
    split at h
    · cases h
    · rename_i a1
      split at h
      · cases h
      · rename_i a2
        split at h
        · cases h
        · rename_i a3
          have a1 := (anyF_false _ _ _).1 (Bool.eq_false_iff.2 a1)
          have a2 := Bool.eq_false_iff.2 a2
          have a3 := Bool.eq_false_iff.2 a3
          rw [Bool.or_eq_false_iff] at a2 a3
          have b1 := (anyF_false _ _ _).1 a2.1
          have b2 := (anyF_false _ _ _).1 a2.2
          have b3 := (anyF_false _ _ _).1 a3.2
          refine ⟨c.1, c.2.1, c.2.2, fun k hk => badv_false.1 (b1 k (by omega) (by omega)), fun i hi => ?_⟩
          obtain ⟨l1, l2⟩ := bl_false.1 (a1 i (by omega) (by omega))
          refine ⟨l1, l2, fun k hk => ?_⟩
          have x1 := (anyF_false _ _ _).1 (b2 i (by omega) (by omega)) k (by omega) (by omega)
          have x2 := (anyF_false _ _ _).1 (b3 i (by omega) (by omega)) k (by omega) (by omega)
          unfold rb at x1
          rw [Bool.or_eq_false_iff] at x1
          have y1 := badv_false.1 x1.1
          have y2 := badv_false.1 x1.2
          have y3 := of_decide_eq_false x2
          omega
  · cases h
end

/-! ### the same by the program -/
section
variable {F : List Int} {H C : List (List Int)}
def bu (H C : List (List Int)) (q : Nat) : Bool := !(uni (rd_L1 H (q : Int)) && uni (rd_L1 C (q : Int)))
theorem cov (hm : H.length ≤ 64) (hn : F.length ≤ 32) (hc : H.length = C.length) (hb : ∀ q, q < H.length → bl F.length H C q = false) {i : Nat} (hi : i < H.length) (v : Int) (hv : Evt (fun k => claim_Check.l2 k (H.length : Int) ((i + 1 : Nat) : Int) F H C) v) : ∀ d j, d + j = F.length →
    Evt (fun k => claim_Check.l3 k (i : Int) (H.length : Int) (i : Int) (rd_L1 H (i : Int)) (F.length : Int) (j : Int) F H C) (cond (anyF (ro H C i) j d) 17 v)
  | 0, j, h => by
    simp only [anyF]
    refine Evt.step (fun k => ?_) hv
    show claim_Check.l3 (k + 1) _ _ _ _ _ _ _ _ _ = _
    simp only [claim_Check.l3]
    rw [if_neg (by omega), w1 (by omega)]
  | d + 1, j, h => by
    obtain ⟨b1, b2⟩ := bl_false.1 (hb i hi)
    simp only [anyF]
    by_cases c : hh H i j > hh C i j
    · rw [show ro H C i j = true from decide_eq_true c, Bool.true_or, cond_true]
      refine Evt.step (g := fun _ => some 17) (fun k => ?_) (Evt.const fun _ => rfl)
      show claim_Check.l3 (k + 1) _ _ _ _ _ _ _ _ _ = _
      simp only [claim_Check.l3]
      rw [if_pos (by omega), if_pos (by omega), if_pos (by omega), if_pos (by omega), if_pos (by omega), if_pos (by omega)]
      exact if_pos c
    · rw [show ro H C i j = false from decide_eq_false c, Bool.false_or]
      refine Evt.step (fun k => ?_) (cov hm hn hc hb hi v hv d (j + 1) (by omega))
      show claim_Check.l3 (k + 1) _ _ _ _ _ _ _ _ _ = _
      simp only [claim_Check.l3]
      rw [if_pos (by omega), if_pos (by omega), if_pos (by omega), if_pos (by omega), if_pos (by omega), if_pos (by omega), w1 (by omega)]
      exact if_neg c
theorem cl2 (hm : H.length ≤ 64) (hn : F.length ≤ 32) (hc : H.length = C.length) (hb : ∀ q, q < H.length → bl F.length H C q = false) : ∀ d i, d + i = H.length →
    Evt (fun k => claim_Check.l2 k (H.length : Int) (i : Int) F H C) (cond (anyF (fun q => anyF (ro H C q) 0 F.length) i d) 17 0)
  | 0, i, h => by
    simp only [anyF]
    refine Evt.step (g := fun _ => some 0) (fun k => ?_) (Evt.const fun _ => rfl)
    show claim_Check.l2 (k + 1) _ _ _ _ _ = _
    simp only [claim_Check.l2]
    rw [if_neg (by omega)]
  | d + 1, i, h => by
    have e : (cond (anyF (fun q => anyF (ro H C q) 0 F.length) i (d + 1)) (17 : Int) 0) = cond (anyF (ro H C i) 0 F.length) 17 (cond (anyF (fun q => anyF (ro H C q) 0 F.length) (i + 1) d) 17 0) := by
      simp only [anyF]
      cases anyF (ro H C i) 0 F.length <;> rfl
    rw [e]
    refine Evt.step (fun k => ?_) (cov hm hn hc hb (by omega) _ (cl2 hm hn hc hb d (i + 1) (by omega)) F.length 0 rfl)
    show claim_Check.l2 (k + 1) _ _ _ _ _ = _
    simp only [claim_Check.l2]
    rw [if_pos (by omega), if_pos (by omega), if_pos (by omega), (bl_false.1 (hb i (by omega))).1]
    rfl
theorem cl1 (hm : H.length ≤ 64) (hn : F.length ≤ 32) (hc : H.length = C.length) (hb : ∀ q, q < H.length → bl F.length H C q = false) : ∀ d i x, d + i = H.length →
    Evt (fun k => claim_Check.l1 k (H.length : Int) x (H.length : Int) (i : Int) F H C) (cond (x && !(anyF (bu H C) i d)) (cond (anyF (fun q => anyF (ro H C q) 0 F.length) 0 H.length) 17 0) 1)
  | 0, i, x, h => by
    simp only [anyF, Bool.not_false, Bool.and_true]
    cases x with
    | true =>
      refine Evt.step (fun k => ?_) (cl2 hm hn hc hb H.length 0 rfl)
      show claim_Check.l1 (k + 1) _ _ _ _ _ _ _ = _
      simp only [claim_Check.l1]
      rw [if_neg (by omega), if_pos trivial]
      rfl
    | false =>
      refine Evt.step (g := fun _ => some 1) (fun k => ?_) (Evt.const fun _ => rfl)
      show claim_Check.l1 (k + 1) _ _ _ _ _ _ _ = _
      simp only [claim_Check.l1]
      rw [if_neg (by omega), if_neg (by decide)]
  | d + 1, i, x, h => by
    obtain ⟨b1, b2⟩ := bl_false.1 (hb i (by omega))
    have e : (x && !(anyF (bu H C) i (d + 1))) = ((x && (uni (rd_L1 H (i : Int)) && uni (rd_L1 C (i : Int)))) && !(anyF (bu H C) (i + 1) d)) := by
      simp only [anyF, bu]
      cases x <;> cases uni (rd_L1 H (i : Int)) <;> cases uni (rd_L1 C (i : Int)) <;> simp
    rw [e]
    have ih := fun y => cl1 hm hn hc hb d (i + 1) y (by omega)
    cases x with
    | false =>
      refine Evt.step (fun k => ?_) (ih false)
      show claim_Check.l1 (k + 1) _ _ _ _ _ _ _ = _
      simp only [claim_Check.l1]
      rw [if_pos (by omega), if_neg (by decide), w1 (by omega)]
    | true =>
      refine Evt.step (g := fun k => (claim_units.f k (rd_L1 H (i : Int))).bind fun t => if t = true then (claim_units.f k (rd_L1 C (i : Int))).bind fun u => claim_Check.l1 k (H.length : Int) u (H.length : Int) ((i + 1 : Nat) : Int) F H C else claim_Check.l1 k (H.length : Int) false (H.length : Int) ((i + 1 : Nat) : Int) F H C) (fun k => ?_) (Evt.bind (units_f _ (by omega)) ?_)
      · show claim_Check.l1 (k + 1) _ _ _ _ _ _ _ = _
        simp only [claim_Check.l1]
        rw [if_pos (by omega), if_pos trivial, if_pos (by omega), if_pos (by omega), if_pos (by omega), w1 (by omega)]
      · cases uni (rd_L1 H (i : Int)) with
        | false => exact Evt.of (fun k => by rw [if_neg (by decide)]) (ih false)
        | true =>
          refine Evt.of (g := fun k => (claim_units.f k (rd_L1 C (i : Int))).bind fun u => claim_Check.l1 k (H.length : Int) u (H.length : Int) ((i + 1 : Nat) : Int) F H C) (fun k => by rw [if_pos rfl]) (Evt.bind (g := fun k u => claim_Check.l1 k (H.length : Int) u (H.length : Int) ((i + 1 : Nat) : Int) F H C) (units_f _ (by omega)) ?_)
          have := ih (uni (rd_L1 C (i : Int)))
          simpa using this
theorem cl0 (hm : H.length ≤ 64) (hn : F.length ≤ 32) (hc : H.length = C.length) (v : Int) (hv : (∀ q, q < H.length → bl F.length H C q = false) → Evt (fun k => (claim_units.f k F).bind fun t => claim_Check.l1 k (H.length : Int) t (H.length : Int) 0 F H C) v) : ∀ d i, d + i = H.length → (∀ q, q < i → bl F.length H C q = false) →
    Evt (fun k => claim_Check.l0 k (H.length : Int) (F.length : Int) (H.length : Int) (i : Int) F H C) (cond (anyF (bl F.length H C) i d) 2 v)
  | 0, i, h, hb => by
    simp only [anyF]
    refine Evt.step (fun k => ?_) (hv (fun q hq => hb q (by omega)))
    show claim_Check.l0 (k + 1) _ _ _ _ _ _ _ = _
    simp only [claim_Check.l0]
    rw [if_neg (by omega)]
  | d + 1, i, h, hb => by
    simp only [anyF]
    cases c : bl F.length H C i with
    | true =>
      rw [Bool.true_or, cond_true]
      refine Evt.step (g := fun _ => some 2) (fun k => ?_) (Evt.const fun _ => rfl)
      show claim_Check.l0 (k + 1) _ _ _ _ _ _ _ = _
      simp only [claim_Check.l0]
      rw [if_pos (by omega), if_pos (by omega), if_pos (by omega)]
      by_cases a : ((rd_L1 H (i : Int)).length : Int) = (F.length : Int)
      · rw [if_pos a, if_pos (by omega)]
        refine if_neg (fun e => ?_)
        rw [bl_false.2 ⟨by omega, by omega⟩] at c
        cases c
      · rw [if_neg a]
    | false =>
      obtain ⟨b1, b2⟩ := bl_false.1 c
      rw [Bool.false_or]
      refine Evt.step (fun k => ?_) (cl0 hm hn hc v hv d (i + 1) (by omega) (fun q hq => by
        by_cases e : q = i
        · subst e; exact c
        · exact hb q (by omega)))
      show claim_Check.l0 (k + 1) _ _ _ _ _ _ _ = _
      simp only [claim_Check.l0]
      rw [if_pos (by omega), if_pos (by omega), if_pos (by omega), if_pos (by omega), if_pos (by omega), if_pos (by omega), w1 (by omega)]
theorem anyF_or (p q : Nat → Bool) : ∀ d i, anyF (fun x => p x || q x) i d = (anyF p i d || anyF q i d)
  | 0, i => rfl
  | d + 1, i => by
    simp only [anyF, anyF_or p q d (i + 1)]
    cases p i <;> cases q i <;> simp
theorem anyF_congr {p q : Nat → Bool} : ∀ d i, (∀ x, i ≤ x → x < i + d → p x = q x) → anyF p i d = anyF q i d
  | 0, i, _ => rfl
  | d + 1, i, h => by simp only [anyF]; rw [h i (by omega) (by omega), anyF_congr d (i + 1) (fun x h1 h2 => h x (by omega) (by omega))]
theorem check_f (F : List Int) (H C : List (List Int)) : Evt (fun k => claim_Check.f k F H C) (chk F H C) := by
  unfold chk
  have tw : ∀ a b, Evt (fun k => claim_Check.j0 k a b true F H C) 2 := fun a b => Evt.step (g := fun _ => some 2) (fun k => by show claim_Check.j0 (k + 1) _ _ _ _ _ _ = _; simp only [claim_Check.j0]; rw [if_pos trivial]) (Evt.const fun _ => rfl)
  by_cases c1 : H.length = C.length
  · by_cases c2 : H.length ≤ 64
    · by_cases c3 : F.length ≤ 32
      · rw [if_pos ⟨c1, c2, c3⟩]
        have hv := cl0 c2 c3 c1 (cond (uni F && !(anyF (bu H C) 0 H.length)) (cond (anyF (fun q => anyF (ro H C q) 0 F.length) 0 H.length) 17 0) 1)
          (fun hb => Evt.bind (g := fun k t => claim_Check.l1 k (H.length : Int) t (H.length : Int) 0 F H C) (units_f F (by omega)) (cl1 c2 c3 c1 hb H.length 0 (uni F) rfl)) H.length 0 rfl (fun q hq => by omega)
        have e : cond (anyF (bl F.length H C) 0 H.length) 2 (cond (uni F && !(anyF (bu H C) 0 H.length)) (cond (anyF (fun q => anyF (ro H C q) 0 F.length) 0 H.length) 17 0) 1) = fin F.length H C (anyF (fun q => badv (rd F (q : Int))) 0 F.length) false 0 H.length := by
          unfold fin
          cases hb : anyF (bl F.length H C) 0 H.length with
          | true => rfl
          | false =>
            have hb2 := (anyF_false _ _ _).1 hb
            have e2 : anyF (fun q => anyF (rb H C q) 0 F.length) 0 H.length = anyF (bu H C) 0 H.length := by
              apply anyF_congr
              intro q _ hq
              obtain ⟨b1, b2⟩ := bl_false.1 (hb2 q (by omega) (by omega))
              show anyF (rb H C q) 0 F.length = bu H C q
              unfold bu uni
              rw [b1, b2, Bool.not_and, Bool.not_not, Bool.not_not]
              exact anyF_or _ _ _ _
            rw [e2]
            unfold uni
            cases anyF (fun q => badv (rd F (q : Int))) 0 F.length <;> cases anyF (bu H C) 0 H.length <;> cases anyF (fun q => anyF (ro H C q) 0 F.length) 0 H.length <;> rfl
        rw [e] at hv
        refine Evt.of (g := fun k => claim_Check.j0 k (H.length : Int) (F.length : Int) false F H C) (fun k => ?_) (Evt.step (fun k => ?_) hv)
        · show claim_Check.f k F H C = _
          unfold claim_Check.f
          rw [if_pos (by omega), if_neg (by omega), decide_eq_false (by omega)]
        · show claim_Check.j0 (k + 1) _ _ _ _ _ _ = _
          simp only [claim_Check.j0]
          rw [if_neg (by decide)]
          rfl
      · rw [if_neg (fun h => c3 h.2.2)]
        refine Evt.of (fun k => ?_) (tw (H.length : Int) (F.length : Int))
        show claim_Check.f k F H C = _
        unfold claim_Check.f
        rw [if_pos (by omega), if_neg (by omega), decide_eq_true (by omega)]
    · rw [if_neg (fun h => c2 h.2.1)]
      refine Evt.of (fun k => ?_) (tw (H.length : Int) (F.length : Int))
      show claim_Check.f k F H C = _
      unfold claim_Check.f
      rw [if_pos (by omega), if_pos (by omega)]
  · rw [if_neg (fun h => c1 h.1)]
    refine Evt.of (fun k => ?_) (tw (H.length : Int) (F.length : Int))
    show claim_Check.f k F H C = _
    unfold claim_Check.f
    rw [if_neg (by omega)]
theorem Order_f (F : List Int) (H C : List (List Int)) : Evt (fun k => claim_Order.f k F H C) (if chk F H C = 0 then outO H.length (ord F H C) else ([], false)) := by
  refine Evt.of (g := fun k => (claim_Check.f k F H C).bind fun t => if t = 0 then (claim_order.f k F H C).bind fun b => some (b.1, b.2) else some ([], false)) (fun k => rfl) (Evt.bind (check_f F H C) ?_)
  by_cases c : chk F H C = 0
  · rw [if_pos c]
    exact Evt.of (g := fun k => (claim_order.f k F H C).bind fun b => some (b.1, b.2)) (fun k => by rw [if_pos c]) (Evt.bind (g := fun _ b => some (b.1, b.2)) (order_f (chk_ok c)) (Evt.const fun _ => rfl))
  · rw [if_neg c]
    exact Evt.of (g := fun _ => some ([], false)) (fun k => by rw [if_neg c]) (Evt.const fun _ => rfl)
end
theorem lives_f : Evt (fun k => logjamlaw25_lives.f k) true := Evt.up (K := 80) logjamlaw25_lives.mono (by decide +kernel)
end Go.Proofs.Ytlggjacghemakaa.ClClaimBack
