/- The page's places: what its readers come to. Conditions: none. -/
import Derived.Test.YtjcjhmnfknenlaaPx2
import Derived.Test.YtjcjhmnfknenlaaPx1
import Derived.Test.YtjcjhmnfknenlaaPPlaceApartx3
import Derived.Test.YtjcjhmnfknenlaaR2PPlaceApart
import Derived.Test.YtjcjhmnfknenlaaPl13
namespace Go.Proofs.Ytjcjhmnfknenlaa.Px
open Go.RowKit Go.Proofs.Ytjcjhmnfknenlaa.PPlaceApart Go.Proofs.YtjcjhmnfknenlaaW.PrintWords Go.Proofs.YtjcjhmnfknenlaaW.PrintLast Go.Proofs.YtjcjhmnfknenlaaW.PrintMore
open Pl (Pa Inv Ok wher on readyA readyB putA leaveA dropA workA workN fetchA allS inB doA flagI wo A0 rg)
set_option linter.unusedVariables false
set_option linter.unusedSimpArgs false

def Ev {α : Type} (f : Nat → Option α) (v : α) : Prop := ∃ K, ∀ k, K ≤ k → f k = some v
theorem has_l (l : List Int) (t : Int) (hl : l.length ≤ 1000) : ∀ (d i : Nat), i + d = l.length → ∀ k, d < k → logjamref35_has.l0 k l t (i : Int) = some (decide (t ∈ l.drop i)) := by
  intro d
  induction d with
  | zero =>
    intro i hi k hk
    obtain ⟨k, rfl⟩ : ∃ m, k = m + 1 := ⟨k - 1, by omega⟩
    unfold logjamref35_has.l0
    rw [if_neg (by omega), List.drop_eq_nil_of_le (by omega)]
    rfl
  | succ d ih =>
    intro i hi k hk
    obtain ⟨k, rfl⟩ : ∃ m, k = m + 1 := ⟨k - 1, by omega⟩
    have hlt : i < l.length := by omega
    have e : rd l (i : Int) = l[i] := by simp [rd, List.getD_eq_getElem?_getD, hlt]
    unfold logjamref35_has.l0
    rw [if_pos (by omega), if_pos (by omega), e, List.drop_eq_getElem_cons hlt]
    by_cases c : l[i] = t
    · rw [if_pos c]
      simp [c]
    · rw [if_neg c, show wrap64 ((i : Int) + 1) = ((i + 1 : Nat) : Int) from by unfold wrap64; omega, ih (i + 1) (by omega) k (by omega)]
      congr 1
      rw [decide_eq_decide, List.mem_cons]
      exact ⟨.inr, fun z => z.resolve_left (fun q => c q.symm)⟩
theorem has_f (l : List Int) (t : Int) (hl : l.length ≤ 1000) {k : Nat} (hk : 1001 ≤ k) : logjamref35_has.f k l t = some (decide (t ∈ l)) := has_l l t hl l.length 0 (by omega) k (by omega)
def inO (own : List (List Int)) (t : Int) : Bool := own.any fun l => decide (t ∈ l)
theorem inO_cons (l : List Int) (o : List (List Int)) (t : Int) : inO (l :: o) t = (decide (t ∈ l) || inO o t) := rfl
theorem where_l (on cn : List Int) (own : List (List Int)) (gl : List Int) (t : Int) (hl : own.length ≤ 1000) (ho : ∀ l ∈ own, l.length ≤ 1000) (hg : gl.length ≤ 1000) : ∀ (d i : Nat), i + d = own.length → ∀ k, d + 1002 < k → logjamref35_Where.l0 k t (i : Int) on cn own gl = some (if inO (own.drop i) t = true then 2 else if t ∈ gl then 3 else 0) := by
  intro d
  induction d with
  | zero =>
    intro i hi k hk
    obtain ⟨k, rfl⟩ : ∃ m, k = m + 1 := ⟨k - 1, by omega⟩
    unfold logjamref35_Where.l0
    rw [if_neg (by omega), List.drop_eq_nil_of_le (by omega), has_f _ _ hg (by omega)]
    show (if decide (t ∈ gl) = true then some 3 else some 0) = _
    by_cases c : t ∈ gl <;> simp [c, inO]
  | succ d ih =>
    intro i hi k hk
    obtain ⟨k, rfl⟩ : ∃ m, k = m + 1 := ⟨k - 1, by omega⟩
    have hlt : i < own.length := by omega
    have e : rd_L1 own (i : Int) = own[i] := by simp [rd_L1, List.getD_eq_getElem?_getD, hlt]
    unfold logjamref35_Where.l0
    rw [if_pos (by omega), if_pos (by omega), e, has_f _ _ (ho _ (List.getElem_mem hlt)) (by omega), List.drop_eq_getElem_cons hlt]
    show (if decide (t ∈ own[i]) = true then some 2 else _) = _
    rw [inO_cons]
    by_cases c : t ∈ own[i]
    · rw [if_pos (decide_eq_true c), if_pos (by rw [decide_eq_true c]; rfl)]
    · rw [if_neg (by simp [c]), show wrap64 ((i : Int) + 1) = ((i + 1 : Nat) : Int) from by unfold wrap64; omega, ih (i + 1) (by omega) k (by omega), decide_eq_false c, Bool.false_or]
def whP (on : List Int) (own : List (List Int)) (gl : List Int) (t : Int) : Int := if t < 0 ∨ 63 < t then 0 else if t ∈ on then 1 else if inO own t = true then 2 else if t ∈ gl then 3 else 0
theorem where_f (on cn : List Int) (own : List (List Int)) (gl : List Int) (t : Int) (h0 : on.length ≤ 1000) (hl : own.length ≤ 1000) (ho : ∀ l ∈ own, l.length ≤ 1000) (hg : gl.length ≤ 1000) {k : Nat} (hk : 2010 ≤ k) : logjamref35_Where.f k on cn own gl t = some (whP on own gl t) := by
  obtain ⟨k, rfl⟩ : ∃ m, k = m + 1 := ⟨k - 1, by omega⟩
  unfold logjamref35_Where.f logjamref35_Where.j0 whP
  by_cases c : t < 0
  · simp [c]
  · by_cases c2 : 63 < t
    · simp [c, c2]
    · have hw := where_l on cn own gl t hl ho hg own.length 0 (by omega) k (by omega)
      rw [if_neg c, if_neg (show ¬ (t < 0 ∨ 63 < t) by omega), decide_eq_false (show ¬ t > 63 by omega)]
      show (if false = true then some 0 else (logjamref35_has.f k on t).bind _) = _
      rw [if_neg (by decide), has_f _ _ h0 (by omega)]
      show (if decide (t ∈ on) = true then some 1 else _) = _
      by_cases c3 : t ∈ on
      · rw [if_pos (decide_eq_true c3), if_pos c3]
      · rw [if_neg (by simp [c3]), if_neg c3]
        exact hw
theorem all_l (on cn : List Int) (own : List (List Int)) (gl : List Int) (h0 : on.length ≤ 1000) (hl : own.length ≤ 1000) (ho : ∀ l ∈ own, l.length ≤ 1000) (hg : gl.length ≤ 1000) : ∀ (d i : Nat), i + d = 64 → ∀ k, d + 2010 < k →
    logjamref35_All.l0 k ((Pl.Gs.setOf (fun t => decide (0 < whP on own gl (t : Int))) i : Nat) : Int) (i : Int) on cn own gl = some ((Pl.Gs.setOf (fun t => decide (0 < whP on own gl (t : Int))) 64 : Nat) : Int) := by
  intro d
  induction d with
  | zero =>
    intro i hi k hk
    obtain ⟨k, rfl⟩ : ∃ m, k = m + 1 := ⟨k - 1, by omega⟩
    unfold logjamref35_All.l0
    rw [if_neg (by omega), show i = 64 by omega]
  | succ d ih =>
    intro i hi k hk
    obtain ⟨k, rfl⟩ : ∃ m, k = m + 1 := ⟨k - 1, by omega⟩
    unfold logjamref35_All.l0
    rw [if_pos (by omega), where_f on cn own gl _ h0 hl ho hg (by omega), show wrap64 ((i : Int) + 1) = ((i + 1 : Nat) : Int) from by unfold wrap64; omega]
    show (if whP on own gl (i : Int) > 0 then _ else _) = _
    have hs : Pl.Gs.setOf (fun t => decide (0 < whP on own gl (t : Int))) (i + 1) = if decide (0 < whP on own gl (i : Int)) = true then Pl.Gs.setOf (fun t => decide (0 < whP on own gl (t : Int))) i ||| 2 ^ i else Pl.Gs.setOf (fun t => decide (0 < whP on own gl (t : Int))) i := rfl
    by_cases c : 0 < whP on own gl (i : Int)
    · rw [if_pos c, R2.with_in (Pl.Gs.setOf_top _ (by omega)) (by omega) (by omega)]
      rw [if_pos (decide_eq_true c)] at hs
      rw [Option.bind_some, ← hs]
      exact ih (i + 1) (by omega) k (by omega)
    · rw [if_neg c]
      rw [if_neg (by simp; omega)] at hs
      rw [← hs]
      exact ih (i + 1) (by omega) k (by omega)
theorem all_f (on cn : List Int) (own : List (List Int)) (gl : List Int) (h0 : on.length ≤ 1000) (hl : own.length ≤ 1000) (ho : ∀ l ∈ own, l.length ≤ 1000) (hg : gl.length ≤ 1000) {k : Nat} (hk : 2100 ≤ k) :
    logjamref35_All.f k on cn own gl = some ((Pl.Gs.setOf (fun t => decide (0 < whP on own gl (t : Int))) 64 : Nat) : Int) := all_l on cn own gl h0 hl ho hg 64 0 (by omega) k (by omega)
theorem ints_l (a b : List Int) (hl : a.length ≤ 1000) (e : a.length = b.length) : ∀ (d i : Nat), i + d = a.length → a.take i = b.take i → ∀ k, d < k → logjamlaw35_ints.l0 k a b (i : Int) = some (decide (a = b)) := by
  intro d
  induction d with
  | zero =>
    intro i hi ht k hk
    obtain ⟨k, rfl⟩ : ∃ m, k = m + 1 := ⟨k - 1, by omega⟩
    unfold logjamlaw35_ints.l0
    rw [List.take_of_length_le (by omega), List.take_of_length_le (by omega)] at ht
    rw [if_neg (by omega), decide_eq_true ht]
  | succ d ih =>
    intro i hi ht k hk
    obtain ⟨k, rfl⟩ : ∃ m, k = m + 1 := ⟨k - 1, by omega⟩
    have h1 : i < a.length := by omega
    have h2 : i < b.length := by omega
    have e1 : rd a (i : Int) = a[i] := by simp [rd, List.getD_eq_getElem?_getD, h1]
    have e2 : rd b (i : Int) = b[i] := by simp [rd, List.getD_eq_getElem?_getD, h2]
    unfold logjamlaw35_ints.l0
    rw [if_pos (by omega), if_pos (by omega), if_pos (by omega), e1, e2]
    by_cases c : a[i] = b[i]
    · rw [if_pos c, show wrap64 ((i : Int) + 1) = ((i + 1 : Nat) : Int) from by unfold wrap64; omega]
      exact ih (i + 1) (by omega) (by rw [List.take_succ_eq_append_getElem h1, List.take_succ_eq_append_getElem h2, ht, c]) k (by omega)
    · rw [if_neg c, decide_eq_false]
      rintro rfl
      exact c rfl
theorem ints_f (a b : List Int) (hl : a.length ≤ 1000) {k : Nat} (hk : 1001 ≤ k) : logjamlaw35_ints.f k a b = some (decide (a = b)) := by
  unfold logjamlaw35_ints.f
  by_cases e : a.length = b.length
  · rw [if_pos (by rw [e])]
    exact ints_l a b hl e a.length 0 (by omega) rfl k (by omega)
  · rw [if_neg (by omega), decide_eq_false]
    rintro rfl
    exact e rfl
theorem wo_cons (a : Int) (l : List Int) (t : Int) : wo (a :: l) t = if a = t then wo l t else a :: wo l t := by
  unfold wo
  by_cases c : a = t <;> simp [c]
theorem out_l (l : List Int) (t : Int) (hl : l.length ≤ 1000) : ∀ (d i : Nat) (x : List Int), i + d = l.length → x.length ≤ i → ∀ k, d < k → logjamref35_out.l0 k l t x (i : Int) = some (x ++ wo (l.drop i) t) := by
  intro d
  induction d with
  | zero =>
    intro i x hi hx k hk
    obtain ⟨k, rfl⟩ : ∃ m, k = m + 1 := ⟨k - 1, by omega⟩
    unfold logjamref35_out.l0
    rw [if_neg (by omega), List.drop_eq_nil_of_le (by omega)]
    simp [wo]
  | succ d ih =>
    intro i x hi hx k hk
    obtain ⟨k, rfl⟩ : ∃ m, k = m + 1 := ⟨k - 1, by omega⟩
    have hlt : i < l.length := by omega
    have e : rd l (i : Int) = l[i] := by simp [rd, List.getD_eq_getElem?_getD, hlt]
    unfold logjamref35_out.l0
    rw [if_pos (by omega), if_pos (by omega), e, List.drop_eq_getElem_cons hlt, show wrap64 ((i : Int) + 1) = ((i + 1 : Nat) : Int) from by unfold wrap64; omega]
    rw [wo_cons]
    by_cases c : l[i] = t
    · rw [if_pos c, if_pos c, ih (i + 1) x (by omega) (by omega) k (by omega)]
    · rw [if_neg c, if_neg c, if_pos (by omega), ih (i + 1) (x ++ [l[i]]) (by omega) (by simp; omega) k (by omega), List.append_assoc]
      rfl
theorem out_f (l : List Int) (t : Int) (hl : l.length ≤ 1000) {k : Nat} (hk : 1001 ≤ k) : logjamref35_out.f k l t = some (wo l t) := by
  exact out_l l t hl l.length 0 [] (by omega) (by simp) k (by omega)
theorem behind_f (l : List Int) (t : Int) (hl : l.length ≤ 1000) : logjamref35_behind.f l t = some (l ++ [t]) := by
  unfold logjamref35_behind.f
  simp only [Option.bind_some, List.length_nil, List.nil_append]
  rw [if_pos (by omega), if_pos (by omega)]
/-! ### rows -/
def Rw (W : World) (v : Value) (l : List Int) : Prop := W.ownsRow 0 3 1 v l.length (nums .i64 l)
theorem Rw.below {W W' : World} {v : Value} {l : List Int} (h : Rw W v l) (hb : Below W.heap.size W W') : Rw W' v l := pw_own_below h hb
theorem Rw.C {W : World} {v : Value} {l : List Int} (h : Rw W v l) : ∃ A c, v = .slice A l.length c ∧ l.length ≤ c ∧ (Kd.int .i64).C W A l.length l := by
  obtain ⟨A, c, rfl, hr⟩ := own_reads h
  exact ⟨A, c, rfl, own_le h, Kd.C_of_reads (d := (0 : Int)) hr⟩
theorem Rw.of {W : World} {b : Nat} {v : Value} {l : List Int} (h : W.ownsRow b 3 1 v l.length (nums .i64 l)) : Rw W v l := own_weaken h (Nat.zero_le _)
theorem out_any {W : World} {v : Value} {l : List Int} (h : Rw W v l) (hl : l.length ≤ 1000) (t : Int) : Calls Try.prog 53 #[v, .int .i64 t] W fun e w' => ∃ u, e = .returned u ∧ w'.ownsRow W.heap.size 3 1 u (wo l t).length (nums .i64 (wo l t)) ∧ Below W.heap.size W w' := by
  obtain ⟨A, c, rfl, hc, hC⟩ := h.C
  refine (logjamref35_out.calls 1001 A c l t _ W hC hc (out_f l t hl (Nat.le_refl _))).mono ?_
  rintro e w' ⟨u, rfl, hr, hb⟩
  exact ⟨u, rfl, Kd.own_of_R hr, hb⟩
theorem behind_any {W : World} {v : Value} {l : List Int} (h : Rw W v l) (hl : l.length ≤ 1000) (t : Int) : Calls Try.prog 51 #[v, .int .i64 t] W fun e w' => ∃ u, e = .returned u ∧ w'.ownsRow W.heap.size 3 1 u (l ++ [t]).length (nums .i64 (l ++ [t])) ∧ Below W.heap.size W w' := by
  obtain ⟨A, c, rfl, hc, hC⟩ := h.C
  refine (logjamref35_behind.calls A c l t _ W hC hc (behind_f l t hl)).mono ?_
  rintro e w' ⟨u, rfl, hr, hb⟩
  exact ⟨u, rfl, Kd.own_of_R hr, hb⟩
theorem ints_any {W : World} {u v : Value} {a b : List Int} (h : Rw W u a) (h2 : Rw W v b) (hl : a.length ≤ 1000) : Calls Try.prog 33 #[u, v] W fun e w' => e = .returned (.bool (decide (a = b))) ∧ Below W.heap.size W w' := by
  obtain ⟨A, c, rfl, hc, hC⟩ := h.C
  obtain ⟨A2, c2, rfl, hc2, hC2⟩ := h2.C
  refine (logjamlaw35_ints.calls 1001 A c a A2 c2 b _ W hC hc hC2 hc2 (ints_f a b hl (Nat.le_refl _))).mono ?_
  rintro e w' ⟨he, hd⟩
  exact ⟨he, hd.below⟩
end Go.Proofs.Ytjcjhmnfknenlaa.Px
namespace Go.Proofs.Ytjcjhmnfknenlaa.Px
open Go.RowKit Go.Proofs.Ytjcjhmnfknenlaa.PPlaceApart Go.Proofs.YtjcjhmnfknenlaaW.PrintWords Go.Proofs.YtjcjhmnfknenlaaW.PrintLast Go.Proofs.YtjcjhmnfknenlaaW.PrintMore
open Pl (Pa Inv Ok wher on readyA readyB putA leaveA dropA workA workN fetchA allS inB doA flagI wo A0 rg sumN cR cO cG at2 tot inv_tot map_set)
set_option linter.unusedVariables false
set_option linter.unusedSimpArgs false

def onL (A : Pa) : List Int := (List.range A.n).map fun i => A.runs i - 1
def cnL (A : Pa) : List Int := (List.range A.n).map A.work
def owL (A : Pa) : List (List Int) := (List.range A.n).map A.own
theorem onL_len (A : Pa) : (onL A).length = A.n := by simp [onL]
theorem cnL_len (A : Pa) : (cnL A).length = A.n := by simp [cnL]
theorem owL_len (A : Pa) : (owL A).length = A.n := by simp [owL]
theorem Inv.own_le {A : Pa} (h : Inv A) {i : Nat} (hi : i < A.n) : (A.own i).length ≤ 64 := by
  have h1 := inv_tot h
  have h2 := Pl.sumN_get (f := fun i => (A.own i).length) hi
  unfold tot at h1
  have h3 : (fun i => (A.own i).length) i = (A.own i).length := rfl
  omega
theorem Inv.gl_le {A : Pa} (h : Inv A) : A.gl.length ≤ 64 := by
  have h1 := inv_tot h
  unfold tot at h1
  omega
theorem inO_iff (A : Pa) (t : Int) : inO (owL A) t = true ↔ ∃ i, i < A.n ∧ t ∈ A.own i := by
  unfold inO owL
  simp
theorem sum_pos {f : Nat → Nat} : ∀ {n : Nat}, 0 < sumN f n → ∃ i, i < n ∧ 0 < f i
  | 0, h => absurd h (by simp [sumN])
  | n + 1, h => by
    simp only [sumN] at h
    by_cases c : 0 < f n
    · exact ⟨n, by omega, c⟩
    · obtain ⟨i, hi, hp⟩ := sum_pos (n := n) (f := f) (by omega)
      exact ⟨i, by omega, hp⟩
theorem wh_inv {A : Pa} (h : Inv A) (t : Int) : whP (onL A) (owL A) A.gl t = wher A t := by
  unfold whP wher
  by_cases c : t < 0 ∨ 63 < t
  · rw [if_pos c, if_neg (show ¬ (0 ≤ t ∧ t < 64) by omega)]
  · rw [if_neg c, if_pos (show 0 ≤ t ∧ t < 64 by omega)]
    have hrg : rg t := ⟨by omega, by omega⟩
    have hw := h.wh t.toNat (by omega)
    by_cases c1 : t ∈ onL A
    · rw [if_pos c1]
      unfold onL at c1
      rw [List.mem_map] at c1
      obtain ⟨i, hi, e⟩ := c1
      exact (h.in_runs (List.mem_range.1 hi) (by omega) (by omega)).2.symm
    · rw [if_neg c1]
      have n1 : A.wh t.toNat ≠ 1 := fun q => by
        have h1 := h.r t (by omega)
        rw [show at2 A t 1 = 1 from if_pos ⟨hrg, q⟩] at h1
        obtain ⟨i, hi, hp⟩ := sum_pos (f := fun i => if A.runs i = t + 1 then 1 else 0) (n := A.n) (by unfold cR at h1; omega)
        refine c1 (List.mem_map.2 ⟨i, List.mem_range.2 hi, ?_⟩)
        by_cases z : A.runs i = t + 1
        · omega
        · simp [z] at hp
      by_cases c2 : inO (owL A) t = true
      · rw [if_pos c2]
        obtain ⟨i, hi, hm⟩ := (inO_iff A t).1 c2
        exact (h.in_own hi hm).2.symm
      · rw [if_neg c2]
        have n2 : A.wh t.toNat ≠ 2 := fun q => by
          have h1 := h.o t
          rw [show at2 A t 2 = 1 from if_pos ⟨hrg, q⟩] at h1
          obtain ⟨i, hi, hp⟩ := sum_pos (f := fun i => (A.own i).count t) (n := A.n) (by unfold cO at h1; omega)
          exact c2 ((inO_iff A t).2 ⟨i, hi, List.count_pos_iff.1 hp⟩)
        by_cases c3 : t ∈ A.gl
        · rw [if_pos c3]
          exact (h.in_gl c3).2.symm
        · rw [if_neg c3]
          have n3 : A.wh t.toNat ≠ 3 := fun q => by
            have h1 := h.g t
            rw [show at2 A t 3 = 1 from if_pos ⟨hrg, q⟩] at h1
            exact c3 (List.count_pos_iff.1 (by unfold cG at h1; omega))
          omega
theorem all_inv {A : Pa} (h : Inv A) : Pl.Gs.setOf (fun t => decide (0 < whP (onL A) (owL A) A.gl (t : Int))) 64 = allS A := by
  unfold allS
  have aux : ∀ i, i ≤ 64 → Pl.Gs.setOf (fun t => decide (0 < whP (onL A) (owL A) A.gl (t : Int))) i = Pl.Gs.setOf (inB A) i := by
    intro i
    induction i with
    | zero => intro _; rfl
    | succ i ih =>
      intro hi
      have e : decide (0 < whP (onL A) (owL A) A.gl (i : Int)) = inB A i := by
        rw [wh_inv h]
        unfold wher inB
        rw [if_pos (by omega), Int.toNat_natCast]
      show (if decide (0 < whP (onL A) (owL A) A.gl (i : Int)) = true then _ else _) = (if inB A i = true then _ else _)
      rw [e, ih (by omega)]
  exact aux 64 (Nat.le_refl _)
/-! ### in memory -/
def Pm (R : Nat → Prop) (v : Value) : Prop := ∀ k, v.ownBlock = some k → R k
structure Pg (R : Nat → Prop) (W : World) (A : Pa) (u0 u1 u2 u3 : Value) (vs : Nat → Value) : Prop where
  r0 : W.ownsRow 0 3 1 u0 A.n (nums .i64 (onL A))
  r1 : W.ownsRow 0 3 1 u1 A.n (nums .i64 (cnL A))
  r2 : W.ownsRow 0 38 1 u2 A.n ((List.range A.n).map vs)
  r3 : Rw W u3 A.gl
  rows : ∀ i, i < A.n → Rw W (vs i) (A.own i)
  up : ∀ k, W.heap.size ≤ k → R k
  pm : Pm R u0 ∧ Pm R u1 ∧ Pm R u2 ∧ Pm R u3 ∧ ∀ i, i < A.n → Pm R (vs i)
def Fa (R : Nat → Prop) (u0 u1 v : Value) : Prop := ∀ k, v.ownBlock = some k → u0.ownBlock ≠ some k ∧ u1.ownBlock ≠ some k ∧ R k
/-- A copy under work: its own rows are new. -/
structure Lo (R : Nat → Prop) (b : Nat) (w : World) (A : Pa) (u0 u1 u2 u3 : Value) (vs : Nat → Value) : Prop where
  r0 : w.ownsRow b 3 1 u0 A.n (nums .i64 (onL A))
  r1 : w.ownsRow b 3 1 u1 A.n (nums .i64 (cnL A))
  r2 : w.ownsRow b 38 1 u2 A.n ((List.range A.n).map vs)
  r3 : Rw w u3 A.gl
  rows : ∀ i, i < A.n → Rw w (vs i) (A.own i)
  n01 : u0.ownBlock ≠ u1.ownBlock
  f3 : Fa R u0 u1 u3
  fr : ∀ i, i < A.n → Fa R u0 u1 (vs i)
  up : ∀ k, b ≤ k → R k
  bs : b ≤ w.heap.size
section
variable {R : Nat → Prop} {W W' w w' : World} {A : Pa} {u0 u1 u2 u3 : Value} {vs : Nat → Value} {b : Nat}
theorem Pg.below (h : Pg R W A u0 u1 u2 u3 vs) (hb : Below W.heap.size W W') : Pg R W' A u0 u1 u2 u3 vs :=
  ⟨pw_own_below h.r0 hb, pw_own_below h.r1 hb, pw_own_below h.r2 hb, h.r3.below hb, fun i hi => (h.rows i hi).below hb, fun k hk => h.up k (Nat.le_trans hb.size hk), h.pm⟩
theorem Lo.below (h : Lo R b w A u0 u1 u2 u3 vs) (hb : Below w.heap.size w w') : Lo R b w' A u0 u1 u2 u3 vs :=
  ⟨pw_own_below h.r0 hb, pw_own_below h.r1 hb, pw_own_below h.r2 hb, h.r3.below hb, fun i hi => (h.rows i hi).below hb, h.n01, h.f3, h.fr, h.up, Nat.le_trans h.bs hb.size⟩
theorem Lo.pg (h : Lo R b w A u0 u1 u2 u3 vs) : Pg R w A u0 u1 u2 u3 vs :=
  ⟨own_weaken h.r0 (Nat.zero_le _), own_weaken h.r1 (Nat.zero_le _), own_weaken h.r2 (Nat.zero_le _), h.r3, h.rows, fun k hk => h.up k (Nat.le_trans h.bs hk), fun k hk => h.up k (own_base h.r0 k hk), fun k hk => h.up k (own_base h.r1 k hk), fun k hk => h.up k (own_base h.r2 k hk), fun k hk => (h.f3 k hk).2.2, fun i hi k hk => (h.fr i hi k hk).2.2⟩
theorem row_at {e : TypeId} {n : Nat} {v : Value} {xs : List Value} (h : w.ownsRow b e 1 v n xs) (hn : 0 < n) : ∃ g c, v = .slice (some ⟨g, 0, none⟩) n c := by
  rcases h.2 with ⟨_, h2⟩ | ⟨g, cap, cur, rfl, _⟩
  · omega
  · exact ⟨g, cap, rfl⟩
theorem own_frozen {e : TypeId} {n g c : Nat} {xs : List Value} (h : w.ownsRow b e 1 (.slice (some ⟨g, 0, none⟩) n c) n xs) (i : Nat) : w.frozen? ⟨g, i, none⟩ = false := by
  rcases h.2 with ⟨h', _⟩ | ⟨g', cap', cur, h', _, hh, _⟩
  · cases h'
  · injection h' with h1
    injection h1 with h1
    injection h1 with h1
    subst h1
    exact blk_frozen hh i
theorem own_cell {e : TypeId} {n g c : Nat} {xs : List Value} (h : w.ownsRow b e 1 (.slice (some ⟨g, 0, none⟩) n c) n xs) {i : Nat} {u : Value} (hu : xs[i]? = some u) : w.cell? ⟨g, i, none⟩ = some u ∧ w.frozen? ⟨g, i, none⟩ = false := by
  have h1 := h.cells (g := g) rfl i u hu
  rw [add_plain] at h1
  exact ⟨h1, own_frozen h i⟩
theorem Pg.at0 {g c : Nat} (h : Pg R w A (.slice (some ⟨g, 0, none⟩) A.n c) u1 u2 u3 vs) {i : Nat} (hi : i < A.n) : w.cell? ⟨g, i, none⟩ = some (.int .i64 (A.runs i - 1)) ∧ w.frozen? ⟨g, i, none⟩ = false :=
  own_cell h.r0 (by simp [nums, onL, hi])
theorem Pg.at1 {g c : Nat} (h : Pg R w A u0 (.slice (some ⟨g, 0, none⟩) A.n c) u2 u3 vs) {i : Nat} (hi : i < A.n) : w.cell? ⟨g, i, none⟩ = some (.int .i64 (A.work i)) ∧ w.frozen? ⟨g, i, none⟩ = false :=
  own_cell h.r1 (by simp [nums, cnL, hi])
theorem Pg.at2 {g c : Nat} (h : Pg R w A u0 u1 (.slice (some ⟨g, 0, none⟩) A.n c) u3 vs) {i : Nat} (hi : i < A.n) : w.cell? ⟨g, i, none⟩ = some (vs i) ∧ w.frozen? ⟨g, i, none⟩ = false :=
  own_cell h.r2 (by simp [hi])
theorem Rw.kept {v : Value} {l : List Int} (h : Rw w v l) {row : Option Nat} (hg : w.grownBy w' row) (hne : v.ownBlock = none ∨ v.ownBlock ≠ row) : Rw w' v l := own_other h hg hne
theorem Rw.at {g c : Nat} {l : List Int} (h : Rw w (.slice (some ⟨g, 0, none⟩) l.length c) l) {i : Nat} (hi : i < l.length) : w.cell? ⟨g, i, none⟩ = some (.int .i64 (l.getD i 0)) ∧ w.frozen? ⟨g, i, none⟩ = false :=
  own_cell h (by simp [nums, hi, List.getD_eq_getElem?_getD])
theorem Rw.open {v : Value} {l : List Int} (h : Rw w v l) : ∃ A c, v = .slice A l.length c := own_slice h
theorem Rw.open1 {v : Value} {l : List Int} (h : Rw w v l) (hl : 0 < l.length) : ∃ g c, v = .slice (some ⟨g, 0, none⟩) l.length c := row_at h hl
theorem fa_ne {v : Value} {g : Nat} {x : Value} (h : ∀ k, v.ownBlock = some k → x.ownBlock ≠ some k) (hx : x.ownBlock = some g) : v.ownBlock = none ∨ v.ownBlock ≠ some g := by
  by_cases c : v.ownBlock = some g
  · exact absurd hx (h g c)
  · exact .inr c
theorem ty_ne {e : TypeId} {n m : Nat} {v x : Value} {xs ys : List Value} {b2 : Nat} {g : Nat} (h : w.ownsRow b e 1 v n xs) (h2 : w.ownsRow b2 38 1 x m ys) (he : e ≠ 38) (hx : x.ownBlock = some g) : v.ownBlock = none ∨ v.ownBlock ≠ some g := by
  by_cases c : v.ownBlock = some g
  · obtain ⟨y, hy⟩ := own_typed h g c
    obtain ⟨z, hz⟩ := own_typed h2 g hx
    exact absurd rfl (Pl.tag_ne hy hz he)
  · exact .inr c
theorem Lo.setOn {g c : Nat} (h : Lo R b w A (.slice (some ⟨g, 0, none⟩) A.n c) u1 u2 u3 vs) {i : Nat} (hi : i < A.n) (v : Int) : Lo R b (w.setCell ⟨g, i, none⟩ (.int .i64 v)) { A with runs := Pl.up A.runs i (v + 1) } (.slice (some ⟨g, 0, none⟩) A.n c) u1 u2 u3 vs := by
  obtain ⟨s1, s2⟩ := h.r0.stored i (.int .i64 v)
  have e : (nums .i64 (onL A)).set i (.int .i64 v) = nums .i64 (onL { A with runs := Pl.up A.runs i (v + 1) }) := by
    unfold nums onL
    rw [List.map_map, List.map_map]
    have := map_set (fun k => Value.int .i64 (A.runs k - 1)) (fun k => Value.int .i64 (Pl.up A.runs i (v + 1) k - 1)) A.n i hi (fun k hk => by show Value.int .i64 (Pl.up A.runs i (v + 1) k - 1) = _; rw [Pl.up_ne _ _ hk])
    simp only [Pl.up_same, Int.add_sub_cancel] at this
    exact this
  rw [e] at s1
  exact ⟨s1, own_other h.r1 s2 (.inr (fun q => h.n01 q.symm)), own_other h.r2 s2 (.inr (fun q => by
    rcases ty_ne (x := u2) h.r0 h.r2 (by decide) q with z | z
    · cases z
    · exact z rfl)), h.r3.kept s2 (fa_ne (fun k hk => (h.f3 k hk).1) rfl), fun j hj => (h.rows j hj).kept s2 (fa_ne (fun k hk => (h.fr j hj k hk).1) rfl), h.n01, h.f3, h.fr, h.up, by simpa [World.setCell, World.setRow] using h.bs⟩
theorem Lo.setCn {g c : Nat} (h : Lo R b w A u0 (.slice (some ⟨g, 0, none⟩) A.n c) u2 u3 vs) {i : Nat} (hi : i < A.n) (v : Int) : Lo R b (w.setCell ⟨g, i, none⟩ (.int .i64 v)) { A with work := Pl.up A.work i v } u0 (.slice (some ⟨g, 0, none⟩) A.n c) u2 u3 vs := by
  obtain ⟨s1, s2⟩ := h.r1.stored i (.int .i64 v)
  have e : (nums .i64 (cnL A)).set i (.int .i64 v) = nums .i64 (cnL { A with work := Pl.up A.work i v }) := by
    unfold nums cnL
    rw [List.map_map, List.map_map]
    have := map_set (fun k => Value.int .i64 (A.work k)) (fun k => Value.int .i64 (Pl.up A.work i v k)) A.n i hi (fun k hk => by show Value.int .i64 (Pl.up A.work i v k) = _; rw [Pl.up_ne _ _ hk])
    simp only [Pl.up_same] at this
    exact this
  rw [e] at s1
  exact ⟨own_other h.r0 s2 (.inr h.n01), s1, own_other h.r2 s2 (.inr (fun q => by
    rcases ty_ne (x := u2) h.r1 h.r2 (by decide) q with z | z
    · cases z
    · exact z rfl)), h.r3.kept s2 (fa_ne (fun k hk => (h.f3 k hk).2.1) rfl), fun j hj => (h.rows j hj).kept s2 (fa_ne (fun k hk => (h.fr j hj k hk).2.1) rfl), h.n01, h.f3, h.fr, h.up, by simpa [World.setCell, World.setRow] using h.bs⟩
theorem Lo.setOwn {g c : Nat} (h : Lo R b w A u0 u1 (.slice (some ⟨g, 0, none⟩) A.n c) u3 vs) {i : Nat} (hi : i < A.n) {v : Value} {l : List Int} (hv : Rw w v l) (hf : Fa R u0 u1 v) : Lo R b (w.setCell ⟨g, i, none⟩ v) { A with own := Pl.up A.own i l } u0 u1 (.slice (some ⟨g, 0, none⟩) A.n c) u3 (Pl.up vs i v) := by
  obtain ⟨s1, s2⟩ := h.r2.stored i v
  have e : ((List.range A.n).map vs).set i v = (List.range A.n).map (Pl.up vs i v) := by
    have := map_set vs (Pl.up vs i v) A.n i hi (fun k hk => Pl.up_ne _ _ hk)
    rw [Pl.up_same] at this
    exact this
  rw [e] at s1
  refine ⟨own_other h.r0 s2 (ty_ne h.r0 h.r2 (by decide) rfl), own_other h.r1 s2 (ty_ne h.r1 h.r2 (by decide) rfl), s1, h.r3.kept s2 (ty_ne h.r3 h.r2 (by decide) rfl), fun j hj => ?_, h.n01, h.f3, fun j hj => ?_, h.up, by simpa [World.setCell] using h.bs⟩
  · by_cases z : j = i
    · subst z
      rw [Pl.up_same]
      show Rw _ v (Pl.up A.own j l j)
      rw [Pl.up_same]
      exact hv.kept s2 (ty_ne hv h.r2 (by decide) rfl)
    · rw [Pl.up_ne _ _ z]
      show Rw _ (vs j) (Pl.up A.own i l j)
      rw [Pl.up_ne _ _ z]
      exact (h.rows j hj).kept s2 (ty_ne (h.rows j hj) h.r2 (by decide) rfl)
  · by_cases z : j = i
    · subst z
      rw [Pl.up_same]
      exact hf
    · rw [Pl.up_ne _ _ z]
      exact h.fr j hj
theorem Lo.setGl (h : Lo R b w A u0 u1 u2 u3 vs) {v : Value} {l : List Int} (hv : Rw w v l) (hf : Fa R u0 u1 v) : Lo R b w { A with gl := l } u0 u1 u2 v vs := ⟨h.r0, h.r1, h.r2, hv, h.rows, h.n01, hf, h.fr, h.up, h.bs⟩
/-- What is made now is none of the copy's own rows. -/
theorem Lo.fa (h : Lo R b w A u0 u1 u2 u3 vs) {v : Value} {e : TypeId} {n : Nat} {xs : List Value} (hv : w'.ownsRow w.heap.size e 1 v n xs) : Fa R u0 u1 v := fun k hk => by
  have h1 := own_base hv k hk
  exact ⟨fun q => by have := own_lt h.r0 k q; omega, fun q => by have := own_lt h.r1 k q; omega, h.up k (Nat.le_trans h.bs h1)⟩
theorem own_box {e : TypeId} {n : Nat} {v : Value} {xs : List Value} {g i : Nat} {cs : Array Value} {u : Value} (h : w.ownsRow b e 1 v n xs) (hg : w.heap[g]? = some (.cells cs 41 (0, 0))) (he : e ≠ 41) : (w.setCell ⟨g, i, none⟩ u).ownsRow b e 1 v n xs :=
  own_setCell h (own_ne h hg he) u
theorem own_boxr {e : TypeId} {n : Nat} {v : Value} {xs : List Value} {g : Nat} {x cs : Array Value} (h : w.ownsRow b e 1 v n xs) (hg : w.heap[g]? = some (.cells x 41 (0, 0))) (he : e ≠ 41) : (w.setRow g cs).ownsRow b e 1 v n xs := own_row41 h hg he
theorem Lo.box (h : Lo R b w A u0 u1 u2 u3 vs) {g i : Nat} {cs : Array Value} {u : Value} (hg : w.heap[g]? = some (.cells cs 41 (0, 0))) : Lo R b (w.setCell ⟨g, i, none⟩ u) A u0 u1 u2 u3 vs :=
  ⟨own_box h.r0 hg (by decide), own_box h.r1 hg (by decide), own_box h.r2 hg (by decide), own_box h.r3 hg (by decide), fun j hj => own_box (h.rows j hj) hg (by decide), h.n01, h.f3, h.fr, h.up, by simpa [World.setCell, World.setRow] using h.bs⟩
theorem Pg.boxr (h : Pg R w A u0 u1 u2 u3 vs) {g : Nat} {cs x : Array Value} (hg : w.heap[g]? = some (.cells x 41 (0, 0))) : Pg R (w.setRow g cs) A u0 u1 u2 u3 vs :=
  ⟨own_boxr h.r0 hg (by decide), own_boxr h.r1 hg (by decide), own_boxr h.r2 hg (by decide), own_boxr h.r3 hg (by decide), fun j hj => own_boxr (h.rows j hj) hg (by decide), fun k hk => h.up k (by simpa [World.setRow] using hk), h.pm⟩
theorem Lo.boxr (h : Lo R b w A u0 u1 u2 u3 vs) {g : Nat} {cs x : Array Value} (hg : w.heap[g]? = some (.cells x 41 (0, 0))) : Lo R b (w.setRow g cs) A u0 u1 u2 u3 vs :=
  ⟨own_boxr h.r0 hg (by decide), own_boxr h.r1 hg (by decide), own_boxr h.r2 hg (by decide), own_boxr h.r3 hg (by decide), fun j hj => own_boxr (h.rows j hj) hg (by decide), h.n01, h.f3, h.fr, h.up, by simpa [World.setCell, World.setRow] using h.bs⟩
theorem slice_one {A : Option Addr} {n c : Nat} : (Value.slice A n c).oneCell' = true := rfl
/-! ### calls -/
theorem copy_pg (h : Pg R W A u0 u1 u2 u3 vs) (hn : A.n ≤ 8) (hg : A.gl.length ≤ 64) :
    Calls Try.prog 50 #[.agg #[u0, u1, u2, u3]] W fun e w' => ∃ z0 z1 z2 z3, e = .returned (.agg #[z0, z1, z2, z3]) ∧ Below W.heap.size W w' ∧ Lo R W.heap.size w' A z0 z1 z2 z3 vs := by
  have hup := h.up
  have hpm := h.pm.2.2.2.2
  have h0 := h.r0
  have h1 := h.r1
  have h2 := h.r2
  have h3 := h.r3
  have l2 : ((List.range A.n).map vs).length = A.n := by simp
  obtain ⟨A0, c0, rfl⟩ := own_slice h0
  obtain ⟨A1, c1, rfl⟩ := own_slice h1
  obtain ⟨A2, c2, rfl⟩ := own_slice h2
  obtain ⟨A3, c3, rfl⟩ := h3.open
  have hh := copy_any (W := W) (A0 := A0) (A1 := A1) (A2 := A2) (A3 := A3) (c0 := c0) (c1 := c1) (c2 := c2) (c3 := c3) (l0 := onL A) (l1 := cnL A) (l3 := A.gl) (vs := (List.range A.n).map vs) (by rw [onL_len]; exact h0) (by rw [cnL_len]; exact h1) (by rw [l2]; exact h2) h3
    (fun u hu => by
      obtain ⟨i, hi, rfl⟩ := List.mem_map.1 hu
      exact own_one (h.rows i (List.mem_range.1 hi))) ⟨by rw [onL_len]; omega, by rw [cnL_len]; omega, by rw [l2]; omega, by omega⟩
  rw [onL_len, cnL_len, l2] at hh
  refine hh.mono ?_
  rintro e w' ⟨z0, z1, z2, z3, rfl, hb, q0, q1, q2, q3, n01, n03, n13⟩
  refine ⟨z0, z1, z2, z3, rfl, hb, q0, q1, q2, own_weaken q3 (Nat.zero_le _), fun i hi => (h.rows i hi).below hb, n01, fun k hk => ⟨fun q => n03 (q.trans hk.symm), fun q => n13 (q.trans hk.symm), hup k (own_base q3 k hk)⟩, fun i hi k hk => ?_, hup, hb.size⟩
  have hlt := own_lt (h.rows i hi) k hk
  exact ⟨fun q => by have := own_base q0 k q; omega, fun q => by have := own_base q1 k q; omega, hpm i hi k hk⟩
theorem Pg.C2 (h : Pg R W A u0 u1 u2 u3 vs) : ∃ A2 c2, u2 = .slice A2 A.n c2 ∧ A.n ≤ c2 ∧ (Kd.slice 3 (Kd.int .i64)).C W A2 A.n (owL A) := by
  have hr : Reps (fun (l : List Int) (cs : List Value) => (Kd.slice 3 (Kd.int .i64)).K W l cs) 1 (owL A) ((List.range A.n).map vs) := by
    refine ⟨by simp [owL], fun j p hp => ?_⟩
    have hj : j < A.n := by
      have := (List.getElem?_eq_some_iff.1 hp).1
      rwa [owL_len] at this
    have e : p = A.own j := by
      simp [owL, hj] at hp
      exact hp.symm
    subst e
    obtain ⟨Z, c, hz, hc, hC⟩ := (h.rows j hj).C
    have e2 : (((List.range A.n).map vs).drop (j * 1)).take 1 = [vs j] := by
      rw [Nat.mul_one, List.drop_eq_getElem_cons (by simpa using hj)]
      simp
    rw [e2, hz]
    exact ⟨Z, c, rfl, hc, hC⟩
  have ho : OwnRow (fun (l : List Int) (cs : List Value) => (Kd.slice 3 (Kd.int .i64)).K W l cs) 38 1 W 0 u2 (owL A) := ⟨(List.range A.n).map vs, by rw [owL_len]; exact h.r2, hr⟩
  obtain ⟨Z, c, hz, hc, hR⟩ := ho.reads
  rw [owL_len] at hz hc hR
  exact ⟨Z, c, hz, hc, hR⟩
theorem ref_where (h : Pg R W A u0 u1 u2 u3 vs) (hi : Inv A) (hn : A.n ≤ 8) (t : Int) : Calls Try.prog 32 #[.agg #[u0, u1, u2, u3], .int .i64 t] W fun e w' => e = .returned (.int .i64 (wher A t)) ∧ Below W.heap.size W w' := by
  obtain ⟨A0, c0, rfl, k0, C0⟩ := Rw.C (l := onL A) (by unfold Rw; rw [onL_len]; exact h.r0)
  obtain ⟨A1, c1, rfl, k1, C1⟩ := Rw.C (l := cnL A) (by unfold Rw; rw [cnL_len]; exact h.r1)
  obtain ⟨A3, c3, rfl, k3, C3⟩ := h.r3.C
  obtain ⟨A2, c2, rfl, k2, C2⟩ := h.C2
  rw [← wh_inv hi t]
  have hh := logjamref35_Where.calls 2010 A0 c0 (onL A) A1 c1 (cnL A) A2 c2 (owL A) A3 c3 A.gl t _ W C0 k0 C1 k1 (by rw [owL_len]; exact C2) (by rw [owL_len]; exact k2) C3 k3
    (where_f _ _ _ _ _ (by rw [onL_len]; omega) (by rw [owL_len]; omega) (fun l hl => by
      obtain ⟨i, hq, rfl⟩ := List.mem_map.1 hl
      have := Inv.own_le hi (List.mem_range.1 hq)
      omega) (by have := Inv.gl_le hi; omega) (Nat.le_refl _))
  rw [owL_len] at hh
  exact hh
theorem ref_all (h : Pg R W A u0 u1 u2 u3 vs) (hi : Inv A) (hn : A.n ≤ 8) : Calls Try.prog 31 #[.agg #[u0, u1, u2, u3]] W fun e w' => e = .returned (.int .u64 ((allS A : Nat) : Int)) ∧ Below W.heap.size W w' := by
  obtain ⟨A0, c0, rfl, k0, C0⟩ := Rw.C (l := onL A) (by unfold Rw; rw [onL_len]; exact h.r0)
  obtain ⟨A1, c1, rfl, k1, C1⟩ := Rw.C (l := cnL A) (by unfold Rw; rw [cnL_len]; exact h.r1)
  obtain ⟨A3, c3, rfl, k3, C3⟩ := h.r3.C
  obtain ⟨A2, c2, rfl, k2, C2⟩ := h.C2
  rw [← all_inv hi]
  have hh := logjamref35_All.calls 2100 A0 c0 (onL A) A1 c1 (cnL A) A2 c2 (owL A) A3 c3 A.gl _ W C0 k0 C1 k1 (by rw [owL_len]; exact C2) (by rw [owL_len]; exact k2) C3 k3
    (all_f _ _ _ _ (by rw [onL_len]; omega) (by rw [owL_len]; omega) (fun l hl => by
      obtain ⟨i, hq, rfl⟩ := List.mem_map.1 hl
      have := Inv.own_le hi (List.mem_range.1 hq)
      omega) (by have := Inv.gl_le hi; omega) (Nat.le_refl _))
  rw [owL_len] at hh
  exact hh
end
end Go.Proofs.Ytjcjhmnfknenlaa.Px
namespace Go.Proofs.Ytjcjhmnfknenlaa.Px
open Go.RowKit Go.Proofs.Ytjcjhmnfknenlaa.PPlaceApart Go.Proofs.YtjcjhmnfknenlaaW.PrintWords Go.Proofs.YtjcjhmnfknenlaaW.PrintLast Go.Proofs.YtjcjhmnfknenlaaW.PrintMore
open Pl (Pa Inv Ok wher on readyA readyB putA leaveA dropA workA workN fetchA allS inB doA flagI wo A0 rg sumN)
set_option linter.unusedVariables false
set_option linter.unusedSimpArgs false

theorem ex_load41 {oi : Oper} {a : Act} {w : World} {g : Nat} {cs : Array Value} {x : Operand} (ho : oi.op = .load 41 x) (hx : a.eval x = .pointer (some ⟨g, 0, none⟩)) (hs : cs.size = 4) (hg : w.heap[g]? = some (.cells cs 41 (0, 0))) : (execOp a.eval oi).run Try.prog w = .ok (.value (.agg cs)) w := by
  unfold execOp
  simp only [ho, hx, Instr.loadAt, Instr.sureAddr, Sem.run_bind, Sem.run_pure, Result.andThen_ok, run_loadVar_row w g 41 41 cs (0, 0) _ hg Try.underlying41 rfl (by rw [hs]; exact info41)]
def Nil4 : Array Value := #[.slice none 0 0, .slice none 0 0, .slice none 0 0, .slice none 0 0]
/-- The boxes of a call: the page's value, the result. -/
structure J (W w : World) (u0 u1 u2 u3 : Value) (g1 g2 : Nat) : Prop where
  hb : Below W.heap.size W w
  h1 : w.heap[g1]? = some (.cells #[u0, u1, u2, u3] 41 (0, 0))
  h2 : w.heap[g2]? = some (.cells #[.slice none 0 0, .slice none 0 0, .slice none 0 0, .slice none 0 0] 41 (0, 0))
  ge1 : W.heap.size ≤ g1
  ge2 : W.heap.size ≤ g2
  ne : g1 ≠ g2
/-- And the copy under work. -/
structure Kx (R : Nat → Prop) (W w : World) (A : Pa) (u0 u1 u2 u3 : Value) (g1 g2 g3 : Nat) (z0 z1 z2 z3 : Value) (vs : Nat → Value) : Prop where
  j : J W w u0 u1 u2 u3 g1 g2
  h3 : w.heap[g3]? = some (.cells #[z0, z1, z2, z3] 41 (0, 0))
  ge3 : W.heap.size ≤ g3
  n13 : g1 ≠ g3
  n23 : g2 ≠ g3
  lo : Lo R W.heap.size w A z0 z1 z2 z3 vs
section
variable {R : Nat → Prop} {W W' w w' : World} {A : Pa} {u0 u1 u2 u3 : Value} {z0 z1 z2 z3 : Value} {vs : Nat → Value} {b g1 g2 g3 : Nat}
theorem J.below (h : J W w u0 u1 u2 u3 g1 g2) (hb : Below w.heap.size w w') : J W w' u0 u1 u2 u3 g1 g2 := ⟨below_step h.hb hb, blk_below h.h1 hb, blk_below h.h2 hb, h.ge1, h.ge2, h.ne⟩
theorem Lo.mono {b' : Nat} (h : Lo R b w A u0 u1 u2 u3 vs) (hb : b' ≤ b) (hu : ∀ k, b' ≤ k → R k) : Lo R b' w A u0 u1 u2 u3 vs := ⟨own_weaken h.r0 hb, own_weaken h.r1 hb, own_weaken h.r2 hb, h.r3, h.rows, h.n01, h.f3, h.fr, hu, Nat.le_trans hb h.bs⟩
theorem Kx.below (h : Kx R W w A u0 u1 u2 u3 g1 g2 g3 z0 z1 z2 z3 vs) (hb : Below w.heap.size w w') : Kx R W w' A u0 u1 u2 u3 g1 g2 g3 z0 z1 z2 z3 vs := ⟨h.j.below hb, blk_below h.h3 hb, h.ge3, h.n13, h.n23, h.lo.below hb⟩
theorem below_set {b : Nat} (hb : Below b W w) {g i : Nat} (hg : b ≤ g) (v : Value) : Below b W (w.setCell ⟨g, i, none⟩ v) :=
  hb.trans ⟨rfl, rfl, rfl, by simp [World.setCell], fun k hk => Below.heap_setCell w ⟨g, i, none⟩ v k (by show k ≠ g; omega)⟩
theorem J.far (h : J W w u0 u1 u2 u3 g1 g2) {e : TypeId} {n g i : Nat} {c : Nat} {xs : List Value} {v : Value} (hr : w.ownsRow W.heap.size e 1 (.slice (some ⟨g, 0, none⟩) n c) n xs) (he : e ≠ 41) : J W (w.setCell ⟨g, i, none⟩ v) u0 u1 u2 u3 g1 g2 :=
  ⟨below_set h.hb (own_base hr g rfl) v, blk_far h.h1 (fun q => own_ne hr h.h1 he (by rw [q]; rfl)) v, blk_far h.h2 (fun q => own_ne hr h.h2 he (by rw [q]; rfl)) v, h.ge1, h.ge2, h.ne⟩
theorem Kx.on {g c i : Nat} (h : Kx R W w A u0 u1 u2 u3 g1 g2 g3 (.slice (some ⟨g, 0, none⟩) A.n c) z1 z2 z3 vs) (hi : i < A.n) (v : Int) : Kx R W (w.setCell ⟨g, i, none⟩ (.int .i64 v)) { A with runs := Pl.up A.runs i (v + 1) } u0 u1 u2 u3 g1 g2 g3 (.slice (some ⟨g, 0, none⟩) A.n c) z1 z2 z3 vs :=
  ⟨h.j.far h.lo.r0 (by decide), blk_far h.h3 (fun q => own_ne h.lo.r0 h.h3 (by decide) (by rw [q]; rfl)) _, h.ge3, h.n13, h.n23, h.lo.setOn hi v⟩
theorem Kx.cn {g c i : Nat} (h : Kx R W w A u0 u1 u2 u3 g1 g2 g3 z0 (.slice (some ⟨g, 0, none⟩) A.n c) z2 z3 vs) (hi : i < A.n) (v : Int) : Kx R W (w.setCell ⟨g, i, none⟩ (.int .i64 v)) { A with work := Pl.up A.work i v } u0 u1 u2 u3 g1 g2 g3 z0 (.slice (some ⟨g, 0, none⟩) A.n c) z2 z3 vs :=
  ⟨h.j.far h.lo.r1 (by decide), blk_far h.h3 (fun q => own_ne h.lo.r1 h.h3 (by decide) (by rw [q]; rfl)) _, h.ge3, h.n13, h.n23, h.lo.setCn hi v⟩
theorem Kx.own {g c i : Nat} (h : Kx R W w A u0 u1 u2 u3 g1 g2 g3 z0 z1 (.slice (some ⟨g, 0, none⟩) A.n c) z3 vs) (hi : i < A.n) {v : Value} {l : List Int} (hv : Rw w v l) (hf : Fa R z0 z1 v) : Kx R W (w.setCell ⟨g, i, none⟩ v) { A with own := Pl.up A.own i l } u0 u1 u2 u3 g1 g2 g3 z0 z1 (.slice (some ⟨g, 0, none⟩) A.n c) z3 (Pl.up vs i v) :=
  ⟨h.j.far h.lo.r2 (by decide), blk_far h.h3 (fun q => own_ne h.lo.r2 h.h3 (by decide) (by rw [q]; rfl)) _, h.ge3, h.n13, h.n23, h.lo.setOwn hi hv hf⟩
theorem Kx.gl (h : Kx R W w A u0 u1 u2 u3 g1 g2 g3 z0 z1 z2 z3 vs) {v : Value} {l : List Int} (hv : Rw w v l) (hf : Fa R z0 z1 v) : Kx R W (w.setCell ⟨g3, 3, none⟩ v) { A with gl := l } u0 u1 u2 u3 g1 g2 g3 z0 z1 z2 v vs :=
  ⟨⟨below_set h.j.hb h.ge3 v, blk_far h.j.h1 h.n13 v, blk_far h.j.h2 h.n23 v, h.j.ge1, h.j.ge2, h.j.ne⟩, blk_put h.h3 3 v (by rfl), h.ge3, h.n13, h.n23, (h.lo.box h.h3).setGl (own_box hv h.h3 (by decide)) hf⟩
/-- What is returned: the value as it was. -/
theorem J.same (h : J W w u0 u1 u2 u3 g1 g2) (hp : Pg R W A u0 u1 u2 u3 vs) : (w.setRow g2 #[u0, u1, u2, u3]).heap[g2]? = some (.cells #[u0, u1, u2, u3] 41 (0, 0)) ∧ Below W.heap.size W (w.setRow g2 #[u0, u1, u2, u3]) ∧ Pg R (w.setRow g2 #[u0, u1, u2, u3]) A u0 u1 u2 u3 vs :=
  ⟨setRow_heap _ _ _ _ _ _ h.h2, below_row41 h.hb h.ge2 _, (hp.below h.hb).boxr h.h2⟩
theorem J.fin {q0 q1 q2 q3 : Value} {qs : Nat → Value} {B : Pa} (h : J W w u0 u1 u2 u3 g1 g2) (hp : Pg R w B q0 q1 q2 q3 qs) : (w.setRow g2 #[q0, q1, q2, q3]).heap[g2]? = some (.cells #[q0, q1, q2, q3] 41 (0, 0)) ∧ Below W.heap.size W (w.setRow g2 #[q0, q1, q2, q3]) ∧ Pg R (w.setRow g2 #[q0, q1, q2, q3]) B q0 q1 q2 q3 qs :=
  ⟨setRow_heap _ _ _ _ _ _ h.h2, below_row41 h.hb h.ge2 _, hp.boxr h.h2⟩
theorem J.res {q0 q1 q2 q3 : Value} (h : J W w u0 u1 u2 u3 g1 g2) : (w.setRow g2 #[q0, q1, q2, q3]).heap[g1]? = some (.cells #[u0, u1, u2, u3] 41 (0, 0)) := (setRow_other _ _ _ _ h.ne).trans h.h1
theorem Kx.done (h : Kx R W w A u0 u1 u2 u3 g1 g2 g3 z0 z1 z2 z3 vs) : (w.setRow g2 #[z0, z1, z2, z3]).heap[g2]? = some (.cells #[z0, z1, z2, z3] 41 (0, 0)) ∧ Below W.heap.size W (w.setRow g2 #[z0, z1, z2, z3]) ∧ Pg R (w.setRow g2 #[z0, z1, z2, z3]) A z0 z1 z2 z3 vs :=
  ⟨setRow_heap _ _ _ _ _ _ h.j.h2, below_row41 h.j.hb h.j.ge2 _, (h.lo.boxr h.j.h2).pg⟩
theorem Kx.res (h : Kx R W w A u0 u1 u2 u3 g1 g2 g3 z0 z1 z2 z3 vs) : (w.setRow g2 #[z0, z1, z2, z3]).heap[g3]? = some (.cells #[z0, z1, z2, z3] 41 (0, 0)) := (setRow_other _ _ _ _ h.n23.symm).trans h.h3
theorem Pg.to (h : Pg R W A u0 u1 u2 u3 vs) {B : Pa} (hn : B.n = A.n) (hr : ∀ i, i < A.n → B.runs i = A.runs i) (hw : ∀ i, i < A.n → B.work i = A.work i) (ho : ∀ i, i < A.n → B.own i = A.own i) (hg : B.gl = A.gl) : Pg R W B u0 u1 u2 u3 vs := by
  have e0 : onL B = onL A := by
    unfold onL
    rw [hn]
    exact List.map_congr_left fun i hi => by rw [hr i (List.mem_range.1 hi)]
  have e1 : cnL B = cnL A := by
    unfold cnL
    rw [hn]
    exact List.map_congr_left fun i hi => hw i (List.mem_range.1 hi)
  exact ⟨by rw [e0, hn]; exact h.r0, by rw [e1, hn]; exact h.r1, by rw [hn]; exact h.r2, by rw [hg]; exact h.r3, fun i hi => by rw [ho i (by omega)]; exact h.rows i (by omega), h.up, by rw [hn]; exact h.pm⟩
theorem Pg.one (h : Pg R W A u0 u1 u2 u3 vs) : (#[u0, u1, u2, u3] : Array Value).all (·.oneCell') = true := by simp [own_one h.r0, own_one h.r1, own_one h.r2, own_one h.r3]
theorem J.mk2 {w1 w2 : World} (hb1 : Below W.heap.size W w1) (hg1 : g1 = W.heap.size) (x1 : w1.heap[g1]? = some (.cells #[u0, u1, u2, u3] 41 (0, 0))) (hb2 : Below w1.heap.size w1 w2) (hg2 : g2 = w1.heap.size) (x2 : w2.heap[g2]? = some (.cells #[.slice none 0 0, .slice none 0 0, .slice none 0 0, .slice none 0 0] 41 (0, 0))) : J W w2 u0 u1 u2 u3 g1 g2 :=
  ⟨below_step hb1 hb2, blk_below x1 hb2, x2, by omega, by have := hb1.size; omega, by have := blk_lt x1; omega⟩
theorem Kx.mk4 {w2 w3 w4 : World} {vs : Nat → Value} (hu : ∀ k, W.heap.size ≤ k → R k) (hj : J W w2 u0 u1 u2 u3 g1 g2) (hb3 : Below w2.heap.size w2 w3) (hl : Lo R w2.heap.size w3 A z0 z1 z2 z3 vs) (hb4 : Below w3.heap.size w3 w4) (hg3 : g3 = w3.heap.size) (x3 : w4.heap[g3]? = some (.cells #[.slice none 0 0, .slice none 0 0, .slice none 0 0, .slice none 0 0] 41 (0, 0))) : Kx R W (w4.setRow g3 #[z0, z1, z2, z3]) A u0 u1 u2 u3 g1 g2 g3 z0 z1 z2 z3 vs := by
  have hj3 := hj.below hb3
  have hj4 := hj3.below hb4
  have e1 := blk_lt hj3.h1
  have e2 := blk_lt hj3.h2
  have n1 : g1 ≠ g3 := by omega
  have n2 : g2 ≠ g3 := by omega
  have ge : W.heap.size ≤ g3 := by have := hj3.hb.size; omega
  exact ⟨⟨below_row41 hj4.hb ge _, (setRow_other _ _ _ _ n1).trans hj4.h1, (setRow_other _ _ _ _ n2).trans hj4.h2, hj4.ge1, hj4.ge2, hj4.ne⟩, setRow_heap _ _ _ _ _ _ x3, ge, n1, n2, ((hl.below hb4).boxr x3).mono hj.hb.size hu⟩
end
end Go.Proofs.Ytjcjhmnfknenlaa.Px
