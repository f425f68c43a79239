/- Places: who stands where, told in one list. Conditions: none. -/
import Derived.Test.YtjcjhmnfknenlaaPl14
namespace Go.Proofs.Ytjcjhmnfknenlaa.Pl
open Go.RowKit Go.Proofs.Ytjcjhmnfknenlaa.PPlaceOnce Go.Proofs.YtjcjhmnfknenlaaW.PrintWords Go.Proofs.YtjcjhmnfknenlaaW.PrintLast
open Rg (Chg)
set_option linter.unusedVariables false
set_option linter.unusedSimpArgs false

theorem shr1 {M t : Nat} (hM : M < Bt.top) (ht : t < 64) (hb : M.testBit t = true) : Go.bits .and .u64 ((M : Int) / (2 : Int) ^ min (IntKind.u64.wrap (t : Int)).toNat 64) 1 = 1 := by
  rw [Bt.wrapU (show t < Bt.top by unfold Bt.top; omega), Int.toNat_natCast, Nat.min_eq_left (by omega)]
  have e : ((2 : Int) ^ t) = ((2 ^ t : Nat) : Int) := by rw [Int.natCast_pow]; rfl
  rw [e, show (M : Int) / ((2 ^ t : Nat) : Int) = ((M / 2 ^ t : Nat) : Int) from rfl, show (1 : Int) = ((1 : Nat) : Int) from rfl, Bt.and_nat (Nat.lt_of_le_of_lt (Nat.div_le_self _ _) hM) (by decide), Nat.and_one_is_mod]
  rw [Nat.testBit_eq_decide_div_mod_eq] at hb
  have := of_decide_eq_true hb
  omega
def onL (A : Pa) (i : Nat) : List Int := if 0 ≤ on A (i : Int) then [on A (i : Int)] else []
def allN (A : Pa) : Nat → List Int
  | 0 => A.gl
  | i + 1 => allN A i ++ A.own i ++ onL A i
section
variable {A : Pa}
theorem allN_mem : ∀ {i : Nat} {x : Int}, x ∈ allN A i → x ∈ A.gl ∨ ∃ j, j < i ∧ (x ∈ A.own j ∨ (on A (j : Int) = x ∧ 0 ≤ x))
  | 0, x, h => .inl h
  | i + 1, x, h => by
    simp only [allN, List.mem_append] at h
    rcases h with (h | h) | h
    · rcases allN_mem h with h | ⟨j, hj, h⟩
      · exact .inl h
      · exact .inr ⟨j, by omega, h⟩
    · exact .inr ⟨i, by omega, .inl h⟩
    · unfold onL at h
      split at h
      · rename_i c
        rw [List.mem_singleton] at h
        exact .inr ⟨i, by omega, .inr ⟨h.symm, by omega⟩⟩
      · cases h
theorem allN_wh (h : Inv A) {i : Nat} (hi : i ≤ A.n) {x : Int} (hx : x ∈ allN A i) : rg x ∧ A.wh x.toNat ≠ 0 := by
  rcases allN_mem hx with hx | ⟨j, hj, hx | ⟨hx, h0⟩⟩
  · have := h.in_gl hx
    exact ⟨this.1, by rw [this.2]; decide⟩
  · have := h.in_own (by omega) hx
    exact ⟨this.1, by rw [this.2]; decide⟩
  · have := h.in_runs (show j < A.n by omega) h0 (by rw [← hx, on_in (by omega)]; omega)
    exact ⟨this.1, by rw [this.2]; decide⟩
theorem allN_count {x : Int} (h0 : 0 ≤ x) : ∀ {i : Nat}, i ≤ A.n → (allN A i).count x = cG A x + sumN (fun j => (A.own j).count x) i + sumN (fun j => if A.runs j = x + 1 then 1 else 0) i
  | 0, _ => by simp only [allN, sumN]; rfl
  | i + 1, hi => by
    have ho : (onL A i).count x = if A.runs i = x + 1 then 1 else 0 := by
      unfold onL
      rw [on_in (by omega)]
      by_cases c : A.runs i = x + 1
      · rw [if_pos c, if_pos (by omega), show A.runs i - 1 = x by omega, List.count_singleton_self]
      · rw [if_neg c]
        split
        · exact List.count_eq_zero.2 (fun m => c (by rw [List.mem_singleton] at m; omega))
        · rfl
    simp only [allN, sumN]
    rw [List.count_append, List.count_append, allN_count h0 (by omega), ho]
    omega
theorem sumN_mono {f : Nat → Nat} {i n : Nat} (h : i ≤ n) : sumN f i ≤ sumN f n := by
  induction n with
  | zero => obtain rfl : i = 0 := by omega
            exact Nat.le_refl _
  | succ n ih =>
    by_cases e : i = n + 1
    · rw [e]; exact Nat.le_refl _
    · simp only [sumN]
      have := ih (by omega)
      omega
theorem allN_one (h : Inv A) {i : Nat} (hi : i ≤ A.n) (x : Int) : (allN A i).count x ≤ 1 := by
  by_cases hx : x ∈ allN A i
  · have h0 : 0 ≤ x := (allN_wh h hi hx).1.1
    rw [allN_count h0 hi]
    have h1 := sumN_mono (f := fun j => (A.own j).count x) hi
    have h2 := sumN_mono (f := fun j => if A.runs j = x + 1 then 1 else 0) hi
    have e1 : sumN (fun j => (A.own j).count x) A.n = at2 A x 2 := h.o x
    have e2 : sumN (fun j => if A.runs j = x + 1 then 1 else 0) A.n = at2 A x 1 := h.r x h0
    have e3 := h.g x
    rw [e1] at h1
    rw [e2] at h2
    rw [e3]
    have : at2 A x 3 + at2 A x 2 + at2 A x 1 ≤ 1 := by
      by_cases c3 : 0 < at2 A x 3
      · have h3 := at2_pos c3
        have z2 : at2 A x 2 = 0 := if_neg (fun z => by have := z.2; have := h3.2; omega)
        have z1 : at2 A x 1 = 0 := if_neg (fun z => by have := z.2; have := h3.2; omega)
        have := at2_le A x 3
        omega
      · by_cases c2 : 0 < at2 A x 2
        · have h3 := at2_pos c2
          have z1 : at2 A x 1 = 0 := if_neg (fun z => by have := z.2; have := h3.2; omega)
          have := at2_le A x 2
          omega
        · have := at2_le A x 1
          omega
    omega
  · rw [List.count_eq_zero.2 hx]
    omega
theorem allN_len (h : Inv A) {i : Nat} (hi : i ≤ A.n) : (allN A i).length ≤ 64 := by
  rw [len_count (fun t ht => (allN_wh h hi ht).1)]
  refine Nat.le_trans (sumN_le (g := fun _ => 1) (fun x hx => allN_one h hi _)) ?_
  rw [sumN_one]
  exact Nat.le_refl _
theorem own_len (h : Inv A) {i : Nat} (hi : i < A.n) : (A.own i).length ≤ 64 := by
  have := inv_tot h
  have h2 := sumN_get (f := fun i => (A.own i).length) hi
  unfold tot at this
  have h3 : (A.own i).length ≤ sumN (fun i => (A.own i).length) A.n := h2
  omega
end
theorem rd_at {l : List Int} {k : Nat} (hk : k < l.length) : rd l (k : Int) = l[k] := by
  unfold rd
  rw [Int.toNat_natCast, List.getD_eq_getElem?_getD, List.getElem?_eq_getElem hk]
  rfl
theorem not_before {l : List Int} (h : ∀ x, l.count x ≤ 1) {k : Nat} (hk : k < l.length) : rd l (k : Int) ∉ l.take k := by
  rw [rd_at hk]
  intro hm
  have h1 : 0 < (l.take k).count l[k] := List.count_pos_iff.2 hm
  have e : l = l.take k ++ l[k] :: l.drop (k + 1) := by rw [List.getElem_cons_drop, List.take_append_drop]
  have h2 := h l[k]
  have h3 : l.count l[k] = (l.take k).count l[k] + ((l[k] :: l.drop (k + 1)).count l[k]) := by
    rw [← List.count_append, ← e]
  rw [List.count_cons_self] at h3
  omega
def metM (l : List Int) (k : Nat) : List Int := (List.range 64).map fun (x : Nat) => if (x : Int) ∈ l.take k then 1 else 0
def mcells (M : List Int) : List Value := M.map (Value.int .i64)
theorem metM_zero (l : List Int) : metM l 0 = (List.range 64).map fun _ => 0 := by
  unfold metM
  apply List.map_congr_left
  intro x hx
  rw [List.take_zero, if_neg (by simp)]
theorem metM_get {l : List Int} {k x : Nat} (hx : x < 64) (h : (x : Int) ∉ l.take k) : (mcells (metM l k)).toArray[x]? = some (.int .i64 0) := by
  rw [List.getElem?_toArray]
  unfold mcells metM
  rw [List.getElem?_map, List.getElem?_map, List.getElem?_range hx]
  show some (Value.int .i64 (if (x : Int) ∈ l.take k then 1 else 0)) = _
  rw [if_neg h]
theorem metM_set {l : List Int} {k x : Nat} (hx : x < 64) (hk : k < l.length) (h : rd l (k : Int) = (x : Int)) : (mcells (metM l k)).toArray.setIfInBounds x (.int .i64 1) = (mcells (metM l (k + 1))).toArray := by
  have h1 : ∀ y : Nat, ((y : Int) ∈ l.take (k + 1)) ↔ ((y : Int) ∈ l.take k ∨ y = x) := by
    intro y
    rw [take_snoc hk, List.mem_append, List.mem_singleton, h]
    exact ⟨fun z => z.imp id (fun q => by omega), fun z => z.imp id (fun q => by omega)⟩
  rw [List.setIfInBounds_toArray]
  unfold mcells metM
  rw [List.map_map, List.map_map]
  have e := map_set ((Value.int .i64) ∘ fun y : Nat => if (y : Int) ∈ l.take k then 1 else 0) ((Value.int .i64) ∘ fun y : Nat => if (y : Int) ∈ l.take (k + 1) then 1 else 0) 64 x hx (fun y hy => by
    show Value.int .i64 (if (y : Int) ∈ l.take (k + 1) then 1 else 0) = Value.int .i64 (if (y : Int) ∈ l.take k then 1 else 0)
    by_cases c : (y : Int) ∈ l.take k
    · rw [if_pos c, if_pos ((h1 y).2 (.inl c))]
    · rw [if_neg c, if_neg (fun z => ((h1 y).1 z).elim c hy)])
  have e2 : ((Value.int .i64) ∘ fun y : Nat => if (y : Int) ∈ l.take (k + 1) then (1 : Int) else 0) x = .int .i64 1 := by
    show Value.int .i64 (if (x : Int) ∈ l.take (k + 1) then 1 else 0) = _
    rw [if_pos ((h1 x).2 (.inr rfl))]
  rw [e2] at e
  rw [e]
/-! ### in memory -/
/-- Places, a list that is built, and who was met. -/
structure Mid (w w' : World) (B gp gm : Nat) (A : Pa) (v : Value) (l M : List Int) : Prop where
  pl : Pl (fun k => w.heap.size ≤ k ∧ k < B) w' gp A
  hb : Below w.heap.size w w'
  b1 : w.heap.size ≤ B
  b2 : B ≤ w'.heap.size
  own : w'.ownsRow B 3 1 v l.length (nums .i64 l)
  met : w'.heap[gm]? = some (.cells (mcells M).toArray 46 (0, 0))
  gm : B ≤ gm
section
variable {w w1 w2 : World} {B gp gm : Nat} {A : Pa} {v : Value} {l M : List Int}
theorem Pl.below {S : Nat → Prop} {W W2 : World} (h : Pl S W gp A) (hb : Below W.heap.size W W2) : Pl S W2 gp A := by
  obtain ⟨bl, cl, ex, r, q, h1⟩ := h
  exact ⟨bl, cl, ex, r, q, h1.below hb⟩
theorem Pl.kept {S T : Nat → Prop} {W W2 : World} (h : Pl S W gp A) (hc : Chg T W W2) (hT : ∀ k, T k → ¬ S k) : Pl S W2 gp A := by
  obtain ⟨bl, cl, ex, r, q, h1⟩ := h
  exact ⟨bl, cl, ex, r, q, h1.kept hc hT⟩
theorem Pl.bound {S : Nat → Prop} {W : World} (h : Pl S W gp A) : Pl (fun k => S k ∧ k < W.heap.size) W gp A := by
  obtain ⟨bl, cl, ex, r, q, h1⟩ := h
  refine ⟨bl, cl, ex, r, q, h1.hg, h1.hl, h1.own, h1.glob, ⟨⟨h1.s.1, blk_lt h1.hg⟩, ⟨h1.s.2.1, blk_lt h1.hl⟩, ⟨h1.s.2.2.1, h1.glob.lt'.1⟩, ⟨h1.s.2.2.2.1, h1.glob.lt'.2⟩, fun i hi => ⟨⟨(h1.s.2.2.2.2 i hi).1, (h1.own i hi).lt'.1⟩, ⟨(h1.s.2.2.2.2 i hi).2, (h1.own i hi).lt'.2⟩⟩⟩, h1.sep, h1.sepq, h1.n_pos, h1.n_le, h1.cl_le⟩
theorem Mid.below (h : Mid w w1 B gp gm A v l M) (hb : Below w1.heap.size w1 w2) : Mid w w2 B gp gm A v l M :=
  ⟨h.pl.below hb, below_step h.hb hb, h.b1, Nat.le_trans h.b2 hb.size, pw_own_below h.own hb, blk_below h.met hb, h.gm⟩
theorem Mid.sp (h : Mid w w1 B gp gm A v l M) : Sp w w1 gp A := by
  obtain ⟨bl, cl, ex, r, q, h1⟩ := h.pl
  exact ⟨⟨bl, cl, ex, r, q, h1.mono (fun k hk => hk.1)⟩, h.hb⟩
theorem Mid.app (h : Mid w w1 B gp gm A v l M) {v2 : Value} {l2 : List Int} (ho : w2.ownsRow B 3 1 v2 l2.length (nums .i64 l2)) (hg : w1.grownBy w2 v.ownBlock) : Mid w w2 B gp gm A v2 l2 M := by
  have hge : ∀ k, v.ownBlock = some k → B ≤ k := own_base h.own
  refine ⟨h.pl.kept (chg_grown hg) (fun k hk hs => by have := hge k hk; omega), Chg.below h.hb (chg_grown hg) h.hb.size (fun k hk => Nat.le_trans h.b1 (hge k hk)), h.b1, Nat.le_trans h.b2 hg.size, ho, ?_, h.gm⟩
  exact (hg.block gm (blk_lt h.met) (own_ne h.own h.met (by decide))).trans h.met
theorem Mid.put {k x : Nat} (h : Mid w w1 B gp gm A v l (metM l k)) (hx : x < 64) (hk : k < l.length) (hr : rd l (k : Int) = (x : Int)) : Mid w (w1.setCell ⟨gm, x, none⟩ (.int .i64 1)) B gp gm A v l (metM l (k + 1)) := by
  refine ⟨h.pl.kept ((Chg.refl (fun k => k = gm) w1).set_ (Or.inl rfl) _) (fun k hk hs => by have := h.gm; omega), below_set h.hb (Nat.le_trans h.b1 h.gm), h.b1, by simpa [World.setCell] using h.b2, own_setCell h.own (own_ne h.own h.met (by decide)) _, blk_put h.met x _ (metM_set hx hk hr), h.gm⟩
theorem Pl.n8 {S : Nat → Prop} {W : World} (h : Pl S W gp A) : 0 < A.n ∧ A.n ≤ 8 := by
  obtain ⟨bl, cl, ex, r, q, h1⟩ := h
  exact ⟨h1.n_pos, h1.n_le⟩
theorem mid_workers (h : Mid w w1 B gp gm A v l M) : Calls Try.prog 10 #[.pointer (some ⟨gp, 0, none⟩)] w1 fun e w' => e = .returned (.int .i64 (A.n : Int)) ∧ w' = w1 := by
  obtain ⟨bl, cl, ex, r, q, h1⟩ := h.pl
  exact workers_any h1
theorem mid_on (h : Mid w w1 B gp gm A v l M) (hi : Inv A) (x : Int) : Calls Try.prog 11 #[.pointer (some ⟨gp, 0, none⟩), .int .i64 x] w1 fun e w' => e = .returned (.int .i64 (on A x)) ∧ w' = w1 := by
  obtain ⟨bl, cl, ex, r, q, h1⟩ := h.pl
  exact on_any h1 hi.runs x
theorem mid_where (h : Mid w w1 B gp gm A v l M) (hi : Inv A) (x : Int) : Calls Try.prog 20 #[.pointer (some ⟨gp, 0, none⟩), .int .i64 x] w1 fun e w' => e = .returned (.int .i64 (wher A x)) ∧ w' = w1 := by
  obtain ⟨bl, cl, ex, r, q, h1⟩ := h.pl
  exact where_any h1 hi.wh x
theorem mid_all (h : Mid w w1 B gp gm A v l M) (hi : Inv A) : Calls Try.prog 9 #[.pointer (some ⟨gp, 0, none⟩)] w1 fun e w' => e = .returned (.int .u64 ((allS A : Nat) : Int)) ∧ ∃ n, w' = w1.drewN n := by
  obtain ⟨bl, cl, ex, r, q, h1⟩ := h.pl
  exact all_any h1 hi.ok
theorem mid_own (h : Mid w w1 B gp gm A v l M) {i : Nat} (hi : i < A.n) : Calls Try.prog 19 #[.pointer (some ⟨gp, 0, none⟩), .int .i64 (i : Int)] w1 fun e w' => ∃ v2, e = .returned v2 ∧ Below w1.heap.size w1 w' ∧ w'.ownsRow w1.heap.size 3 1 v2 (A.own i).length (nums .i64 (A.own i)) := by
  obtain ⟨bl, cl, ex, r, q, h1⟩ := h.pl
  exact own_in h1 hi
theorem sp_global (h : Sp w w1 gp A) : Calls Try.prog 18 #[.pointer (some ⟨gp, 0, none⟩)] w1 fun e w' => ∃ v, e = .returned v ∧ Below w1.heap.size w1 w' ∧ w'.ownsRow w1.heap.size 3 1 v A.gl.length (nums .i64 A.gl) := by
  obtain ⟨⟨bl, cl, ex, r, q, h1⟩, h2⟩ := h
  exact global_any h1
theorem mid_new (h : Sp w w1 gp A) (hb : Below w1.heap.size w1 w2) {v : Value} {l M : List Int} (ho : w2.ownsRow w1.heap.size 3 1 v l.length (nums .i64 l)) (hm : w2.heap[gm]? = some (.cells (mcells M).toArray 46 (0, 0))) (hg : w1.heap.size ≤ gm) : Mid w w2 w1.heap.size gp gm A v l M := by
  obtain ⟨bl, cl, ex, r, q, h1⟩ := h.1.bound
  exact ⟨⟨bl, cl, ex, r, q, h1.below hb⟩, below_step h.2 hb, h.2.size, hb.size, ho, hm, hg⟩
end
end Go.Proofs.Ytjcjhmnfknenlaa.Pl
