/- Rows of pairs of whole numbers in memory; append of any cells. Conditions: none. -/
import Derived.Test.YtakbhnfmimnbhaaWMore
import Derived.Test.YtakbhnfmimnbhaaWLast
import Derived.Deep.RegionLaw
import Derived.Maps.AppendAt
import Derived.WalkKit
import Derived.Lib.SliceRun
namespace Go.Proofs.Ytakbhnfmimnbhaa.Rn
open Go.RowKit Go.Proofs.YtakbhnfmimnbhaaW.PrintWords Go.Proofs.YtakbhnfmimnbhaaW.PrintLast Go.Proofs.YtakbhnfmimnbhaaW.PrintMore
set_option linter.unusedVariables false
set_option linter.unusedSimpArgs false

/-- m elements of k cells that can be read from A on. -/
def RdC (W : World) (A : Option Addr) (m k : Nat) (ys : List Value) : Prop := ys.length = m * k ∧ (0 < m → ∃ ad, A = some ad ∧ ∀ j u, ys[j]? = some u → W.cell? (ad.add j) = some u)
section
variable {P : Program} {ops : Array Oper} {o : Oper} {a : Act} {Q : Exit → Act → World → Prop} {W w1 : World} {rest : List Oper}
/-- append(v, ys...) for any cells. -/
theorem app_any (base t ty e size bytes : Nat) (z : Value) (ht : P.underlying t = some (.slice e)) (hinfo : (P.info? e).map (fun i => (i.zero, i.size, i.bytes)) = some (some z, size, bytes)) (hz : z.cells.size = size) (hs0 : 0 < size) (hb0 : 0 < bytes)
    (v : Value) (n : Nat) (xs ys : List Value) (A : Option Addr) (m c : Nat) (HO : W.ownsRow base e size v n xs) (HR : RdC W A m size ys) (h1 : ∀ u ∈ ys, u.oneCell' = true) (hbase : base ≤ W.heap.size) (hl : (n + m) * bytes ≤ 140737488355328) (hA : A = none → c = c) :
    ∃ v1 w1, (Builtin.append_ #[t, t] ty #[v, .slice A m c]).run P W = .ok v1 w1 ∧ w1.ownsRow base e size v1 (n + m) (xs ++ ys) ∧ W.grownBy w1 v.ownBlock ∧ (v1.ownBlock = v.ownBlock ∨ v1.ownBlock = some W.heap.size) := by
  obtain ⟨i0, hi, hzz⟩ := Option.map_eq_some_iff.1 hinfo
  simp only [Prod.mk.injEq] at hzz
  obtain ⟨hz0, hz1, hz2⟩ := hzz
  have hlen : n + m ≤ 140737488355328 := Nat.le_trans (Nat.le_mul_of_pos_right _ hb0) hl
  rcases A with _ | ad
  · have h0 : m = 0 := by
      rcases Nat.eq_zero_or_pos m with h0 | h0
      · exact h0
      · obtain ⟨ad, h, _⟩ := HR.2 h0
        cases h
    subst h0
    obtain rfl : ys = [] := List.eq_nil_of_length_eq_zero (by have := HR.1; omega)
    refine ⟨v, W, ?_, by simpa using HO, World.grownBy.refl W _, .inl rfl⟩
    rcases HO.2 with ⟨rfl, hn⟩ | ⟨g, cap, cur, rfl, _, _, hnc, _⟩
    · simp [Builtin.append_, run_underlying ht, sizeOf, typeInfo, hi, Builtin.lenOf, Builtin.firstCells]
    · simp [Builtin.append_, run_underlying ht, sizeOf, typeInfo, hi, Builtin.lenOf, Builtin.firstCells, hnc, storeCells]
  · obtain ⟨v1, w1, hr, hown, hg2, _, hat⟩ := run_append_own_at (P := P) (w := W) base t ty e i0 z size bytes ht hi hz0 hz1 hz2 hz hs0 v n xs HO ad m c ys HR.1 (fun j u hj => by
      rcases Nat.eq_zero_or_pos m with h0 | h0
      · obtain rfl : ys = [] := List.eq_nil_of_length_eq_zero (by rw [HR.1, h0, Nat.zero_mul])
        simp at hj
      · obtain ⟨ad', h, hc⟩ := HR.2 h0
        injection h with h
        subst h
        exact hc j u hj) h1 (by simp only [maxLen]; omega) hl hbase
    exact ⟨v1, w1, hr, hown, hg2, hat⟩
/-- .. its run given, in a region whose order is the text's. -/
theorem list_run (hgd : o.guard = none) (s x : Operand) (t t' : TypeId) (ho : o.op = .call { callee := .builtin .append, args := #[s, x], argTypes := #[t, t'] }) (v y v1 : Value) (hs : a.eval s = v) (hx : a.eval x = y)
    (hr : (Builtin.append_ #[t, t'] o.type #[v, y]).run P W = .ok v1 w1) (h : wpList P ops Q rest (a.put o.dst v1) w1) : wpList P ops Q (o :: rest) a W := by
  refine wpList_plain hgd fun K hK => ?_
  unfold Oper.wp execOp
  simp only [ho, resolve, invoke, builtin, Sem.run_bind, Sem.run_pure, Result.andThen_ok, List.map_toArray, List.map_cons, List.map_nil, hs, hx, hr]
  exact hK _ _ h
/-- .. as one step of a region that draws. -/
theorem step_run {K : Act → World → Prop} (hg : o.guard = none) (s x : Operand) (t t' : TypeId) (ho : o.op = .call { callee := .builtin .append, args := #[s, x], argTypes := #[t, t'] }) (v y v1 : Value) (hs : a.eval s = v) (hx : a.eval x = y)
    (hr : (Builtin.append_ #[t, t'] o.type #[v, y]).run P W = .ok v1 w1) (h : K (a.put o.dst v1) w1) {E : Prop} : if Region.wanted o (yielded ops a.tmps) = true then Oper.wp P o a W K Q else E := by
  have hw : Region.wanted o (yielded ops a.tmps) = true := by simp [Region.wanted, hg]
  rw [if_pos hw]
  unfold Oper.wp execOp
  simp only [ho, resolve, invoke, builtin, Sem.run_bind, Sem.run_pure, Result.andThen_ok, List.map_toArray, List.map_cons, List.map_nil, hs, hx, hr]
  exact h
end
theorem alloc_le (W : World) (o : Obj) : W.heap.size ≤ (W.alloc o).heap.size := by
  show _ ≤ (W.heap.push o).size
  rw [Array.size_push]
  omega
theorem own_fresh (W : World) {base : Nat} (hb : base ≤ W.heap.size) (e k : Nat) (hk : 0 < k) : (W.alloc (.cells #[] e)).ownsRow base e k (.slice (some ⟨W.heap.size, 0, none⟩) 0 0) 0 [] :=
  ⟨by simp, .inr ⟨W.heap.size, 0, #[], rfl, hb, blk_new W _, Nat.le_refl _, by decide, by simp, by simp⟩⟩
theorem own_nil (W : World) (base e k : Nat) : W.ownsRow base e k (.slice none 0 0) 0 [] := ⟨by simp, .inl ⟨rfl, rfl⟩⟩
/-! ### pairs -/
def pcs (l : List (Int × Int)) : List Value := l.flatMap fun p => [.int .i64 p.1, .int .i64 p.2]
theorem pcs_nil : pcs [] = [] := rfl
theorem pcs_cons (p : Int × Int) (l : List (Int × Int)) : pcs (p :: l) = .int .i64 p.1 :: .int .i64 p.2 :: pcs l := rfl
theorem pcs_app (a b : List (Int × Int)) : pcs (a ++ b) = pcs a ++ pcs b := List.flatMap_append
theorem pcs_len (l : List (Int × Int)) : (pcs l).length = l.length * 2 := by
  induction l with
  | nil => rfl
  | cons p l ih => rw [pcs_cons, List.length_cons, List.length_cons, List.length_cons, ih]; omega
theorem pcs_one (l : List (Int × Int)) : ∀ u ∈ pcs l, u.oneCell' = true := by
  intro u hu
  unfold pcs at hu
  obtain ⟨p, _, hu⟩ := List.mem_flatMap.1 hu
  simp only [List.mem_cons, List.not_mem_nil, or_false] at hu
  rcases hu with rfl | rfl <;> rfl
theorem pcs_get (l : List (Int × Int)) : ∀ j, j < l.length → (pcs l)[j * 2]? = some (.int .i64 (l.getD j (0, 0)).1) ∧ (pcs l)[j * 2 + 1]? = some (.int .i64 (l.getD j (0, 0)).2) := by
  induction l with
  | nil => intro j hj; simp at hj
  | cons p l ih =>
    intro j hj
    rw [pcs_cons]
    cases j with
    | zero => exact ⟨rfl, rfl⟩
    | succ j =>
      have h := ih j (by simpa using hj)
      rw [show (j + 1) * 2 = j * 2 + 1 + 1 by omega]
      exact ⟨by simpa using h.1, by simpa using h.2⟩
/-- A row of pairs of one's own (at base b or behind it). -/
def PR (W : World) (b : Nat) (v : Value) (l : List (Int × Int)) : Prop := W.ownsRow b 33 2 v l.length (pcs l)
section
variable {W W' : World} {b : Nat} {v : Value} {l : List (Int × Int)}
theorem PR.below (h : PR W b v l) (hb : Below W.heap.size W W') : PR W' b v l := pw_own_below h hb
theorem PR.weaken {b' : Nat} (h : PR W b v l) (hb : b' ≤ b) : PR W b' v l := own_weaken h hb
theorem PR.nil (W : World) (b : Nat) : PR W b (.slice none 0 0) [] := own_nil W b _ _
theorem PR.open (h : PR W b v l) : ∃ A c, v = .slice A l.length c ∧ ((A = none ∧ c = 0 ∧ l = []) ∨ ∃ g, A = some ⟨g, 0, none⟩ ∧ l.length ≤ c) := by
  rcases h.2 with ⟨rfl, hn⟩ | ⟨g, cap, cur, rfl, _, hh, hn, _⟩
  · exact ⟨none, 0, by rw [hn], .inl ⟨rfl, rfl, List.eq_nil_of_length_eq_zero hn⟩⟩
  · exact ⟨_, _, rfl, .inr ⟨g, rfl, hn⟩⟩
theorem PR.at {g c : Nat} (h : PR W b (.slice (some ⟨g, 0, none⟩) l.length c) l) {j : Nat} (hj : j < l.length) : W.cell? ⟨g, j * 2, none⟩ = some (.int .i64 (l.getD j (0, 0)).1) ∧ W.cell? ⟨g, j * 2 + 1, none⟩ = some (.int .i64 (l.getD j (0, 0)).2) := by
  have hg := pcs_get l j hj
  have h1 := h.cells (g := g) rfl (j * 2) _ hg.1
  have h2 := h.cells (g := g) rfl (j * 2 + 1) _ hg.2
  rw [add_plain] at h1 h2
  exact ⟨h1, h2⟩
theorem PR.frozen {g c n : Nat} (h : PR W b (.slice (some ⟨g, 0, none⟩) n c) l) (i : Nat) : W.frozen? ⟨g, i, none⟩ = false := by
  rcases h.2 with ⟨h', _⟩ | ⟨g', cap', cur, h', _, hh, _⟩
  · cases h'
  · injection h' with h1
    injection h1 with h1
    injection h1 with h1
    subst h1
    exact blk_frozen hh i
theorem PR.rd {A : Option Addr} {n c : Nat} (h : PR W b (.slice A n c) l) : RdC W A l.length 2 (pcs l) := by
  refine ⟨pcs_len l, fun hn => ?_⟩
  rcases h.2 with ⟨h', hz⟩ | ⟨g, cap, cur, h', _⟩
  · omega
  · injection h' with h1 h2 h3
    subst h1
    subst h2
    subst h3
    exact ⟨_, rfl, fun j u hu => by
      have h1 := h.cells (g := g) rfl j u hu
      exact h1⟩
theorem PR.n {A : Option Addr} {n c : Nat} (h : PR W b (.slice A n c) l) : n = l.length := by
  obtain ⟨A', c', h', _⟩ := h.open
  injection h'
end
/-- Where an object stands first. -/
def fnd (l : List (Int × Int)) (o : Int) : Option Nat := l.findIdx? fun p => p.1 == o
def plc : Option Nat → Int
  | none => -1
  | some i => (i : Int)
theorem fnd_none {l : List (Int × Int)} {o : Int} (h : ∀ j, j < l.length → (l.getD j (0, 0)).1 ≠ o) : fnd l o = none := by
  unfold fnd
  rw [List.findIdx?_eq_none_iff]
  intro p hp
  obtain ⟨j, hj, rfl⟩ := List.mem_iff_getElem.1 hp
  have := h j hj
  rw [List.getD_eq_getElem?_getD, List.getElem?_eq_getElem hj] at this
  simpa using this
theorem fnd_some {l : List (Int × Int)} {o : Int} {i : Nat} (hi : i < l.length) (he : (l.getD i (0, 0)).1 = o) (h : ∀ j, j < i → (l.getD j (0, 0)).1 ≠ o) : fnd l o = some i := by
  unfold fnd
  rw [List.findIdx?_eq_some_iff_getElem]
  refine ⟨hi, ?_, fun j hj => ?_⟩
  · rw [List.getD_eq_getElem?_getD, List.getElem?_eq_getElem hi] at he
    simpa using he
  · have := h j hj
    rw [List.getD_eq_getElem?_getD, List.getElem?_eq_getElem (by omega)] at this
    simpa using this
theorem fnd_lt {l : List (Int × Int)} {o : Int} {i : Nat} (h : fnd l o = some i) : i < l.length ∧ (l.getD i (0, 0)).1 = o := by
  unfold fnd at h
  rw [List.findIdx?_eq_some_iff_getElem] at h
  obtain ⟨hi, h1, _⟩ := h
  refine ⟨hi, ?_⟩
  rw [List.getD_eq_getElem?_getD, List.getElem?_eq_getElem hi]
  simpa using h1
end Go.Proofs.Ytakbhnfmimnbhaa.Rn
