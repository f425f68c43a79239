/- Places in memory: workers, their rows, the row of all, and where each thread stands. Conditions: none. -/
import Derived.Test.YtjcjhmnfknenlaaRing5
import Derived.Deep.RegionLaw
namespace Go.Proofs.Ytjcjhmnfknenlaa.Rg
open Go.RowKit Go.Proofs.YtjcjhmnfknenlaaW.PrintWords
theorem Row.lt' {W : World} {g b c cap : Nat} {ex : List Value} {l : List Int} (h : Row W g b c ex cap l) : g < W.heap.size ∧ b < W.heap.size := by
  obtain ⟨p, n, xs, h, _⟩ := h
  exact ⟨blk_lt h.hg, blk_lt h.hb⟩
end Go.Proofs.Ytjcjhmnfknenlaa.Rg
namespace Go.Proofs.Ytjcjhmnfknenlaa.Pl
open Go.RowKit Go.Proofs.YtjcjhmnfknenlaaW.PrintWords Go.Proofs.YtjcjhmnfknenlaaW.PrintLast Go.Proofs.YtjcjhmnfknenlaaW.PrintMore
open Rg (Chg Row row_back row_popback row_popfront row_all row_new row_clone two refDo)
set_option linter.unusedVariables false
set_option linter.unusedSimpArgs false

def up {α : Type} (f : Nat → α) (i : Nat) (v : α) : Nat → α := fun k => if k = i then v else f k
theorem up_same {α : Type} (f : Nat → α) (i : Nat) (v : α) : up f i v i = v := if_pos rfl
theorem up_ne {α : Type} (f : Nat → α) {i k : Nat} (v : α) (h : k ≠ i) : up f i v k = f k := if_neg h
theorem up_self {α : Type} (f : Nat → α) (i : Nat) : up f i (f i) = f := by
  funext k
  unfold up
  split
  · rename_i h; rw [h]
  · rfl
/-- What all tell. -/
structure Pa where
  n : Nat
  runs : Nat → Int
  work : Nat → Int
  own : Nat → List Int
  gl : List Int
  wh : Nat → Int
/-- A row's blocks. -/
structure Rk where
  g : Nat
  b : Nat
  c : Nat
  ex : List Value
def wcell (A : Pa) (r : Nat → Rk) (k : Nat) : Value := if k % 3 = 0 then .int .i64 (A.runs (k / 3)) else if k % 3 = 1 then .int .i64 (A.work (k / 3)) else .pointer (some ⟨(r (k / 3)).g, 0, none⟩)
def wcells (A : Pa) (r : Nat → Rk) : List Value := (List.range (A.n * 3)).map (wcell A r)
def pcells (A : Pa) (bl cl : Nat) (q : Rk) : List Value := .slice (some ⟨bl, 0, none⟩) A.n cl :: .pointer (some ⟨q.g, 0, none⟩) :: (List.range 64).map fun t => .int .u8 (A.wh t)
theorem map_set {α : Type} (f g : Nat → α) (m i : Nat) (hi : i < m) (h : ∀ k, k ≠ i → g k = f k) : ((List.range m).map f).set i (g i) = (List.range m).map g := by
  apply List.ext_getElem?
  intro k
  rw [List.getElem?_set, List.getElem?_map, List.getElem?_map, List.length_map, List.length_range]
  by_cases e : i = k
  · subst e
    rw [if_pos rfl, if_pos hi]
    simp [hi]
  · rw [if_neg e]
    by_cases hk : k < m
    · simp [hk, h k (fun q => e q.symm)]
    · simp [hk]
/-- Places in memory. -/
structure At (S : Nat → Prop) (W : World) (gp : Nat) (A : Pa) (bl cl : Nat) (ex : List Value) (r : Nat → Rk) (q : Rk) : Prop where
  hg : W.heap[gp]? = some (.cells (pcells A bl cl q).toArray 57 (0, 0))
  hl : W.heap[bl]? = some (.cells (wcells A r ++ ex).toArray 59 (0, 0))
  own : ∀ i, i < A.n → Row W (r i).g (r i).b (r i).c (r i).ex 16 (A.own i)
  glob : Row W q.g q.b q.c q.ex 64 A.gl
  s : S gp ∧ S bl ∧ S q.g ∧ S q.b ∧ ∀ i, i < A.n → S (r i).g ∧ S (r i).b
  sep : ∀ i j, i < A.n → j < A.n → i ≠ j → (r i).g ≠ (r j).g ∧ (r i).b ≠ (r j).b
  sepq : ∀ i, i < A.n → (r i).g ≠ q.g ∧ (r i).b ≠ q.b
  n_pos : 0 < A.n
  n_le : A.n ≤ 8
  cl_le : A.n ≤ cl
theorem tag_ne {W : World} {a b t u : Nat} {x y : Array Value} {f e : Nat × Nat} (ha : W.heap[a]? = some (.cells x t f)) (hb : W.heap[b]? = some (.cells y u e)) (h : t ≠ u) : a ≠ b := by
  intro q
  rw [q, hb] at ha
  injection ha with ha
  injection ha with _ ht
  exact h ht.symm
theorem row_tags {W : World} {g b c cap : Nat} {ex : List Value} {l : List Int} (h : Row W g b c ex cap l) : (∃ x, W.heap[g]? = some (.cells x 80 (0, 0))) ∧ ∃ x, W.heap[b]? = some (.cells x 3 (0, 0)) := by
  obtain ⟨p, n, xs, h, _⟩ := h
  exact ⟨⟨_, h.hg⟩, ⟨_, h.hb⟩⟩
section
variable {S : Nat → Prop} {W W' : World} {gp bl cl : Nat} {A : Pa} {ex : List Value} {r : Nat → Rk} {q : Rk}
theorem At.kept {T : Nat → Prop} (h : At S W gp A bl cl ex r q) (hc : Chg T W W') (hT : ∀ k, T k → ¬ S k) : At S W' gp A bl cl ex r q := by
  have n1 : ∀ k, S k → ¬ T k := fun k hs ht => hT k ht hs
  refine ⟨(hc.block gp (blk_lt h.hg) (n1 _ h.s.1)).trans h.hg, (hc.block bl (blk_lt h.hl) (n1 _ h.s.2.1)).trans h.hl, fun i hi => (h.own i hi).kept hc (n1 _ (h.s.2.2.2.2 i hi).1) (n1 _ (h.s.2.2.2.2 i hi).2), h.glob.kept hc (n1 _ h.s.2.2.1) (n1 _ h.s.2.2.2.1), h.s, h.sep, h.sepq, h.n_pos, h.n_le, h.cl_le⟩
theorem At.below (h : At S W gp A bl cl ex r q) (hb : Below W.heap.size W W') : At S W' gp A bl cl ex r q := h.kept (T := fun _ => False) (Chg.of_below hb) (fun _ q => q.elim)
theorem At.mono {S' : Nat → Prop} (h : At S W gp A bl cl ex r q) (hs : ∀ k, S k → S' k) : At S' W gp A bl cl ex r q :=
  ⟨h.hg, h.hl, h.own, h.glob, ⟨hs _ h.s.1, hs _ h.s.2.1, hs _ h.s.2.2.1, hs _ h.s.2.2.2.1, fun i hi => ⟨hs _ (h.s.2.2.2.2 i hi).1, hs _ (h.s.2.2.2.2 i hi).2⟩⟩, h.sep, h.sepq, h.n_pos, h.n_le, h.cl_le⟩
theorem At.c0 (h : At S W gp A bl cl ex r q) : W.cell? ⟨gp, 0, none⟩ = some (.slice (some ⟨bl, 0, none⟩) A.n cl) := (blk_cell h.hg 0).trans rfl
theorem At.c1 (h : At S W gp A bl cl ex r q) : W.cell? ⟨gp, 1, none⟩ = some (.pointer (some ⟨q.g, 0, none⟩)) := (blk_cell h.hg 1).trans rfl
theorem At.cw (h : At S W gp A bl cl ex r q) {t : Nat} (ht : t < 64) : W.cell? ⟨gp, 2 + t, none⟩ = some (.int .u8 (A.wh t)) := by
  refine (blk_cell h.hg (2 + t)).trans ?_
  rw [List.getElem?_toArray]
  unfold pcells
  rw [show 2 + t = t + 1 + 1 by omega, List.getElem?_cons_succ, List.getElem?_cons_succ, List.getElem?_map, List.getElem?_range ht]
  rfl
theorem wcells_get {i j : Nat} (hi : i < A.n) (hj : j < 3) : (wcells A r ++ ex).toArray[i * 3 + j]? = some (wcell A r (i * 3 + j)) := by
  rw [List.getElem?_toArray]
  unfold wcells
  rw [List.getElem?_append_left (by rw [List.length_map, List.length_range]; omega), List.getElem?_map, List.getElem?_range (by omega)]
  rfl
theorem At.w0 (h : At S W gp A bl cl ex r q) {i : Nat} (hi : i < A.n) : W.cell? ⟨bl, i * 3, none⟩ = some (.int .i64 (A.runs i)) := by
  refine (blk_cell h.hl (i * 3)).trans ((wcells_get (j := 0) hi (by decide)).trans ?_)
  unfold wcell
  rw [if_pos (by omega), show (i * 3 + 0) / 3 = i by omega]
theorem At.w1 (h : At S W gp A bl cl ex r q) {i : Nat} (hi : i < A.n) : W.cell? ⟨bl, i * 3 + 1, none⟩ = some (.int .i64 (A.work i)) := by
  refine (blk_cell h.hl (i * 3 + 1)).trans ((wcells_get (j := 1) hi (by decide)).trans ?_)
  unfold wcell
  rw [if_neg (by omega), if_pos (by omega), show (i * 3 + 1) / 3 = i by omega]
theorem At.w2 (h : At S W gp A bl cl ex r q) {i : Nat} (hi : i < A.n) : W.cell? ⟨bl, i * 3 + 2, none⟩ = some (.pointer (some ⟨(r i).g, 0, none⟩)) := by
  refine (blk_cell h.hl (i * 3 + 2)).trans ((wcells_get (j := 2) hi (by decide)).trans ?_)
  unfold wcell
  rw [if_neg (by omega), if_neg (by omega), show (i * 3 + 2) / 3 = i by omega]
theorem wset (A A' : Pa) (r r' : Nat → Rk) (ex : List Value) {i j : Nat} (hn : A'.n = A.n) (hi : i < A.n) (hj : j < 3) (hs : ∀ k, k ≠ i * 3 + j → wcell A' r' k = wcell A r k) :
    (wcells A r ++ ex).toArray.setIfInBounds (i * 3 + j) (wcell A' r' (i * 3 + j)) = (wcells A' r' ++ ex).toArray := by
  rw [List.setIfInBounds_toArray]
  unfold wcells
  rw [List.set_append_left _ _ (by rw [List.length_map, List.length_range]; omega), hn, map_set (wcell A r) (wcell A' r') _ _ (by omega) hs]
theorem wr0 (A : Pa) (r : Nat → Rk) (i : Nat) (v : Int) (k : Nat) (hk : k ≠ i * 3 + 0) : wcell { A with runs := up A.runs i v } r k = wcell A r k := by
  unfold wcell
  by_cases e : k % 3 = 0
  · rw [if_pos e, if_pos e]
    show Value.int .i64 (up A.runs i v (k / 3)) = _
    rw [up_ne _ _ (by omega)]
  · rw [if_neg e, if_neg e]
theorem wr1 (A : Pa) (r : Nat → Rk) (i : Nat) (v : Int) (k : Nat) (hk : k ≠ i * 3 + 1) : wcell { A with work := up A.work i v } r k = wcell A r k := by
  unfold wcell
  by_cases e : k % 3 = 0
  · rw [if_pos e, if_pos e]
  · rw [if_neg e, if_neg e]
    by_cases e1 : k % 3 = 1
    · rw [if_pos e1, if_pos e1]
      show Value.int .i64 (up A.work i v (k / 3)) = _
      rw [up_ne _ _ (by omega)]
    · rw [if_neg e1, if_neg e1]
theorem pset (A : Pa) (bl cl : Nat) (q : Rk) {t : Nat} (ht : t < 64) (v : Int) : (pcells A bl cl q).toArray.setIfInBounds (2 + t) (.int .u8 v) = (pcells { A with wh := up A.wh t v } bl cl q).toArray := by
  rw [List.setIfInBounds_toArray]
  unfold pcells
  rw [show 2 + t = t + 1 + 1 by omega, List.set_cons_succ, List.set_cons_succ]
  have := map_set (fun k => Value.int .u8 (A.wh k)) (fun k => Value.int .u8 (up A.wh t v k)) 64 t ht (fun k hk => by show Value.int .u8 (up A.wh t v k) = _; rw [up_ne _ _ hk])
  simp only [up_same] at this
  rw [this]
/-- The block of the workers is none of the others. -/
theorem At.bl_ne (h : At S W gp A bl cl ex r q) : bl ≠ gp := (tag_ne h.hl h.hg (by decide))
theorem At.setRuns (h : At S W gp A bl cl ex r q) {i : Nat} (hi : i < A.n) (v : Int) : At S (W.setCell ⟨bl, i * 3, none⟩ (.int .i64 v)) gp { A with runs := up A.runs i v } bl cl ex r q := by
  have hrow : ∀ {g b c cap : Nat} {ex : List Value} {l : List Int}, Row W g b c ex cap l → Row (W.setCell ⟨bl, i * 3, none⟩ (.int .i64 v)) g b c ex cap l := fun hr =>
    hr.kept (S := fun k => k = bl) ((Chg.refl (fun k => k = bl) W).set_ (Or.inl rfl) _) (tag_ne (row_tags hr).1.choose_spec h.hl (by decide)) (tag_ne (row_tags hr).2.choose_spec h.hl (by decide))
  refine ⟨blk_far h.hg h.bl_ne.symm _, blk_put h.hl (i * 3) _ ?_, fun j hj => hrow (h.own j hj), hrow h.glob, h.s, h.sep, h.sepq, h.n_pos, h.n_le, h.cl_le⟩
  have e := wset A { A with runs := up A.runs i v } r r ex (i := i) (j := 0) rfl hi (by decide) (wr0 A r i v)
  rw [← e]
  congr 1
  unfold wcell
  rw [if_pos (by omega), show (i * 3 + 0) / 3 = i by omega]
  show Value.int .i64 v = Value.int .i64 (up A.runs i v i)
  rw [up_same]
theorem At.setWork (h : At S W gp A bl cl ex r q) {i : Nat} (hi : i < A.n) (v : Int) : At S (W.setCell ⟨bl, i * 3 + 1, none⟩ (.int .i64 v)) gp { A with work := up A.work i v } bl cl ex r q := by
  have hrow : ∀ {g b c cap : Nat} {ex : List Value} {l : List Int}, Row W g b c ex cap l → Row (W.setCell ⟨bl, i * 3 + 1, none⟩ (.int .i64 v)) g b c ex cap l := fun hr =>
    hr.kept (S := fun k => k = bl) ((Chg.refl (fun k => k = bl) W).set_ (Or.inl rfl) _) (tag_ne (row_tags hr).1.choose_spec h.hl (by decide)) (tag_ne (row_tags hr).2.choose_spec h.hl (by decide))
  refine ⟨blk_far h.hg h.bl_ne.symm _, blk_put h.hl (i * 3 + 1) _ ?_, fun j hj => hrow (h.own j hj), hrow h.glob, h.s, h.sep, h.sepq, h.n_pos, h.n_le, h.cl_le⟩
  have e := wset A { A with work := up A.work i v } r r ex (i := i) (j := 1) rfl hi (by decide) (wr1 A r i v)
  rw [← e]
  congr 1
  unfold wcell
  rw [if_neg (by omega), if_pos (by omega), show (i * 3 + 1) / 3 = i by omega]
  show Value.int .i64 v = Value.int .i64 (up A.work i v i)
  rw [up_same]
theorem At.setWh (h : At S W gp A bl cl ex r q) {t : Nat} (ht : t < 64) (v : Int) : At S (W.setCell ⟨gp, 2 + t, none⟩ (.int .u8 v)) gp { A with wh := up A.wh t v } bl cl ex r q := by
  have hrow : ∀ {g b c cap : Nat} {ex : List Value} {l : List Int}, Row W g b c ex cap l → Row (W.setCell ⟨gp, 2 + t, none⟩ (.int .u8 v)) g b c ex cap l := fun hr =>
    hr.kept (S := fun k => k = gp) ((Chg.refl (fun k => k = gp) W).set_ (Or.inl rfl) _) (tag_ne (row_tags hr).1.choose_spec h.hg (by decide)) (tag_ne (row_tags hr).2.choose_spec h.hg (by decide))
  exact ⟨blk_put h.hg (2 + t) _ (pset A bl cl q ht v), blk_far h.hl h.bl_ne _, fun j hj => hrow (h.own j hj), hrow h.glob, h.s, h.sep, h.sepq, h.n_pos, h.n_le, h.cl_le⟩
/-- A worker's own row has turned. -/
theorem At.turnOwn (h : At S W gp A bl cl ex r q) {i : Nat} (hi : i < A.n) {l : List Int} (hc : Chg (two (r i).g (r i).b) W W') (hr : Row W' (r i).g (r i).b (r i).c (r i).ex 16 l) : At S W' gp { A with own := up A.own i l } bl cl ex r q := by
  have t0 := row_tags (h.own i hi)
  have tq := row_tags h.glob
  have other : ∀ {k : Nat} {x : Array Value} {t : Nat}, W.heap[k]? = some (.cells x t (0, 0)) → t ≠ 80 → t ≠ 3 → ¬ two (r i).g (r i).b k := by
    intro k x t hk h1 h2 ht
    rcases ht with ht | ht
    · exact tag_ne hk t0.1.choose_spec h1 ht
    · exact tag_ne hk t0.2.choose_spec h2 ht
  refine ⟨(hc.block gp (blk_lt h.hg) (other h.hg (by decide) (by decide))).trans h.hg, (hc.block bl (blk_lt h.hl) (other h.hl (by decide) (by decide))).trans h.hl, fun j hj => ?_, h.glob.kept hc (fun ht => ?_) (fun ht => ?_), h.s, h.sep, h.sepq, h.n_pos, h.n_le, h.cl_le⟩
  · show Row W' _ _ _ _ 16 (up A.own i l j)
    by_cases e : j = i
    · subst e; rw [up_same]; exact hr
    · rw [up_ne _ _ e]
      have tj := row_tags (h.own j hj)
      refine (h.own j hj).kept hc (fun ht => ?_) (fun ht => ?_)
      · rcases ht with ht | ht
        · exact (h.sep j i hj hi e).1 ht
        · exact tag_ne tj.1.choose_spec t0.2.choose_spec (by decide) ht
      · rcases ht with ht | ht
        · exact tag_ne tj.2.choose_spec t0.1.choose_spec (by decide) ht
        · exact (h.sep j i hj hi e).2 ht
  · rcases ht with ht | ht
    · exact (h.sepq i hi).1 ht.symm
    · exact tag_ne tq.1.choose_spec t0.2.choose_spec (by decide) ht
  · rcases ht with ht | ht
    · exact tag_ne tq.2.choose_spec t0.1.choose_spec (by decide) ht
    · exact (h.sepq i hi).2 ht.symm
/-- The row of all has turned. -/
theorem At.turnGl (h : At S W gp A bl cl ex r q) {l : List Int} (hc : Chg (two q.g q.b) W W') (hr : Row W' q.g q.b q.c q.ex 64 l) : At S W' gp { A with gl := l } bl cl ex r q := by
  have t0 := row_tags h.glob
  have other : ∀ {k : Nat} {x : Array Value} {t : Nat}, W.heap[k]? = some (.cells x t (0, 0)) → t ≠ 80 → t ≠ 3 → ¬ two q.g q.b k := by
    intro k x t hk h1 h2 ht
    rcases ht with ht | ht
    · exact tag_ne hk t0.1.choose_spec h1 ht
    · exact tag_ne hk t0.2.choose_spec h2 ht
  refine ⟨(hc.block gp (blk_lt h.hg) (other h.hg (by decide) (by decide))).trans h.hg, (hc.block bl (blk_lt h.hl) (other h.hl (by decide) (by decide))).trans h.hl, fun j hj => ?_, hr, h.s, h.sep, h.sepq, h.n_pos, h.n_le, h.cl_le⟩
  have tj := row_tags (h.own j hj)
  refine (h.own j hj).kept hc (fun ht => ?_) (fun ht => ?_)
  · rcases ht with ht | ht
    · exact (h.sepq j hj).1 ht
    · exact tag_ne tj.1.choose_spec t0.2.choose_spec (by decide) ht
  · rcases ht with ht | ht
    · exact tag_ne tj.2.choose_spec t0.1.choose_spec (by decide) ht
    · exact (h.sepq j hj).2 ht
theorem At.chgOwn (h : At S W gp A bl cl ex r q) {i : Nat} (hi : i < A.n) (hc : Chg (two (r i).g (r i).b) W W') : Chg S W W' :=
  ⟨hc.os, hc.tape, hc.output, hc.size, fun k hk hs => hc.block k hk (fun ht => by
    rcases ht with ht | ht
    · exact hs (ht ▸ (h.s.2.2.2.2 i hi).1)
    · exact hs (ht ▸ (h.s.2.2.2.2 i hi).2))⟩
theorem At.chgGl (h : At S W gp A bl cl ex r q) (hc : Chg (two q.g q.b) W W') : Chg S W W' :=
  ⟨hc.os, hc.tape, hc.output, hc.size, fun k hk hs => hc.block k hk (fun ht => by
    rcases ht with ht | ht
    · exact hs (ht ▸ h.s.2.2.1)
    · exact hs (ht ▸ h.s.2.2.2.1))⟩
end
end Go.Proofs.Ytjcjhmnfknenlaa.Pl
