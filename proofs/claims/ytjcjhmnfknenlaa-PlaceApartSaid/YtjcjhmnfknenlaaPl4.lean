/- Places in memory: workers, their rows, the row of all, and where each thread stands. Conditions: none. -/
import Derived.Test.YtjcjhmnfknenlaaRing5
import Derived.Deep.RegionLaw
namespace Go.Proofs.Ytjcjhmnfknenlaa.Rg
open Go.RowKit Go.Proofs.YtjcjhmnfknenlaaW.PrintWords
theorem Row.lt' {W : World} {g b c cap : Nat} {ex : List Value} {l : List Int} (h : Row W g b c ex cap l) : g < W.heap.size ∧ b < W.heap.size := by
  obtain ⟨p, n, xs, h, _⟩ := h
  exact ⟨blk_lt h.hg, blk_lt h.hb⟩
end Go.Proofs.Ytjcjhmnfknenlaa.Rg
namespace Go.Proofs.Ytjcjhmnfknenlaa.Pl
open Go.RowKit Go.Proofs.YtjcjhmnfknenlaaW.PrintWords Go.Proofs.YtjcjhmnfknenlaaW.PrintLast Go.Proofs.YtjcjhmnfknenlaaW.PrintMore
open Rg (Chg Row row_back row_popback row_popfront row_all row_new row_clone two refDo)
set_option linter.unusedVariables false
set_option linter.unusedSimpArgs false

def up {α : Type} (f : Nat → α) (i : Nat) (v : α) : Nat → α := fun k => if k = i then v else f k
theorem up_same {α : Type} (f : Nat → α) (i : Nat) (v : α) : up f i v i = v := if_pos rfl
theorem up_ne {α : Type} (f : Nat → α) {i k : Nat} (v : α) (h : k ≠ i) : up f i v k = f k := if_neg h
theorem up_self {α : Type} (f : Nat → α) (i : Nat) : up f i (f i) = f := by
  funext k
  unfold up
  split
  · rename_i h; rw [h]
  · rfl
/-- What all tell. -/
structure Pa where
  n : Nat
  runs : Nat → Int
  work : Nat → Int
  own : Nat → List Int
  gl : List Int
  wh : Nat → Int
/-- A row's blocks. -/
structure Rk where
  g : Nat
  b : Nat
  c : Nat
  ex : List Value
def wcell (A : Pa) (r : Nat → Rk) (k : Nat) : Value := if k % 3 = 0 then .int .i64 (A.runs (k / 3)) else if k % 3 = 1 then .int .i64 (A.work (k / 3)) else .pointer (some ⟨(r (k / 3)).g, 0, none⟩)
def wcells (A : Pa) (r : Nat → Rk) : List Value := (List.range (A.n * 3)).map (wcell A r)
def pcells (A : Pa) (bl cl : Nat) (q : Rk) : List Value := .slice (some ⟨bl, 0, none⟩) A.n cl :: .pointer (some ⟨q.g, 0, none⟩) :: (List.range 64).map fun t => .int .u8 (A.wh t)
theorem map_set {α : Type} (f g : Nat → α) (m i : Nat) (hi : i < m) (h : ∀ k, k ≠ i → g k = f k) : ((List.range m).map f).set i (g i) = (List.range m).map g := by
  apply List.ext_getElem?
  intro k
  rw [List.getElem?_set, List.getElem?_map, List.getElem?_map, List.length_map, List.length_range]
  by_cases e : i = k
  · subst e
    rw [if_pos rfl, if_pos hi]
    simp [hi]
  · rw [if_neg e]
    by_cases hk : k < m
    · simp [hk, h k (fun q => e q.symm)]
    · simp [hk]
/-- Places in memory. -/
structure At (S : Nat → Prop) (W : World) (gp : Nat) (A : Pa) (bl cl : Nat) (ex : List Value) (r : Nat → Rk) (q : Rk) : Prop where
  hg : W.heap[gp]? = some (.cells (pcells A bl cl q).toArray 57 (0, 0))
  hl : W.heap[bl]? = some (.cells (wcells A r ++ ex).toArray 59 (0, 0))
  own : ∀ i, i < A.n → Row W (r i).g (r i).b (r i).c (r i).ex 16 (A.own i)
  glob : Row W q.g q.b q.c q.ex 64 A.gl
  s : S gp ∧ S bl ∧ S q.g ∧ S q.b ∧ ∀ i, i < A.n → S (r i).g ∧ S (r i).b
  sep : ∀ i j, i < A.n → j < A.n → i ≠ j → (r i).g ≠ (r j).g ∧ (r i).b ≠ (r j).b
  sepq : ∀ i, i < A.n → (r i).g ≠ q.g ∧ (r i).b ≠ q.b
  n_pos : 0 < A.n
  n_le : A.n ≤ 8
  cl_le : A.n ≤ cl
theorem tag_ne {W : World} {a b t u : Nat} {x y : Array Value} {f e : Nat × Nat} (ha : W.heap[a]? = some (.cells x t f)) (hb : W.heap[b]? = some (.cells y u e)) (h : t ≠ u) : a ≠ b := by
  intro q
  rw [q, hb] at ha
  injection ha with ha
  injection ha with _ ht
  exact h ht.symm
theorem row_tags {W : World} {g b c cap : Nat} {ex : List Value} {l : List Int} (h : Row W g b c ex cap l) : (∃ x, W.heap[g]? = some (.cells x 80 (0, 0))) ∧ ∃ x, W.heap[b]? = some (.cells x 3 (0, 0)) := by
  obtain ⟨p, n, xs, h, _⟩ := h
  exact ⟨⟨_, h.hg⟩, ⟨_, h.hb⟩⟩
section
variable {S : Nat → Prop} {W W' : World} {gp bl cl : Nat} {A : Pa} {ex : List Value} {r : Nat → Rk} {q : Rk}
theorem At.kept {T : Nat → Prop} (h : At S W gp A bl cl ex r q) (hc : Chg T W W') (hT : ∀ k, T k → ¬ S k) : At S W' gp A bl cl ex r q := by
  have n1 : ∀ k, S k → ¬ T k := fun k hs ht => hT k ht hs
  refine ⟨(hc.block gp (blk_lt h.hg) (n1 _ h.s.1)).trans h.hg, (hc.block bl (blk_lt h.hl) (n1 _ h.s.2.1)).trans h.hl, fun i hi => (h.own i hi).kept hc (n1 _ (h.s.2.2.2.2 i hi).1) (n1 _ (h.s.2.2.2.2 i hi).2), h.glob.kept hc (n1 _ h.s.2.2.1) (n1 _ h.s.2.2.2.1), h.s, h.sep, h.sepq, h.n_pos, h.n_le, h.cl_le⟩
theorem At.below (h : At S W gp A bl cl ex r q) (hb : Below W.heap.size W W') : At S W' gp A bl cl ex r q := h.kept (T := fun _ => False) (Chg.of_below hb) (fun _ q => q.elim)
theorem At.mono {S' : Nat → Prop} (h : At S W gp A bl cl ex r q) (hs : ∀ k, S k → S' k) : At S' W gp A bl cl ex r q :=
  ⟨h.hg, h.hl, h.own, h.glob, ⟨hs _ h.s.1, hs _ h.s.2.1, hs _ h.s.2.2.1, hs _ h.s.2.2.2.1, fun i hi => ⟨hs _ (h.s.2.2.2.2 i hi).1, hs _ (h.s.2.2.2.2 i hi).2⟩⟩, h.sep, h.sepq, h.n_pos, h.n_le, h.cl_le⟩
theorem At.c0 (h : At S W gp A bl cl ex r q) : W.cell? ⟨gp, 0, none⟩ = some (.slice (some ⟨bl, 0, none⟩) A.n cl) := (blk_cell h.hg 0).trans rfl
theorem At.c1 (h : At S W gp A bl cl ex r q) : W.cell? ⟨gp, 1, none⟩ = some (.pointer (some ⟨q.g, 0, none⟩)) := (blk_cell h.hg 1).trans rfl
theorem At.cw (h : At S W gp A bl cl ex r q) {t : Nat} (ht : t < 64) : W.cell? ⟨gp, 2 + t, none⟩ = some (.int .u8 (A.wh t)) := by
  refine (blk_cell h.hg (2 + t)).trans ?_
  rw [List.getElem?_toArray]
  unfold pcells
  rw [show 2 + t = t + 1 + 1 by omega, List.getElem?_cons_succ, List.getElem?_cons_succ, List.getElem?_map, List.getElem?_range ht]
  rfl
theorem wcells_get {i j : Nat} (hi : i < A.n) (hj : j < 3) : (wcells A r ++ ex).toArray[i * 3 + j]? = some (wcell A r (i * 3 + j)) := by
  rw [List.getElem?_toArray]
  unfold wcells
  rw [List.getElem?_append_left (by rw [List.length_map, List.length_range]; omega), List.getElem?_map, List.getElem?_range (by omega)]
  rfl
theorem At.w0 (h : At S W gp A bl cl ex r q) {i : Nat} (hi : i < A.n) : W.cell? ⟨bl, i * 3, none⟩ = some (.int .i64 (A.runs i)) := by
  refine (blk_cell h.hl (i * 3)).trans ((wcells_get (j := 0) hi (by decide)).trans ?_)
  unfold wcell
  rw [if_pos (by omega), show (i * 3 + 0) / 3 = i by omega]
theorem At.w1 (h : At S W gp A bl cl ex r q) {i : Nat} (hi : i < A.n) : W.cell? ⟨bl, i * 3 + 1, none⟩ = some (.int .i64 (A.work i)) := by
  refine (blk_cell h.hl (i * 3 + 1)).trans ((wcells_get (j := 1) hi (by decide)).trans ?_)
  unfold wcell
  rw [if_neg (by omega), if_pos (by omega), show (i * 3 + 1) / 3 = i by omega]
theorem At.w2 (h : At S W gp A bl cl ex r q) {i : Nat} (hi : i < A.n) : W.cell? ⟨bl, i * 3 + 2, none⟩ = some (.pointer (some ⟨(r i).g, 0, none⟩)) := by
  refine (blk_cell h.hl (i * 3 + 2)).trans ((wcells_get (j := 2) hi (by decide)).trans ?_)
  unfold wcell
  rw [if_neg (by omega), if_neg (by omega), show (i * 3 + 2) / 3 = i by omega]
theorem wset (A A' : Pa) (r r' : Nat → Rk) (ex : List Value) {i j : Nat} (hn : A'.n = A.n) (hi : i < A.n) (hj : j < 3) (hs : ∀ k, k ≠ i * 3 + j → wcell A' r' k = wcell A r k) :
    (wcells A r ++ ex).toArray.setIfInBounds (i * 3 + j) (wcell A' r' (i * 3 + j)) = (wcells A' r' ++ ex).toArray := by
  rw [List.setIfInBounds_toArray]
  unfold wcells
  rw [List.set_append_left _ _ (by rw [List.length_map, List.length_range]; omega), hn, map_set (wcell A r) (wcell A' r') _ _ (by omega) hs]
theorem wr0 (A : Pa) (r : Nat → Rk) (i : Nat) (v : Int) (k : Nat) (hk : k ≠ i * 3 + 0) : wcell { A with runs := up A.runs i v } r k = wcell A r k := by
  unfold wcell
  by_cases e : k % 3 = 0
  · rw [if_pos e, if_pos e]
    show Value.int .i64 (up A.runs i v (k / 3)) = _
    rw [up_ne _ _ (by omega)]
  · rw [if_neg e, if_neg e]
theorem wr1 (A : Pa) (r : Nat → Rk) (i : Nat) (v : Int) (k : Nat) (hk : k ≠ i * 3 + 1) : wcell { A with work := up A.work i v } r k = wcell A r k := by
  unfold wcell
  by_cases e : k % 3 = 0
  · rw [if_pos e, if_pos e]
  · rw [if_neg e, if_neg e]
    by_cases e1 : k % 3 = 1
    · rw [if_pos e1, if_pos e1]
      show Value.int .i64 (up A.work i v (k / 3)) = _
      rw [up_ne _ _ (by omega)]
    · rw [if_neg e1, if_neg e1]
theorem pset (A : Pa) (bl cl : Nat) (q : Rk) {t : Nat} (ht : t < 64) (v : Int) : (pcells A bl cl q).toArray.setIfInBounds (2 + t) (.int .u8 v) = (pcells { A with wh := up A.wh t v } bl cl q).toArray := by
  rw [List.setIfInBounds_toArray]
  unfold pcells
  rw [show 2 + t = t + 1 + 1 by omega, List.set_cons_succ, List.set_cons_succ]
  have := map_set (fun k => Value.int .u8 (A.wh k)) (fun k => Value.int .u8 (up A.wh t v k)) 64 t ht (fun k hk => by show Value.int .u8 (up A.wh t v k) = _; rw [up_ne _ _ hk])
  simp only [up_same] at this
  rw [this]
/-- The block of the workers is none of the others. -/
theorem At.bl_ne (h : At S W gp A bl cl ex r q) : bl ≠ gp := (tag_ne h.hl h.hg (by decide))
theorem At.setRuns (h : At S W gp A bl cl ex r q) {i : Nat} (hi : i < A.n) (v : Int) : At S (W.setCell ⟨bl, i * 3, none⟩ (.int .i64 v)) gp { A with runs := up A.runs i v } bl cl ex r q := by
  have hrow : ∀ {g b c cap : Nat} {ex : List Value} {l : List Int}, Row W g b c ex cap l → Row (W.setCell ⟨bl, i * 3, none⟩ (.int .i64 v)) g b c ex cap l := fun hr =>
    hr.kept (S := fun k => k = bl) ((Chg.refl (fun k => k = bl) W).set_ (Or.inl rfl) _) (tag_ne (row_tags hr).1.choose_spec h.hl (by decide)) (tag_ne (row_tags hr).2.choose_spec h.hl (by decide))
  refine ⟨blk_far h.hg h.bl_ne.symm _, blk_put h.hl (i * 3) _ ?_, fun j hj => hrow (h.own j hj), hrow h.glob, h.s, h.sep, h.sepq, h.n_pos, h.n_le, h.cl_le⟩
  have e := wset A { A with runs := up A.runs i v } r r ex (i := i) (j := 0) rfl hi (by decide) (wr0 A r i v)
  rw [← e]
  congr 1
  unfold wcell
  rw [if_pos (by omega), show (i * 3 + 0) / 3 = i by omega]
  show Value.int .i64 v = Value.int .i64 (up A.runs i v i)
  rw [up_same]
theorem At.setWork (h : At S W gp A bl cl ex r q) {i : Nat} (hi : i < A.n) (v : Int) : At S (W.setCell ⟨bl, i * 3 + 1, none⟩ (.int .i64 v)) gp { A with work := up A.work i v } bl cl ex r q := by
  have hrow : ∀ {g b c cap : Nat} {ex : List Value} {l : List Int}, Row W g b c ex cap l → Row (W.setCell ⟨bl, i * 3 + 1, none⟩ (.int .i64 v)) g b c ex cap l := fun hr =>
    hr.kept (S := fun k => k = bl) ((Chg.refl (fun k => k = bl) W).set_ (Or.inl rfl) _) (tag_ne (row_tags hr).1.choose_spec h.hl (by decide)) (tag_ne (row_tags hr).2.choose_spec h.hl (by decide))
  refine ⟨blk_far h.hg h.bl_ne.symm _, blk_put h.hl (i * 3 + 1) _ ?_, fun j hj => hrow (h.own j hj), hrow h.glob, h.s, h.sep, h.sepq, h.n_pos, h.n_le, h.cl_le⟩
  have e := wset A { A with work := up A.work i v } r r ex (i := i) (j := 1) rfl hi (by decide) (wr1 A r i v)
  rw [← e]
  congr 1
  unfold wcell
  rw [if_neg (by omega), if_pos (by omega), show (i * 3 + 1) / 3 = i by omega]
  show Value.int .i64 v = Value.int .i64 (up A.work i v i)
  rw [up_same]
theorem At.setWh (h : At S W gp A bl cl ex r q) {t : Nat} (ht : t < 64) (v : Int) : At S (W.setCell ⟨gp, 2 + t, none⟩ (.int .u8 v)) gp { A with wh := up A.wh t v } bl cl ex r q := by
  have hrow : ∀ {g b c cap : Nat} {ex : List Value} {l : List Int}, Row W g b c ex cap l → Row (W.setCell ⟨gp, 2 + t, none⟩ (.int .u8 v)) g b c ex cap l := fun hr =>
    hr.kept (S := fun k => k = gp) ((Chg.refl (fun k => k = gp) W).set_ (Or.inl rfl) _) (tag_ne (row_tags hr).1.choose_spec h.hg (by decide)) (tag_ne (row_tags hr).2.choose_spec h.hg (by decide))
  exact ⟨blk_put h.hg (2 + t) _ (pset A bl cl q ht v), blk_far h.hl h.bl_ne _, fun j hj => hrow (h.own j hj), hrow h.glob, h.s, h.sep, h.sepq, h.n_pos, h.n_le, h.cl_le⟩
/-- A worker's own row has turned. -/
theorem At.turnOwn (h : At S W gp A bl cl ex r q) {i : Nat} (hi : i < A.n) {l : List Int} (hc : Chg (two (r i).g (r i).b) W W') (hr : Row W' (r i).g (r i).b (r i).c (r i).ex 16 l) : At S W' gp { A with own := up A.own i l } bl cl ex r q := by
  have t0 := row_tags (h.own i hi)
  have tq := row_tags h.glob
  have other : ∀ {k : Nat} {x : Array Value} {t : Nat}, W.heap[k]? = some (.cells x t (0, 0)) → t ≠ 80 → t ≠ 3 → ¬ two (r i).g (r i).b k := by
    intro k x t hk h1 h2 ht
    rcases ht with ht | ht
    · exact tag_ne hk t0.1.choose_spec h1 ht
    · exact tag_ne hk t0.2.choose_spec h2 ht
  refine ⟨(hc.block gp (blk_lt h.hg) (other h.hg (by decide) (by decide))).trans h.hg, (hc.block bl (blk_lt h.hl) (other h.hl (by decide) (by decide))).trans h.hl, fun j hj => ?_, h.glob.kept hc (fun ht => ?_) (fun ht => ?_), h.s, h.sep, h.sepq, h.n_pos, h.n_le, h.cl_le⟩
  · show Row W' _ _ _ _ 16 (up A.own i l j)
    by_cases e : j = i
    · subst e; rw [up_same]; exact hr
    · rw [up_ne _ _ e]
      have tj := row_tags (h.own j hj)
      refine (h.own j hj).kept hc (fun ht => ?_) (fun ht => ?_)
      · rcases ht with ht | ht
        · exact (h.sep j i hj hi e).1 ht
        · exact tag_ne tj.1.choose_spec t0.2.choose_spec (by decide) ht
      · rcases ht with ht | ht
        · exact tag_ne tj.2.choose_spec t0.1.choose_spec (by decide) ht
        · exact (h.sep j i hj hi e).2 ht
  · rcases ht with ht | ht
    · exact (h.sepq i hi).1 ht.symm
    · exact tag_ne tq.1.choose_spec t0.2.choose_spec (by decide) ht
  · rcases ht with ht | ht
    · exact tag_ne tq.2.choose_spec t0.1.choose_spec (by decide) ht
    · exact (h.sepq i hi).2 ht.symm
/-- The row of all has turned. -/
theorem At.turnGl (h : At S W gp A bl cl ex r q) {l : List Int} (hc : Chg (two q.g q.b) W W') (hr : Row W' q.g q.b q.c q.ex 64 l) : At S W' gp { A with gl := l } bl cl ex r q := by
  have t0 := row_tags h.glob
  have other : ∀ {k : Nat} {x : Array Value} {t : Nat}, W.heap[k]? = some (.cells x t (0, 0)) → t ≠ 80 → t ≠ 3 → ¬ two q.g q.b k := by
    intro k x t hk h1 h2 ht
    rcases ht with ht | ht
    · exact tag_ne hk t0.1.choose_spec h1 ht
    · exact tag_ne hk t0.2.choose_spec h2 ht
  refine ⟨(hc.block gp (blk_lt h.hg) (other h.hg (by decide) (by decide))).trans h.hg, (hc.block bl (blk_lt h.hl) (other h.hl (by decide) (by decide))).trans h.hl, fun j hj => ?_, hr, h.s, h.sep, h.sepq, h.n_pos, h.n_le, h.cl_le⟩
  have tj := row_tags (h.own j hj)
  refine (h.own j hj).kept hc (fun ht => ?_) (fun ht => ?_)
  · rcases ht with ht | ht
    · exact (h.sepq j hj).1 ht
    · exact tag_ne tj.1.choose_spec t0.2.choose_spec (by decide) ht
  · rcases ht with ht | ht
    · exact tag_ne tj.2.choose_spec t0.1.choose_spec (by decide) ht
    · exact (h.sepq j hj).2 ht
theorem At.chgOwn (h : At S W gp A bl cl ex r q) {i : Nat} (hi : i < A.n) (hc : Chg (two (r i).g (r i).b) W W') : Chg S W W' :=
  ⟨hc.os, hc.tape, hc.output, hc.size, fun k hk hs => hc.block k hk (fun ht => by
    rcases ht with ht | ht
    · exact hs (ht ▸ (h.s.2.2.2.2 i hi).1)
    · exact hs (ht ▸ (h.s.2.2.2.2 i hi).2))⟩
theorem At.chgGl (h : At S W gp A bl cl ex r q) (hc : Chg (two q.g q.b) W W') : Chg S W W' :=
  ⟨hc.os, hc.tape, hc.output, hc.size, fun k hk hs => hc.block k hk (fun ht => by
    rcases ht with ht | ht
    · exact hs (ht ▸ h.s.2.2.1)
    · exact hs (ht ▸ h.s.2.2.2.1))⟩
end
end Go.Proofs.Ytjcjhmnfknenlaa.Pl
namespace Go.Proofs.Ytjcjhmnfknenlaa.Pl
open Go.RowKit Go.Proofs.YtjcjhmnfknenlaaW.PrintWords Go.Proofs.YtjcjhmnfknenlaaW.PrintLast Go.Proofs.YtjcjhmnfknenlaaW.PrintMore
open Rg (Chg Row row_back row_popback row_popfront row_all row_new row_clone two refDo)
set_option linter.unusedVariables false
set_option linter.unusedSimpArgs false

section
variable {S : Nat → Prop} {W W' : World} {gp bl cl : Nat} {A : Pa} {ex : List Value} {r : Nat → Rk} {q : Rk}
set_option maxHeartbeats 2000000 in
set_option maxRecDepth 100000 in
theorem at_out (h : At S W gp A bl cl ex r q) (x : Int) (hx : x < 0 ∨ (A.n : Int) ≤ x) : Calls Try.prog 29 #[.pointer (some ⟨gp, 0, none⟩), .int .i64 x] W fun e w' => e = .returned (.pointer none) ∧ w' = W := by
  have hu57 := Try.underlying57
  have hu54 := Try.underlying54
  have c0 := h.c0
  clear h
  generalize A.n = n at *
  by_cases h0 : x < 0
  · have d0 : decide (x < 0) = true := decide_eq_true h0
    clear hx
    go_enter Try.func29, Try.ntmps29
    go_wp2
    go_ret
    exact ⟨rfl, rfl⟩
  · have d0 : decide (x < 0) = false := decide_eq_false h0
    have d1 : decide ((n : Int) ≤ x) = true := decide_eq_true (by omega)
    clear hx
    go_enter Try.func29, Try.ntmps29
    go_wp2
    go_ret
    exact ⟨rfl, rfl⟩
set_option maxHeartbeats 2000000 in
set_option maxRecDepth 100000 in
theorem at_in (h : At S W gp A bl cl ex r q) {i : Nat} (hi : i < A.n) : Calls Try.prog 29 #[.pointer (some ⟨gp, 0, none⟩), .int .i64 (i : Int)] W fun e w' => e = .returned (.pointer (some ⟨bl, i * 3, none⟩)) ∧ w' = W := by
  have hu57 := Try.underlying57
  have hu54 := Try.underlying54
  have hu59 := Try.underlying59
  have c0 := h.c0
  clear h
  generalize A.n = n at *
  have d0 : decide ((i : Int) < 0) = false := decide_eq_false (by omega)
  have d1 : decide ((n : Int) ≤ (i : Int)) = false := decide_eq_false (by omega)
  have d2 : decide (n ≤ i) = false := decide_eq_false (by omega)
  have p1 : (0 ≤ (i : Int)) = True := eq_true (by omega)
  have p2 : ((i : Int) < (n : Int)) = True := eq_true (by omega)
  go_enter Try.func29, Try.ntmps29
  go_wp2
  go_ret
  exact ⟨by simp, rfl⟩
/-- On, Where. -/
def on (A : Pa) (x : Int) : Int := if 0 ≤ x ∧ x < (A.n : Int) then A.runs x.toNat - 1 else -1
def wher (A : Pa) (t : Int) : Int := if 0 ≤ t ∧ t < 64 then A.wh t.toNat else 0
/-- Numbers that are kept. -/
def Rg64 (x : Int) : Prop := 0 ≤ x ∧ x ≤ 64
/-- Numbers in their bounds. -/
structure Ok (A : Pa) : Prop where
  runs : ∀ i, i < A.n → Rg64 (A.runs i)
  wh : ∀ t, t < 64 → 0 ≤ A.wh t ∧ A.wh t ≤ 3
  own : ∀ i, i < A.n → ∀ t ∈ A.own i, 0 ≤ t ∧ t < 64
  gl : ∀ t ∈ A.gl, 0 ≤ t ∧ t < 64
set_option maxHeartbeats 2000000 in
set_option maxRecDepth 100000 in
theorem on_any (h : At S W gp A bl cl ex r q) (hr : ∀ i, i < A.n → Rg64 (A.runs i)) (x : Int) : Calls Try.prog 11 #[.pointer (some ⟨gp, 0, none⟩), .int .i64 x] W fun e w' => e = .returned (.int .i64 (on A x)) ∧ w' = W := by
  have hu59 := Try.underlying59
  by_cases hx : x < 0 ∨ (A.n : Int) ≤ x
  · have HC := Aside0.mk (at_out h x hx)
    have HV := Aside0.mk (show on A x = -1 from by unfold on; rw [if_neg (by omega)])
    clear h hr hx
    rw [HV.out]
    go_enter Try.func11, Try.ntmps11
    go_wp2_with (go_at_call 29; (refine HC.out.mono ?_); rintro e w1 ⟨rfl, rfl⟩)
    go_ret
    exact ⟨rfl, rfl⟩
  · obtain ⟨i, rfl⟩ : ∃ i : Nat, x = (i : Int) := ⟨x.toNat, by omega⟩
    have hi : i < A.n := by omega
    have HC := Aside0.mk (at_in h hi)
    have HV := Aside0.mk (show on A (i : Int) = A.runs i - 1 from by unfold on; rw [if_pos (by omega), Int.toNat_natCast])
    have c0 := h.w0 hi
    have ew : Aside0 (wrap64 (A.runs i - 1) = A.runs i - 1) := ⟨by have := hr i hi; unfold Rg64 at this; unfold wrap64; omega⟩
    rw [HV.out]
    clear h hr hx HV hi
    generalize A.runs i = u at *
    go_enter Try.func11, Try.ntmps11
    go_wp2_with (go_at_call 29; (refine HC.out.mono ?_); rintro e w1 ⟨rfl, rfl⟩)
    go_ret
    exact ⟨congrArg (fun x => Ending.returned (Value.int .i64 x)) ew.out, rfl⟩
set_option maxHeartbeats 2000000 in
set_option maxRecDepth 100000 in
theorem where_any (h : At S W gp A bl cl ex r q) (hr : ∀ t, t < 64 → 0 ≤ A.wh t ∧ A.wh t ≤ 3) (t : Int) : Calls Try.prog 20 #[.pointer (some ⟨gp, 0, none⟩), .int .i64 t] W fun e w' => e = .returned (.int .i64 (wher A t)) ∧ w' = W := by
  have hu57 := Try.underlying57
  by_cases hx : 0 ≤ t ∧ t < 64
  · obtain ⟨i, rfl⟩ : ∃ i : Nat, t = (i : Int) := ⟨t.toNat, by omega⟩
    have HV := Aside0.mk (show wher A (i : Int) = A.wh i from by unfold wher; rw [if_pos hx, Int.toNat_natCast])
    have c0 := h.cw (t := i) (by omega)
    have hw := hr i (by omega)
    have d0 : decide ((i : Int) < 0) = false := decide_eq_false (by omega)
    have d1 : decide ((64 : Int) ≤ (i : Int)) = false := decide_eq_false (by omega)
    have d2 : decide (64 ≤ i) = false := decide_eq_false (by omega)
    have p1 : (0 ≤ (i : Int)) = True := eq_true (by omega)
    have p2 : ((i : Int) < 64) = True := eq_true (by omega)
    rw [HV.out]
    clear h hr hx HV
    generalize A.wh i = v at *
    have ew : IntKind.i64.wrap v = v := by rw [i64_w]; unfold wrap64; omega
    clear hw
    go_enter Try.func20, Try.ntmps20
    go_wp2
    go_ret
    exact ⟨rfl, rfl⟩
  · have HV := Aside0.mk (show wher A t = 0 from by unfold wher; rw [if_neg hx])
    rw [HV.out]
    clear h hr HV
    by_cases h0 : t < 0
    · have d0 : decide (t < 0) = true := decide_eq_true h0
      clear hx
      go_enter Try.func20, Try.ntmps20
      go_wp2
      go_ret
      exact ⟨rfl, rfl⟩
    · have d0 : decide (t < 0) = false := decide_eq_false h0
      have d1 : decide ((64 : Int) ≤ t) = true := decide_eq_true (by omega)
      clear hx
      go_enter Try.func20, Try.ntmps20
      go_wp2
      go_ret
      exact ⟨rfl, rfl⟩
set_option maxHeartbeats 2000000 in
theorem workers_any (h : At S W gp A bl cl ex r q) : Calls Try.prog 10 #[.pointer (some ⟨gp, 0, none⟩)] W fun e w' => e = .returned (.int .i64 (A.n : Int)) ∧ w' = W := by
  have hu57 := Try.underlying57
  have hu54 := Try.underlying54
  have c0 := h.c0
  clear h
  go_enter Try.func10, Try.ntmps10
  go_wp2
  go_ret
  exact ⟨rfl, rfl⟩
set_option maxHeartbeats 2000000 in
theorem global_any (h : At S W gp A bl cl ex r q) : Calls Try.prog 18 #[.pointer (some ⟨gp, 0, none⟩)] W fun e w' => ∃ v, e = .returned v ∧ Below W.heap.size W w' ∧ w'.ownsRow W.heap.size 3 1 v A.gl.length (nums .i64 A.gl) := by
  have hu57 := Try.underlying57
  have c1 := h.c1
  have HC := Aside0.mk (row_all h.glob)
  clear h
  go_enter Try.func18, Try.ntmps18
  go_wp2_with (go_at_call 40; (refine HC.out.mono ?_); rintro e w1 ⟨v, rfl, hb, ho⟩; have HB := Aside0.mk hb; have HO := Aside0.mk ho; clear hb ho)
  go_ret
  exact ⟨v, rfl, HB.out, HO.out⟩
set_option maxHeartbeats 2000000 in
theorem own_in (h : At S W gp A bl cl ex r q) {i : Nat} (hi : i < A.n) : Calls Try.prog 19 #[.pointer (some ⟨gp, 0, none⟩), .int .i64 (i : Int)] W fun e w' => ∃ v, e = .returned v ∧ Below W.heap.size W w' ∧ w'.ownsRow W.heap.size 3 1 v (A.own i).length (nums .i64 (A.own i)) := by
  have hu59 := Try.underlying59
  have c2 := h.w2 hi
  have HC := Aside0.mk (row_all (h.own i hi))
  have HA := Aside0.mk (at_in h hi)
  clear h hi
  go_enter Try.func19, Try.ntmps19
  go_wp2_with (first
    | (go_at_call 29; (refine HA.out.mono ?_); rintro e w1 ⟨rfl, rfl⟩)
    | (go_at_call 40; (refine HC.out.mono ?_); rintro e w1 ⟨v, rfl, hb, ho⟩; have HB := Aside0.mk hb; have HO := Aside0.mk ho; clear hb ho))
  go_ret
  exact ⟨v, rfl, HB.out, HO.out⟩
set_option maxHeartbeats 2000000 in
theorem own_out (h : At S W gp A bl cl ex r q) (x : Int) (hx : x < 0 ∨ (A.n : Int) ≤ x) : Calls Try.prog 19 #[.pointer (some ⟨gp, 0, none⟩), .int .i64 x] W fun e w' => e = .returned (.slice none 0 0) ∧ w' = W := by
  have HA := Aside0.mk (at_out h x hx)
  clear h hx
  go_enter Try.func19, Try.ntmps19
  go_wp2_with (go_at_call 29; (refine HA.out.mono ?_); rintro e w1 ⟨rfl, rfl⟩)
  go_ret
  exact ⟨rfl, rfl⟩
end
end Go.Proofs.Ytjcjhmnfknenlaa.Pl
namespace Go.Proofs.Ytjcjhmnfknenlaa.Pl
open Go.RowKit Go.Proofs.YtjcjhmnfknenlaaW.PrintWords Go.Proofs.YtjcjhmnfknenlaaW.PrintLast Go.Proofs.YtjcjhmnfknenlaaW.PrintMore
open Rg (Chg Row row_back row_popback row_popfront row_all row_new row_clone two refDo)
set_option linter.unusedVariables false
set_option linter.unusedSimpArgs false

def leaveA (A : Pa) (x : Int) : Pa := if 0 ≤ on A x then { A with runs := up A.runs x.toNat 0, wh := up A.wh (on A x).toNat 0 } else A
def backGl (A : Pa) (t : Int) : List Int := (refDo A.gl 64 0 t).1
def putA (A : Pa) (x : Int) : Pa := if 0 ≤ on A x then { A with runs := up A.runs x.toNat 0, gl := backGl A (on A x), wh := up A.wh (on A x).toNat 3 } else A
def readyB (A : Pa) (x t : Int) : Bool := decide (0 ≤ x) && decide (x < (A.n : Int)) && (decide (0 ≤ t) && decide (t < 64)) && decide (A.wh t.toNat = 0)
def readyA (A : Pa) (x t : Int) : Pa :=
  if readyB A x t = true then (if (A.own x.toNat).length < 16 then { A with own := up A.own x.toNat (A.own x.toNat ++ [t]), wh := up A.wh t.toNat 2 } else { A with gl := backGl A t, wh := up A.wh t.toNat 3 }) else A
def workA (A : Pa) (x : Int) : Pa := if 0 ≤ on A x then { A with work := up A.work x.toNat (A.work x.toNat + 1) } else A
def workN (A : Pa) (x : Int) : Int := if 0 ≤ on A x then A.work x.toNat + 1 else 0
theorem on_pos {A : Pa} {x : Int} (h : 0 ≤ on A x) : ∃ i : Nat, x = (i : Int) ∧ i < A.n ∧ on A x = A.runs i - 1 := by
  unfold on at h ⊢
  split at h
  · rename_i c
    exact ⟨x.toNat, by omega, by omega, by rw [if_pos c]⟩
  · omega
section
variable {S : Nat → Prop} {W W' : World} {gp bl cl : Nat} {A : Pa} {ex : List Value} {r : Nat → Rk} {q : Rk}
set_option maxHeartbeats 4000000 in
set_option maxRecDepth 100000 in
theorem leave_any (h : At S W gp A bl cl ex r q) (hk : Ok A) (x : Int) : Calls Try.prog 12 #[.pointer (some ⟨gp, 0, none⟩), .int .i64 x] W fun e w' => e = .returned (.bool (decide (0 ≤ on A x))) ∧ At S w' gp (leaveA A x) bl cl ex r q ∧ Chg S W w' := by
  have hu57 := Try.underlying57
  have hu54 := Try.underlying54
  have hu59 := Try.underlying59
  have HO := Aside0.mk (on_any h hk.runs x)
  by_cases h0 : 0 ≤ on A x
  · have HV := Aside0.mk (show leaveA A x = { A with runs := up A.runs x.toNat 0, wh := up A.wh (on A x).toNat 0 } from if_pos h0)
    obtain ⟨i, rfl, hi, ho⟩ := on_pos h0
    have hb := hk.runs i hi
    unfold Rg64 at hb
    obtain ⟨t, ht⟩ : ∃ t : Nat, on A (i : Int) = (t : Int) := ⟨(on A (i : Int)).toNat, by omega⟩
    have HT := Aside0.mk (show t < 64 from by omega)
    rw [HV.out, ht]
    rw [ht] at HO
    rw [Int.toNat_natCast, Int.toNat_natCast]
    have HA := Aside0.mk h
    have HI := Aside0.mk hi
    have c0 := h.c0
    have w0 := h.w0 hi
    have fz := blk_frozen h.hl (i * 3)
    have d0 : decide ((0 : Int) ≤ (t : Int)) = true := decide_eq_true (by omega)
    have d1 : decide ((t : Int) < 0) = false := decide_eq_false (by omega)
    have p1 : (0 ≤ (i : Int)) = True := eq_true (by omega)
    have p2 : ((i : Int) < (A.n : Int)) = True := eq_true (by omega)
    have p3 : (0 ≤ (t : Int)) = True := eq_true (by omega)
    have p4 : ((t : Int) < 64) = True := eq_true (by omega)
    rw [d0]
    clear h hk h0 HV hi ho hb ht
    go_enter Try.func12, Try.ntmps12
    go_upto_region 5 with (go_at_call 11; (refine HO.out.mono ?_); rintro e w1 ⟨rfl, rfl⟩)
    have HA1 := Aside0.mk (HA.out.setRuns HI.out 0)
    have HC1 := Aside0.mk ((Chg.refl S w1).set_ (p := ⟨bl, i * 3, none⟩) (Or.inl HA.out.s.2.1) (.int .i64 0))
    clear c0 w0 fz HO
    generalize w1.setCell ⟨bl, i * 3, none⟩ (.int .i64 0) = w2 at *
    have cw := HA1.out.cw HT.out
    have fz := blk_frozen HA1.out.hg (2 + t)
    go_wp2
    go_ret
    exact ⟨rfl, HA1.out.setWh HT.out 0, HC1.out.set_ (Or.inl HA.out.s.1) _⟩
  · have HV := Aside0.mk (show leaveA A x = A from if_neg h0)
    have d0 : decide (0 ≤ on A x) = false := decide_eq_false h0
    have d1 : decide (on A x < 0) = true := decide_eq_true (by omega)
    rw [HV.out, d0]
    have HA := Aside0.mk h
    clear h hk h0 HV
    generalize on A x = v at *
    go_enter Try.func12, Try.ntmps12
    go_wp2_with (go_at_call 11; (refine HO.out.mono ?_); rintro e w1 ⟨rfl, rfl⟩)
    go_ret
    exact ⟨rfl, HA.out, Chg.refl _ _⟩
set_option maxHeartbeats 4000000 in
set_option maxRecDepth 100000 in
theorem put_any (h : At S W gp A bl cl ex r q) (hk : Ok A) (x : Int) : Calls Try.prog 23 #[.pointer (some ⟨gp, 0, none⟩), .int .i64 x] W fun e w' => e = .returned (.bool (decide (0 ≤ on A x))) ∧ At S w' gp (putA A x) bl cl ex r q ∧ Chg S W w' := by
  have hu57 := Try.underlying57
  have hu54 := Try.underlying54
  have hu59 := Try.underlying59
  have HO := Aside0.mk (on_any h hk.runs x)
  by_cases h0 : 0 ≤ on A x
  · have HV := Aside0.mk (show putA A x = { A with runs := up A.runs x.toNat 0, gl := backGl A (on A x), wh := up A.wh (on A x).toNat 3 } from if_pos h0)
    obtain ⟨i, rfl, hi, ho⟩ := on_pos h0
    have hb := hk.runs i hi
    unfold Rg64 at hb
    obtain ⟨t, ht⟩ : ∃ t : Nat, on A (i : Int) = (t : Int) := ⟨(on A (i : Int)).toNat, by omega⟩
    have HT := Aside0.mk (show t < 64 from by omega)
    rw [HV.out, ht]
    rw [ht] at HO
    rw [Int.toNat_natCast, Int.toNat_natCast]
    have HA := Aside0.mk h
    have HI := Aside0.mk hi
    have c0 := h.c0
    have w0 := h.w0 hi
    have fz := blk_frozen h.hl (i * 3)
    have d0 : decide ((0 : Int) ≤ (t : Int)) = true := decide_eq_true (by omega)
    have d1 : decide ((t : Int) < 0) = false := decide_eq_false (by omega)
    have p1 : (0 ≤ (i : Int)) = True := eq_true (by omega)
    have p2 : ((i : Int) < (A.n : Int)) = True := eq_true (by omega)
    have p3 : (0 ≤ (t : Int)) = True := eq_true (by omega)
    have p4 : ((t : Int) < 64) = True := eq_true (by omega)
    rw [d0]
    clear h hk h0 HV hi ho hb ht
    go_enter Try.func23, Try.ntmps23
    go_upto_region 5 with (go_at_call 11; (refine HO.out.mono ?_); rintro e w1 ⟨rfl, rfl⟩)
    have HA1 := Aside0.mk (HA.out.setRuns HI.out 0)
    have HC1 := Aside0.mk ((Chg.refl S w1).set_ (p := ⟨bl, i * 3, none⟩) (Or.inl HA.out.s.2.1) (.int .i64 0))
    clear c0 w0 fz HO
    generalize w1.setCell ⟨bl, i * 3, none⟩ (.int .i64 0) = w2 at *
    have c1 := HA1.out.c1
    have HB := Aside0.mk (row_back HA1.out.glob (t : Int))
    go_upto_region 6 with (go_at_call 43; (refine HB.out.mono ?_); rintro e w3 ⟨rfl, hc, hr⟩; have HA2 := Aside0.mk (HA1.out.turnGl hc hr); have HC2 := Aside0.mk (HC1.out.trans (HA1.out.chgGl hc)); clear hc hr)
    clear c1 HB HA1 HC1
    have cw := HA2.out.cw HT.out
    have fz := blk_frozen HA2.out.hg (2 + t)
    go_wp2
    go_ret
    exact ⟨rfl, HA2.out.setWh HT.out 3, HC2.out.set_ (Or.inl HA.out.s.1) _⟩
  · have HV := Aside0.mk (show putA A x = A from if_neg h0)
    have d0 : decide (0 ≤ on A x) = false := decide_eq_false h0
    have d1 : decide (on A x < 0) = true := decide_eq_true (by omega)
    rw [HV.out, d0]
    have HA := Aside0.mk h
    clear h hk h0 HV
    generalize on A x = v at *
    go_enter Try.func23, Try.ntmps23
    go_wp2_with (go_at_call 11; (refine HO.out.mono ?_); rintro e w1 ⟨rfl, rfl⟩)
    go_ret
    exact ⟨rfl, HA.out, Chg.refl _ _⟩
set_option maxHeartbeats 4000000 in
set_option maxRecDepth 100000 in
theorem work_any (h : At S W gp A bl cl ex r q) (hk : Ok A) (x : Int) (hw : ∀ i, i < A.n → 0 ≤ A.work i ∧ A.work i ≤ 1000000) : Calls Try.prog 25 #[.pointer (some ⟨gp, 0, none⟩), .int .i64 x] W fun e w' => e = .returned (.int .i64 (workN A x)) ∧ At S w' gp (workA A x) bl cl ex r q ∧ Chg S W w' := by
  have hu57 := Try.underlying57
  have hu54 := Try.underlying54
  have hu59 := Try.underlying59
  have HO := Aside0.mk (on_any h hk.runs x)
  by_cases h0 : 0 ≤ on A x
  · have HV := Aside0.mk (show workA A x = { A with work := up A.work x.toNat (A.work x.toNat + 1) } from if_pos h0)
    have HN := Aside0.mk (show workN A x = A.work x.toNat + 1 from if_pos h0)
    obtain ⟨i, rfl, hi, ho⟩ := on_pos h0
    have hb := hw i hi
    obtain ⟨t, ht⟩ : ∃ t : Nat, on A (i : Int) = (t : Int) := ⟨(on A (i : Int)).toNat, by omega⟩
    rw [HV.out, HN.out]
    rw [ht] at HO
    rw [Int.toNat_natCast]
    have HA := Aside0.mk h
    have HI := Aside0.mk hi
    have c0 := h.c0
    have w1 := h.w1 hi
    have fz := blk_frozen h.hl (i * 3 + 1)
    have d1 : decide ((t : Int) < 0) = false := decide_eq_false (by omega)
    have p1 : (0 ≤ (i : Int)) = True := eq_true (by omega)
    have p2 : ((i : Int) < (A.n : Int)) = True := eq_true (by omega)
    have ew : Aside0 (wrap64 (A.work i + 1) = A.work i + 1) := ⟨by unfold wrap64; omega⟩
    clear h hk h0 HV hi ho hb ht hw HN
    go_enter Try.func25, Try.ntmps25
    go_upto_region 4 with (go_at_call 11; (refine HO.out.mono ?_); rintro e wa ⟨rfl, rfl⟩)
    have HA1 := Aside0.mk (HA.out.setWork HI.out (wrap64 (A.work i + 1)))
    have HC1 := Aside0.mk ((Chg.refl S wa).set_ (p := ⟨bl, i * 3 + 1, none⟩) (Or.inl HA.out.s.2.1) (.int .i64 (wrap64 (A.work i + 1))))
    clear c0 w1 fz HO
    generalize wa.setCell ⟨bl, i * 3 + 1, none⟩ (.int .i64 (wrap64 (A.work i + 1))) = w2 at *
    rw [ew.out] at HA1
    have c0 := HA1.out.c0
    have w1 : w2.cell? ⟨bl, i * 3 + 1, none⟩ = some (.int .i64 (A.work i + 1)) := (HA1.out.w1 HI.out).trans (by show some (Value.int .i64 (up A.work i (A.work i + 1) i)) = _; rw [up_same])
    go_wp2
    go_ret
    exact ⟨rfl, HA1.out, HC1.out⟩
  · have HV := Aside0.mk (show workA A x = A from if_neg h0)
    have HN := Aside0.mk (show workN A x = 0 from if_neg h0)
    have d1 : decide (on A x < 0) = true := decide_eq_true (by omega)
    rw [HV.out, HN.out]
    have HA := Aside0.mk h
    clear h hk h0 HV HN hw
    generalize on A x = v at *
    go_enter Try.func25, Try.ntmps25
    go_wp2_with (go_at_call 11; (refine HO.out.mono ?_); rintro e w1 ⟨rfl, rfl⟩)
    go_ret
    exact ⟨rfl, HA.out, Chg.refl _ _⟩
end
end Go.Proofs.Ytjcjhmnfknenlaa.Pl
namespace Go.Proofs.Ytjcjhmnfknenlaa.Pl
open Go.RowKit Go.Proofs.YtjcjhmnfknenlaaW.PrintWords Go.Proofs.YtjcjhmnfknenlaaW.PrintLast Go.Proofs.YtjcjhmnfknenlaaW.PrintMore
open Rg (Chg Row row_back row_popback row_popfront row_all row_new row_clone two refDo)
set_option linter.unusedVariables false
set_option linter.unusedSimpArgs false

section
variable {S : Nat → Prop} {W W' : World} {gp bl cl : Nat} {A : Pa} {ex : List Value} {r : Nat → Rk} {q : Rk}
theorem ref_room {l : List Int} {cap : Nat} (x : Int) (h : l.length < cap) : refDo l cap 0 x = (l ++ [x], 0, true) := by
  unfold refDo
  rw [if_pos rfl, if_neg (by omega)]
theorem ref_full {l : List Int} {cap : Nat} (x : Int) (h : ¬ l.length < cap) : refDo l cap 0 x = (l, 0, false) := by
  unfold refDo
  rw [if_pos rfl, if_pos (by omega)]
set_option maxHeartbeats 4000000 in
set_option maxRecDepth 100000 in
theorem ready_any (h : At S W gp A bl cl ex r q) (hk : Ok A) (x t : Int) : Calls Try.prog 22 #[.pointer (some ⟨gp, 0, none⟩), .int .i64 x, .int .i64 t] W fun e w' => e = .returned (.bool (readyB A x t)) ∧ At S w' gp (readyA A x t) bl cl ex r q ∧ Chg S W w' := by
  have hu57 := Try.underlying57
  have hu54 := Try.underlying54
  have hu59 := Try.underlying59
  by_cases hx : x < 0 ∨ (A.n : Int) ≤ x
  · have HB := Aside0.mk (show readyB A x t = false from by
      unfold readyB
      rcases hx with hx | hx
      · rw [decide_eq_false (show ¬ 0 ≤ x by omega)]; rfl
      · rw [decide_eq_false (show ¬ x < (A.n : Int) by omega)]; simp)
    have HV := Aside0.mk (show readyA A x t = A from if_neg (by rw [HB.out]; decide))
    rw [HB.out, HV.out]
    have HC := Aside0.mk (at_out h x hx)
    have HA := Aside0.mk h
    clear h hk hx HB HV
    go_enter Try.func22, Try.ntmps22
    go_wp2_with (go_at_call 29; (refine HC.out.mono ?_); rintro e w1 ⟨rfl, rfl⟩)
    go_ret
    exact ⟨rfl, HA.out, Chg.refl _ _⟩
  · obtain ⟨i, rfl⟩ : ∃ i : Nat, x = (i : Int) := ⟨x.toNat, by omega⟩
    have hi : i < A.n := by omega
    have HI := Aside0.mk hi
    have HC := Aside0.mk (at_in h hi)
    have HA := Aside0.mk h
    by_cases ht : 0 ≤ t ∧ t < 64
    · obtain ⟨u, rfl⟩ : ∃ u : Nat, t = (u : Int) := ⟨t.toNat, by omega⟩
      have HT := Aside0.mk (show u < 64 from by omega)
      have e1 : readyB A (i : Int) (u : Int) = decide (A.wh u = 0) := by
        unfold readyB
        rw [decide_eq_true (show 0 ≤ (i : Int) by omega), decide_eq_true (show (i : Int) < (A.n : Int) by omega), decide_eq_true ht.1, decide_eq_true ht.2, Int.toNat_natCast]
        rfl
      have d0 : decide ((u : Int) < 0) = false := decide_eq_false (by omega)
      have d1 : decide ((64 : Int) ≤ (u : Int)) = false := decide_eq_false (by omega)
      have d2 : decide (64 ≤ u) = false := decide_eq_false (by omega)
      have p1 : (0 ≤ (i : Int)) = True := eq_true (by omega)
      have p2 : ((i : Int) < (A.n : Int)) = True := eq_true (by omega)
      have p3 : (0 ≤ (u : Int)) = True := eq_true (by omega)
      have p4 : ((u : Int) < 64) = True := eq_true (by omega)
      have cw := h.cw HT.out
      by_cases hw : A.wh u = 0
      · have HB := Aside0.mk (show readyB A (i : Int) (u : Int) = true from by rw [e1, decide_eq_true hw])
        rw [hw] at cw
        have w2 := h.w2 hi
        have HRB := Aside0.mk (row_back (h.own i hi) (u : Int))
        by_cases hroom : (A.own i).length < 16
        · have HV := Aside0.mk (show readyA A (i : Int) (u : Int) = { A with own := up A.own i (A.own i ++ [(u : Int)]), wh := up A.wh u 2 } from by unfold readyA; rw [if_pos HB.out, Int.toNat_natCast, Int.toNat_natCast, if_pos hroom])
          rw [HB.out, HV.out]
          rw [ref_room (u : Int) hroom] at HRB
          clear h hk hx HB HV ht e1 hw hi hroom
          go_enter Try.func22, Try.ntmps22
          go_upto_region 5 with (first
            | (go_at_call 29; (refine HC.out.mono ?_); rintro e w1 ⟨rfl, rfl⟩)
            | (go_at_call 43; (refine HRB.out.mono ?_); rintro e w3 ⟨rfl, hc, hr⟩; have HA2 := Aside0.mk (HA.out.turnOwn HI.out hc hr); have HC2 := Aside0.mk (HA.out.chgOwn HI.out hc); clear hc hr))
          clear cw w2
          have cw := HA2.out.cw HT.out
          have fz := blk_frozen HA2.out.hg (2 + u)
          go_wp2
          go_ret
          exact ⟨rfl, HA2.out.setWh HT.out 2, HC2.out.set_ (Or.inl HA.out.s.1) _⟩
        · have HV := Aside0.mk (show readyA A (i : Int) (u : Int) = { A with gl := backGl A (u : Int), wh := up A.wh u 3 } from by unfold readyA; rw [if_pos HB.out, Int.toNat_natCast, Int.toNat_natCast, if_neg hroom])
          rw [HB.out, HV.out]
          rw [ref_full (u : Int) hroom] at HRB
          clear h hk hx HB HV ht e1 hw hi hroom
          go_enter Try.func22, Try.ntmps22
          go_upto_region 6 with (first
            | (go_at_call 29; (refine HC.out.mono ?_); rintro e w1 ⟨rfl, rfl⟩)
            | (go_at_call 43; (refine HRB.out.mono ?_); rintro e w3 ⟨rfl, hc, hr⟩; have HA2 := Aside0.mk (show At S w3 gp A bl cl ex r q from by have h1 := HA.out.turnOwn HI.out hc hr; rw [up_self] at h1; exact h1); have HC2 := Aside0.mk (HA.out.chgOwn HI.out hc); clear hc hr))
          clear cw w2
          have c1 := HA2.out.c1
          have HRG := Aside0.mk (row_back HA2.out.glob (u : Int))
          go_upto_region 7 with (go_at_call 43; (refine HRG.out.mono ?_); rintro e w4 ⟨rfl, hc, hr⟩; have HA3 := Aside0.mk (HA2.out.turnGl hc hr); have HC3 := Aside0.mk (HC2.out.trans (HA2.out.chgGl hc)); clear hc hr)
          clear c1
          have cw := HA3.out.cw HT.out
          have fz := blk_frozen HA3.out.hg (2 + u)
          go_wp2
          go_ret
          exact ⟨rfl, HA3.out.setWh HT.out 3, HC3.out.set_ (Or.inl HA.out.s.1) _⟩
      · have HB := Aside0.mk (show readyB A (i : Int) (u : Int) = false from by rw [e1, decide_eq_false hw])
        have HV := Aside0.mk (show readyA A (i : Int) (u : Int) = A from if_neg (by rw [HB.out]; decide))
        rw [HB.out, HV.out]
        have d5 : (A.wh u != 0) = true := bne_iff_ne.2 hw
        clear h hk hx HB HV ht e1 hw hi
        go_enter Try.func22, Try.ntmps22
        go_wp2_with (go_at_call 29; (refine HC.out.mono ?_); rintro e w1 ⟨rfl, rfl⟩)
        go_ret
        exact ⟨rfl, HA.out, Chg.refl _ _⟩
    · have HB := Aside0.mk (show readyB A (i : Int) t = false from by
        unfold readyB
        by_cases h0 : 0 ≤ t
        · rw [decide_eq_false (show ¬ t < 64 by omega)]; simp
        · rw [decide_eq_false h0]; simp)
      have HV := Aside0.mk (show readyA A (i : Int) t = A from if_neg (by rw [HB.out]; decide))
      rw [HB.out, HV.out]
      clear h hk hx HB HV hi
      by_cases h0 : t < 0
      · have d0 : decide (t < 0) = true := decide_eq_true h0
        clear ht
        go_enter Try.func22, Try.ntmps22
        go_wp2_with (go_at_call 29; (refine HC.out.mono ?_); rintro e w1 ⟨rfl, rfl⟩)
        go_ret
        exact ⟨rfl, HA.out, Chg.refl _ _⟩
      · have d0 : decide (t < 0) = false := decide_eq_false h0
        have d1 : decide ((64 : Int) ≤ t) = true := decide_eq_true (by omega)
        clear ht
        go_enter Try.func22, Try.ntmps22
        go_wp2_with (go_at_call 29; (refine HC.out.mono ?_); rintro e w1 ⟨rfl, rfl⟩)
        go_ret
        exact ⟨rfl, HA.out, Chg.refl _ _⟩
end
end Go.Proofs.Ytjcjhmnfknenlaa.Pl
