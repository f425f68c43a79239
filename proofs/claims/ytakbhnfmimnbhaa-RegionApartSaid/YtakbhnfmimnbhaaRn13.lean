/- What is written, and what Undo tells, on eight cells: the plain law of RegionBack. Conditions: none. -/
import Derived.Test.YtakbhnfmimnbhaaRn11
namespace Go.Proofs.Ytakbhnfmimnbhaa.Rn
set_option linter.unusedVariables false

theorem len_le {α : Type} [DecidableEq α] : ∀ {a l : List α}, a.Nodup → (∀ x ∈ a, x ∈ l) → a.length ≤ l.length
  | [], l, _, _ => Nat.zero_le _
  | x :: t, l, hn, hs => by
    rw [List.nodup_cons] at hn
    have hx : x ∈ l := hs x List.mem_cons_self
    have := len_le (l := l.erase x) hn.2 (fun y hy => (List.mem_erase_of_ne (fun e => hn.1 (by rw [← e]; exact hy))).2 (hs y (List.mem_cons_of_mem _ hy)))
    rw [List.length_erase_of_mem hx] at this
    have h0 : 0 < l.length := List.length_pos_of_mem hx
    simp only [List.length_cons]
    omega
structure Bk (f now : List Int) (u : List (Int × Int)) : Prop where
  l8 : now.length = 8
  nd : (u.map Prod.fst).Nodup
  at_ : ∀ p ∈ u, 0 ≤ p.1 ∧ p.1 < 8 ∧ p.2 = f.getD p.1.toNat 0
  no : ∀ c : Nat, c < 8 → (∃ p ∈ u, p.1 = (c : Int)) ∨ now.getD c 0 = f.getD c 0
def bkU (now : List Int) (u : List (Int × Int)) (c : Nat) : List (Int × Int) := if (fnd u c).isNone = true then u ++ [((c : Int), now.getD c 0)] else u
theorem getD_set_i (l : List Int) (j k : Nat) (p : Int) (hj : j < l.length) : (l.set j p).getD k 0 = if k = j then p else l.getD k 0 := by
  rw [List.getD_eq_getElem?_getD, List.getD_eq_getElem?_getD, List.getElem?_set]
  by_cases h : j = k
  · subst h
    rw [if_pos rfl, if_pos hj, if_pos rfl]
    rfl
  · rw [if_neg h, if_neg (fun e => h e.symm)]
theorem fnd_no {u : List (Int × Int)} {c : Int} (h : (fnd u c).isNone = true) : ∀ p ∈ u, p.1 ≠ c := by
  unfold fnd at h
  rw [Option.isNone_iff_eq_none, List.findIdx?_eq_none_iff] at h
  intro p hp e
  have := h p hp
  rw [e] at this
  simp at this
theorem fnd_yes {u : List (Int × Int)} {c : Int} (h : ¬ (fnd u c).isNone = true) : ∃ p ∈ u, p.1 = c := by
  refine Classical.byContradiction fun hx => h ?_
  unfold fnd
  rw [Option.isNone_iff_eq_none, List.findIdx?_eq_none_iff]
  intro p hp
  exact beq_eq_false_iff_ne.2 (fun e => hx ⟨p, hp, e⟩)
theorem Bk.init {f : List Int} (h : f.length = 8) : Bk f f [] := ⟨h, List.nodup_nil, (fun p hp => by cases hp), fun c _ => .inr rfl⟩
theorem Bk.step {f now : List Int} {u : List (Int × Int)} (h : Bk f now u) {c : Nat} (hc : c < 8) (y : Int) : Bk f (now.set c y) (bkU now u c) := by
  unfold bkU
  by_cases hf : (fnd u c).isNone = true
  · rw [if_pos hf]
    have hno := fnd_no hf
    refine ⟨by rw [List.length_set]; exact h.l8, ?_, ?_, ?_⟩
    · rw [List.map_append, List.nodup_append]
      refine ⟨h.nd, by simp, ?_⟩
      intro a ha b hb
      obtain ⟨p, hp, rfl⟩ := List.mem_map.1 ha
      simp at hb
      rw [hb]
      exact hno p hp
    · intro p hp
      rcases List.mem_append.1 hp with hp | hp
      · exact h.at_ p hp
      · rw [List.mem_singleton] at hp
        subst hp
        refine ⟨by simp, by simp; omega, ?_⟩
        rcases h.no c hc with ⟨q, hq, e⟩ | e
        · exact absurd e (hno q hq)
        · simpa using e
    · intro k hk
      by_cases e : k = c
      · subst e
        exact .inl ⟨_, List.mem_append_right _ (List.mem_singleton.2 rfl), rfl⟩
      · rcases h.no k hk with ⟨q, hq, e1⟩ | e1
        · exact .inl ⟨q, List.mem_append_left _ hq, e1⟩
        · exact .inr (by rw [getD_set_i _ _ _ _ (by rw [h.l8]; exact hc), if_neg e]; exact e1)
  · rw [if_neg hf]
    refine ⟨by rw [List.length_set]; exact h.l8, h.nd, h.at_, ?_⟩
    intro k hk
    by_cases e : k = c
    · subst e
      exact .inl (fnd_yes hf)
    · rcases h.no k hk with e1 | e1
      · exact .inl e1
      · exact .inr (by rw [getD_set_i _ _ _ _ (by rw [h.l8]; exact hc), if_neg e]; exact e1)
theorem Bk.len {f now : List Int} {u : List (Int × Int)} (h : Bk f now u) : u.length ≤ 8 := by
  have := len_le (l := (List.range 8).map Int.ofNat) h.nd (fun x hx => by
    obtain ⟨p, hp, rfl⟩ := List.mem_map.1 hx
    have := h.at_ p hp
    exact List.mem_map.2 ⟨p.1.toNat, List.mem_range.2 (by omega), by show ((p.1.toNat : Nat) : Int) = p.1; omega⟩)
  simpa using this
/-- Behind j of the told pairs set back. -/
structure Rs (f now : List Int) (l : List (Int × Int)) (j : Nat) : Prop where
  l8 : now.length = 8
  at_ : ∀ p ∈ l, 0 ≤ p.1 ∧ p.1 < 8 ∧ p.2 = f.getD p.1.toNat 0
  no : ∀ c : Nat, c < 8 → now.getD c 0 = f.getD c 0 ∨ ∃ k, j ≤ k ∧ k < l.length ∧ (l.getD k (0, 0)).1 = (c : Int)
theorem Rs.init {f now : List Int} {u : List (Int × Int)} (h : Bk f now u) : Rs f now u.reverse 0 := by
  refine ⟨h.l8, fun p hp => h.at_ p (List.mem_reverse.1 hp), fun c hc => ?_⟩
  rcases h.no c hc with ⟨p, hp, e⟩ | e
  · obtain ⟨k, hk, e1⟩ := List.getElem_of_mem (List.mem_reverse.2 hp)
    refine .inr ⟨k, Nat.zero_le _, hk, ?_⟩
    rw [List.getD_eq_getElem?_getD, List.getElem?_eq_getElem hk, e1]
    exact e
  · exact .inl e
theorem Rs.at_k {f now : List Int} {l : List (Int × Int)} {j : Nat} (h : Rs f now l j) {k : Nat} (hk : k < l.length) : 0 ≤ (l.getD k (0, 0)).1 ∧ (l.getD k (0, 0)).1 < 8 ∧ (l.getD k (0, 0)).2 = f.getD (l.getD k (0, 0)).1.toNat 0 := by
  refine h.at_ _ ?_
  rw [List.getD_eq_getElem?_getD, List.getElem?_eq_getElem hk]
  exact List.getElem_mem hk
theorem Rs.step {f now : List Int} {l : List (Int × Int)} {j : Nat} (h : Rs f now l j) (hj : j < l.length) : Rs f (now.set (l.getD j (0, 0)).1.toNat (l.getD j (0, 0)).2) l (j + 1) := by
  obtain ⟨a, b, c⟩ := h.at_k hj
  refine ⟨by rw [List.length_set]; exact h.l8, h.at_, fun k hk => ?_⟩
  rw [getD_set_i _ _ _ _ (by rw [h.l8]; omega)]
  by_cases e : k = (l.getD j (0, 0)).1.toNat
  · rw [if_pos e, c, e]
    exact .inl rfl
  · rw [if_neg e]
    rcases h.no k hk with e1 | ⟨q, h1, h2, h3⟩
    · exact .inl e1
    · refine .inr ⟨q, ?_, h2, h3⟩
      rcases Nat.lt_or_ge j q with h4 | h4
      · exact h4
      · obtain rfl : q = j := by omega
        exact absurd (by rw [h3]; simp) e
theorem Rs.done {f now : List Int} {l : List (Int × Int)} {j : Nat} (h : Rs f now l j) (hj : l.length ≤ j) (hf : f.length = 8) : now = f := by
  refine List.ext_getElem (by rw [h.l8, hf]) fun k h1 h2 => ?_
  rcases h.no k (by rw [h.l8] at h1; exact h1) with e | ⟨q, a, b, _⟩
  · rw [List.getD_eq_getElem?_getD, List.getD_eq_getElem?_getD, List.getElem?_eq_getElem h1, List.getElem?_eq_getElem h2] at e
    exact e
  · omega
end Go.Proofs.Ytakbhnfmimnbhaa.Rn
namespace Go.Proofs.Ytakbhnfmimnbhaa.Rn
open Go.RowKit Go.Proofs.YtakbhnfmimnbhaaW.PrintWords Go.Proofs.YtakbhnfmimnbhaaW.PrintLast Go.Proofs.YtakbhnfmimnbhaaW.PrintMore
set_option linter.unusedVariables false
set_option linter.unusedSimpArgs false

theorem info22 : (Try.prog.info? 22).map (·.size) = some 8 := by kernel_rfl
theorem size22 {f : List Int} (h : f.length = 8) : (nums .i64 f).toArray.size = 8 := by simp [nums, h]
theorem cellB {W w2 : World} {a : Addr} {v : Value} (hb : Below W.heap.size W w2) (h : W.cell? a = some v) : w2.cell? a = some v := (hb.cell (World.block_lt_of_cell? _ _ h)).trans h
theorem ex_load22 {oi : Oper} {a : Act} {w : World} {g : Nat} {f : List Int} {x : Operand} (ho : oi.op = .load 22 x) (hx : a.eval x = .pointer (some ⟨g, 0, none⟩)) (hs : f.length = 8) (hg : w.heap[g]? = some (.cells (nums .i64 f).toArray 22 (0, 0))) : (execOp a.eval oi).run Try.prog w = .ok (.value (.agg (nums .i64 f).toArray)) w := by
  unfold execOp
  simp only [ho, hx, Instr.loadAt, Instr.sureAddr, Sem.run_bind, Sem.run_pure, Result.andThen_ok, run_loadVar_row w g 22 22 _ (0, 0) _ hg Try.underlying22 rfl (by rw [size22 hs]; exact info22)]
theorem ex_store22 {oi : Oper} {a : Act} {w : World} {g : Nat} {x y : Operand} {f0 f : List Int} (ho : oi.op = .store 22 x y) (hx : a.eval x = .pointer (some ⟨g, 0, none⟩)) (hy : a.eval y = .agg (nums .i64 f).toArray) (h0 : f0.length = 8) (hs : f.length = 8) (hg : w.heap[g]? = some (.cells (nums .i64 f0).toArray 22 (0, 0))) : (execOp a.eval oi).run Try.prog w = .ok .skip (w.setRow g (nums .i64 f).toArray) := by
  unfold execOp
  simp only [ho, hx, hy, Instr.storeAt, Instr.sureAddr, Sem.run_bind, Sem.run_pure, Result.andThen_ok, run_storeVar_row w g 22 22 (nums .i64 f0).toArray (nums .i64 f).toArray hg (by rw [size22 hs]; exact info22) (by rw [size22 hs, size22 h0]) (by rw [Array.all_eq_true_iff_forall_mem]; intro v hv; exact nums_one f v (by simpa using hv))]
theorem eq_items {w : World} {xs : Array Value} {d : Nat} : ∀ (is : List Nat), (∀ i ∈ is, ∃ a, xs[i]? = some (.int .i64 a)) → (Op.eqItems (d + 1) 3 1 xs xs is).run Try.prog w = .ok true w
  | [], _ => by simp [Op.eqItems]
  | i :: is, h => by
    obtain ⟨a, ha⟩ := h i List.mem_cons_self
    have hp := run_part_plain (P := Try.prog) (w := w) (e := 3) (by kernel_rfl) (xs := xs) (off := i) ha
    simp only [Op.eqItems, Nat.mul_one, Sem.run_bind, hp, Result.andThen_ok, run_equalIn_int w d 3 .i64 .i64 a a Try.underlying3]
    simpa using eq_items is (fun k hk => h k (List.mem_cons_of_mem _ hk))
theorem ex_eq22 {oi : Oper} {a : Act} {w : World} {x y : Operand} {f : List Int} (ho : oi.op = .binOp .eql 22 x y 22) (hx : a.eval x = .agg (nums .i64 f).toArray) (hy : a.eval y = .agg (nums .i64 f).toArray) (hs : f.length = 8) : (execOp a.eval oi).run Try.prog w = .ok (.value (.bool true)) w := by
  have hi : ∃ ie, Try.prog.info? 3 = some ie := by
    have h : (Try.prog.info? 3).isSome = true := by kernel_rfl
    exact Option.isSome_iff_exists.1 h
  obtain ⟨ie, hie⟩ := hi
  have hc : Try.prog.cellsOf 3 = 1 := by kernel_rfl
  have e : (Op.equalIn 10000 22 (.agg (nums .i64 f).toArray) (.agg (nums .i64 f).toArray)).run Try.prog w = .ok true w := by
    rw [run_equalIn_array w 9999 _ _ Try.underlying22 hie, hc]
    exact eq_items _ (fun i h => ⟨_, by rw [List.getElem?_toArray]; exact nums_at (by have := List.mem_range.1 h; omega)⟩)
  unfold execOp
  simp only [ho, hx, hy, Sem.run_bind, Sem.run_pure, Result.andThen_ok, run_eqGuard_agg (P := Try.prog) w .eql 22 x y _ _ (by kernel_rfl), run_eql_struct, e]
structure Bw (W0 W : World) (g gx gn : Nat) (f now : List Int) (A : La) : Prop where
  lg : Log (fun k => W0.heap.size ≤ k ∧ k ≠ gx ∧ k ≠ gn) W g A
  hb : Below W0.heap.size W0 W
  bx : W.heap[gx]? = some (.cells (nums .i64 f).toArray 22 (0, 0))
  bn : W.heap[gn]? = some (.cells (nums .i64 now).toArray 22 (0, 0))
  ne : gx ≠ gn
  ge : W0.heap.size ≤ gx ∧ W0.heap.size ≤ gn
section
variable {W0 W W' : World} {g gx gn : Nat} {f now : List Int} {A : La}
theorem Bw.below (h : Bw W0 W g gx gn f now A) (hb : Below W.heap.size W W') : Bw W0 W' g gx gn f now A := by
  obtain ⟨vf, vu, vg, hl⟩ := h.lg
  exact ⟨⟨vf, vu, vg, hl.below hb⟩, below_step h.hb hb, blk_below h.bx hb, blk_below h.bn hb, h.ne, h.ge⟩
theorem Bw.wrote (h : Bw W0 W g gx gn f now A) (hl : A.u.length ≤ 1000) (c x : Int) : Calls Try.prog 10 #[.pointer (some ⟨g, 0, none⟩), .int .i64 c, .int .i64 x] W fun e w' => e = .returned (.tuple #[]) ∧ Bw W0 w' g gx gn f now (wrA A c x) := by
  obtain ⟨vf, vu, vg, hL⟩ := h.lg
  refine (wrote_any hL hl c x).mono ?_
  rintro e w' ⟨rfl, ⟨vf', vu', vg', hl'⟩, hc⟩
  have e1 := h.hb.size
  have lx := blk_lt h.bx
  have ln := blk_lt h.bn
  refine ⟨rfl, ⟨vf', vu', vg', hl'.mono fun k hk => ?_⟩, hc.below h.hb h.hb.size fun k hk => hk.1, (hc.block gx lx (fun z => z.2.1 rfl)).trans h.bx, (hc.block gn ln (fun z => z.2.2 rfl)).trans h.bn, h.ne, h.ge⟩
  rcases hk with hk | hk
  · exact hk
  · exact ⟨by omega, by omega, by omega⟩
theorem Bw.set_ (h : Bw W0 W g gx gn f now A) (c : Nat) (y : Int) : Bw W0 (W.setCell ⟨gn, c, none⟩ (.int .i64 y)) g gx gn f (now.set c y) A := by
  obtain ⟨vf, vu, vg, hL⟩ := h.lg
  have hc : Chg (fun k => k = gn) W (W.setCell ⟨gn, c, none⟩ (.int .i64 y)) := (Chg.refl (fun k => k = gn) W).set_ (p := ⟨gn, c, none⟩) (.inl rfl) _
  refine ⟨⟨vf, vu, vg, hL.kept hc (fun k hk z => z.2.2 hk)⟩, h.hb.setCell h.ge.2 _, (hc.block gx (blk_lt h.bx) h.ne).trans h.bx, blk_put h.bn c _ ?_, h.ne, h.ge⟩
  rw [List.setIfInBounds_toArray, nums_set]
theorem Bw.undo (h : Bw W0 W g gx gn f now A) (hl : A.u.length ≤ 1000) : Calls Try.prog 11 #[.pointer (some ⟨g, 0, none⟩)] W fun e w' => ∃ v, e = .returned v ∧ PR w' W.heap.size v A.u.reverse ∧ Bw W0 w' g gx gn f now A := by
  obtain ⟨vf, vu, vg, hL⟩ := h.lg
  refine (undo_any hL hl).mono ?_
  rintro e w' ⟨v, rfl, hp, hb'⟩
  exact ⟨v, rfl, hp, h.below hb'⟩
theorem Bw.now_at (h : Bw W0 W g gx gn f now A) (h8 : now.length = 8) {c : Nat} (hc : c < 8) : W.cell? ⟨gn, c, none⟩ = some (.int .i64 (now.getD c 0)) := by
  rw [blk_cell h.bn c, List.getElem?_toArray]
  exact nums_at (by omega)
theorem log_then {B : Nat} {o : Obj} (h : Log (fun k => B ≤ k) W g A) (hx : gx < B) : Log (fun k => B ≤ k ∧ k ≠ gx ∧ k ≠ W.heap.size) (W.alloc o) g A := by
  obtain ⟨vf, vu, vg, hL⟩ := h
  exact ⟨vf, vu, vg, (hL.cut.below (below_alloc (Below.refl _ _) _)).mono fun k hk => ⟨hk.1, by have := hk.1; omega, by have := hk.2; omega⟩⟩
theorem log_pre {B B' : Nat} (h : Log (fun k => B' ≤ k) W g A) (hB : B ≤ B') (hx : gx < B) (hn : gn < B') : Log (fun k => B ≤ k ∧ k ≠ gx ∧ k ≠ gn) W g A := by
  obtain ⟨vf, vu, vg, hL⟩ := h
  exact ⟨vf, vu, vg, hL.mono fun k (hk : B' ≤ k) => ⟨by omega, by omega, by omega⟩⟩
theorem Bw.mk_ {W1 W2 : World} (hx1 : W1.heap.size ≤ W2.heap.size) (hl : Log (fun k => W1.heap.size ≤ k ∧ k ≠ gx ∧ k ≠ gn) W2 g A) (h01 : Below W0.heap.size W0 W1) (h12 : Below W1.heap.size W1 W2) (hbx : W2.heap[gx]? = some (.cells (nums .i64 f).toArray 22 (0, 0))) (ho : ∃ f0, W2.heap[gn]? = some (.cells f0 22 (0, 0))) (hg : W0.heap.size ≤ gx ∧ W1.heap.size ≤ gn ∧ gx < W1.heap.size) :
    Bw W0 (W2.setRow gn (nums .i64 f).toArray) g gx gn f f A := by
  obtain ⟨vf, vu, vg, hL⟩ := hl
  have e1 := h01.size
  have hc : Chg (fun k => k = gn) W2 (W2.setRow gn (nums .i64 f).toArray) := ⟨rfl, rfl, rfl, by simp [World.setRow], fun k _ hk => setRow_other W2 gn k _ hk⟩
  obtain ⟨f0, ho⟩ := ho
  exact ⟨⟨vf, vu, vg, (hL.kept hc (fun k hk z => z.2.2 hk)).mono fun k hk => ⟨by have := hk.1; omega, hk.2⟩⟩, (below_step h01 h12).trans ⟨rfl, rfl, rfl, by simp [World.setRow], fun k hk => setRow_other W2 gn k _ (by omega)⟩, (setRow_other W2 gn gx _ (by omega)).trans hbx, setRow_heap _ _ _ _ _ _ ho, by omega, by omega, by omega⟩
end
end Go.Proofs.Ytakbhnfmimnbhaa.Rn
