/- Rights that the call has made, beside a row of the page's. Conditions: none. -/
import Derived.Test.YtjcjhmnfknenlaaDoorRu3
namespace Go.Proofs.YtjcjhmnfknenlaaDoor.Rt
open Go.RowKit Go.Proofs.YtjcjhmnfknenlaaDoor.PRightApart Go.Proofs.YtjcjhmnfknenlaaDoorW.PrintWords Go.Proofs.YtjcjhmnfknenlaaDoorW.PrintLast
open Ch (Chg)
set_option linter.unusedVariables false
set_option linter.unusedSimpArgs false

theorem cellB {W w2 : World} {a : Addr} {v : Value} (hb : Below W.heap.size W w2) (h : W.cell? a = some v) : w2.cell? a = some v := (hb.cell (World.block_lt_of_cell? _ _ h)).trans h
/-- Rights made since w, and a row of 64 sets in a block of its own. -/
def Q (w w' : World) (g g1 N : Nat) (p : Int → Int → Bool) (B : List Nat) : Prop :=
  ∃ m, At w' g m N p ∧ Below w.heap.size w w' ∧ (w.heap.size ≤ g ∧ w.heap.size ≤ g1 ∧ g ≠ g1) ∧ (∀ b, m = some b → w.heap.size ≤ b ∧ b ≠ g1) ∧ w'.heap[g1]? = some (.cells (Rf.enc B) 28 (0, 0))
section
variable {w w1 w2 : World} {g g1 N : Nat} {p q : Int → Int → Bool} {B B2 : List Nat}
theorem Q.hb (h : Q w w1 g g1 N p B) : Below w.heap.size w w1 := by obtain ⟨_, _, h, _⟩ := h; exact h
theorem Q.row (h : Q w w1 g g1 N p B) : w1.heap[g1]? = some (.cells (Rf.enc B) 28 (0, 0)) := by obtain ⟨_, _, _, _, _, h⟩ := h; exact h
theorem Q.below (h : Q w w1 g g1 N p B) (hb : Below w1.heap.size w1 w2) : Q w w2 g g1 N p B := by
  obtain ⟨m, a, b, c, d, e⟩ := h
  exact ⟨m, a.below hb, below_step b hb, c, d, blk_below e hb⟩
theorem Q.drewN (h : Q w w1 g g1 N p B) (n : Nat) : Q w (w1.drewN n) g g1 N p B := h.below (pw_below_drewN (Below.refl _ _) n)
theorem Q.mono (h : Q w w1 g g1 N p B) {N' : Nat} (hn : N ≤ N') : Q w w1 g g1 N' p B := by
  obtain ⟨m, a, b, c, d, e⟩ := h
  exact ⟨m, a.mono hn, b, c, d, e⟩
theorem Q.st (h : Q w w1 g g1 N p B) : St w w1 g N p := by
  obtain ⟨m, a, b, c, d, e⟩ := h
  exact ⟨m, a, b, c.1, fun x hx => (d x hx).1⟩
theorem setRow_get (W : World) (g k : Nat) (cs : Array Value) (h : k ≠ g) : (W.setRow g cs).heap[k]? = W.heap[k]? := setRow_other W g k cs h
theorem Q.set (h : Q w w1 g g1 N p B) (B2 : List Nat) : Q w (w1.setRow g1 (Rf.enc B2)) g g1 N p B2 := by
  obtain ⟨m, a, b, c, d, e⟩ := h
  refine ⟨m, ⟨(setRow_get _ _ _ _ c.2.2).trans a.hg, ?_⟩, Rf.below_row b c.2.1 _, c, d, setRow_heap _ _ _ _ _ _ e⟩
  rcases a.hm with hm | ⟨bb, D, hm, ho, hv⟩
  · exact .inl hm
  · obtain ⟨es, clock, hb, r⟩ := ho
    exact .inr ⟨bb, D, hm, ⟨es, clock, (setRow_get _ _ _ _ (d bb hm).2).trans hb, r⟩, hv⟩
theorem row_of {t : Int} (wt : Wf t) (h : Q w w1 g g1 N p B) : Calls Tryd.prog 11 #[.pointer (some ⟨g, 0, none⟩), .int .i64 t] w1 fun e w' => e = .returned (.int .u64 ((ofS p t : Nat) : Int)) ∧ Q w w' g g1 N p B := by
  obtain ⟨m, a, b, c, d, e⟩ := h
  exact (of_any wt a).mono fun e' w' ⟨h1, h2⟩ => ⟨h1, m, a.below h2, below_step b h2, c, d, blk_below e h2⟩
theorem row_do {k f t : Int} (wf : Wf f) (wt : Wf t) {s : Nat} (hs : s < Bt.top) (hN : N ≤ 1000000) (hT : Tb.Tab w) (h : Q w w1 g g1 N p B) : Calls Tryd.prog 8 #[.pointer (some ⟨g, 0, none⟩), .agg #[.int .i64 k, .int .i64 f, .int .i64 t, .int .u64 (s : Int)]] w1 fun e w' => e = .returned (.tuple #[]) ∧ Q w w' g g1 (N + 64) (doP p k f t s) B := by
  obtain ⟨m, a, b, c, d, e⟩ := h
  have h0 := hT.1
  refine (do_any wf wt hs hN (by omega) (fun q => by have := (d 0 q).1; omega) (Tb.below hT b) a).mono fun e' w' ⟨h1, m', h2, h3, h4⟩ => ⟨h1, m', h2, ?_, c, fun x hx => ?_, ?_⟩
  · refine Chg.below b h3 b.size (fun k hk => ?_)
    rcases hk with hk | hk
    · omega
    · exact (d k hk).1
  · rcases h4 x hx with q | q
    · exact d x q
    · exact ⟨Nat.le_trans b.size q, by have := blk_lt e; omega⟩
  · refine (h3.block g1 (blk_lt e) (fun q => ?_)).trans e
    rcases q with q | q
    · exact c.2.2 q.symm
    · exact (d g1 q).2 rfl
/-- New rights, and a new row of no sets. -/
theorem row_new {m : Option Nat} (hA : At w1 g m N p) (hb : Below w.heap.size w w1) (hg : w.heap.size ≤ g) (hm : ∀ b, m = some b → w.heap.size ≤ b) (hb2 : Below w1.heap.size w1 w2) (hg1 : w1.heap.size ≤ g1) (h1 : w2.heap[g1]? = some (.cells (Rf.enc B) 28 (0, 0))) : Q w w2 g g1 N p B := by
  have hl := blk_lt hA.hg
  refine ⟨m, hA.below hb2, below_step hb hb2, ⟨hg, Nat.le_trans hb.size hg1, by omega⟩, fun b hb' => ⟨hm b hb', ?_⟩, h1⟩
  rcases hA.hm with ⟨q, _⟩ | ⟨b', D, q, ho, _⟩
  · rw [q] at hb'; cases hb'
  · rw [q] at hb'
    injection hb' with hb'
    subst hb'
    obtain ⟨es, clock, hq, _⟩ := ho
    have := (Array.getElem?_eq_some_iff.1 hq).1
    omega
end
end Go.Proofs.YtjcjhmnfknenlaaDoor.Rt
