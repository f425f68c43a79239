/- Rights, and a clone of what they were. Conditions: none. -/
import Derived.Test.YtjcjhmnfknenlaaDoorRu6
import Derived.Test.YtjcjhmnfknenlaaDoorRu7
namespace Go.Proofs.YtjcjhmnfknenlaaDoor.Rt
open Go.RowKit Go.Proofs.YtjcjhmnfknenlaaDoor.PRightApart Go.Proofs.YtjcjhmnfknenlaaDoorW.PrintWords Go.Proofs.YtjcjhmnfknenlaaDoorW.PrintLast
open Ch (Chg)
set_option linter.unusedVariables false
set_option linter.unusedSimpArgs false

/-- Rights made since w that tell q, a clone that tells p, and a row. -/
def Q2 (w w' : World) (g g1 gc N : Nat) (q p : Int → Int → Bool) (B : List Nat) : Prop :=
  ∃ m mc N2, At w' g m N q ∧ At w' gc mc N2 p ∧ Below w.heap.size w w' ∧ (w.heap.size ≤ g ∧ g ≠ g1 ∧ g ≠ gc ∧ mc ≠ some g) ∧ (∀ b, m = some b → w.heap.size ≤ b ∧ b ≠ g1 ∧ b ≠ gc ∧ mc ≠ some b) ∧ w'.heap[g1]? = some (.cells (Rf.enc B) 28 (0, 0))
section
variable {w w1 w2 : World} {g g1 gc N : Nat} {p q : Int → Int → Bool} {B B2 : List Nat}
theorem Q2.hb (h : Q2 w w1 g g1 gc N q p B) : Below w.heap.size w w1 := by obtain ⟨_, _, _, _, _, h, _⟩ := h; exact h
theorem Q2.row (h : Q2 w w1 g g1 gc N q p B) : w1.heap[g1]? = some (.cells (Rf.enc B) 28 (0, 0)) := by obtain ⟨_, _, _, _, _, _, _, _, h⟩ := h; exact h
theorem Q2.below (h : Q2 w w1 g g1 gc N q p B) (hb : Below w1.heap.size w1 w2) : Q2 w w2 g g1 gc N q p B := by
  obtain ⟨m, mc, N2, a, a2, b, c, d, e⟩ := h
  exact ⟨m, mc, N2, a.below hb, a2.below hb, below_step b hb, c, d, blk_below e hb⟩
theorem Q2.drewN (h : Q2 w w1 g g1 gc N q p B) (n : Nat) : Q2 w (w1.drewN n) g g1 gc N q p B := h.below (pw_below_drewN (Below.refl _ _) n)
theorem Q2.mono (h : Q2 w w1 g g1 gc N q p B) {N' : Nat} (hn : N ≤ N') : Q2 w w1 g g1 gc N' q p B := by
  obtain ⟨m, mc, N2, a, a2, b, c, d, e⟩ := h
  exact ⟨m, mc, N2, a.mono hn, a2, b, c, d, e⟩
theorem mp_lt {W : World} {m : Option Nat} {N : Nat} {p : Int → Int → Bool} (h : Mp W m N p) {b : Nat} (hb : m = some b) : b < W.heap.size := by
  rcases h with ⟨q, _⟩ | ⟨b', D, q, ho, _⟩
  · rw [q] at hb; cases hb
  · rw [q] at hb
    injection hb with hb
    subst hb
    obtain ⟨es, clock, hq, _⟩ := ho
    exact (Array.getElem?_eq_some_iff.1 hq).1
theorem two_of {t : Int} (wt : Wf t) (h : Q2 w w1 g g1 gc N q p B) : Calls Tryd.prog 11 #[.pointer (some ⟨gc, 0, none⟩), .int .i64 t] w1 fun e w' => e = .returned (.int .u64 ((ofS p t : Nat) : Int)) ∧ Q2 w w' g g1 gc N q p B := by
  obtain ⟨m, mc, N2, a, a2, b, c, d, e⟩ := h
  exact (of_any wt a2).mono fun e' w' ⟨h1, h2⟩ => ⟨h1, m, mc, N2, a.below h2, a2.below h2, below_step b h2, c, d, blk_below e h2⟩
theorem two_do {k f t : Int} (wf : Wf f) (wt : Wf t) {s : Nat} (hs : s < Bt.top) (hN : N ≤ 1000000) (hT : Tb.Tab w) (h : Q2 w w1 g g1 gc N q p B) : Calls Tryd.prog 8 #[.pointer (some ⟨g, 0, none⟩), .agg #[.int .i64 k, .int .i64 f, .int .i64 t, .int .u64 (s : Int)]] w1 fun e w' => e = .returned (.tuple #[]) ∧ Q2 w w' g g1 gc (N + 64) (doP q k f t s) p B := by
  obtain ⟨m, mc, N2, a, a2, b, c, d, e⟩ := h
  have h0 := hT.1
  refine (do_any wf wt hs hN (by omega) (fun z => by have := (d 0 z).1; omega) (Tb.below hT b) a).mono fun e' w' ⟨h1, m', h2, h3, h4⟩ => ⟨h1, m', mc, N2, h2, a2.chg h3 (fun z => ?_) (fun x hx z => ?_), ?_, c, fun x hx => ?_, ?_⟩
  · rcases z with z | z
    · exact c.2.2.1 z.symm
    · exact (d gc z).2.2.1 rfl
  · rcases z with z | z
    · subst z; exact c.2.2.2 hx
    · exact (d x z).2.2.2 hx
  · refine Chg.below b h3 b.size (fun k hk => ?_)
    rcases hk with hk | hk
    · omega
    · exact (d k hk).1
  · rcases h4 x hx with z | z
    · exact d x z
    · exact ⟨Nat.le_trans b.size z, by have := blk_lt e; omega, by have := blk_lt a2.hg; omega, fun y => by have := mp_lt a2.hm y; omega⟩
  · refine (h3.block g1 (blk_lt e) (fun z => ?_)).trans e
    rcases z with z | z
    · exact c.2.1 z.symm
    · exact (d g1 z).2.1 rfl
theorem two_new (h : Q w w1 g g1 N p B) (hb : Below w1.heap.size w1 w2) (hg : w1.heap.size ≤ gc) (hc : ∃ mc, At w2 gc mc N p ∧ ∀ b, mc = some b → w1.heap.size ≤ b) : Q2 w w2 g g1 gc N p p B := by
  obtain ⟨m, a, b, c, d, e⟩ := h
  obtain ⟨mc, a2, h2⟩ := hc
  have hl := blk_lt a.hg
  exact ⟨m, mc, N, a.below hb, a2, below_step b hb, ⟨c.1, c.2.2, by omega, fun z => by have := h2 g z; omega⟩, fun x hx => ⟨(d x hx).1, (d x hx).2, by have := mp_lt a.hm hx; omega, fun z => by have := h2 x z; have := mp_lt a.hm hx; omega⟩, blk_below e hb⟩
theorem row_clone (h : Q w w1 g g1 N p B) : Calls Tryd.prog 14 #[.pointer (some ⟨g, 0, none⟩)] w1 fun e w' => ∃ gc, e = .returned (.pointer (some ⟨gc, 0, none⟩)) ∧ Q2 w w' g g1 gc N p p B := by
  have h' := h
  obtain ⟨m, a, b, c, d, e⟩ := h
  exact (clone_any a).mono fun e' w' ⟨gc, h1, h2, h3, h4⟩ => ⟨gc, h1, two_new h' h4 h2 h3.out⟩
end
end Go.Proofs.YtjcjhmnfknenlaaDoor.Rt
