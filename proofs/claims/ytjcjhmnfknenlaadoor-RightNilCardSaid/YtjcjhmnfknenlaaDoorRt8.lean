/- Rights that the call has made; lives. Conditions: none. -/
import Derived.Test.YtjcjhmnfknenlaaDoorRt7
namespace Go.Proofs.YtjcjhmnfknenlaaDoor.Rt
open Go.RowKit Go.Proofs.YtjcjhmnfknenlaaDoor.PRightNil Go.Proofs.YtjcjhmnfknenlaaDoorW.PrintWords Go.Proofs.YtjcjhmnfknenlaaDoorW.PrintLast
open Ch (Chg)
set_option linter.unusedVariables false
set_option linter.unusedSimpArgs false

/-- Rights made since W. -/
def St (W w' : World) (g N : Nat) (p : Int → Int → Bool) : Prop := ∃ m, At w' g m N p ∧ Below W.heap.size W w' ∧ W.heap.size ≤ g ∧ ∀ b, m = some b → W.heap.size ≤ b
section
variable {W w1 w2 : World} {g N : Nat} {p q : Int → Int → Bool}
theorem St.hb (h : St W w1 g N p) : Below W.heap.size W w1 := by obtain ⟨_, _, h, _⟩ := h; exact h
theorem St.below (h : St W w1 g N p) (hb : Below w1.heap.size w1 w2) : St W w2 g N p := by
  obtain ⟨m, a, b, c, d⟩ := h
  exact ⟨m, a.below hb, below_step b hb, c, d⟩
theorem St.drewN (h : St W w1 g N p) (n : Nat) : St W (w1.drewN n) g N p := h.below (pw_below_drewN (Below.refl _ _) n)
theorem St.mono (h : St W w1 g N p) {N' : Nat} (hn : N ≤ N') : St W w1 g N' p := by
  obtain ⟨m, a, b, c, d⟩ := h
  exact ⟨m, a.mono hn, b, c, d⟩
theorem St.left {N' : Nat} {m : Option Nat} (hb : Below W.heap.size W w1) (hg : W.heap.size ≤ g) (hm : ∀ b, m = some b → W.heap.size ≤ b) (h : Left w1 w2 g N' m q) : St W w2 g N' q := by
  obtain ⟨m', a, c, d⟩ := h
  refine ⟨m', a, Chg.below hb c hb.size (fun k hk => ?_), hg, fun b hb' => ?_⟩
  · rcases hk with hk | hk
    · omega
    · exact hm k hk
  · rcases d b hb' with e | e
    · exact hm b e
    · exact Nat.le_trans hb.size e
theorem st_new (W : World) : Calls Tryd.prog 7 #[] W fun e w' => ∃ g, e = .returned (.pointer (some ⟨g, 0, none⟩)) ∧ St W w' g 0 (fun _ _ => false) :=
  (new_any W).mono fun e w' ⟨g, h1, h2, h3, h4⟩ => ⟨g, h1, none, h3, h4, by omega, fun b hb => by cases hb⟩
theorem st_of {t : Int} (wt : Wf t) (h : St W w1 g N p) : Calls Tryd.prog 11 #[.pointer (some ⟨g, 0, none⟩), .int .i64 t] w1 fun e w' => e = .returned (.int .u64 ((ofS p t : Nat) : Int)) ∧ St W w' g N p := by
  obtain ⟨m, a, b, c, d⟩ := h
  exact (of_any wt a).mono fun e w' ⟨h1, h2⟩ => ⟨h1, m, a.below h2, below_step b h2, c, d⟩
def whoS (p : Int → Int → Bool) (o : Int) : Nat := Gs.setOf (fun t => p (t : Int) o) 64
theorem st_who {t : Int} (wt : Wf t) (h : St W w1 g N p) : Calls Tryd.prog 13 #[.pointer (some ⟨g, 0, none⟩), .int .i64 t] w1 fun e w' => e = .returned (.int .u64 ((whoS p t : Nat) : Int)) ∧ St W w' g N p := by
  obtain ⟨m, a, b, c, d⟩ := h
  exact (who_any wt a).mono fun e w' ⟨h1, h2⟩ => ⟨h1, m, a.below h2, below_step b h2, c, d⟩
theorem st_has {t o : Int} (wt : Wf t) (wo : Wf o) (h : St W w1 g N p) : Calls Tryd.prog 15 #[.pointer (some ⟨g, 0, none⟩), .int .i64 t, .int .i64 o] w1 fun e w' => e = .returned (.bool (p t o)) ∧ St W w' g N p := by
  obtain ⟨m, a, b, c, d⟩ := h
  exact (has_any wt wo a).mono fun e w' ⟨h1, h2⟩ => ⟨h1, m, a.below h2, below_step b h2, c, d⟩
theorem st_root {t : Int} (wt : Wf t) (hN : N ≤ 1000000) (hT : Tb.Tab W) (h : St W w1 g N p) : Calls Tryd.prog 17 #[.pointer (some ⟨g, 0, none⟩), .int .i64 t] w1 fun e w' => e = .returned (.tuple #[]) ∧ St W w' g (N + 64) (adds p t (Gr.low 4294967295 64)) := by
  obtain ⟨m, a, b, c, d⟩ := h
  have h0 := hT.1
  exact (root_any wt hN (by omega) (Tb.below hT b) a).mono fun e w' ⟨h1, h2⟩ => ⟨h1, St.left b c d h2⟩
theorem st_child {f t : Int} (wf : Wf f) (wt : Wf t) {s : Nat} (hs : s < Bt.top) (hN : N ≤ 1000000) (hT : Tb.Tab W) (h : St W w1 g N p) : Calls Tryd.prog 18 #[.pointer (some ⟨g, 0, none⟩), .int .i64 f, .int .i64 t, .int .u64 (s : Int)] w1 fun e w' => e = .returned (.tuple #[]) ∧ St W w' g (N + 64) (adds (clr p t) t (Gr.low (ofS p f &&& s) 64)) := by
  obtain ⟨m, a, b, c, d⟩ := h
  have h0 := hT.1
  exact (child_any wf wt hs hN (by omega) (fun e => by have := d 0 e; omega) (Tb.below hT b) a).mono fun e w' ⟨h1, h2⟩ => ⟨h1, St.left b c d h2⟩
theorem st_do {k f t : Int} (wf : Wf f) (wt : Wf t) {s : Nat} (hs : s < Bt.top) (hN : N ≤ 1000000) (hT : Tb.Tab W) (h : St W w1 g N p) : Calls Tryd.prog 8 #[.pointer (some ⟨g, 0, none⟩), .agg #[.int .i64 k, .int .i64 f, .int .i64 t, .int .u64 (s : Int)]] w1 fun e w' => e = .returned (.tuple #[]) ∧ St W w' g (N + 64) (doP p k f t s) := by
  obtain ⟨m, a, b, c, d⟩ := h
  have h0 := hT.1
  exact (do_any wf wt hs hN (by omega) (fun e => by have := d 0 e; omega) (Tb.below hT b) a).mono fun e w' ⟨h1, h2⟩ => ⟨h1, St.left b c d h2⟩
end
/-! ### lives -/
def q1 : Int → Int → Bool := adds (fun _ _ => false) 0 (Gr.low 4294967295 64)
def q2 : Int → Int → Bool := adds (clr q1 1) 1 (Gr.low (ofS q1 0 &&& 6) 64)
set_option maxRecDepth 100000 in
theorem q_of : ofS q2 1 = 6 := by decide +kernel
set_option maxRecDepth 100000 in
theorem q_who : whoS q2 1 = 3 := by decide +kernel
set_option maxRecDepth 100000 in
theorem q_has : q2 1 2 = true := by decide +kernel
set_option maxRecDepth 100000 in
theorem q_not : q2 1 3 = false := by decide +kernel
set_option maxHeartbeats 4000000 in
set_option maxRecDepth 100000 in
theorem lives_any {W : World} (hT : Tb.Tab W) : Calls Tryd.prog 12 #[] W fun e w' => e = .returned (.bool true) ∧ Below W.heap.size W w' := by
  have HT := Aside0.mk hT
  clear hT
  have W0 : Aside0 (Wf 0) := ⟨wf_nat (n := 0) (by decide)⟩
  have W1 : Aside0 (Wf 1) := ⟨wf_nat (n := 1) (by decide)⟩
  have W2 : Aside0 (Wf 2) := ⟨wf_nat (n := 2) (by decide)⟩
  have W3 : Aside0 (Wf 3) := ⟨wf_nat (n := 3) (by decide)⟩
  go_enter Tryd.func12, Tryd.ntmps12
  go_wp2_with (first
    | (go_at_call 7; (refine (st_new W).mono ?_); rintro e w1 ⟨g, rfl, h⟩; have S1 := Aside0.mk h; clear h)
    | (go_at_call 17; (refine (st_root W0.out (by decide) HT.out S1.out).mono ?_); rintro e w2 ⟨rfl, h⟩; have S2 := Aside0.mk (show St W w2 g 64 q1 from h); clear h)
    | (go_at_call 18; (refine (st_child W0.out W1.out (s := 6) (by decide) (by decide) HT.out S2.out).mono ?_); rintro e w3 ⟨rfl, h⟩; have S3 := Aside0.mk (show St W w3 g 128 q2 from h); clear h)
    | (go_at_call 11; (refine (st_of W1.out S3.out).mono ?_); rintro e w4 ⟨rfl, h⟩; rw [q_of]; have S4 := Aside0.mk h; clear h)
    | (go_at_call 13; (refine (st_who W1.out S4.out).mono ?_); rintro e w5 ⟨rfl, h⟩; rw [q_who]; have S5 := Aside0.mk h; clear h)
    | (go_at_call 15; (with_reducible refine (st_has W1.out W2.out S5.out).mono ?_); rintro e w6 ⟨rfl, h⟩; rw [q_has]; have S6 := Aside0.mk h; clear h)
    | (go_at_call 15; (with_reducible refine (st_has W1.out W3.out S6.out).mono ?_); rintro e w7 ⟨rfl, h⟩; rw [q_not]; have S7 := Aside0.mk h; clear h))
  go_ret
  exact ⟨rfl, by repeat (first | exact S7.out.hb | apply below_drew | apply below_alloc | apply pw_below_drewN)⟩
end Go.Proofs.YtjcjhmnfknenlaaDoor.Rt
