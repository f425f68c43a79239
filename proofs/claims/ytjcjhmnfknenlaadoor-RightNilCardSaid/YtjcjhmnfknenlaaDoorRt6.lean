/- Rights: New, Root, Clear, Give, Child. Conditions: none. -/
import Derived.Test.YtjcjhmnfknenlaaDoorRt5
namespace Go.Proofs.YtjcjhmnfknenlaaDoor.Rt
open Go.RowKit Go.Proofs.YtjcjhmnfknenlaaDoor.PRightNil Go.Proofs.YtjcjhmnfknenlaaDoorW.PrintWords Go.Proofs.YtjcjhmnfknenlaaDoorW.PrintLast
open Ch (Chg)
set_option linter.unusedVariables false
set_option linter.unusedSimpArgs false

/-- All on which t has the right. -/
def ofS (p : Int → Int → Bool) (t : Int) : Nat := Gs.setOf (fun o => p t (o : Int)) 64
theorem ofS_top (p : Int → Int → Bool) (t : Int) : ofS p t < Bt.top := Gs.setOf_top _ (by decide)
/-- What a call leaves: the block holds what tells q; only its block and its map have turned. -/
def Left (W w' : World) (g N : Nat) (m : Option Nat) (q : Int → Int → Bool) : Prop :=
  ∃ m', At w' g m' N q ∧ Chg (fun k => k = g ∨ m = some k) W w' ∧ (∀ b, m' = some b → m = some b ∨ W.heap.size ≤ b)
theorem Tab_chg {W w' : World} {g : Nat} {m : Option Nat} (hT : Tb.Tab W) (hc : Chg (fun k => k = g ∨ m = some k) W w') (hg : g ≠ 0) (hm : m ≠ some 0) : Tb.Tab w' := by
  have h0 := hc.block 0 hT.1 (fun h => by rcases h with h | h; exact hg h.symm; exact hm h)
  refine ⟨Nat.lt_of_lt_of_le hT.1 hc.size, fun j hj => ?_⟩
  have h1 := hT.2 j hj
  unfold World.cell? at h1 ⊢
  simp only at h1 ⊢
  rw [h0]
  exact h1
set_option maxHeartbeats 4000000 in
set_option maxRecDepth 100000 in
theorem new_any (W : World) : Calls Tryd.prog 7 #[] W fun e w' => ∃ g, e = .returned (.pointer (some ⟨g, 0, none⟩)) ∧ g = W.heap.size ∧ At w' g none 0 (fun _ _ => false) ∧ Below W.heap.size W w' := by
  have hu40 := Tryd.underlying40
  go_enter Tryd.func7, Tryd.ntmps7
  go_wp2
  go_ret
  exact ⟨_, rfl, rfl, ⟨blk_new W _, .inl ⟨rfl, rfl⟩⟩, below_alloc (Below.refl _ _) _⟩
set_option maxHeartbeats 4000000 in
set_option maxRecDepth 100000 in
theorem root_any {W : World} {g N : Nat} {m : Option Nat} {p : Int → Int → Bool} {t : Int} (wt : Wf t) (hN : N ≤ 1000000) (hg0 : g ≠ 0) (hT : Tb.Tab W) (hA : At W g m N p) :
    Calls Tryd.prog 17 #[.pointer (some ⟨g, 0, none⟩), .int .i64 t] W fun e w' => e = .returned (.tuple #[]) ∧ Left W w' g (N + 64) m (adds p t (Gr.low 4294967295 64)) := by
  have HX := Aside0.mk (fun n => add_any wt (s := 4294967295) (by decide) hN hg0 (Tb.drewN hT n) (hA.drewN n))
  have HAL := Aside0.mk (show bits_All.f 32 = some 4294967295 from by decide)
  clear hA hT wt
  go_enter Tryd.func17, Tryd.ntmps17
  go_wp2_with (first
    | (go_at_call 29; (with_reducible refine (bits_All.calls _ _ _ HAL.out).mono ?_); rintro e w2 ⟨rfl, ⟨nd2, rfl⟩⟩)
    | (go_at_call 28; (refine (HX.out _).mono ?_); rintro e w3 ⟨rfl, m', h1, h2, h3⟩; have HL := Aside0.mk (show Left W w3 g (N + 64) m (adds p t (Gr.low 4294967295 64)) from ⟨m', h1, ((Chg.refl _ W).drewN _).trans h2, h3⟩); clear h1 h2 h3))
  refine bodyPost_end (results_none rfl _ _ _) rfl ?_
  exact ⟨rfl, HL.out⟩
theorem Left.step {W w1 w2 : World} {g N N' : Nat} {m m1 : Option Nat} {q : Int → Int → Bool} (h1 : Chg (fun k => k = g ∨ m = some k) W w1) (hn : ∀ b, m1 = some b → m = some b ∨ W.heap.size ≤ b) (h2 : Left w1 w2 g N m1 q) (hN : N ≤ N') : Left W w2 g N' m q := by
  obtain ⟨m', a, c, d⟩ := h2
  refine ⟨m', a.mono hN, ?_, fun b hb => ?_⟩
  · refine ⟨c.os.trans h1.os, c.tape.trans h1.tape, c.output.trans h1.output, Nat.le_trans h1.size c.size, fun k hk hn2 => ?_⟩
    have hk1 := Nat.lt_of_lt_of_le hk h1.size
    refine (c.block k hk1 (fun q => ?_)).trans (h1.block k hk hn2)
    rcases q with q | q
    · exact hn2 (.inl q)
    · rcases hn k q with q2 | q2
      · exact hn2 (.inr q2)
      · omega
  · rcases d b hb with q | q
    · exact hn b q
    · exact .inr (Nat.le_trans h1.size q)
theorem Left.of_at {W w1 : World} {g N : Nat} {m : Option Nat} {q : Int → Int → Bool} (hA : At w1 g m N q) (hc : Chg (fun k => m = some k) W w1) : Left W w1 g N m q :=
  ⟨m, hA, hc.mono (fun k hk => .inr hk), fun b hb => .inl hb⟩
theorem At.lt {W : World} {g N : Nat} {m : Option Nat} {p : Int → Int → Bool} (h : At W g m N p) {b : Nat} (hb : m = some b) : b < W.heap.size := by
  rcases h.hm with ⟨h, _⟩ | ⟨b', D, h, ho, _⟩
  · rw [h] at hb; cases hb
  · rw [h] at hb; injection hb with hb; subst hb; exact ho.lt
def clr (p : Int → Int → Bool) (t : Int) : Int → Int → Bool := dels p t (Gr.low (ofS p t) 64)
set_option maxHeartbeats 4000000 in
set_option maxRecDepth 100000 in
theorem clear_any {W : World} {g N : Nat} {m : Option Nat} {p : Int → Int → Bool} {t : Int} (wt : Wf t) (hT : Tb.Tab W) (hA : At W g m N p) :
    Calls Tryd.prog 21 #[.pointer (some ⟨g, 0, none⟩), .int .i64 t] W fun e w' => e = .returned (.tuple #[]) ∧ At w' g m N (clr p t) ∧ Chg (fun k => m = some k) W w' := by
  have HO := Aside0.mk (of_any wt hA)
  have HX := Aside0.mk (fun w1 (hb : Below W.heap.size W w1) => waive_any wt (ofS_top p t) (Tb.below hT hb) (hA.below hb))
  clear hA hT wt
  go_enter Tryd.func21, Tryd.ntmps21
  go_wp2_with (first
    | (go_at_call 11; (refine HO.out.mono ?_); rintro e w2 ⟨rfl, hb⟩; have HB := Aside0.mk hb; clear hb)
    | (go_at_call 20; (refine (HX.out _ HB.out).mono ?_); rintro e w3 ⟨rfl, h1, h2⟩; have HL := Aside0.mk h1; have HC := Aside0.mk h2; clear h1 h2))
  refine bodyPost_end (results_none rfl _ _ _) rfl ?_
  exact ⟨rfl, HL.out, (Chg.of_below HB.out).trans HC.out⟩
set_option maxHeartbeats 4000000 in
set_option maxRecDepth 100000 in
theorem give_any {W : World} {g N : Nat} {m : Option Nat} {p : Int → Int → Bool} {f t : Int} (wf : Wf f) (wt : Wf t) {s : Nat} (hs : s < Bt.top) (hN : N ≤ 1000000) (hg0 : g ≠ 0) (hT : Tb.Tab W) (hA : At W g m N p) :
    Calls Tryd.prog 19 #[.pointer (some ⟨g, 0, none⟩), .int .i64 f, .int .i64 t, .int .u64 (s : Int)] W fun e w' => e = .returned (.tuple #[]) ∧ Left W w' g (N + 64) m (adds p t (Gr.low (ofS p f &&& s) 64)) := by
  have HO := Aside0.mk (of_any wf hA)
  have e1 : Go.bits .and .u64 ((ofS p f : Nat) : Int) (s : Int) = ((ofS p f &&& s : Nat) : Int) := Bt.and_nat (ofS_top p f) hs
  have HX := Aside0.mk (fun w1 (hb : Below W.heap.size W w1) => add_any wt (s := ofS p f &&& s) (Bt.lt_and hs) hN hg0 (Tb.below hT hb) (hA.below hb))
  clear hA hT wt
  have HO2 := Aside0.mk (show Calls Tryd.prog 11 #[.pointer (some ⟨g, 0, none⟩), .int .i64 f] W fun e w' => e = .returned (.int .u64 ((ofS p f : Nat) : Int)) ∧ Below W.heap.size W w' from HO.out)
  clear HO
  generalize ofS p f = F at *
  generalize F &&& s = F2 at *
  go_enter Tryd.func19, Tryd.ntmps19
  go_wp2_with (first
    | (go_at_call 11; (refine HO2.out.mono ?_); rintro e w2 ⟨rfl, hb⟩; have HB := Aside0.mk hb; clear hb)
    | (go_at_call 28; (refine (HX.out _ HB.out).mono ?_); rintro e w3 ⟨rfl, m', h1, h2, h3⟩; have HL := Aside0.mk (show Left W w3 g (N + 64) m (adds p t (Gr.low F2 64)) from ⟨m', h1, (Chg.of_below HB.out).trans h2, fun b hb => (h3 b hb).imp id (fun q => Nat.le_trans HB.out.size q)⟩); clear h1 h2 h3))
  refine bodyPost_end (results_none rfl _ _ _) rfl ?_
  exact ⟨rfl, HL.out⟩
set_option maxHeartbeats 4000000 in
set_option maxRecDepth 100000 in
theorem child_any {W : World} {g N : Nat} {m : Option Nat} {p : Int → Int → Bool} {f t : Int} (wf : Wf f) (wt : Wf t) {s : Nat} (hs : s < Bt.top) (hN : N ≤ 1000000) (hg0 : g ≠ 0) (hm0 : m ≠ some 0) (hT : Tb.Tab W) (hA : At W g m N p) :
    Calls Tryd.prog 18 #[.pointer (some ⟨g, 0, none⟩), .int .i64 f, .int .i64 t, .int .u64 (s : Int)] W fun e w' => e = .returned (.tuple #[]) ∧ Left W w' g (N + 64) m (adds (clr p t) t (Gr.low (ofS p f &&& s) 64)) := by
  have HO := Aside0.mk (show Calls Tryd.prog 11 #[.pointer (some ⟨g, 0, none⟩), .int .i64 f] W fun e w' => e = .returned (.int .u64 ((ofS p f : Nat) : Int)) ∧ Below W.heap.size W w' from of_any wf hA)
  have e1 : Go.bits .and .u64 ((ofS p f : Nat) : Int) (s : Int) = ((ofS p f &&& s : Nat) : Int) := Bt.and_nat (ofS_top p f) hs
  have HCL := Aside0.mk (fun w1 (hb : Below W.heap.size W w1) => clear_any wt (Tb.below hT hb) (hA.below hb))
  have HX := Aside0.mk (fun w1 (hc : Chg (fun k => m = some k) W w1) (h1 : At w1 g m N (clr p t)) => add_any wt (s := ofS p f &&& s) (Bt.lt_and hs) hN hg0 (Tab_chg hT (hc.mono (fun k hk => .inr hk)) hg0 hm0) h1)
  clear hA hT wt
  generalize ofS p f = F at *
  generalize F &&& s = F2 at *
  go_enter Tryd.func18, Tryd.ntmps18
  go_wp2_with (first
    | (go_at_call 11; (refine HO.out.mono ?_); rintro e w2 ⟨rfl, hb⟩; have HB := Aside0.mk hb; clear hb)
    | (go_at_call 21; (refine (HCL.out _ HB.out).mono ?_); rintro e w3 ⟨rfl, h1, h2⟩; have HA3 := Aside0.mk h1; have HC3 := Aside0.mk ((Chg.of_below HB.out).trans h2); clear h1 h2)
    | (go_at_call 28; (refine (HX.out _ HC3.out HA3.out).mono ?_); rintro e w4 ⟨rfl, m', h1, h2, h3⟩; have HL := Aside0.mk (Left.step (HC3.out.mono (fun k hk => .inr hk)) (fun b hb => .inl hb) (show Left _ w4 g (N + 64) m (adds (clr p t) t (Gr.low F2 64)) from ⟨m', h1, h2, h3⟩) (Nat.le_refl _)); clear h1 h2 h3))
  refine bodyPost_end (results_none rfl _ _ _) rfl ?_
  exact ⟨rfl, HL.out⟩
end Go.Proofs.YtjcjhmnfknenlaaDoor.Rt
