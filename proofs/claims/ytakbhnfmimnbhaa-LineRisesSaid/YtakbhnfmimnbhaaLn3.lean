/- A Line in memory; find. Conditions: none. -/
import Derived.Test.YtakbhnfmimnbhaaLn2
import Derived.Test.YtakbhnfmimnbhaaTr1
namespace Go.Proofs.Ytakbhnfmimnbhaa.Tm
open Go.RowKit Go.Proofs.YtakbhnfmimnbhaaW.PrintWords
set_option linter.unusedVariables false
set_option linter.unusedSimpArgs false
section
variable {sh sh' : Shp} {W W' : World} {base g b n : Nat} {v : Value} {xs : List (Int × Int)} {p : Int → Option Int} {m : List (Int × Int)} {S : Nat → Prop}
theorem T.reshape (h : T sh W base g v b n xs p) (hg : W'.heap[g]? = some (.cells (sh'.C v (.map (some b))) sh'.ty (0, 0))) (hk : ∀ k, k ≠ g → W'.heap[k]? = W.heap[k]?) : T sh' W' base g v b n xs p := by
  refine ⟨hg, Kd.R_step h.hr (fun k hk1 _ => hk k (fun e => h.vne_g k hk1 e)), ?_, h.gb, h.bb⟩
  obtain ⟨D, ⟨es, cl, e1, e2⟩, h2⟩ := h.hm
  exact ⟨D, ⟨es, cl, (hk b h.gne.symm).trans e1, e2⟩, h2⟩
theorem T0.reshape (h : T0 sh W base g v) (hg : W'.heap[g]? = some (.cells (sh'.C v (.map none)) sh'.ty (0, 0))) (hk : ∀ k, k ≠ g → W'.heap[k]? = W.heap[k]?) : T0 sh' W' base g v :=
  ⟨hg, Kd.R_step h.hr (fun k hk1 _ => hk k (fun e => h.vne k hk1 e)), h.gb⟩
theorem TR.reshape (h : TR sh W base g n m S) (hg : ∀ v mm, W.heap[g]? = some (.cells (sh.C v mm) sh.ty (0, 0)) → W'.heap[g]? = some (.cells (sh'.C v mm) sh'.ty (0, 0))) (hk : ∀ k, k ≠ g → W'.heap[k]? = W.heap[k]?) : TR sh' W' base g n m S := by
  obtain ⟨xs, p, h1, h2, h3⟩ := h
  refine ⟨xs, p, ?_, h2, h3⟩
  rcases h1 with ⟨v, h, e1, e2, e3⟩ | ⟨gh, mm, c, b, h, e⟩
  · exact .inl ⟨v, h.reshape (hg _ _ h.hg) hk, e1, e2, e3⟩
  · exact .inr ⟨gh, mm, c, b, h.reshape (hg _ _ h.hg) hk, e⟩
theorem TR.blk (h : TR sh W base g n m S) : S g ∧ base ≤ g ∧ ∃ v mm, W.heap[g]? = some (.cells (sh.C v mm) sh.ty (0, 0)) := by
  obtain ⟨xs, p, h1, _, _⟩ := h
  rcases h1 with ⟨v, h, _, _, rfl⟩ | ⟨gh, mm, c, b, h, rfl⟩
  · exact ⟨.inl rfl, h.gb, _, _, h.hg⟩
  · exact ⟨.inl rfl, h.gb, _, _, h.hg⟩
end
end Go.Proofs.Ytakbhnfmimnbhaa.Tm
namespace Go.Proofs.Ytakbhnfmimnbhaa.Ln
open Go.RowKit Go.Proofs.Ytakbhnfmimnbhaa.PLineRises Go.Proofs.YtakbhnfmimnbhaaW.PrintWords Go.Proofs.YtakbhnfmimnbhaaW.PrintLast Go.Proofs.YtakbhnfmimnbhaaW.PrintMore
open Tm (Chg TR Shp)
set_option linter.unusedVariables false
set_option linter.unusedSimpArgs false

/-- A Line's block: its row, the timers' two cells, the last ticket. -/
def shL (vl : Value) (last : Int) : Shp where
  o := 1
  ty := 44
  C := fun v m => #[vl, v, m, .int .i64 last]
  get0 := fun _ _ => rfl
  get1 := fun _ _ => rfl
  set0 := fun _ _ _ => rfl
  set1 := fun _ _ _ => rfl
  ne := by decide
structure Lm (W : World) (base g : Nat) (vl : Value) (last : Int) (ws : List S48) (n : Nat) (m : List (Int × Int)) (S ok : Nat → Prop) : Prop where
  tr : TR (shL vl last) W base g n m S
  rw : k48.R 48 W base ok vl ws
  ap : ∀ k, ok k → ¬ S k
section
variable {W W' : World} {base g n : Nat} {vl : Value} {last : Int} {ws : List S48} {m : List (Int × Int)} {S ok : Nat → Prop}
theorem Lm.blk (h : Lm W base g vl last ws n m S ok) : ∃ v mm, W.heap[g]? = some (.cells #[vl, v, mm, .int .i64 last] 44 (0, 0)) := by
  obtain ⟨_, _, v, mm, hb⟩ := h.tr.blk
  exact ⟨v, mm, hb⟩
theorem Lm.below (h : Lm W base g vl last ws n m S ok) (hb : Below W.heap.size W W') : Lm W' base g vl last ws n m S ok := ⟨h.tr.below hb, Kd.R_below h.rw hb, h.ap⟩
theorem Lm.kept {S2 : Nat → Prop} (h : Lm W base g vl last ws n m S ok) (hc : Chg S2 W W') (hs : ∀ k, S k → ¬ S2 k) (ho : ∀ k, ok k → ¬ S2 k) : Lm W' base g vl last ws n m S ok :=
  ⟨h.tr.kept hc hs, Kd.R_step h.rw (fun k hk hlt => hc.block k hlt (ho k hk)), h.ap⟩
theorem Lm.cl (h : Lm W base g vl last ws n m S ok) : W.cell? ⟨g, 0, none⟩ = some vl := by
  obtain ⟨v, mm, hb⟩ := h.blk
  exact (blk_cell hb 0).trans rfl
theorem Lm.clast (h : Lm W base g vl last ws n m S ok) : W.cell? ⟨g, 3, none⟩ = some (.int .i64 last) := by
  obtain ⟨v, mm, hb⟩ := h.blk
  exact (blk_cell hb 3).trans rfl
theorem Lm.fz (h : Lm W base g vl last ws n m S ok) (i : Nat) : W.frozen? ⟨g, i, none⟩ = false := by
  obtain ⟨v, mm, hb⟩ := h.blk
  exact blk_frozen hb i
theorem Lm.lt (h : Lm W base g vl last ws n m S ok) : g < W.heap.size := by
  obtain ⟨v, mm, hb⟩ := h.blk
  exact blk_lt hb
set_option maxHeartbeats 4000000 in
set_option maxRecDepth 100000 in
theorem find_any (h : Lm W base g vl last ws n m S ok) (hl : ws.length ≤ 100000) (o : Int) : Calls Try.prog 52 #[.pointer (some ⟨g, 0, none⟩), .int .i64 o] W fun e w' => e = .returned (.int .i64 (plc (fnd ws o))) ∧ Below W.heap.size W w' := by
  have hu44 := Try.underlying44
  have hu37 := Try.underlying37
  have HH := Aside0.mk h
  have HL := Aside0.mk hl
  obtain ⟨A, c, rfl⟩ := Kd.R_slice h.rw
  have HC := Aside0.mk (Kd.R_reads' h.rw).2.2
  obtain ⟨N, hN⟩ : ∃ N, N = ws.length := ⟨_, rfl⟩
  rw [← hN] at HC HH
  have HN := Aside0.mk hN
  clear h hl hN
  go_enter Try.func52, Try.ntmps52
  go_upto_region 1 with (((with_reducible refine gate_dst (N := 3) rfl ?_); refine box_event ?hg (N := 3) ?hd (cs := #[.int .i64 o]) (t := 3) ?hr ?_; (case hd => rfl); (case hg => rfl); (case hr => first | (go_simp; done) | (go_simp; rfl)); intro gx hg w1 hbox hb; have HB := Aside0.mk hb; have X := Aside0.mk hbox; clear hbox hb hg))
  have y0 := (HH.out.below HB.out).cl
  go_wp2_with (go_at_call 83; (refine (idx_any (Kd.C_below HC.out HB.out) HN.out (by have := HL.out; have := HN.out; omega) ((blk_cell X.out 0).trans rfl)).mono ?_); rintro e w2 ⟨rfl, hb⟩; have HB2 := Aside0.mk (below_step HB.out hb); clear hb)
  go_ret
  exact ⟨rfl, HB2.out⟩
end
end Go.Proofs.Ytakbhnfmimnbhaa.Ln
