/- The page's Begin and Again. Conditions: none. -/
import Derived.Test.YtakbhnfmimnbhaaRn22
namespace Go.Proofs.Ytakbhnfmimnbhaa.Rn
open Go.RowKit Go.Proofs.YtakbhnfmimnbhaaW.PrintWords Go.Proofs.YtakbhnfmimnbhaaW.PrintLast Go.Proofs.YtakbhnfmimnbhaaW.PrintMore
set_option linter.unusedVariables false
set_option linter.unusedSimpArgs false

theorem info64s : (Try.prog.info? 64).map (·.size) = some 5 := by kernel_rfl
theorem built64 (A : Option Addr) (n c : Nat) (m k : Int) : Try.prog.built 64 [(0, .slice A n c), (1, .int .i64 m), (2, .int .i64 k)] = some #[.slice A n c, .int .i64 m, .int .i64 k, .slice none 0 0, .slice none 0 0] := by kernel_rfl
theorem built64b (A : Option Addr) (n c : Nat) (m : Int) : Try.prog.built 64 [(0, .slice A n c), (1, .int .i64 m)] = some #[.slice A n c, .int .i64 m, .int .i64 0, .slice none 0 0, .slice none 0 0] := by kernel_rfl
theorem list_b64 {ops : Array Oper} {rest : List Oper} {o : Oper} {a : Act} {w : World} {Q : Exit → Act → World → Prop} {A : Option Addr} {n c : Nat} {m k : Int} (hg : o.guard = none) (x y z : Operand) (ho : o.op = .build 64 #[(0, x), (1, y), (2, z)]) (hx : a.eval x = .slice A n c) (hy : a.eval y = .int .i64 m) (hz : a.eval z = .int .i64 k) (h : wpList Try.prog ops Q rest (a.put o.dst (.agg #[.slice A n c, .int .i64 m, .int .i64 k, .slice none 0 0, .slice none 0 0])) w) : wpList Try.prog ops Q (o :: rest) a w := by
  refine wpList_plain hg fun K hK => ?_
  unfold Oper.wp execOp
  simp only [ho, List.map_toArray, List.map_cons, List.map_nil, hx, hy, hz, Sem.run_bind, run_build w 64 _ _ (built64 A n c m k), Result.andThen_ok]
  exact hK _ _ h
theorem list_b64b {ops : Array Oper} {rest : List Oper} {o : Oper} {a : Act} {w : World} {Q : Exit → Act → World → Prop} {A : Option Addr} {n c : Nat} {m : Int} (hg : o.guard = none) (x y : Operand) (ho : o.op = .build 64 #[(0, x), (1, y)]) (hx : a.eval x = .slice A n c) (hy : a.eval y = .int .i64 m) (h : wpList Try.prog ops Q rest (a.put o.dst (.agg #[.slice A n c, .int .i64 m, .int .i64 0, .slice none 0 0, .slice none 0 0])) w) : wpList Try.prog ops Q (o :: rest) a w := by
  refine wpList_plain hg fun K hK => ?_
  unfold Oper.wp execOp
  simp only [ho, List.map_toArray, List.map_cons, List.map_nil, hx, hy, Sem.run_bind, run_build w 64 _ _ (built64b A n c m), Result.andThen_ok]
  exact hK _ _ h
theorem row64_one {vf vu vg : Value} {x y : Int} (h1 : vf.oneCell' = true) (h2 : vu.oneCell' = true) (h3 : vg.oneCell' = true) : (#[vf, .int .i64 x, .int .i64 y, vu, vg] : Array Value).all (·.oneCell') = true := by
  have h4 : (Value.int .i64 x).oneCell' = true := rfl
  have h5 : (Value.int .i64 y).oneCell' = true := rfl
  simp only [Array.all_eq_true_iff_forall_mem]
  intro v hv
  simp only [List.mem_toArray, List.mem_cons, List.not_mem_nil, or_false] at hv
  rcases hv with rfl | rfl | rfl | rfl | rfl <;> assumption
theorem below_row {b g : Nat} {w0 w : World} (hb : Below b w0 w) (hg : b ≤ g) (cs : Array Value) : Below b w0 (w.setRow g cs) :=
  hb.trans ⟨rfl, rfl, rfl, by simp [World.setRow], fun k hk => setRow_other w g k cs (by omega)⟩
set_option maxHeartbeats 4000000 in
theorem rbegin_any (W : World) (A : Option Addr) (n c : Nat) (m : Int) : Calls Try.prog 22 #[.slice A n c, .int .i64 m] W fun e w' => e = .returned (.agg #[.slice A n c, .int .i64 m, .int .i64 0, .slice none 0 0, .slice none 0 0]) ∧ Below W.heap.size W w' := by
  have hu64 := Try.underlying64
  go_enter Try.func22, Try.ntmps22
  go_wp2_with (first
    | ((with_reducible refine gate_dst (N := 4) rfl ?_); refine box_event ?hg (N := 4) ?hd (cs := #[.slice none 0 0, .int .i64 0, .int .i64 0, .slice none 0 0, .slice none 0 0]) (t := 64) ?hr ?_; (case hd => rfl); (case hg => rfl); (case hr => first | (go_simp; done) | (go_simp; rfl)); intro g2 hg2 w2 hbox hb; have B2 := Aside0.mk hb; have X2 := Aside0.mk hbox; have G2 := Aside0.mk hg2; clear hbox hb hg2)
    | (refine list_b64b rfl (.tmp 5) (.tmp 6) rfl rfl rfl ?_)
    | (refine wpList_store_row rfl 64 (.tmp 4) (.tmp 7) rfl g2 _ rfl rfl 64 _ X2.out info64s rfl (row64_one rfl rfl rfl) ?_))
  refine bodyPost_ret (results_cell_row rfl _ _ g2 64 #[.slice A n c, .int .i64 m, .int .i64 0, .slice none 0 0, .slice none 0 0] (0, 0) _ rfl (setRow_heap _ _ _ _ _ _ X2.out) Try.underlying64 rfl info64s) rfl ?_
  exact ⟨rfl, below_row B2.out (by rw [G2.out]; exact Nat.le_refl _) _⟩
set_option maxHeartbeats 4000000 in
theorem ragain_any (W : World) (A : Option Addr) (n c : Nat) (vu vg : Value) (nm ab m : Int) (hab : 0 ≤ ab ∧ ab ≤ 1000000) : Calls Try.prog 64 #[.agg #[.slice A n c, .int .i64 nm, .int .i64 ab, vu, vg], .int .i64 m] W fun e w' => e = .returned (.agg #[.slice A n c, .int .i64 m, .int .i64 (ab + 1), .slice none 0 0, .slice none 0 0]) ∧ Below W.heap.size W w' := by
  have hu64 := Try.underlying64
  have ew : wrap64 (ab + 1) = ab + 1 := by unfold wrap64; omega
  have ew' : IntKind.i64.wrap (ab + 1) = ab + 1 := by rw [IntKind.wrap_i64]; omega
  clear hab
  go_enter Try.func64, Try.ntmps64
  go_upto_region 1 with (first
    | ((with_reducible refine gate_dst (N := 2) rfl ?_); refine box_event ?hg (N := 2) ?hd (cs := #[.slice A n c, .int .i64 nm, .int .i64 ab, vu, vg]) (t := 64) ?hr ?_; (case hd => rfl); (case hg => rfl); (case hr => first | (go_simp; done) | (go_simp; rfl)); intro g1 hg1 w1 hbox hb; have B1 := Aside0.mk hb; have X1 := Aside0.mk hbox; clear hbox hb hg1)
    | ((with_reducible refine gate_dst (N := 4) rfl ?_); refine box_event ?hg (N := 4) ?hd (cs := #[.slice none 0 0, .int .i64 0, .int .i64 0, .slice none 0 0, .slice none 0 0]) (t := 64) ?hr ?_; (case hd => rfl); (case hg => rfl); (case hr => first | (go_simp; done) | (go_simp; rfl)); intro g2 hg2 w2 hbox hb; have B2 := Aside0.mk hb; have X2 := Aside0.mk hbox; have G2 := Aside0.mk hg2; clear hbox hb hg2))
  have X3 := Aside0.mk (blk_below X1.out B2.out)
  have x0 : w2.cell? ⟨g1, 0, none⟩ = some (.slice A n c) := (blk_cell X3.out 0).trans rfl
  have x2 : w2.cell? ⟨g1, 2, none⟩ = some (.int .i64 ab) := (blk_cell X3.out 2).trans rfl
  go_wp2_with (first
    | (refine list_b64 (k := ab + 1) rfl (.tmp 6) (.tmp 7) (.tmp 10) rfl rfl rfl (by first | rfl | (simp [Act.eval, Act.put, ew, ew']; done)) ?_)
    | (refine wpList_store_row rfl 64 (.tmp 4) (.tmp 11) rfl g2 _ rfl rfl 64 _ X2.out info64s rfl (row64_one rfl rfl rfl) ?_))
  refine bodyPost_ret (results_cell_row rfl _ _ g2 64 #[.slice A n c, .int .i64 m, .int .i64 (ab + 1), .slice none 0 0, .slice none 0 0] (0, 0) _ rfl (setRow_heap _ _ _ _ _ _ X2.out) Try.underlying64 rfl info64s) rfl ?_
  exact ⟨rfl, below_row (below_step B1.out B2.out) (by rw [G2.out]; exact B1.out.size) _⟩
end Go.Proofs.Ytakbhnfmimnbhaa.Rn
