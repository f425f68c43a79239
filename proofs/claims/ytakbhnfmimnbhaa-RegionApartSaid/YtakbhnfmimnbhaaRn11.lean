/- lives: one log, by calls whose answers the page fixes. Conditions: none. -/
import Derived.Test.YtakbhnfmimnbhaaRn10
import Derived.Great.BuildSlice
namespace Go.Proofs.Ytakbhnfmimnbhaa.Rn
open Go.RowKit Go.Proofs.YtakbhnfmimnbhaaW.PrintWords Go.Proofs.YtakbhnfmimnbhaaW.PrintLast Go.Proofs.YtakbhnfmimnbhaaW.PrintMore
set_option linter.unusedVariables false
set_option linter.unusedSimpArgs false

def fr1 : List Int := [0, 0, 1, 0, 0, 0, 0, 0, 0, 0, 0, 0, 0, 0, 0, 0, 0, 0, 0, 0, 0, 0, 0, 0, 0, 0, 0]
def z1 : Value := .agg (nums .i64 fr1).toArray
theorem built110 : Try.prog.built 110 [(2, .int .i64 1)] = some (nums .i64 fr1).toArray := by kernel_rfl
theorem fill110 : Instr.fill (fun i => some (i * 27, 27)) ((Array.range (1 * 27)).map (z110.cells[· % z110.cells.size]!)) #[(0, z1)].toList = some (nums .i64 fr1).toArray := by kernel_rfl
theorem run_fr (w : World) : (Instr.buildSlice 59 1 #[(0, z1)]).run Try.prog w = .ok (.slice (some ⟨w.heap.size, 0, none⟩) 1 1) (w.alloc (.cells (nums .i64 fr1).toArray 110)) := by
  have h := info110z
  cases hie : Try.prog.info? 110 with
  | none => simp [hie] at h
  | some ie =>
    simp only [hie, Option.map_some, Option.some.injEq, Prod.mk.injEq] at h
    refine run_buildSlice w 59 110 1 _ _ ie z110 Try.underlying59 hie h.1 (by rw [h.2.1]; decide) (by rw [h.2.1]; decide) ?_
    rw [h.2.1]
    exact fill110
theorem rd_alloc (W : World) (xs : List Value) (n : Nat) (h : xs.length = n * 27) : RdC (W.alloc (.cells xs.toArray 110)) (some ⟨W.heap.size, 0, none⟩) n 27 xs := ⟨h, fun _ => ⟨_, rfl, fun j u hj => by
  rw [add_plain]
  have hb : (W.alloc (.cells xs.toArray 110)).heap[W.heap.size]? = some (.cells xs.toArray 110 (0, 0)) := Array.getElem?_push_size
  exact (blk_cell hb j).trans (by rw [List.getElem?_toArray]; exact hj)⟩⟩
theorem list_b110 {ops : Array Oper} {rest : List Oper} {o : Oper} {a : Act} {w : World} {Q : Exit → Act → World → Prop} (hg : o.guard = none) (ho : o.op = .build 110 #[(2, .const (.int .i64 1))]) (h : wpList Try.prog ops Q rest (a.put o.dst z1) w) : wpList Try.prog ops Q (o :: rest) a w := by
  refine wpList_plain hg fun K hK => ?_
  unfold Oper.wp execOp
  simp only [ho, List.map_toArray, List.map_cons, List.map_nil, Act.eval, Sem.run_bind, run_build w 110 _ _ built110, Result.andThen_ok]
  exact hK _ _ h
theorem list_s110 {ops : Array Oper} {rest : List Oper} {o : Oper} {a : Act} {w : World} {Q : Exit → Act → World → Prop} (hg : o.guard = none) (x : Operand) (ho : o.op = .buildSlice 59 1 #[(0, x)]) (hx : a.eval x = z1) (h : wpList Try.prog ops Q rest (a.put o.dst (.slice (some ⟨w.heap.size, 0, none⟩) 1 1)) (w.alloc (.cells (nums .i64 fr1).toArray 110))) : wpList Try.prog ops Q (o :: rest) a w := by
  refine wpList_plain hg fun K hK => ?_
  unfold Oper.wp execOp
  simp only [ho, List.map_toArray, List.map_cons, List.map_nil, hx, Sem.run_bind, run_fr w, Result.andThen_ok]
  exact hK _ _ h
section
variable {W0 W : World} {g : Nat} {A : La}
/-- A log all of whose blocks are new since W0. -/
def Nw (W0 W : World) (g : Nat) (A : La) : Prop := Log (fun k => W0.heap.size ≤ k) W g A ∧ Below W0.heap.size W0 W
theorem nw_begin (hb : Below W0.heap.size W0 W) {Af : Option Addr} {n c : Nat} {fx : List Value} (hr : RdC W Af n 27 fx) (h1 : ∀ x ∈ fx, x.oneCell' = true) (hn : n ≤ 100000) (nm : Int) : Calls Try.prog 9 #[.slice Af n c, .int .i64 nm] W fun e w' => ∃ g, e = .returned (.pointer (some ⟨g, 0, none⟩)) ∧ Nw W0 w' g ⟨n, fx, nm, 0, [], []⟩ := by
  refine (begin_any hr h1 hn nm).mono ?_
  rintro e w' ⟨g, rfl, ⟨vf, vu, vg, hl⟩, hb'⟩
  exact ⟨g, rfl, ⟨vf, vu, vg, hl.mono fun k hk => Nat.le_trans hb.size hk⟩, below_step hb hb'⟩
theorem nw_wrote (h : Nw W0 W g A) (hl : A.u.length ≤ 1000) (c x : Int) : Calls Try.prog 10 #[.pointer (some ⟨g, 0, none⟩), .int .i64 c, .int .i64 x] W fun e w' => e = .returned (.tuple #[]) ∧ Nw W0 w' g (wrA A c x) := by
  obtain ⟨⟨vf, vu, vg, hL⟩, hb⟩ := h
  refine (wrote_any hL hl c x).mono ?_
  rintro e w' ⟨rfl, ⟨vf, vu, vg, hl⟩, hc⟩
  refine ⟨rfl, ⟨vf, vu, vg, hl.mono fun k hk => ?_⟩, hc.below hb hb.size fun k hk => hk⟩
  rcases hk with hk | hk
  · exact hk
  · exact Nat.le_trans hb.size hk
theorem nw_got0 (h : Nw W0 W g A) (h0 : A.go = []) {o n : Int} (ho : -1099511627776 ≤ o ∧ o ≤ 1099511627776) (hn : 1 ≤ n ∧ n ≤ 1099511627776) : Calls Try.prog 27 #[.pointer (some ⟨g, 0, none⟩), .int .i64 o, .int .i64 n] W fun e w' => e = .returned (.tuple #[]) ∧ Nw W0 w' g { A with go := [(o, n)] } := by
  obtain ⟨⟨vf, vu, vg, hL⟩, hb⟩ := h
  refine (got_any hL (by rw [h0]; decide) (by rw [h0]; intro i j _ h2; simp at h2) (by rw [h0]; intro i h2; simp at h2) ho hn (by rw [h0]; intro i h2; simp at h2)).mono ?_
  rintro e w' ⟨rfl, ⟨vf, vu, vg, hl⟩, hc⟩
  rw [h0] at hl
  refine ⟨rfl, ⟨vf, vu, vg, hl.mono fun k hk => ?_⟩, hc.below hb hb.size fun k hk => hk⟩
  rcases hk with hk | hk
  · exact hk
  · exact Nat.le_trans hb.size hk
theorem nw_undo (h : Nw W0 W g A) (hl : A.u.length ≤ 1000) : Calls Try.prog 11 #[.pointer (some ⟨g, 0, none⟩)] W fun e w' => ∃ v, e = .returned v ∧ PR w' W0.heap.size v A.u.reverse ∧ Nw W0 w' g A ∧ Below W.heap.size W w' := by
  obtain ⟨⟨vf, vu, vg, hL⟩, hb⟩ := h
  refine (undo_any hL hl).mono ?_
  rintro e w' ⟨v, rfl, hp, hb'⟩
  exact ⟨v, rfl, hp.weaken hb.size, ⟨⟨vf, vu, vg, hL.below hb'⟩, below_step hb hb'⟩, hb'⟩
theorem nw_held (h : Nw W0 W g A) (hl : A.go.length ≤ 1000) : Calls Try.prog 29 #[.pointer (some ⟨g, 0, none⟩)] W fun e w' => ∃ v, e = .returned v ∧ PR w' W0.heap.size v A.go ∧ Nw W0 w' g A ∧ Below W.heap.size W w' := by
  obtain ⟨⟨vf, vu, vg, hL⟩, hb⟩ := h
  refine (held_any hL hl).mono ?_
  rintro e w' ⟨v, rfl, hp, hb'⟩
  exact ⟨v, rfl, hp.weaken hb.size, ⟨⟨vf, vu, vg, hL.below hb'⟩, below_step hb hb'⟩, hb'⟩
end
theorem PR.two {W : World} {b : Nat} {v : Value} {p q : Int × Int} (h : PR W b v [p, q]) : ∃ g c, v = .slice (some ⟨g, 0, none⟩) 2 c ∧ W.cell? ⟨g, 0, none⟩ = some (.int .i64 p.1) ∧ W.cell? ⟨g, 1, none⟩ = some (.int .i64 p.2) ∧ W.cell? ⟨g, 2, none⟩ = some (.int .i64 q.1) ∧ W.cell? ⟨g, 3, none⟩ = some (.int .i64 q.2) := by
  obtain ⟨A, c, rfl, ⟨_, _, ho⟩ | ⟨g, rfl, _⟩⟩ := h.open
  · cases ho
  · have a := h.at (j := 0) (by simp)
    have b := h.at (j := 1) (by simp)
    exact ⟨g, c, rfl, a.1, a.2, b.1, b.2⟩
theorem PR.one {W : World} {b : Nat} {v : Value} {p : Int × Int} (h : PR W b v [p]) : ∃ g c, v = .slice (some ⟨g, 0, none⟩) 1 c ∧ W.cell? ⟨g, 0, none⟩ = some (.int .i64 p.1) ∧ W.cell? ⟨g, 1, none⟩ = some (.int .i64 p.2) := by
  obtain ⟨A, c, rfl, ⟨_, _, ho⟩ | ⟨g, rfl, _⟩⟩ := h.open
  · cases ho
  · have a := h.at (j := 0) (by simp)
    exact ⟨g, c, rfl, a.1, a.2⟩
theorem own_row_some {W : World} {b n : Nat} {v : Value} {xs : List Value} (h : W.ownsRow b 110 27 v n xs) (hn : 0 < n) : ∃ g c, v = .slice (some ⟨g, 0, none⟩) n c := by
  obtain ⟨A, c, rfl⟩ := own_slice h
  rcases h.2 with ⟨_, hz⟩ | ⟨g, cap, cur, h', _⟩
  · omega
  · injection h' with h1
    exact ⟨g, c, by rw [h1]⟩
def al : La := ⟨1, nums .i64 fr1, 4, 0, [(7, 1), (8, 2)], [(3, 2)]⟩
set_option maxHeartbeats 16000000 in
set_option maxRecDepth 100000 in
theorem lives_any (W : World) : Calls Try.prog 12 #[] W fun e w' => e = .returned (.bool true) ∧ Below W.heap.size W w' := by
  have hu59 := Try.underlying59
  have hu110 := Try.underlying110
  have hu108 := Try.underlying108
  have hu30 := Try.underlying30
  have hu33 := Try.underlying33
  have hrd := Aside0.mk (rd_alloc W (nums .i64 fr1) 1 rfl)
  go_enter Try.func12, Try.ntmps12
  go_upto_region 2 with (first
    | (refine list_b110 rfl rfl ?_)
    | (refine list_s110 rfl (.tmp 4) rfl rfl ?_)
    | (go_at_call 9; (refine (nw_begin (below_alloc (Below.refl _ _) _) hrd.out (nums_one _) (by decide) 4).mono ?_); rintro e w1 ⟨g, rfl, h⟩; have H1 := Aside0.mk h; clear h))
  go_upto_region 6 with (first
    | (go_at_call 10; (refine (nw_wrote H1.out (by decide) 7 1).mono ?_); rintro e w2 ⟨rfl, h⟩; have H2 := Aside0.mk h; clear h H1)
    | (go_at_call 10; (refine (nw_wrote H2.out (by decide) 8 2).mono ?_); rintro e w3 ⟨rfl, h⟩; have H3 := Aside0.mk h; clear h H2)
    | (go_at_call 10; (refine (nw_wrote H3.out (by decide) 7 3).mono ?_); rintro e w4 ⟨rfl, h⟩; have H4 := Aside0.mk h; clear h H3)
    | (go_at_call 27; (refine (nw_got0 H4.out (by rfl) (by decide) (by decide)).mono ?_); rintro e w5 ⟨rfl, h⟩; have H5 := Aside0.mk (show Nw W w5 g al from h); clear h H4))
  go_upto_region 7 with (first
    | (go_at_call 11; (refine (nw_undo H5.out (by decide)).mono ?_); rintro e w6 ⟨v1, rfl, hp, h, hb⟩; have P1 := Aside0.mk (show PR w6 W.heap.size v1 [(8, 2), (7, 1)] from hp); have H6 := Aside0.mk h; clear h H5 hp hb)
    | (go_at_call 29; (refine (nw_held H6.out (by decide)).mono ?_); rintro e w7 ⟨v2, rfl, hp, h, hb⟩; have P2 := Aside0.mk (show PR w7 W.heap.size v2 [(3, 2)] from hp); have P3 := Aside0.mk (P1.out.below hb); have H7 := Aside0.mk h; clear h H6 hp hb P1))
  obtain ⟨g1, c1, rfl, a0, a1, a2, a3⟩ := P3.out.two
  obtain ⟨g2, c2, rfl, b0, b1⟩ := P2.out.one
  obtain ⟨⟨vf, vu, vg, hl⟩, hb⟩ := H7.out
  have HL := Aside0.mk hl
  have HB := Aside0.mk hb
  clear hl hb P3 P2 H7 hrd
  go_wp2_with (first
    | (go_at_call 31; (refine (number_any HL.out).mono ?_); rintro e w8 ⟨rfl, rfl⟩)
    | (go_at_call 33; (refine (again_any HL.out (by decide) (by decide) 5).mono ?_); rintro e w9 ⟨g', rfl, ⟨vf', vu', vg', hl⟩, hb⟩; have HL9 := Aside0.mk hl; have HB9 := Aside0.mk hb; clear hl hb)
    | (go_at_call 30; (refine (frames_any HL9.out (is := fr1) rfl (by decide) (by decide)).mono ?_); rintro e w10 ⟨v', rfl, ho, hb⟩; have HB10 := Aside0.mk hb; obtain ⟨g3, c3, rfl⟩ := own_row_some ho (by decide); have k11 : w10.cell? ⟨g3, 11, none⟩ = some (.int .i64 1) := (own_at ho (j := 11) (by rfl)).1; clear ho hb))
  go_ret
  exact ⟨rfl, below_step (below_step HB.out HB9.out) HB10.out⟩
end Go.Proofs.Ytakbhnfmimnbhaa.Rn
