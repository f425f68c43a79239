/- find: where an object stands among pairs. Conditions: none. -/
import Derived.Test.YtakbhnfmimnbhaaRn1
import Derived.Test.YtakbhnfmimnbhaaProg
import Derived.Deep.LoopGhost
import Derived.Shelf.Abstract
namespace Go.Proofs.Ytakbhnfmimnbhaa.Rn
open Go.RowKit Go.Proofs.YtakbhnfmimnbhaaW.PrintWords Go.Proofs.YtakbhnfmimnbhaaW.PrintLast Go.Proofs.YtakbhnfmimnbhaaW.PrintMore
set_option linter.unusedVariables false
set_option linter.unusedSimpArgs false

theorem pred_any (W : World) (b : Nat) (x y o : Int) (hc : W.cell? ⟨b, 0, none⟩ = some (.int .i64 o)) : Calls Try.prog 82 #[.agg #[.int .i64 x, .int .i64 y], .pointer (some ⟨b, 0, none⟩)] W fun e w' => e = .returned (.bool (x == o)) ∧ Below W.heap.size W w' := by
  have hu33 := Try.underlying33
  go_enter Try.func82, Try.ntmps82
  go_upto_region 1 with (((with_reducible refine gate_dst (N := 2) rfl ?_); refine box_event ?hg (N := 2) ?hd (cs := #[.int .i64 x, .int .i64 y]) (t := 33) ?hr ?_; (case hd => rfl); (case hg => rfl); (case hr => first | (go_simp; done) | (go_simp; rfl)); intro g hg w1 hbox hb; have HB := Aside0.mk hb; have X := Aside0.mk hbox; clear hbox hb hg))
  have z0 : w1.cell? ⟨g, 0, none⟩ = some (.int .i64 x) := (blk_cell X.out 0).trans rfl
  have z1 : w1.cell? ⟨b, 0, none⟩ = some (.int .i64 o) := (HB.out.cell (World.block_lt_of_cell? _ _ hc)).trans hc
  clear hc
  go_wp2
  go_ret
  exact ⟨rfl, HB.out⟩
set_option maxHeartbeats 4000000 in
theorem idx_any {W : World} {v : Value} {l : List (Int × Int)} {b0 b : Nat} {o : Int} (hr : PR W b0 v l) (hl : l.length ≤ 1000000) (hc : W.cell? ⟨b, 0, none⟩ = some (.int .i64 o)) : Calls Try.prog 81 #[v, .func (.func 82) #[] #[.pointer (some ⟨b, 0, none⟩)]] W fun e w' => e = .returned (.int .i64 (plc (fnd l o))) ∧ Below W.heap.size W w' := by
  have eg := enters_of Try.func82 (by kernel_rfl) rfl
  have hu33 := Try.underlying33
  have hu30 := Try.underlying30
  have HR := Aside0.mk hr
  obtain ⟨A, c, rfl, ho⟩ := hr.open
  have HO := Aside0.mk ho
  have HC := Aside0.mk hc
  obtain ⟨n, hn⟩ : ∃ n, n = l.length := ⟨_, rfl⟩
  rw [← hn] at HR ⊢
  have HN := Aside0.mk hn
  have HL := Aside0.mk hl
  clear hr ho hc hn hl
  go_enter Try.func81, Try.ntmps81
  go_wp2
  go_loopg [5, 8] n (fun kq _ v8 w' => ∃ (i : Nat), v8 = .int .i64 (i : Int) ∧ Aside0 (i + kq = n) ∧ Aside0 (Below W.heap.size W w') ∧ Aside0 (∀ j, j < i → (l.getD j (0, 0)).1 ≠ o))
  case atStart => exact ⟨0, rfl, ⟨by omega⟩, ⟨Below.refl _ _⟩, ⟨fun j hj => by omega⟩⟩
  case round =>
    obtain ⟨i, rfl, HI, HB, HF⟩ := hrel
    rcases gk with _ | k1
    · have d1 : decide ((i : Int) < (n : Int)) = false := decide_eq_false (by have := HI.out; omega)
      have d2 : decide (i < n) = false := decide_eq_false (by have := HI.out; omega)
      go_wp2
      go_ret
      refine ⟨?_, HB.out⟩
      rw [fnd_none (fun j hj => HF.out j (by have := HI.out; have := HN.out; omega))]
      rfl
    · have hil : i < n := by have := HI.out; omega
      have HIL := Aside0.mk (show i < l.length from by rw [← HN.out]; exact hil)
      have d1 : decide ((i : Int) < (n : Int)) = true := decide_eq_true (by omega)
      have d2 : decide (i < n) = true := decide_eq_true hil
      have q1 : (0 ≤ (i : Int)) = True := eq_true (by omega)
      have q2 : ((i : Int) < (n : Int)) = True := eq_true (by omega)
      clear hil
      obtain ⟨g, hg⟩ : ∃ g, A = some ⟨g, 0, none⟩ := by
        rcases HO.out with ⟨_, _, h⟩ | ⟨g, h, _⟩
        · have := HIL.out; rw [h] at this; simp at this
        · exact ⟨g, h⟩
      subst hg
      have hat := (show PR wr b0 (.slice (some ⟨g, 0, none⟩) l.length c) l from by rw [← HN.out]; exact HR.out.below HB.out).at HIL.out
      have y0 := hat.1
      have y1 := hat.2
      have HCW := Aside0.mk (show wr.cell? ⟨b, 0, none⟩ = some (.int .i64 o) from (HB.out.cell (World.block_lt_of_cell? _ _ HC.out)).trans HC.out)
      clear hat
      have ew : Aside0 (wrap64 ((i : Int) + 1) = (i : Int) + 1) := ⟨by have h2 := HIL.out; have h3 := HL.out; unfold wrap64; omega⟩
      by_cases he : (l.getD i (0, 0)).1 = o
      · have HE := Aside0.mk (fnd_some HIL.out he HF.out)
        have d3 : ((l.getD i (0, 0)).1 == o) = true := beq_iff_eq.2 he
        clear he
        generalize (l.getD i (0, 0)).1 = x at *
        generalize (l.getD i (0, 0)).2 = y at *
        go_wp2_with (fail)
        refine (pred_any _ b x y o HCW.out).mono ?_
        rw [d3]
        rintro e w2 ⟨rfl, hb⟩
        have HB2 := Aside0.mk (below_step HB.out hb)
        clear hb
        go_wp2
        go_ret
        exact ⟨by rw [HE.out]; rfl, HB2.out⟩
      · have HF2 := Aside0.mk (show ∀ j, j < i + 1 → (l.getD j (0, 0)).1 ≠ o from fun j hj => by
          by_cases e : j = i
          · rw [e]; exact he
          · exact HF.out j (by omega))
        have d3 : ((l.getD i (0, 0)).1 == o) = false := beq_eq_false_iff_ne.2 he
        clear he HF
        generalize (l.getD i (0, 0)).1 = x at y0 y1 d3
        generalize (l.getD i (0, 0)).2 = y at y0 y1
        go_wp2_with (fail)
        refine (pred_any _ b x y o HCW.out).mono ?_
        rw [d3]
        rintro e w2 ⟨rfl, hb⟩
        have HB2 := Aside0.mk (below_step HB.out hb)
        clear hb
        go_wp2
        go_roundg k1
        case measure => omega
        case rel => exact ⟨i + 1, by rw [ew.out]; simp, ⟨by have := HI.out; omega⟩, HB2, HF2⟩
theorem find_any {W : World} {v : Value} {l : List (Int × Int)} {b0 : Nat} {o : Int} (hr : PR W b0 v l) (hl : l.length ≤ 1000000) : Calls Try.prog 49 #[v, .int .i64 o] W fun e w' => e = .returned (.int .i64 (plc (fnd l o))) ∧ Below W.heap.size W w' := by
  have HR := Aside0.mk hr
  have HL := Aside0.mk hl
  clear hr hl
  go_enter Try.func49, Try.ntmps49
  go_upto_region 1 with (((with_reducible refine gate_dst (N := 3) rfl ?_); refine box_event ?hg (N := 3) ?hd (cs := #[.int .i64 o]) (t := 3) ?hr ?_; (case hd => rfl); (case hg => rfl); (case hr => first | (go_simp; done) | (go_simp; rfl)); intro g hg w1 hbox hb; have HB := Aside0.mk hb; have X := Aside0.mk hbox; clear hbox hb hg))
  go_wp2_with (go_at_call 81; (refine (idx_any (HR.out.below HB.out) HL.out ((blk_cell X.out 0).trans rfl)).mono ?_); rintro e w2 ⟨rfl, hb⟩; have HB2 := Aside0.mk (below_step HB.out hb); clear hb)
  go_ret
  exact ⟨rfl, HB2.out⟩
end Go.Proofs.Ytakbhnfmimnbhaa.Rn
