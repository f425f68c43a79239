/- One call upon a log, as the law makes it (do). Conditions: none. -/
import Derived.Test.YtakbhnfmimnbhaaRn16
import Derived.Test.YtakbhnfmimnbhaaRn17
namespace Go.Proofs.Ytakbhnfmimnbhaa.Rn
open Go.RowKit Go.Proofs.YtakbhnfmimnbhaaW.PrintWords Go.Proofs.YtakbhnfmimnbhaaW.PrintLast Go.Proofs.YtakbhnfmimnbhaaW.PrintMore
set_option linter.unusedVariables false
set_option linter.unusedSimpArgs false

/-- What is known of a log behind i calls. -/
structure GI (i : Nat) (A : La) : Prop where
  i50 : i ≤ 110
  ul : A.u.length ≤ i
  gl : A.go.length ≤ i
  sr : Srt A.go
  bd : Bnd A.go
  vl : ∀ k, k < A.go.length → 0 ≤ (A.go.getD k (0, 0)).2 ∧ (A.go.getD k (0, 0)).2 ≤ i * 1099511627776
  ab : 0 ≤ A.ab ∧ A.ab ≤ i
  an : A.n ≤ 100000
/-- What a call makes of it. -/
def doL (A : La) (k o n : Int) : La :=
  if k = 0 then wrA A o n else if k = 1 then (if n < 1 then A else { A with go := gotR A.go o n }) else if k = 2 then (if n < 1 then A else { A with go := lostR A.go o n }) else ⟨A.n, A.fx, n, A.ab + 1, [], []⟩
section
variable {S : Nat → Prop} {W : World} {g : Nat} {vf vu vg : Value} {A : La}
theorem got_all {i : Nat} (h : Log S W g A) (hg : GI i A) {o n : Int} (ho : -1099511627776 ≤ o ∧ o ≤ 1099511627776) (hn : n ≤ 1099511627776) : Calls Try.prog 27 #[.pointer (some ⟨g, 0, none⟩), .int .i64 o, .int .i64 n] W fun e w' => e = .returned (.tuple #[]) ∧ Log (fun k => S k ∨ W.heap.size ≤ k) w' g (if n < 1 then A else { A with go := gotR A.go o n }) ∧ Chg S W w' := by
  obtain ⟨vf, vu, vg, hl⟩ := h
  have h60 := hg.i50
  by_cases c : n < 1
  · rw [if_pos c]
    refine (got_less hl o c).mono ?_
    rintro e w' ⟨rfl, rfl⟩
    exact ⟨rfl, ⟨vf, vu, vg, hl.mono fun k hk => .inl hk⟩, Chg.refl _ _⟩
  · rw [if_neg c]
    exact got_any hl (by have := hg.gl; omega) hg.sr hg.bd ho ⟨by omega, hn⟩ (fun k hk => ⟨(hg.vl k hk).1, by have := (hg.vl k hk).2; omega⟩)
theorem lost_all {i : Nat} (h : Log S W g A) (hg : GI i A) {o n : Int} (hn : n ≤ 1099511627776) : Calls Try.prog 28 #[.pointer (some ⟨g, 0, none⟩), .int .i64 o, .int .i64 n] W fun e w' => e = .returned (.tuple #[]) ∧ Log (fun k => S k ∨ W.heap.size ≤ k) w' g (if n < 1 then A else { A with go := lostR A.go o n }) ∧ Chg S W w' := by
  obtain ⟨vf, vu, vg, hl⟩ := h
  have h60 := hg.i50
  by_cases c : n < 1
  · rw [if_pos c]
    refine (lost_less hl o c).mono ?_
    rintro e w' ⟨rfl, rfl⟩
    exact ⟨rfl, ⟨vf, vu, vg, hl.mono fun k hk => .inl hk⟩, Chg.refl _ _⟩
  · rw [if_neg c]
    exact lost_any hl (by have := hg.gl; omega) ⟨by omega, hn⟩ (fun k hk => ⟨(hg.vl k hk).1, by have := (hg.vl k hk).2; omega⟩)
theorem Log.below {W' : World} (h : Log S W g A) (hb : Below W.heap.size W W') : Log S W' g A := by
  obtain ⟨vf, vu, vg, hl⟩ := h
  exact ⟨vf, vu, vg, hl.below hb⟩
set_option maxHeartbeats 8000000 in
set_option maxRecDepth 100000 in
theorem do_any {i : Nat} (h : Log S W g A) (hg : GI i A) {k o n : Int} (ho : -1099511627776 ≤ o ∧ o ≤ 1099511627776) (hn : n ≤ 1099511627776) : Calls Try.prog 24 #[.pointer (some ⟨g, 0, none⟩), .agg #[.int .i64 k, .int .i64 o, .int .i64 n]] W fun e w' => ∃ g', e = .returned (.pointer (some ⟨g', 0, none⟩)) ∧ Log (fun k => S k ∨ W.heap.size ≤ k) w' g' (doL A k o n) ∧ Chg S W w' := by
  have hu69 := Try.underlying69
  have HA := Aside0.mk h
  have HG := Aside0.mk hg
  have HO := Aside0.mk ho
  have HN := Aside0.mk hn
  clear h hg ho hn
  obtain ⟨A9, hA9⟩ : ∃ A9, A9 = doL A k o n := ⟨_, rfl⟩
  rw [← hA9]
  have HX := Aside0.mk hA9
  clear hA9
  go_enter Try.func24, Try.ntmps24
  go_upto_region 1 with ((with_reducible refine gate_dst (N := 3) rfl ?_); refine box_event ?hg (N := 3) ?hd (cs := #[.int .i64 k, .int .i64 o, .int .i64 n]) (t := 69) ?hr ?_; (case hd => rfl); (case hg => rfl); (case hr => first | (go_simp; done) | (go_simp; rfl)); intro gx hgx w1 hbox hb; have B1 := Aside0.mk hb; have X1 := Aside0.mk hbox; clear hbox hb hgx)
  have x0 : w1.cell? ⟨gx, 0, none⟩ = some (.int .i64 k) := (blk_cell X1.out 0).trans rfl
  have x1 : w1.cell? ⟨gx, 1, none⟩ = some (.int .i64 o) := (blk_cell X1.out 1).trans rfl
  have x2 : w1.cell? ⟨gx, 2, none⟩ = some (.int .i64 n) := (blk_cell X1.out 2).trans rfl
  have HA1 := Aside0.mk (HA.out.below B1.out)
  have HS1 := Aside0.mk B1.out.size
  have HW : Aside0 (∀ (w' : World) (g' : Nat) (A' : La), Log (fun k => S k ∨ w1.heap.size ≤ k) w' g' A' → Log (fun k => S k ∨ W.heap.size ≤ k) w' g' A') := ⟨fun w' g' A' ⟨a, b, c, hl⟩ => ⟨a, b, c, hl.mono fun k hk => hk.imp id fun q => by have := HS1.out; omega⟩⟩
  unfold doL at HX
  by_cases c0 : k = 0
  · rw [if_pos c0] at HX
    have e0 : (k == 0) = true := beq_iff_eq.2 c0
    obtain ⟨vf, vu, vg, hl⟩ := HA1.out
    have HL := Aside0.mk hl
    clear c0 hl
    go_wp2_with (go_at_call 10; (refine (wrote_any HL.out (by have h1 := HG.out.ul; have h2 := HG.out.i50; omega) o n).mono ?_); rintro e w2 ⟨rfl, h, hc⟩; have H2 := Aside0.mk h; have C2 := Aside0.mk hc; clear h hc)
    go_ret
    exact ⟨g, rfl, by rw [HX.out]; exact HW.out _ _ _ H2.out, (Chg.of_below B1.out).trans C2.out⟩
  · rw [if_neg c0] at HX
    have e0 : (k == 0) = false := beq_eq_false_iff_ne.2 c0
    by_cases c1 : k = 1
    · rw [if_pos c1] at HX
      have e1 : (k == 1) = true := beq_iff_eq.2 c1
      clear c0 c1
      go_wp2_with (go_at_call 27; (refine (got_all HA1.out HG.out HO.out HN.out).mono ?_); rintro e w2 ⟨rfl, h, hc⟩; have H2 := Aside0.mk h; have C2 := Aside0.mk hc; clear h hc)
      go_ret
      exact ⟨g, rfl, by rw [HX.out]; exact HW.out _ _ _ H2.out, (Chg.of_below B1.out).trans C2.out⟩
    · rw [if_neg c1] at HX
      have e1 : (k == 1) = false := beq_eq_false_iff_ne.2 c1
      by_cases c2 : k = 2
      · rw [if_pos c2] at HX
        have e2 : (k == 2) = true := beq_iff_eq.2 c2
        clear c0 c1 c2
        go_wp2_with (go_at_call 28; (refine (lost_all HA1.out HG.out HN.out).mono ?_); rintro e w2 ⟨rfl, h, hc⟩; have H2 := Aside0.mk h; have C2 := Aside0.mk hc; clear h hc)
        go_ret
        exact ⟨g, rfl, by rw [HX.out]; exact HW.out _ _ _ H2.out, (Chg.of_below B1.out).trans C2.out⟩
      · rw [if_neg c2] at HX
        have e2 : (k == 2) = false := beq_eq_false_iff_ne.2 c2
        obtain ⟨vf, vu, vg, hl⟩ := HA1.out
        have HL := Aside0.mk hl
        clear c0 c1 c2 hl
        go_wp2_with (go_at_call 33; (refine (again_any HL.out HG.out.an (by have h1 := HG.out.ab; have h2 := HG.out.i50; omega) n).mono ?_); rintro e w2 ⟨g', rfl, h, hc⟩; have H2 := Aside0.mk h; have C2 := Aside0.mk hc; clear h hc)
        go_ret
        obtain ⟨a, b, c, hl⟩ := H2.out
        exact ⟨g', rfl, by rw [HX.out]; exact HW.out _ _ _ ⟨a, b, c, hl.mono fun k hk => .inr hk⟩, Chg.of_below (below_step B1.out C2.out)⟩
end
end Go.Proofs.Ytakbhnfmimnbhaa.Rn
