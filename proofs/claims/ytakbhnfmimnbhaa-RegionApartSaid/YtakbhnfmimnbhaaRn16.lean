/- What was lost: Lost. Conditions: none. -/
import Derived.Test.YtakbhnfmimnbhaaRn15
namespace Go.Proofs.Ytakbhnfmimnbhaa.Rn
open Go.RowKit Go.Proofs.YtakbhnfmimnbhaaW.PrintWords Go.Proofs.YtakbhnfmimnbhaaW.PrintLast Go.Proofs.YtakbhnfmimnbhaaW.PrintMore
set_option linter.unusedVariables false
set_option linter.unusedSimpArgs false

def lostR (l : List (Int × Int)) (o n : Int) : List (Int × Int) := match fnd l o with
  | none => l
  | some i => if (l.getD i (0, 0)).2 - n ≤ 0 then l.eraseIdx i else l.set i ((l.getD i (0, 0)).1, (l.getD i (0, 0)).2 - n)
theorem getD_set_p (l : List (Int × Int)) (j : Nat) (p : Int × Int) (hj : j < l.length) : (l.set j p).getD j (0, 0) = p := by
  rw [List.getD_eq_getElem?_getD, List.getElem?_set, if_pos rfl, if_pos hj]
  rfl
section
variable {S : Nat → Prop} {W : World} {g : Nat} {vf vu vg : Value} {A : La}
theorem lost_less (h : Lg S W g vf vu vg A) (o : Int) {n : Int} (hn : n < 1) : Calls Try.prog 28 #[.pointer (some ⟨g, 0, none⟩), .int .i64 o, .int .i64 n] W fun e w' => e = .returned (.tuple #[]) ∧ w' = W := by
  have d1 : decide (n < 1) = true := decide_eq_true hn
  clear h hn
  go_enter Try.func28, Try.ntmps28
  go_wp2
  refine bodyPost_ret (results_none rfl _ _ _) rfl ?_
  exact ⟨rfl, rfl⟩
set_option maxHeartbeats 8000000 in
set_option maxRecDepth 100000 in
theorem lost_any (h : Lg S W g vf vu vg A) (hl : A.go.length ≤ 1000) {o n : Int} (hn : 1 ≤ n ∧ n ≤ 1099511627776) (hv : ∀ k, k < A.go.length → 0 ≤ (A.go.getD k (0, 0)).2 ∧ (A.go.getD k (0, 0)).2 ≤ 1000000000000000000) :
    Calls Try.prog 28 #[.pointer (some ⟨g, 0, none⟩), .int .i64 o, .int .i64 n] W fun e w' => e = .returned (.tuple #[]) ∧ Log (fun k => S k ∨ W.heap.size ≤ k) w' g { A with go := lostR A.go o n } ∧ Chg S W w' := by
  have hu33 := Try.underlying33
  have hu30 := Try.underlying30
  have d1 : decide (n < 1) = false := decide_eq_false (by omega)
  have hfd := find_any (o := o) h.gt (by omega)
  have y4 : W.cell? ⟨g, 4, none⟩ = some vg := (blk_cell h.hg 4).trans rfl
  have HA := Aside0.mk h
  have HL := Aside0.mk hl
  have HV := Aside0.mk hv
  have HN := Aside0.mk hn
  cases hf : fnd A.go o with
  | none =>
    have HX := Aside0.mk (show lostR A.go o n = A.go from by unfold lostR; rw [hf])
    rw [HX.out]
    rw [hf] at hfd
    have HFD := Aside0.mk (show Calls Try.prog 49 #[vg, .int .i64 o] W fun e w' => e = .returned (.int .i64 (-1)) ∧ Below W.heap.size W w' from hfd)
    clear h hl hv hn hf hfd HX
    go_enter Try.func28, Try.ntmps28
    go_wp2_with (go_at_call 49; (refine HFD.out.mono ?_); rintro e w1 ⟨rfl, hb⟩; have HB := Aside0.mk hb; clear hb)
    refine bodyPost_end (results_none rfl _ _ _) rfl ?_
    exact ⟨rfl, ⟨vf, vu, vg, (HA.out.below HB.out).mono (fun k hk => .inl hk)⟩, Chg.of_below HB.out⟩
  | some i =>
    have HF := Aside0.mk (fnd_lt hf)
    have HX := Aside0.mk (show lostR A.go o n = if (A.go.getD i (0, 0)).2 - n ≤ 0 then A.go.eraseIdx i else A.go.set i ((A.go.getD i (0, 0)).1, (A.go.getD i (0, 0)).2 - n) from by unfold lostR; rw [hf])
    obtain ⟨go9, hgo9⟩ : ∃ go9, go9 = lostR A.go o n := ⟨_, rfl⟩
    have HG9 := Aside0.mk (hgo9.trans HX.out)
    rw [← hgo9]
    clear hgo9
    rw [hf] at hfd
    have HFD := Aside0.mk (show Calls Try.prog 49 #[vg, .int .i64 o] W fun e w' => e = .returned (.int .i64 (i : Int)) ∧ Below W.heap.size W w' from hfd)
    clear h hl hv hn hf hfd HX
    have d3 : decide (0 ≤ (i : Int)) = true := decide_eq_true (by omega)
    go_enter Try.func28, Try.ntmps28
    go_upto_region 3 with (go_at_call 49; (refine HFD.out.mono ?_); rintro e w1 ⟨rfl, hb⟩; have HB := Aside0.mk hb; clear hb)
    have HA1 := Aside0.mk (HA.out.below HB.out)
    have HSZ := Aside0.mk HB.out.size
    clear y4 HFD d1 d3
    obtain ⟨A9, c9, rfl, hA9⟩ := HA1.out.gt.open
    obtain ⟨gb, hgb⟩ : ∃ gb, A9 = some ⟨gb, 0, none⟩ := by
      rcases hA9 with ⟨_, _, h0⟩ | ⟨gb, h0, _⟩
      · have := HF.out.1; rw [h0] at this; simp at this
      · exact ⟨gb, h0⟩
    subst hgb
    clear hA9
    have hat := HA1.out.gt.at HF.out.1
    have y4 : w1.cell? ⟨g, 4, none⟩ = some (.slice (some ⟨gb, 0, none⟩) A.go.length c9) := (blk_cell HA1.out.hg 4).trans rfl
    have y5 := hat.2
    have f5 := HA1.out.gt.frozen (i * 2 + 1)
    have p1 : (0 ≤ (i : Int)) = True := eq_true (by omega)
    have p2 : ((i : Int) < (A.go.length : Int)) = True := eq_true (by have := HF.out.1; omega)
    have ew : Aside0 (wrap64 ((A.go.getD i (0, 0)).2 - n) = (A.go.getD i (0, 0)).2 - n) := ⟨by have h1 := HV.out i HF.out.1; have h2 := HN.out; unfold wrap64; omega⟩
    have HLG := Aside0.mk (HA1.out.inGo HF.out.1 ((A.go.getD i (0, 0)).2 - n))
    clear hat
    have HES := Aside0.mk (show (A.go.set i ((A.go.getD i (0, 0)).1, (A.go.getD i (0, 0)).2 - n)).eraseIdx i = A.go.eraseIdx i from List.eraseIdx_set_eq)
    have HGS := Aside0.mk (getD_set_p A.go i ((A.go.getD i (0, 0)).1, (A.go.getD i (0, 0)).2 - n) HF.out.1)
    generalize (A.go.getD i (0, 0)).2 = z at *
    generalize (A.go.getD i (0, 0)).1 = zo at *
    obtain ⟨N, hN⟩ : ∃ N, N = A.go.length := ⟨_, rfl⟩
    rw [← hN] at y4 p2
    have HNN := Aside0.mk hN
    clear hN
    go_upto_region 4 with (fail)
    rw [ew.out]
    clear y4 y5 f5
    obtain ⟨zn, hzn⟩ : ∃ zn, zn = z - n := ⟨_, rfl⟩
    rw [← hzn] at HLG HES HGS HG9 ⊢
    clear ew hzn
    generalize w1.setCell ⟨gb, i * 2 + 1, none⟩ (.int .i64 zn) = w2 at *
    obtain ⟨go, hgo⟩ : ∃ go, go = A.go.set i (zo, zn) := ⟨_, rfl⟩
    rw [← hgo] at HLG HES HGS HG9
    have HLEN := Aside0.mk (show go.length = A.go.length from by rw [hgo, List.length_set])
    clear hgo
    have y4 : w2.cell? ⟨g, 4, none⟩ = some (.slice (some ⟨gb, 0, none⟩) N c9) := (blk_cell HLG.out.1.hg 4).trans (by rw [HNN.out]; rfl)
    have HPG := Aside0.mk (show PR w2 0 (.slice (some ⟨gb, 0, none⟩) N c9) go from by rw [HNN.out]; exact HLG.out.1.gt)
    have hp2 : PR w2 0 (.slice (some ⟨gb, 0, none⟩) go.length c9) go := by rw [HLEN.out, ← HNN.out]; exact HPG.out
    have y5 := (hp2.at (j := i) (by rw [HLEN.out]; exact HF.out.1)).2
    rw [HGS.out] at y5
    clear hp2 HGS
    by_cases hz : zn ≤ 0
    · rw [if_pos hz] at HG9
      have d1 : decide (zn ≤ 0) = true := decide_eq_true hz
      obtain ⟨I1, hI1⟩ : ∃ I1, I1 = i + 1 := ⟨_, rfl⟩
      have hdl := delete_any HPG.out (i := i) (by rw [HNN.out]; exact HF.out.1) (by have h1 := HNN.out; have h2 := HL.out; omega)
      rw [← hI1] at hdl
      have HDL := Aside0.mk hdl
      have ew : wrap64 ((i : Int) + 1) = (I1 : Int) := by have h1 := HF.out.1; have h2 := HL.out; unfold wrap64; omega
      have ew' : IntKind.i64.wrap ((i : Int) + 1) = (I1 : Int) := by have h1 := HF.out.1; have h2 := HL.out; rw [IntKind.wrap_i64]; omega
      clear hdl hI1 hz
      go_wp2_with (go_at_call 68; (refine HDL.out.mono ?_); rintro e w3 ⟨rfl, hp, hc⟩; have HP := Aside0.mk hp; have HC := Aside0.mk hc; have hx := (hc.block g (blk_lt HLG.out.1.hg) (fun z => HLG.out.1.ne.2.1 (by rw [z]; rfl))).trans HLG.out.1.hg; have cz := (blk_cell hx 4).trans rfl; have fz := blk_frozen hx 4; clear hp hc hx)
      refine bodyPost_end (results_none rfl _ _ _) rfl ?_
      have hs := HLG.out.1.setGo HC.out (fun k hk => by rw [hk]; rfl) HP.out (.inl rfl)
      rw [HES.out, ← HG9.out] at hs
      have hsz := HLG.out.2.size
      exact ⟨rfl, ⟨_, _, _, hs.1.mono (fun k hk => by
        rcases hk with hk | hk
        · exact .inl hk
        · exact .inr (by have := HSZ.out; omega))⟩, ((Chg.of_below HB.out).trans HLG.out.2).trans hs.2⟩
    · rw [if_neg hz] at HG9
      have d1 : decide (zn ≤ 0) = false := decide_eq_false hz
      clear hz
      go_wp2
      refine bodyPost_end (results_none rfl _ _ _) rfl ?_
      have hs := HLG.out
      rw [← HG9.out] at hs
      exact ⟨rfl, ⟨_, _, _, hs.1.mono (fun k hk => Or.inl hk)⟩, (Chg.of_below HB.out).trans hs.2⟩
end
end Go.Proofs.Ytakbhnfmimnbhaa.Rn
