/- A heap of timers: cut, walked. Conditions: none. -/
import Derived.Test.YtakbhnfmimnbhaaTm4
namespace Go.Proofs.Ytakbhnfmimnbhaa.Tm
open Go.RowKit Go.Proofs.YtakbhnfmimnbhaaW.PrintWords Go.Proofs.YtakbhnfmimnbhaaW.PrintLast
set_option linter.unusedVariables false
set_option linter.unusedSimpArgs false
variable {sh : Shp}
section
variable {W : World} {base g b n gh c m : Nat} {xs : List (Int × Int)} {p : Int → Option Int}
set_option maxHeartbeats 4000000 in
set_option maxRecDepth 100000 in
theorem cut_any (h : T sh W base g (.slice (some ⟨gh, 0, none⟩) m c) b n xs p) (hw : Wx xs) {i : Nat} (hi : i < xs.length) (hn : n + 4 * xs.length < 50000000000) :
    Calls Try.prog 87 #[.pointer (some ⟨g, sh.o, none⟩), .int .i64 (i : Int)] W fun e w' => e = .returned (.tuple #[]) ∧
      Aside0 (T sh w' base g (.slice (some ⟨gh, 0, none⟩) (m - 1) c) b (n + 3 * xs.length + 4) (cutF i xs p).1 (cutF i xs p).2) ∧ Chg (St g b (.slice (some ⟨gh, 0, none⟩) m c)) W w' := by
  have hu28 := Try.underlying42
  have hu77 := Try.underlying145
  have HT := Aside0.mk h
  have c0 := h.c0
  have c1 := h.c1
  obtain ⟨a0, a1, f0, f1⟩ := h.at hi
  have hm := h.len
  have hc : m ≤ c := (Kd.R_reads' h.hr).2.1
  have p1 : ((0 : Int) ≤ (i : Int)) = True := eq_true (by omega)
  have p2 : ((i : Int) < (m : Int)) = True := eq_true (by omega)
  obtain ⟨y, hy⟩ : ∃ y, y = xs.getD i (0, 0) := ⟨_, rfl⟩
  obtain ⟨l, hl⟩ : ∃ l, l = m - 1 := ⟨_, rfl⟩
  obtain ⟨x, hx⟩ : ∃ x, x = xs.getD l (0, 0) := ⟨_, rfl⟩
  rw [← hy] at a0 a1
  have wy := Aside0.mk (show (Lit.int .i64 y.2).wf = true from by rw [hy]; exact hw i)
  have wx := Aside0.mk (show (Lit.int .i64 x.2).wf = true from by rw [hx]; exact hw l)
  have HY := Aside0.mk hy
  have HX := Aside0.mk hx
  have HL := Aside0.mk (show l = m - 1 ∧ m = xs.length ∧ i < m ∧ m ≤ c ∧ n + 4 * xs.length < 50000000000 from ⟨hl, hm, by omega, hc, hn⟩)
  have HW := Aside0.mk hw
  have e1 : IntKind.i64.wrap ((m : Int) - 1) = (l : Int) := by rw [i64_w]; unfold wrap64; omega
  obtain ⟨w1, hrun, r1, r2⟩ := (h.below (below_drew (Below.refl _ _))).drop wy.out 0
  have HT1 := Aside0.mk r1
  have CH1 := Aside0.mk (show Chg (St g b (.slice (some ⟨gh, 0, none⟩) m c)) W w1 from (Chg.refl _ _).drew.trans (.grown r2 (fun k hk => .inr (.inl (Option.some.inj hk).symm))))
  clear h hm hc hy hl hx hw hi hn r1 r2
  rw [← HL.out.1]
  go_enter Try.func87, Try.ntmps87
  go_upto_region 1 with (fail)
  go_cut [4] (fun v4 wc => v4 = .int .i64 (l : Int) ∧ wc = w1)
  case first =>
    go_region_with (fail)
    all_goals
      first | go_meet | (go_step; go_meet) | (go_step; go_step; go_meet)
      case rel => exact ⟨rfl, rfl⟩
  case rest =>
    obtain ⟨rfl, rfl⟩ := hcut
    clear c0 c1 a0 a1 f0 f1 p1 p2 e1 hrun
    have hL := HL.out
    have c0 := HT1.out.c0
    have fg : wc.frozen? ⟨g, sh.o, none⟩ = false := blk_frozen HT1.out.hg sh.o
    obtain ⟨a0, a1, _, _⟩ := HT1.out.at (i := l) (by omega)
    rw [← HX.out] at a0 a1
    have p1 : ((0 : Int) ≤ (l : Int)) = True := eq_true (by omega)
    have p2 : ((l : Int) < (m : Int)) = True := eq_true (by omega)
    have p3 : ((l : Int) ≤ (c : Int)) = True := eq_true (by omega)
    have p4 : (l ≤ c) = True := eq_true (by omega)
    have hsl := slice_run (some ⟨gh, 0, none⟩) m c l (by omega)
    have cX := (HT1.out.below (below_alloc (Below.refl _ _) (.cells #[.int .i64 x.1, .int .i64 x.2] 145 (0, 0)))).c0
    have fX : (wc.alloc (.cells #[.int .i64 x.1, .int .i64 x.2] 145 (0, 0))).frozen? ⟨g, sh.o, none⟩ = false := blk_frozen (HT1.out.below (below_alloc (Below.refl _ _) (.cells #[.int .i64 x.1, .int .i64 x.2] 145 (0, 0)))).hg sh.o
    have hne : g ≠ wc.heap.size := Nat.ne_of_lt HT1.out.g_lt
    have hne' := hne.symm
    have HTX := Aside0.mk ((HT1.out.below (below_alloc (Below.refl _ _) (.cells #[.int .i64 x.1, .int .i64 x.2] 145 (0, 0)))).take (l := l) (by omega))
    have CHX := Aside0.mk ((CH1.out.alloc (.cells #[.int .i64 x.1, .int .i64 x.2] 145 (0, 0))).set_ (p := ⟨g, sh.o, none⟩) (.inl (.inl rfl)) (.slice (some ⟨gh, 0, none⟩) l c))
    have BX := Aside0.mk (blk_far (blk_new wc (.cells #[.int .i64 x.1, .int .i64 x.2] 145 (0, 0))) (p := ⟨g, sh.o, none⟩) hne' (.slice (some ⟨gh, 0, none⟩) l c))
    have HGX := Aside0.mk (show ¬ St g b (.slice (some ⟨gh, 0, none⟩) m c) wc.heap.size from fun q => by
      rcases q with q | q | q
      · exact hne' q
      · have := HT1.out.b_lt; omega
      · have := HT1.out.v_lt _ q; omega)
    clear hL
    go_upto_region 4 with (fail)
    clear cX fX c0 fg a0 a1 p1 p2 p3 p4 hsl hne hne' HT1 CH1 HT
    obtain ⟨gx, hgx⟩ : ∃ k, k = wc.heap.size := ⟨_, rfl⟩
    rw [← hgx] at BX HGX
    rw [← hgx]
    clear hgx
    generalize (wc.alloc (.cells #[.int .i64 x.1, .int .i64 x.2] 145 (0, 0))).setCell ⟨g, sh.o, none⟩ (.slice (some ⟨gh, 0, none⟩) l c) = w3 at *
    by_cases hil : i = l
    · subst hil
      have HE := Aside0.mk (show cutF i xs p = (xs.take i, del p y.2) from by
        unfold cutF
        rw [if_pos (show i = xs.length - 1 from by have := HL.out; omega), ← HY.out, show xs.length - 1 = i from by have := HL.out; omega])
      go_wp2
      refine bodyPost_ret (results_none rfl _ _ _) rfl ?_
      refine ⟨rfl, ⟨?_⟩, CHX.out⟩
      rw [HE.out]
      exact HTX.out.mono (by omega)
    have d1 : ((i : Int) == (l : Int)) = false := beq_eq_false_iff_ne.2 (by omega)
    have d2 : (i == l) = false := beq_eq_false_iff_ne.2 hil
    have HIL := Aside0.mk hil
    have d3 : (i = l) = False := eq_false hil
    clear hil
    have x0 : w3.cell? ⟨gx, 0, none⟩ = some (.int .i64 x.1) := (blk_cell BX.out 0).trans rfl
    have x1 : w3.cell? ⟨gx, 1, none⟩ = some (.int .i64 x.2) := (blk_cell BX.out 1).trans rfl
    have hlt : (xs.take l).length = l := by have := HL.out; rw [List.length_take]; omega
    have HLT := Aside0.mk hlt
    have hil2 : i < l := by have := HL.out; have := HIL.out; omega
    have HI2 := Aside0.mk hil2
    clear hlt hil2
    go_upto_region 7 with (first
      | (go_at_call 99; refine (put_any HTX.out (i := i) (by rw [HLT.out]; exact HI2.out) wx.out (by have := HL.out; omega) (by have := HL.out; have := HLT.out; omega)).mono ?_; rintro e w4 ⟨rfl, HT4, hC4⟩; have HC4 := Aside0.mk (CHX.out.trans (hC4.mono (fun k hk => by rcases hk with q | q | q; exact .inl q; exact .inr (.inl q); exact .inr (.inr (by simpa [Value.ownBlock] using q))))); have BX4 := Aside0.mk ((hC4.block gx (blk_lt BX.out) (fun hk => HGX.out (by rcases hk with q | q | q; exact .inl q; exact .inr (.inl q); exact .inr (.inr (by simpa [Value.ownBlock] using q))))).trans BX.out); clear hC4)
      | (go_at_call 86; refine (up_any HT4.out ((HW.out.take l).set_ (by rw [HLT.out]; exact HI2.out) wx.out) (i := i) (by rw [List.length_set, HLT.out]; exact HI2.out) (by have := HL.out; omega) (by have := HL.out; have := HLT.out; rw [List.length_set]; omega)).mono ?_; rintro e w5 ⟨rfl, HT5, hC5⟩; have HC5 := Aside0.mk (HC4.out.trans (hC5.mono (fun k hk => by rcases hk with q | q | q; exact .inl q; exact .inr (.inl q); exact .inr (.inr (by simpa [Value.ownBlock] using q))))); have BX5 := Aside0.mk ((hC5.block gx (blk_lt BX4.out) (fun hk => HGX.out (by rcases hk with q | q | q; exact .inl q; exact .inr (.inl q); exact .inr (.inr (by simpa [Value.ownBlock] using q))))).trans BX4.out); clear hC5))
    rw [getD_set (by rw [HLT.out]; exact HI2.out), if_pos rfl] at HT5
    have hlen : i < ((xs.take l).set i x).length := by rw [List.length_set, HLT.out]; exact HI2.out
    obtain ⟨hu1, j, hj, hju, hjx⟩ := upF_at i x i ((xs.take l).set i x) (upd (del p y.2) x.2 (i : Int)) hlen
    have hwu := Wx.upF i x i ((xs.take l).set i x) (upd (del p y.2) x.2 (i : Int)) hlen ((HW.out.take l).set_ (by rw [HLT.out]; exact HI2.out) wx.out) wx.out
    replace HT5 : Aside0 (T sh w5 base g (.slice (some ⟨gh, 0, none⟩) l c) b (n + 1 + i + 1) (upF i x i ((xs.take l).set i x) (upd (del p y.2) x.2 (i : Int))).1 (upF i x i ((xs.take l).set i x) (upd (del p y.2) x.2 (i : Int))).2) := HT5
    have HE := Aside0.mk (show cutF i xs p = downF (upF i x i ((xs.take l).set i x) (upd (del p y.2) x.2 (i : Int))).1.length ((upF i x i ((xs.take l).set i x) (upd (del p y.2) x.2 (i : Int))).1.getD j (0, 0)) j (upF i x i ((xs.take l).set i x) (upd (del p y.2) x.2 (i : Int))).1 (upF i x i ((xs.take l).set i x) (upd (del p y.2) x.2 (i : Int))).2 from by
      have el : xs.length - 1 = l := by have := HL.out; omega
      unfold cutF
      rw [el, if_neg HIL.out, ← HX.out, ← HY.out]
      dsimp only
      rw [hju]
      rfl)
    obtain ⟨u, hu⟩ : ∃ u, u = upF i x i ((xs.take l).set i x) (upd (del p y.2) x.2 (i : Int)) := ⟨_, rfl⟩
    rw [← hu] at hu1 hju hwu HT5 HE
    have HJ := Aside0.mk (show j < u.1.length ∧ u.1.length = l from ⟨by rw [hu1]; omega, by rw [hu1, List.length_set]; exact HLT.out⟩)
    have HWU := Aside0.mk hwu
    have hlook := (HT5.out.below (below_drew (Below.refl _ _))).look wx.out
    rw [hju] at hlook
    have hlook : (Instr.lookup 40 (.map (some b)) (.int .i64 x.2) false).run Try.prog w5.drew = .ok (.int .i64 (j : Int)) w5.drew := hlook
    have c1 := HT5.out.c1
    have x1 : w5.cell? ⟨gx, 1, none⟩ = some (.int .i64 x.2) := (blk_cell BX5.out 1).trans rfl
    clear hlen hu1 hj hju hjx hwu hu
    go_region_with (go_at_call 100; refine (down_any (HT5.out.below (by first | exact below_drew (Below.refl _ _) | exact pw_below_drewN (Below.refl _ _) _)) HWU.out (i := j) HJ.out.1 (by have := HL.out; have := HJ.out; have := HI2.out; omega)).mono ?_; rintro e w6 ⟨rfl, HT6, hC6⟩; have HC6 := Aside0.mk (HC5.out.drew.trans (hC6.mono (fun k hk => by rcases hk with q | q | q; exact .inl q; exact .inr (.inl q); exact .inr (.inr (by simpa [Value.ownBlock] using q))))); clear hC6)
    all_goals
      go_wp2
      refine bodyPost_end (results_none rfl _ _ _) rfl ?_
      refine ⟨rfl, ⟨?_⟩, HC6.out⟩
      rw [HE.out]
      exact HT6.out.mono (by have := HL.out; have := HJ.out; have := HI2.out; omega)
end
end Go.Proofs.Ytakbhnfmimnbhaa.Tm
