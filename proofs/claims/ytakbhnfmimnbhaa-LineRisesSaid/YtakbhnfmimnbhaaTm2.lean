/- A heap of timers: less, and up. Conditions: none. -/
import Derived.Test.YtakbhnfmimnbhaaTm1
namespace Go.Proofs.Ytakbhnfmimnbhaa.Tm
open Go.RowKit Go.Proofs.YtakbhnfmimnbhaaW.PrintWords Go.Proofs.YtakbhnfmimnbhaaW.PrintLast
set_option linter.unusedVariables false
set_option linter.unusedSimpArgs false
variable {sh : Shp}

def lss (x y : Int × Int) : Bool := decide (x.1 < y.1) || (decide (x.1 = y.1) && decide (x.2 < y.2))
theorem less_any (x y : Int × Int) (W : World) : Calls Try.prog 98 #[.agg #[.int .i64 x.1, .int .i64 x.2], .agg #[.int .i64 y.1, .int .i64 y.2]] W fun e w' => e = .returned (.bool (lss x y)) ∧ Below W.heap.size W w' := by
  have hu77 := Try.underlying145
  go_enter Try.func98, Try.ntmps98
  go_upto_region 1 with (first
    | ((with_reducible refine gate_dst (N := 2) rfl ?_); refine box_event ?hg (N := 2) ?hd (cs := #[.int .i64 x.1, .int .i64 x.2]) (t := 145) ?hr ?_; (case hd => rfl); (case hg => rfl); (case hr => first | (go_simp; done) | (go_simp; rfl)); intro gx hg w1 hbox hb; have HB1 := Aside0.mk hb; have BX := Aside0.mk hbox; clear hb hbox hg)
    | ((with_reducible refine gate_dst (N := 3) rfl ?_); refine box_event ?hg (N := 3) ?hd (cs := #[.int .i64 y.1, .int .i64 y.2]) (t := 145) ?hr ?_; (case hd => rfl); (case hg => rfl); (case hr => first | (go_simp; done) | (go_simp; rfl)); intro gy hg w2 hbox hb; have HB2 := Aside0.mk hb; have BY := Aside0.mk hbox; clear hb hbox hg))
  have BX2 := Aside0.mk (blk_below BX.out HB2.out)
  have x0 : w2.cell? ⟨gx, 0, none⟩ = some (.int .i64 x.1) := (blk_cell BX2.out 0).trans rfl
  have x1 : w2.cell? ⟨gx, 1, none⟩ = some (.int .i64 x.2) := (blk_cell BX2.out 1).trans rfl
  have y0 : w2.cell? ⟨gy, 0, none⟩ = some (.int .i64 y.1) := (blk_cell BY.out 0).trans rfl
  have y1 : w2.cell? ⟨gy, 1, none⟩ = some (.int .i64 y.2) := (blk_cell BY.out 1).trans rfl
  have HB := Aside0.mk (below_step HB1.out HB2.out)
  obtain ⟨a, b⟩ := x
  obtain ⟨c, d⟩ := y
  clear HB1 HB2 BX BY BX2
  by_cases c1 : a < c
  · have d1 : decide (a < c) = true := decide_eq_true c1
    go_wp2
    go_ret
    exact ⟨by simp [lss, c1], HB.out⟩
  · have d1 : decide (a < c) = false := decide_eq_false c1
    by_cases c2 : a = c
    · subst c2
      go_wp2
      go_ret
      exact ⟨by simp [lss], HB.out⟩
    · have d2 : (a == c) = false := beq_eq_false_iff_ne.2 c2
      have d3 : decide (a = c) = false := decide_eq_false c2
      go_wp2
      go_ret
      exact ⟨by simp [lss, c1, c2], HB.out⟩

/-- Ids are numbers that may be. -/
def Wx (xs : List (Int × Int)) : Prop := ∀ j, (Lit.int .i64 (xs.getD j (0, 0)).2).wf = true
theorem getD_set {xs : List (Int × Int)} {i j : Nat} {x : Int × Int} (hi : i < xs.length) : (xs.set i x).getD j (0, 0) = if j = i then x else xs.getD j (0, 0) := by
  by_cases e : j = i
  · subst e
    rw [if_pos rfl]
    simp [List.getD_eq_getElem?_getD, hi]
  · rw [if_neg e]
    simp [List.getD_eq_getElem?_getD, Ne.symm e]
theorem Wx.set_ {xs : List (Int × Int)} (h : Wx xs) {i : Nat} (hi : i < xs.length) {x : Int × Int} (hx : (Lit.int .i64 x.2).wf = true) : Wx (xs.set i x) := fun j => by
  rw [getD_set hi]
  split
  · exact hx
  · exact h j
/-- up: x goes from place i towards the front. -/
def upF : Nat → Int × Int → Nat → List (Int × Int) → (Int → Option Int) → List (Int × Int) × (Int → Option Int)
  | 0, x, i, xs, p => (xs.set i x, upd p x.2 i)
  | k + 1, x, i, xs, p => if 0 < i ∧ lss x (xs.getD ((i - 1) / 2) (0, 0)) = true then upF k x ((i - 1) / 2) (xs.set i (xs.getD ((i - 1) / 2) (0, 0))) (upd p (xs.getD ((i - 1) / 2) (0, 0)).2 i) else (xs.set i x, upd p x.2 i)
theorem T.mono {W : World} {base g b n n' : Nat} {v : Value} {xs : List (Int × Int)} {p : Int → Option Int} (h : T sh W base g v b n xs p) (hn : n ≤ n') : T sh W base g v b n' xs p := by
  obtain ⟨D, h1, h2⟩ := h.hm
  exact ⟨h.hg, h.hr, ⟨D, h1.mono hn, h2⟩, h.gb, h.bb⟩
section
variable {W : World} {base g b n gh c m : Nat} {xs : List (Int × Int)} {p : Int → Option Int}
set_option maxHeartbeats 4000000 in
set_option maxRecDepth 100000 in
theorem up_any (h : T sh W base g (.slice (some ⟨gh, 0, none⟩) m c) b n xs p) (hw : Wx xs) {i : Nat} (hi : i < xs.length) (hn : n + i < 100000000000) (hl : xs.length < 100000000000) :
    Calls Try.prog 86 #[.pointer (some ⟨g, sh.o, none⟩), .int .i64 (i : Int)] W fun e w' => e = .returned (.tuple #[]) ∧
      Aside0 (T sh w' base g (.slice (some ⟨gh, 0, none⟩) m c) b (n + i + 1) (upF i (xs.getD i (0, 0)) i xs p).1 (upF i (xs.getD i (0, 0)) i xs p).2) ∧ Chg (St g b (.slice (some ⟨gh, 0, none⟩) m c)) W w' := by
  have hu28 := Try.underlying42
  have hu77 := Try.underlying145
  have HT := Aside0.mk h
  have c0 := h.c0
  obtain ⟨a0, a1, f0, f1⟩ := h.at hi
  have hm := h.len
  have p1 : ((0 : Int) ≤ (i : Int)) = True := eq_true (by omega)
  have p2 : ((i : Int) < (m : Int)) = True := eq_true (by omega)
  clear h
  obtain ⟨x, hx⟩ : ∃ x, x = xs.getD i (0, 0) := ⟨_, rfl⟩
  have HX := Aside0.mk hx
  rw [← hx] at a0 a1
  rw [← hx]
  clear hx hm
  have wx : (Lit.int .i64 x.2).wf = true := by rw [HX.out]; exact hw i
  have WX := Aside0.mk wx
  have HW0 := Aside0.mk hw
  have HN := Aside0.mk (show i < xs.length ∧ n + i < 100000000000 ∧ xs.length < 100000000000 from ⟨hi, hn, hl⟩)
  clear wx hw hi hn hl
  go_enter Try.func86, Try.ntmps86
  go_wp2
  have HT1 := Aside0.mk (HT.out.below (below_alloc (Below.refl _ _) (.cells #[.int .i64 x.1, .int .i64 x.2] 145 (0, 0))))
  have BX1 := Aside0.mk (blk_new W (.cells #[.int .i64 x.1, .int .i64 x.2] 145 (0, 0)))
  have CH1 := Aside0.mk (Chg.alloc (Chg.refl (St g b (.slice (some ⟨gh, 0, none⟩) m c)) W) (.cells #[.int .i64 x.1, .int .i64 x.2] 145 (0, 0)))
  have HG := Aside0.mk (show ¬ St g b (.slice (some ⟨gh, 0, none⟩) m c) W.heap.size from fun q => by
    rcases q with q | q | q
    · have := HT.out.g_lt; omega
    · have := HT.out.b_lt; omega
    · have := HT.out.v_lt _ q; omega)
  have HGH := Aside0.mk (HT.out.v_lt gh (by simp [Value.ownBlock]))
  have HG2 := Aside0.mk HT.out.g_lt
  clear a0 a1 f0 f1 c0 p1 p2
  generalize W.alloc (.cells #[.int .i64 x.1, .int .i64 x.2] 145 (0, 0)) = w1 at *
  obtain ⟨gx, hgx⟩ : ∃ k, k = W.heap.size := ⟨_, rfl⟩
  rw [← hgx] at HG BX1 HGH HG2
  rw [← hgx]
  clear hgx
  go_loopg [1] i (fun kq v1 w' => ∃ (j n' : Nat) (ys : List (Int × Int)) (q : Int → Option Int), v1 = .int .i64 (j : Int) ∧ Aside0 (ys.length = xs.length ∧ j < xs.length ∧ j ≤ kq ∧ n' + j ≤ n + i) ∧ Aside0 (upF kq x j ys q = upF i x i xs p) ∧ Aside0 (Wx ys) ∧ Aside0 (T sh w' base g (.slice (some ⟨gh, 0, none⟩) m c) b n' ys q) ∧ Aside0 (Chg (St g b (.slice (some ⟨gh, 0, none⟩) m c)) W w') ∧ Aside0 (w'.heap[gx]? = some (.cells #[.int .i64 x.1, .int .i64 x.2] 145 (0, 0))))
  case atStart => exact ⟨i, n, xs, p, rfl, ⟨rfl, HN.out.1, Nat.le_refl _, Nat.le_refl _⟩, ⟨rfl⟩, HW0, HT1, CH1, BX1⟩
  case round =>
    clear HT1 CH1 BX1
    obtain ⟨j, n', ys, q, rfl, HL, HU, HW, HT2, HC2, HX2⟩ := hrel
    have c0 := HT2.out.c0
    have x0 : wr.cell? ⟨gx, 0, none⟩ = some (.int .i64 x.1) := (blk_cell HX2.out 0).trans rfl
    have x1 : wr.cell? ⟨gx, 1, none⟩ = some (.int .i64 x.2) := (blk_cell HX2.out 1).trans rfl
    have hPut : ∀ w2 : World, Aside0 (T sh w2 base g (.slice (some ⟨gh, 0, none⟩) m c) b n' ys q) → Aside0 (Chg (St g b (.slice (some ⟨gh, 0, none⟩) m c)) W w2) → upF i x i xs p = (ys.set j x, upd q x.2 j) → ∀ R : Ending → World → Prop, (∀ e w', e = .returned (.tuple #[]) ∧ Aside0 (T sh w' base g (.slice (some ⟨gh, 0, none⟩) m c) b (n + i + 1) (upF i x i xs p).1 (upF i x i xs p).2) ∧ Chg (St g b (.slice (some ⟨gh, 0, none⟩) m c)) W w' → R e w') → Calls Try.prog 99 #[.pointer (some ⟨g, sh.o, none⟩), .int .i64 (j : Int), .agg #[.int .i64 x.1, .int .i64 x.2]] w2 R := fun w2 h2 hc he R hR => by
      have h3 := HL.out
      have h4 := HN.out
      refine (put_any h2.out (by omega) WX.out (by omega) (by omega)).mono fun e w' h5 => hR e w' ⟨h5.1, ⟨?_⟩, hc.out.trans h5.2.2⟩
      rw [he]
      exact h5.2.1.out.mono (by omega)
    have HP := Aside0.mk hPut
    clear hPut
    by_cases c1 : 0 < j
    case neg =>
      have d1 : decide ((0 : Int) < (j : Int)) = false := decide_eq_false (by omega)
      have d2 : decide (0 < j) = false := decide_eq_false c1
      have hE : upF i x i xs p = (ys.set j x, upd q x.2 j) := by
        rw [← HU.out]
        cases gk with
        | zero => rfl
        | succ k => simp only [upF]; rw [if_neg (fun h => c1 h.1)]
      clear c1
      go_wp2_with (go_at_call 99; refine HP.out _ HT2 HC2 hE _ ?_; rintro e w9 ⟨rfl, hT9, hC9⟩)
      refine bodyPost_end (results_none rfl _ _ _) rfl ?_
      exact ⟨rfl, hT9, hC9⟩
    have hL := HL.out
    have hN := HN.out
    obtain ⟨k1, rfl⟩ : ∃ k, gk = k + 1 := ⟨gk - 1, by omega⟩
    have d1 : decide ((0 : Int) < (j : Int)) = true := decide_eq_true (by omega)
    have d2 : decide (0 < j) = true := decide_eq_true c1
    obtain ⟨a, ha⟩ : ∃ a : Nat, a = (j - 1) / 2 := ⟨_, rfl⟩
    have hal : a < j := by omega
    have E1 := Aside0.mk (show IntKind.i64.wrap ((j : Int) - 1) = ((j - 1 : Nat) : Int) from by rw [i64_w]; unfold wrap64; omega)
    have E2 := Aside0.mk (show wrap64 (((j - 1 : Nat) : Int) / 2) = (a : Int) from by unfold wrap64; omega)
    obtain ⟨a0, a1, f0, f1⟩ := HT2.out.at (i := a) (by omega)
    have hm := HT2.out.len
    have p1 : ((0 : Int) ≤ (a : Int)) = True := eq_true (by omega)
    have p2 : ((a : Int) < (m : Int)) = True := eq_true (by omega)
    have HA := Aside0.mk (show a = (j - 1) / 2 ∧ a < j ∧ a < ys.length from ⟨ha, hal, by omega⟩)
    have wy := Aside0.mk (HW.out a)
    have HUS := Aside0.mk (show upF (k1 + 1) x j ys q = if lss x (ys.getD a (0, 0)) = true then upF k1 x a (ys.set j (ys.getD a (0, 0))) (upd q (ys.getD a (0, 0)).2 j) else (ys.set j x, upd q x.2 j) from by
      simp only [upF]
      rw [← ha]
      by_cases h : lss x (ys.getD a (0, 0)) = true
      · rw [if_pos ⟨c1, h⟩, if_pos h]
      · rw [if_neg (fun q => h q.2), if_neg h])
    clear hm ha hal c1 hL hN
    obtain ⟨y, hy⟩ : ∃ y, y = ys.getD a (0, 0) := ⟨_, rfl⟩
    have HYE := Aside0.mk hy.symm
    rw [← hy] at a0 a1 wy HUS
    clear hy
    have e1 := E1.out
    have e2 := E2.out
    have e3 : IntKind.i64.wrap (((j - 1 : Nat) : Int) / 2) = (a : Int) := by rw [i64_w]; exact e2
    clear E1 E2
    go_upto_region 3 with (fail)
    clear e1 e2 e3
    go_cut [27] (fun v27 wc => v27 = .bool (!lss x y) ∧ Aside0 (Below wr.heap.size wr wc))
    case first =>
      go_region_with (go_at_call 98; refine (less_any x y _).mono ?_; rintro e w4 ⟨rfl, hb4⟩; have HB4 := Aside0.mk hb4; clear hb4)
      all_goals
        first | go_meet | (go_step; go_meet) | (go_step; go_step; go_meet)
        case rel => exact ⟨rfl, ⟨by first | exact below_step (pw_below_drewN (Below.refl _ _) _) HB4.out | exact below_step (below_drew (Below.refl _ _)) HB4.out | exact HB4.out⟩⟩
    case rest =>
      obtain ⟨rfl, HB5⟩ := hcut
      have HT5 := Aside0.mk (HT2.out.below HB5.out)
      have HC5 := Aside0.mk (HC2.out.trans (.of_below HB5.out))
      have HX5 := Aside0.mk (blk_below HX2.out HB5.out)
      clear HT2 HC2 HX2 HB5 a0 a1 f0 f1 c0 x0 x1
      have x0 : wc.cell? ⟨gx, 0, none⟩ = some (.int .i64 x.1) := (blk_cell HX5.out 0).trans rfl
      have x1 : wc.cell? ⟨gx, 1, none⟩ = some (.int .i64 x.2) := (blk_cell HX5.out 1).trans rfl
      cases c2 : lss x y
      · have hE : upF i x i xs p = (ys.set j x, upd q x.2 j) := by
          rw [← HU.out, HUS.out, if_neg (by rw [c2]; decide)]
        go_wp2_with (go_at_call 99; refine HP.out _ HT5 HC5 hE _ ?_; rintro e w9 ⟨rfl, hT9, hC9⟩)
        refine bodyPost_end (results_none rfl _ _ _) rfl ?_
        exact ⟨rfl, hT9, hC9⟩
      · have hE := Aside0.mk (show upF k1 x a (ys.set j y) (upd q y.2 j) = upF i x i xs p from by
          rw [← HU.out, HUS.out, if_pos c2])
        have c0 := HT5.out.c0
        have HY := Aside0.mk (show ys.getD a (0, 0) = y from HYE.out)
        obtain ⟨a0, a1, f0, f1⟩ := HT5.out.at HA.out.2.2
        rw [HY.out] at a0 a1
        go_wp2_with (go_at_call 99; refine (put_any HT5.out (by have := HL.out; omega) wy.out (by have := HL.out; have := HN.out; omega) (by have := HL.out; have := HN.out; omega)).mono ?_; rintro e w9 ⟨rfl, hT9, hC9⟩; have HT9 := hT9; have HC9 := Aside0.mk hC9; clear hT9 hC9)
        go_roundg k1
        case measure => omega
        case rel =>
          exact ⟨a, n' + 1, ys.set j y, upd q y.2 j, rfl, ⟨by have := HL.out; have := HA.out; simp only [List.length_set]; omega⟩, hE, ⟨HW.out.set_ (by have := HL.out; omega) wy.out⟩, HT9, ⟨HC5.out.trans HC9.out⟩, ⟨(HC9.out.block gx (blk_lt HX5.out) HG.out).trans HX5.out⟩⟩
end
end Go.Proofs.Ytakbhnfmimnbhaa.Tm
