/- A heap of timers: down. Conditions: none. -/
import Derived.Test.YtakbhnfmimnbhaaTm2
namespace Go.Proofs.Ytakbhnfmimnbhaa.Tm
open Go.RowKit Go.Proofs.YtakbhnfmimnbhaaW.PrintWords Go.Proofs.YtakbhnfmimnbhaaW.PrintLast
set_option linter.unusedVariables false
set_option linter.unusedSimpArgs false
variable {sh : Shp}

/-- Which one below place i is asked. -/
def dk (i : Nat) (xs : List (Int × Int)) : Nat := if 2 * i + 2 < xs.length ∧ lss (xs.getD (2 * i + 2) (0, 0)) (xs.getD (2 * i + 1) (0, 0)) = true then 2 * i + 2 else 2 * i + 1
theorem dk_le (i : Nat) (xs : List (Int × Int)) : 2 * i + 1 ≤ dk i xs ∧ dk i xs ≤ 2 * i + 2 ∧ (2 * i + 1 < xs.length → dk i xs < xs.length) := by
  unfold dk
  split
  · omega
  · omega
/-- down: x goes from place i towards the end. -/
def downF : Nat → Int × Int → Nat → List (Int × Int) → (Int → Option Int) → List (Int × Int) × (Int → Option Int)
  | 0, x, i, xs, p => (xs.set i x, upd p x.2 i)
  | f + 1, x, i, xs, p => if 2 * i + 1 < xs.length ∧ lss (xs.getD (dk i xs) (0, 0)) x = true then downF f x (dk i xs) (xs.set i (xs.getD (dk i xs) (0, 0))) (upd p (xs.getD (dk i xs) (0, 0)).2 i) else (xs.set i x, upd p x.2 i)
section
variable {W : World} {base g b n gh c m : Nat} {xs : List (Int × Int)} {p : Int → Option Int}
set_option maxHeartbeats 4000000 in
set_option maxRecDepth 100000 in
theorem down_any (h : T sh W base g (.slice (some ⟨gh, 0, none⟩) m c) b n xs p) (hw : Wx xs) {i : Nat} (hi : i < xs.length) (hn : n + xs.length < 100000000000) :
    Calls Try.prog 100 #[.pointer (some ⟨g, sh.o, none⟩), .int .i64 (i : Int)] W fun e w' => e = .returned (.tuple #[]) ∧
      Aside0 (T sh w' base g (.slice (some ⟨gh, 0, none⟩) m c) b (n + xs.length + 1) (downF xs.length (xs.getD i (0, 0)) i xs p).1 (downF xs.length (xs.getD i (0, 0)) i xs p).2) ∧ Chg (St g b (.slice (some ⟨gh, 0, none⟩) m c)) W w' := by
  have hu28 := Try.underlying42
  have hu77 := Try.underlying145
  have HT := Aside0.mk h
  have c0 := h.c0
  obtain ⟨a0, a1, f0, f1⟩ := h.at hi
  have hm := h.len
  have p1 : ((0 : Int) ≤ (i : Int)) = True := eq_true (by omega)
  have p2 : ((i : Int) < (m : Int)) = True := eq_true (by omega)
  have HM := Aside0.mk hm
  obtain ⟨x, hx⟩ : ∃ x, x = xs.getD i (0, 0) := ⟨_, rfl⟩
  have HX := Aside0.mk hx
  rw [← hx] at a0 a1
  rw [← hx]
  clear h hx hm
  have wx : (Lit.int .i64 x.2).wf = true := by rw [HX.out]; exact hw i
  have WX := Aside0.mk wx
  have HW0 := Aside0.mk hw
  have HN := Aside0.mk (show i < xs.length ∧ n + xs.length < 100000000000 from ⟨hi, hn⟩)
  clear wx hw hi hn
  go_enter Try.func100, Try.ntmps100
  have SC : W.cell? ⟨g, sh.o, none⟩ = some (.slice (some ⟨gh, 0, none⟩) m c) ∧ W.cell? ⟨gh, i * 2, none⟩ = some (.int .i64 x.1) ∧ W.cell? ⟨gh, i * 2 + 1, none⟩ = some (.int .i64 x.2) ∧ T sh W base g (.slice (some ⟨gh, 0, none⟩) m c) b n xs p ∧ Chg (St g b (.slice (some ⟨gh, 0, none⟩) m c)) W W := ⟨c0, a0, a1, HT.out, Chg.refl _ _⟩
  have KG : ∀ W' : World, T sh W' base g (.slice (some ⟨gh, 0, none⟩) m c) b n xs p → Chg (St g b (.slice (some ⟨gh, 0, none⟩) m c)) W W' → W'.cell? ⟨g, sh.o, none⟩ = some (.slice (some ⟨gh, 0, none⟩) m c) ∧ W'.cell? ⟨gh, i * 2, none⟩ = some (.int .i64 x.1) ∧ W'.cell? ⟨gh, i * 2 + 1, none⟩ = some (.int .i64 x.2) ∧ T sh W' base g (.slice (some ⟨gh, 0, none⟩) m c) b n xs p ∧ Chg (St g b (.slice (some ⟨gh, 0, none⟩) m c)) W W' := fun W' h1 h2 => by
    obtain ⟨r0, r1, _, _⟩ := h1.at HN.out.1
    rw [← HX.out] at r0 r1
    exact ⟨h1.c0, r0, r1, h1, h2⟩
  have KA : Aside0 (∀ (W' : World) (o : Obj), W'.cell? ⟨g, sh.o, none⟩ = some (.slice (some ⟨gh, 0, none⟩) m c) ∧ W'.cell? ⟨gh, i * 2, none⟩ = some (.int .i64 x.1) ∧ W'.cell? ⟨gh, i * 2 + 1, none⟩ = some (.int .i64 x.2) ∧ T sh W' base g (.slice (some ⟨gh, 0, none⟩) m c) b n xs p ∧ Chg (St g b (.slice (some ⟨gh, 0, none⟩) m c)) W W' → (W'.alloc o).cell? ⟨g, sh.o, none⟩ = some (.slice (some ⟨gh, 0, none⟩) m c) ∧ (W'.alloc o).cell? ⟨gh, i * 2, none⟩ = some (.int .i64 x.1) ∧ (W'.alloc o).cell? ⟨gh, i * 2 + 1, none⟩ = some (.int .i64 x.2) ∧ T sh (W'.alloc o) base g (.slice (some ⟨gh, 0, none⟩) m c) b n xs p ∧ Chg (St g b (.slice (some ⟨gh, 0, none⟩) m c)) W (W'.alloc o)) := ⟨fun W' o h => KG _ (h.2.2.2.1.below (below_alloc (Below.refl _ _) o)) (h.2.2.2.2.alloc o)⟩
  have KD : Aside0 (∀ (W' : World), W'.cell? ⟨g, sh.o, none⟩ = some (.slice (some ⟨gh, 0, none⟩) m c) ∧ W'.cell? ⟨gh, i * 2, none⟩ = some (.int .i64 x.1) ∧ W'.cell? ⟨gh, i * 2 + 1, none⟩ = some (.int .i64 x.2) ∧ T sh W' base g (.slice (some ⟨gh, 0, none⟩) m c) b n xs p ∧ Chg (St g b (.slice (some ⟨gh, 0, none⟩) m c)) W W' → W'.drew.cell? ⟨g, sh.o, none⟩ = some (.slice (some ⟨gh, 0, none⟩) m c) ∧ W'.drew.cell? ⟨gh, i * 2, none⟩ = some (.int .i64 x.1) ∧ W'.drew.cell? ⟨gh, i * 2 + 1, none⟩ = some (.int .i64 x.2) ∧ T sh W'.drew base g (.slice (some ⟨gh, 0, none⟩) m c) b n xs p ∧ Chg (St g b (.slice (some ⟨gh, 0, none⟩) m c)) W W'.drew) := ⟨fun W' h => KG _ (h.2.2.2.1.below (below_drew (Below.refl _ _))) h.2.2.2.2.drew⟩
  have KS : Aside0 (∀ (W' Wg : World) (j : Nat) (v : Value), Wg.cell? ⟨g, sh.o, none⟩ = some (.slice (some ⟨gh, 0, none⟩) m c) ∧ Wg.cell? ⟨gh, i * 2, none⟩ = some (.int .i64 x.1) ∧ Wg.cell? ⟨gh, i * 2 + 1, none⟩ = some (.int .i64 x.2) ∧ T sh Wg base g (.slice (some ⟨gh, 0, none⟩) m c) b n xs p ∧ Chg (St g b (.slice (some ⟨gh, 0, none⟩) m c)) W Wg → W'.cell? ⟨g, sh.o, none⟩ = some (.slice (some ⟨gh, 0, none⟩) m c) ∧ W'.cell? ⟨gh, i * 2, none⟩ = some (.int .i64 x.1) ∧ W'.cell? ⟨gh, i * 2 + 1, none⟩ = some (.int .i64 x.2) ∧ T sh W' base g (.slice (some ⟨gh, 0, none⟩) m c) b n xs p ∧ Chg (St g b (.slice (some ⟨gh, 0, none⟩) m c)) W W' → (W'.setCell ⟨Wg.heap.size, j, none⟩ v).cell? ⟨g, sh.o, none⟩ = some (.slice (some ⟨gh, 0, none⟩) m c) ∧ (W'.setCell ⟨Wg.heap.size, j, none⟩ v).cell? ⟨gh, i * 2, none⟩ = some (.int .i64 x.1) ∧ (W'.setCell ⟨Wg.heap.size, j, none⟩ v).cell? ⟨gh, i * 2 + 1, none⟩ = some (.int .i64 x.2) ∧ T sh (W'.setCell ⟨Wg.heap.size, j, none⟩ v) base g (.slice (some ⟨gh, 0, none⟩) m c) b n xs p ∧ Chg (St g b (.slice (some ⟨gh, 0, none⟩) m c)) W (W'.setCell ⟨Wg.heap.size, j, none⟩ v)) := ⟨fun W' Wg j v hg h => by
    have h1 := hg.2.2.2.1
    have h2 := h.2.2.2.1
    refine KG _ (h2.kept (S := fun k => k = Wg.heap.size) ((Chg.refl (fun k => k = Wg.heap.size) W').set_ (p := ⟨Wg.heap.size, j, none⟩) (.inl rfl) v) (fun k hk => ?_)) (h.2.2.2.2.set_ (.inr hg.2.2.2.2.size) v)
    have q1 := h1.g_lt
    have q2 := h1.b_lt
    rcases hk with q | q | q
    · omega
    · omega
    · have := h1.v_lt k q; omega⟩
  clear KG
  go_wp2
  go_cut [4, 5] (fun v4 v5 wc => v4 = .pointer (some ⟨W.heap.size, 0, none⟩) ∧ v5 = .int .i64 (m : Int) ∧ ∃ k, wc = (W.alloc (.cells #[.int .i64 x.1, .int .i64 x.2] 145 (0, 0))).drewN k)
  case first =>
    go_region_held3 (fun W' => W'.cell? ⟨g, sh.o, none⟩ = some (.slice (some ⟨gh, 0, none⟩) m c) ∧ W'.cell? ⟨gh, i * 2, none⟩ = some (.int .i64 x.1) ∧ W'.cell? ⟨gh, i * 2 + 1, none⟩ = some (.int .i64 x.2) ∧ T sh W' base g (.slice (some ⟨gh, 0, none⟩) m c) b n xs p ∧ Chg (St g b (.slice (some ⟨gh, 0, none⟩) m c)) W W') (with_reducible first | exact KS.out _ _ _ _ (by first | exact SC | exact KD.out _ SC) (KS.out _ _ _ _ (by first | exact SC | exact KD.out _ SC) (by first | exact KA.out _ _ SC | exact KA.out _ _ (KD.out _ SC) | exact KD.out _ (KA.out _ _ SC))) | exact SC | exact KD.out _ SC | exact KA.out _ _ SC | exact KA.out _ _ (KD.out _ SC) | exact KD.out _ (KA.out _ _ SC) | (exact KA.out _ _ (by assumption)) | (exact KD.out _ (by assumption))) (fail)
    all_goals
      first | go_meet | (go_step; go_meet) | (go_step; go_step; go_meet)
      case rel => exact ⟨rfl, rfl, _, rfl⟩
  case rest =>
  obtain ⟨rfl, rfl, k0, rfl⟩ := hcut
  clear KA KD KS SC
  have HT1 := Aside0.mk ((HT.out.below (below_alloc (Below.refl _ _) (.cells #[.int .i64 x.1, .int .i64 x.2] 145 (0, 0)))).below (pw_below_drewN (Below.refl _ _) k0))
  have BX1 := Aside0.mk (blk_below (blk_new W (.cells #[.int .i64 x.1, .int .i64 x.2] 145 (0, 0))) (pw_below_drewN (Below.refl _ _) k0))
  have CH1 := Aside0.mk ((Chg.alloc (Chg.refl (St g b (.slice (some ⟨gh, 0, none⟩) m c)) W) (.cells #[.int .i64 x.1, .int .i64 x.2] 145 (0, 0))).drewN k0)
  have HG := Aside0.mk (show ¬ St g b (.slice (some ⟨gh, 0, none⟩) m c) W.heap.size from fun q => by
    rcases q with q | q | q
    · have := HT.out.g_lt; omega
    · have := HT.out.b_lt; omega
    · have := HT.out.v_lt _ q; omega)
  clear a0 a1 f0 f1 c0 p1 p2
  generalize (W.alloc (.cells #[.int .i64 x.1, .int .i64 x.2] 145 (0, 0))).drewN k0 = w1 at *
  obtain ⟨gx, hgx⟩ : ∃ k, k = W.heap.size := ⟨_, rfl⟩
  rw [← hgx] at HG BX1
  rw [← hgx]
  clear hgx
  go_wp2
  go_loopg [1] xs.length (fun kq v1 w' => ∃ (j n' : Nat) (ys : List (Int × Int)) (q : Int → Option Int), v1 = .int .i64 (j : Int) ∧ Aside0 (ys.length = xs.length ∧ j < xs.length ∧ xs.length ≤ kq + j ∧ n' + i ≤ n + j) ∧ Aside0 (downF kq x j ys q = downF xs.length x i xs p) ∧ Aside0 (Wx ys) ∧ Aside0 (T sh w' base g (.slice (some ⟨gh, 0, none⟩) m c) b n' ys q) ∧ Aside0 (Chg (St g b (.slice (some ⟨gh, 0, none⟩) m c)) W w') ∧ Aside0 (w'.heap[gx]? = some (.cells #[.int .i64 x.1, .int .i64 x.2] 145 (0, 0))))
  case atStart => exact ⟨i, n, xs, p, rfl, ⟨rfl, HN.out.1, Nat.le_add_right _ _, Nat.le_refl _⟩, ⟨rfl⟩, HW0, HT1, CH1, BX1⟩
  case round =>
    clear HT1 CH1 BX1
    obtain ⟨j, n', ys, q, rfl, HL, HU, HW, HT2, HC2, HX2⟩ := hrel
    have c0 := HT2.out.c0
    have x0 : wr.cell? ⟨gx, 0, none⟩ = some (.int .i64 x.1) := (blk_cell HX2.out 0).trans rfl
    have x1 : wr.cell? ⟨gx, 1, none⟩ = some (.int .i64 x.2) := (blk_cell HX2.out 1).trans rfl
    have hPut : ∀ w2 : World, Aside0 (T sh w2 base g (.slice (some ⟨gh, 0, none⟩) m c) b n' ys q) → Aside0 (Chg (St g b (.slice (some ⟨gh, 0, none⟩) m c)) W w2) → downF xs.length x i xs p = (ys.set j x, upd q x.2 j) → ∀ R : Ending → World → Prop, (∀ e w', e = .returned (.tuple #[]) ∧ Aside0 (T sh w' base g (.slice (some ⟨gh, 0, none⟩) m c) b (n + xs.length + 1) (downF xs.length x i xs p).1 (downF xs.length x i xs p).2) ∧ Chg (St g b (.slice (some ⟨gh, 0, none⟩) m c)) W w' → R e w') → Calls Try.prog 99 #[.pointer (some ⟨g, sh.o, none⟩), .int .i64 (j : Int), .agg #[.int .i64 x.1, .int .i64 x.2]] w2 R := fun w2 h2 hc he R hR => by
      have h3 := HL.out
      have h4 := HN.out
      refine (put_any h2.out (by omega) WX.out (by omega) (by omega)).mono fun e w' h5 => hR e w' ⟨h5.1, ⟨?_⟩, hc.out.trans h5.2.2⟩
      rw [he]
      exact h5.2.1.out.mono (by omega)
    have HP := Aside0.mk hPut
    clear hPut
    have hL := HL.out
    have hN := HN.out
    have hM := HM.out
    have E1 := Aside0.mk (show IntKind.i64.wrap (2 * (j : Int)) = 2 * (j : Int) from by rw [i64_w]; unfold wrap64; omega)
    obtain ⟨k, hk⟩ : ∃ k : Nat, k = 2 * j + 1 := ⟨_, rfl⟩
    have HK := Aside0.mk hk
    have E2 := Aside0.mk (show IntKind.i64.wrap (2 * (j : Int) + 1) = (k : Int) from by rw [i64_w]; unfold wrap64; omega)
    obtain ⟨k1, rfl⟩ : ∃ k, gk = k + 1 := ⟨gk - 1, by omega⟩
    by_cases c1 : k < m
    case neg =>
      have d1 : decide ((m : Int) ≤ (k : Int)) = true := decide_eq_true (by omega)
      have d2 : decide (m ≤ k) = true := decide_eq_true (by omega)
      have hE : downF xs.length x i xs p = (ys.set j x, upd q x.2 j) := by
        rw [← HU.out]
        simp only [downF]
        rw [if_neg (fun h => by have := h.1; omega)]
      have e1 := E1.out
      have e2 := E2.out
      clear hL hN hM E1 E2 c1 hk HK
      go_wp2_with (go_at_call 99; refine HP.out _ HT2 HC2 hE _ ?_; rintro e w9 ⟨rfl, hT9, hC9⟩)
      refine bodyPost_end (results_none rfl _ _ _) rfl ?_
      exact ⟨rfl, hT9, hC9⟩
    have d1 : decide ((m : Int) ≤ (k : Int)) = false := decide_eq_false (by omega)
    have d2 : decide (m ≤ k) = false := decide_eq_false (by omega)
    obtain ⟨k2, hk2⟩ : ∃ k2 : Nat, k2 = k + 1 := ⟨_, rfl⟩
    have HK2 := Aside0.mk hk2
    have E3 := Aside0.mk (show IntKind.i64.wrap ((k : Int) + 1) = (k2 : Int) from by rw [i64_w]; unfold wrap64; omega)
    obtain ⟨a0, a1, f0, f1⟩ := HT2.out.at (i := k) (by omega)
    have hm := HT2.out.len
    have p1 : ((0 : Int) ≤ (k : Int)) = True := eq_true (by omega)
    have p2 : ((k : Int) < (m : Int)) = True := eq_true (by omega)
    have HKM := Aside0.mk (show k < ys.length from by omega)
    obtain ⟨y, hy⟩ : ∃ y, y = ys.getD k (0, 0) := ⟨_, rfl⟩
    obtain ⟨z, hz⟩ : ∃ z, z = ys.getD k2 (0, 0) := ⟨_, rfl⟩
    have HY := Aside0.mk hy
    have HZ := Aside0.mk hz
    rw [← hy] at a0 a1
    have e1 := E1.out
    have e2 := E2.out
    clear hy hz hm hL hN hM E1 E2 c1 hk hk2
    go_upto_region 3 with (fail)
    clear e1 e2
    go_cut [46] (fun v46 wc => v46 = .bool (decide (k2 < m) && lss z y) ∧ Aside0 (Below wr.heap.size wr wc))
    case first =>
      have e3 := E3.out
      clear E3
      by_cases c2 : k2 < m
      · have hm := HT2.out.len
        obtain ⟨b0, b1, _, _⟩ := HT2.out.at (i := k2) (by omega)
        have HKM2 := Aside0.mk (show k2 < ys.length from by omega)
        rw [← HZ.out] at b0 b1
        have d3 : decide ((k2 : Int) < (m : Int)) = true := decide_eq_true (by omega)
        have d4 : decide (k2 < m) = true := decide_eq_true c2
        have p3 : ((0 : Int) ≤ (k2 : Int)) = True := eq_true (by omega)
        have p4 : ((k2 : Int) < (m : Int)) = True := eq_true (by omega)
        clear hm c2
        refine start_ (n := 22) (S := fun w' => w'.cell? ⟨g, sh.o, none⟩ = some (.slice (some ⟨gh, 0, none⟩) m c) ∧ w'.cell? ⟨gh, k * 2, none⟩ = some (.int .i64 y.1) ∧ w'.cell? ⟨gh, k * 2 + 1, none⟩ = some (.int .i64 y.2) ∧ w'.cell? ⟨gh, k2 * 2, none⟩ = some (.int .i64 z.1) ∧ w'.cell? ⟨gh, k2 * 2 + 1, none⟩ = some (.int .i64 z.2)) (ds := []) #[false, false, false, false, false, false, false, false, false, false, false, false, false, false, false, false, false, false, false, false, false, false] (by kernel_rfl) rfl rfl ⟨c0, a0, a1, b0, b1⟩ (fun hHeld => ?_)
        refine pure_ (i := 0) (N := some 25) (v := ?_) (a' := ?_) #[true, false, false, false, false, false, false, false, false, false, false, false, false, false, false, false, false, false, false, false, false, false] rfl rfl (by kernel_rfl) (fun _ _ _ h => h) (Or.inl ⟨by rfl, ?_⟩) ?_ ?_
        rotate_left
        · intro w'
          go_simp
          with_reducible rfl
        rotate_left
        · simp only [Act.put, List.setIfInBounds_toArray, List.set_cons_zero, List.set_cons_succ, i64_w, i32_w]
          rfl
        refine pure_ (i := 1) (N := some 26) (v := ?_) (a' := ?_) #[true, true, false, false, false, false, false, false, false, false, false, false, false, false, false, false, false, false, false, false, false, false] rfl rfl (by kernel_rfl) (fun _ _ _ h => h) (Or.inl ⟨by rfl, ?_⟩) ?_ ?_
        rotate_left
        · intro w'
          go_simp
          with_reducible rfl
        rotate_left
        · simp only [Act.put, List.setIfInBounds_toArray, List.set_cons_zero, List.set_cons_succ, i64_w, i32_w]
          rfl
        refine pure_ (i := 2) (N := some 27) (v := ?_) (a' := ?_) #[true, true, true, false, false, false, false, false, false, false, false, false, false, false, false, false, false, false, false, false, false, false] rfl rfl (by kernel_rfl) (fun _ _ _ h => h) (Or.inl ⟨by rfl, ?_⟩) ?_ ?_
        rotate_left
        · intro w'
          go_simp
          with_reducible rfl
        rotate_left
        · simp only [Act.put, List.setIfInBounds_toArray, List.set_cons_zero, List.set_cons_succ, i64_w, i32_w]
          rfl
        refine pure_ (i := 3) (N := some 28) (v := ?_) (a' := ?_) #[true, true, true, true, false, false, false, false, false, false, false, false, false, false, false, false, false, false, false, false, false, false] rfl rfl (by kernel_rfl) (fun _ _ _ h => h) (Or.inl ⟨by rfl, ?_⟩) ?_ ?_
        rotate_left
        · intro w'
          go_simp
          with_reducible rfl
        rotate_left
        · simp only [Act.put, List.setIfInBounds_toArray, List.set_cons_zero, List.set_cons_succ, i64_w, i32_w]
          rfl
        refine pure_ (i := 4) (N := some 29) (v := ?_) (a' := ?_) #[true, true, true, true, true, false, false, false, false, false, false, false, false, false, false, false, false, false, false, false, false, false] rfl rfl (by kernel_rfl) (fun _ _ _ h => h) (Or.inl ⟨by rfl, ?_⟩) ?_ ?_
        rotate_left
        · intro w'
          go_simp
          with_reducible rfl
        rotate_left
        · simp only [Act.put, List.setIfInBounds_toArray, List.set_cons_zero, List.set_cons_succ, i64_w, i32_w]
          rfl
        refine pure_ (i := 5) (N := some 30) (v := ?_) (a' := ?_) #[true, true, true, true, true, true, false, false, false, false, false, false, false, false, false, false, false, false, false, false, false, false] rfl rfl (by kernel_rfl) (fun _ _ _ h => h) (Or.inl ⟨by rfl, ?_⟩) ?_ ?_
        rotate_left
        · intro w'
          go_simp
          with_reducible rfl
        rotate_left
        · simp only [Act.put, List.setIfInBounds_toArray, List.set_cons_zero, List.set_cons_succ, i64_w, i32_w]
          rfl
        refine pure_ (i := 6) (N := some 31) (v := ?_) (a' := ?_) #[true, true, true, true, true, true, true, false, false, false, false, false, false, false, false, false, false, false, false, false, false, false] rfl rfl (by kernel_rfl) (fun _ _ _ h => h) (Or.inl ⟨by rfl, ?_⟩) ?_ ?_
        rotate_left
        · intro w'
          go_simp
          with_reducible rfl
        rotate_left
        · simp only [Act.put, List.setIfInBounds_toArray, List.set_cons_zero, List.set_cons_succ, i64_w, i32_w]
          rfl
        refine pure_ (i := 7) (N := some 32) (v := ?_) (a' := ?_) #[true, true, true, true, true, true, true, true, false, false, false, false, false, false, false, false, false, false, false, false, false, false] rfl rfl (by kernel_rfl) (fun _ _ _ h => h) (Or.inl ⟨by rfl, ?_⟩) ?_ ?_
        rotate_left
        · intro w'
          go_simp
          with_reducible rfl
        rotate_left
        · simp only [Act.put, List.setIfInBounds_toArray, List.set_cons_zero, List.set_cons_succ, i64_w, i32_w]
          rfl
        refine pure_ (i := 9) (N := some 34) (v := ?_) (a' := ?_) #[true, true, true, true, true, true, true, true, false, true, false, false, false, false, false, false, false, false, false, false, false, false] rfl rfl (by kernel_rfl) (fun _ _ _ h => h) (Or.inl ⟨by rfl, ?_⟩) ?_ ?_
        rotate_left
        · intro w'
          go_simp
          with_reducible rfl
        rotate_left
        · simp only [Act.put, List.setIfInBounds_toArray, List.set_cons_zero, List.set_cons_succ, i64_w, i32_w]
          rfl
        refine pure_ (i := 10) (N := some 35) (v := ?_) (a' := ?_) #[true, true, true, true, true, true, true, true, false, true, true, false, false, false, false, false, false, false, false, false, false, false] rfl rfl (by kernel_rfl) (fun _ _ _ h => h) (Or.inl ⟨by rfl, ?_⟩) ?_ ?_
        rotate_left
        · intro w'
          go_simp
          with_reducible rfl
        rotate_left
        · simp only [Act.put, List.setIfInBounds_toArray, List.set_cons_zero, List.set_cons_succ, i64_w, i32_w]
          rfl
        refine pure_ (i := 13) (N := some 38) (v := ?_) (a' := ?_) #[true, true, true, true, true, true, true, true, false, true, true, false, false, true, false, false, false, false, false, false, false, false] rfl rfl (by kernel_rfl) (fun _ _ _ h => h) (Or.inl ⟨by rfl, ?_⟩) ?_ ?_
        rotate_left
        · intro w'
          go_simp
          with_reducible rfl
        rotate_left
        · simp only [Act.put, List.setIfInBounds_toArray, List.set_cons_zero, List.set_cons_succ, i64_w, i32_w]
          rfl
        refine pure_ (i := 14) (N := some 39) (v := ?_) (a' := ?_) #[true, true, true, true, true, true, true, true, false, true, true, false, false, true, true, false, false, false, false, false, false, false] rfl rfl (by kernel_rfl) (fun _ _ _ h => h) (Or.inl ⟨by rfl, ?_⟩) ?_ ?_
        rotate_left
        · intro w'
          go_simp
          with_reducible rfl
        rotate_left
        · simp only [Act.put, List.setIfInBounds_toArray, List.set_cons_zero, List.set_cons_succ, i64_w, i32_w]
          rfl
        refine pure_ (i := 15) (N := some 40) (v := ?_) (a' := ?_) #[true, true, true, true, true, true, true, true, false, true, true, false, false, true, true, true, false, false, false, false, false, false] rfl rfl (by kernel_rfl) (fun _ _ _ h => h) (Or.inl ⟨by rfl, ?_⟩) ?_ ?_
        rotate_left
        · intro w'
          go_simp
          with_reducible rfl
        rotate_left
        · simp only [Act.put, List.setIfInBounds_toArray, List.set_cons_zero, List.set_cons_succ, i64_w, i32_w]
          rfl
        refine pure_ (i := 17) (N := some 42) (v := ?_) (a' := ?_) #[true, true, true, true, true, true, true, true, false, true, true, false, false, true, true, true, false, true, false, false, false, false] rfl rfl (by kernel_rfl) (fun _ _ _ h => h) (Or.inl ⟨by rfl, ?_⟩) ?_ ?_
        rotate_left
        · intro w'
          go_simp
          with_reducible rfl
        rotate_left
        · simp only [Act.put, List.setIfInBounds_toArray, List.set_cons_zero, List.set_cons_succ, i64_w, i32_w]
          rfl
        refine take_ (i := 8) (N := some 33) (v := ?_) (a' := ?_) #[true, true, true, true, true, true, true, true, true, true, true, false, false, true, true, true, false, true, false, false, false, false] rfl rfl (by kernel_rfl) (fun _ _ _ h => h) (Or.inl ⟨by rfl, ?_⟩) hHeld ?_ ?_
        rotate_left
        · rintro w' ⟨s0, s1, s2, s3, s4⟩
          go_simp
          with_reducible rfl
        rotate_left
        · simp only [Act.put, List.setIfInBounds_toArray, List.set_cons_zero, List.set_cons_succ, i64_w, i32_w]
          rfl
        refine pure_ (i := 11) (N := some 36) (v := ?_) (a' := ?_) #[true, true, true, true, true, true, true, true, true, true, true, true, false, true, true, true, false, true, false, false, false, false] rfl rfl (by kernel_rfl) (fun _ _ _ h => h) (Or.inl ⟨by rfl, ?_⟩) ?_ ?_
        rotate_left
        · intro w'
          go_simp
          with_reducible rfl
        rotate_left
        · simp only [Act.put, List.setIfInBounds_toArray, List.set_cons_zero, List.set_cons_succ, i64_w, i32_w]
          rfl
        refine take_ (i := 12) (N := some 37) (v := ?_) (a' := ?_) #[true, true, true, true, true, true, true, true, true, true, true, true, true, true, true, true, false, true, false, false, false, false] rfl rfl (by kernel_rfl) (fun _ _ _ h => h) (Or.inl ⟨by rfl, ?_⟩) hHeld ?_ ?_
        rotate_left
        · rintro w' ⟨s0, s1, s2, s3, s4⟩
          go_simp
          with_reducible rfl
        rotate_left
        · simp only [Act.put, List.setIfInBounds_toArray, List.set_cons_zero, List.set_cons_succ, i64_w, i32_w]
          rfl
        refine take_ (i := 16) (N := some 41) (v := ?_) (a' := ?_) #[true, true, true, true, true, true, true, true, true, true, true, true, true, true, true, true, true, true, false, false, false, false] rfl rfl (by kernel_rfl) (fun _ _ _ h => h) (Or.inl ⟨by rfl, ?_⟩) hHeld ?_ ?_
        rotate_left
        · rintro w' ⟨s0, s1, s2, s3, s4⟩
          go_simp
          with_reducible rfl
        rotate_left
        · simp only [Act.put, List.setIfInBounds_toArray, List.set_cons_zero, List.set_cons_succ, i64_w, i32_w]
          rfl
        refine pure_ (i := 18) (N := some 43) (v := ?_) (a' := ?_) #[true, true, true, true, true, true, true, true, true, true, true, true, true, true, true, true, true, true, true, false, false, false] rfl rfl (by kernel_rfl) (fun _ _ _ h => h) (Or.inl ⟨by rfl, ?_⟩) ?_ ?_
        rotate_left
        · intro w'
          go_simp
          with_reducible rfl
        rotate_left
        · simp only [Act.put, List.setIfInBounds_toArray, List.set_cons_zero, List.set_cons_succ, i64_w, i32_w]
          rfl
        refine take_ (i := 19) (N := some 44) (v := ?_) (a' := ?_) #[true, true, true, true, true, true, true, true, true, true, true, true, true, true, true, true, true, true, true, true, false, false] rfl rfl (by kernel_rfl) (fun _ _ _ h => h) (Or.inl ⟨by rfl, ?_⟩) hHeld ?_ ?_
        rotate_left
        · rintro w' ⟨s0, s1, s2, s3, s4⟩
          go_simp
          with_reducible rfl
        rotate_left
        · simp only [Act.put, List.setIfInBounds_toArray, List.set_cons_zero, List.set_cons_succ, i64_w, i32_w]
          rfl
        refine one_ (i := 20) (N := some 45) #[true, true, true, true, true, true, true, true, true, true, true, true, true, true, true, true, true, true, true, true, true, false] rfl rfl (by kernel_rfl) (by decide) (fun K hK => ?_)
        refine goes_ Try.func98 (by kernel_rfl) rfl #[.agg #[.int .i64 z.1, .int .i64 z.2], .agg #[.int .i64 y.1, .int .i64 y.2]] (by rfl) rfl rfl (by simp only [List.map_toArray, List.map_cons, List.map_nil]; rfl) ?_
        with_reducible refine (less_any z y _).mono ?_
        rintro e w4 ⟨rfl, hb4⟩
        refine ⟨_, rfl, ?_⟩
        have HB4 := Aside0.mk (below_step (below_drew (Below.refl _ _)) hb4)
        have HT4 := Aside0.mk (HT2.out.below HB4.out)
        obtain ⟨u0, u1, _, _⟩ := HT4.out.at (i := k) HKM.out
        obtain ⟨v0, v1, _, _⟩ := HT4.out.at (i := k2) HKM2.out
        rw [← HY.out] at u0 u1
        rw [← HZ.out] at v0 v1
        refine hK.out _ _ ⟨HT4.out.c0, u0, u1, v0, v1⟩ (fun hHeld => ?_)
        clear hK K
        refine norm_ (a' := ?_) ?_ ?_
        rotate_left
        · show Act.put _ (some 45) _ = _
          simp only [Act.put, List.setIfInBounds_toArray, List.set_cons_zero, List.set_cons_succ, i64_w, i32_w]
          rfl
        refine pure_ (i := 21) (N := some 46) (v := ?_) (a' := ?_) #[true, true, true, true, true, true, true, true, true, true, true, true, true, true, true, true, true, true, true, true, true, true] rfl rfl (by kernel_rfl) (fun _ _ _ h => h) (Or.inl ⟨by rfl, ?_⟩) ?_ ?_
        rotate_left
        · intro w'
          go_simp
          with_reducible rfl
        rotate_left
        · simp only [Act.put, List.setIfInBounds_toArray, List.set_cons_zero, List.set_cons_succ, i64_w, i32_w]
          rfl
        refine done_ (by kernel_rfl) ?_
        first | go_meet | (go_step; go_meet) | (go_step; go_step; go_meet)
        case rel => exact ⟨by rw [d4]; rfl, HB4⟩
      · have d3 : decide ((k2 : Int) < (m : Int)) = false := decide_eq_false (by omega)
        have d4 : decide (k2 < m) = false := decide_eq_false c2
        clear c2
        refine start_ (n := 22) (S := fun w' => True) (ds := []) #[false, false, false, false, false, false, false, false, false, false, false, false, false, false, false, false, false, false, false, false, false, false] (by kernel_rfl) rfl rfl trivial (fun hHeld => ?_)
        refine pure_ (i := 0) (N := some 25) (v := ?_) (a' := ?_) #[true, false, false, false, false, false, false, false, false, false, false, false, false, false, false, false, false, false, false, false, false, false] rfl rfl (by kernel_rfl) (fun _ _ _ h => h) (Or.inl ⟨by rfl, ?_⟩) ?_ ?_
        rotate_left
        · intro w'
          go_simp
          with_reducible rfl
        rotate_left
        · simp only [Act.put, List.setIfInBounds_toArray, List.set_cons_zero, List.set_cons_succ, i64_w, i32_w]
          rfl
        refine pure_ (i := 1) (N := some 26) (v := ?_) (a' := ?_) #[true, true, false, false, false, false, false, false, false, false, false, false, false, false, false, false, false, false, false, false, false, false] rfl rfl (by kernel_rfl) (fun _ _ _ h => h) (Or.inl ⟨by rfl, ?_⟩) ?_ ?_
        rotate_left
        · intro w'
          go_simp
          with_reducible rfl
        rotate_left
        · simp only [Act.put, List.setIfInBounds_toArray, List.set_cons_zero, List.set_cons_succ, i64_w, i32_w]
          rfl
        refine pure_ (i := 2) (N := some 27) (v := ?_) (a' := ?_) #[true, true, true, false, false, false, false, false, false, false, false, false, false, false, false, false, false, false, false, false, false, false] rfl rfl (by kernel_rfl) (fun _ _ _ h => h) (Or.inl ⟨by rfl, ?_⟩) ?_ ?_
        rotate_left
        · intro w'
          go_simp
          with_reducible rfl
        rotate_left
        · simp only [Act.put, List.setIfInBounds_toArray, List.set_cons_zero, List.set_cons_succ, i64_w, i32_w]
          rfl
        refine pure_ (i := 3) (N := some 28) (v := ?_) (a' := ?_) #[true, true, true, true, false, false, false, false, false, false, false, false, false, false, false, false, false, false, false, false, false, false] rfl rfl (by kernel_rfl) (fun _ _ _ h => h) (Or.inl ⟨by rfl, ?_⟩) ?_ ?_
        rotate_left
        · intro w'
          go_simp
          with_reducible rfl
        rotate_left
        · simp only [Act.put, List.setIfInBounds_toArray, List.set_cons_zero, List.set_cons_succ, i64_w, i32_w]
          rfl
        refine pure_ (i := 4) (N := some 29) (v := ?_) (a' := ?_) #[true, true, true, true, true, false, false, false, false, false, false, false, false, false, false, false, false, false, false, false, false, false] rfl rfl (by kernel_rfl) (fun _ _ _ h => h) (Or.inl ⟨by rfl, ?_⟩) ?_ ?_
        rotate_left
        · intro w'
          go_simp
          with_reducible rfl
        rotate_left
        · simp only [Act.put, List.setIfInBounds_toArray, List.set_cons_zero, List.set_cons_succ, i64_w, i32_w]
          rfl
        refine pure_ (i := 5) (N := some 30) (v := undef) (a' := ?_) #[true, true, true, true, true, true, false, false, false, false, false, false, false, false, false, false, false, false, false, false, false, false] rfl rfl (by kernel_rfl) (fun _ _ _ h => h) (Or.inr ⟨by rfl, rfl⟩) ?_ ?_
        rotate_left
        · simp only [Act.put, List.setIfInBounds_toArray, List.set_cons_zero, List.set_cons_succ, i64_w, i32_w]
          rfl
        refine pure_ (i := 6) (N := some 31) (v := undef) (a' := ?_) #[true, true, true, true, true, true, true, false, false, false, false, false, false, false, false, false, false, false, false, false, false, false] rfl rfl (by kernel_rfl) (fun _ _ _ h => h) (Or.inr ⟨by rfl, rfl⟩) ?_ ?_
        rotate_left
        · simp only [Act.put, List.setIfInBounds_toArray, List.set_cons_zero, List.set_cons_succ, i64_w, i32_w]
          rfl
        refine pure_ (i := 7) (N := some 32) (v := undef) (a' := ?_) #[true, true, true, true, true, true, true, true, false, false, false, false, false, false, false, false, false, false, false, false, false, false] rfl rfl (by kernel_rfl) (fun _ _ _ h => h) (Or.inr ⟨by rfl, rfl⟩) ?_ ?_
        rotate_left
        · simp only [Act.put, List.setIfInBounds_toArray, List.set_cons_zero, List.set_cons_succ, i64_w, i32_w]
          rfl
        refine pure_ (i := 8) (N := some 33) (v := undef) (a' := ?_) #[true, true, true, true, true, true, true, true, true, false, false, false, false, false, false, false, false, false, false, false, false, false] rfl rfl (by kernel_rfl) (fun _ _ _ h => h) (Or.inr ⟨by rfl, rfl⟩) ?_ ?_
        rotate_left
        · simp only [Act.put, List.setIfInBounds_toArray, List.set_cons_zero, List.set_cons_succ, i64_w, i32_w]
          rfl
        refine pure_ (i := 9) (N := some 34) (v := undef) (a' := ?_) #[true, true, true, true, true, true, true, true, true, true, false, false, false, false, false, false, false, false, false, false, false, false] rfl rfl (by kernel_rfl) (fun _ _ _ h => h) (Or.inr ⟨by rfl, rfl⟩) ?_ ?_
        rotate_left
        · simp only [Act.put, List.setIfInBounds_toArray, List.set_cons_zero, List.set_cons_succ, i64_w, i32_w]
          rfl
        refine pure_ (i := 10) (N := some 35) (v := undef) (a' := ?_) #[true, true, true, true, true, true, true, true, true, true, true, false, false, false, false, false, false, false, false, false, false, false] rfl rfl (by kernel_rfl) (fun _ _ _ h => h) (Or.inr ⟨by rfl, rfl⟩) ?_ ?_
        rotate_left
        · simp only [Act.put, List.setIfInBounds_toArray, List.set_cons_zero, List.set_cons_succ, i64_w, i32_w]
          rfl
        refine pure_ (i := 11) (N := some 36) (v := undef) (a' := ?_) #[true, true, true, true, true, true, true, true, true, true, true, true, false, false, false, false, false, false, false, false, false, false] rfl rfl (by kernel_rfl) (fun _ _ _ h => h) (Or.inr ⟨by rfl, rfl⟩) ?_ ?_
        rotate_left
        · simp only [Act.put, List.setIfInBounds_toArray, List.set_cons_zero, List.set_cons_succ, i64_w, i32_w]
          rfl
        refine pure_ (i := 12) (N := some 37) (v := undef) (a' := ?_) #[true, true, true, true, true, true, true, true, true, true, true, true, true, false, false, false, false, false, false, false, false, false] rfl rfl (by kernel_rfl) (fun _ _ _ h => h) (Or.inr ⟨by rfl, rfl⟩) ?_ ?_
        rotate_left
        · simp only [Act.put, List.setIfInBounds_toArray, List.set_cons_zero, List.set_cons_succ, i64_w, i32_w]
          rfl
        refine pure_ (i := 13) (N := some 38) (v := undef) (a' := ?_) #[true, true, true, true, true, true, true, true, true, true, true, true, true, true, false, false, false, false, false, false, false, false] rfl rfl (by kernel_rfl) (fun _ _ _ h => h) (Or.inr ⟨by rfl, rfl⟩) ?_ ?_
        rotate_left
        · simp only [Act.put, List.setIfInBounds_toArray, List.set_cons_zero, List.set_cons_succ, i64_w, i32_w]
          rfl
        refine pure_ (i := 14) (N := some 39) (v := undef) (a' := ?_) #[true, true, true, true, true, true, true, true, true, true, true, true, true, true, true, false, false, false, false, false, false, false] rfl rfl (by kernel_rfl) (fun _ _ _ h => h) (Or.inr ⟨by rfl, rfl⟩) ?_ ?_
        rotate_left
        · simp only [Act.put, List.setIfInBounds_toArray, List.set_cons_zero, List.set_cons_succ, i64_w, i32_w]
          rfl
        refine pure_ (i := 15) (N := some 40) (v := undef) (a' := ?_) #[true, true, true, true, true, true, true, true, true, true, true, true, true, true, true, true, false, false, false, false, false, false] rfl rfl (by kernel_rfl) (fun _ _ _ h => h) (Or.inr ⟨by rfl, rfl⟩) ?_ ?_
        rotate_left
        · simp only [Act.put, List.setIfInBounds_toArray, List.set_cons_zero, List.set_cons_succ, i64_w, i32_w]
          rfl
        refine pure_ (i := 16) (N := some 41) (v := undef) (a' := ?_) #[true, true, true, true, true, true, true, true, true, true, true, true, true, true, true, true, true, false, false, false, false, false] rfl rfl (by kernel_rfl) (fun _ _ _ h => h) (Or.inr ⟨by rfl, rfl⟩) ?_ ?_
        rotate_left
        · simp only [Act.put, List.setIfInBounds_toArray, List.set_cons_zero, List.set_cons_succ, i64_w, i32_w]
          rfl
        refine pure_ (i := 17) (N := some 42) (v := undef) (a' := ?_) #[true, true, true, true, true, true, true, true, true, true, true, true, true, true, true, true, true, true, false, false, false, false] rfl rfl (by kernel_rfl) (fun _ _ _ h => h) (Or.inr ⟨by rfl, rfl⟩) ?_ ?_
        rotate_left
        · simp only [Act.put, List.setIfInBounds_toArray, List.set_cons_zero, List.set_cons_succ, i64_w, i32_w]
          rfl
        refine pure_ (i := 18) (N := some 43) (v := undef) (a' := ?_) #[true, true, true, true, true, true, true, true, true, true, true, true, true, true, true, true, true, true, true, false, false, false] rfl rfl (by kernel_rfl) (fun _ _ _ h => h) (Or.inr ⟨by rfl, rfl⟩) ?_ ?_
        rotate_left
        · simp only [Act.put, List.setIfInBounds_toArray, List.set_cons_zero, List.set_cons_succ, i64_w, i32_w]
          rfl
        refine pure_ (i := 19) (N := some 44) (v := undef) (a' := ?_) #[true, true, true, true, true, true, true, true, true, true, true, true, true, true, true, true, true, true, true, true, false, false] rfl rfl (by kernel_rfl) (fun _ _ _ h => h) (Or.inr ⟨by rfl, rfl⟩) ?_ ?_
        rotate_left
        · simp only [Act.put, List.setIfInBounds_toArray, List.set_cons_zero, List.set_cons_succ, i64_w, i32_w]
          rfl
        refine pure_ (i := 20) (N := some 45) (v := undef) (a' := ?_) #[true, true, true, true, true, true, true, true, true, true, true, true, true, true, true, true, true, true, true, true, true, false] rfl rfl (by kernel_rfl) (fun _ _ _ h => h) (Or.inr ⟨by rfl, rfl⟩) ?_ ?_
        rotate_left
        · simp only [Act.put, List.setIfInBounds_toArray, List.set_cons_zero, List.set_cons_succ, i64_w, i32_w]
          rfl
        refine pure_ (i := 21) (N := some 46) (v := ?_) (a' := ?_) #[true, true, true, true, true, true, true, true, true, true, true, true, true, true, true, true, true, true, true, true, true, true] rfl rfl (by kernel_rfl) (fun _ _ _ h => h) (Or.inl ⟨by rfl, ?_⟩) ?_ ?_
        rotate_left
        · intro w'
          go_simp
          with_reducible rfl
        rotate_left
        · simp only [Act.put, List.setIfInBounds_toArray, List.set_cons_zero, List.set_cons_succ, i64_w, i32_w]
          rfl
        refine done_ (by kernel_rfl) ?_
        first | go_meet | (go_step; go_meet) | (go_step; go_step; go_meet)
        case rel => exact ⟨by rw [d4]; rfl, ⟨below_drew (Below.refl _ _)⟩⟩
    case rest =>
      obtain ⟨rfl, HB5⟩ := hcut
      have HT5 := Aside0.mk (HT2.out.below HB5.out)
      have HC5 := Aside0.mk (HC2.out.trans (.of_below HB5.out))
      have HX5 := Aside0.mk (blk_below HX2.out HB5.out)
      have hm := HT2.out.len
      have hdk := dk_le j ys
      obtain ⟨d, hd⟩ : ∃ d, d = dk j ys := ⟨_, rfl⟩
      have HV := Aside0.mk (show (decide (k2 < m) && lss z y) = true → d = k2 from fun h => by
        rw [Bool.and_eq_true] at h
        have h1 := of_decide_eq_true h.1
        have h2 := HK.out
        have h3 := HK2.out
        rw [hd]
        unfold dk
        rw [if_pos ⟨by omega, by rw [show 2 * j + 2 = k2 from by omega, show 2 * j + 1 = k from by omega, ← HZ.out, ← HY.out]; exact h.2⟩]
        omega)
      have HV2 := Aside0.mk (show (decide (k2 < m) && lss z y) = false → d = k from fun h => by
        have h2 := HK.out
        have h3 := HK2.out
        rw [hd]
        unfold dk
        rw [if_neg (fun q => by
          have q1 := q.1
          have q2 := q.2
          rw [show 2 * j + 2 = k2 from by omega, show 2 * j + 1 = k from by omega, ← HZ.out, ← HY.out] at q2
          rw [q2, decide_eq_true (show k2 < m by omega)] at h
          cases h)]
        omega)
      rw [← hd] at hdk
      have HD := Aside0.mk (show d = dk j ys ∧ j < d ∧ d < ys.length from ⟨hd, by omega, by have := HKM.out; have := HK.out; omega⟩)
      clear hm hdk hd HT2 HC2 HX2 HB5 a0 a1 f0 f1 c0 x0 x1 p1 p2 d1 d2 E3
      go_upto_if 46 with (fail)
      go_cut [6] (fun v6 w6 => v6 = .int .i64 (d : Int) ∧ w6 = wc)
      case first =>
        cases hb : (decide (k2 < m) && lss z y)
        · have e := HV2.out hb
          go_wp2
          go_meet
          case rel => exact ⟨by rw [e], rfl⟩
        · have e := HV.out hb
          have e3 : IntKind.i64.wrap ((k : Int) + 1) = (k2 : Int) := by have := HK2.out; have := HL.out; have := HN.out; have := HD.out; have := HK.out; rw [i64_w]; unfold wrap64; omega
          go_wp2
          go_meet
          case rel => exact ⟨by rw [e], rfl⟩
      case rest =>
        obtain ⟨rfl, rfl⟩ := hcut
        clear HV HV2
        have c0 := HT5.out.c0
        have x0 := (blk_cell HX5.out 0).trans rfl
        have x1 := (blk_cell HX5.out 1).trans rfl
        have x0 : _ = some (Value.int .i64 x.1) := x0
        have x1 : _ = some (Value.int .i64 x.2) := x1
        obtain ⟨a0, a1, _, _⟩ := HT5.out.at (i := d) HD.out.2.2
        obtain ⟨t, ht⟩ : ∃ t, t = ys.getD d (0, 0) := ⟨_, rfl⟩
        have HTD := Aside0.mk ht
        rw [← ht] at a0 a1
        have hm := HT5.out.len
        have p1 : ((0 : Int) ≤ (d : Int)) = True := eq_true (by omega)
        have p2 : ((d : Int) < (m : Int)) = True := eq_true (by have := HD.out; omega)
        have HUS := Aside0.mk (show downF (k1 + 1) x j ys q = if lss t x = true then downF k1 x d (ys.set j t) (upd q t.2 j) else (ys.set j x, upd q x.2 j) from by
          simp only [downF]
          rw [← HD.out.1, ← ht]
          by_cases h : lss t x = true
          · rw [if_pos ⟨by have := HKM.out; have := HK.out; omega, h⟩, if_pos h]
          · rw [if_neg (fun q => h q.2), if_neg h])
        clear ht hm
        go_upto_region 5 with (fail)
        go_cut [58] (fun v58 w7 => v58 = .bool (!lss t x) ∧ Aside0 (T sh w7 base g (.slice (some ⟨gh, 0, none⟩) m c) b n' ys q) ∧ Aside0 (Chg (St g b (.slice (some ⟨gh, 0, none⟩) m c)) W w7) ∧ Aside0 (w7.heap[gx]? = some (.cells #[.int .i64 x.1, .int .i64 x.2] 145 (0, 0))))
        case first =>
          refine start_ (n := 10) (S := fun w' => w'.cell? ⟨g, sh.o, none⟩ = some (.slice (some ⟨gh, 0, none⟩) m c) ∧ w'.cell? ⟨gh, d * 2, none⟩ = some (.int .i64 t.1) ∧ w'.cell? ⟨gh, d * 2 + 1, none⟩ = some (.int .i64 t.2) ∧ w'.cell? ⟨gx, 0, none⟩ = some (.int .i64 x.1) ∧ w'.cell? ⟨gx, 1, none⟩ = some (.int .i64 x.2)) (ds := []) #[false, false, false, false, false, false, false, false, false, false] (by kernel_rfl) rfl rfl ⟨c0, a0, a1, x0, x1⟩ (fun hHeld => ?_)
          refine pure_ (i := 0) (N := some 49) (v := ?_) (a' := ?_) #[true, false, false, false, false, false, false, false, false, false] rfl rfl (by kernel_rfl) (fun _ _ _ h => h) (Or.inl ⟨by rfl, ?_⟩) ?_ ?_
          rotate_left
          · intro w'
            go_simp
            with_reducible rfl
          rotate_left
          · simp only [Act.put, List.setIfInBounds_toArray, List.set_cons_zero, List.set_cons_succ, i64_w, i32_w]
            rfl
          refine pure_ (i := 1) (N := some 50) (v := ?_) (a' := ?_) #[true, true, false, false, false, false, false, false, false, false] rfl rfl (by kernel_rfl) (fun _ _ _ h => h) (Or.inl ⟨by rfl, ?_⟩) ?_ ?_
          rotate_left
          · intro w'
            go_simp
            with_reducible rfl
          rotate_left
          · simp only [Act.put, List.setIfInBounds_toArray, List.set_cons_zero, List.set_cons_succ, i64_w, i32_w]
            rfl
          refine pure_ (i := 2) (N := some 51) (v := ?_) (a' := ?_) #[true, true, true, false, false, false, false, false, false, false] rfl rfl (by kernel_rfl) (fun _ _ _ h => h) (Or.inl ⟨by rfl, ?_⟩) ?_ ?_
          rotate_left
          · intro w'
            go_simp
            with_reducible rfl
          rotate_left
          · simp only [Act.put, List.setIfInBounds_toArray, List.set_cons_zero, List.set_cons_succ, i64_w, i32_w]
            rfl
          refine pure_ (i := 4) (N := some 53) (v := ?_) (a' := ?_) #[true, true, true, false, true, false, false, false, false, false] rfl rfl (by kernel_rfl) (fun _ _ _ h => h) (Or.inl ⟨by rfl, ?_⟩) ?_ ?_
          rotate_left
          · intro w'
            go_simp
            with_reducible rfl
          rotate_left
          · simp only [Act.put, List.setIfInBounds_toArray, List.set_cons_zero, List.set_cons_succ, i64_w, i32_w]
            rfl
          refine take_ (i := 3) (N := some 52) (v := ?_) (a' := ?_) #[true, true, true, true, true, false, false, false, false, false] rfl rfl (by kernel_rfl) (fun _ _ _ h => h) (Or.inl ⟨by rfl, ?_⟩) hHeld ?_ ?_
          rotate_left
          · rintro w' ⟨s0, s1, s2, s3, s4⟩
            go_simp
            with_reducible rfl
          rotate_left
          · simp only [Act.put, List.setIfInBounds_toArray, List.set_cons_zero, List.set_cons_succ, i64_w, i32_w]
            rfl
          refine pure_ (i := 5) (N := some 54) (v := ?_) (a' := ?_) #[true, true, true, true, true, true, false, false, false, false] rfl rfl (by kernel_rfl) (fun _ _ _ h => h) (Or.inl ⟨by rfl, ?_⟩) ?_ ?_
          rotate_left
          · intro w'
            go_simp
            with_reducible rfl
          rotate_left
          · simp only [Act.put, List.setIfInBounds_toArray, List.set_cons_zero, List.set_cons_succ, i64_w, i32_w]
            rfl
          refine take_ (i := 6) (N := some 55) (v := ?_) (a' := ?_) #[true, true, true, true, true, true, true, false, false, false] rfl rfl (by kernel_rfl) (fun _ _ _ h => h) (Or.inl ⟨by rfl, ?_⟩) hHeld ?_ ?_
          rotate_left
          · rintro w' ⟨s0, s1, s2, s3, s4⟩
            go_simp
            with_reducible rfl
          rotate_left
          · simp only [Act.put, List.setIfInBounds_toArray, List.set_cons_zero, List.set_cons_succ, i64_w, i32_w]
            rfl
          refine take_ (i := 7) (N := some 56) (v := ?_) (a' := ?_) #[true, true, true, true, true, true, true, true, false, false] rfl rfl (by kernel_rfl) (fun _ _ _ h => h) (Or.inl ⟨by rfl, ?_⟩) hHeld ?_ ?_
          rotate_left
          · rintro w' ⟨s0, s1, s2, s3, s4⟩
            go_simp
            with_reducible rfl
          rotate_left
          · simp only [Act.put, List.setIfInBounds_toArray, List.set_cons_zero, List.set_cons_succ, i64_w, i32_w]
            rfl
          refine one_ (i := 8) (N := some 57) #[true, true, true, true, true, true, true, true, true, false] rfl rfl (by kernel_rfl) (by decide) (fun K hK => ?_)
          refine goes_ Try.func98 (by kernel_rfl) rfl #[.agg #[.int .i64 t.1, .int .i64 t.2], .agg #[.int .i64 x.1, .int .i64 x.2]] (by rfl) rfl rfl (by simp only [List.map_toArray, List.map_cons, List.map_nil]; rfl) ?_
          with_reducible refine (less_any t x _).mono ?_
          rintro e w4 ⟨rfl, hb4⟩
          refine ⟨_, rfl, ?_⟩
          have HB4 := Aside0.mk (below_step (below_drew (Below.refl _ _)) hb4)
          have HT4 := Aside0.mk (HT5.out.below HB4.out)
          have HX4 := Aside0.mk (blk_below HX5.out HB4.out)
          obtain ⟨u0, u1, _, _⟩ := HT4.out.at (i := d) HD.out.2.2
          rw [← HTD.out] at u0 u1
          refine hK.out _ _ ⟨HT4.out.c0, u0, u1, (blk_cell HX4.out 0).trans rfl, (blk_cell HX4.out 1).trans rfl⟩ (fun hHeld => ?_)
          clear hK K
          refine norm_ (a' := ?_) ?_ ?_
          rotate_left
          · show Act.put _ (some 57) _ = _
            simp only [Act.put, List.setIfInBounds_toArray, List.set_cons_zero, List.set_cons_succ, i64_w, i32_w]
            rfl
          refine pure_ (i := 9) (N := some 58) (v := ?_) (a' := ?_) #[true, true, true, true, true, true, true, true, true, true] rfl rfl (by kernel_rfl) (fun _ _ _ h => h) (Or.inl ⟨by rfl, ?_⟩) ?_ ?_
          rotate_left
          · intro w'
            go_simp
            with_reducible rfl
          rotate_left
          · simp only [Act.put, List.setIfInBounds_toArray, List.set_cons_zero, List.set_cons_succ, i64_w, i32_w]
            rfl
          refine done_ (by kernel_rfl) ?_
          first | go_meet | (go_step; go_meet) | (go_step; go_step; go_meet)
          case rel => exact ⟨rfl, HT4, ⟨HC5.out.trans (.of_below HB4.out)⟩, HX4⟩
        case rest =>
          clear HT5 HC5 HX5 c0 x0 x1 a0 a1
          obtain ⟨rfl, HT5, HC5, HX5⟩ := hcut
          have c0 := HT5.out.c0
          have x0 := (blk_cell HX5.out 0).trans rfl
          have x1 := (blk_cell HX5.out 1).trans rfl
          have x0 : _ = some (Value.int .i64 x.1) := x0
          have x1 : _ = some (Value.int .i64 x.2) := x1
          obtain ⟨a0, a1, _, _⟩ := HT5.out.at (i := d) HD.out.2.2
          rw [← HTD.out] at a0 a1
          cases c2 : lss t x
          · have hE : downF xs.length x i xs p = (ys.set j x, upd q x.2 j) := by
              rw [← HU.out, HUS.out, if_neg (by rw [c2]; decide)]
            go_wp2_with (go_at_call 99; refine HP.out _ HT5 HC5 hE _ ?_; rintro e w9 ⟨rfl, hT9, hC9⟩)
            refine bodyPost_end (results_none rfl _ _ _) rfl ?_
            exact ⟨rfl, hT9, hC9⟩
          · have hE := Aside0.mk (show downF k1 x d (ys.set j t) (upd q t.2 j) = downF xs.length x i xs p from by
              rw [← HU.out, HUS.out, if_pos c2])
            have wt := Aside0.mk (show (Lit.int .i64 t.2).wf = true from by rw [HTD.out]; exact HW.out d)
            go_wp2_with (go_at_call 99; refine (put_any HT5.out (by have := HL.out; omega) wt.out (by have := HL.out; have := HN.out; omega) (by have := HL.out; have := HN.out; omega)).mono ?_; rintro e w9 ⟨rfl, HT9, hC9⟩; have HC9 := Aside0.mk hC9; clear hC9)
            go_roundg k1
            case measure => omega
            case rel =>
              exact ⟨d, n' + 1, ys.set j t, upd q t.2 j, rfl, ⟨by have := HL.out; have := HD.out; simp only [List.length_set]; omega⟩, hE, ⟨HW.out.set_ (by have := HL.out; omega) wt.out⟩, HT9, ⟨HC5.out.trans HC9.out⟩, ⟨(HC9.out.block gx (blk_lt HX5.out) HG.out).trans HX5.out⟩⟩
end
end Go.Proofs.Ytakbhnfmimnbhaa.Tm
