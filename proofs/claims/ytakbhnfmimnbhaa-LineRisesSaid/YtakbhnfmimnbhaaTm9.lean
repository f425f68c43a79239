/- Timers: Due. Conditions: none. -/
import Derived.Test.YtakbhnfmimnbhaaTm8
namespace Go.Proofs.Ytakbhnfmimnbhaa.Tm
open Go.RowKit Go.Proofs.YtakbhnfmimnbhaaW.PrintWords Go.Proofs.YtakbhnfmimnbhaaW.PrintLast
set_option linter.unusedVariables false
set_option linter.unusedSimpArgs false
variable {sh : Shp}
theorem downF_len : ∀ k x i xs p, (downF k x i xs p).1.length = xs.length
  | 0, x, i, xs, p => by simp [downF]
  | k + 1, x, i, xs, p => by
    simp only [downF]
    split
    · rw [downF_len, List.length_set]
    · simp
theorem cutF_len {i : Nat} {xs : List (Int × Int)} {p : Int → Option Int} (hi : i < xs.length) : (cutF i xs p).1.length = xs.length - 1 := by
  unfold cutF
  dsimp only
  split
  · simp
  · rw [downF_len, (upF_at i _ i _ _ (by simp; omega)).1]
    simp
theorem Wx.downF : ∀ k x i xs p, i < xs.length → Wx xs → (Lit.int .i64 x.2).wf = true → Wx (Tm.downF k x i xs p).1
  | 0, x, i, xs, p, h, hw, hx => hw.set_ h hx
  | k + 1, x, i, xs, p, h, hw, hx => by
    simp only [Tm.downF]
    split
    · rename_i c
      have := dk_le i xs
      exact Wx.downF k x _ _ _ (by rw [List.length_set]; omega) (hw.set_ h (hw _)) hx
    · exact hw.set_ h hx
theorem Wx.cutF {i : Nat} {xs : List (Int × Int)} {p : Int → Option Int} (hw : Wx xs) (hi : i < xs.length) : Wx (Tm.cutF i xs p).1 := by
  unfold Tm.cutF
  dsimp only
  split
  · exact hw.take _
  · rename_i c
    have hl : i < ((xs.take (xs.length - 1)).set i (xs.getD (xs.length - 1) (0, 0))).length := by simp; omega
    have hu := Wx.upF i (xs.getD (xs.length - 1) (0, 0)) i ((xs.take (xs.length - 1)).set i (xs.getD (xs.length - 1) (0, 0))) (upd (del p (xs.getD i (0, 0)).2) (xs.getD (xs.length - 1) (0, 0)).2 (i : Int)) hl ((hw.take _).set_ (by simp; omega) (hw _)) (hw _)
    obtain ⟨h1, j, h2, h3, h4⟩ := upF_at i (xs.getD (xs.length - 1) (0, 0)) i ((xs.take (xs.length - 1)).set i (xs.getD (xs.length - 1) (0, 0))) (upd (del p (xs.getD i (0, 0)).2) (xs.getD (xs.length - 1) (0, 0)).2 (i : Int)) hl
    refine Wx.downF _ _ _ _ _ ?_ hu (hu _)
    rw [h3, h1]
    show j < _
    omega
/-- What is due, in order, and what is left. -/
def dueF : Nat → Int → List (Int × Int) → (Int → Option Int) → List Int → List Int × List (Int × Int) × (Int → Option Int)
  | 0, _, xs, p, acc => (acc, xs, p)
  | k + 1, now, xs, p, acc => if 0 < xs.length ∧ (xs.getD 0 (0, 0)).1 ≤ now then dueF k now (cutF 0 xs p).1 (cutF 0 xs p).2 (acc ++ [(xs.getD 0 (0, 0)).2]) else (acc, xs, p)
theorem info3' : (Try.prog.info? 3).map (fun i => (i.zero, i.size, i.bytes)) = some (some (.int .i64 0), 1, 8) := by kernel_rfl
section
variable {W W' : World} {base g n : Nat} {xs : List (Int × Int)} {p : Int → Option Int} {S S2 : Nat → Prop}
set_option maxHeartbeats 4000000 in
set_option maxRecDepth 100000 in
theorem due_any (h : TT sh W base g n xs p S) (hw : Wx xs) (now : Int) (hl : xs.length ≤ 1000) (hn : n + 4000 * xs.length < 10000000000) :
    Calls Try.prog 74 #[.pointer (some ⟨g, sh.o, none⟩), .int .i64 now] W fun e w' => ∃ v, e = .returned v ∧
      Aside0 (Kd.R (Kd.int .i64) 3 w' W.heap.size (fun k => W.heap.size ≤ k) v (dueF xs.length now xs p []).1) ∧
      Aside0 (∃ S', TT sh w' base g (n + 4000 * xs.length) (dueF xs.length now xs p []).2.1 (dueF xs.length now xs p []).2.2 S' ∧ ∀ k, S' k → S k) ∧ Chg S W w' := by
  have hu28 := Try.underlying42
  have hu77 := Try.underlying145
  have HT := Aside0.mk h
  have HW := Aside0.mk hw
  have HN := Aside0.mk (show xs.length ≤ 1000 ∧ n + 4000 * xs.length < 10000000000 from ⟨hl, hn⟩)
  have HS0 := Aside0.mk h.lt
  clear h hw hl hn
  go_enter Try.func74, Try.ntmps74
  go_wp2
  go_loopg [5] xs.length (fun kq v5 w' => ∃ (n' : Nat) (ys : List (Int × Int)) (q : Int → Option Int) (acc : List Int), Aside0 (∃ S', TT sh w' base g n' ys q S' ∧ ∀ k, S' k → S k) ∧ Aside0 (Kd.R (Kd.int .i64) 3 w' W.heap.size (fun k => W.heap.size ≤ k) v5 acc) ∧ Aside0 (dueF kq now ys q acc = dueF xs.length now xs p []) ∧ Aside0 (ys.length ≤ kq ∧ ys.length ≤ xs.length ∧ n' + 4000 * ys.length ≤ n + 4000 * xs.length ∧ acc.length + ys.length = xs.length) ∧ Aside0 (Wx ys) ∧ Aside0 (Chg S W w'))
  case atStart => exact ⟨n, xs, p, [], ⟨S, HT.out, fun _ h => h⟩, ⟨Kd.R_nil _ _ _ _ _⟩, ⟨rfl⟩, ⟨Nat.le_refl _, Nat.le_refl _, Nat.le_refl _, by simp⟩, HW, ⟨Chg.refl _ _⟩⟩
  case round =>
    clear HW
    obtain ⟨n', ys, q, acc, HT2, HR, HU, HL, HW, HC⟩ := hrel
    obtain ⟨S2, hT2, hS2⟩ := HT2.out
    clear HT2
    have HT2 := Aside0.mk hT2
    have HS2 := Aside0.mk hS2
    obtain ⟨Aa, ca, rfl⟩ := Kd.R_slice HR.out
    have hlen := len_any hT2
    by_cases c1 : 0 < ys.length ∧ (ys.getD 0 (0, 0)).1 ≤ now
    case neg =>
      have HE := Aside0.mk (show dueF xs.length now xs p [] = (acc, ys, q) from by
        rw [← HU.out]
        cases gk with
        | zero => rfl
        | succ k => simp only [dueF]; rw [if_neg c1])
      have HLEN := Aside0.mk hlen
      by_cases c2 : ys.length = 0
      · have d1 : decide ((0 : Int) < (ys.length : Int)) = false := decide_eq_false (by omega)
        have d2 : decide (0 < ys.length) = false := decide_eq_false (by omega)
        clear c1 c2 hlen hT2 hS2
        obtain ⟨k9, hk9⟩ : ∃ k9, k9 = ys.length := ⟨_, rfl⟩
        rw [← hk9] at d1 d2 HLEN
        clear hk9
        go_wp2_with (go_at_call 95; refine HLEN.out.mono ?_; rintro e w3 ⟨rfl, rfl⟩)
        go_ret
        refine ⟨_, rfl, ⟨?_⟩, ⟨S2, ?_, HS2.out⟩, HC.out⟩
        · rw [HE.out]; exact HR.out
        · rw [HE.out]; exact HT2.out.mono (by have := HL.out; omega)
      · rcases hT2 with ⟨v, h, h1, _⟩ | ⟨gh, m, c, b, h, _⟩
        · exact absurd (by rw [h1]; rfl) c2
        have c0 := h.c0
        have hm := h.len
        obtain ⟨a0, a1, _, _⟩ := h.at (i := 0) (by omega)
        rw [Nat.zero_mul] at a0 a1
        rw [Nat.zero_add] at a1
        have p2 : ((0 : Int) < (m : Int)) = True := eq_true (by omega)
        have p3 : (0 < m) = True := eq_true (by omega)
        have d1 : decide ((0 : Int) < (ys.length : Int)) = true := decide_eq_true (by omega)
        have d2 : decide (0 < ys.length) = true := decide_eq_true (by omega)
        have d3 : decide ((ys.getD 0 (0, 0)).1 ≤ now) = false := decide_eq_false (fun h => c1 ⟨by omega, h⟩)
        clear c1 c2 hlen hS2 hm h
        obtain ⟨k9, hk9⟩ : ∃ k9, k9 = ys.length := ⟨_, rfl⟩
        rw [← hk9] at d1 d2 HLEN
        clear hk9
        obtain ⟨y, hy⟩ : ∃ y, y = ys.getD 0 (0, 0) := ⟨_, rfl⟩
        rw [← hy] at a0 a1 d3
        clear hy
        go_wp2_with (go_at_call 95; refine HLEN.out.mono ?_; rintro e w3 ⟨rfl, rfl⟩)
        go_ret
        refine ⟨_, rfl, ⟨?_⟩, ⟨S2, ?_, HS2.out⟩, HC.out⟩
        · rw [HE.out]; exact HR.out
        · rw [HE.out]; exact HT2.out.mono (by have := HL.out; omega)
    have HLEN := Aside0.mk hlen
    have hL := HL.out
    obtain ⟨k1, rfl⟩ : ∃ k, gk = k + 1 := ⟨gk - 1, by omega⟩
    rcases hT2 with ⟨v, h, h1, _⟩ | ⟨gh, m, c, b, h, hSb⟩
    · exact absurd c1.1 (by rw [h1]; decide)
    have c0 := h.c0
    have hm := h.len
    obtain ⟨a0, a1, _, _⟩ := h.at (i := 0) (by omega)
    rw [Nat.zero_mul] at a0 a1
    rw [Nat.zero_add] at a1
    have p2 : ((0 : Int) < (m : Int)) = True := eq_true (by omega)
    have p3 : (0 < m) = True := eq_true (by omega)
    have d1 : decide ((0 : Int) < (ys.length : Int)) = true := decide_eq_true (by omega)
    have d2 : decide (0 < ys.length) = true := decide_eq_true (by omega)
    have d3 : decide ((ys.getD 0 (0, 0)).1 ≤ now) = true := decide_eq_true c1.2
    have HUS := Aside0.mk (show dueF k1 now (cutF 0 ys q).1 (cutF 0 ys q).2 (acc ++ [(ys.getD 0 (0, 0)).2]) = dueF xs.length now xs p [] from by
      rw [← HU.out]
      simp only [dueF]
      rw [if_pos c1])
    have HT3 := Aside0.mk h
    have HYP := Aside0.mk c1.1
    have HSb := Aside0.mk (show ∀ k, SB g b gh k → S k from fun k hk => hS2 k (by rw [hSb]; exact hk))
    clear c1 hlen hS2 hm h hL hSb
    obtain ⟨k9, hk9⟩ : ∃ k9, k9 = ys.length := ⟨_, rfl⟩
    rw [← hk9] at d1 d2 HLEN
    clear hk9
    obtain ⟨y, hy⟩ : ∃ y, y = ys.getD 0 (0, 0) := ⟨_, rfl⟩
    rw [← hy] at a0 a1 d3 HUS
    clear hy
    have hal : (acc.length + 1) * 8 ≤ 140737488355328 := by have := HL.out; have := HN.out; omega
    have HAL := Aside0.mk hal
    clear hal
    go_upto_region 4 with (first
      | (go_at_call 95; refine HLEN.out.mono ?_; rintro e w3 ⟨rfl, rfl⟩)
      | ((with_reducible refine gate_dst (N := 29) rfl ?_); refine Kd.R_append (Kd.int .i64) (w0 := w3) W.heap.size rfl (.tmp 20) (.tmp 28) 85 3 (.int .i64 0) 8 rfl Try.underlying85 info3' rfl (by decide) (by decide) (.slice Aa acc.length ca) acc y.2 [.int .i64 y.2] (fun k => W.heap.size ≤ k) (fun _ => False) rfl rfl rfl (fun _ hk => hk.elim) (fun k hk => Nat.le_trans HC.out.size hk) HR.out (Below.refl _ _) HC.out.size HAL.out ?_; intro v4 w4 hr4 hb4 hg4 hat4; obtain ⟨A4, c4, rfl⟩ := Kd.R_slice hr4; have HR4 := Aside0.mk hr4; have HG4 := Aside0.mk hg4; clear hr4 hb4 hg4 hat4))
    have hSt : ∀ k, St g b (.slice (some ⟨gh, 0, none⟩) m c) k → k < W.heap.size := fun k hk => HS0.out k (HSb.out k (St_SB.1 hk))
    have HST := Aside0.mk hSt
    have hrow : ∀ k, (Value.slice Aa acc.length ca).ownBlock = some k → W.heap.size ≤ k := Kd.R_base HR.out
    have HT4 := Aside0.mk (HT3.out.kept (S := fun k => W.heap.size ≤ k) (.grown HG4.out hrow) (fun k hk q => by have := hSt k hk; omega))
    have HC4 := Aside0.mk (Chg.narrow (Chg.trans (S := fun k => S k ∨ W.heap.size ≤ k) (HC.out.mono (fun k hk => .inl hk)) (.grown HG4.out (fun k hk => .inr (hrow k hk)))))
    have HCU := Aside0.mk (cut_any HT4.out HW.out (i := 0) HYP.out (by have := HL.out; have := HN.out; omega))
    clear hSt hrow a0 a1 c0 p2 p3 d1 d2 d3
    go_wp2_with (go_at_call 87; refine HCU.out.mono ?_; rintro e w5 ⟨rfl, HT5, hC5⟩; have HC5 := Aside0.mk hC5; clear hC5)
    go_roundg k1
    case measure => omega
    case rel =>
      refine ⟨n' + 3 * ys.length + 4, (cutF 0 ys q).1, (cutF 0 ys q).2, acc ++ [y.2], ⟨SB g b gh, .inr ⟨gh, m - 1, c, b, HT5.out, rfl⟩, HSb.out⟩, ⟨?_⟩, HUS, ⟨?_⟩, ⟨HW.out.cutF HYP.out⟩, ⟨HC4.out.trans (HC5.out.mono (fun k hk => HSb.out k (St_SB.1 hk)))⟩⟩
      · have e : (acc ++ [y.2]).length = acc.length + 1 := by simp
        have h4 := HR4.out
        rw [e] at h4
        exact Kd.R_step h4 (fun k hk hlt => HC5.out.block k hlt (fun q => by have := HST.out k q; omega))
      · have h1 := cutF_len (p := q) HYP.out
        have h2 := HL.out
        have h3 := HYP.out
        have h5 := HN.out
        rw [h1, List.length_append]
        refine ⟨by omega, by omega, by omega, by simp; omega⟩
end
end Go.Proofs.Ytakbhnfmimnbhaa.Tm
