/- RegionBack: the walk. Conditions: none. -/
import Derived.Test.YtakbhnfmimnbhaaRn13
import Derived.Test.YtakbhnfmimnbhaaRnK
namespace Go.Proofs.Ytakbhnfmimnbhaa.Rn
open Go.RowKit Go.Proofs.YtakbhnfmimnbhaaW.PrintWords Go.Proofs.YtakbhnfmimnbhaaW.PrintLast Go.Proofs.YtakbhnfmimnbhaaW.PrintMore
set_option linter.unusedVariables false
set_option linter.unusedSimpArgs false

theorem list_load22 {ops : Array Oper} {rest : List Oper} {o : Oper} {a : Act} {w : World} {Q : Exit → Act → World → Prop} {g : Nat} {f : List Int} (hg : o.guard = none) (x : Operand) (ho : o.op = .load 22 x) (hx : a.eval x = .pointer (some ⟨g, 0, none⟩)) (hs : f.length = 8) (hb : w.heap[g]? = some (.cells (nums .i64 f).toArray 22 (0, 0))) (h : wpList Try.prog ops Q rest (a.put o.dst (.agg (nums .i64 f).toArray)) w) : wpList Try.prog ops Q (o :: rest) a w := by
  refine wpList_plain hg fun K hK => ?_
  unfold Oper.wp
  rw [ex_load22 ho hx hs hb]
  exact hK _ _ h
theorem list_eq22 {ops : Array Oper} {rest : List Oper} {o : Oper} {a : Act} {w : World} {Q : Exit → Act → World → Prop} {f : List Int} (hg : o.guard = none) (x y : Operand) (ho : o.op = .binOp .eql 22 x y 22) (hx : a.eval x = .agg (nums .i64 f).toArray) (hy : a.eval y = .agg (nums .i64 f).toArray) (hs : f.length = 8) (h : wpList Try.prog ops Q rest (a.put o.dst (.bool true)) w) : wpList Try.prog ops Q (o :: rest) a w := by
  refine wpList_plain hg fun K hK => ?_
  unfold Oper.wp
  rw [ex_eq22 ho hx hy hs]
  exact hK _ _ h
theorem rd_none (W : World) : RdC W none 0 27 [] := ⟨rfl, fun h => absurd h (by decide)⟩
theorem none_in : ∀ x ∈ ([] : List Value), x.oneCell' = true := fun _ h => absurd h List.not_mem_nil
theorem lt_alloc (W : World) (o : Obj) : W.heap.size < (W.alloc o).heap.size := by
  show W.heap.size < (W.heap.push o).size
  rw [Array.size_push]
  omega
theorem ne_of_ge {W : World} {g n : Nat} {o : Obj} (h : W.heap[g]? = some o) (hn : W.heap.size ≤ n) : g ≠ n := by
  have := blk_lt h
  omega
theorem ex_box22 {oi : Oper} {a : Act} {w : World} {f : List Int} {x : Operand} (ho : oi.op = .box 22 x) (hx : a.eval x = .agg (nums .i64 f).toArray) : (execOp a.eval oi).run Try.prog w = .ok (.value (.pointer (some ⟨w.heap.size, 0, none⟩))) (w.alloc (.cells (nums .i64 f).toArray 22)) := by
  unfold execOp
  simp only [ho, hx]
  rfl
theorem key_of (X : Int) : ∃ c : Nat, c < 8 ∧ IntKind.i64.wrap ((IntKind.u64.wrap X).tmod 8) = (c : Int) := by
  refine ⟨((IntKind.u64.wrap X).tmod 8).toNat, ?_, ?_⟩
  · have : 0 ≤ IntKind.u64.wrap X := by simp [IntKind.wrap, IntKind.signed, IntKind.bits]; omega
    rw [Int.tmod_eq_emod_of_nonneg this]
    omega
  · have : 0 ≤ IntKind.u64.wrap X := by simp [IntKind.wrap, IntKind.signed, IntKind.bits]; omega
    rw [Int.tmod_eq_emod_of_nonneg this, IntKind.wrap_i64]
    omega
theorem rd28 {l : List S28} {i : Nat} (hi : i < l.length) : rd_T28 l (i : Int) ∈ l := by
  unfold rd_T28
  rw [Int.toNat_natCast, List.getD_eq_getElem?_getD, List.getElem?_eq_getElem hi]
  exact List.getElem_mem hi
set_option maxHeartbeats 16000000 in
set_option maxRecDepth 100000 in
theorem back_any (w : World) {f : List Int} (h8 : f.length = 8) (A1 : Option Addr) (c1 : Nat) (l1 : List S28) (hr1 : Kd.C k28 w A1 l1.length l1) :
    Calls Try.prog 3 #[.agg (nums .i64 f).toArray, .slice A1 l1.length c1] w fun e w' => e = .returned (.bool true) ∧ Below w.heap.size w w' := by
  have HR := Aside0.mk hr1
  have H8 := Aside0.mk h8
  have hu28 := Try.underlying28
  have hu22 := Try.underlying22
  have hu23 := Try.underlying23
  have hu30 := Try.underlying30
  have hu33 := Try.underlying33
  clear hr1 h8
  obtain ⟨n, hn⟩ : ∃ n, n = l1.length := ⟨_, rfl⟩
  rw [← hn] at HR ⊢
  have HN := Aside0.mk hn
  clear hn
  go_enter Try.func3, Try.ntmps3
  go_upto_region 1 with (first
    | ((with_reducible refine gate_dst (N := 2) rfl ?_); refine box_event ?hg (N := 2) ?hd (cs := (nums .i64 f).toArray) (t := 22) ?hr ?_; (case hd => rfl); (case hg => rfl); (case hr => exact ex_box22 rfl rfl); intro gx hg w1 hbox hb; have B1 := Aside0.mk hb; have G1 := Aside0.mk hg; have X1 := Aside0.mk hbox; clear hbox hb hg))
  have HXD := Aside0.mk (show w1.drew.heap[gx]? = some (.cells (nums .i64 f).toArray 22 (0, 0)) from X1.out)
  refine start_ (n := 5) (S := fun w' => w'.heap[gx]? = some (.cells (nums .i64 f).toArray 22 (0, 0))) (ds := []) #[false, false, false, false, false] (by kernel_rfl) rfl rfl ((blk_below HXD.out (Below.refl _ _))) (fun hHeld => ?_)
  refine take_ (i := 1) (N := some 12) (v := ?_) (a' := ?_) #[false, true, false, false, false] rfl rfl (by kernel_rfl) (fun _ _ _ h => h) (Or.inl ⟨by rfl, ?_⟩) hHeld ?_ ?_
  rotate_left
  · intro w' s0
    (refine ex_load22 (x := .tmp 2) ?_ ?_ H8.out s0 <;> first | (simp [Act.eval, Act.put]; done) | rfl)
  rotate_left
  · simp only [Act.put, List.setIfInBounds_toArray, List.set_cons_zero, List.set_cons_succ, i64_w, i32_w]
    rfl
  refine join_ (σ := Nat × Nat) 2 #[true, true, true, false, false] (fun s => [(11, .pointer (some ⟨s.1, 0, none⟩)), (6, .pointer (some ⟨s.2, 0, none⟩))]) (fun s w' => Log (fun k => w1.drew.heap.size ≤ k ∧ k ≠ gx ∧ k ≠ s.2) w' s.1 ⟨0, [], 1, 0, [], []⟩ ∧ Below w1.drew.heap.size w1.drew w' ∧ w'.heap[s.2]? = some (.cells #[.int .i64 0, .int .i64 0, .int .i64 0, .int .i64 0, .int .i64 0, .int .i64 0, .int .i64 0, .int .i64 0] 22 (0, 0)) ∧ w1.drew.heap.size ≤ s.2) ?_ ?_
  rotate_left
  · intro hCont
    refine two_ (i := 0) (j := 2) (Ni := some 11) (Nj := some 6) #[true, true, false, false, false] #[false, true, true, false, false] rfl rfl rfl rfl (by kernel_rfl) (by decide) (by decide) (fun K hK => ?_) (fun K hK => ?_)
    · skip
      refine goes_ Try.func9 (by kernel_rfl) rfl #[.slice none 0 0, .int .i64 1] (by rfl) rfl rfl (by simp only [List.map_toArray, List.map_cons, List.map_nil]; rfl) ?_
      with_reducible refine (begin_any (fx := []) (rd_none _) none_in (by decide) 1).mono ?_
      rintro e w5 ⟨g, rfl, hl, hb⟩
      refine ⟨_, rfl, ?_⟩
      have L5 := Aside0.mk hl
      have B5 := Aside0.mk (show Below w1.drew.heap.size w1.drew w5 from below_step (Below.refl _ _) hb)
      have G5 := Aside0.mk hb
      clear hl hb
      refine hK.out _ _ ((blk_below HXD.out B5.out)) (fun hHeld => ?_)
      clear hK K
      refine norm_ (a' := ?_) ?_ ?_
      rotate_left
      · show Act.put _ (some 11) _ = _
        simp only [Act.put, List.setIfInBounds_toArray, List.set_cons_zero, List.set_cons_succ, i64_w, i32_w]
        rfl
      refine one_ (i := 2) (N := some 6) #[true, true, true, false, false] rfl rfl (by kernel_rfl) (by decide) (fun K hK => ?_)
      refine value_ (w1 := ?_) (v := ?_) (by rfl) rfl ?_ ?_
      rotate_left 2
      · go_simp
        constructor
        · rfl
        · rfl
      refine hK.out _ _ ((blk_below HXD.out (below_alloc B5.out _))) (fun hHeld => ?_)
      clear hK K
      refine norm_ (a' := ?_) ?_ ?_
      rotate_left
      · show Act.put _ (some 6) _ = _
        simp only [Act.put, List.setIfInBounds_toArray, List.set_cons_zero, List.set_cons_succ, i64_w, i32_w]
        rfl
      exact norm_ (by simp only [putAll, Act.put, List.setIfInBounds_toArray, List.set_cons_zero, List.set_cons_succ]) (hCont (g, w5.heap.size) _ ⟨log_then L5.out (blk_lt HXD.out), below_alloc B5.out _, blk_new _ _, B5.out.size⟩)
    · skip
      refine value_ (w1 := ?_) (v := ?_) (by rfl) rfl ?_ ?_
      rotate_left 2
      · go_simp
        constructor
        · rfl
        · rfl
      refine hK.out _ _ ((blk_below HXD.out (show Below w1.drew.heap.size w1.drew (w1.alloc (Obj.cells #[.int .i64 0, .int .i64 0, .int .i64 0, .int .i64 0, .int .i64 0, .int .i64 0, .int .i64 0, .int .i64 0] 22)).drew from below_alloc (Below.refl _ _) _))) (fun hHeld => ?_)
      clear hK K
      refine norm_ (a' := ?_) ?_ ?_
      rotate_left
      · show Act.put _ (some 6) _ = _
        simp only [Act.put, List.setIfInBounds_toArray, List.set_cons_zero, List.set_cons_succ, i64_w, i32_w]
        rfl
      refine one_ (i := 0) (N := some 11) #[true, true, true, false, false] rfl rfl (by kernel_rfl) (by decide) (fun K hK => ?_)
      refine goes_ Try.func9 (by kernel_rfl) rfl #[.slice none 0 0, .int .i64 1] (by rfl) rfl rfl (by simp only [List.map_toArray, List.map_cons, List.map_nil]; rfl) ?_
      with_reducible refine (begin_any (fx := []) (rd_none _) none_in (by decide) 1).mono ?_
      rintro e w5 ⟨g, rfl, hl, hb⟩
      refine ⟨_, rfl, ?_⟩
      have L5 := Aside0.mk hl
      have B5 := Aside0.mk (show Below w1.drew.heap.size w1.drew w5 from below_step (show Below w1.drew.heap.size w1.drew (w1.alloc (Obj.cells #[.int .i64 0, .int .i64 0, .int .i64 0, .int .i64 0, .int .i64 0, .int .i64 0, .int .i64 0, .int .i64 0] 22)).drew from below_alloc (Below.refl _ _) _) hb)
      have G5 := Aside0.mk hb
      clear hl hb
      refine hK.out _ _ ((blk_below HXD.out B5.out)) (fun hHeld => ?_)
      clear hK K
      refine norm_ (a' := ?_) ?_ ?_
      rotate_left
      · show Act.put _ (some 11) _ = _
        simp only [Act.put, List.setIfInBounds_toArray, List.set_cons_zero, List.set_cons_succ, i64_w, i32_w]
        rfl
      exact norm_ (by simp only [putAll, Act.put, List.setIfInBounds_toArray, List.set_cons_zero, List.set_cons_succ]) (hCont (g, w1.heap.size) _ ⟨log_pre L5.out (alloc_le w1 _) (blk_lt HXD.out) (lt_alloc w1 _), B5.out, blk_below (show (w1.alloc (Obj.cells #[.int .i64 0, .int .i64 0, .int .i64 0, .int .i64 0, .int .i64 0, .int .i64 0, .int .i64 0, .int .i64 0] 22)).drew.heap[w1.heap.size]? = _ from blk_new _ _) G5.out, Nat.le_refl _⟩)
  rintro ⟨g, gn⟩ w7 ⟨h1, h2, h3, h4⟩
  have L7 := Aside0.mk (show Log (fun k => w1.drew.heap.size ≤ k ∧ k ≠ gx ∧ k ≠ gn) w7 g ⟨0, [], 1, 0, [], []⟩ from h1)
  have B7 := Aside0.mk h2
  have X7 := Aside0.mk (show w7.heap[gn]? = some (.cells #[.int .i64 0, .int .i64 0, .int .i64 0, .int .i64 0, .int .i64 0, .int .i64 0, .int .i64 0, .int .i64 0] 22 (0, 0)) from h3)
  have G7 := Aside0.mk (show w1.drew.heap.size ≤ gn from h4)
  clear h1 h2 h3 h4
  have hHeld : w7.heap[gx]? = some (.cells (nums .i64 f).toArray 22 (0, 0)) := (blk_below HXD.out B7.out)
  refine norm_ (a' := ?_) ?_ ?_
  rotate_left
  · simp only [putAll, Act.put, List.setIfInBounds_toArray, List.set_cons_zero, List.set_cons_succ]
    rfl
  refine pure_ (i := 3) (N := some 5) (v := ?_) (a' := ?_) #[true, true, true, true, false] rfl rfl (by kernel_rfl) (fun _ _ _ h => h) (Or.inl ⟨by rfl, ?_⟩) ?_ ?_
  rotate_left
  · intro w'
    go_simp
    with_reducible rfl
  rotate_left
  · simp only [Act.put, List.setIfInBounds_toArray, List.set_cons_zero, List.set_cons_succ, i64_w, i32_w]
    rfl
  refine one_ (i := 4) (N := none) #[true, true, true, true, true] rfl rfl (by kernel_rfl) (by decide) (fun K hK => ?_)
  refine skip_ (w1 := _) (by rfl) rfl (ex_store22 (x := .tmp 6) (y := .tmp 12) (f0 := [0, 0, 0, 0, 0, 0, 0, 0]) rfl (by first | (simp [Act.eval, Act.put]; done) | rfl) (by first | (simp [Act.eval, Act.put]; done) | rfl) rfl H8.out X7.out) ?_
  refine hK.out _ _ (((setRow_other _ _ _ _ (ne_of_ge HXD.out G7.out)).trans (blk_below HXD.out B7.out))) (fun hHeld => ?_)
  clear hK K
  refine done_ (by kernel_rfl) ?_
  have W0 := Aside0.mk (Bw.mk_ (W0 := w) B7.out.size L7.out (below_drew B1.out) B7.out (blk_below HXD.out B7.out) ⟨_, X7.out⟩ ⟨by rw [G1.out]; exact Nat.le_refl _, G7.out, blk_lt HXD.out⟩)
  clear HXD X1 G1 B1 L7 B7 X7 G7 hHeld
  generalize w7.setRow gn (nums .i64 f).toArray = w8 at *

  go_upto_block 0 with (fail)
  go_wp2
  go_loopg [7] n (fun kq v7 w' => ∃ (i : Nat) (now : List Int) (A : La), v7 = .int .i64 (i : Int) ∧ Aside0 (i + kq = n) ∧ Aside0 (i ≤ 60) ∧ Aside0 (Bw w w' g gx gn f now A) ∧ Aside0 (Bk f now A.u))
  case atStart => exact ⟨0, f, _, rfl, ⟨by omega⟩, ⟨by omega⟩, W0, ⟨Bk.init H8.out⟩⟩
  case round =>
    clear W0
    obtain ⟨i, now, A, rfl, HK, HI, HS, HB⟩ := hrel
    by_cases hgo : i < n ∧ i < 60
    · rcases gk with _ | k1
      · exact absurd hgo.1 (by have := HK.out; omega)
      have hin := hgo.1
      have d1 : decide ((i : Int) < (n : Int)) = true := decide_eq_true (by omega)
      have d2 : decide (i < n) = true := decide_eq_true hin
      have d3 : decide ((i : Int) < 60) = true := decide_eq_true (by omega)
      have d4 : decide (i < 60) = true := decide_eq_true hgo.2
      have p1 : (0 ≤ (i : Int)) = True := eq_true (by omega)
      have p2 : ((i : Int) < (n : Int)) = True := eq_true (by omega)
      have HI2 := Aside0.mk hgo.2
      have HINN := Aside0.mk hin
      obtain ⟨ad, ea, x0, x1⟩ := at_T28 HR.out (i : Int) (by omega) (by omega)
      subst ea
      rw [Int.toNat_natCast] at x0 x1
      have z1 := x1
      have y0 := cellB HS.out.hb x0
      clear hgo hin x0 x1
      obtain ⟨X, hX⟩ : ∃ X, X = (rd_T28 l1 (i : Int)).f0 := ⟨_, rfl⟩
      obtain ⟨Y, hY⟩ : ∃ Y, Y = (rd_T28 l1 (i : Int)).f1 := ⟨_, rfl⟩
      rw [← hX] at y0
      rw [← hY] at z1
      clear hX hY
      have ew : Aside0 (wrap64 ((i : Int) + 1) = (i : Int) + 1) := ⟨by have h2 := HI2.out; unfold wrap64; omega⟩
      obtain ⟨c, hc, ec⟩ := key_of X
      have HC := Aside0.mk hc
      clear hc
      go_upto_region 6 with (fail)
      clear y0 ec d1 d2 d3 d4
      have y1 := HS.out.now_at HB.out.l8 HC.out
      have q1 : (0 ≤ (c : Int)) = True := eq_true (by omega)
      have q2 : ((c : Int) < 8) = True := eq_true (by have := HC.out; omega)
      have q3 : (c < 8) = True := eq_true HC.out
      obtain ⟨Z, hZ⟩ : ∃ Z, Z = now.getD c 0 := ⟨_, rfl⟩
      rw [← hZ] at y1
      have HZ := Aside0.mk hZ
      clear hZ
      go_upto_region 7 with (go_at_call 10; (refine (HS.out.wrote (Nat.le_trans HB.out.len (by decide)) (c : Int) Z).mono ?_); rintro e w9 ⟨rfl, h⟩; have HS2 := Aside0.mk h; clear h)
      have HB2 := Aside0.mk (HB.out.step HC.out Y)
      have y0 := cellB HS2.out.hb z1
      have fz := blk_frozen HS2.out.bn c
      clear y1 HS z1
      have y1 := HS2.out.now_at HB.out.l8 HC.out
      rw [← HZ.out] at y1
      have HS3 := Aside0.mk (HS2.out.set_ c Y)
      go_wp2
      go_roundg k1
      case measure => omega
      case rel => exact ⟨i + 1, now.set c Y, wrA A (c : Int) Z, by rw [ew.out]; simp, ⟨by have := HK.out; omega⟩, ⟨by have := HI2.out; omega⟩, HS3, ⟨by rw [HZ.out]; exact HB2.out⟩⟩
    · by_cases hin : i < n
      · have h60 : ¬ i < 60 := fun q => hgo ⟨hin, q⟩
        have d1 : decide ((i : Int) < (n : Int)) = true := decide_eq_true (by omega)
        have d2 : decide (i < n) = true := decide_eq_true hin
        have d3 : decide ((i : Int) < 60) = false := decide_eq_false (by omega)
        have d4 : decide (i < 60) = false := decide_eq_false h60
        clear hgo h60 hin
        go_upto_region 8 with (fail)
        try clear d1 d2
        try clear d3 d4
        clear HN HK HI HR
        go_upto_block 2 with (go_at_call 11; (refine (HS.out.undo (Nat.le_trans HB.out.len (by decide))).mono ?_); rintro e w9 ⟨v9, rfl, hp, h⟩; have HP := Aside0.mk hp; have HS2 := Aside0.mk h; clear h hp)
        have HR0 := Aside0.mk (Rs.init HB.out)
        have HL8 := Aside0.mk (show A.u.reverse.length ≤ 8 from by rw [List.length_reverse]; exact HB.out.len)
        clear HS HB
        obtain ⟨l, hl⟩ : ∃ l, l = A.u.reverse := ⟨_, rfl⟩
        rw [← hl] at HR0 HP HL8
        clear hl
        obtain ⟨Al, cl, rfl, ho⟩ := HP.out.open
        have HO := Aside0.mk ho
        clear ho
        obtain ⟨m, hm⟩ : ∃ m, m = l.length := ⟨_, rfl⟩
        rw [← hm] at HP HL8 ⊢
        have HM := Aside0.mk hm
        clear hm
        go_wp2
        go_loopg [10] m (fun kq v10 w' => ∃ (j : Nat) (now : List Int), v10 = .int .i64 (j : Int) ∧ Aside0 (j + kq = m) ∧ Aside0 (Bw w w' g gx gn f now A) ∧ Aside0 (PR w' 0 (.slice Al m cl) l) ∧ Aside0 (Rs f now l j))
        case atStart => exact ⟨0, _, rfl, ⟨by omega⟩, HS2, ⟨HP.out.weaken (Nat.zero_le _)⟩, HR0⟩
        case round =>
          clear HS2 HP HR0
          obtain ⟨j, now, rfl, HK2, HS3, HP3, HR3⟩ := hrel
          by_cases hj : j < m
          · rcases gk with _ | k2
            · exact absurd hj (by have := HK2.out; omega)
            have d1 : decide ((j : Int) < (m : Int)) = true := decide_eq_true (by omega)
            have d2 : decide (j < m) = true := decide_eq_true hj
            have p1 : (0 ≤ (j : Int)) = True := eq_true (by omega)
            have p2 : ((j : Int) < (m : Int)) = True := eq_true (by omega)
            have HJL := Aside0.mk (show j < l.length from by rw [← HM.out]; exact hj)
            obtain ⟨gl, hgl⟩ : ∃ gl, Al = some ⟨gl, 0, none⟩ := by
              rcases HO.out with ⟨_, _, h⟩ | ⟨g, h, _⟩
              · have h1 := HJL.out
                rw [h] at h1
                simp at h1
              · exact ⟨g, h⟩
            subst hgl
            clear hj
            have hpl : PR wr 0 (.slice (some ⟨gl, 0, none⟩) l.length cl) l := by rw [← HM.out]; exact HP3.out
            have y0 := (hpl.at HJL.out).1
            have y1 := (hpl.at HJL.out).2
            clear hpl
            have HA := Aside0.mk (HR3.out.at_k HJL.out)
            obtain ⟨cc, ecc⟩ : ∃ cc : Nat, (l.getD j (0, 0)).1 = (cc : Int) := ⟨(l.getD j (0, 0)).1.toNat, by have := HA.out.1; omega⟩
            obtain ⟨vv, evv⟩ : ∃ vv, vv = (l.getD j (0, 0)).2 := ⟨_, rfl⟩
            have HCC := Aside0.mk (show cc < 8 from by have := HA.out.2.1; rw [ecc] at this; omega)
            have HR4 := HR3.out.step HJL.out
            rw [ecc, ← evv, Int.toNat_natCast] at HR4
            have HR5 := Aside0.mk HR4
            clear HR4 HA
            rw [ecc] at y0
            rw [← evv] at y1
            clear ecc evv
            have d3 : decide ((cc : Int) < 0) = false := decide_eq_false (by omega)
            have d4 : decide (7 < (cc : Int)) = false := decide_eq_false (by have := HCC.out; omega)
            have d5 : decide (7 < cc) = false := decide_eq_false (by have := HCC.out; omega)
            have d6 : decide (cc < 0) = false := decide_eq_false (by omega)
            have q1 : (0 ≤ (cc : Int)) = True := eq_true (by omega)
            have q2 : ((cc : Int) < 8) = True := eq_true (by have := HCC.out; omega)
            have q3 : (cc < 8) = True := eq_true HCC.out
            have ew : Aside0 (wrap64 ((j : Int) + 1) = (j : Int) + 1) := ⟨by have h2 := HJL.out; have h3 := HL8.out; have h4 := HM.out; unfold wrap64; omega⟩
            go_upto_region 14 with (fail)
            have y2 := (HS3.out.below (below_drew (Below.refl _ _))).now_at HR3.out.l8 HCC.out
            have fz := blk_frozen (HS3.out.below (below_drew (Below.refl _ _))).bn cc
            have HS4 := Aside0.mk ((HS3.out.below (below_drew (Below.refl _ _))).set_ cc vv)
            have HP4 := Aside0.mk (show PR (wr.drew.setCell ⟨gn, cc, none⟩ (.int .i64 vv)) 0 (.slice (some ⟨gl, 0, none⟩) m cl) l from own_setCell (HP3.out.below (below_drew (Below.refl _ _))) (own_ne HP3.out HS3.out.bn (by decide)) _)
            replace y0 : wr.drew.cell? ⟨gl, j * 2, none⟩ = some (.int .i64 (cc : Int)) := y0
            replace y1 : wr.drew.cell? ⟨gl, j * 2 + 1, none⟩ = some (.int .i64 vv) := y1
            clear d3 d4 d5 d6
            refine start_ (n := 12) (S := fun w' => w'.cell? ⟨gl, j * 2, none⟩ = some (.int .i64 (cc : Int)) ∧ w'.cell? ⟨gl, j * 2 + 1, none⟩ = some (.int .i64 vv)) (ds := [11]) #[false, false, false, false, false, false, false, false, false, false, false, false] (by kernel_rfl) rfl rfl ⟨y0, y1⟩ (fun hHeld => ?_)
            refine pure_ (i := 0) (N := some 66) (v := ?_) (a' := ?_) #[true, false, false, false, false, false, false, false, false, false, false, false] rfl rfl (by kernel_rfl) (fun _ _ _ h => h) (Or.inl ⟨by rfl, ?_⟩) ?_ ?_
            rotate_left
            · intro w'
              go_simp
              with_reducible rfl
            rotate_left
            · simp only [Act.put, List.setIfInBounds_toArray, List.set_cons_zero, List.set_cons_succ, i64_w, i32_w]
              rfl
            refine pure_ (i := 1) (N := some 67) (v := ?_) (a' := ?_) #[true, true, false, false, false, false, false, false, false, false, false, false] rfl rfl (by kernel_rfl) (fun _ _ _ h => h) (Or.inl ⟨by rfl, ?_⟩) ?_ ?_
            rotate_left
            · intro w'
              go_simp
              with_reducible rfl
            rotate_left
            · simp only [Act.put, List.setIfInBounds_toArray, List.set_cons_zero, List.set_cons_succ, i64_w, i32_w]
              rfl
            refine pure_ (i := 2) (N := some 68) (v := ?_) (a' := ?_) #[true, true, true, false, false, false, false, false, false, false, false, false] rfl rfl (by kernel_rfl) (fun _ _ _ h => h) (Or.inl ⟨by rfl, ?_⟩) ?_ ?_
            rotate_left
            · intro w'
              go_simp
              with_reducible rfl
            rotate_left
            · simp only [Act.put, List.setIfInBounds_toArray, List.set_cons_zero, List.set_cons_succ, i64_w, i32_w]
              rfl
            refine pure_ (i := 3) (N := some 69) (v := ?_) (a' := ?_) #[true, true, true, true, false, false, false, false, false, false, false, false] rfl rfl (by kernel_rfl) (fun _ _ _ h => h) (Or.inl ⟨by rfl, ?_⟩) ?_ ?_
            rotate_left
            · intro w'
              go_simp
              with_reducible rfl
            rotate_left
            · simp only [Act.put, List.setIfInBounds_toArray, List.set_cons_zero, List.set_cons_succ, i64_w, i32_w]
              rfl
            refine pure_ (i := 5) (N := some 71) (v := ?_) (a' := ?_) #[true, true, true, true, false, true, false, false, false, false, false, false] rfl rfl (by kernel_rfl) (fun _ _ _ h => h) (Or.inl ⟨by rfl, ?_⟩) ?_ ?_
            rotate_left
            · intro w'
              go_simp
              with_reducible rfl
            rotate_left
            · simp only [Act.put, List.setIfInBounds_toArray, List.set_cons_zero, List.set_cons_succ, i64_w, i32_w]
              rfl
            refine pure_ (i := 6) (N := some 72) (v := ?_) (a' := ?_) #[true, true, true, true, false, true, true, false, false, false, false, false] rfl rfl (by kernel_rfl) (fun _ _ _ h => h) (Or.inl ⟨by rfl, ?_⟩) ?_ ?_
            rotate_left
            · intro w'
              go_simp
              with_reducible rfl
            rotate_left
            · simp only [Act.put, List.setIfInBounds_toArray, List.set_cons_zero, List.set_cons_succ, i64_w, i32_w]
              rfl
            refine pure_ (i := 7) (N := some 73) (v := ?_) (a' := ?_) #[true, true, true, true, false, true, true, true, false, false, false, false] rfl rfl (by kernel_rfl) (fun _ _ _ h => h) (Or.inl ⟨by rfl, ?_⟩) ?_ ?_
            rotate_left
            · intro w'
              go_simp
              with_reducible rfl
            rotate_left
            · simp only [Act.put, List.setIfInBounds_toArray, List.set_cons_zero, List.set_cons_succ, i64_w, i32_w]
              rfl
            refine pure_ (i := 8) (N := some 74) (v := ?_) (a' := ?_) #[true, true, true, true, false, true, true, true, true, false, false, false] rfl rfl (by kernel_rfl) (fun _ _ _ h => h) (Or.inl ⟨by rfl, ?_⟩) ?_ ?_
            rotate_left
            · intro w'
              go_simp
              with_reducible rfl
            rotate_left
            · simp only [Act.put, List.setIfInBounds_toArray, List.set_cons_zero, List.set_cons_succ, i64_w, i32_w]
              rfl
            refine take_ (i := 4) (N := some 70) (v := ?_) (a' := ?_) #[true, true, true, true, true, true, true, true, true, false, false, false] rfl rfl (by kernel_rfl) (fun _ _ _ h => h) (Or.inl ⟨by rfl, ?_⟩) hHeld ?_ ?_
            rotate_left
            · rintro w' ⟨s0, s1⟩
              go_simp
              with_reducible rfl
            rotate_left
            · simp only [Act.put, List.setIfInBounds_toArray, List.set_cons_zero, List.set_cons_succ, i64_w, i32_w]
              rfl
            refine take_ (i := 9) (N := some 75) (v := ?_) (a' := ?_) #[true, true, true, true, true, true, true, true, true, true, false, false] rfl rfl (by kernel_rfl) (fun _ _ _ h => h) (Or.inl ⟨by rfl, ?_⟩) hHeld ?_ ?_
            rotate_left
            · rintro w' ⟨s0, s1⟩
              go_simp
              with_reducible rfl
            rotate_left
            · simp only [Act.put, List.setIfInBounds_toArray, List.set_cons_zero, List.set_cons_succ, i64_w, i32_w]
              rfl
            refine pure_ (i := 10) (N := some 76) (v := ?_) (a' := ?_) #[true, true, true, true, true, true, true, true, true, true, true, false] rfl rfl (by kernel_rfl) (fun _ _ _ h => h) (Or.inl ⟨by rfl, ?_⟩) ?_ ?_
            rotate_left
            · intro w'
              go_simp
              with_reducible rfl
            rotate_left
            · simp only [Act.put, List.setIfInBounds_toArray, List.set_cons_zero, List.set_cons_succ, i64_w, i32_w]
              rfl
            refine last_ (i := 11) (N := none) #[true, true, true, true, true, true, true, true, true, true, true, true] rfl rfl (by kernel_rfl) (by decide) (fun K hK => ?_)
            refine skip_ (w1 := ?_) (by rfl) rfl ?_ ?_
            rotate_left
            · go_simp
              rfl
            refine hK.out _ _ ?_
            clear hK K
            refine done_ (by kernel_rfl) ?_
            go_wp2
            go_roundg k2
            case measure => omega
            case rel => exact ⟨j + 1, now.set cc vv, by rw [ew.out]; simp, ⟨by have := HK2.out; omega⟩, HS4, HP4, HR5⟩
          · have d1 : decide ((j : Int) < (m : Int)) = false := decide_eq_false (by omega)
            have d2 : decide (j < m) = false := decide_eq_false hj
            have HE := Aside0.mk (HR3.out.done (by rw [← HM.out]; omega) H8.out)
            have d3 : decide ((m : Int) ≤ 8) = true := decide_eq_true (by have h1 := HL8.out; have h2 := HM.out; omega)
            have d4 : decide (m ≤ 8) = true := decide_eq_true (by have h1 := HL8.out; have h2 := HM.out; omega)
            have HS5 := Aside0.mk (show Bw w wr g gx gn f f A from by rw [HE.out] at HS3; exact HS3.out)
            clear hj HS3 HP3 HR3 HE
            go_wp2_with (first
              | (refine list_load22 rfl (.tmp 6) rfl rfl H8.out HS5.out.bn ?_)
              | (refine list_load22 rfl (.tmp 2) rfl rfl H8.out HS5.out.bx ?_)
              | (refine list_eq22 rfl (.tmp 77) (.tmp 78) rfl rfl rfl H8.out ?_)
              | (go_at_call 12; (refine (lives_any _).mono ?_); rintro e wl ⟨rfl, hb⟩; have HL := Aside0.mk (below_step HS5.out.hb hb); clear hb))
            go_ret
            exact ⟨rfl, HL.out⟩
      · have d1 : decide ((i : Int) < (n : Int)) = false := decide_eq_false (by omega)
        have d2 : decide (i < n) = false := decide_eq_false hin
        clear hgo hin
        go_upto_region 8 with (fail)
        try clear d1 d2
        try clear d3 d4
        clear HN HK HI HR
        go_upto_block 2 with (go_at_call 11; (refine (HS.out.undo (Nat.le_trans HB.out.len (by decide))).mono ?_); rintro e w9 ⟨v9, rfl, hp, h⟩; have HP := Aside0.mk hp; have HS2 := Aside0.mk h; clear h hp)
        have HR0 := Aside0.mk (Rs.init HB.out)
        have HL8 := Aside0.mk (show A.u.reverse.length ≤ 8 from by rw [List.length_reverse]; exact HB.out.len)
        clear HS HB
        obtain ⟨l, hl⟩ : ∃ l, l = A.u.reverse := ⟨_, rfl⟩
        rw [← hl] at HR0 HP HL8
        clear hl
        obtain ⟨Al, cl, rfl, ho⟩ := HP.out.open
        have HO := Aside0.mk ho
        clear ho
        obtain ⟨m, hm⟩ : ∃ m, m = l.length := ⟨_, rfl⟩
        rw [← hm] at HP HL8 ⊢
        have HM := Aside0.mk hm
        clear hm
        go_wp2
        go_loopg [10] m (fun kq v10 w' => ∃ (j : Nat) (now : List Int), v10 = .int .i64 (j : Int) ∧ Aside0 (j + kq = m) ∧ Aside0 (Bw w w' g gx gn f now A) ∧ Aside0 (PR w' 0 (.slice Al m cl) l) ∧ Aside0 (Rs f now l j))
        case atStart => exact ⟨0, _, rfl, ⟨by omega⟩, HS2, ⟨HP.out.weaken (Nat.zero_le _)⟩, HR0⟩
        case round =>
          clear HS2 HP HR0
          obtain ⟨j, now, rfl, HK2, HS3, HP3, HR3⟩ := hrel
          by_cases hj : j < m
          · rcases gk with _ | k2
            · exact absurd hj (by have := HK2.out; omega)
            have d1 : decide ((j : Int) < (m : Int)) = true := decide_eq_true (by omega)
            have d2 : decide (j < m) = true := decide_eq_true hj
            have p1 : (0 ≤ (j : Int)) = True := eq_true (by omega)
            have p2 : ((j : Int) < (m : Int)) = True := eq_true (by omega)
            have HJL := Aside0.mk (show j < l.length from by rw [← HM.out]; exact hj)
            obtain ⟨gl, hgl⟩ : ∃ gl, Al = some ⟨gl, 0, none⟩ := by
              rcases HO.out with ⟨_, _, h⟩ | ⟨g, h, _⟩
              · have h1 := HJL.out
                rw [h] at h1
                simp at h1
              · exact ⟨g, h⟩
            subst hgl
            clear hj
            have hpl : PR wr 0 (.slice (some ⟨gl, 0, none⟩) l.length cl) l := by rw [← HM.out]; exact HP3.out
            have y0 := (hpl.at HJL.out).1
            have y1 := (hpl.at HJL.out).2
            clear hpl
            have HA := Aside0.mk (HR3.out.at_k HJL.out)
            obtain ⟨cc, ecc⟩ : ∃ cc : Nat, (l.getD j (0, 0)).1 = (cc : Int) := ⟨(l.getD j (0, 0)).1.toNat, by have := HA.out.1; omega⟩
            obtain ⟨vv, evv⟩ : ∃ vv, vv = (l.getD j (0, 0)).2 := ⟨_, rfl⟩
            have HCC := Aside0.mk (show cc < 8 from by have := HA.out.2.1; rw [ecc] at this; omega)
            have HR4 := HR3.out.step HJL.out
            rw [ecc, ← evv, Int.toNat_natCast] at HR4
            have HR5 := Aside0.mk HR4
            clear HR4 HA
            rw [ecc] at y0
            rw [← evv] at y1
            clear ecc evv
            have d3 : decide ((cc : Int) < 0) = false := decide_eq_false (by omega)
            have d4 : decide (7 < (cc : Int)) = false := decide_eq_false (by have := HCC.out; omega)
            have d5 : decide (7 < cc) = false := decide_eq_false (by have := HCC.out; omega)
            have d6 : decide (cc < 0) = false := decide_eq_false (by omega)
            have q1 : (0 ≤ (cc : Int)) = True := eq_true (by omega)
            have q2 : ((cc : Int) < 8) = True := eq_true (by have := HCC.out; omega)
            have q3 : (cc < 8) = True := eq_true HCC.out
            have ew : Aside0 (wrap64 ((j : Int) + 1) = (j : Int) + 1) := ⟨by have h2 := HJL.out; have h3 := HL8.out; have h4 := HM.out; unfold wrap64; omega⟩
            go_upto_region 14 with (fail)
            have y2 := (HS3.out.below (below_drew (Below.refl _ _))).now_at HR3.out.l8 HCC.out
            have fz := blk_frozen (HS3.out.below (below_drew (Below.refl _ _))).bn cc
            have HS4 := Aside0.mk ((HS3.out.below (below_drew (Below.refl _ _))).set_ cc vv)
            have HP4 := Aside0.mk (show PR (wr.drew.setCell ⟨gn, cc, none⟩ (.int .i64 vv)) 0 (.slice (some ⟨gl, 0, none⟩) m cl) l from own_setCell (HP3.out.below (below_drew (Below.refl _ _))) (own_ne HP3.out HS3.out.bn (by decide)) _)
            replace y0 : wr.drew.cell? ⟨gl, j * 2, none⟩ = some (.int .i64 (cc : Int)) := y0
            replace y1 : wr.drew.cell? ⟨gl, j * 2 + 1, none⟩ = some (.int .i64 vv) := y1
            clear d3 d4 d5 d6
            refine start_ (n := 12) (S := fun w' => w'.cell? ⟨gl, j * 2, none⟩ = some (.int .i64 (cc : Int)) ∧ w'.cell? ⟨gl, j * 2 + 1, none⟩ = some (.int .i64 vv)) (ds := [11]) #[false, false, false, false, false, false, false, false, false, false, false, false] (by kernel_rfl) rfl rfl ⟨y0, y1⟩ (fun hHeld => ?_)
            refine pure_ (i := 0) (N := some 66) (v := ?_) (a' := ?_) #[true, false, false, false, false, false, false, false, false, false, false, false] rfl rfl (by kernel_rfl) (fun _ _ _ h => h) (Or.inl ⟨by rfl, ?_⟩) ?_ ?_
            rotate_left
            · intro w'
              go_simp
              with_reducible rfl
            rotate_left
            · simp only [Act.put, List.setIfInBounds_toArray, List.set_cons_zero, List.set_cons_succ, i64_w, i32_w]
              rfl
            refine pure_ (i := 1) (N := some 67) (v := ?_) (a' := ?_) #[true, true, false, false, false, false, false, false, false, false, false, false] rfl rfl (by kernel_rfl) (fun _ _ _ h => h) (Or.inl ⟨by rfl, ?_⟩) ?_ ?_
            rotate_left
            · intro w'
              go_simp
              with_reducible rfl
            rotate_left
            · simp only [Act.put, List.setIfInBounds_toArray, List.set_cons_zero, List.set_cons_succ, i64_w, i32_w]
              rfl
            refine pure_ (i := 2) (N := some 68) (v := ?_) (a' := ?_) #[true, true, true, false, false, false, false, false, false, false, false, false] rfl rfl (by kernel_rfl) (fun _ _ _ h => h) (Or.inl ⟨by rfl, ?_⟩) ?_ ?_
            rotate_left
            · intro w'
              go_simp
              with_reducible rfl
            rotate_left
            · simp only [Act.put, List.setIfInBounds_toArray, List.set_cons_zero, List.set_cons_succ, i64_w, i32_w]
              rfl
            refine pure_ (i := 3) (N := some 69) (v := ?_) (a' := ?_) #[true, true, true, true, false, false, false, false, false, false, false, false] rfl rfl (by kernel_rfl) (fun _ _ _ h => h) (Or.inl ⟨by rfl, ?_⟩) ?_ ?_
            rotate_left
            · intro w'
              go_simp
              with_reducible rfl
            rotate_left
            · simp only [Act.put, List.setIfInBounds_toArray, List.set_cons_zero, List.set_cons_succ, i64_w, i32_w]
              rfl
            refine pure_ (i := 5) (N := some 71) (v := ?_) (a' := ?_) #[true, true, true, true, false, true, false, false, false, false, false, false] rfl rfl (by kernel_rfl) (fun _ _ _ h => h) (Or.inl ⟨by rfl, ?_⟩) ?_ ?_
            rotate_left
            · intro w'
              go_simp
              with_reducible rfl
            rotate_left
            · simp only [Act.put, List.setIfInBounds_toArray, List.set_cons_zero, List.set_cons_succ, i64_w, i32_w]
              rfl
            refine pure_ (i := 6) (N := some 72) (v := ?_) (a' := ?_) #[true, true, true, true, false, true, true, false, false, false, false, false] rfl rfl (by kernel_rfl) (fun _ _ _ h => h) (Or.inl ⟨by rfl, ?_⟩) ?_ ?_
            rotate_left
            · intro w'
              go_simp
              with_reducible rfl
            rotate_left
            · simp only [Act.put, List.setIfInBounds_toArray, List.set_cons_zero, List.set_cons_succ, i64_w, i32_w]
              rfl
            refine pure_ (i := 7) (N := some 73) (v := ?_) (a' := ?_) #[true, true, true, true, false, true, true, true, false, false, false, false] rfl rfl (by kernel_rfl) (fun _ _ _ h => h) (Or.inl ⟨by rfl, ?_⟩) ?_ ?_
            rotate_left
            · intro w'
              go_simp
              with_reducible rfl
            rotate_left
            · simp only [Act.put, List.setIfInBounds_toArray, List.set_cons_zero, List.set_cons_succ, i64_w, i32_w]
              rfl
            refine pure_ (i := 8) (N := some 74) (v := ?_) (a' := ?_) #[true, true, true, true, false, true, true, true, true, false, false, false] rfl rfl (by kernel_rfl) (fun _ _ _ h => h) (Or.inl ⟨by rfl, ?_⟩) ?_ ?_
            rotate_left
            · intro w'
              go_simp
              with_reducible rfl
            rotate_left
            · simp only [Act.put, List.setIfInBounds_toArray, List.set_cons_zero, List.set_cons_succ, i64_w, i32_w]
              rfl
            refine take_ (i := 4) (N := some 70) (v := ?_) (a' := ?_) #[true, true, true, true, true, true, true, true, true, false, false, false] rfl rfl (by kernel_rfl) (fun _ _ _ h => h) (Or.inl ⟨by rfl, ?_⟩) hHeld ?_ ?_
            rotate_left
            · rintro w' ⟨s0, s1⟩
              go_simp
              with_reducible rfl
            rotate_left
            · simp only [Act.put, List.setIfInBounds_toArray, List.set_cons_zero, List.set_cons_succ, i64_w, i32_w]
              rfl
            refine take_ (i := 9) (N := some 75) (v := ?_) (a' := ?_) #[true, true, true, true, true, true, true, true, true, true, false, false] rfl rfl (by kernel_rfl) (fun _ _ _ h => h) (Or.inl ⟨by rfl, ?_⟩) hHeld ?_ ?_
            rotate_left
            · rintro w' ⟨s0, s1⟩
              go_simp
              with_reducible rfl
            rotate_left
            · simp only [Act.put, List.setIfInBounds_toArray, List.set_cons_zero, List.set_cons_succ, i64_w, i32_w]
              rfl
            refine pure_ (i := 10) (N := some 76) (v := ?_) (a' := ?_) #[true, true, true, true, true, true, true, true, true, true, true, false] rfl rfl (by kernel_rfl) (fun _ _ _ h => h) (Or.inl ⟨by rfl, ?_⟩) ?_ ?_
            rotate_left
            · intro w'
              go_simp
              with_reducible rfl
            rotate_left
            · simp only [Act.put, List.setIfInBounds_toArray, List.set_cons_zero, List.set_cons_succ, i64_w, i32_w]
              rfl
            refine last_ (i := 11) (N := none) #[true, true, true, true, true, true, true, true, true, true, true, true] rfl rfl (by kernel_rfl) (by decide) (fun K hK => ?_)
            refine skip_ (w1 := ?_) (by rfl) rfl ?_ ?_
            rotate_left
            · go_simp
              rfl
            refine hK.out _ _ ?_
            clear hK K
            refine done_ (by kernel_rfl) ?_
            go_wp2
            go_roundg k2
            case measure => omega
            case rel => exact ⟨j + 1, now.set cc vv, by rw [ew.out]; simp, ⟨by have := HK2.out; omega⟩, HS4, HP4, HR5⟩
          · have d1 : decide ((j : Int) < (m : Int)) = false := decide_eq_false (by omega)
            have d2 : decide (j < m) = false := decide_eq_false hj
            have HE := Aside0.mk (HR3.out.done (by rw [← HM.out]; omega) H8.out)
            have d3 : decide ((m : Int) ≤ 8) = true := decide_eq_true (by have h1 := HL8.out; have h2 := HM.out; omega)
            have d4 : decide (m ≤ 8) = true := decide_eq_true (by have h1 := HL8.out; have h2 := HM.out; omega)
            have HS5 := Aside0.mk (show Bw w wr g gx gn f f A from by rw [HE.out] at HS3; exact HS3.out)
            clear hj HS3 HP3 HR3 HE
            go_wp2_with (first
              | (refine list_load22 rfl (.tmp 6) rfl rfl H8.out HS5.out.bn ?_)
              | (refine list_load22 rfl (.tmp 2) rfl rfl H8.out HS5.out.bx ?_)
              | (refine list_eq22 rfl (.tmp 77) (.tmp 78) rfl rfl rfl H8.out ?_)
              | (go_at_call 12; (refine (lives_any _).mono ?_); rintro e wl ⟨rfl, hb⟩; have HL := Aside0.mk (below_step HS5.out.hb hb); clear hb))
            go_ret
            exact ⟨rfl, HL.out⟩
end Go.Proofs.Ytakbhnfmimnbhaa.Rn
