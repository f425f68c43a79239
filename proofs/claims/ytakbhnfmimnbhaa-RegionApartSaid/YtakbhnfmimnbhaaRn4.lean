/- Rows of pairs, cloned and turned round; what a log tells of them; Begin. Conditions: none. -/
import Derived.Test.YtakbhnfmimnbhaaRn3
namespace Go.Proofs.Ytakbhnfmimnbhaa.Rn
open Go.RowKit Go.Proofs.YtakbhnfmimnbhaaW.PrintWords Go.Proofs.YtakbhnfmimnbhaaW.PrintLast Go.Proofs.YtakbhnfmimnbhaaW.PrintMore
set_option linter.unusedVariables false
set_option linter.unusedSimpArgs false

theorem pcs_set (l : List (Int × Int)) : ∀ (j : Nat) (x y : Int), j < l.length → ((pcs l).set (j * 2) (.int .i64 x)).set (j * 2 + 1) (.int .i64 y) = pcs (l.set j (x, y)) := by
  induction l with
  | nil => intro j x y hj; simp at hj
  | cons p l ih =>
    intro j x y hj
    cases j with
    | zero => rfl
    | succ j =>
      rw [pcs_cons, show (j + 1) * 2 = j * 2 + 1 + 1 by omega, List.set_cons_succ, List.set_cons_succ, List.set_cons_succ, List.set_cons_succ, ih j x y (by simpa using hj)]
      rfl
theorem PR.setp {W : World} {b g c n : Nat} {l : List (Int × Int)} (h : PR W b (.slice (some ⟨g, 0, none⟩) n c) l) {j : Nat} (hj : j < l.length) (x y : Int) :
    PR ((W.setCell ⟨g, j * 2, none⟩ (.int .i64 x)).setCell ⟨g, j * 2 + 1, none⟩ (.int .i64 y)) b (.slice (some ⟨g, 0, none⟩) n c) (l.set j (x, y)) := by
  obtain rfl := h.n
  obtain ⟨s1, _⟩ := h.stored (j * 2) (.int .i64 x)
  obtain ⟨s2, _⟩ := s1.stored (j * 2 + 1) (.int .i64 y)
  rw [pcs_set l j x y hj] at s2
  unfold PR
  rw [List.length_set]
  exact s2
theorem PR.blk {W : World} {b g c n : Nat} {l : List (Int × Int)} (h : PR W b (.slice (some ⟨g, 0, none⟩) n c) l) : ∃ cs, W.heap[g]? = some (.cells cs 33 (0, 0)) := own_typed h g rfl
theorem ex_store2 {oi : Oper} {a : Act} {w : World} {b g c n j : Nat} {x y : Operand} {u v : Int} {l : List (Int × Int)} (ho : oi.op = .store 33 x y) (hx : a.eval x = .pointer (some ⟨g, j * 2, none⟩)) (hy : a.eval y = .agg #[.int .i64 u, .int .i64 v]) (h : PR w b (.slice (some ⟨g, 0, none⟩) n c) l) (hj : j < l.length) :
    (execOp a.eval oi).run Try.prog w = .ok .skip ((w.setCell ⟨g, j * 2, none⟩ (.int .i64 u)).setCell ⟨g, j * 2 + 1, none⟩ (.int .i64 v)) := by
  have hu33 := Try.underlying33
  obtain rfl := h.n
  have h1 := (h.at hj).1
  have f1 := h.frozen (j * 2)
  obtain ⟨s1, _⟩ := h.stored (j * 2) (.int .i64 u)
  have h2 : (w.setCell ⟨g, j * 2, none⟩ (.int .i64 u)).cell? ⟨g, j * 2 + 1, none⟩ = some (.int .i64 (l.getD j (0, 0)).2) := by
    have hg := (pcs_get l j hj).2
    have := s1.cells (g := g) rfl (j * 2 + 1) (.int .i64 (l.getD j (0, 0)).2) (by rw [List.getElem?_set_ne (by omega)]; exact hg)
    rwa [add_plain] at this
  have f2 : (w.setCell ⟨g, j * 2, none⟩ (.int .i64 u)).frozen? ⟨g, j * 2 + 1, none⟩ = false := by
    obtain ⟨cs, hcs⟩ := own_typed s1 g rfl
    exact blk_frozen hcs _
  unfold execOp
  simp only [ho, hx, hy]
  go_simp
theorem clone_any {W : World} {v : Value} {l : List (Int × Int)} {b0 : Nat} (hr : PR W b0 v l) (hl : l.length ≤ 1000000) : Calls Try.prog 50 #[v] W fun e w' => ∃ v', e = .returned v' ∧ PR w' W.heap.size v' l ∧ Below W.heap.size W w' := by
  have hu30 := Try.underlying30
  have HR := Aside0.mk hr
  obtain ⟨A, c, rfl, ho⟩ := hr.open
  rcases ho with ⟨rfl, rfl, rfl⟩ | ⟨g, rfl, hc⟩
  · have hq := Lib.run_eql_slice_nil (P := Try.prog) W 30 33 none 0 0 0 0 Try.underlying30
    clear hr
    go_enter Try.func50, Try.ntmps50
    go_wp2
    go_ret
    exact ⟨_, rfl, PR.nil _ _, Below.refl _ _⟩
  · have hq := Lib.run_eql_slice_nil (P := Try.prog) W 30 33 (some ⟨g, 0, none⟩) l.length c 0 0 Try.underlying30
    have hbl := below_alloc (Below.refl W.heap.size W) (.cells #[] 33)
    obtain ⟨v1, w9, hrn, hown, hg9, hat⟩ := app_any (P := Try.prog) (W := W.alloc (.cells #[] 33)) W.heap.size 30 30 33 2 16 (.agg #[.int .i64 0, .int .i64 0]) Try.underlying30 info33 rfl (by decide) (by decide) (.slice (some ⟨W.heap.size, 0, none⟩) 0 0) 0 [] (pcs l) (some ⟨g, 0, none⟩) l.length c (own_fresh W (Nat.le_refl _) 33 2 (by decide))
      (HR.out.below hbl).rd (pcs_one _) (alloc_le _ _) (by omega) (fun _ => rfl)
    have HO := Aside0.mk hown
    have HB := Aside0.mk (show Below W.heap.size W w9 from hbl.grown hg9 (alloc_le _ _) (fun k hk => by
      have : W.heap.size = k := by simpa [Value.ownBlock] using hk
      omega))
    clear hown hg9 hat hbl hr
    go_enter Try.func50, Try.ntmps50
    go_wp2_with (at_builtin; refine list_run rfl (.tmp 5) (.tmp 6) 30 30 rfl _ _ v1 rfl rfl hrn ?_)
    go_ret
    refine ⟨v1, rfl, ?_, HB.out⟩
    have h := HO.out
    rw [Nat.zero_add, List.nil_append] at h
    exact h
/-! ### turned round -/
def rv (l : List (Int × Int)) (i : Nat) : List (Int × Int) := (List.range l.length).map fun k => if k < i ∨ l.length ≤ k + i then l.getD (l.length - 1 - k) (0, 0) else l.getD k (0, 0)
theorem rv_len (l : List (Int × Int)) (i : Nat) : (rv l i).length = l.length := by simp [rv]
theorem rv_get (l : List (Int × Int)) (i k : Nat) (hk : k < l.length) : (rv l i).getD k (0, 0) = if k < i ∨ l.length ≤ k + i then l.getD (l.length - 1 - k) (0, 0) else l.getD k (0, 0) := by
  unfold rv
  rw [List.getD_eq_getElem?_getD, List.getElem?_map, List.getElem?_range hk]
  rfl
theorem list_ext {a b : List (Int × Int)} (h : a.length = b.length) (he : ∀ k, k < a.length → a.getD k (0, 0) = b.getD k (0, 0)) : a = b := by
  apply List.ext_getElem h
  intro k h1 h2
  have := he k h1
  rwa [List.getD_eq_getElem?_getD, List.getD_eq_getElem?_getD, List.getElem?_eq_getElem h1, List.getElem?_eq_getElem h2] at this
theorem rv_zero (l : List (Int × Int)) : rv l 0 = l := list_ext (rv_len l 0) fun k hk => by
  rw [rv_len] at hk
  rw [rv_get l 0 k hk, if_neg (by omega)]
theorem rv_done (l : List (Int × Int)) (i : Nat) (h : l.length ≤ i + i + 1) : rv l i = l.reverse := list_ext (by rw [rv_len, List.length_reverse]) fun k hk => by
  rw [rv_len] at hk
  rw [rv_get l i k hk]
  have e : l.reverse.getD k (0, 0) = l.getD (l.length - 1 - k) (0, 0) := by
    rw [List.getD_eq_getElem?_getD, List.getD_eq_getElem?_getD, List.getElem?_reverse hk]
  rw [e]
  by_cases c : k < i ∨ l.length ≤ k + i
  · rw [if_pos c]
  · rw [if_neg c, show l.length - 1 - k = k by omega]
theorem getD_set (l : List (Int × Int)) (j k : Nat) (p : Int × Int) (hj : j < l.length) : (l.set j p).getD k (0, 0) = if k = j then p else l.getD k (0, 0) := by
  rw [List.getD_eq_getElem?_getD, List.getD_eq_getElem?_getD, List.getElem?_set]
  by_cases c : k = j
  · subst c
    rw [if_pos rfl, if_pos hj, if_pos rfl]
    rfl
  · rw [if_neg (fun q => c q.symm), if_neg c]
theorem rv_step (l : List (Int × Int)) (i j : Nat) (hij : i < j) (hj : i + j + 1 = l.length) : ((rv l i).set i (l.getD j (0, 0))).set j (l.getD i (0, 0)) = rv l (i + 1) := by
  refine list_ext (by rw [List.length_set, List.length_set, rv_len, rv_len]) fun k hk => ?_
  rw [List.length_set, List.length_set, rv_len] at hk
  rw [getD_set _ _ _ _ (by rw [List.length_set, rv_len]; omega), getD_set _ _ _ _ (by rw [rv_len]; omega), rv_get l i k hk, rv_get l (i + 1) k hk]
  by_cases c1 : k = j
  · rw [if_pos c1, if_pos (by omega), show l.length - 1 - k = i by omega]
  · rw [if_neg c1]
    by_cases c2 : k = i
    · rw [if_pos c2, if_pos (by omega), show l.length - 1 - k = j by omega]
    · rw [if_neg c2]
      by_cases c3 : k < i ∨ l.length ≤ k + i
      · rw [if_pos c3, if_pos (by omega)]
      · rw [if_neg c3, if_neg (by omega)]
set_option maxHeartbeats 8000000 in
set_option maxRecDepth 100000 in
theorem reverse_any {W : World} {v : Value} {l : List (Int × Int)} {b0 : Nat} (hr : PR W b0 v l) (hl : l.length ≤ 1000000) : Calls Try.prog 51 #[v] W fun e w' => e = .returned (.tuple #[]) ∧ PR w' b0 v l.reverse ∧ Chg (fun k => v.ownBlock = some k) W w' := by
  have hu30 := Try.underlying30
  have hu33 := Try.underlying33
  have HR := Aside0.mk hr
  obtain ⟨A, c, rfl, ho⟩ := hr.open
  have HO := Aside0.mk ho
  obtain ⟨n, hn⟩ : ∃ n, n = l.length := ⟨_, rfl⟩
  have HN := Aside0.mk hn
  have HL := Aside0.mk (show n ≤ 1000000 from by omega)
  rw [← hn] at HR ⊢
  have ew0 : wrap64 ((n : Int) - 1) = (n : Int) - 1 := by unfold wrap64; omega
  clear hr ho hn hl
  go_enter Try.func51, Try.ntmps51
  go_upto_block 0 with (fail)
  rw [ew0]
  clear ew0
  go_wp2
  go_loopg [2, 3] n (fun kq v2 v3 w' => ∃ (i : Nat) (z : Int), v2 = .int .i64 (i : Int) ∧ v3 = .int .i64 z ∧ Aside0 (z = (n : Int) - 1 - (i : Int)) ∧ Aside0 (i + kq = n) ∧ Aside0 (PR w' b0 (.slice A n c) (rv l i)) ∧ Aside0 (Chg (fun k => (Value.slice A n c).ownBlock = some k) W w'))
  case atStart => exact ⟨0, (n : Int) - 1, rfl, rfl, ⟨by simp⟩, ⟨by omega⟩, ⟨by rw [rv_zero]; exact HR.out⟩, ⟨Chg.refl _ _⟩⟩
  case round =>
    clear HR
    obtain ⟨i, z, rfl, rfl, HZ, HK, HP, HC⟩ := hrel
    by_cases hz : (i : Int) < z
    · rcases gk with _ | k1
      · exact absurd hz (by have := HZ.out; have := HK.out; omega)
      obtain ⟨j, rfl⟩ : ∃ j : Nat, z = (j : Int) := ⟨z.toNat, by omega⟩
      have HIJ := Aside0.mk (show i < j from by omega)
      have HJN := Aside0.mk (show i + j + 1 = n from by have := HZ.out; omega)
      have d1 : decide ((i : Int) < (j : Int)) = true := decide_eq_true hz
      have d2 : decide (i < j) = true := decide_eq_true HIJ.out
      have p1 : (0 ≤ (i : Int)) = True := eq_true (by omega)
      have p2 : ((i : Int) < (n : Int)) = True := eq_true (by have := HJN.out; omega)
      have p3 : (0 ≤ (j : Int)) = True := eq_true (by omega)
      have p4 : ((j : Int) < (n : Int)) = True := eq_true (by have := HJN.out; have := HIJ.out; omega)
      clear hz
      obtain ⟨g, hg⟩ : ∃ g, A = some ⟨g, 0, none⟩ := by
        rcases HO.out with ⟨_, _, h⟩ | ⟨g, h, _⟩
        · have h1 := HJN.out
          have h2 := HN.out
          rw [h] at h2
          simp at h2
          omega
        · exact ⟨g, h⟩
      subst hg
      have HIL := Aside0.mk (show i < (rv l i).length from by rw [rv_len]; have := HJN.out; have := HN.out; omega)
      have HJL := Aside0.mk (show j < (rv l i).length from by rw [rv_len]; have := HJN.out; have := HN.out; omega)
      have HPD := Aside0.mk (show PR wr.drew b0 (.slice (some ⟨g, 0, none⟩) n c) (rv l i) from HP.out.below (below_drew (Below.refl _ _)))
      have hpl : PR wr.drew b0 (.slice (some ⟨g, 0, none⟩) (rv l i).length c) (rv l i) := by rw [rv_len, ← HN.out]; exact HPD.out
      have gi : (rv l i).getD i (0, 0) = l.getD i (0, 0) := by rw [rv_get l i i (by have := HJN.out; have := HN.out; omega), if_neg (by have := HJN.out; have := HN.out; have := HIJ.out; omega)]
      have gj : (rv l i).getD j (0, 0) = l.getD j (0, 0) := by rw [rv_get l i j (by have := HJN.out; have := HN.out; omega), if_neg (by have := HJN.out; have := HN.out; have := HIJ.out; omega)]
      have y0 := (hpl.at HIL.out).1
      have y1 := (hpl.at HIL.out).2
      have y2 := (hpl.at HJL.out).1
      have y3 := (hpl.at HJL.out).2
      rw [gi] at y0 y1
      rw [gj] at y2 y3
      have HST := Aside0.mk (rv_step l i j HIJ.out (by rw [← HN.out]; exact HJN.out))
      clear hpl gi gj
      obtain ⟨xi, yi, hi⟩ : ∃ xi yi, l.getD i (0, 0) = (xi, yi) := ⟨_, _, rfl⟩
      obtain ⟨xj, yj, hj⟩ : ∃ xj yj, l.getD j (0, 0) = (xj, yj) := ⟨_, _, rfl⟩
      rw [hi] at y0 y1 HST
      rw [hj] at y2 y3 HST
      clear hi hj
      have ew : Aside0 (wrap64 ((i : Int) + 1) = (i : Int) + 1) := ⟨by have h2 := HJN.out; have h3 := HL.out; unfold wrap64; omega⟩
      have ew2 : Aside0 (wrap64 ((j : Int) - 1) = (j : Int) - 1) := ⟨by have h2 := HJN.out; have h3 := HL.out; unfold wrap64; omega⟩
      go_upto_region 3 with (fail)
      clear d1 d2
      refine start_ (n := 16) (S := fun w' => w'.cell? ⟨g, i * 2, none⟩ = some (.int .i64 xi) ∧ w'.cell? ⟨g, i * 2 + 1, none⟩ = some (.int .i64 yi) ∧ w'.cell? ⟨g, j * 2, none⟩ = some (.int .i64 xj) ∧ w'.cell? ⟨g, j * 2 + 1, none⟩ = some (.int .i64 yj)) (ds := [13, 15]) #[false, false, false, false, false, false, false, false, false, false, false, false, false, false, false, false] (by kernel_rfl) rfl rfl ⟨y0, y1, y2, y3⟩ (fun hHeld => ?_)
      refine pure_ (i := 0) (N := some 14) (v := ?_) (a' := ?_) #[true, false, false, false, false, false, false, false, false, false, false, false, false, false, false, false] rfl rfl (by kernel_rfl) (fun _ _ _ h => h) (Or.inl ⟨by rfl, ?_⟩) ?_ ?_
      rotate_left
      · intro w'
        go_simp
        with_reducible rfl
      rotate_left
      · simp only [Act.put, List.setIfInBounds_toArray, List.set_cons_zero, List.set_cons_succ, i64_w, i32_w]
        rfl
      refine pure_ (i := 1) (N := some 15) (v := ?_) (a' := ?_) #[true, true, false, false, false, false, false, false, false, false, false, false, false, false, false, false] rfl rfl (by kernel_rfl) (fun _ _ _ h => h) (Or.inl ⟨by rfl, ?_⟩) ?_ ?_
      rotate_left
      · intro w'
        go_simp
        with_reducible rfl
      rotate_left
      · simp only [Act.put, List.setIfInBounds_toArray, List.set_cons_zero, List.set_cons_succ, i64_w, i32_w]
        rfl
      refine pure_ (i := 2) (N := some 16) (v := ?_) (a' := ?_) #[true, true, true, false, false, false, false, false, false, false, false, false, false, false, false, false] rfl rfl (by kernel_rfl) (fun _ _ _ h => h) (Or.inl ⟨by rfl, ?_⟩) ?_ ?_
      rotate_left
      · intro w'
        go_simp
        with_reducible rfl
      rotate_left
      · simp only [Act.put, List.setIfInBounds_toArray, List.set_cons_zero, List.set_cons_succ, i64_w, i32_w]
        rfl
      refine pure_ (i := 3) (N := some 17) (v := ?_) (a' := ?_) #[true, true, true, true, false, false, false, false, false, false, false, false, false, false, false, false] rfl rfl (by kernel_rfl) (fun _ _ _ h => h) (Or.inl ⟨by rfl, ?_⟩) ?_ ?_
      rotate_left
      · intro w'
        go_simp
        with_reducible rfl
      rotate_left
      · simp only [Act.put, List.setIfInBounds_toArray, List.set_cons_zero, List.set_cons_succ, i64_w, i32_w]
        rfl
      refine pure_ (i := 4) (N := some 18) (v := ?_) (a' := ?_) #[true, true, true, true, true, false, false, false, false, false, false, false, false, false, false, false] rfl rfl (by kernel_rfl) (fun _ _ _ h => h) (Or.inl ⟨by rfl, ?_⟩) ?_ ?_
      rotate_left
      · intro w'
        go_simp
        with_reducible rfl
      rotate_left
      · simp only [Act.put, List.setIfInBounds_toArray, List.set_cons_zero, List.set_cons_succ, i64_w, i32_w]
        rfl
      refine pure_ (i := 5) (N := some 19) (v := ?_) (a' := ?_) #[true, true, true, true, true, true, false, false, false, false, false, false, false, false, false, false] rfl rfl (by kernel_rfl) (fun _ _ _ h => h) (Or.inl ⟨by rfl, ?_⟩) ?_ ?_
      rotate_left
      · intro w'
        go_simp
        with_reducible rfl
      rotate_left
      · simp only [Act.put, List.setIfInBounds_toArray, List.set_cons_zero, List.set_cons_succ, i64_w, i32_w]
        rfl
      refine pure_ (i := 6) (N := some 20) (v := ?_) (a' := ?_) #[true, true, true, true, true, true, true, false, false, false, false, false, false, false, false, false] rfl rfl (by kernel_rfl) (fun _ _ _ h => h) (Or.inl ⟨by rfl, ?_⟩) ?_ ?_
      rotate_left
      · intro w'
        go_simp
        with_reducible rfl
      rotate_left
      · simp only [Act.put, List.setIfInBounds_toArray, List.set_cons_zero, List.set_cons_succ, i64_w, i32_w]
        rfl
      refine pure_ (i := 8) (N := some 22) (v := ?_) (a' := ?_) #[true, true, true, true, true, true, true, false, true, false, false, false, false, false, false, false] rfl rfl (by kernel_rfl) (fun _ _ _ h => h) (Or.inl ⟨by rfl, ?_⟩) ?_ ?_
      rotate_left
      · intro w'
        go_simp
        with_reducible rfl
      rotate_left
      · simp only [Act.put, List.setIfInBounds_toArray, List.set_cons_zero, List.set_cons_succ, i64_w, i32_w]
        rfl
      refine pure_ (i := 9) (N := some 23) (v := ?_) (a' := ?_) #[true, true, true, true, true, true, true, false, true, true, false, false, false, false, false, false] rfl rfl (by kernel_rfl) (fun _ _ _ h => h) (Or.inl ⟨by rfl, ?_⟩) ?_ ?_
      rotate_left
      · intro w'
        go_simp
        with_reducible rfl
      rotate_left
      · simp only [Act.put, List.setIfInBounds_toArray, List.set_cons_zero, List.set_cons_succ, i64_w, i32_w]
        rfl
      refine pure_ (i := 10) (N := some 24) (v := ?_) (a' := ?_) #[true, true, true, true, true, true, true, false, true, true, true, false, false, false, false, false] rfl rfl (by kernel_rfl) (fun _ _ _ h => h) (Or.inl ⟨by rfl, ?_⟩) ?_ ?_
      rotate_left
      · intro w'
        go_simp
        with_reducible rfl
      rotate_left
      · simp only [Act.put, List.setIfInBounds_toArray, List.set_cons_zero, List.set_cons_succ, i64_w, i32_w]
        rfl
      refine take_ (i := 7) (N := some 21) (v := ?_) (a' := ?_) #[true, true, true, true, true, true, true, true, true, true, true, false, false, false, false, false] rfl rfl (by kernel_rfl) (fun _ _ _ h => h) (Or.inl ⟨by rfl, ?_⟩) hHeld ?_ ?_
      rotate_left
      · rintro w' ⟨s0, s1, s2, s3⟩
        go_simp
        with_reducible rfl
      rotate_left
      · simp only [Act.put, List.setIfInBounds_toArray, List.set_cons_zero, List.set_cons_succ, i64_w, i32_w]
        rfl
      refine take_ (i := 11) (N := some 25) (v := ?_) (a' := ?_) #[true, true, true, true, true, true, true, true, true, true, true, true, false, false, false, false] rfl rfl (by kernel_rfl) (fun _ _ _ h => h) (Or.inl ⟨by rfl, ?_⟩) hHeld ?_ ?_
      rotate_left
      · rintro w' ⟨s0, s1, s2, s3⟩
        go_simp
        with_reducible rfl
      rotate_left
      · simp only [Act.put, List.setIfInBounds_toArray, List.set_cons_zero, List.set_cons_succ, i64_w, i32_w]
        rfl
      refine pure_ (i := 12) (N := some 26) (v := ?_) (a' := ?_) #[true, true, true, true, true, true, true, true, true, true, true, true, true, false, false, false] rfl rfl (by kernel_rfl) (fun _ _ _ h => h) (Or.inl ⟨by rfl, ?_⟩) ?_ ?_
      rotate_left
      · intro w'
        go_simp
        with_reducible rfl
      rotate_left
      · simp only [Act.put, List.setIfInBounds_toArray, List.set_cons_zero, List.set_cons_succ, i64_w, i32_w]
        rfl
      refine last_ (i := 13) (N := none) #[true, true, true, true, true, true, true, true, true, true, true, true, true, true, false, false] rfl rfl (by kernel_rfl) (by decide) (fun K hK => ?_)
      refine skip_ (w1 := _) (by rfl) rfl (ex_store2 (u := xj) (v := yj) (g := g) (j := i) rfl (by simp [Act.eval, Act.put]) (by simp [Act.eval, Act.put]) HPD.out HIL.out) ?_
      refine hK.out _ _ ?_
      clear hK K
      refine pure_ (i := 14) (N := some 27) (v := ?_) (a' := ?_) #[true, true, true, true, true, true, true, true, true, true, true, true, true, true, true, false] rfl rfl (by kernel_rfl) (fun _ _ _ h => h) (Or.inl ⟨by rfl, ?_⟩) ?_ ?_
      rotate_left
      · intro w'
        go_simp
        with_reducible rfl
      rotate_left
      · simp only [Act.put, List.setIfInBounds_toArray, List.set_cons_zero, List.set_cons_succ, i64_w, i32_w]
        rfl
      refine last_ (i := 15) (N := none) #[true, true, true, true, true, true, true, true, true, true, true, true, true, true, true, true] rfl rfl (by kernel_rfl) (by decide) (fun K hK => ?_)
      refine skip_ (w1 := _) (by rfl) rfl (ex_store2 (u := xi) (v := yi) (g := g) (j := j) rfl (by simp [Act.eval, Act.put]) (by simp [Act.eval, Act.put]) (HPD.out.setp HIL.out xj yj) (by rw [List.length_set]; exact HJL.out)) ?_
      refine hK.out _ _ ?_
      clear hK K
      refine done_ (by kernel_rfl) ?_
      try clear hHeld
      have HP2 := Aside0.mk ((HPD.out.setp HIL.out xj yj).setp (by rw [List.length_set]; exact HJL.out) xi yi)
      rw [HST.out] at HP2
      have HC2 := Aside0.mk ((((((HC.out.trans (Chg.of_below (below_drew (Below.refl _ _)))).set_ (p := ⟨g, i * 2, none⟩) (.inl rfl) (.int .i64 xj)).set_ (p := ⟨g, i * 2 + 1, none⟩) (.inl rfl) (.int .i64 yj)).set_ (p := ⟨g, j * 2, none⟩) (.inl rfl) (.int .i64 xi)).set_ (p := ⟨g, j * 2 + 1, none⟩) (.inl rfl) (.int .i64 yi)))
      clear HP HC HPD y0 y1 y2 y3
      go_wp2
      go_roundg k1
      case measure => omega
      case rel => exact ⟨i + 1, (j : Int) - 1, by rw [ew.out]; simp, by rw [ew2.out], ⟨by have := HZ.out; omega⟩, ⟨by have := HK.out; omega⟩, HP2, HC2⟩
    · have d1 : decide ((i : Int) < z) = false := decide_eq_false hz
      have HE := Aside0.mk (rv_done l i (by have := HZ.out; have := HN.out; omega))
      clear hz
      go_wp2
      refine bodyPost_end (results_none rfl _ _ _) rfl ?_
      exact ⟨rfl, by rw [← HE.out]; exact HP.out, HC.out⟩
section
variable {S : Nat → Prop} {W : World} {g : Nat} {vf vu vg : Value} {A : La}
theorem undo_any (h : Lg S W g vf vu vg A) (hl : A.u.length ≤ 1000) : Calls Try.prog 11 #[.pointer (some ⟨g, 0, none⟩)] W fun e w' => ∃ v, e = .returned v ∧ PR w' W.heap.size v A.u.reverse ∧ Below W.heap.size W w' := by
  have HA := Aside0.mk h
  have HL := Aside0.mk hl
  have y3 : W.cell? ⟨g, 3, none⟩ = some vu := (blk_cell HA.out.hg 3).trans rfl
  clear h hl
  go_enter Try.func11, Try.ntmps11
  go_wp2_with (first
    | (go_at_call 50; (refine (clone_any HA.out.un (Nat.le_trans HL.out (by decide))).mono ?_); rintro e w1 ⟨v1, rfl, hr, hb⟩; have HR := Aside0.mk hr; have HB := Aside0.mk hb; clear hr hb)
    | (go_at_call 51; (refine (reverse_any HR.out (Nat.le_trans HL.out (by decide))).mono ?_); rintro e w2 ⟨rfl, hr, hc⟩; have HR2 := Aside0.mk hr; have HC := Aside0.mk hc; clear hr hc))
  go_ret
  exact ⟨v1, rfl, HR2.out, Chg.below HB.out HC.out HB.out.size (fun k hk => own_base HR.out k hk)⟩
theorem held_any (h : Lg S W g vf vu vg A) (hl : A.go.length ≤ 1000) : Calls Try.prog 29 #[.pointer (some ⟨g, 0, none⟩)] W fun e w' => ∃ v, e = .returned v ∧ PR w' W.heap.size v A.go ∧ Below W.heap.size W w' := by
  have HA := Aside0.mk h
  have HL := Aside0.mk hl
  have y3 : W.cell? ⟨g, 4, none⟩ = some vg := (blk_cell HA.out.hg 4).trans rfl
  clear h hl
  go_enter Try.func29, Try.ntmps29
  go_wp2_with (go_at_call 50; (refine (clone_any HA.out.gt (Nat.le_trans HL.out (by decide))).mono ?_); rintro e w1 ⟨v1, rfl, hr, hb⟩; have HR := Aside0.mk hr; have HB := Aside0.mk hb; clear hr hb)
  go_ret
  exact ⟨v1, rfl, HR.out, HB.out⟩
theorem number_any (h : Lg S W g vf vu vg A) : Calls Try.prog 31 #[.pointer (some ⟨g, 0, none⟩)] W fun e w' => e = .returned (.int .i64 A.nm) ∧ w' = W := by
  have y3 : W.cell? ⟨g, 1, none⟩ = some (.int .i64 A.nm) := (blk_cell h.hg 1).trans rfl
  clear h
  go_enter Try.func31, Try.ntmps31
  go_wp2
  go_ret
  exact ⟨rfl, rfl⟩
theorem aborts_any (h : Lg S W g vf vu vg A) : Calls Try.prog 32 #[.pointer (some ⟨g, 0, none⟩)] W fun e w' => e = .returned (.int .i64 A.ab) ∧ w' = W := by
  have y3 : W.cell? ⟨g, 2, none⟩ = some (.int .i64 A.ab) := (blk_cell h.hg 2).trans rfl
  clear h
  go_enter Try.func32, Try.ntmps32
  go_wp2
  go_ret
  exact ⟨rfl, rfl⟩
end
set_option maxHeartbeats 4000000 in
theorem begin_any {W : World} {A : Option Addr} {n c : Nat} {fx : List Value} (hr : RdC W A n 27 fx) (h1 : ∀ x ∈ fx, x.oneCell' = true) (hn : n ≤ 100000) (nm : Int) : Calls Try.prog 9 #[.slice A n c, .int .i64 nm] W fun e w' => ∃ g, e = .returned (.pointer (some ⟨g, 0, none⟩)) ∧ Log (fun k => W.heap.size ≤ k) w' g ⟨n, fx, nm, 0, [], []⟩ ∧ Below W.heap.size W w' := by
  have hu59 := Try.underlying59
  have hu104 := Try.underlying104
  have hbl := below_alloc (Below.refl W.heap.size W) (.cells #[] 110)
  have hrd : RdC (W.alloc (.cells #[] 110)) A n 27 fx := ⟨hr.1, fun h => by
    obtain ⟨ad, e, hc⟩ := hr.2 h
    exact ⟨ad, e, fun j u hj => (hbl.cell (World.block_lt_of_cell? _ _ (hc j u hj))).trans (hc j u hj)⟩⟩
  obtain ⟨v1, w9, hrn, hown, hg9, hat⟩ := app_any (P := Try.prog) (W := W.alloc (.cells #[] 110)) W.heap.size 59 59 110 27 216 z110 Try.underlying59 info110z rfl (by decide) (by decide) (.slice (some ⟨W.heap.size, 0, none⟩) 0 0) 0 [] fx A n c (own_fresh W (Nat.le_refl _) 110 27 (by decide)) hrd h1 (alloc_le _ _) (by omega) (fun _ => rfl)
  obtain ⟨A9, c9, rfl⟩ := own_slice hown
  have HO := Aside0.mk hown
  have HB := Aside0.mk (show Below W.heap.size W w9 from hbl.grown hg9 (alloc_le _ _) (fun k hk => by
    have : W.heap.size = k := by simpa [Value.ownBlock] using hk
    omega))
  have H1 := Aside0.mk h1
  clear hown hg9 hat hbl hr hrd h1
  go_enter Try.func9, Try.ntmps9
  go_wp2_with (first
    | (at_builtin; refine list_run rfl (.tmp 5) (.tmp 6) 59 59 rfl _ _ (.slice A9 (0 + n) c9) rfl rfl hrn ?_)
    | ((with_reducible refine gate_dst (N := 10) rfl ?_); refine box_event ?hg (N := 10) ?hd (cs := #[.slice A9 (0 + n) c9, .int .i64 nm, .int .i64 0, .slice none 0 0, .slice none 0 0]) (t := 104) ?hr ?_; (case hd => rfl); (case hg => rfl); (case hr => first | (go_simp; done) | (go_simp; rfl)); intro g hg w1 hbox hb; have HB2 := Aside0.mk hb; have HX := Aside0.mk hbox; have HG := Aside0.mk hg; clear hbox hb hg))
  go_ret
  have e1 := HB.out.size
  have e2 := HG.out
  have ho := HO.out
  rw [Nat.zero_add, List.nil_append] at ho
  refine ⟨g, rfl, ⟨.slice A9 n c9, .slice none 0 0, .slice none 0 0, ?_, own_weaken (pw_own_below ho HB2.out) (Nat.zero_le _), H1.out, PR.nil _ _, PR.nil _ _, (fun k hk => by cases hk), by omega, (fun k hk => by cases hk), (fun k hk => by cases hk), fun k hk => own_base ho k hk⟩, below_step HB.out HB2.out⟩
  have hx := HX.out
  rw [Nat.zero_add] at hx
  exact hx
end Go.Proofs.Ytakbhnfmimnbhaa.Rn
