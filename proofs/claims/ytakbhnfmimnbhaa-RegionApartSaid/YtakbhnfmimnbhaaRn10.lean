/- Frames: the last one, its top value turned; Frames and Again of a log. Conditions: none. -/
import Derived.Test.YtakbhnfmimnbhaaRn9
namespace Go.Proofs.Ytakbhnfmimnbhaa.Rn
open Go.RowKit Go.Proofs.YtakbhnfmimnbhaaW.PrintWords Go.Proofs.YtakbhnfmimnbhaaW.PrintLast Go.Proofs.YtakbhnfmimnbhaaW.PrintMore
set_option linter.unusedVariables false
set_option linter.unusedSimpArgs false

theorem fr_copy {W : World} {A : Option Addr} {n c : Nat} {fx : List Value} (hr : RdC W A n 27 fx) (h1 : ∀ x ∈ fx, x.oneCell' = true) (hn : n ≤ 100000) : ∃ A9 c9 w9, (Builtin.append_ #[59, 59] 59 #[.slice (some ⟨W.heap.size, 0, none⟩) 0 0, .slice A n c]).run Try.prog (W.alloc (.cells #[] 110)) = .ok (.slice A9 n c9) w9 ∧ w9.ownsRow W.heap.size 110 27 (.slice A9 n c9) n fx ∧ Below W.heap.size W w9 := by
  have hbl := below_alloc (Below.refl W.heap.size W) (.cells #[] 110)
  have hrd : RdC (W.alloc (.cells #[] 110)) A n 27 fx := ⟨hr.1, fun h => by
    obtain ⟨ad, e, hc⟩ := hr.2 h
    exact ⟨ad, e, fun j u hj => (hbl.cell (World.block_lt_of_cell? _ _ (hc j u hj))).trans (hc j u hj)⟩⟩
  obtain ⟨v1, w9, hrn, hown, hg9, hat⟩ := app_any (P := Try.prog) (ty := 59) (W := W.alloc (.cells #[] 110)) W.heap.size 59 110 27 216 z110 Try.underlying59 info110z rfl (by decide) (by decide) (.slice (some ⟨W.heap.size, 0, none⟩) 0 0) 0 [] fx A n c (own_fresh W (Nat.le_refl _) 110 27 (by decide)) hrd h1 (alloc_le _ _) (by omega) (fun _ => rfl)
  obtain ⟨A9, c9, rfl⟩ := own_slice hown
  rw [Nat.zero_add, List.nil_append] at hown
  rw [Nat.zero_add] at hrn
  exact ⟨A9, c9, w9, hrn, hown, hbl.grown hg9 (alloc_le _ _) (fun k hk => by
    have : W.heap.size = k := by simpa [Value.ownBlock] using hk
    omega)⟩
theorem own_rdc {W : World} {b e k : Nat} {v : Value} {A : Option Addr} {n m c : Nat} {fx : List Value} (h : W.ownsRow b e k (.slice A m c) n fx) : RdC W A n k fx := by
  refine ⟨h.1, fun hn => ?_⟩
  rcases h.2 with ⟨_, hz⟩ | ⟨g, cap, cur, h', _⟩
  · omega
  · injection h' with h1 h2 h3
    subst h1
    subst h2
    subst h3
    exact ⟨_, rfl, fun j u hu => h.cells (g := g) rfl j u hu⟩
theorem last_any {W : World} {A : Option Addr} {n c : Nat} {fx : List Value} (hr : RdC W A n 27 fx) (h1 : ∀ x ∈ fx, x.oneCell' = true) (hn : n ≤ 100000) (h0 : 0 < n) : Calls Try.prog 92 #[.slice A n c] W fun e w' => ∃ g c', e = .returned (.tuple #[.slice (some ⟨g, 0, none⟩) n c', .pointer (some ⟨g, (n - 1) * 27, none⟩)]) ∧ w'.ownsRow W.heap.size 110 27 (.slice (some ⟨g, 0, none⟩) n c') n fx ∧ Below W.heap.size W w' := by
  have hu59 := Try.underlying59
  obtain ⟨A9, c9, w9, hrn, hown, hbl⟩ := fr_copy (c := c) hr h1 hn
  have HB := Aside0.mk hbl
  obtain ⟨g, rfl⟩ : ∃ g, A9 = some ⟨g, 0, none⟩ := by
    rcases hown.2 with ⟨_, hz⟩ | ⟨g, cap, cur, h', _⟩
    · omega
    · injection h' with h1
      exact ⟨g, h1⟩
  have HO := Aside0.mk hown
  have d1 : ((n : Int) == 0) = false := beq_eq_false_iff_ne.2 (by omega)
  have d2 : (n == 0) = false := beq_eq_false_iff_ne.2 (by omega)
  have d3 : (n = 0) = False := eq_false (by omega)
  obtain ⟨M, hM⟩ : ∃ M, M = n - 1 := ⟨_, rfl⟩
  have ew : IntKind.i64.wrap ((n : Int) - 1) = (M : Int) := by rw [IntKind.wrap_i64]; omega
  have p1 : (0 ≤ (M : Int)) = True := eq_true (by omega)
  have p2 : ((M : Int) < (n : Int)) = True := eq_true (by omega)
  have HM := Aside0.mk hM
  clear hbl hown hr h1 hn h0 hM
  go_enter Try.func92, Try.ntmps92
  go_upto_region 4 with (at_builtin; refine list_run rfl (.tmp 8) (.tmp 9) 59 59 rfl _ _ (.slice (some ⟨g, 0, none⟩) n c9) rfl rfl hrn ?_)
  refine start_ (n := 8) (S := fun w' => True) (ds := []) #[false, false, false, false, false, false, false, false] (by kernel_rfl) rfl rfl trivial (fun hHeld => ?_)
  refine pure_ (i := 0) (N := some 11) (v := ?_) (a' := ?_) #[true, false, false, false, false, false, false, false] rfl rfl (by kernel_rfl) (fun _ _ _ h => h) (Or.inl ⟨by rfl, ?_⟩) ?_ ?_
  rotate_left
  · intro w'
    go_simp
    with_reducible rfl
  rotate_left
  · simp only [Act.put, List.setIfInBounds_toArray, List.set_cons_zero, List.set_cons_succ, i64_w, i32_w]
    rfl
  refine pure_ (i := 1) (N := some 12) (v := ?_) (a' := ?_) #[true, true, false, false, false, false, false, false] rfl rfl (by kernel_rfl) (fun _ _ _ h => h) (Or.inl ⟨by rfl, ?_⟩) ?_ ?_
  rotate_left
  · intro w'
    go_simp
    with_reducible rfl
  rotate_left
  · simp only [Act.put, List.setIfInBounds_toArray, List.set_cons_zero, List.set_cons_succ, i64_w, i32_w]
    rfl
  refine pure_ (i := 2) (N := some 13) (v := ?_) (a' := ?_) #[true, true, true, false, false, false, false, false] rfl rfl (by kernel_rfl) (fun _ _ _ h => h) (Or.inl ⟨by rfl, ?_⟩) ?_ ?_
  rotate_left
  · intro w'
    go_simp
    with_reducible rfl
  rotate_left
  · simp only [Act.put, List.setIfInBounds_toArray, List.set_cons_zero, List.set_cons_succ, i64_w, i32_w]
    rfl
  refine pure_ (i := 3) (N := some 14) (v := ?_) (a' := ?_) #[true, true, true, true, false, false, false, false] rfl rfl (by kernel_rfl) (fun _ _ _ h => h) (Or.inl ⟨by rfl, ?_⟩) ?_ ?_
  rotate_left
  · intro w'
    go_simp
    with_reducible rfl
  rotate_left
  · simp only [Act.put, List.setIfInBounds_toArray, List.set_cons_zero, List.set_cons_succ, i64_w, i32_w]
    rfl
  refine pure_ (i := 4) (N := some 15) (v := ?_) (a' := ?_) #[true, true, true, true, true, false, false, false] rfl rfl (by kernel_rfl) (fun _ _ _ h => h) (Or.inl ⟨by rfl, ?_⟩) ?_ ?_
  rotate_left
  · intro w'
    go_simp
    with_reducible rfl
  rotate_left
  · simp only [Act.put, List.setIfInBounds_toArray, List.set_cons_zero, List.set_cons_succ, i64_w, i32_w]
    rfl
  refine pure_ (i := 5) (N := some 16) (v := ?_) (a' := ?_) #[true, true, true, true, true, true, false, false] rfl rfl (by kernel_rfl) (fun _ _ _ h => h) (Or.inl ⟨by rfl, ?_⟩) ?_ ?_
  rotate_left
  · intro w'
    go_simp
    with_reducible rfl
  rotate_left
  · simp only [Act.put, List.setIfInBounds_toArray, List.set_cons_zero, List.set_cons_succ, i64_w, i32_w]
    rfl
  refine pure_ (i := 6) (N := some 2) (v := ?_) (a' := ?_) #[true, true, true, true, true, true, true, false] rfl rfl (by kernel_rfl) (fun _ _ _ h => h) (Or.inl ⟨by rfl, ?_⟩) ?_ ?_
  rotate_left
  · intro w'
    go_simp
    with_reducible rfl
  rotate_left
  · simp only [Act.put, List.setIfInBounds_toArray, List.set_cons_zero, List.set_cons_succ, i64_w, i32_w]
    rfl
  refine pure_ (i := 7) (N := some 3) (v := ?_) (a' := ?_) #[true, true, true, true, true, true, true, true] rfl rfl (by kernel_rfl) (fun _ _ _ h => h) (Or.inl ⟨by rfl, ?_⟩) ?_ ?_
  rotate_left
  · intro w'
    go_simp
    with_reducible rfl
  rotate_left
  · simp only [Act.put, List.setIfInBounds_toArray, List.set_cons_zero, List.set_cons_succ, i64_w, i32_w]
    rfl
  refine done_ (by kernel_rfl) ?_
  go_wp2
  go_ret2
  exact ⟨g, c9, by rw [← HM.out]; rfl, pw_own_below HO.out (below_drew (Below.refl _ _)), below_drew HB.out⟩
theorem last_none {W : World} {A : Option Addr} {c : Nat} : Calls Try.prog 92 #[.slice A 0 c] W fun e w' => e = .returned (.tuple #[.slice none 0 0, .pointer none]) ∧ w' = W := by
  go_enter Try.func92, Try.ntmps92
  go_wp2
  go_ret2
  exact ⟨rfl, rfl⟩
theorem low_any (W : World) (v : Int) (hv : 0 ≤ v ∧ v ≤ 1000000) : Calls Try.prog 93 #[.int .i64 v] W fun e w' => e = .returned (.int .i64 v) ∧ w' = W := by
  have e1 : IntKind.u32.wrap v = v := by simp [IntKind.wrap, IntKind.signed, IntKind.bits]; omega
  have e2 : IntKind.i32.wrap v = v := by rw [i32_w]; unfold wrap32; omega
  have e3 : IntKind.i64.wrap v = v := by rw [IntKind.wrap_i64]; omega
  have e4 : wrap32 v = v := by unfold wrap32; omega
  have e5 : wrap64 v = v := by unfold wrap64; omega
  clear hv
  go_enter Try.func93, Try.ntmps93
  go_wp2
  go_ret
  first | exact ⟨rfl, rfl⟩ | simp [e1, e2, e3, e4, e5]
/-- The frames' cells, the top value of the last one turned. -/
def topN (n : Nat) (is : List Int) : Int := is.getD ((n - 1) * 27 + 2) 0
def turnI (n : Nat) (is : List Int) (v : Int) : List Int := if 0 < n ∧ 0 < topN n is ∧ topN n is ≤ 16 then is.set ((n - 1) * 27 + 11 + (topN n is - 1).toNat) v else is
theorem nums_set (is : List Int) (j : Nat) (v : Int) : (nums .i64 is).set j (.int .i64 v) = nums .i64 (is.set j v) := by simp [nums, List.map_set]
theorem nums_at {is : List Int} {j : Nat} (h : j < is.length) : (nums .i64 is)[j]? = some (.int .i64 (is.getD j 0)) := by simp [nums, h, List.getD_eq_getElem?_getD]
theorem nums_one (l : List Int) : ∀ u ∈ nums .i64 l, u.oneCell' = true := by
  intro u hu
  simp only [nums, List.mem_map] at hu
  obtain ⟨q, _, rfl⟩ := hu
  rfl
theorem own_at {W : World} {b e k n g c : Nat} {xs : List Value} (h : W.ownsRow b e k (.slice (some ⟨g, 0, none⟩) n c) n xs) {j : Nat} {u : Value} (hu : xs[j]? = some u) : W.cell? ⟨g, j, none⟩ = some u ∧ W.frozen? ⟨g, j, none⟩ = false := by
  have h1 := h.cells (g := g) rfl j u hu
  rw [add_plain] at h1
  obtain ⟨cs, hcs⟩ := own_typed h g rfl
  exact ⟨h1, blk_frozen hcs j⟩
set_option maxHeartbeats 8000000 in
set_option maxRecDepth 100000 in
theorem turn_any {W : World} {A : Option Addr} {n c : Nat} {is : List Int} (hr : RdC W A n 27 (nums .i64 is)) (hn : n ≤ 100000) {v : Int} (hv : 0 ≤ v ∧ v ≤ 1000000) : Calls Try.prog 69 #[.slice A n c, .int .i64 v] W fun e w' => ∃ v', e = .returned v' ∧ w'.ownsRow W.heap.size 110 27 v' n (nums .i64 (turnI n is v)) ∧ Below W.heap.size W w' := by
  have hu59 := Try.underlying59
  have hu110 := Try.underlying110
  have hu108 := Try.underlying108
  have HV := Aside0.mk hv
  by_cases h0 : 0 < n
  · have HLS := Aside0.mk (last_any (c := c) hr (nums_one _) hn h0)
    have HLEN := Aside0.mk (show is.length = n * 27 from by have := hr.1; simpa [nums] using this)
    have HN := Aside0.mk h0
    clear hr hn hv h0
    go_enter Try.func69, Try.ntmps69
    go_upto_region 2 with (go_at_call 92; (refine HLS.out.mono ?_); rintro e w1 ⟨g, c', rfl, ho, hb⟩; have HO := Aside0.mk ho; have HB := Aside0.mk hb; clear ho hb)
    have HCN := Aside0.mk (own_at HO.out (nums_at (is := is) (j := (n - 1) * 27 + 2) (by have := HLEN.out; have := HN.out; omega)))
    obtain ⟨E, hE⟩ : ∃ E, E = (n - 1) * 27 := ⟨_, rfl⟩
    have HE := Aside0.mk hE
    obtain ⟨m, hm⟩ : ∃ m, m = topN n is := ⟨_, rfl⟩
    have HM := Aside0.mk hm
    have y2 : w1.cell? ⟨g, E + 2, none⟩ = some (.int .i64 m) := by rw [hE, hm]; exact HCN.out.1
    rw [← hE]
    clear hE hm
    by_cases hc : 0 < m ∧ m ≤ 16
    · have d1 : decide (0 < m) = true := decide_eq_true hc.1
      have d2 : decide (m ≤ 16) = true := decide_eq_true hc.2
      have HC := Aside0.mk hc
      obtain ⟨M, rfl⟩ : ∃ M : Nat, m = (M : Int) := ⟨m.toNat, by omega⟩
      have HT := Aside0.mk (show turnI n is v = is.set (E + 11 + (M - 1)) v from by
        unfold turnI
        rw [if_pos ⟨HN.out, by rw [← HM.out]; exact hc.1, by rw [← HM.out]; exact hc.2⟩, ← HM.out, ← HE.out, show ((M : Int) - 1).toNat = M - 1 by omega])
      have d3 : decide (0 < M) = true := decide_eq_true (by omega)
      have d4 : decide (M ≤ 16) = true := decide_eq_true (by omega)
      clear hc
      go_upto_region 3 with (fail)
      clear d1 d2 d3 d4
      obtain ⟨I, hI⟩ : ∃ I, I = M - 1 := ⟨_, rfl⟩
      have ew : IntKind.i64.wrap ((M : Int) - 1) = (I : Int) := by rw [IntKind.wrap_i64]; have := HC.out; omega
      have p1 : (0 ≤ (I : Int)) = True := eq_true (by omega)
      have p2 : ((I : Int) < 16) = True := eq_true (by have := HC.out; omega)
      have p3 : (I < 16) = True := eq_true (by have := HC.out; omega)
      rw [← hI] at HT
      have HCS := Aside0.mk (own_at HO.out (nums_at (is := is) (j := E + 11 + I) (by have h1 := HLEN.out; have h2 := HN.out; have h3 := HC.out; have h4 := HE.out; omega)))
      replace y2 : w1.drew.cell? ⟨g, E + 2, none⟩ = some (.int .i64 (M : Int)) := y2
      obtain ⟨z, hz⟩ : ∃ z, z = is.getD (E + 11 + I) 0 := ⟨_, rfl⟩
      have cz : w1.drew.cell? ⟨g, E + 11 + I, none⟩ = some (.int .i64 z) := by rw [hz]; exact HCS.out.1
      have fz : w1.drew.frozen? ⟨g, E + 11 + I, none⟩ = false := HCS.out.2
      clear hz hI
      refine start_ (n := 12) (S := fun w' => w'.cell? ⟨g, E + 2, none⟩ = some (.int .i64 (M : Int))) (ds := [11]) #[false, false, false, false, false, false, false, false, false, false, false, false] (by kernel_rfl) rfl rfl (y2) (fun hHeld => ?_)
      refine pure_ (i := 0) (N := some 28) (v := ?_) (a' := ?_) #[true, false, false, false, false, false, false, false, false, false, false, false] rfl rfl (by kernel_rfl) (fun _ _ _ h => h) (Or.inl ⟨by rfl, ?_⟩) ?_ ?_
      rotate_left
      · intro w'
        go_simp
        with_reducible rfl
      rotate_left
      · simp only [Act.put, List.setIfInBounds_toArray, List.set_cons_zero, List.set_cons_succ, i64_w, i32_w]
        rfl
      refine pure_ (i := 1) (N := some 29) (v := ?_) (a' := ?_) #[true, true, false, false, false, false, false, false, false, false, false, false] rfl rfl (by kernel_rfl) (fun _ _ _ h => h) (Or.inl ⟨by rfl, ?_⟩) ?_ ?_
      rotate_left
      · intro w'
        go_simp
        with_reducible rfl
      rotate_left
      · simp only [Act.put, List.setIfInBounds_toArray, List.set_cons_zero, List.set_cons_succ, i64_w, i32_w]
        rfl
      refine pure_ (i := 2) (N := some 30) (v := ?_) (a' := ?_) #[true, true, true, false, false, false, false, false, false, false, false, false] rfl rfl (by kernel_rfl) (fun _ _ _ h => h) (Or.inl ⟨by rfl, ?_⟩) ?_ ?_
      rotate_left
      · intro w'
        go_simp
        with_reducible rfl
      rotate_left
      · simp only [Act.put, List.setIfInBounds_toArray, List.set_cons_zero, List.set_cons_succ, i64_w, i32_w]
        rfl
      refine pure_ (i := 3) (N := some 31) (v := ?_) (a' := ?_) #[true, true, true, true, false, false, false, false, false, false, false, false] rfl rfl (by kernel_rfl) (fun _ _ _ h => h) (Or.inl ⟨by rfl, ?_⟩) ?_ ?_
      rotate_left
      · intro w'
        go_simp
        with_reducible rfl
      rotate_left
      · simp only [Act.put, List.setIfInBounds_toArray, List.set_cons_zero, List.set_cons_succ, i64_w, i32_w]
        rfl
      refine pure_ (i := 6) (N := some 34) (v := ?_) (a' := ?_) #[true, true, true, true, false, false, true, false, false, false, false, false] rfl rfl (by kernel_rfl) (fun _ _ _ h => h) (Or.inl ⟨by rfl, ?_⟩) ?_ ?_
      rotate_left
      · intro w'
        go_simp
        with_reducible rfl
      rotate_left
      · simp only [Act.put, List.setIfInBounds_toArray, List.set_cons_zero, List.set_cons_succ, i64_w, i32_w]
        rfl
      refine pure_ (i := 8) (N := some 36) (v := ?_) (a' := ?_) #[true, true, true, true, false, false, true, false, true, false, false, false] rfl rfl (by kernel_rfl) (fun _ _ _ h => h) (Or.inl ⟨by rfl, ?_⟩) ?_ ?_
      rotate_left
      · intro w'
        go_simp
        with_reducible rfl
      rotate_left
      · simp only [Act.put, List.setIfInBounds_toArray, List.set_cons_zero, List.set_cons_succ, i64_w, i32_w]
        rfl
      refine pure_ (i := 9) (N := some 37) (v := ?_) (a' := ?_) #[true, true, true, true, false, false, true, false, true, true, false, false] rfl rfl (by kernel_rfl) (fun _ _ _ h => h) (Or.inl ⟨by rfl, ?_⟩) ?_ ?_
      rotate_left
      · intro w'
        go_simp
        with_reducible rfl
      rotate_left
      · simp only [Act.put, List.setIfInBounds_toArray, List.set_cons_zero, List.set_cons_succ, i64_w, i32_w]
        rfl
      refine take_ (i := 4) (N := some 32) (v := ?_) (a' := ?_) #[true, true, true, true, true, false, true, false, true, true, false, false] rfl rfl (by kernel_rfl) (fun _ _ _ h => h) (Or.inl ⟨by rfl, ?_⟩) hHeld ?_ ?_
      rotate_left
      · intro w' s0
        go_simp
        with_reducible rfl
      rotate_left
      · simp only [Act.put, List.setIfInBounds_toArray, List.set_cons_zero, List.set_cons_succ, i64_w, i32_w]
        rfl
      refine pure_ (i := 5) (N := some 33) (v := ?_) (a' := ?_) #[true, true, true, true, true, true, true, false, true, true, false, false] rfl rfl (by kernel_rfl) (fun _ _ _ h => h) (Or.inl ⟨by rfl, ?_⟩) ?_ ?_
      rotate_left
      · intro w'
        go_simp
        with_reducible rfl
      rotate_left
      · simp only [Act.put, List.setIfInBounds_toArray, List.set_cons_zero, List.set_cons_succ, i64_w, i32_w]
        rfl
      refine one_ (i := 7) (N := some 35) #[true, true, true, true, true, true, true, true, true, true, false, false] rfl rfl (by kernel_rfl) (by decide) (fun K hK => ?_)
      refine goes_ Try.func93 (by kernel_rfl) rfl #[.int .i64 v] (by rfl) rfl rfl (by simp only [List.map_toArray, List.map_cons, List.map_nil]; rfl) ?_
      with_reducible refine (low_any _ v HV.out).mono ?_
      rintro e w5 ⟨rfl, rfl⟩
      refine ⟨_, rfl, ?_⟩
      refine hK.out _ _ (y2) (fun hHeld => ?_)
      clear hK K
      refine norm_ (a' := ?_) ?_ ?_
      rotate_left
      · show Act.put _ (some 35) _ = _
        simp only [Act.put, List.setIfInBounds_toArray, List.set_cons_zero, List.set_cons_succ, i64_w, i32_w]
        rfl
      refine pure_ (i := 10) (N := some 38) (v := ?_) (a' := ?_) #[true, true, true, true, true, true, true, true, true, true, true, false] rfl rfl (by kernel_rfl) (fun _ _ _ h => h) (Or.inl ⟨by rfl, ?_⟩) ?_ ?_
      rotate_left
      · intro w'
        go_simp
        with_reducible rfl
      rotate_left
      · simp only [Act.put, List.setIfInBounds_toArray, List.set_cons_zero, List.set_cons_succ, i64_w, i32_w]
        rfl
      refine last_ (i := 11) (N := none) #[true, true, true, true, true, true, true, true, true, true, true, true] rfl rfl (by kernel_rfl) (by decide) (fun K hK => ?_)
      refine skip_ (w1 := ?_) (by rfl) rfl ?_ ?_
      rotate_left
      · go_simp
        rfl
      refine hK.out _ _ ?_
      clear hK K
      refine done_ (by kernel_rfl) ?_
      go_wp2
      go_ret
      refine ⟨_, rfl, ?_, ?_⟩
      · rw [HT.out, ← nums_set]
        have ho : w1.drew.ownsRow W.heap.size 110 27 (.slice (some ⟨g, 0, none⟩) n c') n (nums .i64 is) := pw_own_below HO.out (below_drew (Below.refl _ _))
        exact (ho.stored (E + 11 + I) (.int .i64 v)).1
      · exact (below_drew HB.out).setCell (own_base HO.out g rfl) _
    · have HT := Aside0.mk (show turnI n is v = is from by
        unfold turnI
        rw [if_neg (fun z => hc (by rw [HM.out]; exact z.2))])
      by_cases hc1 : 0 < m
      · have d1 : decide (0 < m) = true := decide_eq_true hc1
        have d2 : decide (m ≤ 16) = false := decide_eq_false (fun z => hc ⟨hc1, z⟩)
        clear hc hc1
        go_wp2
        go_ret
        exact ⟨_, rfl, by rw [HT.out]; exact HO.out, HB.out⟩
      · have d1 : decide (0 < m) = false := decide_eq_false hc1
        clear hc hc1
        go_wp2
        go_ret
        exact ⟨_, rfl, by rw [HT.out]; exact HO.out, HB.out⟩
  · obtain rfl : n = 0 := by omega
    have hl : is = [] := by
      have := hr.1
      simpa [nums] using this
    subst hl
    clear hr hn hv h0
    go_enter Try.func69, Try.ntmps69
    go_wp2_with (go_at_call 92; (refine last_none.mono ?_); rintro e w1 ⟨rfl, rfl⟩)
    go_ret
    exact ⟨_, rfl, own_nil _ _ _ _, Below.refl _ _⟩
section
variable {S : Nat → Prop} {W : World} {g : Nat} {vf vu vg : Value} {A : La}
/-- What a log tells of its frames. -/
def frI (A : La) (is : List Int) : List Int := if 0 < A.ab then turnI A.n is A.ab else is
set_option maxHeartbeats 8000000 in
set_option maxRecDepth 100000 in
theorem frames_any (h : Lg S W g vf vu vg A) {is : List Int} (hi : A.fx = nums .i64 is) (hn : A.n ≤ 100000) (ha : 0 ≤ A.ab ∧ A.ab ≤ 1000000) : Calls Try.prog 30 #[.pointer (some ⟨g, 0, none⟩)] W fun e w' => ∃ v', e = .returned v' ∧ w'.ownsRow W.heap.size 110 27 v' A.n (nums .i64 (frI A is)) ∧ Below W.heap.size W w' := by
  have hu59 := Try.underlying59
  have hfr := h.fr
  rw [hi] at hfr
  obtain ⟨Af, cf, rfl⟩ := own_slice h.fr
  have HX := Aside0.mk h.hg
  have y2 : W.cell? ⟨g, 2, none⟩ = some (.int .i64 A.ab) := (blk_cell h.hg 2).trans rfl
  have y0 : W.cell? ⟨g, 0, none⟩ = some (.slice Af A.n cf) := (blk_cell h.hg 0).trans rfl
  obtain ⟨n, hnn⟩ : ∃ n, n = A.n := ⟨_, rfl⟩
  rw [← hnn] at y0 hfr hn
  by_cases h0 : 0 < A.ab
  · have d1 : decide (0 < A.ab) = true := decide_eq_true h0
    have HF := Aside0.mk (show frI A is = turnI n is A.ab from by unfold frI; rw [if_pos h0, hnn])
    have HTN := Aside0.mk (turn_any (W := W.drew) (c := cf) (own_rdc (v := .bool true) (pw_own_below hfr (below_drew (Below.refl _ _)))) hn ha)
    have HNN := Aside0.mk hnn
    obtain ⟨AB, hAB⟩ : ∃ AB, AB = A.ab := ⟨_, rfl⟩
    rw [← hAB] at d1 HTN y2 HF
    obtain ⟨vf, hvf⟩ : ∃ vf, vf = Value.slice Af n cf := ⟨_, rfl⟩
    rw [← hvf] at y0 HTN
    clear h0 hfr h hnn hn ha hAB hi hvf
    go_enter Try.func30, Try.ntmps30
    go_upto_region 4 with (fail)
    replace y0 : W.drew.cell? ⟨g, 0, none⟩ = some vf := y0
    replace y2 : W.drew.cell? ⟨g, 2, none⟩ = some (.int .i64 AB) := y2
    refine start_ (n := 10) (S := fun w' => w'.cell? ⟨g, 0, none⟩ = some vf ∧ w'.cell? ⟨g, 2, none⟩ = some (.int .i64 AB)) (ds := []) #[false, false, false, false, false, false, false, false, false, false] (by kernel_rfl) rfl rfl ⟨y0, y2⟩ (fun hHeld => ?_)
    refine pure_ (i := 0) (N := some 10) (v := ?_) (a' := ?_) #[true, false, false, false, false, false, false, false, false, false] rfl rfl (by kernel_rfl) (fun _ _ _ h => h) (Or.inl ⟨by rfl, ?_⟩) ?_ ?_
    rotate_left
    · intro w'
      go_simp
      with_reducible rfl
    rotate_left
    · simp only [Act.put, List.setIfInBounds_toArray, List.set_cons_zero, List.set_cons_succ, i64_w, i32_w]
      rfl
    refine pure_ (i := 1) (N := some 11) (v := ?_) (a' := ?_) #[true, true, false, false, false, false, false, false, false, false] rfl rfl (by kernel_rfl) (fun _ _ _ h => h) (Or.inl ⟨by rfl, ?_⟩) ?_ ?_
    rotate_left
    · intro w'
      go_simp
      with_reducible rfl
    rotate_left
    · simp only [Act.put, List.setIfInBounds_toArray, List.set_cons_zero, List.set_cons_succ, i64_w, i32_w]
      rfl
    refine pure_ (i := 2) (N := some 12) (v := ?_) (a' := ?_) #[true, true, true, false, false, false, false, false, false, false] rfl rfl (by kernel_rfl) (fun _ _ _ h => h) (Or.inl ⟨by rfl, ?_⟩) ?_ ?_
    rotate_left
    · intro w'
      go_simp
      with_reducible rfl
    rotate_left
    · simp only [Act.put, List.setIfInBounds_toArray, List.set_cons_zero, List.set_cons_succ, i64_w, i32_w]
      rfl
    refine pure_ (i := 4) (N := some 14) (v := ?_) (a' := ?_) #[true, true, true, false, true, false, false, false, false, false] rfl rfl (by kernel_rfl) (fun _ _ _ h => h) (Or.inl ⟨by rfl, ?_⟩) ?_ ?_
    rotate_left
    · intro w'
      go_simp
      with_reducible rfl
    rotate_left
    · simp only [Act.put, List.setIfInBounds_toArray, List.set_cons_zero, List.set_cons_succ, i64_w, i32_w]
      rfl
    refine pure_ (i := 5) (N := some 15) (v := ?_) (a' := ?_) #[true, true, true, false, true, true, false, false, false, false] rfl rfl (by kernel_rfl) (fun _ _ _ h => h) (Or.inl ⟨by rfl, ?_⟩) ?_ ?_
    rotate_left
    · intro w'
      go_simp
      with_reducible rfl
    rotate_left
    · simp only [Act.put, List.setIfInBounds_toArray, List.set_cons_zero, List.set_cons_succ, i64_w, i32_w]
      rfl
    refine pure_ (i := 6) (N := some 16) (v := ?_) (a' := ?_) #[true, true, true, false, true, true, true, false, false, false] rfl rfl (by kernel_rfl) (fun _ _ _ h => h) (Or.inl ⟨by rfl, ?_⟩) ?_ ?_
    rotate_left
    · intro w'
      go_simp
      with_reducible rfl
    rotate_left
    · simp only [Act.put, List.setIfInBounds_toArray, List.set_cons_zero, List.set_cons_succ, i64_w, i32_w]
      rfl
    refine take_ (i := 3) (N := some 13) (v := ?_) (a' := ?_) #[true, true, true, true, true, true, true, false, false, false] rfl rfl (by kernel_rfl) (fun _ _ _ h => h) (Or.inl ⟨by rfl, ?_⟩) hHeld ?_ ?_
    rotate_left
    · rintro w' ⟨s0, s1⟩
      go_simp
      with_reducible rfl
    rotate_left
    · simp only [Act.put, List.setIfInBounds_toArray, List.set_cons_zero, List.set_cons_succ, i64_w, i32_w]
      rfl
    refine take_ (i := 7) (N := some 17) (v := ?_) (a' := ?_) #[true, true, true, true, true, true, true, true, false, false] rfl rfl (by kernel_rfl) (fun _ _ _ h => h) (Or.inl ⟨by rfl, ?_⟩) hHeld ?_ ?_
    rotate_left
    · rintro w' ⟨s0, s1⟩
      go_simp
      with_reducible rfl
    rotate_left
    · simp only [Act.put, List.setIfInBounds_toArray, List.set_cons_zero, List.set_cons_succ, i64_w, i32_w]
      rfl
    refine one_ (i := 8) (N := some 18) #[true, true, true, true, true, true, true, true, true, false] rfl rfl (by kernel_rfl) (by decide) (fun K hK => ?_)
    refine goes_ Try.func69 (by kernel_rfl) rfl #[vf, .int .i64 AB] (by rfl) rfl rfl (by simp only [List.map_toArray, List.map_cons, List.map_nil]; rfl) ?_
    with_reducible refine (HTN.out).mono ?_
    rintro e w5 ⟨v5, rfl, ho, hb⟩
    refine ⟨_, rfl, ?_⟩
    have HO := Aside0.mk ho
    have HB := Aside0.mk (show Below W.heap.size W w5 from below_step (below_drew (Below.refl _ _)) hb)
    clear ho hb
    refine hK.out _ _ ⟨(HB.out.cell (blk_lt HX.out)).trans y0, (HB.out.cell (blk_lt HX.out)).trans y2⟩ (fun hHeld => ?_)
    clear hK K
    refine norm_ (a' := ?_) ?_ ?_
    rotate_left
    · show Act.put _ (some 18) _ = _
      simp only [Act.put, List.setIfInBounds_toArray, List.set_cons_zero, List.set_cons_succ, i64_w, i32_w]
      rfl
    refine pure_ (i := 9) (N := some 2) (v := ?_) (a' := ?_) #[true, true, true, true, true, true, true, true, true, true] rfl rfl (by kernel_rfl) (fun _ _ _ h => h) (Or.inl ⟨by rfl, ?_⟩) ?_ ?_
    rotate_left
    · intro w'
      go_simp
      with_reducible rfl
    rotate_left
    · simp only [Act.put, List.setIfInBounds_toArray, List.set_cons_zero, List.set_cons_succ, i64_w, i32_w]
      rfl
    refine done_ (by kernel_rfl) ?_
    go_wp2
    go_ret
    exact ⟨v5, rfl, by rw [HF.out, ← HNN.out]; exact HO.out, HB.out⟩
  · have d1 : decide (0 < A.ab) = false := decide_eq_false h0
    have HF := Aside0.mk (show frI A is = is from by unfold frI; rw [if_neg h0])
    obtain ⟨A9, c9, w9, hrn, hown, hbl⟩ := fr_copy (c := cf) (own_rdc (v := .bool true) hfr) (nums_one _) hn
    have HO := Aside0.mk hown
    have HB := Aside0.mk hbl
    have HNN := Aside0.mk hnn
    have y0a : (W.alloc (.cells #[] 110)).cell? ⟨g, 0, none⟩ = some (.slice Af n cf) := ((below_alloc (Below.refl W.heap.size W) (.cells #[] 110)).cell (blk_lt h.hg)).trans y0
    clear h0 hfr h hnn hn ha hi hown hbl
    go_enter Try.func30, Try.ntmps30
    go_wp2_with (at_builtin; refine list_run rfl (.tmp 19) (.tmp 23) 59 59 rfl _ _ (.slice A9 n c9) rfl rfl hrn ?_)
    go_ret
    exact ⟨_, rfl, by rw [HF.out, ← HNN.out]; exact HO.out, HB.out⟩
theorem again_any (h : Lg S W g vf vu vg A) (hn : A.n ≤ 100000) (ha : 0 ≤ A.ab ∧ A.ab ≤ 1000000) (nm : Int) : Calls Try.prog 33 #[.pointer (some ⟨g, 0, none⟩), .int .i64 nm] W fun e w' => ∃ g', e = .returned (.pointer (some ⟨g', 0, none⟩)) ∧ Log (fun k => W.heap.size ≤ k) w' g' ⟨A.n, A.fx, nm, A.ab + 1, [], []⟩ ∧ Below W.heap.size W w' := by
  have hu59 := Try.underlying59
  obtain ⟨Af, cf, rfl⟩ := own_slice h.fr
  have HA := Aside0.mk h
  have HBG := Aside0.mk (begin_any (c := cf) (own_rdc (v := .bool true) h.fr) h.f1 hn nm)
  have y0 : W.cell? ⟨g, 0, none⟩ = some (.slice Af A.n cf) := (blk_cell h.hg 0).trans rfl
  have ew : Aside0 (wrap64 (A.ab + 1) = A.ab + 1) := ⟨by unfold wrap64; omega⟩
  clear h hn ha
  go_enter Try.func33, Try.ntmps33
  go_upto_region 4 with (go_at_call 9; (refine HBG.out.mono ?_); rintro e w1 ⟨g1, rfl, ⟨vf1, vu1, vg1, hl⟩, hb⟩; have HL := Aside0.mk hl; have HB := Aside0.mk hb; clear hl hb)
  have HA1 := Aside0.mk (HA.out.below HB.out)
  clear y0
  have y2 : w1.cell? ⟨g, 2, none⟩ = some (.int .i64 A.ab) := (blk_cell HA1.out.hg 2).trans rfl
  have z2 : w1.cell? ⟨g1, 2, none⟩ = some (.int .i64 0) := (blk_cell HL.out.hg 2).trans rfl
  have fz := blk_frozen HL.out.hg 2
  go_wp2
  go_ret
  rw [ew.out]
  have hl := HL.out
  exact ⟨g1, rfl, ⟨vf1, vu1, vg1, blk_put hl.hg 2 _ rfl, own_setCell hl.fr (own_ne hl.fr hl.hg (by decide)) _, hl.f1, own_setCell hl.un (own_ne hl.un hl.hg (by decide)) _, own_setCell hl.gt (own_ne hl.gt hl.hg (by decide)) _, hl.ap, hl.s⟩, HB.out.setCell hl.s.1 _⟩
end
end Go.Proofs.Ytakbhnfmimnbhaa.Rn
