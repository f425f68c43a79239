/- Places: Fetch. Conditions: none. -/
import Derived.Test.YtjcjhmnfknenlaaPl5
namespace Go.Proofs.Ytjcjhmnfknenlaa.Pl
open Go.RowKit Go.Proofs.YtjcjhmnfknenlaaW.PrintWords Go.Proofs.YtjcjhmnfknenlaaW.PrintLast Go.Proofs.YtjcjhmnfknenlaaW.PrintMore
open Rg (Chg Row row_back row_popback row_popfront row_all row_new row_clone two refDo)
set_option linter.unusedVariables false
set_option linter.unusedSimpArgs false

def fetchA (A : Pa) (x d : Int) : Pa × Int × Int :=
  if 0 ≤ x ∧ x < (A.n : Int) ∧ A.runs x.toNat = 0 then
    (if 0 < (nextA A x.toNat d).2.2 then ({ (nextA A x.toNat d).1 with runs := up (nextA A x.toNat d).1.runs x.toNat ((nextA A x.toNat d).2.1 + 1), work := up (nextA A x.toNat d).1.work x.toNat 0, wh := up (nextA A x.toNat d).1.wh (nextA A x.toNat d).2.1.toNat 1 }, (nextA A x.toNat d).2.1, (nextA A x.toNat d).2.2)
     else nextA A x.toNat d) else (A, -1, 0)
theorem nextA_n (A : Pa) (i : Nat) (d : Int) : (nextA A i d).1.n = A.n := by
  unfold nextA
  split
  · rfl
  · split
    · rfl
    · split <;> rfl
theorem getD_mem {l : List Int} {k : Nat} (h : k < l.length) : l.getD k 0 ∈ l := by
  rw [List.getD_eq_getElem?_getD, List.getElem?_eq_getElem h]
  exact List.getElem_mem h
theorem nextA_t {A : Pa} (hk : Ok A) {i : Nat} (hi : i < A.n) (hn : 0 < A.n) (d : Int) (h : 0 < (nextA A i d).2.2) : 0 ≤ (nextA A i d).2.1 ∧ (nextA A i d).2.1 < 64 := by
  unfold nextA at h ⊢
  split
  · exact hk.own i hi _ (getD_mem (by omega))
  · rename_i h1
    rw [if_neg h1] at h
    split
    · exact hk.gl _ (getD_mem (by omega))
    · rename_i h2
      rw [if_neg h2] at h
      split
      · rename_i h3
        exact hk.own _ (Nat.mod_lt _ hn) _ (getD_mem (Nat.pos_of_ne_zero h3.2))
      · rename_i h3
        rw [if_neg h3] at h
        exact absurd h (show ¬ (0 : Int) < 0 by decide)
theorem nextA_f (A : Pa) (i : Nat) (d : Int) : 0 ≤ (nextA A i d).2.2 ∧ (nextA A i d).2.2 ≤ 3 := by
  unfold nextA
  split
  · exact show (0 : Int) ≤ 1 ∧ (1 : Int) ≤ 3 from by decide
  · split
    · exact show (0 : Int) ≤ 2 ∧ (2 : Int) ≤ 3 from by decide
    · split
      · exact show (0 : Int) ≤ 3 ∧ (3 : Int) ≤ 3 from by decide
      · exact show (0 : Int) ≤ 0 ∧ (0 : Int) ≤ 3 from by decide
section
variable {S : Nat → Prop} {W W' : World} {gp bl cl : Nat} {A : Pa} {ex : List Value} {r : Nat → Rk} {q : Rk}
set_option maxHeartbeats 8000000 in
set_option maxRecDepth 100000 in
theorem fetch_any (h : At S W gp A bl cl ex r q) (hk : Ok A) (x : Int) {d : Int} (wd : -9223372036854775808 ≤ d ∧ d ≤ 9223372036854775807) :
    Calls Try.prog 13 #[.pointer (some ⟨gp, 0, none⟩), .int .i64 x, .int .i64 d] W fun e w' => e = .returned (.tuple #[.int .i64 (fetchA A x d).2.1, .int .i64 (fetchA A x d).2.2]) ∧ At S w' gp (fetchA A x d).1 bl cl ex r q ∧ Chg S W w' := by
  have hu57 := Try.underlying57
  have hu54 := Try.underlying54
  have hu59 := Try.underlying59
  have HA := Aside0.mk h
  by_cases hx : x < 0 ∨ (A.n : Int) ≤ x
  · have HV := Aside0.mk (show fetchA A x d = (A, -1, 0) from if_neg (by omega))
    rw [HV.out]
    have HC := Aside0.mk (at_out h x hx)
    clear h hk hx HV wd
    go_enter Try.func13, Try.ntmps13
    go_wp2_with (go_at_call 29; (refine HC.out.mono ?_); rintro e w1 ⟨rfl, rfl⟩)
    go_ret2
    exact ⟨rfl, HA.out, Chg.refl _ _⟩
  · obtain ⟨i, rfl⟩ : ∃ i : Nat, x = (i : Int) := ⟨x.toNat, by omega⟩
    have hi : i < A.n := by omega
    have HI := Aside0.mk hi
    have HC := Aside0.mk (at_in h hi)
    have w0 := h.w0 hi
    by_cases hr : A.runs i = 0
    · have HV := Aside0.mk (show fetchA A (i : Int) d = _ from if_pos (show 0 ≤ (i : Int) ∧ (i : Int) < (A.n : Int) ∧ A.runs (i : Int).toNat = 0 from ⟨by omega, by omega, by rw [Int.toNat_natCast]; exact hr⟩))
      rw [HV.out, Int.toNat_natCast]
      rw [hr] at w0
      have HNX := Aside0.mk (next_any h hi wd)
      have HNN := Aside0.mk (nextA_n A i d)
      have HTT := Aside0.mk (nextA_t hk hi h.n_pos d)
      have HFF := Aside0.mk (nextA_f A i d)
      clear h hk hx HV wd hr
      generalize nextA A i d = y at *
      obtain ⟨A1, t0, f⟩ := y
      by_cases hf : 0 < f
      · have ht : 0 ≤ t0 ∧ t0 < 64 := HTT.out hf
        obtain ⟨t, rfl⟩ : ∃ t : Nat, t0 = (t : Int) := ⟨t0.toNat, by have := ht.1; omega⟩
        have HT := Aside0.mk (show t < 64 from by have := ht.2; omega)
        have HI1 := Aside0.mk (show i < A1.n from by have h1 : A1.n = A.n := HNN.out; omega)
        rw [if_pos (show 0 < (A1, ((t : Nat) : Int), f).2.2 from hf)]
        have d1 : decide (0 < f) = true := decide_eq_true hf
        have p1 : (0 ≤ (i : Int)) = True := eq_true (by omega)
        have p3 : (0 ≤ (t : Int)) = True := eq_true (by omega)
        have p4 : ((t : Int) < 64) = True := eq_true (by have := HT.out; omega)
        have ew : Aside0 (wrap64 ((t : Int) + 1) = (t : Int) + 1) := ⟨by have := HT.out; unfold wrap64; omega⟩
        clear hf ht HTT HFF hi
        go_enter Try.func13, Try.ntmps13
        go_upto_region 6 with (first
          | (go_at_call 29; (refine HC.out.mono ?_); rintro e w1 ⟨rfl, rfl⟩)
          | (go_at_call 30; (refine HNX.out.mono ?_); rintro e w3 ⟨rfl, ha, hc⟩; have HA3 := Aside0.mk ha; have HC3 := Aside0.mk hc; clear ha hc))
        clear w0 HC HNX
        have HA4 := Aside0.mk (show At S w3.drew gp A1 bl cl ex r q from HA3.out.below (below_drew (Below.refl _ _)))
        have HC4 := Aside0.mk (Chg.drew HC3.out)
        have w0 := HA4.out.w0 HI1.out
        have fz0 := blk_frozen HA4.out.hl (i * 3)
        have w1 := HA4.out.w1 HI1.out
        have fz1 := blk_frozen HA4.out.hl (i * 3 + 1)
        have cw := HA4.out.cw HT.out
        have fzw := blk_frozen HA4.out.hg (2 + t)
        refine start_ (n := 16) (S := fun w' => True) (ds := []) #[false, false, false, false, false, false, false, false, false, false, false, false, false, false, false, false] (by kernel_rfl) rfl rfl trivial (fun hHeld => ?_)
        refine pure_ (i := 0) (N := some 33) (v := ?_) (a' := ?_) #[true, false, false, false, false, false, false, false, false, false, false, false, false, false, false, false] rfl rfl (by kernel_rfl) (fun _ _ _ h => h) (Or.inl ⟨by rfl, ?_⟩) ?_ ?_
        rotate_left
        · intro w'
          go_simp
          with_reducible rfl
        rotate_left
        · simp only [Act.put, List.setIfInBounds_toArray, List.set_cons_zero, List.set_cons_succ, i64_w, i32_w]
          rfl
        refine pure_ (i := 1) (N := some 34) (v := ?_) (a' := ?_) #[true, true, false, false, false, false, false, false, false, false, false, false, false, false, false, false] rfl rfl (by kernel_rfl) (fun _ _ _ h => h) (Or.inl ⟨by rfl, ?_⟩) ?_ ?_
        rotate_left
        · intro w'
          go_simp
          with_reducible rfl
        rotate_left
        · simp only [Act.put, List.setIfInBounds_toArray, List.set_cons_zero, List.set_cons_succ, i64_w, i32_w]
          rfl
        refine pure_ (i := 2) (N := some 35) (v := ?_) (a' := ?_) #[true, true, true, false, false, false, false, false, false, false, false, false, false, false, false, false] rfl rfl (by kernel_rfl) (fun _ _ _ h => h) (Or.inl ⟨by rfl, ?_⟩) ?_ ?_
        rotate_left
        · intro w'
          go_simp
          with_reducible rfl
        rotate_left
        · simp only [Act.put, List.setIfInBounds_toArray, List.set_cons_zero, List.set_cons_succ, i64_w, i32_w]
          rfl
        refine pure_ (i := 3) (N := some 36) (v := ?_) (a' := ?_) #[true, true, true, true, false, false, false, false, false, false, false, false, false, false, false, false] rfl rfl (by kernel_rfl) (fun _ _ _ h => h) (Or.inl ⟨by rfl, ?_⟩) ?_ ?_
        rotate_left
        · intro w'
          go_simp
          with_reducible rfl
        rotate_left
        · simp only [Act.put, List.setIfInBounds_toArray, List.set_cons_zero, List.set_cons_succ, i64_w, i32_w]
          rfl
        refine pure_ (i := 4) (N := some 37) (v := ?_) (a' := ?_) #[true, true, true, true, true, false, false, false, false, false, false, false, false, false, false, false] rfl rfl (by kernel_rfl) (fun _ _ _ h => h) (Or.inl ⟨by rfl, ?_⟩) ?_ ?_
        rotate_left
        · intro w'
          go_simp
          with_reducible rfl
        rotate_left
        · simp only [Act.put, List.setIfInBounds_toArray, List.set_cons_zero, List.set_cons_succ, i64_w, i32_w]
          rfl
        refine pure_ (i := 5) (N := some 38) (v := ?_) (a' := ?_) #[true, true, true, true, true, true, false, false, false, false, false, false, false, false, false, false] rfl rfl (by kernel_rfl) (fun _ _ _ h => h) (Or.inl ⟨by rfl, ?_⟩) ?_ ?_
        rotate_left
        · intro w'
          go_simp
          with_reducible rfl
        rotate_left
        · simp only [Act.put, List.setIfInBounds_toArray, List.set_cons_zero, List.set_cons_succ, i64_w, i32_w]
          rfl
        refine pure_ (i := 6) (N := some 39) (v := ?_) (a' := ?_) #[true, true, true, true, true, true, true, false, false, false, false, false, false, false, false, false] rfl rfl (by kernel_rfl) (fun _ _ _ h => h) (Or.inl ⟨by rfl, ?_⟩) ?_ ?_
        rotate_left
        · intro w'
          go_simp
          with_reducible rfl
        rotate_left
        · simp only [Act.put, List.setIfInBounds_toArray, List.set_cons_zero, List.set_cons_succ, i64_w, i32_w]
          rfl
        refine pure_ (i := 7) (N := some 40) (v := ?_) (a' := ?_) #[true, true, true, true, true, true, true, true, false, false, false, false, false, false, false, false] rfl rfl (by kernel_rfl) (fun _ _ _ h => h) (Or.inl ⟨by rfl, ?_⟩) ?_ ?_
        rotate_left
        · intro w'
          go_simp
          with_reducible rfl
        rotate_left
        · simp only [Act.put, List.setIfInBounds_toArray, List.set_cons_zero, List.set_cons_succ, i64_w, i32_w]
          rfl
        refine pure_ (i := 12) (N := some 43) (v := ?_) (a' := ?_) #[true, true, true, true, true, true, true, true, false, false, false, false, true, false, false, false] rfl rfl (by kernel_rfl) (fun _ _ _ h => h) (Or.inl ⟨by rfl, ?_⟩) ?_ ?_
        rotate_left
        · intro w'
          go_simp
          with_reducible rfl
        rotate_left
        · simp only [Act.put, List.setIfInBounds_toArray, List.set_cons_zero, List.set_cons_succ, i64_w, i32_w]
          rfl
        refine pure_ (i := 13) (N := some 44) (v := ?_) (a' := ?_) #[true, true, true, true, true, true, true, true, false, false, false, false, true, true, false, false] rfl rfl (by kernel_rfl) (fun _ _ _ h => h) (Or.inl ⟨by rfl, ?_⟩) ?_ ?_
        rotate_left
        · intro w'
          go_simp
          with_reducible rfl
        rotate_left
        · simp only [Act.put, List.setIfInBounds_toArray, List.set_cons_zero, List.set_cons_succ, i64_w, i32_w]
          rfl
        refine one_ (i := 8) (N := none) #[true, true, true, true, true, true, true, true, true, false, false, false, true, true, false, false] rfl rfl (by kernel_rfl) (by decide) (fun K hK => ?_)
        refine skip_ (w1 := ?_) (by rfl) rfl ?_ ?_
        rotate_left
        · go_simp
          rfl
        have HA5 := Aside0.mk (show At S (w3.setCell ⟨bl, i * 3, none⟩ (.int .i64 (wrap64 ((t : Int) + 1)))).drew gp _ bl cl ex r q from HA4.out.setRuns HI1.out (wrap64 ((t : Int) + 1)))
        have HC5 := Aside0.mk (show Chg S _ (w3.setCell ⟨bl, i * 3, none⟩ (.int .i64 (wrap64 ((t : Int) + 1)))).drew from HC4.out.set_ (p := ⟨bl, i * 3, none⟩) (Or.inl HA.out.s.2.1) (.int .i64 (wrap64 ((t : Int) + 1))))
        clear w0 fz0 w1 fz1 cw fzw
        generalize (w3.setCell ⟨bl, i * 3, none⟩ (.int .i64 (wrap64 ((t : Int) + 1)))).drew = w5 at *
        have w1 := HA5.out.w1 HI1.out
        have fz1 := blk_frozen HA5.out.hl (i * 3 + 1)
        refine hK.out _ _ trivial (fun hHeld => ?_)
        clear hK K
        refine pure_ (i := 9) (N := some 41) (v := ?_) (a' := ?_) #[true, true, true, true, true, true, true, true, true, true, false, false, true, true, false, false] rfl rfl (by kernel_rfl) (fun _ _ _ h => h) (Or.inl ⟨by rfl, ?_⟩) ?_ ?_
        rotate_left
        · intro w'
          go_simp
          with_reducible rfl
        rotate_left
        · simp only [Act.put, List.setIfInBounds_toArray, List.set_cons_zero, List.set_cons_succ, i64_w, i32_w]
          rfl
        refine pure_ (i := 10) (N := some 42) (v := ?_) (a' := ?_) #[true, true, true, true, true, true, true, true, true, true, true, false, true, true, false, false] rfl rfl (by kernel_rfl) (fun _ _ _ h => h) (Or.inl ⟨by rfl, ?_⟩) ?_ ?_
        rotate_left
        · intro w'
          go_simp
          with_reducible rfl
        rotate_left
        · simp only [Act.put, List.setIfInBounds_toArray, List.set_cons_zero, List.set_cons_succ, i64_w, i32_w]
          rfl
        refine one_ (i := 11) (N := none) #[true, true, true, true, true, true, true, true, true, true, true, true, true, true, false, false] rfl rfl (by kernel_rfl) (by decide) (fun K hK => ?_)
        refine skip_ (w1 := ?_) (by rfl) rfl ?_ ?_
        rotate_left
        · go_simp
          rfl
        have HA6 := Aside0.mk (HA5.out.setWork HI1.out 0)
        have HC6 := Aside0.mk (HC5.out.set_ (p := ⟨bl, i * 3 + 1, none⟩) (Or.inl HA.out.s.2.1) (.int .i64 0))
        clear w1 fz1
        generalize w5.setCell ⟨bl, i * 3 + 1, none⟩ (.int .i64 0) = w6 at *
        have cw := HA6.out.cw HT.out
        have fzw := blk_frozen HA6.out.hg (2 + t)
        refine hK.out _ _ trivial (fun hHeld => ?_)
        clear hK K
        refine pure_ (i := 14) (N := some 45) (v := ?_) (a' := ?_) #[true, true, true, true, true, true, true, true, true, true, true, true, true, true, true, false] rfl rfl (by kernel_rfl) (fun _ _ _ h => h) (Or.inl ⟨by rfl, ?_⟩) ?_ ?_
        rotate_left
        · intro w'
          go_simp
          with_reducible rfl
        rotate_left
        · simp only [Act.put, List.setIfInBounds_toArray, List.set_cons_zero, List.set_cons_succ, i64_w, i32_w]
          rfl
        refine one_ (i := 15) (N := none) #[true, true, true, true, true, true, true, true, true, true, true, true, true, true, true, true] rfl rfl (by kernel_rfl) (by decide) (fun K hK => ?_)
        refine skip_ (w1 := ?_) (by rfl) rfl ?_ ?_
        rotate_left
        · go_simp
          rfl
        have HA7 := Aside0.mk (HA6.out.setWh HT.out 1)
        have HC7 := Aside0.mk (HC6.out.set_ (p := ⟨gp, 2 + t, none⟩) (Or.inl HA.out.s.1) (.int .u8 1))
        clear cw fzw
        generalize w6.setCell ⟨gp, 2 + t, none⟩ (.int .u8 1) = w7 at *
        refine hK.out _ _ trivial (fun hHeld => ?_)
        clear hK K
        refine done_ (by kernel_rfl) ?_
        go_wp2
        go_ret2
        rw [ew.out] at HA7
        exact ⟨rfl, HA7.out, HC7.out⟩
      · have hf0 : f = 0 := by have h1 : 0 ≤ f := HFF.out.1; omega
        subst hf0
        rw [if_neg (show ¬ 0 < (A1, t0, (0 : Int)).2.2 from (show ¬ (0 : Int) < 0 by decide))]
        clear hf HTT HFF hi
        go_enter Try.func13, Try.ntmps13
        go_wp2_with (first
          | (go_at_call 29; (refine HC.out.mono ?_); rintro e w1 ⟨rfl, rfl⟩)
          | (go_at_call 30; (refine HNX.out.mono ?_); rintro e w3 ⟨rfl, ha, hc⟩; have HA3 := Aside0.mk ha; have HC3 := Aside0.mk hc; clear ha hc))
        go_ret2
        exact ⟨rfl, HA3.out, HC3.out⟩
    · have HV := Aside0.mk (show fetchA A (i : Int) d = (A, -1, 0) from if_neg (fun z => hr (by have h1 := z.2.2; rwa [Int.toNat_natCast] at h1)))
      rw [HV.out]
      have d1 : (A.runs i != 0) = true := bne_iff_ne.2 hr
      clear h hk hx HV wd hr
      generalize A.runs i = u at *
      go_enter Try.func13, Try.ntmps13
      go_wp2_with (go_at_call 29; (refine HC.out.mono ?_); rintro e w1 ⟨rfl, rfl⟩)
      go_ret2
      exact ⟨rfl, HA.out, Chg.refl _ _⟩
end
end Go.Proofs.Ytjcjhmnfknenlaa.Pl
