/- Places: next. Conditions: none. -/
import Derived.Test.YtjcjhmnfknenlaaPl4
namespace Go.Proofs.Ytjcjhmnfknenlaa.Pl
open Go.RowKit Go.Proofs.YtjcjhmnfknenlaaW.PrintWords Go.Proofs.YtjcjhmnfknenlaaW.PrintLast Go.Proofs.YtjcjhmnfknenlaaW.PrintMore
open Rg (Chg Row row_back row_popback row_popfront row_all row_new row_clone two refDo)
set_option linter.unusedVariables false
set_option linter.unusedSimpArgs false

theorem ref_back0 {l : List Int} {cap : Nat} (h : l.length = 0) : refDo l cap 2 0 = (l, 0, false) := by
  unfold refDo
  rw [if_neg (by decide), if_neg (by decide), if_pos rfl, if_pos h]
theorem ref_back1 {l : List Int} {cap : Nat} (h : ¬ l.length = 0) : refDo l cap 2 0 = (l.take (l.length - 1), l.getD (l.length - 1) 0, true) := by
  unfold refDo
  rw [if_neg (by decide), if_neg (by decide), if_pos rfl, if_neg h]
theorem ref_front0 {l : List Int} {cap : Nat} (h : l.length = 0) : refDo l cap 3 0 = (l, 0, false) := by
  unfold refDo
  rw [if_neg (by decide), if_neg (by decide), if_neg (by decide), if_pos rfl, if_pos h]
theorem ref_front1 {l : List Int} {cap : Nat} (h : ¬ l.length = 0) : refDo l cap 3 0 = (l.drop 1, l.getD 0 0, true) := by
  unfold refDo
  rw [if_neg (by decide), if_neg (by decide), if_neg (by decide), if_pos rfl, if_neg h]
def draws (d : Int) : Nat := (if d < 0 then -1 - d else d).toNat
def kOf (A : Pa) (d : Int) : Nat := draws d % A.n
/-- What a worker is to run, and from where. -/
def nextA (A : Pa) (i : Nat) (d : Int) : Pa × Int × Int :=
  if ¬ (A.own i).length = 0 then ({ A with own := up A.own i ((A.own i).take ((A.own i).length - 1)) }, (A.own i).getD ((A.own i).length - 1) 0, 1)
  else if ¬ A.gl.length = 0 then ({ A with gl := A.gl.drop 1 }, A.gl.getD 0 0, 2)
  else if kOf A d ≠ i ∧ ¬ (A.own (kOf A d)).length = 0 then ({ A with own := up A.own (kOf A d) ((A.own (kOf A d)).drop 1) }, (A.own (kOf A d)).getD 0 0, 3)
  else (A, -1, 0)
section
variable {S : Nat → Prop} {W W' : World} {gp bl cl : Nat} {A : Pa} {ex : List Value} {r : Nat → Rk} {q : Rk}
theorem At.noGl (h : At S W gp A bl cl ex r q) (hc : Chg (two q.g q.b) W W') (hr : Row W' q.g q.b q.c q.ex 64 A.gl) : At S W' gp A bl cl ex r q := h.turnGl hc hr
theorem At.noOwn (h : At S W gp A bl cl ex r q) {i : Nat} (hi : i < A.n) (hc : Chg (two (r i).g (r i).b) W W') (hr : Row W' (r i).g (r i).b (r i).c (r i).ex 16 (A.own i)) : At S W' gp A bl cl ex r q := by
  have h1 := h.turnOwn hi hc hr
  rw [up_self] at h1
  exact h1
set_option maxHeartbeats 8000000 in
set_option maxRecDepth 100000 in
theorem next_any (h : At S W gp A bl cl ex r q) {i : Nat} (hi : i < A.n) {d : Int} (wd : -9223372036854775808 ≤ d ∧ d ≤ 9223372036854775807) :
    Calls Try.prog 30 #[.pointer (some ⟨gp, 0, none⟩), .int .i64 (i : Int), .pointer (some ⟨bl, i * 3, none⟩), .int .i64 d] W fun e w' => e = .returned (.tuple #[.int .i64 (nextA A i d).2.1, .int .i64 (nextA A i d).2.2]) ∧ At S w' gp (nextA A i d).1 bl cl ex r q ∧ Chg S W w' := by
  have hu57 := Try.underlying57
  have hu54 := Try.underlying54
  have hu59 := Try.underlying59
  have HA := Aside0.mk h
  have HI := Aside0.mk hi
  have w2 := h.w2 hi
  have HRB := Aside0.mk (row_popback (h.own i hi))
  by_cases h1 : (A.own i).length = 0
  · have HN1 := Aside0.mk (show nextA A i d = _ from if_neg (fun z => z h1))
    rw [ref_back0 h1] at HRB
    clear h1
    by_cases h2 : A.gl.length = 0
    · have HN := Aside0.mk (HN1.out.trans (if_neg (fun z => z h2)))
      obtain ⟨k, hk⟩ : ∃ k, k = kOf A d := ⟨_, rfl⟩
      rw [← hk] at HN
      have HKN := Aside0.mk (show k < A.n from by rw [hk]; exact Nat.mod_lt _ h.n_pos)
      have HKD := Aside0.mk (show k = draws d % A.n from hk)
      have HNP := Aside0.mk h.n_pos
      have HR0 := Aside0.mk h2
      clear h hi h2 HN1 hk
      by_cases hd : d < 0
      · have d3 : decide (d < 0) = true := decide_eq_true hd
        have EM := Aside0.mk (show (-1 - d).tmod (A.n : Int) = (k : Int) from by
          rw [HKD.out]
          unfold draws
          rw [if_pos hd, Int.natCast_emod, Int.toNat_of_nonneg (by omega), Int.tmod_eq_emod_of_nonneg (by omega)])
        clear hd
        go_enter Try.func30, Try.ntmps30
        go_upto_region 4 with (go_at_call 46; (refine HRB.out.mono ?_); rintro e w3 ⟨rfl, hc, hr⟩; have HA2 := Aside0.mk (HA.out.noOwn HI.out hc hr); have HC2 := Aside0.mk (HA.out.chgOwn HI.out hc); clear hc hr)
        clear w2
        have c1 := HA2.out.c1
        have HRG := Aside0.mk (show _ from row_popfront HA2.out.glob)
        rw [ref_front0 HR0.out] at HRG
        go_upto_region 9 with (go_at_call 47; (refine HRG.out.mono ?_); rintro e w4 ⟨rfl, hc, hr⟩; have HA3 := Aside0.mk (HA2.out.noGl hc hr); have HC3 := Aside0.mk (HC2.out.trans (HA2.out.chgGl hc)); clear hc hr)
        clear c1 HRG HA2 HC2 HRB
        have c0 := HA3.out.c0
        have em := EM.out
        have hz : ((A.n : Int) == 0) = false := beq_eq_false_iff_ne.2 (by have := HNP.out; omega)
        have hz1 : (A.n = 0) = False := eq_false (by have := HNP.out; omega)
        have hz2 : (A.n == 0) = false := beq_eq_false_iff_ne.2 (by have := HNP.out; omega)
        by_cases e : k = i
        · have HV := Aside0.mk (HN.out.trans (if_neg (fun z => z.1 e)))
          have d5 : (((k : Nat) : Int) != ((i : Nat) : Int)) = false := by rw [e]; simp
          clear HN e
          go_wp2
          go_ret2
          exact ⟨by rw [HV.out]; first | done | rfl, by rw [HV.out]; exact HA3.out, HC3.out⟩
        · have d5 : (((k : Nat) : Int) != ((i : Nat) : Int)) = true := by rw [bne_iff_ne]; omega
          have p5 : (0 ≤ (k : Int)) = True := eq_true (by omega)
          have p6 : ((k : Int) < (A.n : Int)) = True := eq_true (by have := HKN.out; omega)
          have w5 := HA3.out.w2 (i := k) HKN.out
          have HRK := Aside0.mk (row_popfront (HA3.out.own k HKN.out))
          by_cases hl : (A.own k).length = 0
          · have HV := Aside0.mk (HN.out.trans (if_neg (fun z => z.2 hl)))
            rw [ref_front0 hl] at HRK
            clear HN e hl
            go_wp2_with (go_at_call 47; (refine HRK.out.mono ?_); rintro e w5 ⟨rfl, hc, hr⟩; have HX := Aside0.mk (And.intro hc hr); clear hc hr)
            go_ret2
            exact ⟨by rw [HV.out]; first | done | rfl, by rw [HV.out]; exact HA3.out.noOwn HKN.out HX.out.1 HX.out.2, HC3.out.trans (HA3.out.chgOwn HKN.out HX.out.1)⟩
          · have HV := Aside0.mk (HN.out.trans (if_pos ⟨e, hl⟩))
            rw [ref_front1 hl] at HRK
            clear HN e hl
            go_wp2_with (go_at_call 47; (refine HRK.out.mono ?_); rintro e w5 ⟨rfl, hc, hr⟩; have HX := Aside0.mk (And.intro hc hr); clear hc hr)
            go_ret2
            exact ⟨by rw [HV.out]; first | done | rfl, by rw [HV.out]; exact HA3.out.turnOwn HKN.out HX.out.1 HX.out.2, HC3.out.trans (HA3.out.chgOwn HKN.out HX.out.1)⟩
      · have d3 : decide (d < 0) = false := decide_eq_false hd
        have EM := Aside0.mk (show d.tmod (A.n : Int) = (k : Int) from by
          rw [HKD.out]
          unfold draws
          rw [if_neg hd, Int.natCast_emod, Int.toNat_of_nonneg (by omega), Int.tmod_eq_emod_of_nonneg (by omega)])
        clear hd
        go_enter Try.func30, Try.ntmps30
        go_upto_region 4 with (go_at_call 46; (refine HRB.out.mono ?_); rintro e w3 ⟨rfl, hc, hr⟩; have HA2 := Aside0.mk (HA.out.noOwn HI.out hc hr); have HC2 := Aside0.mk (HA.out.chgOwn HI.out hc); clear hc hr)
        clear w2
        have c1 := HA2.out.c1
        have HRG := Aside0.mk (show _ from row_popfront HA2.out.glob)
        rw [ref_front0 HR0.out] at HRG
        go_upto_region 9 with (go_at_call 47; (refine HRG.out.mono ?_); rintro e w4 ⟨rfl, hc, hr⟩; have HA3 := Aside0.mk (HA2.out.noGl hc hr); have HC3 := Aside0.mk (HC2.out.trans (HA2.out.chgGl hc)); clear hc hr)
        clear c1 HRG HA2 HC2 HRB
        have c0 := HA3.out.c0
        have em := EM.out
        have hz : ((A.n : Int) == 0) = false := beq_eq_false_iff_ne.2 (by have := HNP.out; omega)
        have hz1 : (A.n = 0) = False := eq_false (by have := HNP.out; omega)
        have hz2 : (A.n == 0) = false := beq_eq_false_iff_ne.2 (by have := HNP.out; omega)
        by_cases e : k = i
        · have HV := Aside0.mk (HN.out.trans (if_neg (fun z => z.1 e)))
          have d5 : (((k : Nat) : Int) != ((i : Nat) : Int)) = false := by rw [e]; simp
          clear HN e
          go_wp2
          go_ret2
          exact ⟨by rw [HV.out]; first | done | rfl, by rw [HV.out]; exact HA3.out, HC3.out⟩
        · have d5 : (((k : Nat) : Int) != ((i : Nat) : Int)) = true := by rw [bne_iff_ne]; omega
          have p5 : (0 ≤ (k : Int)) = True := eq_true (by omega)
          have p6 : ((k : Int) < (A.n : Int)) = True := eq_true (by have := HKN.out; omega)
          have w5 := HA3.out.w2 (i := k) HKN.out
          have HRK := Aside0.mk (row_popfront (HA3.out.own k HKN.out))
          by_cases hl : (A.own k).length = 0
          · have HV := Aside0.mk (HN.out.trans (if_neg (fun z => z.2 hl)))
            rw [ref_front0 hl] at HRK
            clear HN e hl
            go_wp2_with (go_at_call 47; (refine HRK.out.mono ?_); rintro e w5 ⟨rfl, hc, hr⟩; have HX := Aside0.mk (And.intro hc hr); clear hc hr)
            go_ret2
            exact ⟨by rw [HV.out]; first | done | rfl, by rw [HV.out]; exact HA3.out.noOwn HKN.out HX.out.1 HX.out.2, HC3.out.trans (HA3.out.chgOwn HKN.out HX.out.1)⟩
          · have HV := Aside0.mk (HN.out.trans (if_pos ⟨e, hl⟩))
            rw [ref_front1 hl] at HRK
            clear HN e hl
            go_wp2_with (go_at_call 47; (refine HRK.out.mono ?_); rintro e w5 ⟨rfl, hc, hr⟩; have HX := Aside0.mk (And.intro hc hr); clear hc hr)
            go_ret2
            exact ⟨by rw [HV.out]; first | done | rfl, by rw [HV.out]; exact HA3.out.turnOwn HKN.out HX.out.1 HX.out.2, HC3.out.trans (HA3.out.chgOwn HKN.out HX.out.1)⟩
    · have HV := Aside0.mk (HN1.out.trans (if_pos h2))
      rw [HV.out]
      clear h hi HV HN1
      go_enter Try.func30, Try.ntmps30
      go_upto_region 4 with (go_at_call 46; (refine HRB.out.mono ?_); rintro e w3 ⟨rfl, hc, hr⟩; have HA2 := Aside0.mk (HA.out.noOwn HI.out hc hr); have HC2 := Aside0.mk (HA.out.chgOwn HI.out hc); clear hc hr)
      clear w2
      have c1 := HA2.out.c1
      have HRG := Aside0.mk (show _ from row_popfront HA2.out.glob)
      rw [ref_front1 h2] at HRG
      clear h2
      go_wp2_with (go_at_call 47; (refine HRG.out.mono ?_); rintro e w4 ⟨rfl, hc, hr⟩; have HA3 := Aside0.mk (HA2.out.turnGl hc hr); have HC3 := Aside0.mk (HC2.out.trans (HA2.out.chgGl hc)); clear hc hr)
      go_ret2
      exact ⟨rfl, HA3.out, HC3.out⟩
  · have HV := Aside0.mk (show nextA A i d = _ from if_pos h1)
    rw [HV.out]
    rw [ref_back1 h1] at HRB
    clear h hi h1 HV
    go_enter Try.func30, Try.ntmps30
    go_wp2_with (go_at_call 46; (refine HRB.out.mono ?_); rintro e w3 ⟨rfl, hc, hr⟩; have HA2 := Aside0.mk (HA.out.turnOwn HI.out hc hr); have HC2 := Aside0.mk (HA.out.chgOwn HI.out hc); clear hc hr)
    go_ret2
    exact ⟨rfl, HA2.out, HC2.out⟩
end
end Go.Proofs.Ytjcjhmnfknenlaa.Pl
namespace Go.Proofs.Ytjcjhmnfknenlaa.Pl
open Go.RowKit Go.Proofs.YtjcjhmnfknenlaaW.PrintWords Go.Proofs.YtjcjhmnfknenlaaW.PrintLast Go.Proofs.YtjcjhmnfknenlaaW.PrintMore
open Rg (Chg Row row_back row_popback row_popfront row_all row_new row_clone two refDo)
set_option linter.unusedVariables false
set_option linter.unusedSimpArgs false

def fetchA (A : Pa) (x d : Int) : Pa × Int × Int :=
  if 0 ≤ x ∧ x < (A.n : Int) ∧ A.runs x.toNat = 0 then
    (if 0 < (nextA A x.toNat d).2.2 then ({ (nextA A x.toNat d).1 with runs := up (nextA A x.toNat d).1.runs x.toNat ((nextA A x.toNat d).2.1 + 1), work := up (nextA A x.toNat d).1.work x.toNat 0, wh := up (nextA A x.toNat d).1.wh (nextA A x.toNat d).2.1.toNat 1 }, (nextA A x.toNat d).2.1, (nextA A x.toNat d).2.2)
     else nextA A x.toNat d) else (A, -1, 0)
theorem nextA_n (A : Pa) (i : Nat) (d : Int) : (nextA A i d).1.n = A.n := by
  unfold nextA
  split
  · rfl
  · split
    · rfl
    · split <;> rfl
theorem getD_mem {l : List Int} {k : Nat} (h : k < l.length) : l.getD k 0 ∈ l := by
  rw [List.getD_eq_getElem?_getD, List.getElem?_eq_getElem h]
  exact List.getElem_mem h
theorem nextA_t {A : Pa} (hk : Ok A) {i : Nat} (hi : i < A.n) (hn : 0 < A.n) (d : Int) (h : 0 < (nextA A i d).2.2) : 0 ≤ (nextA A i d).2.1 ∧ (nextA A i d).2.1 < 64 := by
  unfold nextA at h ⊢
  split
  · exact hk.own i hi _ (getD_mem (by omega))
  · rename_i h1
    rw [if_neg h1] at h
    split
    · exact hk.gl _ (getD_mem (by omega))
    · rename_i h2
      rw [if_neg h2] at h
      split
      · rename_i h3
        exact hk.own _ (Nat.mod_lt _ hn) _ (getD_mem (Nat.pos_of_ne_zero h3.2))
      · rename_i h3
        rw [if_neg h3] at h
        exact absurd h (show ¬ (0 : Int) < 0 by decide)
theorem nextA_f (A : Pa) (i : Nat) (d : Int) : 0 ≤ (nextA A i d).2.2 ∧ (nextA A i d).2.2 ≤ 3 := by
  unfold nextA
  split
  · exact show (0 : Int) ≤ 1 ∧ (1 : Int) ≤ 3 from by decide
  · split
    · exact show (0 : Int) ≤ 2 ∧ (2 : Int) ≤ 3 from by decide
    · split
      · exact show (0 : Int) ≤ 3 ∧ (3 : Int) ≤ 3 from by decide
      · exact show (0 : Int) ≤ 0 ∧ (0 : Int) ≤ 3 from by decide
section
variable {S : Nat → Prop} {W W' : World} {gp bl cl : Nat} {A : Pa} {ex : List Value} {r : Nat → Rk} {q : Rk}
set_option maxHeartbeats 8000000 in
set_option maxRecDepth 100000 in
theorem fetch_any (h : At S W gp A bl cl ex r q) (hk : Ok A) (x : Int) {d : Int} (wd : -9223372036854775808 ≤ d ∧ d ≤ 9223372036854775807) :
    Calls Try.prog 13 #[.pointer (some ⟨gp, 0, none⟩), .int .i64 x, .int .i64 d] W fun e w' => e = .returned (.tuple #[.int .i64 (fetchA A x d).2.1, .int .i64 (fetchA A x d).2.2]) ∧ At S w' gp (fetchA A x d).1 bl cl ex r q ∧ Chg S W w' := by
  have hu57 := Try.underlying57
  have hu54 := Try.underlying54
  have hu59 := Try.underlying59
  have HA := Aside0.mk h
  by_cases hx : x < 0 ∨ (A.n : Int) ≤ x
  · have HV := Aside0.mk (show fetchA A x d = (A, -1, 0) from if_neg (by omega))
    rw [HV.out]
    have HC := Aside0.mk (at_out h x hx)
    clear h hk hx HV wd
    go_enter Try.func13, Try.ntmps13
    go_wp2_with (go_at_call 29; (refine HC.out.mono ?_); rintro e w1 ⟨rfl, rfl⟩)
    go_ret2
    exact ⟨rfl, HA.out, Chg.refl _ _⟩
  · obtain ⟨i, rfl⟩ : ∃ i : Nat, x = (i : Int) := ⟨x.toNat, by omega⟩
    have hi : i < A.n := by omega
    have HI := Aside0.mk hi
    have HC := Aside0.mk (at_in h hi)
    have w0 := h.w0 hi
    by_cases hr : A.runs i = 0
    · have HV := Aside0.mk (show fetchA A (i : Int) d = _ from if_pos (show 0 ≤ (i : Int) ∧ (i : Int) < (A.n : Int) ∧ A.runs (i : Int).toNat = 0 from ⟨by omega, by omega, by rw [Int.toNat_natCast]; exact hr⟩))
      rw [HV.out, Int.toNat_natCast]
      rw [hr] at w0
      have HNX := Aside0.mk (next_any h hi wd)
      have HNN := Aside0.mk (nextA_n A i d)
      have HTT := Aside0.mk (nextA_t hk hi h.n_pos d)
      have HFF := Aside0.mk (nextA_f A i d)
      clear h hk hx HV wd hr
      generalize nextA A i d = y at *
      obtain ⟨A1, t0, f⟩ := y
      by_cases hf : 0 < f
      · have ht : 0 ≤ t0 ∧ t0 < 64 := HTT.out hf
        obtain ⟨t, rfl⟩ : ∃ t : Nat, t0 = (t : Int) := ⟨t0.toNat, by have := ht.1; omega⟩
        have HT := Aside0.mk (show t < 64 from by have := ht.2; omega)
        have HI1 := Aside0.mk (show i < A1.n from by have h1 : A1.n = A.n := HNN.out; omega)
        rw [if_pos (show 0 < (A1, ((t : Nat) : Int), f).2.2 from hf)]
        have d1 : decide (0 < f) = true := decide_eq_true hf
        have p1 : (0 ≤ (i : Int)) = True := eq_true (by omega)
        have p3 : (0 ≤ (t : Int)) = True := eq_true (by omega)
        have p4 : ((t : Int) < 64) = True := eq_true (by have := HT.out; omega)
        have ew : Aside0 (wrap64 ((t : Int) + 1) = (t : Int) + 1) := ⟨by have := HT.out; unfold wrap64; omega⟩
        clear hf ht HTT HFF hi
        go_enter Try.func13, Try.ntmps13
        go_upto_region 6 with (first
          | (go_at_call 29; (refine HC.out.mono ?_); rintro e w1 ⟨rfl, rfl⟩)
          | (go_at_call 30; (refine HNX.out.mono ?_); rintro e w3 ⟨rfl, ha, hc⟩; have HA3 := Aside0.mk ha; have HC3 := Aside0.mk hc; clear ha hc))
        clear w0 HC HNX
        have HA4 := Aside0.mk (show At S w3.drew gp A1 bl cl ex r q from HA3.out.below (below_drew (Below.refl _ _)))
        have HC4 := Aside0.mk (Chg.drew HC3.out)
        have w0 := HA4.out.w0 HI1.out
        have fz0 := blk_frozen HA4.out.hl (i * 3)
        have w1 := HA4.out.w1 HI1.out
        have fz1 := blk_frozen HA4.out.hl (i * 3 + 1)
        have cw := HA4.out.cw HT.out
        have fzw := blk_frozen HA4.out.hg (2 + t)
        refine start_ (n := 16) (S := fun w' => True) (ds := []) #[false, false, false, false, false, false, false, false, false, false, false, false, false, false, false, false] (by kernel_rfl) rfl rfl trivial (fun hHeld => ?_)
        refine pure_ (i := 0) (N := some 33) (v := ?_) (a' := ?_) #[true, false, false, false, false, false, false, false, false, false, false, false, false, false, false, false] rfl rfl (by kernel_rfl) (fun _ _ _ h => h) (Or.inl ⟨by rfl, ?_⟩) ?_ ?_
        rotate_left
        · intro w'
          go_simp
          with_reducible rfl
        rotate_left
        · simp only [Act.put, List.setIfInBounds_toArray, List.set_cons_zero, List.set_cons_succ, i64_w, i32_w]
          rfl
        refine pure_ (i := 1) (N := some 34) (v := ?_) (a' := ?_) #[true, true, false, false, false, false, false, false, false, false, false, false, false, false, false, false] rfl rfl (by kernel_rfl) (fun _ _ _ h => h) (Or.inl ⟨by rfl, ?_⟩) ?_ ?_
        rotate_left
        · intro w'
          go_simp
          with_reducible rfl
        rotate_left
        · simp only [Act.put, List.setIfInBounds_toArray, List.set_cons_zero, List.set_cons_succ, i64_w, i32_w]
          rfl
        refine pure_ (i := 2) (N := some 35) (v := ?_) (a' := ?_) #[true, true, true, false, false, false, false, false, false, false, false, false, false, false, false, false] rfl rfl (by kernel_rfl) (fun _ _ _ h => h) (Or.inl ⟨by rfl, ?_⟩) ?_ ?_
        rotate_left
        · intro w'
          go_simp
          with_reducible rfl
        rotate_left
        · simp only [Act.put, List.setIfInBounds_toArray, List.set_cons_zero, List.set_cons_succ, i64_w, i32_w]
          rfl
        refine pure_ (i := 3) (N := some 36) (v := ?_) (a' := ?_) #[true, true, true, true, false, false, false, false, false, false, false, false, false, false, false, false] rfl rfl (by kernel_rfl) (fun _ _ _ h => h) (Or.inl ⟨by rfl, ?_⟩) ?_ ?_
        rotate_left
        · intro w'
          go_simp
          with_reducible rfl
        rotate_left
        · simp only [Act.put, List.setIfInBounds_toArray, List.set_cons_zero, List.set_cons_succ, i64_w, i32_w]
          rfl
        refine pure_ (i := 4) (N := some 37) (v := ?_) (a' := ?_) #[true, true, true, true, true, false, false, false, false, false, false, false, false, false, false, false] rfl rfl (by kernel_rfl) (fun _ _ _ h => h) (Or.inl ⟨by rfl, ?_⟩) ?_ ?_
        rotate_left
        · intro w'
          go_simp
          with_reducible rfl
        rotate_left
        · simp only [Act.put, List.setIfInBounds_toArray, List.set_cons_zero, List.set_cons_succ, i64_w, i32_w]
          rfl
        refine pure_ (i := 5) (N := some 38) (v := ?_) (a' := ?_) #[true, true, true, true, true, true, false, false, false, false, false, false, false, false, false, false] rfl rfl (by kernel_rfl) (fun _ _ _ h => h) (Or.inl ⟨by rfl, ?_⟩) ?_ ?_
        rotate_left
        · intro w'
          go_simp
          with_reducible rfl
        rotate_left
        · simp only [Act.put, List.setIfInBounds_toArray, List.set_cons_zero, List.set_cons_succ, i64_w, i32_w]
          rfl
        refine pure_ (i := 6) (N := some 39) (v := ?_) (a' := ?_) #[true, true, true, true, true, true, true, false, false, false, false, false, false, false, false, false] rfl rfl (by kernel_rfl) (fun _ _ _ h => h) (Or.inl ⟨by rfl, ?_⟩) ?_ ?_
        rotate_left
        · intro w'
          go_simp
          with_reducible rfl
        rotate_left
        · simp only [Act.put, List.setIfInBounds_toArray, List.set_cons_zero, List.set_cons_succ, i64_w, i32_w]
          rfl
        refine pure_ (i := 7) (N := some 40) (v := ?_) (a' := ?_) #[true, true, true, true, true, true, true, true, false, false, false, false, false, false, false, false] rfl rfl (by kernel_rfl) (fun _ _ _ h => h) (Or.inl ⟨by rfl, ?_⟩) ?_ ?_
        rotate_left
        · intro w'
          go_simp
          with_reducible rfl
        rotate_left
        · simp only [Act.put, List.setIfInBounds_toArray, List.set_cons_zero, List.set_cons_succ, i64_w, i32_w]
          rfl
        refine pure_ (i := 12) (N := some 43) (v := ?_) (a' := ?_) #[true, true, true, true, true, true, true, true, false, false, false, false, true, false, false, false] rfl rfl (by kernel_rfl) (fun _ _ _ h => h) (Or.inl ⟨by rfl, ?_⟩) ?_ ?_
        rotate_left
        · intro w'
          go_simp
          with_reducible rfl
        rotate_left
        · simp only [Act.put, List.setIfInBounds_toArray, List.set_cons_zero, List.set_cons_succ, i64_w, i32_w]
          rfl
        refine pure_ (i := 13) (N := some 44) (v := ?_) (a' := ?_) #[true, true, true, true, true, true, true, true, false, false, false, false, true, true, false, false] rfl rfl (by kernel_rfl) (fun _ _ _ h => h) (Or.inl ⟨by rfl, ?_⟩) ?_ ?_
        rotate_left
        · intro w'
          go_simp
          with_reducible rfl
        rotate_left
        · simp only [Act.put, List.setIfInBounds_toArray, List.set_cons_zero, List.set_cons_succ, i64_w, i32_w]
          rfl
        refine one_ (i := 8) (N := none) #[true, true, true, true, true, true, true, true, true, false, false, false, true, true, false, false] rfl rfl (by kernel_rfl) (by decide) (fun K hK => ?_)
        refine skip_ (w1 := ?_) (by rfl) rfl ?_ ?_
        rotate_left
        · go_simp
          rfl
        have HA5 := Aside0.mk (show At S (w3.setCell ⟨bl, i * 3, none⟩ (.int .i64 (wrap64 ((t : Int) + 1)))).drew gp _ bl cl ex r q from HA4.out.setRuns HI1.out (wrap64 ((t : Int) + 1)))
        have HC5 := Aside0.mk (show Chg S _ (w3.setCell ⟨bl, i * 3, none⟩ (.int .i64 (wrap64 ((t : Int) + 1)))).drew from HC4.out.set_ (p := ⟨bl, i * 3, none⟩) (Or.inl HA.out.s.2.1) (.int .i64 (wrap64 ((t : Int) + 1))))
        clear w0 fz0 w1 fz1 cw fzw
        generalize (w3.setCell ⟨bl, i * 3, none⟩ (.int .i64 (wrap64 ((t : Int) + 1)))).drew = w5 at *
        have w1 := HA5.out.w1 HI1.out
        have fz1 := blk_frozen HA5.out.hl (i * 3 + 1)
        refine hK.out _ _ trivial (fun hHeld => ?_)
        clear hK K
        refine pure_ (i := 9) (N := some 41) (v := ?_) (a' := ?_) #[true, true, true, true, true, true, true, true, true, true, false, false, true, true, false, false] rfl rfl (by kernel_rfl) (fun _ _ _ h => h) (Or.inl ⟨by rfl, ?_⟩) ?_ ?_
        rotate_left
        · intro w'
          go_simp
          with_reducible rfl
        rotate_left
        · simp only [Act.put, List.setIfInBounds_toArray, List.set_cons_zero, List.set_cons_succ, i64_w, i32_w]
          rfl
        refine pure_ (i := 10) (N := some 42) (v := ?_) (a' := ?_) #[true, true, true, true, true, true, true, true, true, true, true, false, true, true, false, false] rfl rfl (by kernel_rfl) (fun _ _ _ h => h) (Or.inl ⟨by rfl, ?_⟩) ?_ ?_
        rotate_left
        · intro w'
          go_simp
          with_reducible rfl
        rotate_left
        · simp only [Act.put, List.setIfInBounds_toArray, List.set_cons_zero, List.set_cons_succ, i64_w, i32_w]
          rfl
        refine one_ (i := 11) (N := none) #[true, true, true, true, true, true, true, true, true, true, true, true, true, true, false, false] rfl rfl (by kernel_rfl) (by decide) (fun K hK => ?_)
        refine skip_ (w1 := ?_) (by rfl) rfl ?_ ?_
        rotate_left
        · go_simp
          rfl
        have HA6 := Aside0.mk (HA5.out.setWork HI1.out 0)
        have HC6 := Aside0.mk (HC5.out.set_ (p := ⟨bl, i * 3 + 1, none⟩) (Or.inl HA.out.s.2.1) (.int .i64 0))
        clear w1 fz1
        generalize w5.setCell ⟨bl, i * 3 + 1, none⟩ (.int .i64 0) = w6 at *
        have cw := HA6.out.cw HT.out
        have fzw := blk_frozen HA6.out.hg (2 + t)
        refine hK.out _ _ trivial (fun hHeld => ?_)
        clear hK K
        refine pure_ (i := 14) (N := some 45) (v := ?_) (a' := ?_) #[true, true, true, true, true, true, true, true, true, true, true, true, true, true, true, false] rfl rfl (by kernel_rfl) (fun _ _ _ h => h) (Or.inl ⟨by rfl, ?_⟩) ?_ ?_
        rotate_left
        · intro w'
          go_simp
          with_reducible rfl
        rotate_left
        · simp only [Act.put, List.setIfInBounds_toArray, List.set_cons_zero, List.set_cons_succ, i64_w, i32_w]
          rfl
        refine one_ (i := 15) (N := none) #[true, true, true, true, true, true, true, true, true, true, true, true, true, true, true, true] rfl rfl (by kernel_rfl) (by decide) (fun K hK => ?_)
        refine skip_ (w1 := ?_) (by rfl) rfl ?_ ?_
        rotate_left
        · go_simp
          rfl
        have HA7 := Aside0.mk (HA6.out.setWh HT.out 1)
        have HC7 := Aside0.mk (HC6.out.set_ (p := ⟨gp, 2 + t, none⟩) (Or.inl HA.out.s.1) (.int .u8 1))
        clear cw fzw
        generalize w6.setCell ⟨gp, 2 + t, none⟩ (.int .u8 1) = w7 at *
        refine hK.out _ _ trivial (fun hHeld => ?_)
        clear hK K
        refine done_ (by kernel_rfl) ?_
        go_wp2
        go_ret2
        rw [ew.out] at HA7
        exact ⟨rfl, HA7.out, HC7.out⟩
      · have hf0 : f = 0 := by have h1 : 0 ≤ f := HFF.out.1; omega
        subst hf0
        rw [if_neg (show ¬ 0 < (A1, t0, (0 : Int)).2.2 from (show ¬ (0 : Int) < 0 by decide))]
        clear hf HTT HFF hi
        go_enter Try.func13, Try.ntmps13
        go_wp2_with (first
          | (go_at_call 29; (refine HC.out.mono ?_); rintro e w1 ⟨rfl, rfl⟩)
          | (go_at_call 30; (refine HNX.out.mono ?_); rintro e w3 ⟨rfl, ha, hc⟩; have HA3 := Aside0.mk ha; have HC3 := Aside0.mk hc; clear ha hc))
        go_ret2
        exact ⟨rfl, HA3.out, HC3.out⟩
    · have HV := Aside0.mk (show fetchA A (i : Int) d = (A, -1, 0) from if_neg (fun z => hr (by have h1 := z.2.2; rwa [Int.toNat_natCast] at h1)))
      rw [HV.out]
      have d1 : (A.runs i != 0) = true := bne_iff_ne.2 hr
      clear h hk hx HV wd hr
      generalize A.runs i = u at *
      go_enter Try.func13, Try.ntmps13
      go_wp2_with (go_at_call 29; (refine HC.out.mono ?_); rintro e w1 ⟨rfl, rfl⟩)
      go_ret2
      exact ⟨rfl, HA.out, Chg.refl _ _⟩
end
end Go.Proofs.Ytjcjhmnfknenlaa.Pl
namespace Go.Proofs.Ytjcjhmnfknenlaa.Pl
open Go.RowKit Go.Proofs.YtjcjhmnfknenlaaW.PrintWords Go.Proofs.YtjcjhmnfknenlaaW.PrintLast Go.Proofs.YtjcjhmnfknenlaaW.PrintMore
open Rg (Chg Row row_back row_popback row_popfront row_all row_new row_clone two refDo)
set_option linter.unusedVariables false
set_option linter.unusedSimpArgs false

/-- A list in a row of its own. -/
def Own (W : World) (v : Value) (l : List Int) : Prop := W.ownsRow 0 3 1 v l.length (nums .i64 l)
theorem Own.below {W W' : World} {v : Value} {l : List Int} (h : Own W v l) (hb : Below W.heap.size W W') : Own W' v l := pw_own_below h hb
theorem Own.drewN {W : World} {v : Value} {l : List Int} (h : Own W v l) (k : Nat) : Own (W.drewN k) v l := h
theorem Own.kept {W W' : World} {v : Value} {l : List Int} (h : Own W v l) {S : Nat → Prop} (hc : Chg S W W') (hs : ∀ k, v.ownBlock = some k → ¬ S k) : Own W' v l := by
  refine ⟨h.1, ?_⟩
  rcases h.2 with h2 | ⟨g, cap, cur, rfl, hb, hh, r⟩
  · exact .inl h2
  · exact .inr ⟨g, cap, cur, rfl, hb, (hc.block g (Array.getElem?_eq_some_iff.1 hh).1 (hs g rfl)).trans hh, r⟩
def wo (l : List Int) (t : Int) : List Int := l.filter fun u => decide (u ≠ t)
theorem wo_len (l : List Int) (t : Int) : (wo l t).length ≤ l.length := List.length_filter_le _ _
theorem wo_snoc (l : List Int) (y t : Int) : wo (l ++ [y]) t = if y = t then wo l t else wo l t ++ [y] := by
  unfold wo
  rw [List.filter_append]
  by_cases e : y = t
  · rw [if_pos e]; simp [e]
  · rw [if_neg e]; simp [e]
theorem take_snoc {l : List Int} {i : Nat} (h : i < l.length) : l.take (i + 1) = l.take i ++ [rd l (i : Int)] := by
  have e : rd l (i : Int) = l.getD i 0 := by unfold rd; rw [Int.toNat_natCast]
  rw [e, List.take_add_one, List.getD_eq_getElem?_getD, List.getElem?_eq_getElem h]
  rfl
section
variable {W W' : World} {g b c cap : Nat} {ex : List Value} {l : List Int}
set_option maxHeartbeats 8000000 in
set_option maxRecDepth 100000 in
theorem without_any (h : Row W g b c ex cap l) (m : Nat) (hm : l.length ≤ m) (hm2 : m ≤ 4096) (t : Int) :
    Calls Try.prog 44 #[.pointer (some ⟨g, 0, none⟩), .int .i64 (m : Int), .int .i64 t] W fun e w' => ∃ g' b', e = .returned (.pointer (some ⟨g', 0, none⟩)) ∧ Row w' g' b' m [] m (wo l t) ∧ W.heap.size ≤ g' ∧ W.heap.size ≤ b' ∧ Below W.heap.size W w' := by
  have HR := Aside0.mk h
  have HM := Aside0.mk hm
  have HNW := Aside0.mk (row_new W (m : Int) m (by omega))
  clear h hm hm2
  go_enter Try.func44, Try.ntmps44
  go_upto_region 2 with (go_at_call 26; (refine HNW.out.mono ?_); rintro e w1 ⟨g', b', rfl, hb, hr, h1, h2⟩; have HB1 := Aside0.mk hb; have HR1 := Aside0.mk hr; have HG := Aside0.mk h1; have HBB := Aside0.mk h2; clear hb hr h1 h2)
  clear HNW
  have HAL := Aside0.mk (row_all (HR.out.below HB1.out))
  go_upto_block 0 with (go_at_call 40; (refine HAL.out.mono ?_); rintro e w2 ⟨v, rfl, hb, ho⟩; obtain ⟨A, c2, rfl⟩ := own_slice ho; have HB2 := Aside0.mk hb; have HO2 := Aside0.mk ho; clear hb ho)
  clear HAL
  have HOB := Aside0.mk (fun (k : Nat) (hk : (Value.slice A l.length c2).ownBlock = some k) => (show ¬ two g' b' k from by
    have h1 := own_base HO2.out k hk
    have h2 := (Rg.Row.lt' HR1.out).1
    have h3 := (Rg.Row.lt' HR1.out).2
    intro ht
    rcases ht with ht | ht <;> omega))
  have HOW := Aside0.mk (show Own w2 (.slice A l.length c2) l from own_weaken HO2.out (Nat.zero_le _))
  have HBW := Aside0.mk (show Below W.heap.size W w2 from below_step HB1.out HB2.out)
  have HR2 := Aside0.mk (show Row w2 g' b' m [] m (wo (l.take 0) t) from HR1.out.below HB2.out)
  clear HB1 HB2 HO2 HR1 HR
  obtain ⟨n, hn⟩ : ∃ n, n = l.length := ⟨_, rfl⟩
  rw [← hn] at HOW HM HOB
  try rw [← hn]
  have HN := Aside0.mk hn
  clear hn
  go_wp2
  go_loopg [15] n (fun kq v15 w' => ∃ (i : Nat), v15 = .int .i64 (i : Int) ∧ Aside0 (i + kq = n) ∧ Aside0 (Row w' g' b' m [] m (wo (l.take i) t)) ∧ Aside0 (Own w' (.slice A n c2) l) ∧ Aside0 (Below W.heap.size W w'))
  case atStart => exact ⟨0, rfl, ⟨by omega⟩, HR2, HOW, HBW⟩
  case round =>
    clear HR2 HOW HBW
    obtain ⟨i, rfl, HK, HRI, HOI, HBI⟩ := hrel
    rcases gk with _ | k1
    · have d1 : decide ((i : Int) < (n : Int)) = false := decide_eq_false (by have := HK.out; omega)
      have d2 : decide (i < n) = false := decide_eq_false (by have := HK.out; omega)
      have HE := Aside0.mk (show Row wr g' b' m [] m (wo l t) from by
        have h1 := HRI.out
        rw [List.take_of_length_le (by have h2 := HK.out; have h3 := HN.out; omega)] at h1
        exact h1)
      go_wp2
      go_ret
      exact ⟨g', b', rfl, HE.out, HG.out, HBB.out, HBI.out⟩
    · have hil : i < l.length := by have h1 := HK.out; have h2 := HN.out; omega
      have d1 : decide ((i : Int) < (n : Int)) = true := decide_eq_true (by have := HK.out; omega)
      have d2 : decide (i < n) = true := decide_eq_true (by have := HK.out; omega)
      have p1 : (0 ≤ (i : Int)) = True := eq_true (by omega)
      have p2 : ((i : Int) < (n : Int)) = True := eq_true (by have := HK.out; omega)
      have HRI2 := Aside0.mk (show ReadsInt wr .i64 A n l from by
        obtain ⟨A', c', e, hr⟩ := own_reads HOI.out
        have e1 := HN.out
        injection e with e2 e3 e4
        subst e2
        rw [← e1] at hr
        exact hr)
      have HMX := Aside0.mk (show (i : Int) + 1 ≤ 9223372036854775807 from by have h1 := HRI2.out.2.1; have h2 := HK.out; omega)
      obtain ⟨ad, ea, x0⟩ := HRI2.out.at_ (i : Int) (by omega) (by have := HK.out; omega)
      subst ea
      rw [Int.toNat_natCast] at x0
      have HTS := Aside0.mk (show wo (l.take (i + 1)) t = if rd l (i : Int) = t then wo (l.take i) t else wo (l.take i) t ++ [rd l (i : Int)] from by rw [take_snoc hil, wo_snoc])
      have HLN := Aside0.mk (show (wo (l.take i) t).length < m from by
        have h1 := wo_len (l.take i) t
        rw [List.length_take] at h1
        have h2 := HM.out
        have h3 := HN.out
        omega)
      have ew : Aside0 (wrap64 ((i : Int) + 1) = (i : Int) + 1) := ⟨by have h2 := HMX.out; unfold wrap64; omega⟩
      clear hil HRI2
      generalize rd l (i : Int) = y at *
      by_cases hy : y = t
      · have HE := Aside0.mk (HTS.out.trans (if_pos hy))
        have d3 : (y != t) = false := by rw [hy]; simp
        clear hy HTS
        go_wp2
        go_roundg k1
        case measure => omega
        case rel => exact ⟨i + 1, by rw [ew.out]; simp, ⟨by have := HK.out; omega⟩, ⟨by rw [HE.out]; exact HRI.out⟩, HOI, HBI⟩
      · have HE := Aside0.mk (HTS.out.trans (if_neg hy))
        have d3 : (y != t) = true := bne_iff_ne.2 hy
        have HBK := Aside0.mk (row_back HRI.out y)
        rw [ref_room y HLN.out] at HBK
        clear hy HTS
        go_wp2_with (go_at_call 43; (refine HBK.out.mono ?_); rintro e w5 ⟨rfl, hc, hr⟩; have HC5 := Aside0.mk hc; have HR5 := Aside0.mk hr; clear hc hr)
        go_roundg k1
        case measure => omega
        case rel => exact ⟨i + 1, by rw [ew.out]; simp, ⟨by have := HK.out; omega⟩, ⟨by rw [HE.out]; exact HR5.out⟩, ⟨HOI.out.kept HC5.out HOB.out⟩, ⟨Chg.below HBI.out HC5.out HBI.out.size (fun k hk => by
          rcases hk with hk | hk
          · have := HG.out; omega
          · have := HBB.out; omega)⟩⟩
end
end Go.Proofs.Ytjcjhmnfknenlaa.Pl
