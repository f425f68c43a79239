/- Places: next. Conditions: none. -/
import Derived.Test.YtjcjhmnfknenlaaPl4
namespace Go.Proofs.Ytjcjhmnfknenlaa.Pl
open Go.RowKit Go.Proofs.YtjcjhmnfknenlaaW.PrintWords Go.Proofs.YtjcjhmnfknenlaaW.PrintLast Go.Proofs.YtjcjhmnfknenlaaW.PrintMore
open Rg (Chg Row row_back row_popback row_popfront row_all row_new row_clone two refDo)
set_option linter.unusedVariables false
set_option linter.unusedSimpArgs false

theorem ref_back0 {l : List Int} {cap : Nat} (h : l.length = 0) : refDo l cap 2 0 = (l, 0, false) := by
  unfold refDo
  rw [if_neg (by decide), if_neg (by decide), if_pos rfl, if_pos h]
theorem ref_back1 {l : List Int} {cap : Nat} (h : ¬ l.length = 0) : refDo l cap 2 0 = (l.take (l.length - 1), l.getD (l.length - 1) 0, true) := by
  unfold refDo
  rw [if_neg (by decide), if_neg (by decide), if_pos rfl, if_neg h]
theorem ref_front0 {l : List Int} {cap : Nat} (h : l.length = 0) : refDo l cap 3 0 = (l, 0, false) := by
  unfold refDo
  rw [if_neg (by decide), if_neg (by decide), if_neg (by decide), if_pos rfl, if_pos h]
theorem ref_front1 {l : List Int} {cap : Nat} (h : ¬ l.length = 0) : refDo l cap 3 0 = (l.drop 1, l.getD 0 0, true) := by
  unfold refDo
  rw [if_neg (by decide), if_neg (by decide), if_neg (by decide), if_pos rfl, if_neg h]
def draws (d : Int) : Nat := (if d < 0 then -1 - d else d).toNat
def kOf (A : Pa) (d : Int) : Nat := draws d % A.n
/-- What a worker is to run, and from where. -/
def nextA (A : Pa) (i : Nat) (d : Int) : Pa × Int × Int :=
  if ¬ (A.own i).length = 0 then ({ A with own := up A.own i ((A.own i).take ((A.own i).length - 1)) }, (A.own i).getD ((A.own i).length - 1) 0, 1)
  else if ¬ A.gl.length = 0 then ({ A with gl := A.gl.drop 1 }, A.gl.getD 0 0, 2)
  else if kOf A d ≠ i ∧ ¬ (A.own (kOf A d)).length = 0 then ({ A with own := up A.own (kOf A d) ((A.own (kOf A d)).drop 1) }, (A.own (kOf A d)).getD 0 0, 3)
  else (A, -1, 0)
section
variable {S : Nat → Prop} {W W' : World} {gp bl cl : Nat} {A : Pa} {ex : List Value} {r : Nat → Rk} {q : Rk}
theorem At.noGl (h : At S W gp A bl cl ex r q) (hc : Chg (two q.g q.b) W W') (hr : Row W' q.g q.b q.c q.ex 64 A.gl) : At S W' gp A bl cl ex r q := h.turnGl hc hr
theorem At.noOwn (h : At S W gp A bl cl ex r q) {i : Nat} (hi : i < A.n) (hc : Chg (two (r i).g (r i).b) W W') (hr : Row W' (r i).g (r i).b (r i).c (r i).ex 16 (A.own i)) : At S W' gp A bl cl ex r q := by
  have h1 := h.turnOwn hi hc hr
  rw [up_self] at h1
  exact h1
set_option maxHeartbeats 8000000 in
set_option maxRecDepth 100000 in
theorem next_any (h : At S W gp A bl cl ex r q) {i : Nat} (hi : i < A.n) {d : Int} (wd : -9223372036854775808 ≤ d ∧ d ≤ 9223372036854775807) :
    Calls Try.prog 30 #[.pointer (some ⟨gp, 0, none⟩), .int .i64 (i : Int), .pointer (some ⟨bl, i * 3, none⟩), .int .i64 d] W fun e w' => e = .returned (.tuple #[.int .i64 (nextA A i d).2.1, .int .i64 (nextA A i d).2.2]) ∧ At S w' gp (nextA A i d).1 bl cl ex r q ∧ Chg S W w' := by
  have hu57 := Try.underlying57
  have hu54 := Try.underlying54
  have hu59 := Try.underlying59
  have HA := Aside0.mk h
  have HI := Aside0.mk hi
  have w2 := h.w2 hi
  have HRB := Aside0.mk (row_popback (h.own i hi))
  by_cases h1 : (A.own i).length = 0
  · have HN1 := Aside0.mk (show nextA A i d = _ from if_neg (fun z => z h1))
    rw [ref_back0 h1] at HRB
    clear h1
    by_cases h2 : A.gl.length = 0
    · have HN := Aside0.mk (HN1.out.trans (if_neg (fun z => z h2)))
      obtain ⟨k, hk⟩ : ∃ k, k = kOf A d := ⟨_, rfl⟩
      rw [← hk] at HN
      have HKN := Aside0.mk (show k < A.n from by rw [hk]; exact Nat.mod_lt _ h.n_pos)
      have HKD := Aside0.mk (show k = draws d % A.n from hk)
      have HNP := Aside0.mk h.n_pos
      have HR0 := Aside0.mk h2
      clear h hi h2 HN1 hk
      by_cases hd : d < 0
      · have d3 : decide (d < 0) = true := decide_eq_true hd
        have EM := Aside0.mk (show (-1 - d).tmod (A.n : Int) = (k : Int) from by
          rw [HKD.out]
          unfold draws
          rw [if_pos hd, Int.natCast_emod, Int.toNat_of_nonneg (by omega), Int.tmod_eq_emod_of_nonneg (by omega)])
        clear hd
        go_enter Try.func30, Try.ntmps30
        go_upto_region 4 with (go_at_call 46; (refine HRB.out.mono ?_); rintro e w3 ⟨rfl, hc, hr⟩; have HA2 := Aside0.mk (HA.out.noOwn HI.out hc hr); have HC2 := Aside0.mk (HA.out.chgOwn HI.out hc); clear hc hr)
        clear w2
        have c1 := HA2.out.c1
        have HRG := Aside0.mk (show _ from row_popfront HA2.out.glob)
        rw [ref_front0 HR0.out] at HRG
        go_upto_region 9 with (go_at_call 47; (refine HRG.out.mono ?_); rintro e w4 ⟨rfl, hc, hr⟩; have HA3 := Aside0.mk (HA2.out.noGl hc hr); have HC3 := Aside0.mk (HC2.out.trans (HA2.out.chgGl hc)); clear hc hr)
        clear c1 HRG HA2 HC2 HRB
        have c0 := HA3.out.c0
        have em := EM.out
        have hz : ((A.n : Int) == 0) = false := beq_eq_false_iff_ne.2 (by have := HNP.out; omega)
        have hz1 : (A.n = 0) = False := eq_false (by have := HNP.out; omega)
        have hz2 : (A.n == 0) = false := beq_eq_false_iff_ne.2 (by have := HNP.out; omega)
        by_cases e : k = i
        · have HV := Aside0.mk (HN.out.trans (if_neg (fun z => z.1 e)))
          have d5 : (((k : Nat) : Int) != ((i : Nat) : Int)) = false := by rw [e]; simp
          clear HN e
          go_wp2
          go_ret2
          exact ⟨by rw [HV.out]; first | done | rfl, by rw [HV.out]; exact HA3.out, HC3.out⟩
        · have d5 : (((k : Nat) : Int) != ((i : Nat) : Int)) = true := by rw [bne_iff_ne]; omega
          have p5 : (0 ≤ (k : Int)) = True := eq_true (by omega)
          have p6 : ((k : Int) < (A.n : Int)) = True := eq_true (by have := HKN.out; omega)
          have w5 := HA3.out.w2 (i := k) HKN.out
          have HRK := Aside0.mk (row_popfront (HA3.out.own k HKN.out))
          by_cases hl : (A.own k).length = 0
          · have HV := Aside0.mk (HN.out.trans (if_neg (fun z => z.2 hl)))
            rw [ref_front0 hl] at HRK
            clear HN e hl
            go_wp2_with (go_at_call 47; (refine HRK.out.mono ?_); rintro e w5 ⟨rfl, hc, hr⟩; have HX := Aside0.mk (And.intro hc hr); clear hc hr)
            go_ret2
            exact ⟨by rw [HV.out]; first | done | rfl, by rw [HV.out]; exact HA3.out.noOwn HKN.out HX.out.1 HX.out.2, HC3.out.trans (HA3.out.chgOwn HKN.out HX.out.1)⟩
          · have HV := Aside0.mk (HN.out.trans (if_pos ⟨e, hl⟩))
            rw [ref_front1 hl] at HRK
            clear HN e hl
            go_wp2_with (go_at_call 47; (refine HRK.out.mono ?_); rintro e w5 ⟨rfl, hc, hr⟩; have HX := Aside0.mk (And.intro hc hr); clear hc hr)
            go_ret2
            exact ⟨by rw [HV.out]; first | done | rfl, by rw [HV.out]; exact HA3.out.turnOwn HKN.out HX.out.1 HX.out.2, HC3.out.trans (HA3.out.chgOwn HKN.out HX.out.1)⟩
      · have d3 : decide (d < 0) = false := decide_eq_false hd
        have EM := Aside0.mk (show d.tmod (A.n : Int) = (k : Int) from by
          rw [HKD.out]
          unfold draws
          rw [if_neg hd, Int.natCast_emod, Int.toNat_of_nonneg (by omega), Int.tmod_eq_emod_of_nonneg (by omega)])
        clear hd
        go_enter Try.func30, Try.ntmps30
        go_upto_region 4 with (go_at_call 46; (refine HRB.out.mono ?_); rintro e w3 ⟨rfl, hc, hr⟩; have HA2 := Aside0.mk (HA.out.noOwn HI.out hc hr); have HC2 := Aside0.mk (HA.out.chgOwn HI.out hc); clear hc hr)
        clear w2
        have c1 := HA2.out.c1
        have HRG := Aside0.mk (show _ from row_popfront HA2.out.glob)
        rw [ref_front0 HR0.out] at HRG
        go_upto_region 9 with (go_at_call 47; (refine HRG.out.mono ?_); rintro e w4 ⟨rfl, hc, hr⟩; have HA3 := Aside0.mk (HA2.out.noGl hc hr); have HC3 := Aside0.mk (HC2.out.trans (HA2.out.chgGl hc)); clear hc hr)
        clear c1 HRG HA2 HC2 HRB
        have c0 := HA3.out.c0
        have em := EM.out
        have hz : ((A.n : Int) == 0) = false := beq_eq_false_iff_ne.2 (by have := HNP.out; omega)
        have hz1 : (A.n = 0) = False := eq_false (by have := HNP.out; omega)
        have hz2 : (A.n == 0) = false := beq_eq_false_iff_ne.2 (by have := HNP.out; omega)
        by_cases e : k = i
        · have HV := Aside0.mk (HN.out.trans (if_neg (fun z => z.1 e)))
          have d5 : (((k : Nat) : Int) != ((i : Nat) : Int)) = false := by rw [e]; simp
          clear HN e
          go_wp2
          go_ret2
          exact ⟨by rw [HV.out]; first | done | rfl, by rw [HV.out]; exact HA3.out, HC3.out⟩
        · have d5 : (((k : Nat) : Int) != ((i : Nat) : Int)) = true := by rw [bne_iff_ne]; omega
          have p5 : (0 ≤ (k : Int)) = True := eq_true (by omega)
          have p6 : ((k : Int) < (A.n : Int)) = True := eq_true (by have := HKN.out; omega)
          have w5 := HA3.out.w2 (i := k) HKN.out
          have HRK := Aside0.mk (row_popfront (HA3.out.own k HKN.out))
          by_cases hl : (A.own k).length = 0
          · have HV := Aside0.mk (HN.out.trans (if_neg (fun z => z.2 hl)))
            rw [ref_front0 hl] at HRK
            clear HN e hl
            go_wp2_with (go_at_call 47; (refine HRK.out.mono ?_); rintro e w5 ⟨rfl, hc, hr⟩; have HX := Aside0.mk (And.intro hc hr); clear hc hr)
            go_ret2
            exact ⟨by rw [HV.out]; first | done | rfl, by rw [HV.out]; exact HA3.out.noOwn HKN.out HX.out.1 HX.out.2, HC3.out.trans (HA3.out.chgOwn HKN.out HX.out.1)⟩
          · have HV := Aside0.mk (HN.out.trans (if_pos ⟨e, hl⟩))
            rw [ref_front1 hl] at HRK
            clear HN e hl
            go_wp2_with (go_at_call 47; (refine HRK.out.mono ?_); rintro e w5 ⟨rfl, hc, hr⟩; have HX := Aside0.mk (And.intro hc hr); clear hc hr)
            go_ret2
            exact ⟨by rw [HV.out]; first | done | rfl, by rw [HV.out]; exact HA3.out.turnOwn HKN.out HX.out.1 HX.out.2, HC3.out.trans (HA3.out.chgOwn HKN.out HX.out.1)⟩
    · have HV := Aside0.mk (HN1.out.trans (if_pos h2))
      rw [HV.out]
      clear h hi HV HN1
      go_enter Try.func30, Try.ntmps30
      go_upto_region 4 with (go_at_call 46; (refine HRB.out.mono ?_); rintro e w3 ⟨rfl, hc, hr⟩; have HA2 := Aside0.mk (HA.out.noOwn HI.out hc hr); have HC2 := Aside0.mk (HA.out.chgOwn HI.out hc); clear hc hr)
      clear w2
      have c1 := HA2.out.c1
      have HRG := Aside0.mk (show _ from row_popfront HA2.out.glob)
      rw [ref_front1 h2] at HRG
      clear h2
      go_wp2_with (go_at_call 47; (refine HRG.out.mono ?_); rintro e w4 ⟨rfl, hc, hr⟩; have HA3 := Aside0.mk (HA2.out.turnGl hc hr); have HC3 := Aside0.mk (HC2.out.trans (HA2.out.chgGl hc)); clear hc hr)
      go_ret2
      exact ⟨rfl, HA3.out, HC3.out⟩
  · have HV := Aside0.mk (show nextA A i d = _ from if_pos h1)
    rw [HV.out]
    rw [ref_back1 h1] at HRB
    clear h hi h1 HV
    go_enter Try.func30, Try.ntmps30
    go_wp2_with (go_at_call 46; (refine HRB.out.mono ?_); rintro e w3 ⟨rfl, hc, hr⟩; have HA2 := Aside0.mk (HA.out.turnOwn HI.out hc hr); have HC2 := Aside0.mk (HA.out.chgOwn HI.out hc); clear hc hr)
    go_ret2
    exact ⟨rfl, HA2.out, HC2.out⟩
end
end Go.Proofs.Ytjcjhmnfknenlaa.Pl
