/- Places: Leave, Put, Ready, Work. Conditions: none. -/
import Derived.Test.YtjcjhmnfknenlaaPl2
namespace Go.Proofs.Ytjcjhmnfknenlaa.Pl
open Go.RowKit Go.Proofs.YtjcjhmnfknenlaaW.PrintWords Go.Proofs.YtjcjhmnfknenlaaW.PrintLast Go.Proofs.YtjcjhmnfknenlaaW.PrintMore
open Rg (Chg Row row_back row_popback row_popfront row_all row_new row_clone two refDo)
set_option linter.unusedVariables false
set_option linter.unusedSimpArgs false

def leaveA (A : Pa) (x : Int) : Pa := if 0 ≤ on A x then { A with runs := up A.runs x.toNat 0, wh := up A.wh (on A x).toNat 0 } else A
def backGl (A : Pa) (t : Int) : List Int := (refDo A.gl 64 0 t).1
def putA (A : Pa) (x : Int) : Pa := if 0 ≤ on A x then { A with runs := up A.runs x.toNat 0, gl := backGl A (on A x), wh := up A.wh (on A x).toNat 3 } else A
def readyB (A : Pa) (x t : Int) : Bool := decide (0 ≤ x) && decide (x < (A.n : Int)) && (decide (0 ≤ t) && decide (t < 64)) && decide (A.wh t.toNat = 0)
def readyA (A : Pa) (x t : Int) : Pa :=
  if readyB A x t = true then (if (A.own x.toNat).length < 16 then { A with own := up A.own x.toNat (A.own x.toNat ++ [t]), wh := up A.wh t.toNat 2 } else { A with gl := backGl A t, wh := up A.wh t.toNat 3 }) else A
def workA (A : Pa) (x : Int) : Pa := if 0 ≤ on A x then { A with work := up A.work x.toNat (A.work x.toNat + 1) } else A
def workN (A : Pa) (x : Int) : Int := if 0 ≤ on A x then A.work x.toNat + 1 else 0
theorem on_pos {A : Pa} {x : Int} (h : 0 ≤ on A x) : ∃ i : Nat, x = (i : Int) ∧ i < A.n ∧ on A x = A.runs i - 1 := by
  unfold on at h ⊢
  split at h
  · rename_i c
    exact ⟨x.toNat, by omega, by omega, by rw [if_pos c]⟩
  · omega
section
variable {S : Nat → Prop} {W W' : World} {gp bl cl : Nat} {A : Pa} {ex : List Value} {r : Nat → Rk} {q : Rk}
set_option maxHeartbeats 4000000 in
set_option maxRecDepth 100000 in
theorem leave_any (h : At S W gp A bl cl ex r q) (hk : Ok A) (x : Int) : Calls Try.prog 12 #[.pointer (some ⟨gp, 0, none⟩), .int .i64 x] W fun e w' => e = .returned (.bool (decide (0 ≤ on A x))) ∧ At S w' gp (leaveA A x) bl cl ex r q ∧ Chg S W w' := by
  have hu57 := Try.underlying57
  have hu54 := Try.underlying54
  have hu59 := Try.underlying59
  have HO := Aside0.mk (on_any h hk.runs x)
  by_cases h0 : 0 ≤ on A x
  · have HV := Aside0.mk (show leaveA A x = { A with runs := up A.runs x.toNat 0, wh := up A.wh (on A x).toNat 0 } from if_pos h0)
    obtain ⟨i, rfl, hi, ho⟩ := on_pos h0
    have hb := hk.runs i hi
    unfold Rg64 at hb
    obtain ⟨t, ht⟩ : ∃ t : Nat, on A (i : Int) = (t : Int) := ⟨(on A (i : Int)).toNat, by omega⟩
    have HT := Aside0.mk (show t < 64 from by omega)
    rw [HV.out, ht]
    rw [ht] at HO
    rw [Int.toNat_natCast, Int.toNat_natCast]
    have HA := Aside0.mk h
    have HI := Aside0.mk hi
    have c0 := h.c0
    have w0 := h.w0 hi
    have fz := blk_frozen h.hl (i * 3)
    have d0 : decide ((0 : Int) ≤ (t : Int)) = true := decide_eq_true (by omega)
    have d1 : decide ((t : Int) < 0) = false := decide_eq_false (by omega)
    have p1 : (0 ≤ (i : Int)) = True := eq_true (by omega)
    have p2 : ((i : Int) < (A.n : Int)) = True := eq_true (by omega)
    have p3 : (0 ≤ (t : Int)) = True := eq_true (by omega)
    have p4 : ((t : Int) < 64) = True := eq_true (by omega)
    rw [d0]
    clear h hk h0 HV hi ho hb ht
    go_enter Try.func12, Try.ntmps12
    go_upto_region 5 with (go_at_call 11; (refine HO.out.mono ?_); rintro e w1 ⟨rfl, rfl⟩)
    have HA1 := Aside0.mk (HA.out.setRuns HI.out 0)
    have HC1 := Aside0.mk ((Chg.refl S w1).set_ (p := ⟨bl, i * 3, none⟩) (Or.inl HA.out.s.2.1) (.int .i64 0))
    clear c0 w0 fz HO
    generalize w1.setCell ⟨bl, i * 3, none⟩ (.int .i64 0) = w2 at *
    have cw := HA1.out.cw HT.out
    have fz := blk_frozen HA1.out.hg (2 + t)
    go_wp2
    go_ret
    exact ⟨rfl, HA1.out.setWh HT.out 0, HC1.out.set_ (Or.inl HA.out.s.1) _⟩
  · have HV := Aside0.mk (show leaveA A x = A from if_neg h0)
    have d0 : decide (0 ≤ on A x) = false := decide_eq_false h0
    have d1 : decide (on A x < 0) = true := decide_eq_true (by omega)
    rw [HV.out, d0]
    have HA := Aside0.mk h
    clear h hk h0 HV
    generalize on A x = v at *
    go_enter Try.func12, Try.ntmps12
    go_wp2_with (go_at_call 11; (refine HO.out.mono ?_); rintro e w1 ⟨rfl, rfl⟩)
    go_ret
    exact ⟨rfl, HA.out, Chg.refl _ _⟩
set_option maxHeartbeats 4000000 in
set_option maxRecDepth 100000 in
theorem put_any (h : At S W gp A bl cl ex r q) (hk : Ok A) (x : Int) : Calls Try.prog 23 #[.pointer (some ⟨gp, 0, none⟩), .int .i64 x] W fun e w' => e = .returned (.bool (decide (0 ≤ on A x))) ∧ At S w' gp (putA A x) bl cl ex r q ∧ Chg S W w' := by
  have hu57 := Try.underlying57
  have hu54 := Try.underlying54
  have hu59 := Try.underlying59
  have HO := Aside0.mk (on_any h hk.runs x)
  by_cases h0 : 0 ≤ on A x
  · have HV := Aside0.mk (show putA A x = { A with runs := up A.runs x.toNat 0, gl := backGl A (on A x), wh := up A.wh (on A x).toNat 3 } from if_pos h0)
    obtain ⟨i, rfl, hi, ho⟩ := on_pos h0
    have hb := hk.runs i hi
    unfold Rg64 at hb
    obtain ⟨t, ht⟩ : ∃ t : Nat, on A (i : Int) = (t : Int) := ⟨(on A (i : Int)).toNat, by omega⟩
    have HT := Aside0.mk (show t < 64 from by omega)
    rw [HV.out, ht]
    rw [ht] at HO
    rw [Int.toNat_natCast, Int.toNat_natCast]
    have HA := Aside0.mk h
    have HI := Aside0.mk hi
    have c0 := h.c0
    have w0 := h.w0 hi
    have fz := blk_frozen h.hl (i * 3)
    have d0 : decide ((0 : Int) ≤ (t : Int)) = true := decide_eq_true (by omega)
    have d1 : decide ((t : Int) < 0) = false := decide_eq_false (by omega)
    have p1 : (0 ≤ (i : Int)) = True := eq_true (by omega)
    have p2 : ((i : Int) < (A.n : Int)) = True := eq_true (by omega)
    have p3 : (0 ≤ (t : Int)) = True := eq_true (by omega)
    have p4 : ((t : Int) < 64) = True := eq_true (by omega)
    rw [d0]
    clear h hk h0 HV hi ho hb ht
    go_enter Try.func23, Try.ntmps23
    go_upto_region 5 with (go_at_call 11; (refine HO.out.mono ?_); rintro e w1 ⟨rfl, rfl⟩)
    have HA1 := Aside0.mk (HA.out.setRuns HI.out 0)
    have HC1 := Aside0.mk ((Chg.refl S w1).set_ (p := ⟨bl, i * 3, none⟩) (Or.inl HA.out.s.2.1) (.int .i64 0))
    clear c0 w0 fz HO
    generalize w1.setCell ⟨bl, i * 3, none⟩ (.int .i64 0) = w2 at *
    have c1 := HA1.out.c1
    have HB := Aside0.mk (row_back HA1.out.glob (t : Int))
    go_upto_region 6 with (go_at_call 43; (refine HB.out.mono ?_); rintro e w3 ⟨rfl, hc, hr⟩; have HA2 := Aside0.mk (HA1.out.turnGl hc hr); have HC2 := Aside0.mk (HC1.out.trans (HA1.out.chgGl hc)); clear hc hr)
    clear c1 HB HA1 HC1
    have cw := HA2.out.cw HT.out
    have fz := blk_frozen HA2.out.hg (2 + t)
    go_wp2
    go_ret
    exact ⟨rfl, HA2.out.setWh HT.out 3, HC2.out.set_ (Or.inl HA.out.s.1) _⟩
  · have HV := Aside0.mk (show putA A x = A from if_neg h0)
    have d0 : decide (0 ≤ on A x) = false := decide_eq_false h0
    have d1 : decide (on A x < 0) = true := decide_eq_true (by omega)
    rw [HV.out, d0]
    have HA := Aside0.mk h
    clear h hk h0 HV
    generalize on A x = v at *
    go_enter Try.func23, Try.ntmps23
    go_wp2_with (go_at_call 11; (refine HO.out.mono ?_); rintro e w1 ⟨rfl, rfl⟩)
    go_ret
    exact ⟨rfl, HA.out, Chg.refl _ _⟩
set_option maxHeartbeats 4000000 in
set_option maxRecDepth 100000 in
theorem work_any (h : At S W gp A bl cl ex r q) (hk : Ok A) (x : Int) (hw : ∀ i, i < A.n → 0 ≤ A.work i ∧ A.work i ≤ 1000000) : Calls Try.prog 25 #[.pointer (some ⟨gp, 0, none⟩), .int .i64 x] W fun e w' => e = .returned (.int .i64 (workN A x)) ∧ At S w' gp (workA A x) bl cl ex r q ∧ Chg S W w' := by
  have hu57 := Try.underlying57
  have hu54 := Try.underlying54
  have hu59 := Try.underlying59
  have HO := Aside0.mk (on_any h hk.runs x)
  by_cases h0 : 0 ≤ on A x
  · have HV := Aside0.mk (show workA A x = { A with work := up A.work x.toNat (A.work x.toNat + 1) } from if_pos h0)
    have HN := Aside0.mk (show workN A x = A.work x.toNat + 1 from if_pos h0)
    obtain ⟨i, rfl, hi, ho⟩ := on_pos h0
    have hb := hw i hi
    obtain ⟨t, ht⟩ : ∃ t : Nat, on A (i : Int) = (t : Int) := ⟨(on A (i : Int)).toNat, by omega⟩
    rw [HV.out, HN.out]
    rw [ht] at HO
    rw [Int.toNat_natCast]
    have HA := Aside0.mk h
    have HI := Aside0.mk hi
    have c0 := h.c0
    have w1 := h.w1 hi
    have fz := blk_frozen h.hl (i * 3 + 1)
    have d1 : decide ((t : Int) < 0) = false := decide_eq_false (by omega)
    have p1 : (0 ≤ (i : Int)) = True := eq_true (by omega)
    have p2 : ((i : Int) < (A.n : Int)) = True := eq_true (by omega)
    have ew : Aside0 (wrap64 (A.work i + 1) = A.work i + 1) := ⟨by unfold wrap64; omega⟩
    clear h hk h0 HV hi ho hb ht hw HN
    go_enter Try.func25, Try.ntmps25
    go_upto_region 4 with (go_at_call 11; (refine HO.out.mono ?_); rintro e wa ⟨rfl, rfl⟩)
    have HA1 := Aside0.mk (HA.out.setWork HI.out (wrap64 (A.work i + 1)))
    have HC1 := Aside0.mk ((Chg.refl S wa).set_ (p := ⟨bl, i * 3 + 1, none⟩) (Or.inl HA.out.s.2.1) (.int .i64 (wrap64 (A.work i + 1))))
    clear c0 w1 fz HO
    generalize wa.setCell ⟨bl, i * 3 + 1, none⟩ (.int .i64 (wrap64 (A.work i + 1))) = w2 at *
    rw [ew.out] at HA1
    have c0 := HA1.out.c0
    have w1 : w2.cell? ⟨bl, i * 3 + 1, none⟩ = some (.int .i64 (A.work i + 1)) := (HA1.out.w1 HI.out).trans (by show some (Value.int .i64 (up A.work i (A.work i + 1) i)) = _; rw [up_same])
    go_wp2
    go_ret
    exact ⟨rfl, HA1.out, HC1.out⟩
  · have HV := Aside0.mk (show workA A x = A from if_neg h0)
    have HN := Aside0.mk (show workN A x = 0 from if_neg h0)
    have d1 : decide (on A x < 0) = true := decide_eq_true (by omega)
    rw [HV.out, HN.out]
    have HA := Aside0.mk h
    clear h hk h0 HV HN hw
    generalize on A x = v at *
    go_enter Try.func25, Try.ntmps25
    go_wp2_with (go_at_call 11; (refine HO.out.mono ?_); rintro e w1 ⟨rfl, rfl⟩)
    go_ret
    exact ⟨rfl, HA.out, Chg.refl _ _⟩
end
end Go.Proofs.Ytjcjhmnfknenlaa.Pl
