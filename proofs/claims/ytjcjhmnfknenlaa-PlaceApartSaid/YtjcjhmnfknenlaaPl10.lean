/- Places: All, the law's do. Conditions: none. -/
import Derived.Test.YtjcjhmnfknenlaaPl9
import Derived.Test.YtjcjhmnfknenlaaBt
import Derived.Test.YtjcjhmnfknenlaaPPlaceApartx1
namespace Go.Proofs.Ytjcjhmnfknenlaa.Pl
open Go.RowKit Go.Proofs.Ytjcjhmnfknenlaa.PPlaceApart Go.Proofs.YtjcjhmnfknenlaaW.PrintWords Go.Proofs.YtjcjhmnfknenlaaW.PrintLast
open Rg (Chg Row row_back row_popback row_popfront row_all row_new row_clone two refDo)
set_option linter.unusedVariables false
set_option linter.unusedSimpArgs false

namespace Gs
/-- A set by a test. -/
def setOf (p : Nat → Bool) : Nat → Nat
  | 0 => 0
  | i + 1 => if p i = true then setOf p i ||| 2 ^ i else setOf p i
theorem tb_setOf (p : Nat → Bool) (j : Nat) : ∀ i, (setOf p i).testBit j = (decide (j < i) && p j) := by
  intro i
  induction i with
  | zero => simp [setOf]
  | succ i ih =>
    simp only [setOf]
    by_cases e : j = i
    · subst e
      have h1 : decide (j < j) = false := by simp
      have h2 : decide (j < j + 1) = true := by simp
      rw [h2]
      split
      · rename_i c; rw [Bt.tb_or, Bt.tb_pow, c]; simp
      · rename_i c; rw [ih, h1]; simp [Bool.eq_false_iff.mpr c]
    · have h1 : decide (j < i + 1) = decide (j < i) := by
        rw [decide_eq_decide]; omega
      rw [h1]
      split
      · rw [Bt.tb_or, Bt.tb_pow, ih, decide_eq_false (show ¬ i = j from fun q => e q.symm), Bool.or_false]
      · exact ih
theorem setOf_top (p : Nat → Bool) {i : Nat} (hi : i ≤ 64) : setOf p i < Bt.top := by
  rw [Bt.top_pow]
  apply Nat.lt_pow_two_of_testBit
  intro j hj
  rw [tb_setOf, decide_eq_false (by omega)]
  rfl
end Gs
theorem with_f {s t : Nat} (hs : s < Bt.top) (ht : t < 64) : bits_Set_With.f (s : Int) (t : Int) = some ((s ||| 2 ^ t : Nat) : Int) := by
  unfold bits_Set_With.f bits_one.f
  rw [if_neg (by omega), if_neg (by omega), if_pos (by omega), Bt.shl_one ht, Option.bind_some, Bt.or_nat hs (Bt.lt_pow ht)]
def inB (A : Pa) (t : Nat) : Bool := decide (0 < A.wh t)
def allS (A : Pa) : Nat := Gs.setOf (inB A) 64
def flagI (b : Bool) : Int := if b = true then 1 else 0
theorem flag_any (W : World) (b : Bool) : Calls Try.prog 27 #[.bool b] W fun e w' => e = .returned (.int .i64 (flagI b)) ∧ w' = W := by
  cases b
  · go_enter Try.func27, Try.ntmps27
    go_wp2
    go_ret
    exact ⟨rfl, rfl⟩
  · go_enter Try.func27, Try.ntmps27
    go_wp2
    go_ret
    exact ⟨rfl, rfl⟩
section
variable {S : Nat → Prop} {W W' : World} {gp bl cl : Nat} {A : Pa} {ex : List Value} {r : Nat → Rk} {q : Rk}
set_option maxHeartbeats 4000000 in
set_option maxRecDepth 100000 in
theorem all_any (h : At S W gp A bl cl ex r q) (hk : Ok A) : Calls Try.prog 9 #[.pointer (some ⟨gp, 0, none⟩)] W fun e w' => e = .returned (.int .u64 ((allS A : Nat) : Int)) ∧ ∃ n, w' = W.drewN n := by
  have HA := Aside0.mk h
  have HWK := Aside0.mk hk.wh
  clear h hk
  go_enter Try.func9, Try.ntmps9
  go_wp2
  go_loopg [3, 5] 64 (fun kq v3 v5 w' => ∃ (i m : Nat), v3 = .int .u64 ((Gs.setOf (inB A) i : Nat) : Int) ∧ v5 = .int .i64 (i : Int) ∧ Aside0 (i + kq = 64) ∧ Aside0 (w' = W.drewN m))
  case atStart => exact ⟨0, 0, rfl, rfl, ⟨by omega⟩, ⟨rfl⟩⟩
  case round =>
    obtain ⟨i, m, rfl, rfl, HK, HW⟩ := hrel
    have HAI := Aside0.mk (show At S wr gp A bl cl ex r q from by rw [HW.out]; exact HA.out.below (pw_below_drewN (Below.refl _ _) m))
    rcases gk with _ | k1
    · have HI := Aside0.mk (show i = 64 from by have := HK.out; omega)
      have d1 : decide ((i : Int) < 64) = false := decide_eq_false (by have := HK.out; omega)
      have d2 : decide (i < 64) = false := decide_eq_false (by have := HK.out; omega)
      go_wp2
      go_ret
      exact ⟨by rw [HI.out]; first | rfl | simp [allS], m, HW.out⟩
    · have d1 : decide ((i : Int) < 64) = true := decide_eq_true (by have := HK.out; omega)
      have d2 : decide (i < 64) = true := decide_eq_true (by have := HK.out; omega)
      have HI64 := Aside0.mk (show i < 64 from by have := HK.out; omega)
      have ew : Aside0 (wrap64 ((i : Int) + 1) = (i : Int) + 1) := ⟨by have h2 := HI64.out; unfold wrap64; omega⟩
      have HWI := Aside0.mk (where_any HAI.out HWK.out (i : Int))
      have HWV := Aside0.mk (show wher A (i : Int) = A.wh i from by unfold wher; rw [if_pos (by have := HI64.out; omega), Int.toNat_natCast])
      rw [HWV.out] at HWI
      have HST := Aside0.mk (show Gs.setOf (inB A) (i + 1) = if inB A i = true then Gs.setOf (inB A) i ||| 2 ^ i else Gs.setOf (inB A) i from rfl)
      have HSL := Aside0.mk (show Gs.setOf (inB A) i < Bt.top from Gs.setOf_top _ (by have := HI64.out; omega))
      have HIB := Aside0.mk (show inB A i = decide (0 < A.wh i) from rfl)
      clear HAI HWV
      generalize Gs.setOf (inB A) i = T at *
      by_cases hw : 0 < A.wh i
      · have d3 : decide (0 < A.wh i) = true := decide_eq_true hw
        have HE := Aside0.mk (HST.out.trans (if_pos (by rw [HIB.out, d3])))
        have HWT := Aside0.mk (with_f HSL.out HI64.out)
        clear hw HST HIB
        generalize A.wh i = u at *
        go_wp2_with (first
          | (go_at_call 20; (refine HWI.out.mono ?_); rintro e w1 ⟨rfl, rfl⟩)
          | (go_at_call 28; (with_reducible refine (bits_Set_With.calls _ _ _ _ HWT.out).mono ?_); rintro e w9 ⟨rfl, ⟨nd9, rfl⟩⟩))
        go_roundg k1
        case measure => omega
        case rel => exact ⟨i + 1, m + nd9, by rw [HE.out], by rw [ew.out]; simp, ⟨by have := HK.out; omega⟩, ⟨by rw [HW.out]; first | rfl | simp [World.drewN, Nat.add_assoc]⟩⟩
      · have d3 : decide (0 < A.wh i) = false := decide_eq_false hw
        have HE := Aside0.mk (HST.out.trans (if_neg (by rw [HIB.out, d3]; decide)))
        clear hw HST HIB
        generalize A.wh i = u at *
        go_wp2_with (go_at_call 20; (refine HWI.out.mono ?_); rintro e w1 ⟨rfl, rfl⟩)
        go_roundg k1
        case measure => omega
        case rel => exact ⟨i + 1, m, by rw [HE.out], by rw [ew.out]; simp, ⟨by have := HK.out; omega⟩, HW⟩
end
/-! ### a call of the law's -/
def Pl (S : Nat → Prop) (W : World) (gp : Nat) (A : Pa) : Prop := ∃ bl cl ex r q, At S W gp A bl cl ex r q
def doA (A : Pa) (k x t : Int) : Pa × Int × Int :=
  if k = 0 then (readyA A x t, flagI (readyB A x t), 0) else if k = 1 then fetchA A x t else if k = 2 then (putA A x, flagI (decide (0 ≤ on A x)), 0) else if k = 3 then (leaveA A x, flagI (decide (0 ≤ on A x)), 0)
  else if k = 4 then (dropA A t, flagI (!decide (wher A t = 0)), 0) else (workA A x, workN A x, 0)
def OkW (A : Pa) : Prop := ∀ i, i < A.n → 0 ≤ A.work i ∧ A.work i ≤ 1000000
def Post (S : Nat → Prop) (W : World) (gp : Nat) (y : Pa × Int × Int) (e : Ending) (w' : World) : Prop :=
  e = .returned (.tuple #[.int .i64 y.2.1, .int .i64 y.2.2]) ∧ Pl (fun k => S k ∨ W.heap.size ≤ k) w' gp y.1 ∧ Chg S W w'
set_option maxHeartbeats 8000000 in
set_option maxRecDepth 100000 in
theorem do_any {S : Nat → Prop} {W : World} {gp : Nat} {A : Pa} (h : Pl S W gp A) (hk : Ok A) (hw : OkW A) (k x : Int) {t : Int} (wt : -9223372036854775808 ≤ t ∧ t ≤ 9223372036854775807) :
    Calls Try.prog 8 #[.pointer (some ⟨gp, 0, none⟩), .agg #[.int .i64 k, .int .i64 x, .int .i64 t]] W (Post S W gp (doA A k x t)) := by
  obtain ⟨bl, cl, ex, r, q, h⟩ := h
  have hu28 := Try.underlying28
  have HA := Aside0.mk (fun (w1 : World) (hb : Below W.heap.size W w1) => h.below hb)
  have HK := Aside0.mk hk
  have HW := Aside0.mk hw
  have HM := Aside0.mk (fun (w1 w2 : World) (A' : Pa) (r' : Nat → Rk) (q' : Rk) (hb : Below W.heap.size W w1) (h2 : At S w2 gp A' bl cl ex r' q') (hc : Chg S w1 w2) => (show Pl (fun k => S k ∨ W.heap.size ≤ k) w2 gp A' ∧ Chg S W w2 from ⟨⟨bl, cl, ex, r', q', h2.mono (fun k hk => .inl hk)⟩, (Chg.of_below hb).trans hc⟩))
  have HM2 := Aside0.mk (fun (w1 w2 : World) (A' : Pa) (hb : Below W.heap.size W w1) (h2 : ∃ r' q', At (fun k => S k ∨ w1.heap.size ≤ k) w2 gp A' bl cl ex r' q') (hc : Chg S w1 w2) => (show Pl (fun k => S k ∨ W.heap.size ≤ k) w2 gp A' ∧ Chg S W w2 from by
    obtain ⟨r', q', h2⟩ := h2
    exact ⟨⟨bl, cl, ex, r', q', h2.mono (fun k hk => hk.imp id (fun z => Nat.le_trans hb.size z))⟩, (Chg.of_below hb).trans hc⟩))
  have HWT := Aside0.mk wt
  clear h hk hw wt
  by_cases k0 : k = 0
  · have d0 : (k == 0) = true := beq_iff_eq.2 k0
    have HP := Aside0.mk (show doA A k x t = (readyA A x t, flagI (readyB A x t), 0) from by unfold doA; rw [if_pos k0])
    rw [HP.out]
    clear k0 HP
    go_enter Try.func8, Try.ntmps8
    go_wp2_with (first
      | ((with_reducible refine gate_dst (N := 3) rfl ?_); refine box_event ?hg (N := 3) ?hd (cs := #[.int .i64 k, .int .i64 x, .int .i64 t]) (t := 28) ?hr ?_; (case hd => rfl); (case hg => rfl); (case hr => first | (go_simp; done) | (go_simp; rfl)); intro gb hg w2 hbox hb; have HB := Aside0.mk hb; have x0 : w2.cell? ⟨gb, 0, none⟩ = some (.int .i64 k) := (blk_cell hbox 0).trans rfl; have x1 : w2.cell? ⟨gb, 1, none⟩ = some (.int .i64 x) := (blk_cell hbox 1).trans rfl; have x2 : w2.cell? ⟨gb, 2, none⟩ = some (.int .i64 t) := (blk_cell hbox 2).trans rfl; clear hbox hb hg)
      | (go_at_call 22; (refine (ready_any (HA.out _ HB.out) HK.out x t).mono ?_); rintro e w3 ⟨rfl, ha, hc⟩; have HX := Aside0.mk (HM.out _ _ _ _ _ HB.out ha hc); clear ha hc)
      | (go_at_call 27; (refine (flag_any _ _).mono ?_); rintro e w4 ⟨rfl, rfl⟩))
    go_ret2
    exact ⟨rfl, HX.out.1, HX.out.2⟩
  · have d0 : (k == 0) = false := beq_eq_false_iff_ne.2 k0
    by_cases k1 : k = 1
    · have d1 : (k == 1) = true := beq_iff_eq.2 k1
      have HP := Aside0.mk (show doA A k x t = fetchA A x t from by unfold doA; rw [if_neg k0, if_pos k1])
      rw [HP.out]
      clear k0 k1 HP
      go_enter Try.func8, Try.ntmps8
      go_wp2_with (first
        | ((with_reducible refine gate_dst (N := 3) rfl ?_); refine box_event ?hg (N := 3) ?hd (cs := #[.int .i64 k, .int .i64 x, .int .i64 t]) (t := 28) ?hr ?_; (case hd => rfl); (case hg => rfl); (case hr => first | (go_simp; done) | (go_simp; rfl)); intro gb hg w2 hbox hb; have HB := Aside0.mk hb; have x0 : w2.cell? ⟨gb, 0, none⟩ = some (.int .i64 k) := (blk_cell hbox 0).trans rfl; have x1 : w2.cell? ⟨gb, 1, none⟩ = some (.int .i64 x) := (blk_cell hbox 1).trans rfl; have x2 : w2.cell? ⟨gb, 2, none⟩ = some (.int .i64 t) := (blk_cell hbox 2).trans rfl; clear hbox hb hg)
        | (go_at_call 13; (refine (fetch_any (HA.out _ HB.out) HK.out x HWT.out).mono ?_); rintro e w3 ⟨rfl, ha, hc⟩; have HX := Aside0.mk (HM.out _ _ _ _ _ HB.out ha hc); clear ha hc))
      go_ret2
      exact ⟨rfl, HX.out.1, HX.out.2⟩
    · have d1 : (k == 1) = false := beq_eq_false_iff_ne.2 k1
      by_cases k2 : k = 2
      · have d2 : (k == 2) = true := beq_iff_eq.2 k2
        have HP := Aside0.mk (show doA A k x t = (putA A x, flagI (decide (0 ≤ on A x)), 0) from by unfold doA; rw [if_neg k0, if_neg k1, if_pos k2])
        rw [HP.out]
        clear k0 k1 k2 HP
        go_enter Try.func8, Try.ntmps8
        go_wp2_with (first
          | ((with_reducible refine gate_dst (N := 3) rfl ?_); refine box_event ?hg (N := 3) ?hd (cs := #[.int .i64 k, .int .i64 x, .int .i64 t]) (t := 28) ?hr ?_; (case hd => rfl); (case hg => rfl); (case hr => first | (go_simp; done) | (go_simp; rfl)); intro gb hg w2 hbox hb; have HB := Aside0.mk hb; have x0 : w2.cell? ⟨gb, 0, none⟩ = some (.int .i64 k) := (blk_cell hbox 0).trans rfl; have x1 : w2.cell? ⟨gb, 1, none⟩ = some (.int .i64 x) := (blk_cell hbox 1).trans rfl; have x2 : w2.cell? ⟨gb, 2, none⟩ = some (.int .i64 t) := (blk_cell hbox 2).trans rfl; clear hbox hb hg)
          | (go_at_call 23; (refine (put_any (HA.out _ HB.out) HK.out x).mono ?_); rintro e w3 ⟨rfl, ha, hc⟩; have HX := Aside0.mk (HM.out _ _ _ _ _ HB.out ha hc); clear ha hc)
          | (go_at_call 27; (refine (flag_any _ _).mono ?_); rintro e w4 ⟨rfl, rfl⟩))
        go_ret2
        exact ⟨rfl, HX.out.1, HX.out.2⟩
      · have d2 : (k == 2) = false := beq_eq_false_iff_ne.2 k2
        by_cases k3 : k = 3
        · have d3 : (k == 3) = true := beq_iff_eq.2 k3
          have HP := Aside0.mk (show doA A k x t = (leaveA A x, flagI (decide (0 ≤ on A x)), 0) from by unfold doA; rw [if_neg k0, if_neg k1, if_neg k2, if_pos k3])
          rw [HP.out]
          clear k0 k1 k2 k3 HP
          go_enter Try.func8, Try.ntmps8
          go_wp2_with (first
            | ((with_reducible refine gate_dst (N := 3) rfl ?_); refine box_event ?hg (N := 3) ?hd (cs := #[.int .i64 k, .int .i64 x, .int .i64 t]) (t := 28) ?hr ?_; (case hd => rfl); (case hg => rfl); (case hr => first | (go_simp; done) | (go_simp; rfl)); intro gb hg w2 hbox hb; have HB := Aside0.mk hb; have x0 : w2.cell? ⟨gb, 0, none⟩ = some (.int .i64 k) := (blk_cell hbox 0).trans rfl; have x1 : w2.cell? ⟨gb, 1, none⟩ = some (.int .i64 x) := (blk_cell hbox 1).trans rfl; have x2 : w2.cell? ⟨gb, 2, none⟩ = some (.int .i64 t) := (blk_cell hbox 2).trans rfl; clear hbox hb hg)
            | (go_at_call 12; (refine (leave_any (HA.out _ HB.out) HK.out x).mono ?_); rintro e w3 ⟨rfl, ha, hc⟩; have HX := Aside0.mk (HM.out _ _ _ _ _ HB.out ha hc); clear ha hc)
            | (go_at_call 27; (refine (flag_any _ _).mono ?_); rintro e w4 ⟨rfl, rfl⟩))
          go_ret2
          exact ⟨rfl, HX.out.1, HX.out.2⟩
        · have d3 : (k == 3) = false := beq_eq_false_iff_ne.2 k3
          by_cases k4 : k = 4
          · have d4 : (k == 4) = true := beq_iff_eq.2 k4
            have HP := Aside0.mk (show doA A k x t = (dropA A t, flagI (!decide (wher A t = 0)), 0) from by unfold doA; rw [if_neg k0, if_neg k1, if_neg k2, if_neg k3, if_pos k4])
            rw [HP.out]
            clear k0 k1 k2 k3 k4 HP
            go_enter Try.func8, Try.ntmps8
            go_wp2_with (first
              | ((with_reducible refine gate_dst (N := 3) rfl ?_); refine box_event ?hg (N := 3) ?hd (cs := #[.int .i64 k, .int .i64 x, .int .i64 t]) (t := 28) ?hr ?_; (case hd => rfl); (case hg => rfl); (case hr => first | (go_simp; done) | (go_simp; rfl)); intro gb hg w2 hbox hb; have HB := Aside0.mk hb; have x0 : w2.cell? ⟨gb, 0, none⟩ = some (.int .i64 k) := (blk_cell hbox 0).trans rfl; have x1 : w2.cell? ⟨gb, 1, none⟩ = some (.int .i64 x) := (blk_cell hbox 1).trans rfl; have x2 : w2.cell? ⟨gb, 2, none⟩ = some (.int .i64 t) := (blk_cell hbox 2).trans rfl; clear hbox hb hg)
              | (go_at_call 24; (refine (drop_any (HA.out _ HB.out) HK.out t HWT.out).mono ?_); rintro e w3 ⟨rfl, ha, hc⟩; have HX := Aside0.mk (HM2.out _ _ _ HB.out ha hc); clear ha hc)
              | (go_at_call 27; (refine (flag_any _ _).mono ?_); rintro e w4 ⟨rfl, rfl⟩))
            go_ret2
            exact ⟨rfl, HX.out.1, HX.out.2⟩
          · have d4 : (k == 4) = false := beq_eq_false_iff_ne.2 k4
            have HP := Aside0.mk (show doA A k x t = (workA A x, workN A x, 0) from by unfold doA; rw [if_neg k0, if_neg k1, if_neg k2, if_neg k3, if_neg k4])
            rw [HP.out]
            clear k0 k1 k2 k3 k4 HP
            go_enter Try.func8, Try.ntmps8
            go_wp2_with (first
              | ((with_reducible refine gate_dst (N := 3) rfl ?_); refine box_event ?hg (N := 3) ?hd (cs := #[.int .i64 k, .int .i64 x, .int .i64 t]) (t := 28) ?hr ?_; (case hd => rfl); (case hg => rfl); (case hr => first | (go_simp; done) | (go_simp; rfl)); intro gb hg w2 hbox hb; have HB := Aside0.mk hb; have x0 : w2.cell? ⟨gb, 0, none⟩ = some (.int .i64 k) := (blk_cell hbox 0).trans rfl; have x1 : w2.cell? ⟨gb, 1, none⟩ = some (.int .i64 x) := (blk_cell hbox 1).trans rfl; have x2 : w2.cell? ⟨gb, 2, none⟩ = some (.int .i64 t) := (blk_cell hbox 2).trans rfl; clear hbox hb hg)
              | (go_at_call 25; (refine (work_any (HA.out _ HB.out) HK.out x HW.out).mono ?_); rintro e w3 ⟨rfl, ha, hc⟩; have HX := Aside0.mk (HM.out _ _ _ _ _ HB.out ha hc); clear ha hc))
            go_ret2
            exact ⟨rfl, HX.out.1, HX.out.2⟩
end Go.Proofs.Ytjcjhmnfknenlaa.Pl
