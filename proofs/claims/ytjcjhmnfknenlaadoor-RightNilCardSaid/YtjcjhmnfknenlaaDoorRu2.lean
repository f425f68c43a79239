/- Rights as the page has them: Do. Conditions: none. -/
import Derived.Test.YtjcjhmnfknenlaaDoorRu1
namespace Go.Proofs.YtjcjhmnfknenlaaDoor.Rt
open Go.RowKit Go.Proofs.YtjcjhmnfknenlaaDoor.PRightNil Go.Proofs.YtjcjhmnfknenlaaDoorW.PrintWords Go.Proofs.YtjcjhmnfknenlaaDoorW.PrintLast
open Ch (Chg)
set_option linter.unusedVariables false
set_option linter.unusedSimpArgs false

namespace Rf
theorem ex_load {oi : Oper} {a : Act} {w : World} {g : Nat} {B : List Nat} {x : Operand} (ho : oi.op = .load 28 x) (hx : a.eval x = .pointer (some ⟨g, 0, none⟩)) (hB : B.length = 64) (hg : w.heap[g]? = some (.cells (enc B) 28 (0, 0))) :
    (execOp a.eval oi).run Tryd.prog w = .ok (.value (.agg (enc B))) w := by
  unfold execOp
  simp only [ho, hx, Instr.loadAt, Instr.sureAddr, Sem.run_bind, Sem.run_pure, Result.andThen_ok, run_loadVar_row w g 28 28 (enc B) (0, 0) _ hg Tryd.underlying28 rfl (sz hB)]
theorem ex_store {oi : Oper} {a : Act} {w : World} {g : Nat} {B : List Nat} {x y : Operand} (ho : oi.op = .store 28 x y) (hx : a.eval x = .pointer (some ⟨g, 0, none⟩)) (hy : a.eval y = .agg (enc B)) (hB : B.length = 64) {B0 : List Nat} (hB0 : B0.length = 64) (hg : w.heap[g]? = some (.cells (enc B0) 28 (0, 0))) :
    (execOp a.eval oi).run Tryd.prog w = .ok .skip (w.setRow g (enc B)) := by
  unfold execOp
  simp only [ho, hx, hy, Instr.storeAt, Instr.sureAddr, Sem.run_bind, Sem.run_pure, Result.andThen_ok, run_storeVar_row w g 28 28 (enc B0) (enc B) hg (sz hB) (by rw [enc_size, enc_size, hB, hB0]) (enc_one B)]
/-- The boxes of a call: the rights, the call, the result. -/
structure J (W w : World) (B : List Nat) (k f t : Int) (s : Nat) (g1 g2 g3 : Nat) : Prop where
  hb : Below W.heap.size W w
  h1 : w.heap[g1]? = some (.cells (enc B) 28 (0, 0))
  h2 : w.heap[g2]? = some (.cells #[.int .i64 k, .int .i64 f, .int .i64 t, .int .u64 (s : Int)] 31 (0, 0))
  h3 : w.heap[g3]? = some (.cells (enc Z0) 28 (0, 0))
  n1 : g1 ≠ g3
  n2 : g2 ≠ g3
  ge : W.heap.size ≤ g3
theorem J.below {W w w' : World} {B : List Nat} {k f t : Int} {s g1 g2 g3 : Nat} (h : J W w B k f t s g1 g2 g3) (hb : Below w.heap.size w w') : J W w' B k f t s g1 g2 g3 :=
  ⟨below_step h.hb hb, blk_below h.h1 hb, blk_below h.h2 hb, blk_below h.h3 hb, h.n1, h.n2, h.ge⟩
theorem J.drewN {W w : World} {B : List Nat} {k f t : Int} {s g1 g2 g3 : Nat} (h : J W w B k f t s g1 g2 g3) (n : Nat) : J W (w.drewN n) B k f t s g1 g2 g3 := h.below (pw_below_drewN (Below.refl _ _) n)
end Rf
set_option maxHeartbeats 4000000 in
set_option maxRecDepth 100000 in
theorem ref_do {W : World} {B : List Nat} (hB : Rf.Ok B) (k f t : Int) {s : Nat} (hs : s < Bt.top) :
    Calls Tryd.prog 9 #[.agg (Rf.enc B), .agg #[.int .i64 k, .int .i64 f, .int .i64 t, .int .u64 (s : Int)]] W fun e w' => e = .returned (.agg (Rf.enc (Rf.do_ B k f t s))) ∧ Below W.heap.size W w' := by
  have hu28 := Tryd.underlying28
  have hu31 := Tryd.underlying31
  have HOK := Aside0.mk hB
  have HALL := Aside0.mk (fun (w : World) => (show Calls Tryd.prog 22 #[.agg (Rf.enc B), .int .i64 t, .int .u64 4294967295] w fun e w' => e = .returned (.agg (Rf.enc (Rf.set B t 4294967295))) ∧ Below w.heap.size w w' from ref_set hB t 4294967295))
  have HNONE := Aside0.mk (fun (w : World) => (show Calls Tryd.prog 22 #[.agg (Rf.enc B), .int .i64 t, .int .u64 0] w fun e w' => e = .returned (.agg (Rf.enc (Rf.set B t 0))) ∧ Below w.heap.size w w' from ref_set hB t 0))
  have ea : Go.bits .and .u64 ((Rf.of B f : Nat) : Int) (s : Int) = ((Rf.of B f &&& s : Nat) : Int) := Bt.and_nat (Rf.of_lt hB f) hs
  have eo : Go.bits .or .u64 ((Rf.of B t : Nat) : Int) ((Rf.of B f &&& s : Nat) : Int) = ((Rf.of B t ||| (Rf.of B f &&& s) : Nat) : Int) := Bt.or_nat (Rf.of_lt hB t) (Bt.lt_and hs)
  have en : Go.bits .andNot .u64 ((Rf.of B t : Nat) : Int) (s : Int) = ((Bt.sub (Rf.of B t) s : Nat) : Int) := Bt.andNot_nat (Rf.of_lt hB t) hs
  have HL0 := Aside0.mk (fun (x : Nat) (hx : x < Bt.top) => (hB.set t hx).1)
  have HLS := Aside0.mk (show s < Bt.top from hs)
  have HLO := Aside0.mk (show Rf.of B t < Bt.top from Rf.of_lt hB t)
  clear hB hs
  by_cases k0 : k = 0
  · have HP := Aside0.mk (show Rf.do_ B k f t s = Rf.set B t 4294967295 from by unfold Rf.do_; rw [if_pos k0])
    have HLN := Aside0.mk (show (Rf.set B t 4294967295).length = 64 from HL0.out _ (by decide))
    have d0 : (k == 0) = true := beq_iff_eq.2 k0
    clear k0 ea eo en
    go_enter Tryd.func9, Tryd.ntmps9
    go_upto_region 1 with (first
      | ((with_reducible refine gate_dst (N := 2) rfl ?_); refine box_event ?hg (N := 2) ?hd (cs := Rf.enc B) (t := 28) ?hr ?_; (case hd => rfl); (case hg => rfl); (case hr => first | (go_simp; done) | (go_simp; rfl)); intro g1 hg w1 hbox hb; have HB1 := Aside0.mk hb; have HG1 := Aside0.mk hg; have BX1 := Aside0.mk hbox; clear hbox hb hg)
      | ((with_reducible refine gate_dst (N := 3) rfl ?_); refine box_event ?hg (N := 3) ?hd (cs := #[.int .i64 k, .int .i64 f, .int .i64 t, .int .u64 (s : Int)]) (t := 31) ?hr ?_; (case hd => rfl); (case hg => rfl); (case hr => first | (go_simp; done) | (go_simp; rfl)); intro g2 hg w2 hbox hb; have HB2 := Aside0.mk hb; have HG2 := Aside0.mk hg; have BX2 := Aside0.mk hbox; clear hbox hb hg)
      | ((with_reducible refine gate_dst (N := 4) rfl ?_); refine box_event ?hg (N := 4) ?hd (cs := Rf.enc Rf.Z0) (t := 28) ?hr ?_; (case hd => rfl); (case hg => rfl); (case hr => first | (go_simp; done) | (go_simp; rfl)); intro g3 hg w3 hbox hb; have HB3 := Aside0.mk hb; have HG3 := Aside0.mk hg; have BX3 := Aside0.mk hbox; clear hbox hb hg))
    have HJ3 := Aside0.mk (show Rf.J W w3 B k f t s g1 g2 g3 from ⟨below_step (below_step HB1.out HB2.out) HB3.out, blk_below (blk_below BX1.out HB2.out) HB3.out, blk_below BX2.out HB3.out, BX3.out, by have h1 := HG1.out; have h2 := HG3.out; have h3 := blk_lt BX1.out; have h4 := HB2.out.size; omega, by have h2 := HG3.out; have h3 := blk_lt BX2.out; omega, by have h1 := HB1.out.size; have h4 := HB2.out.size; have h2 := HG3.out; omega⟩)
    clear HB1 HB2 HB3 HG1 HG2 HG3 BX1 BX2 BX3
    have y0 : w3.cell? ⟨g2, 0, none⟩ = some (.int .i64 k) := (blk_cell HJ3.out.h2 0).trans rfl; have y1 : w3.cell? ⟨g2, 1, none⟩ = some (.int .i64 f) := (blk_cell HJ3.out.h2 1).trans rfl; have y2 : w3.cell? ⟨g2, 2, none⟩ = some (.int .i64 t) := (blk_cell HJ3.out.h2 2).trans rfl; have y3 : w3.cell? ⟨g2, 3, none⟩ = some (.int .u64 (s : Int)) := (blk_cell HJ3.out.h2 3).trans rfl;
    go_upto_region 2 with (first
      | (refine wpList_load_row rfl 28 (.tmp 2) rfl g1 rfl 28 (Rf.enc B) (0, 0) _ HJ3.out.h1 Tryd.underlying28 rfl (Rf.sz HOK.out.1) ?_)
      | (go_at_call 16; (refine (ref_of HOK.out t).mono ?_); rintro e w4 ⟨rfl, hb⟩; have HJ := Aside0.mk (HJ3.out.below hb); clear hb))
    clear y0 y1 y2 y3
    have y0 : w4.cell? ⟨g2, 0, none⟩ = some (.int .i64 k) := (blk_cell HJ.out.h2 0).trans rfl; have y1 : w4.cell? ⟨g2, 1, none⟩ = some (.int .i64 f) := (blk_cell HJ.out.h2 1).trans rfl; have y2 : w4.cell? ⟨g2, 2, none⟩ = some (.int .i64 t) := (blk_cell HJ.out.h2 2).trans rfl; have y3 : w4.cell? ⟨g2, 3, none⟩ = some (.int .u64 (s : Int)) := (blk_cell HJ.out.h2 3).trans rfl;
    go_upto_region 4 with (fail)
    refine start_ (n := 6) (S := fun w' => w'.heap[g1]? = some (.cells (Rf.enc B) 28 (0, 0)) ∧ w'.cell? ⟨g2, 2, none⟩ = some (.int .i64 t)) (ds := [5]) #[false, false, false, false, false, false] (by kernel_rfl) rfl rfl ⟨(HJ.out.drewN 1).h1, ((blk_cell (HJ.out.drewN 1).h2 2).trans rfl)⟩ (fun hHeld => ?_)
    refine pure_ (i := 1) (N := some 15) (v := ?_) (a' := ?_) #[false, true, false, false, false, false] rfl rfl (by kernel_rfl) (fun _ _ _ h => h) (Or.inl ⟨by rfl, ?_⟩) ?_ ?_
    rotate_left
    · intro w'
      go_simp
      with_reducible rfl
    rotate_left
    · simp only [Act.put, List.setIfInBounds_toArray, List.set_cons_zero, List.set_cons_succ, i64_w, i32_w]
      rfl
    refine take_ (i := 0) (N := some 14) (v := ?_) (a' := ?_) #[true, true, false, false, false, false] rfl rfl (by kernel_rfl) (fun _ _ _ h => h) (Or.inl ⟨by rfl, ?_⟩) hHeld ?_ ?_
    rotate_left
    · rintro w' ⟨s0, s1⟩
      (refine Rf.ex_load (x := .tmp 2) ?_ ?_ HOK.out.1 s0 <;> rfl)
    rotate_left
    · simp only [Act.put, List.setIfInBounds_toArray, List.set_cons_zero, List.set_cons_succ, i64_w, i32_w]
      rfl
    refine take_ (i := 2) (N := some 16) (v := ?_) (a' := ?_) #[true, true, true, false, false, false] rfl rfl (by kernel_rfl) (fun _ _ _ h => h) (Or.inl ⟨by rfl, ?_⟩) hHeld ?_ ?_
    rotate_left
    · rintro w' ⟨s0, s1⟩
      go_simp
      with_reducible rfl
    rotate_left
    · simp only [Act.put, List.setIfInBounds_toArray, List.set_cons_zero, List.set_cons_succ, i64_w, i32_w]
      rfl
    refine one_ (i := 3) (N := some 17) #[true, true, true, true, false, false] rfl rfl (by kernel_rfl) (by decide) (fun K hK => ?_)
    refine goes_ Tryd.func23 (by kernel_rfl) rfl #[] (by rfl) rfl rfl (by simp only [List.map_toArray, List.map_nil]) ?_
    with_reducible refine (logjamref21_all.calls _ _ rfl).mono ?_
    rintro e w5 ⟨rfl, ⟨nd5, rfl⟩⟩
    refine ⟨_, rfl, ?_⟩
    have HJ5 := Aside0.mk ((HJ.out.drewN 1).drewN nd5)
    refine hK.out _ _ ⟨HJ5.out.h1, ((blk_cell HJ5.out.h2 2).trans rfl)⟩ (fun hHeld => ?_)
    clear hK K
    refine norm_ (a' := ?_) ?_ ?_
    rotate_left
    · show Act.put _ (some 17) _ = _
      simp only [Act.put, List.setIfInBounds_toArray, List.set_cons_zero, List.set_cons_succ, i64_w, i32_w]
      rfl
    refine one_ (i := 4) (N := some 18) #[true, true, true, true, true, false] rfl rfl (by kernel_rfl) (by decide) (fun K hK => ?_)
    refine goes_ Tryd.func22 (by kernel_rfl) rfl #[.agg (Rf.enc B), .int .i64 t, .int .u64 4294967295] (by rfl) rfl rfl (by simp only [List.map_toArray, List.map_cons, List.map_nil]; rfl) ?_
    with_reducible refine (HALL.out _).mono ?_
    rintro e w6 ⟨rfl, hb6⟩
    refine ⟨_, rfl, ?_⟩
    have HJ6 := Aside0.mk (HJ5.out.below hb6)
    clear hb6
    refine hK.out _ _ ⟨HJ6.out.h1, ((blk_cell HJ6.out.h2 2).trans rfl)⟩ (fun hHeld => ?_)
    clear hK K
    refine norm_ (a' := ?_) ?_ ?_
    rotate_left
    · show Act.put _ (some 18) _ = _
      simp only [Act.put, List.setIfInBounds_toArray, List.set_cons_zero, List.set_cons_succ, i64_w, i32_w]
      rfl
    refine last_ (i := 5) (N := none) #[true, true, true, true, true, true] rfl rfl (by kernel_rfl) (by decide) (fun K hK => ?_)
    refine skip_ (w1 := w6.setRow g3 (Rf.enc (Rf.set B t 4294967295))) (by rfl) rfl (Rf.ex_store (rfl : _ = Op.store 28 (Operand.tmp 4) (Operand.tmp 18)) rfl rfl HLN.out (B0 := Rf.Z0) rfl HJ6.out.h3) ?_
    refine hK.out _ _ ?_
    clear hK K
    refine done_ (by kernel_rfl) ?_
    go_wp2
    refine bodyPost_ret (results_cell_row rfl _ _ g3 28 (Rf.enc (Rf.set B t 4294967295)) (0, 0) _ rfl (setRow_heap _ _ _ _ _ _ HJ6.out.h3) Tryd.underlying28 rfl (Rf.sz HLN.out)) rfl ⟨by rw [HP.out], Rf.below_row HJ6.out.hb HJ6.out.ge _⟩
  · have d0 : (k == 0) = false := beq_eq_false_iff_ne.2 k0
    by_cases k1 : k = 1
    · have HP := Aside0.mk (show Rf.do_ B k f t s = Rf.set B t (Rf.of B f &&& s) from by unfold Rf.do_; rw [if_neg k0, if_pos k1])
      have HLN := Aside0.mk (show (Rf.set B t (Rf.of B f &&& s)).length = 64 from HL0.out _ (Bt.lt_and HLS.out))
      have d1 : (k == 1) = true := beq_iff_eq.2 k1
      clear k0 k1 eo en
      go_enter Tryd.func9, Tryd.ntmps9
      go_upto_region 1 with (first
        | ((with_reducible refine gate_dst (N := 2) rfl ?_); refine box_event ?hg (N := 2) ?hd (cs := Rf.enc B) (t := 28) ?hr ?_; (case hd => rfl); (case hg => rfl); (case hr => first | (go_simp; done) | (go_simp; rfl)); intro g1 hg w1 hbox hb; have HB1 := Aside0.mk hb; have HG1 := Aside0.mk hg; have BX1 := Aside0.mk hbox; clear hbox hb hg)
        | ((with_reducible refine gate_dst (N := 3) rfl ?_); refine box_event ?hg (N := 3) ?hd (cs := #[.int .i64 k, .int .i64 f, .int .i64 t, .int .u64 (s : Int)]) (t := 31) ?hr ?_; (case hd => rfl); (case hg => rfl); (case hr => first | (go_simp; done) | (go_simp; rfl)); intro g2 hg w2 hbox hb; have HB2 := Aside0.mk hb; have HG2 := Aside0.mk hg; have BX2 := Aside0.mk hbox; clear hbox hb hg)
        | ((with_reducible refine gate_dst (N := 4) rfl ?_); refine box_event ?hg (N := 4) ?hd (cs := Rf.enc Rf.Z0) (t := 28) ?hr ?_; (case hd => rfl); (case hg => rfl); (case hr => first | (go_simp; done) | (go_simp; rfl)); intro g3 hg w3 hbox hb; have HB3 := Aside0.mk hb; have HG3 := Aside0.mk hg; have BX3 := Aside0.mk hbox; clear hbox hb hg))
      have HJ3 := Aside0.mk (show Rf.J W w3 B k f t s g1 g2 g3 from ⟨below_step (below_step HB1.out HB2.out) HB3.out, blk_below (blk_below BX1.out HB2.out) HB3.out, blk_below BX2.out HB3.out, BX3.out, by have h1 := HG1.out; have h2 := HG3.out; have h3 := blk_lt BX1.out; have h4 := HB2.out.size; omega, by have h2 := HG3.out; have h3 := blk_lt BX2.out; omega, by have h1 := HB1.out.size; have h4 := HB2.out.size; have h2 := HG3.out; omega⟩)
      clear HB1 HB2 HB3 HG1 HG2 HG3 BX1 BX2 BX3
      have y0 : w3.cell? ⟨g2, 0, none⟩ = some (.int .i64 k) := (blk_cell HJ3.out.h2 0).trans rfl; have y1 : w3.cell? ⟨g2, 1, none⟩ = some (.int .i64 f) := (blk_cell HJ3.out.h2 1).trans rfl; have y2 : w3.cell? ⟨g2, 2, none⟩ = some (.int .i64 t) := (blk_cell HJ3.out.h2 2).trans rfl; have y3 : w3.cell? ⟨g2, 3, none⟩ = some (.int .u64 (s : Int)) := (blk_cell HJ3.out.h2 3).trans rfl;
      go_upto_region 2 with (first
        | (refine wpList_load_row rfl 28 (.tmp 2) rfl g1 rfl 28 (Rf.enc B) (0, 0) _ HJ3.out.h1 Tryd.underlying28 rfl (Rf.sz HOK.out.1) ?_)
        | (go_at_call 16; (refine (ref_of HOK.out t).mono ?_); rintro e w4 ⟨rfl, hb⟩; have HJ := Aside0.mk (HJ3.out.below hb); clear hb))
      clear y0 y1 y2 y3
      have y0 : w4.cell? ⟨g2, 0, none⟩ = some (.int .i64 k) := (blk_cell HJ.out.h2 0).trans rfl; have y1 : w4.cell? ⟨g2, 1, none⟩ = some (.int .i64 f) := (blk_cell HJ.out.h2 1).trans rfl; have y2 : w4.cell? ⟨g2, 2, none⟩ = some (.int .i64 t) := (blk_cell HJ.out.h2 2).trans rfl; have y3 : w4.cell? ⟨g2, 3, none⟩ = some (.int .u64 (s : Int)) := (blk_cell HJ.out.h2 3).trans rfl;
      go_upto_region 6 with (fail)
      refine start_ (n := 12) (S := fun w' => w'.heap[g1]? = some (.cells (Rf.enc B) 28 (0, 0)) ∧ w'.cell? ⟨g2, 1, none⟩ = some (.int .i64 f) ∧ w'.cell? ⟨g2, 2, none⟩ = some (.int .i64 t) ∧ w'.cell? ⟨g2, 3, none⟩ = some (.int .u64 (s : Int))) (ds := [11]) #[false, false, false, false, false, false, false, false, false, false, false, false] (by kernel_rfl) rfl rfl ⟨(HJ.out.drewN 1).h1, ((blk_cell (HJ.out.drewN 1).h2 1).trans rfl), ((blk_cell (HJ.out.drewN 1).h2 2).trans rfl), ((blk_cell (HJ.out.drewN 1).h2 3).trans rfl)⟩ (fun hHeld => ?_)
      refine pure_ (i := 1) (N := some 22) (v := ?_) (a' := ?_) #[false, true, false, false, false, false, false, false, false, false, false, false] rfl rfl (by kernel_rfl) (fun _ _ _ h => h) (Or.inl ⟨by rfl, ?_⟩) ?_ ?_
      rotate_left
      · intro w'
        go_simp
        with_reducible rfl
      rotate_left
      · simp only [Act.put, List.setIfInBounds_toArray, List.set_cons_zero, List.set_cons_succ, i64_w, i32_w]
        rfl
      refine pure_ (i := 4) (N := some 25) (v := ?_) (a' := ?_) #[false, true, false, false, true, false, false, false, false, false, false, false] rfl rfl (by kernel_rfl) (fun _ _ _ h => h) (Or.inl ⟨by rfl, ?_⟩) ?_ ?_
      rotate_left
      · intro w'
        go_simp
        with_reducible rfl
      rotate_left
      · simp only [Act.put, List.setIfInBounds_toArray, List.set_cons_zero, List.set_cons_succ, i64_w, i32_w]
        rfl
      refine pure_ (i := 7) (N := some 28) (v := ?_) (a' := ?_) #[false, true, false, false, true, false, false, true, false, false, false, false] rfl rfl (by kernel_rfl) (fun _ _ _ h => h) (Or.inl ⟨by rfl, ?_⟩) ?_ ?_
      rotate_left
      · intro w'
        go_simp
        with_reducible rfl
      rotate_left
      · simp only [Act.put, List.setIfInBounds_toArray, List.set_cons_zero, List.set_cons_succ, i64_w, i32_w]
        rfl
      refine take_ (i := 0) (N := some 21) (v := ?_) (a' := ?_) #[true, true, false, false, true, false, false, true, false, false, false, false] rfl rfl (by kernel_rfl) (fun _ _ _ h => h) (Or.inl ⟨by rfl, ?_⟩) hHeld ?_ ?_
      rotate_left
      · rintro w' ⟨s0, s1, s2, s3⟩
        (refine Rf.ex_load (x := .tmp 2) ?_ ?_ HOK.out.1 s0 <;> rfl)
      rotate_left
      · simp only [Act.put, List.setIfInBounds_toArray, List.set_cons_zero, List.set_cons_succ, i64_w, i32_w]
        rfl
      refine take_ (i := 2) (N := some 23) (v := ?_) (a' := ?_) #[true, true, true, false, true, false, false, true, false, false, false, false] rfl rfl (by kernel_rfl) (fun _ _ _ h => h) (Or.inl ⟨by rfl, ?_⟩) hHeld ?_ ?_
      rotate_left
      · rintro w' ⟨s0, s1, s2, s3⟩
        go_simp
        with_reducible rfl
      rotate_left
      · simp only [Act.put, List.setIfInBounds_toArray, List.set_cons_zero, List.set_cons_succ, i64_w, i32_w]
        rfl
      refine take_ (i := 3) (N := some 24) (v := ?_) (a' := ?_) #[true, true, true, true, true, false, false, true, false, false, false, false] rfl rfl (by kernel_rfl) (fun _ _ _ h => h) (Or.inl ⟨by rfl, ?_⟩) hHeld ?_ ?_
      rotate_left
      · rintro w' ⟨s0, s1, s2, s3⟩
        (refine Rf.ex_load (x := .tmp 2) ?_ ?_ HOK.out.1 s0 <;> rfl)
      rotate_left
      · simp only [Act.put, List.setIfInBounds_toArray, List.set_cons_zero, List.set_cons_succ, i64_w, i32_w]
        rfl
      refine take_ (i := 5) (N := some 26) (v := ?_) (a' := ?_) #[true, true, true, true, true, true, false, true, false, false, false, false] rfl rfl (by kernel_rfl) (fun _ _ _ h => h) (Or.inl ⟨by rfl, ?_⟩) hHeld ?_ ?_
      rotate_left
      · rintro w' ⟨s0, s1, s2, s3⟩
        go_simp
        with_reducible rfl
      rotate_left
      · simp only [Act.put, List.setIfInBounds_toArray, List.set_cons_zero, List.set_cons_succ, i64_w, i32_w]
        rfl
      refine take_ (i := 8) (N := some 29) (v := ?_) (a' := ?_) #[true, true, true, true, true, true, false, true, true, false, false, false] rfl rfl (by kernel_rfl) (fun _ _ _ h => h) (Or.inl ⟨by rfl, ?_⟩) hHeld ?_ ?_
      rotate_left
      · rintro w' ⟨s0, s1, s2, s3⟩
        go_simp
        with_reducible rfl
      rotate_left
      · simp only [Act.put, List.setIfInBounds_toArray, List.set_cons_zero, List.set_cons_succ, i64_w, i32_w]
        rfl
      refine one_ (i := 6) (N := some 27) #[true, true, true, true, true, true, true, true, true, false, false, false] rfl rfl (by kernel_rfl) (by decide) (fun K hK => ?_)
      refine goes_ Tryd.func16 (by kernel_rfl) rfl #[.agg (Rf.enc B), .int .i64 f] (by rfl) rfl rfl (by simp only [List.map_toArray, List.map_cons, List.map_nil]; rfl) ?_
      with_reducible refine (ref_of HOK.out f).mono ?_
      rintro e w5 ⟨rfl, hb5⟩
      refine ⟨_, rfl, ?_⟩
      have HJ5 := Aside0.mk ((HJ.out.drewN 1).below hb5)
      clear hb5
      refine hK.out _ _ ⟨HJ5.out.h1, ((blk_cell HJ5.out.h2 1).trans rfl), ((blk_cell HJ5.out.h2 2).trans rfl), ((blk_cell HJ5.out.h2 3).trans rfl)⟩ (fun hHeld => ?_)
      clear hK K
      refine norm_ (a' := ?_) ?_ ?_
      rotate_left
      · show Act.put _ (some 27) _ = _
        simp only [Act.put, List.setIfInBounds_toArray, List.set_cons_zero, List.set_cons_succ, i64_w, i32_w]
        rfl
      refine pure_ (i := 9) (N := some 30) (v := ?_) (a' := ?_) #[true, true, true, true, true, true, true, true, true, true, false, false] rfl rfl (by kernel_rfl) (fun _ _ _ h => h) (Or.inl ⟨by rfl, ?_⟩) ?_ ?_
      rotate_left
      · intro w'
        go_simp
        with_reducible rfl
      rotate_left
      · simp only [Act.put, List.setIfInBounds_toArray, List.set_cons_zero, List.set_cons_succ, i64_w, i32_w]
        rfl
      refine one_ (i := 10) (N := some 31) #[true, true, true, true, true, true, true, true, true, true, true, false] rfl rfl (by kernel_rfl) (by decide) (fun K hK => ?_)
      refine goes_ Tryd.func22 (by kernel_rfl) rfl #[.agg (Rf.enc B), .int .i64 t, .int .u64 ((Rf.of B f &&& s : Nat) : Int)] (by rfl) rfl rfl (by simp only [List.map_toArray, List.map_cons, List.map_nil]; rfl) ?_
      with_reducible refine (ref_set HOK.out t _).mono ?_
      rintro e w6 ⟨rfl, hb6⟩
      refine ⟨_, rfl, ?_⟩
      have HJ6 := Aside0.mk (HJ5.out.below hb6)
      clear hb6
      refine hK.out _ _ ⟨HJ6.out.h1, ((blk_cell HJ6.out.h2 1).trans rfl), ((blk_cell HJ6.out.h2 2).trans rfl), ((blk_cell HJ6.out.h2 3).trans rfl)⟩ (fun hHeld => ?_)
      clear hK K
      refine norm_ (a' := ?_) ?_ ?_
      rotate_left
      · show Act.put _ (some 31) _ = _
        simp only [Act.put, List.setIfInBounds_toArray, List.set_cons_zero, List.set_cons_succ, i64_w, i32_w]
        rfl
      refine last_ (i := 11) (N := none) #[true, true, true, true, true, true, true, true, true, true, true, true] rfl rfl (by kernel_rfl) (by decide) (fun K hK => ?_)
      refine skip_ (w1 := w6.setRow g3 (Rf.enc (Rf.set B t (Rf.of B f &&& s)))) (by rfl) rfl (Rf.ex_store (rfl : _ = Op.store 28 (Operand.tmp 4) (Operand.tmp 31)) rfl rfl HLN.out (B0 := Rf.Z0) rfl HJ6.out.h3) ?_
      refine hK.out _ _ ?_
      clear hK K
      refine done_ (by kernel_rfl) ?_
      go_wp2
      refine bodyPost_ret (results_cell_row rfl _ _ g3 28 (Rf.enc (Rf.set B t (Rf.of B f &&& s))) (0, 0) _ rfl (setRow_heap _ _ _ _ _ _ HJ6.out.h3) Tryd.underlying28 rfl (Rf.sz HLN.out)) rfl ⟨by rw [HP.out], Rf.below_row HJ6.out.hb HJ6.out.ge _⟩
    · have d1 : (k == 1) = false := beq_eq_false_iff_ne.2 k1
      by_cases k2 : k = 2
      · have HP := Aside0.mk (show Rf.do_ B k f t s = Rf.set B t (Rf.of B t ||| (Rf.of B f &&& s)) from by unfold Rf.do_; rw [if_neg k0, if_neg k1, if_pos k2])
        have HLN := Aside0.mk (show (Rf.set B t (Rf.of B t ||| (Rf.of B f &&& s))).length = 64 from HL0.out _ (Bt.lt_or HLO.out (Bt.lt_and HLS.out)))
        have d2 : (k == 2) = true := beq_iff_eq.2 k2
        clear k0 k1 k2 en
        go_enter Tryd.func9, Tryd.ntmps9
        go_upto_region 1 with (first
          | ((with_reducible refine gate_dst (N := 2) rfl ?_); refine box_event ?hg (N := 2) ?hd (cs := Rf.enc B) (t := 28) ?hr ?_; (case hd => rfl); (case hg => rfl); (case hr => first | (go_simp; done) | (go_simp; rfl)); intro g1 hg w1 hbox hb; have HB1 := Aside0.mk hb; have HG1 := Aside0.mk hg; have BX1 := Aside0.mk hbox; clear hbox hb hg)
          | ((with_reducible refine gate_dst (N := 3) rfl ?_); refine box_event ?hg (N := 3) ?hd (cs := #[.int .i64 k, .int .i64 f, .int .i64 t, .int .u64 (s : Int)]) (t := 31) ?hr ?_; (case hd => rfl); (case hg => rfl); (case hr => first | (go_simp; done) | (go_simp; rfl)); intro g2 hg w2 hbox hb; have HB2 := Aside0.mk hb; have HG2 := Aside0.mk hg; have BX2 := Aside0.mk hbox; clear hbox hb hg)
          | ((with_reducible refine gate_dst (N := 4) rfl ?_); refine box_event ?hg (N := 4) ?hd (cs := Rf.enc Rf.Z0) (t := 28) ?hr ?_; (case hd => rfl); (case hg => rfl); (case hr => first | (go_simp; done) | (go_simp; rfl)); intro g3 hg w3 hbox hb; have HB3 := Aside0.mk hb; have HG3 := Aside0.mk hg; have BX3 := Aside0.mk hbox; clear hbox hb hg))
        have HJ3 := Aside0.mk (show Rf.J W w3 B k f t s g1 g2 g3 from ⟨below_step (below_step HB1.out HB2.out) HB3.out, blk_below (blk_below BX1.out HB2.out) HB3.out, blk_below BX2.out HB3.out, BX3.out, by have h1 := HG1.out; have h2 := HG3.out; have h3 := blk_lt BX1.out; have h4 := HB2.out.size; omega, by have h2 := HG3.out; have h3 := blk_lt BX2.out; omega, by have h1 := HB1.out.size; have h4 := HB2.out.size; have h2 := HG3.out; omega⟩)
        clear HB1 HB2 HB3 HG1 HG2 HG3 BX1 BX2 BX3
        have y0 : w3.cell? ⟨g2, 0, none⟩ = some (.int .i64 k) := (blk_cell HJ3.out.h2 0).trans rfl; have y1 : w3.cell? ⟨g2, 1, none⟩ = some (.int .i64 f) := (blk_cell HJ3.out.h2 1).trans rfl; have y2 : w3.cell? ⟨g2, 2, none⟩ = some (.int .i64 t) := (blk_cell HJ3.out.h2 2).trans rfl; have y3 : w3.cell? ⟨g2, 3, none⟩ = some (.int .u64 (s : Int)) := (blk_cell HJ3.out.h2 3).trans rfl;
        go_upto_region 2 with (first
          | (refine wpList_load_row rfl 28 (.tmp 2) rfl g1 rfl 28 (Rf.enc B) (0, 0) _ HJ3.out.h1 Tryd.underlying28 rfl (Rf.sz HOK.out.1) ?_)
          | (go_at_call 16; (refine (ref_of HOK.out t).mono ?_); rintro e w4 ⟨rfl, hb⟩; have HJ := Aside0.mk (HJ3.out.below hb); clear hb))
        clear y0 y1 y2 y3
        have y0 : w4.cell? ⟨g2, 0, none⟩ = some (.int .i64 k) := (blk_cell HJ.out.h2 0).trans rfl; have y1 : w4.cell? ⟨g2, 1, none⟩ = some (.int .i64 f) := (blk_cell HJ.out.h2 1).trans rfl; have y2 : w4.cell? ⟨g2, 2, none⟩ = some (.int .i64 t) := (blk_cell HJ.out.h2 2).trans rfl; have y3 : w4.cell? ⟨g2, 3, none⟩ = some (.int .u64 (s : Int)) := (blk_cell HJ.out.h2 3).trans rfl;
        go_upto_region 8 with (fail)
        refine start_ (n := 14) (S := fun w' => w'.heap[g1]? = some (.cells (Rf.enc B) 28 (0, 0)) ∧ w'.cell? ⟨g2, 1, none⟩ = some (.int .i64 f) ∧ w'.cell? ⟨g2, 2, none⟩ = some (.int .i64 t) ∧ w'.cell? ⟨g2, 3, none⟩ = some (.int .u64 (s : Int))) (ds := [13]) #[false, false, false, false, false, false, false, false, false, false, false, false, false, false] (by kernel_rfl) rfl rfl ⟨(HJ.out.drewN 1).h1, ((blk_cell (HJ.out.drewN 1).h2 1).trans rfl), ((blk_cell (HJ.out.drewN 1).h2 2).trans rfl), ((blk_cell (HJ.out.drewN 1).h2 3).trans rfl)⟩ (fun hHeld => ?_)
        refine pure_ (i := 1) (N := some 35) (v := ?_) (a' := ?_) #[false, true, false, false, false, false, false, false, false, false, false, false, false, false] rfl rfl (by kernel_rfl) (fun _ _ _ h => h) (Or.inl ⟨by rfl, ?_⟩) ?_ ?_
        rotate_left
        · intro w'
          go_simp
          with_reducible rfl
        rotate_left
        · simp only [Act.put, List.setIfInBounds_toArray, List.set_cons_zero, List.set_cons_succ, i64_w, i32_w]
          rfl
        refine pure_ (i := 3) (N := some 37) (v := ?_) (a' := ?_) #[false, true, false, true, false, false, false, false, false, false, false, false, false, false] rfl rfl (by kernel_rfl) (fun _ _ _ h => h) (Or.inl ⟨by rfl, ?_⟩) ?_ ?_
        rotate_left
        · intro w'
          go_simp
          with_reducible rfl
        rotate_left
        · simp only [Act.put, List.setIfInBounds_toArray, List.set_cons_zero, List.set_cons_succ, i64_w, i32_w]
          rfl
        refine pure_ (i := 5) (N := some 39) (v := ?_) (a' := ?_) #[false, true, false, true, false, true, false, false, false, false, false, false, false, false] rfl rfl (by kernel_rfl) (fun _ _ _ h => h) (Or.inl ⟨by rfl, ?_⟩) ?_ ?_
        rotate_left
        · intro w'
          go_simp
          with_reducible rfl
        rotate_left
        · simp only [Act.put, List.setIfInBounds_toArray, List.set_cons_zero, List.set_cons_succ, i64_w, i32_w]
          rfl
        refine pure_ (i := 8) (N := some 42) (v := ?_) (a' := ?_) #[false, true, false, true, false, true, false, false, true, false, false, false, false, false] rfl rfl (by kernel_rfl) (fun _ _ _ h => h) (Or.inl ⟨by rfl, ?_⟩) ?_ ?_
        rotate_left
        · intro w'
          go_simp
          with_reducible rfl
        rotate_left
        · simp only [Act.put, List.setIfInBounds_toArray, List.set_cons_zero, List.set_cons_succ, i64_w, i32_w]
          rfl
        refine take_ (i := 0) (N := some 34) (v := ?_) (a' := ?_) #[true, true, false, true, false, true, false, false, true, false, false, false, false, false] rfl rfl (by kernel_rfl) (fun _ _ _ h => h) (Or.inl ⟨by rfl, ?_⟩) hHeld ?_ ?_
        rotate_left
        · rintro w' ⟨s0, s1, s2, s3⟩
          (refine Rf.ex_load (x := .tmp 2) ?_ ?_ HOK.out.1 s0 <;> rfl)
        rotate_left
        · simp only [Act.put, List.setIfInBounds_toArray, List.set_cons_zero, List.set_cons_succ, i64_w, i32_w]
          rfl
        refine take_ (i := 2) (N := some 36) (v := ?_) (a' := ?_) #[true, true, true, true, false, true, false, false, true, false, false, false, false, false] rfl rfl (by kernel_rfl) (fun _ _ _ h => h) (Or.inl ⟨by rfl, ?_⟩) hHeld ?_ ?_
        rotate_left
        · rintro w' ⟨s0, s1, s2, s3⟩
          go_simp
          with_reducible rfl
        rotate_left
        · simp only [Act.put, List.setIfInBounds_toArray, List.set_cons_zero, List.set_cons_succ, i64_w, i32_w]
          rfl
        refine take_ (i := 4) (N := some 38) (v := ?_) (a' := ?_) #[true, true, true, true, true, true, false, false, true, false, false, false, false, false] rfl rfl (by kernel_rfl) (fun _ _ _ h => h) (Or.inl ⟨by rfl, ?_⟩) hHeld ?_ ?_
        rotate_left
        · rintro w' ⟨s0, s1, s2, s3⟩
          (refine Rf.ex_load (x := .tmp 2) ?_ ?_ HOK.out.1 s0 <;> rfl)
        rotate_left
        · simp only [Act.put, List.setIfInBounds_toArray, List.set_cons_zero, List.set_cons_succ, i64_w, i32_w]
          rfl
        refine take_ (i := 6) (N := some 40) (v := ?_) (a' := ?_) #[true, true, true, true, true, true, true, false, true, false, false, false, false, false] rfl rfl (by kernel_rfl) (fun _ _ _ h => h) (Or.inl ⟨by rfl, ?_⟩) hHeld ?_ ?_
        rotate_left
        · rintro w' ⟨s0, s1, s2, s3⟩
          go_simp
          with_reducible rfl
        rotate_left
        · simp only [Act.put, List.setIfInBounds_toArray, List.set_cons_zero, List.set_cons_succ, i64_w, i32_w]
          rfl
        refine take_ (i := 9) (N := some 43) (v := ?_) (a' := ?_) #[true, true, true, true, true, true, true, false, true, true, false, false, false, false] rfl rfl (by kernel_rfl) (fun _ _ _ h => h) (Or.inl ⟨by rfl, ?_⟩) hHeld ?_ ?_
        rotate_left
        · rintro w' ⟨s0, s1, s2, s3⟩
          go_simp
          with_reducible rfl
        rotate_left
        · simp only [Act.put, List.setIfInBounds_toArray, List.set_cons_zero, List.set_cons_succ, i64_w, i32_w]
          rfl
        refine one_ (i := 7) (N := some 41) #[true, true, true, true, true, true, true, true, true, true, false, false, false, false] rfl rfl (by kernel_rfl) (by decide) (fun K hK => ?_)
        refine goes_ Tryd.func16 (by kernel_rfl) rfl #[.agg (Rf.enc B), .int .i64 f] (by rfl) rfl rfl (by simp only [List.map_toArray, List.map_cons, List.map_nil]; rfl) ?_
        with_reducible refine (ref_of HOK.out f).mono ?_
        rintro e w5 ⟨rfl, hb5⟩
        refine ⟨_, rfl, ?_⟩
        have HJ5 := Aside0.mk ((HJ.out.drewN 1).below hb5)
        clear hb5
        refine hK.out _ _ ⟨HJ5.out.h1, ((blk_cell HJ5.out.h2 1).trans rfl), ((blk_cell HJ5.out.h2 2).trans rfl), ((blk_cell HJ5.out.h2 3).trans rfl)⟩ (fun hHeld => ?_)
        clear hK K
        refine norm_ (a' := ?_) ?_ ?_
        rotate_left
        · show Act.put _ (some 41) _ = _
          simp only [Act.put, List.setIfInBounds_toArray, List.set_cons_zero, List.set_cons_succ, i64_w, i32_w]
          rfl
        refine pure_ (i := 10) (N := some 44) (v := ?_) (a' := ?_) #[true, true, true, true, true, true, true, true, true, true, true, false, false, false] rfl rfl (by kernel_rfl) (fun _ _ _ h => h) (Or.inl ⟨by rfl, ?_⟩) ?_ ?_
        rotate_left
        · intro w'
          go_simp
          with_reducible rfl
        rotate_left
        · simp only [Act.put, List.setIfInBounds_toArray, List.set_cons_zero, List.set_cons_succ, i64_w, i32_w]
          rfl
        refine pure_ (i := 11) (N := some 45) (v := ?_) (a' := ?_) #[true, true, true, true, true, true, true, true, true, true, true, true, false, false] rfl rfl (by kernel_rfl) (fun _ _ _ h => h) (Or.inl ⟨by rfl, ?_⟩) ?_ ?_
        rotate_left
        · intro w'
          go_simp
          with_reducible rfl
        rotate_left
        · simp only [Act.put, List.setIfInBounds_toArray, List.set_cons_zero, List.set_cons_succ, i64_w, i32_w]
          rfl
        refine one_ (i := 12) (N := some 46) #[true, true, true, true, true, true, true, true, true, true, true, true, true, false] rfl rfl (by kernel_rfl) (by decide) (fun K hK => ?_)
        refine goes_ Tryd.func22 (by kernel_rfl) rfl #[.agg (Rf.enc B), .int .i64 t, .int .u64 ((Rf.of B t ||| (Rf.of B f &&& s) : Nat) : Int)] (by rfl) rfl rfl (by simp only [List.map_toArray, List.map_cons, List.map_nil]; rfl) ?_
        with_reducible refine (ref_set HOK.out t _).mono ?_
        rintro e w6 ⟨rfl, hb6⟩
        refine ⟨_, rfl, ?_⟩
        have HJ6 := Aside0.mk (HJ5.out.below hb6)
        clear hb6
        refine hK.out _ _ ⟨HJ6.out.h1, ((blk_cell HJ6.out.h2 1).trans rfl), ((blk_cell HJ6.out.h2 2).trans rfl), ((blk_cell HJ6.out.h2 3).trans rfl)⟩ (fun hHeld => ?_)
        clear hK K
        refine norm_ (a' := ?_) ?_ ?_
        rotate_left
        · show Act.put _ (some 46) _ = _
          simp only [Act.put, List.setIfInBounds_toArray, List.set_cons_zero, List.set_cons_succ, i64_w, i32_w]
          rfl
        refine last_ (i := 13) (N := none) #[true, true, true, true, true, true, true, true, true, true, true, true, true, true] rfl rfl (by kernel_rfl) (by decide) (fun K hK => ?_)
        refine skip_ (w1 := w6.setRow g3 (Rf.enc (Rf.set B t (Rf.of B t ||| (Rf.of B f &&& s))))) (by rfl) rfl (Rf.ex_store (rfl : _ = Op.store 28 (Operand.tmp 4) (Operand.tmp 46)) rfl rfl HLN.out (B0 := Rf.Z0) rfl HJ6.out.h3) ?_
        refine hK.out _ _ ?_
        clear hK K
        refine done_ (by kernel_rfl) ?_
        go_wp2
        refine bodyPost_ret (results_cell_row rfl _ _ g3 28 (Rf.enc (Rf.set B t (Rf.of B t ||| (Rf.of B f &&& s)))) (0, 0) _ rfl (setRow_heap _ _ _ _ _ _ HJ6.out.h3) Tryd.underlying28 rfl (Rf.sz HLN.out)) rfl ⟨by rw [HP.out], Rf.below_row HJ6.out.hb HJ6.out.ge _⟩
      · have d2 : (k == 2) = false := beq_eq_false_iff_ne.2 k2
        by_cases k3 : k = 3
        · have HP := Aside0.mk (show Rf.do_ B k f t s = Rf.set B t (Bt.sub (Rf.of B t) s) from by unfold Rf.do_; rw [if_neg k0, if_neg k1, if_neg k2, if_pos k3])
          have HLN := Aside0.mk (show (Rf.set B t (Bt.sub (Rf.of B t) s)).length = 64 from HL0.out _ (Bt.lt_sub HLO.out))
          have d3 : (k == 3) = true := beq_iff_eq.2 k3
          clear k0 k1 k2 k3 ea eo
          go_enter Tryd.func9, Tryd.ntmps9
          go_upto_region 1 with (first
            | ((with_reducible refine gate_dst (N := 2) rfl ?_); refine box_event ?hg (N := 2) ?hd (cs := Rf.enc B) (t := 28) ?hr ?_; (case hd => rfl); (case hg => rfl); (case hr => first | (go_simp; done) | (go_simp; rfl)); intro g1 hg w1 hbox hb; have HB1 := Aside0.mk hb; have HG1 := Aside0.mk hg; have BX1 := Aside0.mk hbox; clear hbox hb hg)
            | ((with_reducible refine gate_dst (N := 3) rfl ?_); refine box_event ?hg (N := 3) ?hd (cs := #[.int .i64 k, .int .i64 f, .int .i64 t, .int .u64 (s : Int)]) (t := 31) ?hr ?_; (case hd => rfl); (case hg => rfl); (case hr => first | (go_simp; done) | (go_simp; rfl)); intro g2 hg w2 hbox hb; have HB2 := Aside0.mk hb; have HG2 := Aside0.mk hg; have BX2 := Aside0.mk hbox; clear hbox hb hg)
            | ((with_reducible refine gate_dst (N := 4) rfl ?_); refine box_event ?hg (N := 4) ?hd (cs := Rf.enc Rf.Z0) (t := 28) ?hr ?_; (case hd => rfl); (case hg => rfl); (case hr => first | (go_simp; done) | (go_simp; rfl)); intro g3 hg w3 hbox hb; have HB3 := Aside0.mk hb; have HG3 := Aside0.mk hg; have BX3 := Aside0.mk hbox; clear hbox hb hg))
          have HJ3 := Aside0.mk (show Rf.J W w3 B k f t s g1 g2 g3 from ⟨below_step (below_step HB1.out HB2.out) HB3.out, blk_below (blk_below BX1.out HB2.out) HB3.out, blk_below BX2.out HB3.out, BX3.out, by have h1 := HG1.out; have h2 := HG3.out; have h3 := blk_lt BX1.out; have h4 := HB2.out.size; omega, by have h2 := HG3.out; have h3 := blk_lt BX2.out; omega, by have h1 := HB1.out.size; have h4 := HB2.out.size; have h2 := HG3.out; omega⟩)
          clear HB1 HB2 HB3 HG1 HG2 HG3 BX1 BX2 BX3
          have y0 : w3.cell? ⟨g2, 0, none⟩ = some (.int .i64 k) := (blk_cell HJ3.out.h2 0).trans rfl; have y1 : w3.cell? ⟨g2, 1, none⟩ = some (.int .i64 f) := (blk_cell HJ3.out.h2 1).trans rfl; have y2 : w3.cell? ⟨g2, 2, none⟩ = some (.int .i64 t) := (blk_cell HJ3.out.h2 2).trans rfl; have y3 : w3.cell? ⟨g2, 3, none⟩ = some (.int .u64 (s : Int)) := (blk_cell HJ3.out.h2 3).trans rfl;
          go_upto_region 2 with (first
            | (refine wpList_load_row rfl 28 (.tmp 2) rfl g1 rfl 28 (Rf.enc B) (0, 0) _ HJ3.out.h1 Tryd.underlying28 rfl (Rf.sz HOK.out.1) ?_)
            | (go_at_call 16; (refine (ref_of HOK.out t).mono ?_); rintro e w4 ⟨rfl, hb⟩; have HJ := Aside0.mk (HJ3.out.below hb); clear hb))
          clear y0 y1 y2 y3
          have y0 : w4.cell? ⟨g2, 0, none⟩ = some (.int .i64 k) := (blk_cell HJ.out.h2 0).trans rfl; have y1 : w4.cell? ⟨g2, 1, none⟩ = some (.int .i64 f) := (blk_cell HJ.out.h2 1).trans rfl; have y2 : w4.cell? ⟨g2, 2, none⟩ = some (.int .i64 t) := (blk_cell HJ.out.h2 2).trans rfl; have y3 : w4.cell? ⟨g2, 3, none⟩ = some (.int .u64 (s : Int)) := (blk_cell HJ.out.h2 3).trans rfl;
          go_wp2_with (first
            | (refine wpList_load_row rfl 28 (.tmp 2) rfl g1 rfl 28 (Rf.enc B) (0, 0) _ HJ.out.h1 Tryd.underlying28 rfl (Rf.sz HOK.out.1) ?_)
            | (go_at_call 22; (with_reducible refine (ref_set HOK.out t (Bt.sub (Rf.of B t) s)).mono ?_); rintro e w6 ⟨rfl, hb6⟩; have HJ6 := Aside0.mk (HJ.out.below hb6); clear hb6)
            | (refine wpList_plain rfl fun _ hK => wp_store_row 28 (.tmp 4) (.tmp 56) rfl g3 (Rf.enc (Rf.set B t (Bt.sub (Rf.of B t) s))) rfl rfl 28 (Rf.enc Rf.Z0) HJ6.out.h3 (Rf.sz HLN.out) (by rw [Rf.enc_size, Rf.enc_size, HLN.out]; rfl) (Rf.enc_one _) (hK _ _ ?_)))
          refine bodyPost_ret (results_cell_row rfl _ _ g3 28 (Rf.enc (Rf.set B t (Bt.sub (Rf.of B t) s))) (0, 0) _ rfl (setRow_heap _ _ _ _ _ _ HJ6.out.h3) Tryd.underlying28 rfl (Rf.sz HLN.out)) rfl ⟨by rw [HP.out], Rf.below_row HJ6.out.hb HJ6.out.ge _⟩
        · have d3 : (k == 3) = false := beq_eq_false_iff_ne.2 k3
          have HP := Aside0.mk (show Rf.do_ B k f t s = Rf.set B t 0 from by unfold Rf.do_; rw [if_neg k0, if_neg k1, if_neg k2, if_neg k3])
          have HLN := Aside0.mk (show (Rf.set B t 0).length = 64 from HL0.out _ (by decide))
          clear k0 k1 k2 k3 ea eo en
          go_enter Tryd.func9, Tryd.ntmps9
          go_upto_region 1 with (first
            | ((with_reducible refine gate_dst (N := 2) rfl ?_); refine box_event ?hg (N := 2) ?hd (cs := Rf.enc B) (t := 28) ?hr ?_; (case hd => rfl); (case hg => rfl); (case hr => first | (go_simp; done) | (go_simp; rfl)); intro g1 hg w1 hbox hb; have HB1 := Aside0.mk hb; have HG1 := Aside0.mk hg; have BX1 := Aside0.mk hbox; clear hbox hb hg)
            | ((with_reducible refine gate_dst (N := 3) rfl ?_); refine box_event ?hg (N := 3) ?hd (cs := #[.int .i64 k, .int .i64 f, .int .i64 t, .int .u64 (s : Int)]) (t := 31) ?hr ?_; (case hd => rfl); (case hg => rfl); (case hr => first | (go_simp; done) | (go_simp; rfl)); intro g2 hg w2 hbox hb; have HB2 := Aside0.mk hb; have HG2 := Aside0.mk hg; have BX2 := Aside0.mk hbox; clear hbox hb hg)
            | ((with_reducible refine gate_dst (N := 4) rfl ?_); refine box_event ?hg (N := 4) ?hd (cs := Rf.enc Rf.Z0) (t := 28) ?hr ?_; (case hd => rfl); (case hg => rfl); (case hr => first | (go_simp; done) | (go_simp; rfl)); intro g3 hg w3 hbox hb; have HB3 := Aside0.mk hb; have HG3 := Aside0.mk hg; have BX3 := Aside0.mk hbox; clear hbox hb hg))
          have HJ3 := Aside0.mk (show Rf.J W w3 B k f t s g1 g2 g3 from ⟨below_step (below_step HB1.out HB2.out) HB3.out, blk_below (blk_below BX1.out HB2.out) HB3.out, blk_below BX2.out HB3.out, BX3.out, by have h1 := HG1.out; have h2 := HG3.out; have h3 := blk_lt BX1.out; have h4 := HB2.out.size; omega, by have h2 := HG3.out; have h3 := blk_lt BX2.out; omega, by have h1 := HB1.out.size; have h4 := HB2.out.size; have h2 := HG3.out; omega⟩)
          clear HB1 HB2 HB3 HG1 HG2 HG3 BX1 BX2 BX3
          have y0 : w3.cell? ⟨g2, 0, none⟩ = some (.int .i64 k) := (blk_cell HJ3.out.h2 0).trans rfl; have y1 : w3.cell? ⟨g2, 1, none⟩ = some (.int .i64 f) := (blk_cell HJ3.out.h2 1).trans rfl; have y2 : w3.cell? ⟨g2, 2, none⟩ = some (.int .i64 t) := (blk_cell HJ3.out.h2 2).trans rfl; have y3 : w3.cell? ⟨g2, 3, none⟩ = some (.int .u64 (s : Int)) := (blk_cell HJ3.out.h2 3).trans rfl;
          go_upto_region 2 with (first
            | (refine wpList_load_row rfl 28 (.tmp 2) rfl g1 rfl 28 (Rf.enc B) (0, 0) _ HJ3.out.h1 Tryd.underlying28 rfl (Rf.sz HOK.out.1) ?_)
            | (go_at_call 16; (refine (ref_of HOK.out t).mono ?_); rintro e w4 ⟨rfl, hb⟩; have HJ := Aside0.mk (HJ3.out.below hb); clear hb))
          clear y0 y1 y2 y3
          have y0 : w4.cell? ⟨g2, 0, none⟩ = some (.int .i64 k) := (blk_cell HJ.out.h2 0).trans rfl; have y1 : w4.cell? ⟨g2, 1, none⟩ = some (.int .i64 f) := (blk_cell HJ.out.h2 1).trans rfl; have y2 : w4.cell? ⟨g2, 2, none⟩ = some (.int .i64 t) := (blk_cell HJ.out.h2 2).trans rfl; have y3 : w4.cell? ⟨g2, 3, none⟩ = some (.int .u64 (s : Int)) := (blk_cell HJ.out.h2 3).trans rfl;
          go_wp2_with (first
            | (refine wpList_load_row rfl 28 (.tmp 2) rfl g1 rfl 28 (Rf.enc B) (0, 0) _ HJ.out.h1 Tryd.underlying28 rfl (Rf.sz HOK.out.1) ?_)
            | (go_at_call 22; (with_reducible refine (HNONE.out _).mono ?_); rintro e w6 ⟨rfl, hb6⟩; have HJ6 := Aside0.mk (HJ.out.below hb6); clear hb6)
            | (refine wpList_plain rfl fun _ hK => wp_store_row 28 (.tmp 4) (.tmp 60) rfl g3 (Rf.enc (Rf.set B t 0)) rfl rfl 28 (Rf.enc Rf.Z0) HJ6.out.h3 (Rf.sz HLN.out) (by rw [Rf.enc_size, Rf.enc_size, HLN.out]; rfl) (Rf.enc_one _) (hK _ _ ?_)))
          refine bodyPost_ret (results_cell_row rfl _ _ g3 28 (Rf.enc (Rf.set B t 0)) (0, 0) _ rfl (setRow_heap _ _ _ _ _ _ HJ6.out.h3) Tryd.underlying28 rfl (Rf.sz HLN.out)) rfl ⟨by rw [HP.out], Rf.below_row HJ6.out.hb HJ6.out.ge _⟩
end Go.Proofs.YtjcjhmnfknenlaaDoor.Rt
