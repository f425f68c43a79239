/- Rights as the page has them: a row of 64 sets by value. Conditions: none. -/
import Derived.Test.YtjcjhmnfknenlaaDoorRt8
namespace Go.Proofs.YtjcjhmnfknenlaaDoor.Rt
open Go.RowKit Go.Proofs.YtjcjhmnfknenlaaDoor.PRightNil Go.Proofs.YtjcjhmnfknenlaaDoorW.PrintWords Go.Proofs.YtjcjhmnfknenlaaDoorW.PrintLast
open Ch (Chg)
set_option linter.unusedVariables false
set_option linter.unusedSimpArgs false

namespace Rf
def enc (B : List Nat) : Array Value := (B.map fun (n : Nat) => Value.int .u64 (n : Int)).toArray
theorem enc_size (B : List Nat) : (enc B).size = B.length := by simp [enc]
theorem enc_get (B : List Nat) (j : Nat) (hj : j < B.length) : (enc B)[j]? = some (.int .u64 ((B.getD j 0 : Nat) : Int)) := by
  simp [enc, List.getD_eq_getElem?_getD, hj]
theorem enc_set (B : List Nat) (j x : Nat) : (enc B).setIfInBounds j (.int .u64 (x : Int)) = enc (B.set j x) := by
  unfold enc
  rw [List.setIfInBounds_toArray, List.map_set]
theorem enc_one (B : List Nat) : (enc B).all (·.oneCell') = true := by
  rw [Array.all_eq_true_iff_forall_mem]
  intro x hx
  unfold enc at hx
  rw [List.mem_toArray, List.mem_map] at hx
  obtain ⟨a, _, rfl⟩ := hx
  rfl
def Z0 : List Nat := List.replicate 64 0
def Ok (B : List Nat) : Prop := B.length = 64 ∧ ∀ j, B.getD j 0 < Bt.top
theorem ok0 : Ok Z0 := ⟨rfl, fun j => by
  have : Z0.getD j 0 = 0 := by unfold Z0; rw [List.getD_eq_getElem?_getD, List.getElem?_replicate]; split <;> rfl
  rw [this]
  decide⟩
def of (B : List Nat) (t : Int) : Nat := if 0 ≤ t ∧ t ≤ 63 then B.getD t.toNat 0 else 0
def set (B : List Nat) (t : Int) (s : Nat) : List Nat := if 0 ≤ t ∧ t ≤ 63 then B.set t.toNat s else B
theorem getD_set (B : List Nat) (t x j : Nat) (ht : t < B.length) : (B.set t x).getD j 0 = if j = t then x else B.getD j 0 := by
  rw [List.getD_eq_getElem?_getD, List.getD_eq_getElem?_getD, List.getElem?_set]
  by_cases e : t = j
  · subst e; rw [if_pos rfl, if_pos rfl, if_pos ht]; rfl
  · rw [if_neg e, if_neg (fun q => e q.symm)]
theorem of_lt {B : List Nat} (h : Ok B) (t : Int) : of B t < Bt.top := by
  unfold of
  split
  · exact h.2 _
  · decide
theorem Ok.set {B : List Nat} (h : Ok B) (t : Int) {s : Nat} (hs : s < Bt.top) : Ok (set B t s) := by
  unfold Rf.set
  split
  · rename_i c
    refine ⟨by rw [List.length_set]; exact h.1, fun j => ?_⟩
    rw [getD_set _ _ _ _ (by rw [h.1]; omega)]
    split
    · exact hs
    · exact h.2 j
  · exact h
theorem of_set {B : List Nat} (h : Ok B) (t : Int) (s : Nat) (x : Int) : of (set B t s) x = if x = t ∧ 0 ≤ t ∧ t ≤ 63 then s else of B x := by
  unfold Rf.set of
  by_cases c : 0 ≤ t ∧ t ≤ 63
  · rw [if_pos c]
    by_cases cx : 0 ≤ x ∧ x ≤ 63
    · rw [if_pos cx, if_pos cx, getD_set _ _ _ _ (by rw [h.1]; omega)]
      by_cases e : x = t
      · subst e; rw [if_pos rfl, if_pos ⟨rfl, c⟩]
      · rw [if_neg (by omega), if_neg (fun q => e q.1)]
    · rw [if_neg cx, if_neg cx, if_neg (fun q => cx (by rw [q.1]; exact c))]
  · rw [if_neg c]
    rw [if_neg (show ¬ (x = t ∧ 0 ≤ t ∧ t ≤ 63) from fun q => c q.2)]
def do_ (B : List Nat) (k f t : Int) (s : Nat) : List Nat :=
  if k = 0 then set B t 4294967295 else if k = 1 then set B t (of B f &&& s) else if k = 2 then set B t (of B t ||| (of B f &&& s)) else if k = 3 then set B t (Bt.sub (of B t) s) else set B t 0
theorem Ok.do_ {B : List Nat} (h : Ok B) (k f t : Int) {s : Nat} (hs : s < Bt.top) : Ok (do_ B k f t s) := by
  unfold Rf.do_
  split
  · exact h.set t (by decide)
  · split
    · exact h.set t (Bt.lt_and hs)
    · split
      · exact h.set t (Bt.lt_or (of_lt h t) (Bt.lt_and hs))
      · split
        · exact h.set t (Bt.lt_sub (of_lt h t))
        · exact h.set t (by decide)
theorem below_row {b g : Nat} {w0 w : World} (hb : Below b w0 w) (hg : b ≤ g) (cs : Array Value) : Below b w0 (w.setRow g cs) :=
  hb.trans ⟨rfl, rfl, rfl, by simp [World.setRow], fun k hk => setRow_other w g k cs (by omega)⟩
theorem sz {B : List Nat} (h : B.length = 64) : (Tryd.prog.info? 28).map (·.size) = some (enc B).size := by rw [enc_size, h]; kernel_rfl
end Rf
set_option maxHeartbeats 4000000 in
set_option maxRecDepth 100000 in
theorem ref_of {W : World} {B : List Nat} (hB : Rf.Ok B) (t : Int) :
    Calls Tryd.prog 16 #[.agg (Rf.enc B), .int .i64 t] W fun e w' => e = .returned (.int .u64 ((Rf.of B t : Nat) : Int)) ∧ Below W.heap.size W w' := by
  have hu28 := Tryd.underlying28
  have HOK := Aside0.mk hB
  clear hB
  by_cases c : 0 ≤ t ∧ t ≤ 63
  · obtain ⟨n, rfl⟩ : ∃ n : Nat, t = (n : Int) := ⟨t.toNat, by omega⟩
    have HV := Aside0.mk (show Rf.of B (n : Int) = B.getD n 0 from by unfold Rf.of; rw [if_pos c, Int.toNat_natCast])
    rw [HV.out]
    have d1 : decide ((n : Int) < 0) = false := decide_eq_false (by omega)
    have d2 : decide ((63 : Int) < (n : Int)) = false := decide_eq_false (by omega)
    have p1 : (0 ≤ (n : Int)) = True := eq_true (by omega)
    have p2 : ((n : Int) < 64) = True := eq_true (by omega)
    have HN := Aside0.mk (show n < 64 from by omega)
    clear c HV
    go_enter Tryd.func16, Tryd.ntmps16
    go_wp2_with ((with_reducible refine gate_dst (N := 2) rfl ?_); refine box_event ?hg (N := 2) ?hd (cs := Rf.enc B) (t := 28) ?hr ?_; (case hd => rfl); (case hg => rfl); (case hr => first | (go_simp; done) | (go_simp; rfl)); intro g hg w1 hbox hb; have HB := Aside0.mk hb; have x0 : w1.cell? ⟨g, n, none⟩ = some (.int .u64 ((B.getD n 0 : Nat) : Int)) := (blk_cell hbox n).trans (Rf.enc_get B n (by rw [HOK.out.1]; exact HN.out)); clear hbox hb hg)
    go_ret
    exact ⟨rfl, HB.out⟩
  · have HV := Aside0.mk (show Rf.of B t = 0 from by unfold Rf.of; rw [if_neg c])
    rw [HV.out]
    by_cases h0 : t < 0
    · have d1 : decide (t < 0) = true := decide_eq_true h0
      clear c HV h0
      go_enter Tryd.func16, Tryd.ntmps16
      go_wp2_with ((with_reducible refine gate_dst (N := 2) rfl ?_); refine box_event ?hg (N := 2) ?hd (cs := Rf.enc B) (t := 28) ?hr ?_; (case hd => rfl); (case hg => rfl); (case hr => first | (go_simp; done) | (go_simp; rfl)); intro g hg w1 hbox hb; have HB := Aside0.mk hb; clear hbox hb hg)
      go_ret
      exact ⟨rfl, HB.out⟩
    · have d1 : decide (t < 0) = false := decide_eq_false h0
      have d2 : decide ((63 : Int) < t) = true := decide_eq_true (by omega)
      clear c HV h0
      go_enter Tryd.func16, Tryd.ntmps16
      go_wp2_with ((with_reducible refine gate_dst (N := 2) rfl ?_); refine box_event ?hg (N := 2) ?hd (cs := Rf.enc B) (t := 28) ?hr ?_; (case hd => rfl); (case hg => rfl); (case hr => first | (go_simp; done) | (go_simp; rfl)); intro g hg w1 hbox hb; have HB := Aside0.mk hb; clear hbox hb hg)
      go_ret
      exact ⟨rfl, HB.out⟩
set_option maxHeartbeats 4000000 in
set_option maxRecDepth 100000 in
theorem ref_set {W : World} {B : List Nat} (hB : Rf.Ok B) (t : Int) (s : Nat) :
    Calls Tryd.prog 22 #[.agg (Rf.enc B), .int .i64 t, .int .u64 (s : Int)] W fun e w' => e = .returned (.agg (Rf.enc (Rf.set B t s))) ∧ Below W.heap.size W w' := by
  have hu28 := Tryd.underlying28
  have HOK := Aside0.mk hB
  clear hB
  by_cases c : 0 ≤ t ∧ t ≤ 63
  · obtain ⟨n, rfl⟩ : ∃ n : Nat, t = (n : Int) := ⟨t.toNat, by omega⟩
    have HV := Aside0.mk (show Rf.set B (n : Int) s = B.set n s from by unfold Rf.set; rw [if_pos c, Int.toNat_natCast])
    rw [HV.out]
    have d1 : decide ((n : Int) ≥ 0) = true := decide_eq_true (by omega)
    have d1' : decide (0 ≤ (n : Int)) = true := decide_eq_true (by omega)
    have d2 : decide ((n : Int) ≤ 63) = true := decide_eq_true (by omega)
    have p1 : (0 ≤ (n : Int)) = True := eq_true (by omega)
    have p2 : ((n : Int) < 64) = True := eq_true (by omega)
    have HN := Aside0.mk (show n < 64 from by omega)
    have HLN := Aside0.mk (show (B.set n s).length = 64 from by rw [List.length_set]; exact HOK.out.1)
    have HIS := Aside0.mk (Rf.sz HLN.out)
    clear c HV
    go_enter Tryd.func22, Tryd.ntmps22
    go_upto_region 3 with (first
      | ((with_reducible refine gate_dst (N := 3) rfl ?_); refine box_event ?hg (N := 3) ?hd (cs := Rf.enc B) (t := 28) ?hr ?_; (case hd => rfl); (case hg => rfl); (case hr => first | (go_simp; done) | (go_simp; rfl)); intro g hg w1 hbox hb; have HB1 := Aside0.mk hb; have HG1 := Aside0.mk hg; have BX1 := Aside0.mk hbox; clear hbox hb hg)
      | ((with_reducible refine gate_dst (N := 6) rfl ?_); refine box_event ?hg (N := 6) ?hd (cs := Rf.enc Rf.Z0) (t := 28) ?hr ?_; (case hd => rfl); (case hg => rfl); (case hr => first | (go_simp; done) | (go_simp; rfl)); intro g2 hg w2 hbox hb; have HB2 := Aside0.mk hb; have HG2 := Aside0.mk hg; have BX2 := Aside0.mk hbox; have BX1' := Aside0.mk (blk_below BX1.out hb); have x0 : w2.cell? ⟨g, n, none⟩ = some (.int .u64 ((B.getD n 0 : Nat) : Int)) := (blk_cell BX1'.out n).trans (Rf.enc_get B n (by rw [HOK.out.1]; exact HN.out)); have fz := blk_frozen BX1'.out n; clear hbox hb hg))
    have HNE := Aside0.mk (show g ≠ g2 from by have h1 := HG1.out; have h2 := HG2.out; have h3 := blk_lt BX1.out; omega)
    have HY := Aside0.mk (show (w2.setCell ⟨g, n, none⟩ (.int .u64 (s : Int))).heap[g]? = some (.cells (Rf.enc (B.set n s)) 28 (0, 0)) from blk_put BX1'.out n _ (Rf.enc_set _ _ _))
    have HY2 := Aside0.mk (show (w2.setCell ⟨g, n, none⟩ (.int .u64 (s : Int))).heap[g2]? = some (.cells (Rf.enc Rf.Z0) 28 (0, 0)) from blk_far BX2.out HNE.out.symm _)
    have HB3 := Aside0.mk (show Below W.heap.size W (w2.setCell ⟨g, n, none⟩ (.int .u64 (s : Int))) from below_set (below_step HB1.out HB2.out) (by have h1 := HG1.out; omega))
    have HGE := Aside0.mk (show W.heap.size ≤ g2 from by have h1 := HB1.out.size; have h2 := HG2.out; omega)
    clear x0 fz BX1 BX1' BX2 HB1 HB2 HG1 HG2
    generalize w2.setCell ⟨g, n, none⟩ (.int .u64 (s : Int)) = w3 at *
    go_wp2_with (first
      | (refine wpList_load_row rfl 28 (.tmp 3) rfl g rfl 28 (Rf.enc (B.set n s)) (0, 0) _ HY.out Tryd.underlying28 rfl HIS.out ?_)
      | (refine wpList_plain rfl fun _ hK => wp_store_row 28 (.tmp 6) (.tmp 17) rfl g2 (Rf.enc (B.set n s)) rfl rfl 28 (Rf.enc Rf.Z0) HY2.out HIS.out (by rw [Rf.enc_size, Rf.enc_size, HLN.out]; rfl) (Rf.enc_one _) (hK _ _ ?_)))
    refine bodyPost_ret (results_cell_row rfl _ _ g2 28 (Rf.enc (B.set n s)) (0, 0) _ rfl (setRow_heap _ _ _ _ _ _ HY2.out) Tryd.underlying28 rfl HIS.out) rfl ⟨rfl, Rf.below_row HB3.out HGE.out _⟩
  · have HV := Aside0.mk (show Rf.set B t s = B from by unfold Rf.set; rw [if_neg c])
    rw [HV.out]
    have HIS := Aside0.mk (Rf.sz HOK.out.1)
    by_cases h0 : t < 0
    · have d1 : decide (t ≥ 0) = false := decide_eq_false (by omega)
      have d1' : decide (0 ≤ t) = false := decide_eq_false (by omega)
      clear c HV h0
      go_enter Tryd.func22, Tryd.ntmps22
      go_upto_region 3 with (first
        | ((with_reducible refine gate_dst (N := 3) rfl ?_); refine box_event ?hg (N := 3) ?hd (cs := Rf.enc B) (t := 28) ?hr ?_; (case hd => rfl); (case hg => rfl); (case hr => first | (go_simp; done) | (go_simp; rfl)); intro g hg w1 hbox hb; have HB1 := Aside0.mk hb; have HG1 := Aside0.mk hg; have BX1 := Aside0.mk hbox; clear hbox hb hg)
        | ((with_reducible refine gate_dst (N := 6) rfl ?_); refine box_event ?hg (N := 6) ?hd (cs := Rf.enc Rf.Z0) (t := 28) ?hr ?_; (case hd => rfl); (case hg => rfl); (case hr => first | (go_simp; done) | (go_simp; rfl)); intro g2 hg w2 hbox hb; have HB2 := Aside0.mk hb; have HG2 := Aside0.mk hg; have BX2 := Aside0.mk hbox; clear hbox hb hg))
      have HY := Aside0.mk (blk_below BX1.out HB2.out)
      have HB3 := Aside0.mk (below_step HB1.out HB2.out)
      have HGE := Aside0.mk (show W.heap.size ≤ g2 from by have h1 := HB1.out.size; have h2 := HG2.out; omega)
      clear BX1 HB1 HB2 HG1 HG2
      go_wp2_with (first
        | (refine wpList_load_row rfl 28 (.tmp 3) rfl g rfl 28 (Rf.enc B) (0, 0) _ HY.out Tryd.underlying28 rfl HIS.out ?_)
        | (refine wpList_plain rfl fun _ hK => wp_store_row 28 (.tmp 6) (.tmp 17) rfl g2 (Rf.enc B) rfl rfl 28 (Rf.enc Rf.Z0) BX2.out HIS.out (by rw [Rf.enc_size, Rf.enc_size, HOK.out.1]; rfl) (Rf.enc_one _) (hK _ _ ?_)))
      refine bodyPost_ret (results_cell_row rfl _ _ g2 28 (Rf.enc B) (0, 0) _ rfl (setRow_heap _ _ _ _ _ _ BX2.out) Tryd.underlying28 rfl HIS.out) rfl ⟨rfl, Rf.below_row HB3.out HGE.out _⟩
    · have d1 : decide (t ≥ 0) = true := decide_eq_true (by omega)
      have d1' : decide (0 ≤ t) = true := decide_eq_true (by omega)
      have d2 : decide (t ≤ 63) = false := decide_eq_false (by omega)
      clear c HV h0
      go_enter Tryd.func22, Tryd.ntmps22
      go_upto_region 3 with (first
        | ((with_reducible refine gate_dst (N := 3) rfl ?_); refine box_event ?hg (N := 3) ?hd (cs := Rf.enc B) (t := 28) ?hr ?_; (case hd => rfl); (case hg => rfl); (case hr => first | (go_simp; done) | (go_simp; rfl)); intro g hg w1 hbox hb; have HB1 := Aside0.mk hb; have HG1 := Aside0.mk hg; have BX1 := Aside0.mk hbox; clear hbox hb hg)
        | ((with_reducible refine gate_dst (N := 6) rfl ?_); refine box_event ?hg (N := 6) ?hd (cs := Rf.enc Rf.Z0) (t := 28) ?hr ?_; (case hd => rfl); (case hg => rfl); (case hr => first | (go_simp; done) | (go_simp; rfl)); intro g2 hg w2 hbox hb; have HB2 := Aside0.mk hb; have HG2 := Aside0.mk hg; have BX2 := Aside0.mk hbox; clear hbox hb hg))
      have HY := Aside0.mk (blk_below BX1.out HB2.out)
      have HB3 := Aside0.mk (below_step HB1.out HB2.out)
      have HGE := Aside0.mk (show W.heap.size ≤ g2 from by have h1 := HB1.out.size; have h2 := HG2.out; omega)
      clear BX1 HB1 HB2 HG1 HG2
      go_wp2_with (first
        | (refine wpList_load_row rfl 28 (.tmp 3) rfl g rfl 28 (Rf.enc B) (0, 0) _ HY.out Tryd.underlying28 rfl HIS.out ?_)
        | (refine wpList_plain rfl fun _ hK => wp_store_row 28 (.tmp 6) (.tmp 17) rfl g2 (Rf.enc B) rfl rfl 28 (Rf.enc Rf.Z0) BX2.out HIS.out (by rw [Rf.enc_size, Rf.enc_size, HOK.out.1]; rfl) (Rf.enc_one _) (hK _ _ ?_)))
      refine bodyPost_ret (results_cell_row rfl _ _ g2 28 (Rf.enc B) (0, 0) _ rfl (setRow_heap _ _ _ _ _ _ BX2.out) Tryd.underlying28 rfl HIS.out) rfl ⟨rfl, Rf.below_row HB3.out HGE.out _⟩
end Go.Proofs.YtjcjhmnfknenlaaDoor.Rt
