/- The page's Push and Turn. Conditions: none. -/
import Derived.Test.YtakbhnfmimnbhaaRn33
namespace Go.Proofs.Ytakbhnfmimnbhaa.Rn
open Go.RowKit Go.Proofs.YtakbhnfmimnbhaaW.PrintWords Go.Proofs.YtakbhnfmimnbhaaW.PrintLast Go.Proofs.YtakbhnfmimnbhaaW.PrintMore
set_option linter.unusedVariables false
set_option linter.unusedSimpArgs false

set_option maxHeartbeats 16000000 in
set_option maxRecDepth 100000 in
theorem rpush_any {W : World} {A : Option Addr} {m c I : Nat} {is : List Int} (hr : RdC W A (m + 1) 27 (nums .i64 is)) (hn : m + 1 ≤ 100000) (hc : m + 1 ≤ c) (hi : I < 16) (ht : is.getD (m * 27 + 2) 0 = (I : Int)) {v : Int} (hv : 0 ≤ v ∧ v ≤ 1000000) : Calls Try.prog 102 #[.slice A (m + 1) c, .int .i64 v] W fun e w' => ∃ A9 c9, e = .returned (.tuple #[.slice A9 (m + 1) c9, .bool true]) ∧ w'.ownsRow W.heap.size 110 27 (.slice A9 (m + 1) c9) (m + 1) (nums .i64 (is.take (m * 27) ++ ((rowI is m).set (11 + I) v).set 2 ((I : Int) + 1))) ∧ Below W.heap.size W w' := by
  have hu59 := Try.underlying59
  have hu110 := Try.underlying110
  have hu108 := Try.underlying108
  have HR := Aside0.mk hr
  have HV := Aside0.mk hv
  obtain ⟨ad, rfl, hrow, y2⟩ := rd_row hr (i := m) (by omega)
  have HROW := Aside0.mk hrow
  have H27 := Aside0.mk (rowI_len (i := m) (fr_len hr) (by omega))
  have HRT := Aside0.mk (show (rowI is m).getD 2 0 = (I : Int) from by rw [rowI_at (by decide)]; exact ht)
  rw [ht] at y2
  obtain ⟨n, hnn⟩ : ∃ n, n = m + 1 := ⟨_, rfl⟩
  obtain ⟨r, hrr⟩ : ∃ r, r = rowI is m := ⟨_, rfl⟩
  rw [← hrr] at HROW H27 HRT ⊢
  have HWI := Aside0.mk (fun (w9 : World) (r9 : List Int) (h9 : RdC w9 (some ad) (m + 1) 27 (nums .i64 is)) (h : r9.length = 27) => with_any (r := r9) h9 hn (Nat.succ_pos m) hc h)
  rw [← hnn] at hn HWI HR ⊢
  have ew : IntKind.i64.wrap ((n : Int) - 1) = (m : Int) := by rw [IntKind.wrap_i64]; omega
  have p1 : (0 ≤ (m : Int)) = True := eq_true (by omega)
  have p2 : ((m : Int) < (n : Int)) = True := eq_true (by omega)
  have d1 : ((n : Int) == 0) = false := beq_eq_false_iff_ne.2 (by omega)
  have d2 : (n == 0) = false := beq_eq_false_iff_ne.2 (by omega)
  have d3 : (n = 0) = False := eq_false (by omega)
  have d4 : decide (15 < (I : Int)) = false := decide_eq_false (by omega)
  have d4' : decide (15 < I) = false := decide_eq_false (by omega)
  have d5 : decide ((I : Int) < 0) = false := decide_eq_false (by omega)
  have HI := Aside0.mk hi
  have HNN := Aside0.mk hnn
  obtain ⟨J, hJ⟩ : ∃ J, J = (I : Int) + 1 := ⟨_, rfl⟩
  rw [← hJ]
  have HJ := Aside0.mk hJ
  clear hr hn hc hi ht hrow hnn hrr hv hJ
  go_enter Try.func102, Try.ntmps102
  go_upto_region 4 with (first
    | (refine list_load110 rfl (.tmp 34) rfl rfl H27.out HROW.out ?_)
    | ((with_reducible refine gate_dst (N := 6) rfl ?_); refine box_event ?hg (N := 6) ?hd (cs := (nums .i64 z27).toArray) (t := 110) ?hr ?_; (case hd => rfl); (case hg => rfl); (case hr => exact ex_alloc110 rfl); intro gx hg w1 hbox hb; have G1 := Aside0.mk hg; have B1 := Aside0.mk hb; have X1 := Aside0.mk hbox; clear hbox hb hg)
    | (refine list_store110 (r0 := z27) rfl (.tmp 6) (.tmp 35) rfl rfl rfl rfl H27.out X1.out ?_))
  have GE := Aside0.mk (show W.heap.size ≤ gx from by rw [G1.out]; exact Nat.le_refl _)
  have X2 := Aside0.mk (setRow_heap w1 gx _ (nums .i64 r).toArray _ _ X1.out)
  have B2 := Aside0.mk (show Below W.heap.size W (w1.setRow gx (nums .i64 r).toArray) from below_row B1.out GE.out _)
  clear G1 B1 X1 y2 d1 d2 d3 d4 d4' d5 p1 p2 HROW ew
  generalize w1.setRow gx (nums .i64 r).toArray = w2 at *
  have XD := Aside0.mk (show w2.drew.heap[gx]? = some (.cells (nums .i64 r).toArray 110 (0, 0)) from X2.out)
  have y2 : w2.drew.cell? ⟨gx, 2, none⟩ = some (.int .i64 (I : Int)) := (blk_num XD.out (by rw [H27.out]; decide)).trans (by rw [HRT.out])
  have XE := Aside0.mk (nums_put XD.out (j := 11 + I) v)
  have z2 : (w2.drew.setCell ⟨gx, 11 + I, none⟩ (.int .i64 v)).cell? ⟨gx, 2, none⟩ = some (.int .i64 (I : Int)) := (blk_num XE.out (by rw [List.length_set, H27.out]; decide)).trans (by rw [getD_set_i _ _ _ _ (by rw [H27.out]; have := HI.out; omega), if_neg (by omega), HRT.out])
  obtain ⟨z, hz⟩ : ∃ z, z = r.getD (11 + I) 0 := ⟨_, rfl⟩
  have yI : w2.drew.cell? ⟨gx, 11 + I, none⟩ = some (.int .i64 z) := by rw [hz]; exact blk_num XD.out (by rw [H27.out]; have := HI.out; omega)
  have fI := blk_frozen XD.out (11 + I)
  have f2 := blk_frozen X2.out 2
  have p1 : (0 ≤ (I : Int)) = True := eq_true (by omega)
  have p2 : ((I : Int) < 16) = True := eq_true (by have := HI.out; omega)
  have p3 : (I < 16) = True := eq_true HI.out
  have hJ := HJ.out
  have ewI : IntKind.i64.wrap ((I : Int) + 1) = J := by rw [IntKind.wrap_i64, hJ]; have := HI.out; omega
  have ewI2 : wrap64 ((I : Int) + 1) = J := by rw [hJ]; have := HI.out; unfold wrap64; omega
  clear hz hJ HJ
  refine start_ (n := 12) (S := fun w' => w'.cell? ⟨gx, 2, none⟩ = some (.int .i64 (I : Int))) (ds := [11]) #[false, false, false, false, false, false, false, false, false, false, false, false] (by kernel_rfl) rfl rfl (y2) (fun hHeld => ?_)
  refine pure_ (i := 0) (N := some 36) (v := ?_) (a' := ?_) #[true, false, false, false, false, false, false, false, false, false, false, false] rfl rfl (by kernel_rfl) (fun _ _ _ h => h) (Or.inl ⟨by rfl, ?_⟩) ?_ ?_
  rotate_left
  · intro w'
    go_simp
    with_reducible rfl
  rotate_left
  · simp only [Act.put, List.setIfInBounds_toArray, List.set_cons_zero, List.set_cons_succ, i64_w, i32_w]
    rfl
  refine pure_ (i := 2) (N := some 38) (v := ?_) (a' := ?_) #[true, false, true, false, false, false, false, false, false, false, false, false] rfl rfl (by kernel_rfl) (fun _ _ _ h => h) (Or.inl ⟨by rfl, ?_⟩) ?_ ?_
  rotate_left
  · intro w'
    go_simp
    with_reducible rfl
  rotate_left
  · simp only [Act.put, List.setIfInBounds_toArray, List.set_cons_zero, List.set_cons_succ, i64_w, i32_w]
    rfl
  refine pure_ (i := 4) (N := some 40) (v := ?_) (a' := ?_) #[true, false, true, false, true, false, false, false, false, false, false, false] rfl rfl (by kernel_rfl) (fun _ _ _ h => h) (Or.inl ⟨by rfl, ?_⟩) ?_ ?_
  rotate_left
  · intro w'
    go_simp
    with_reducible rfl
  rotate_left
  · simp only [Act.put, List.setIfInBounds_toArray, List.set_cons_zero, List.set_cons_succ, i64_w, i32_w]
    rfl
  refine pure_ (i := 7) (N := some 43) (v := ?_) (a' := ?_) #[true, false, true, false, true, false, false, true, false, false, false, false] rfl rfl (by kernel_rfl) (fun _ _ _ h => h) (Or.inl ⟨by rfl, ?_⟩) ?_ ?_
  rotate_left
  · intro w'
    go_simp
    with_reducible rfl
  rotate_left
  · simp only [Act.put, List.setIfInBounds_toArray, List.set_cons_zero, List.set_cons_succ, i64_w, i32_w]
    rfl
  refine take_ (i := 1) (N := some 37) (v := ?_) (a' := ?_) #[true, true, true, false, true, false, false, true, false, false, false, false] rfl rfl (by kernel_rfl) (fun _ _ _ h => h) (Or.inl ⟨by rfl, ?_⟩) hHeld ?_ ?_
  rotate_left
  · intro w' s0
    go_simp
    with_reducible rfl
  rotate_left
  · simp only [Act.put, List.setIfInBounds_toArray, List.set_cons_zero, List.set_cons_succ, i64_w, i32_w]
    rfl
  refine take_ (i := 5) (N := some 41) (v := ?_) (a' := ?_) #[true, true, true, false, true, true, false, true, false, false, false, false] rfl rfl (by kernel_rfl) (fun _ _ _ h => h) (Or.inl ⟨by rfl, ?_⟩) hHeld ?_ ?_
  rotate_left
  · intro w' s0
    go_simp
    with_reducible rfl
  rotate_left
  · simp only [Act.put, List.setIfInBounds_toArray, List.set_cons_zero, List.set_cons_succ, i64_w, i32_w]
    rfl
  refine pure_ (i := 6) (N := some 42) (v := ?_) (a' := ?_) #[true, true, true, false, true, true, true, true, false, false, false, false] rfl rfl (by kernel_rfl) (fun _ _ _ h => h) (Or.inl ⟨by rfl, ?_⟩) ?_ ?_
  rotate_left
  · intro w'
    go_simp
    with_reducible rfl
  rotate_left
  · simp only [Act.put, List.setIfInBounds_toArray, List.set_cons_zero, List.set_cons_succ, i64_w, i32_w]
    rfl
  refine one_ (i := 3) (N := some 39) #[true, true, true, true, true, true, true, true, false, false, false, false] rfl rfl (by kernel_rfl) (by decide) (fun K hK => ?_)
  refine goes_ Try.func109 (by kernel_rfl) rfl #[.int .i64 v] (by rfl) rfl rfl (by simp only [List.map_toArray, List.map_cons, List.map_nil]; rfl) ?_
  with_reducible refine (rlow_any _ v HV.out).mono ?_
  rintro e w5 ⟨rfl, rfl⟩
  refine ⟨_, rfl, ?_⟩
  refine hK.out _ _ (y2) (fun hHeld => ?_)
  clear hK K
  refine norm_ (a' := ?_) ?_ ?_
  rotate_left
  · show Act.put _ (some 39) _ = _
    simp only [Act.put, List.setIfInBounds_toArray, List.set_cons_zero, List.set_cons_succ, i64_w, i32_w]
    rfl
  refine pure_ (i := 8) (N := some 44) (v := ?_) (a' := ?_) #[true, true, true, true, true, true, true, true, true, false, false, false] rfl rfl (by kernel_rfl) (fun _ _ _ h => h) (Or.inl ⟨by rfl, ?_⟩) ?_ ?_
  rotate_left
  · intro w'
    go_simp
    with_reducible rfl
  rotate_left
  · simp only [Act.put, List.setIfInBounds_toArray, List.set_cons_zero, List.set_cons_succ, i64_w, i32_w]
    rfl
  refine one_ (i := 9) (N := none) #[true, true, true, true, true, true, true, true, true, true, false, false] rfl rfl (by kernel_rfl) (by decide) (fun K hK => ?_)
  refine skip_ (w1 := ?_) (by rfl) rfl ?_ ?_
  rotate_left
  · go_simp
    rfl
  refine hK.out _ _ (z2) (fun hHeld => ?_)
  clear hK K
  refine pure_ (i := 10) (N := some 45) (v := ?_) (a' := ?_) #[true, true, true, true, true, true, true, true, true, true, true, false] rfl rfl (by kernel_rfl) (fun _ _ _ h => h) (Or.inl ⟨by rfl, ?_⟩) ?_ ?_
  rotate_left
  · intro w'
    go_simp
    with_reducible rfl
  rotate_left
  · simp only [Act.put, List.setIfInBounds_toArray, List.set_cons_zero, List.set_cons_succ, i64_w, i32_w]
    rfl
  refine last_ (i := 11) (N := none) #[true, true, true, true, true, true, true, true, true, true, true, true] rfl rfl (by kernel_rfl) (by decide) (fun K hK => ?_)
  refine skip_ (w1 := ?_) (by rfl) rfl ?_ ?_
  rotate_left
  · go_simp
    rfl
  refine hK.out _ _ ?_
  clear hK K
  refine done_ (by kernel_rfl) ?_
  clear y2 z2 yI fI f2 p1 p2 p3 ewI ewI2
  have X3 := Aside0.mk (show (((w2.setCell ⟨gx, 11 + I, none⟩ (.int .i64 v)).setCell ⟨gx, 2, none⟩ (.int .i64 J)).drew).heap[gx]? = some (.cells (nums .i64 ((r.set (11 + I) v).set 2 J)).toArray 110 (0, 0)) from nums_put XE.out (j := 2) J)
  have B3 := Aside0.mk (show Below W.heap.size W (((w2.setCell ⟨gx, 11 + I, none⟩ (.int .i64 v)).setCell ⟨gx, 2, none⟩ (.int .i64 J)).drew) from below_drew ((B2.out.setCell GE.out _).setCell GE.out _))
  have HL3 := Aside0.mk (show ((r.set (11 + I) v).set 2 J).length = 27 from by rw [List.length_set, List.length_set]; exact H27.out)
  generalize ((w2.setCell ⟨gx, 11 + I, none⟩ (.int .i64 v)).setCell ⟨gx, 2, none⟩ (.int .i64 J)).drew = w3 at *
  have HW3 := Aside0.mk (HWI.out w3 ((r.set (11 + I) v).set 2 J) (rdc_below HR.out B3.out) HL3.out)
  go_wp2_with (first
    | (refine list_load110b rfl (.tmp 6) rfl rfl HL3.out X3.out ?_)
    | (go_at_call 108; (refine HW3.out.mono ?_); rintro e w4 ⟨A9, c9, rfl, ho, hb⟩; have O4 := Aside0.mk ho; have B4 := Aside0.mk hb; clear ho hb))
  go_ret2
  refine ⟨A9, c9, rfl, ?_, B3.out.trans (B4.out.mono B3.out.size)⟩
  have h4 := O4.out
  rw [show n - 1 = m by have := HNN.out; omega] at h4
  exact own_weaken h4 B3.out.size
theorem turn_eq {is : List Int} {m I : Nat} (hl : is.length = (m + 1) * 27) (hi : I < 16) (ht : is.getD (m * 27 + 2) 0 = ((I + 1 : Nat) : Int)) (v : Int) : is.take (m * 27) ++ ((((rowI is m).set (11 + I) 0).set 2 (I : Int)).set (11 + I) v).set 2 ((I : Int) + 1) = is.set (m * 27 + 11 + I) v := by
  have h2 : is[m * 27 + 2]? = some ((I : Int) + 1) := by
    rw [List.getD_eq_getElem?_getD, List.getElem?_eq_getElem (by omega)] at ht
    rw [List.getElem?_eq_getElem (by omega)]
    congr 1
  refine List.ext_getElem? fun j => ?_
  rw [List.getElem?_append, List.length_take]
  rw [show (is.set (m * 27 + 11 + I) v)[j]? = if m * 27 + 11 + I = j then (if m * 27 + 11 + I < is.length then some v else none) else is[j]? from List.getElem?_set]
  have hmn : min (m * 27) is.length = m * 27 := by omega
  rw [hmn]
  by_cases h : j < m * 27
  · rw [if_pos h, List.getElem?_take, if_pos h, if_neg (by omega)]
  · rw [if_neg h]
    have hrl : (rowI is m).length = 27 := rowI_len hl (by omega)
    simp only [List.getElem?_set, List.length_set, hrl]
    by_cases e2 : j = m * 27 + 2
    · subst e2
      rw [if_pos (by omega), if_pos (by decide), if_neg (by omega), h2]
    · rw [if_neg (by omega)]
      by_cases e3 : j = m * 27 + 11 + I
      · subst e3
        rw [if_pos (by omega), if_pos (by omega), if_pos (by omega), if_pos (by omega)]
      · rw [if_neg (by omega), if_neg (by omega), if_neg (by omega), if_neg (by omega)]
        unfold rowI
        by_cases h27 : j - m * 27 < 27
        · rw [List.getElem?_take, if_pos h27, List.getElem?_drop, show m * 27 + (j - m * 27) = j by omega]
        · rw [List.getElem?_take, if_neg h27, List.getElem?_eq_none (by omega)]
theorem own_rdw {W : World} {b n c : Nat} {A : Option Addr} {fx : List Value} (h : W.ownsRow b 110 27 (.slice A n c) n fx) : RdC W A n 27 fx := own_rdc (v := .bool true) h
set_option maxHeartbeats 16000000 in
set_option maxRecDepth 100000 in
theorem rturn_any {W : World} {A : Option Addr} {n c : Nat} {is : List Int} (hr : RdC W A n 27 (nums .i64 is)) (hn : n ≤ 100000) (hc : n ≤ c) {v : Int} (hv : 0 ≤ v ∧ v ≤ 1000000) : Calls Try.prog 88 #[.slice A n c, .int .i64 v] W fun e w' => ∃ A9 c9, e = .returned (.slice A9 n c9) ∧ RdC w' A9 n 27 (nums .i64 (turnI n is v)) ∧ Below W.heap.size W w' := by
  by_cases hok : 0 < n ∧ 1 ≤ topN n is ∧ topN n is ≤ 16
  · obtain ⟨m, rfl⟩ : ∃ m, n = m + 1 := ⟨n - 1, by omega⟩
    obtain ⟨I, hI⟩ : ∃ I : Nat, topN (m + 1) is = ((I + 1 : Nat) : Int) := ⟨(topN (m + 1) is - 1).toNat, by omega⟩
    have hi : I < 16 := by omega
    have ht : is.getD (m * 27 + 2) 0 = ((I + 1 : Nat) : Int) := hI
    have hl := fr_len hr
    have hT : turnI (m + 1) is v = is.set (m * 27 + 11 + I) v := by
      unfold turnI
      rw [if_pos ⟨hok.1, by omega, hok.2.2⟩, hI, show (((I + 1 : Nat) : Int) - 1).toNat = I by omega]
      rfl
    have HT := Aside0.mk (hT.trans (turn_eq hl hi ht v).symm)
    have HP := Aside0.mk (rpop_yes hr hn hc hi ht)
    have HPU := Aside0.mk (fun (w9 : World) (B : Option Addr) (cb : Nat) (is9 : List Int) (h9 : RdC w9 B (m + 1) 27 (nums .i64 is9)) (hcb : m + 1 ≤ cb) (h : is9.getD (m * 27 + 2) 0 = (I : Int)) => rpush_any (I := I) h9 hn hcb hi h hv)
    have HL := Aside0.mk hl
    have HI := Aside0.mk hi
    clear hr hn hc hv hok hI hi ht hl hT
    obtain ⟨n, hnn⟩ : ∃ n, n = m + 1 := ⟨_, rfl⟩
    rw [← hnn] at HP HPU HT HL ⊢
    have HNN := Aside0.mk hnn
    clear hnn
    have hu59 := Try.underlying59
    go_enter Try.func88, Try.ntmps88
    go_upto_region 4 with (go_at_call 101; (refine HP.out.mono ?_); rintro e w1 ⟨A1, c1, v1, rfl, ho, hb⟩; have O1 := Aside0.mk ho; have B1 := Aside0.mk hb; clear ho hb)
    obtain ⟨r2, hr2⟩ : ∃ r2, r2 = ((rowI is m).set (11 + I) 0).set 2 (I : Int) := ⟨_, rfl⟩
    have h27 : r2.length = 27 := by rw [hr2, List.length_set, List.length_set]; exact rowI_len (i := m) (n := n) HL.out (by have := HNN.out; omega)
    have ht2 : r2.getD 2 0 = (I : Int) := by rw [hr2, getD_set_i _ _ _ _ (by rw [List.length_set, rowI_len (i := m) (n := n) HL.out (by have := HNN.out; omega)]; decide), if_pos rfl]
    rw [← hr2] at O1 HT
    have htl : (is.take (m * 27)).length = m * 27 := by rw [List.length_take]; have := HL.out; have := HNN.out; omega
    have HQ := Aside0.mk (HPU.out w1 A1 c1 (is.take (m * 27) ++ r2) (own_rdw O1.out) (own_cap O1.out) (by rw [List.getD_eq_getElem?_getD, List.getElem?_append, htl, if_neg (by omega), show m * 27 + 2 - m * 27 = 2 by omega, ← List.getD_eq_getElem?_getD]; exact ht2))
    have e1 : (is.take (m * 27) ++ r2).take (m * 27) = is.take (m * 27) := by rw [List.take_append_of_le_length (by omega), List.take_take, Nat.min_self]
    have e2 : rowI (is.take (m * 27) ++ r2) m = r2 := by
      unfold rowI
      rw [List.drop_append_of_le_length (by omega), List.drop_of_length_le (by omega), List.nil_append, List.take_of_length_le (by omega)]
    rw [e1, e2] at HQ
    clear hr2 h27 ht2 htl e1 e2
    go_wp2_with (go_at_call 102; (refine HQ.out.mono ?_); rintro e w2 ⟨A2, c2, rfl, ho, hb⟩; have O2 := Aside0.mk ho; have B2 := Aside0.mk hb; clear ho hb)
    go_ret
    exact ⟨A2, c2, rfl, by rw [HT.out]; exact own_rdw O2.out, below_step B1.out B2.out⟩
  · have HT := Aside0.mk (show turnI n is v = is from by
      unfold turnI
      rw [if_neg (fun q => hok ⟨q.1, by have := q.2.1; omega, q.2.2⟩)])
    have HP := Aside0.mk (rpop_no (c := c) hr hn hok)
    have HR := Aside0.mk hr
    clear hr hn hc hv hok
    go_enter Try.func88, Try.ntmps88
    go_wp2_with (go_at_call 101; (refine HP.out.mono ?_); rintro e w1 ⟨rfl, rfl⟩)
    go_ret
    exact ⟨A, c, rfl, by rw [HT.out]; exact HR.out, Below.refl _ _⟩
end Go.Proofs.Ytakbhnfmimnbhaa.Rn
