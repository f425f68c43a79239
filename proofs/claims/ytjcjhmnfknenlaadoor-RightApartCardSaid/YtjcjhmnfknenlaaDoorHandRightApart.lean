/- RightApart: the walk by hand. Conditions: none. -/
import Derived.Test.YtjcjhmnfknenlaaDoorRu8
import Derived.Test.YtjcjhmnfknenlaaDoorOkRightApart
namespace Go.Proofs.YtjcjhmnfknenlaaDoor.rightApartW
open Go.RowKit Go.Proofs.YtjcjhmnfknenlaaDoor.PRightApart Go.Proofs.YtjcjhmnfknenlaaDoorW.PrintWords Go.Proofs.YtjcjhmnfknenlaaDoorW.PrintLast
open Rt
set_option linter.unusedVariables false
set_option linter.unusedSimpArgs false

theorem rd31 {l : List S31} {i : Nat} (hi : i < l.length) : rd_T31 l (i : Int) ∈ l := by
  unfold rd_T31
  rw [Int.toNat_natCast, List.getD_eq_getElem?_getD, List.getElem?_eq_getElem hi]
  exact List.getElem_mem hi
theorem u64_nat {x : Int} (h : (Lit.int .u64 x).wf = true) : ∃ s : Nat, x = (s : Int) ∧ s < Bt.top := by
  have e1 : IntKind.u64.min = 0 := by decide
  have e2 : IntKind.u64.max = 18446744073709551615 := by decide
  simp only [Lit.wf, Bool.and_eq_true, decide_eq_true_eq, e1, e2] at h
  exact ⟨x.toNat, by omega, by unfold Bt.top; omega⟩
set_option maxHeartbeats 8000000 in
set_option maxRecDepth 100000 in
theorem walk (A0 : Option Addr) (c0 : Nat) (l0 : List (S31)) (A1 : Option Addr) (c1 : Nat) (l1 : List (S31)) (w : World) (hT : Tb.Tab w) (hr0 : Kd.C k31 w A0 l0.length l0) (hc0 : l0.length ≤ c0) (hr1 : Kd.C k31 w A1 l1.length l1) (hc1 : l1.length ≤ c1) (w0 : (fun l => (∀ a ∈ l, (ok31) a) ∧ l.length * 32 ≤ 140737488351232) l0) (w1 : (fun l => (∀ a ∈ l, (ok31) a) ∧ l.length * 32 ≤ 140737488351232) l1) :
    Calls Tryd.prog 5 #[.slice A0 l0.length c0, .slice A1 l1.length c1] w fun e w' => e = .returned (.bool true) ∧ Below w.heap.size w w' := by
  have HT := Aside0.mk hT
  have HR := Aside0.mk hr0
  have HRB := Aside0.mk hr1
  have HOK := Aside0.mk (show ∀ a ∈ l0, ok31 a from w0.1)
  have HOKB1 := Aside0.mk (show ∀ a ∈ l1, ok31 a from w1.1)
  have hu31 := Tryd.underlying31
  have hu28 := Tryd.underlying28
  clear hT hr0 hc0 hr1 hc1 w0 w1
  obtain ⟨n, hn⟩ : ∃ n, n = l0.length := ⟨_, rfl⟩
  obtain ⟨nb, hnb⟩ : ∃ nb, nb = l1.length := ⟨_, rfl⟩
  rw [← hn] at HR ⊢
  rw [← hnb] at HRB ⊢
  have HN := Aside0.mk hn
  have HNB := Aside0.mk hnb
  clear hn hnb
  go_enter Tryd.func5, Tryd.ntmps5
  go_upto_region 2 with (first
    | (go_at_call 7; (refine (new_any w).mono ?_); rintro e wa ⟨g, rfl, hg, hA, hb⟩; have HG := Aside0.mk hg; have HA := Aside0.mk hA; have HBA := Aside0.mk hb; clear hg hA hb)
    | (refine wpList_build rfl 28 #[] rfl (by kernel_rfl) ?_; rw [show (Tryd.prog.built 28 (#[].map fun (x : Nat × Operand) => (x.1, x.2)).toList).getD #[] = Rf.enc Rf.Z0 from by kernel_rfl])
    | ((with_reducible refine gate_dst (N := 6) rfl ?_); refine box_event ?hg (N := 6) ?hd (cs := Rf.enc Rf.Z0) (t := 28) ?hr ?_; (case hd => rfl); (case hg => rfl); (case hr => first | (go_simp; done) | (go_simp; rfl)); intro g1 hg wb hbox hb; have HB1 := Aside0.mk hb; have HG1 := Aside0.mk hg; have BX1 := Aside0.mk hbox; clear hbox hb hg)
    | (refine wpList_plain rfl fun _ hK => wp_store_row 28 (.tmp 6) (.tmp 12) rfl g1 (Rf.enc Rf.Z0) rfl rfl 28 (Rf.enc Rf.Z0) BX1.out (Rf.sz rfl) rfl (Rf.enc_one _) (hK _ _ ?_)))
  have HS0 := Aside0.mk ((row_new HA.out HBA.out (by have := HG.out; omega) (fun b hb => by cases hb) HB1.out (by have := HG1.out; omega) BX1.out).set Rf.Z0)
  clear HG HA HBA HB1 HG1 BX1
  generalize wb.setRow g1 (Rf.enc Rf.Z0) = wc at *
  go_upto_block 0 with (fail)
  go_wp2
  go_loopg [7] n (fun kq v7 w' => ∃ (i : Nat) (p : Int → Int → Bool) (B : List Nat), v7 = .int .i64 (i : Int) ∧ Aside0 (i + kq = n) ∧ Aside0 (i ≤ 30) ∧ Aside0 (Q w w' g g1 (64 * i) p B) ∧ Aside0 (Rf.Rel p B))
  case atStart => exact ⟨0, _, _, rfl, ⟨by omega⟩, ⟨by omega⟩, HS0, ⟨Rf.rel0⟩⟩
  case round =>
    clear HS0
    obtain ⟨i, p, B, rfl, HK, HI30, HS, HRL⟩ := hrel
    by_cases hgo : i < n ∧ i < 30
    · rcases gk with _ | k1
      · exact absurd hgo.1 (by have := HK.out; omega)
      have hin := hgo.1
      have d1 : decide ((i : Int) < (n : Int)) = true := decide_eq_true (by omega)
      have d2 : decide (i < n) = true := decide_eq_true hin
      have d3 : decide ((i : Int) < 30) = true := decide_eq_true (by omega)
      have d4 : decide (i < 30) = true := decide_eq_true hgo.2
      have p1 : (0 ≤ (i : Int)) = True := eq_true (by omega)
      have p2 : ((i : Int) < (n : Int)) = True := eq_true (by omega)
      have HI2 := Aside0.mk hgo.2
      have hmem := rd31 (l := l0) (i := i) (by rw [← HN.out]; exact hin)
      have hok := HOK.out _ hmem
      obtain ⟨s, hs, hst⟩ := u64_nat hok.2.2.2
      have WF := Aside0.mk (show Wf (rd_T31 l0 (i : Int)).f1 from hok.2.1)
      have WT := Aside0.mk (show Wf (rd_T31 l0 (i : Int)).f2 from hok.2.2.1)
      have HST := Aside0.mk hst
      obtain ⟨ad, ea, x0, x1, x2, x3⟩ := at_T31 HR.out (i : Int) (by omega) (by omega)
      subst ea
      rw [Int.toNat_natCast] at x0 x1 x2 x3
      rw [hs] at x3
      have X0 := Aside0.mk x0
      have X1 := Aside0.mk x1
      have X2 := Aside0.mk x2
      have X3 := Aside0.mk x3
      clear hmem hok hs hst hgo hin x0 x1 x2 x3
      obtain ⟨k, hk⟩ : ∃ k, k = (rd_T31 l0 (i : Int)).f0 := ⟨_, rfl⟩
      obtain ⟨f, hf⟩ : ∃ f, f = (rd_T31 l0 (i : Int)).f1 := ⟨_, rfl⟩
      obtain ⟨t, ht⟩ : ∃ t, t = (rd_T31 l0 (i : Int)).f2 := ⟨_, rfl⟩
      rw [← hk] at X0
      rw [← hf] at X1 WF
      rw [← ht] at X2 WT
      clear hk hf ht
      have ew : Aside0 (wrap64 ((i : Int) + 1) = (i : Int) + 1) := ⟨by have h2 := HI2.out; unfold wrap64; omega⟩
      have y0 := cellB HS.out.hb X0.out
      have y1 := cellB HS.out.hb X1.out
      have y2 := cellB HS.out.hb X2.out
      have y3 := cellB HS.out.hb X3.out
      go_upto_region 6 with (go_at_call 8; (refine (row_do WF.out WT.out HST.out (by have := HI2.out; omega) HT.out HS.out).mono ?_); rintro e wc2 ⟨rfl, h⟩; have S3 := Aside0.mk h; clear h)
      clear y0 y1 y2 y3 HS
      have HQD := Aside0.mk (show Q w wc2.drew g g1 (64 * i + 64) (doP p k f t s) B from S3.out.drewN 1)
      have HRL2 := Aside0.mk (HRL.out.do_ k f t HST.out)
      have HOKB := Aside0.mk HRL.out.ok
      have HOK2 := Aside0.mk HRL2.out.ok
      generalize doP p k f t s = q at *
      refine start_ (n := 7) (S := fun w' => w'.heap[g1]? = some (.cells (Rf.enc B) 28 (0, 0)) ∧ w'.cell? (ad.add (i * 4)) = some (.int .i64 k) ∧ w'.cell? ⟨(ad.add (i * 4)).block, (ad.add (i * 4)).off + 1, none⟩ = some (.int .i64 f) ∧ w'.cell? ⟨(ad.add (i * 4)).block, (ad.add (i * 4)).off + 2, none⟩ = some (.int .i64 t) ∧ w'.cell? ⟨(ad.add (i * 4)).block, (ad.add (i * 4)).off + 3, none⟩ = some (.int .u64 (s : Int))) (ds := [6]) #[false, false, false, false, false, false, false] (by kernel_rfl) rfl rfl ⟨HQD.out.row, cellB HQD.out.hb X0.out, cellB HQD.out.hb X1.out, cellB HQD.out.hb X2.out, cellB HQD.out.hb X3.out⟩ (fun hHeld => ?_)
      refine pure_ (i := 1) (N := some 30) (v := ?_) (a' := ?_) #[false, true, false, false, false, false, false] rfl rfl (by kernel_rfl) (fun _ _ _ h => h) (Or.inl ⟨by rfl, ?_⟩) ?_ ?_
      rotate_left
      · intro w'
        go_simp
        with_reducible rfl
      rotate_left
      · simp only [Act.put, List.setIfInBounds_toArray, List.set_cons_zero, List.set_cons_succ, i64_w, i32_w]
        rfl
      refine pure_ (i := 2) (N := some 31) (v := ?_) (a' := ?_) #[false, true, true, false, false, false, false] rfl rfl (by kernel_rfl) (fun _ _ _ h => h) (Or.inl ⟨by rfl, ?_⟩) ?_ ?_
      rotate_left
      · intro w'
        go_simp
        with_reducible rfl
      rotate_left
      · simp only [Act.put, List.setIfInBounds_toArray, List.set_cons_zero, List.set_cons_succ, i64_w, i32_w]
        rfl
      refine pure_ (i := 3) (N := some 32) (v := ?_) (a' := ?_) #[false, true, true, true, false, false, false] rfl rfl (by kernel_rfl) (fun _ _ _ h => h) (Or.inl ⟨by rfl, ?_⟩) ?_ ?_
      rotate_left
      · intro w'
        go_simp
        with_reducible rfl
      rotate_left
      · simp only [Act.put, List.setIfInBounds_toArray, List.set_cons_zero, List.set_cons_succ, i64_w, i32_w]
        rfl
      refine take_ (i := 0) (N := some 29) (v := ?_) (a' := ?_) #[true, true, true, true, false, false, false] rfl rfl (by kernel_rfl) (fun _ _ _ h => h) (Or.inl ⟨by rfl, ?_⟩) hHeld ?_ ?_
      rotate_left
      · rintro w' ⟨s0, s1, s2, s3, s4⟩
        (refine Rf.ex_load (x := .tmp 6) ?_ ?_ HOKB.out.1 s0 <;> rfl)
      rotate_left
      · simp only [Act.put, List.setIfInBounds_toArray, List.set_cons_zero, List.set_cons_succ, i64_w, i32_w]
        rfl
      refine take_ (i := 4) (N := some 33) (v := ?_) (a' := ?_) #[true, true, true, true, true, false, false] rfl rfl (by kernel_rfl) (fun _ _ _ h => h) (Or.inl ⟨by rfl, ?_⟩) hHeld ?_ ?_
      rotate_left
      · rintro w' ⟨s0, s1, s2, s3, s4⟩
        go_simp
        with_reducible rfl
      rotate_left
      · simp only [Act.put, List.setIfInBounds_toArray, List.set_cons_zero, List.set_cons_succ, i64_w, i32_w]
        rfl
      refine one_ (i := 5) (N := some 34) #[true, true, true, true, true, true, false] rfl rfl (by kernel_rfl) (by decide) (fun K hK => ?_)
      refine goes_ Tryd.func9 (by kernel_rfl) rfl #[.agg (Rf.enc B), .agg #[.int .i64 k, .int .i64 f, .int .i64 t, .int .u64 (s : Int)]] (by rfl) rfl rfl (by simp only [List.map_toArray, List.map_cons, List.map_nil]; rfl) ?_
      with_reducible refine (ref_do HOKB.out k f t HST.out).mono ?_
      rintro e wd ⟨rfl, hb⟩
      refine ⟨_, rfl, ?_⟩
      have S4 := Aside0.mk (HQD.out.below hb)
      clear hb
      refine hK.out _ _ ⟨S4.out.row, cellB S4.out.hb X0.out, cellB S4.out.hb X1.out, cellB S4.out.hb X2.out, cellB S4.out.hb X3.out⟩ (fun hHeld => ?_)
      clear hK K
      refine norm_ (a' := ?_) ?_ ?_
      rotate_left
      · show Act.put _ (some 34) _ = _
        simp only [Act.put, List.setIfInBounds_toArray, List.set_cons_zero, List.set_cons_succ, i64_w, i32_w]
        rfl
      refine last_ (i := 6) (N := none) #[true, true, true, true, true, true, true] rfl rfl (by kernel_rfl) (by decide) (fun K hK => ?_)
      refine skip_ (w1 := wd.setRow g1 (Rf.enc (Rf.do_ B k f t s))) (by rfl) rfl (Rf.ex_store (rfl : _ = Op.store 28 (Operand.tmp 6) (Operand.tmp 34)) rfl rfl HOK2.out.1 HOKB.out.1 S4.out.row) ?_
      refine hK.out _ _ ?_
      clear hK K
      refine done_ (by kernel_rfl) ?_
      have HQ4 := Aside0.mk (S4.out.set (Rf.do_ B k f t s))
      clear S3 S4 HQD
      generalize Rf.do_ B k f t s = B2 at *
      generalize wd.setRow g1 (Rf.enc B2) = w5 at *
      go_wp2
      go_roundg k1
      case measure => omega
      case rel => exact ⟨i + 1, q, B2, by rw [ew.out]; simp, ⟨by have := HK.out; omega⟩, ⟨by have := HI2.out; omega⟩, ⟨HQ4.out.mono (by omega)⟩, HRL2⟩
    · by_cases hin : i < n
      · have h30 : ¬ i < 30 := fun q => hgo ⟨hin, q⟩
        have d1 : decide ((i : Int) < (n : Int)) = true := decide_eq_true (by omega)
        have d2 : decide (i < n) = true := decide_eq_true hin
        have d3 : decide ((i : Int) < 30) = false := decide_eq_false (by omega)
        have d4 : decide (i < 30) = false := decide_eq_false h30
        clear hgo h30 hin
        go_upto_region 8 with (go_at_call 14; (refine (row_clone HS.out).mono ?_); rintro e wk ⟨gc, rfl, h⟩; have HS0 := Aside0.mk h; clear h)
        clear HS
        go_upto_block 2 with (fail)
        go_wp2
        go_loopg [9] nb (fun kq v9 w' => ∃ (e2 : Nat) (q : Int → Int → Bool), v9 = .int .i64 (e2 : Int) ∧ Aside0 (e2 + kq = nb) ∧ Aside0 (e2 ≤ 30) ∧ Aside0 (Q2 w w' g g1 gc (64 * i + 64 * e2) q p B))
        case atStart => exact ⟨0, _, rfl, ⟨by omega⟩, ⟨by omega⟩, HS0⟩
        case round =>
          clear HS0 d1 d2
          try clear d3 d4
          obtain ⟨e2, q, rfl, HE, HE30, HS⟩ := hrel
          by_cases hgo : e2 < nb ∧ e2 < 30
          · rcases gk with _ | k2
            · exact absurd hgo.1 (by have := HE.out; omega)
            have hin := hgo.1
            have d1 : decide ((e2 : Int) < (nb : Int)) = true := decide_eq_true (by omega)
            have d2 : decide (e2 < nb) = true := decide_eq_true hin
            have d3 : decide ((e2 : Int) < 30) = true := decide_eq_true (by omega)
            have d4 : decide (e2 < 30) = true := decide_eq_true hgo.2
            have p1 : (0 ≤ (e2 : Int)) = True := eq_true (by omega)
            have p2 : ((e2 : Int) < (nb : Int)) = True := eq_true (by omega)
            have HI2 := Aside0.mk hgo.2
            have hmem := rd31 (l := l1) (i := e2) (by rw [← HNB.out]; exact hin)
            have hok := HOKB1.out _ hmem
            obtain ⟨s, hs, hst⟩ := u64_nat hok.2.2.2
            have WF := Aside0.mk (show Wf (rd_T31 l1 (e2 : Int)).f1 from hok.2.1)
            have WT := Aside0.mk (show Wf (rd_T31 l1 (e2 : Int)).f2 from hok.2.2.1)
            have HST := Aside0.mk hst
            obtain ⟨ad, ea, x0, x1, x2, x3⟩ := at_T31 HRB.out (e2 : Int) (by omega) (by omega)
            subst ea
            rw [Int.toNat_natCast] at x0 x1 x2 x3
            rw [hs] at x3
            have X0 := Aside0.mk x0
            have X1 := Aside0.mk x1
            have X2 := Aside0.mk x2
            have X3 := Aside0.mk x3
            clear hmem hok hs hst hgo hin x0 x1 x2 x3
            obtain ⟨k, hk⟩ : ∃ k, k = (rd_T31 l1 (e2 : Int)).f0 := ⟨_, rfl⟩
            obtain ⟨f, hf⟩ : ∃ f, f = (rd_T31 l1 (e2 : Int)).f1 := ⟨_, rfl⟩
            obtain ⟨t, ht⟩ : ∃ t, t = (rd_T31 l1 (e2 : Int)).f2 := ⟨_, rfl⟩
            rw [← hk] at X0
            rw [← hf] at X1 WF
            rw [← ht] at X2 WT
            clear hk hf ht
            have ew : Aside0 (wrap64 ((e2 : Int) + 1) = (e2 : Int) + 1) := ⟨by have h2 := HI2.out; unfold wrap64; omega⟩
            have y0 := cellB HS.out.hb X0.out
            have y1 := cellB HS.out.hb X1.out
            have y2 := cellB HS.out.hb X2.out
            have y3 := cellB HS.out.hb X3.out
            go_upto_region 10 with (go_at_call 8; (refine (two_do WF.out WT.out HST.out (by have h1 := HI2.out; have h2 := HI30.out; omega) HT.out HS.out).mono ?_); rintro e wc2 ⟨rfl, h⟩; have S3 := Aside0.mk h; clear h)
            clear y0 y1 y2 y3 HS
            go_wp2
            go_roundg k2
            case measure => omega
            case rel => exact ⟨e2 + 1, _, by rw [ew.out]; simp, ⟨by have := HE.out; omega⟩, ⟨by have := HI2.out; omega⟩, ⟨S3.out.mono (by omega)⟩⟩
          · by_cases hin : e2 < nb
            · have h30 : ¬ e2 < 30 := fun q => hgo ⟨hin, q⟩
              have d1 : decide ((e2 : Int) < (nb : Int)) = true := decide_eq_true (by omega)
              have d2 : decide (e2 < nb) = true := decide_eq_true hin
              have d3 : decide ((e2 : Int) < 30) = false := decide_eq_false (by omega)
              have d4 : decide (e2 < 30) = false := decide_eq_false h30
              clear hgo h30 hin
              go_upto_block 4 with (fail)
              go_wp2
              go_loopg [10] 64 (fun kq v10 w' => ∃ (j : Nat), v10 = .int .i64 (j : Int) ∧ Aside0 (j + kq = 64) ∧ Aside0 (Q2 w w' g g1 gc (64 * i + 64 * e2) q p B))
              case atStart => exact ⟨0, rfl, ⟨by omega⟩, HS⟩
              case round =>
                clear HS
                obtain ⟨j, rfl, HJ, HS⟩ := hrel
                rcases gk with _ | k2
                · have d5 : decide ((j : Int) < 64) = false := decide_eq_false (by have := HJ.out; omega)
                  have d6 : decide (j < 64) = false := decide_eq_false (by have := HJ.out; omega)
                  have HL0 := Aside0.mk (lives_any (Tb.below HT.out HS.out.hb))
                  go_wp2_with (go_at_call 12; (refine HL0.out.mono ?_); rintro e we ⟨rfl, h⟩; have HBE := Aside0.mk (below_step HS.out.hb h); clear h)
                  go_ret
                  exact ⟨rfl, by repeat (first | exact HBE.out | apply below_drew | apply pw_below_drewN)⟩
                · have d5 : decide ((j : Int) < 64) = true := decide_eq_true (by have := HJ.out; omega)
                  have d6 : decide (j < 64) = true := decide_eq_true (by have := HJ.out; omega)
                  have p3 : (0 ≤ (j : Int)) = True := eq_true (by omega)
                  have p4 : ((j : Int) < 64) = True := eq_true (by have := HJ.out; omega)
                  have HLJ := Aside0.mk (show j < B.length from by rw [HRL.out.len]; have := HJ.out; omega)
                  have ew2 : Aside0 (wrap64 ((j : Int) + 1) = (j : Int) + 1) := ⟨by have h2 := HJ.out; unfold wrap64; omega⟩
                  have HQD := Aside0.mk (show Q2 w wr.drew g g1 gc (64 * i + 64 * e2) q p B from HS.out.drewN 1)
                  have HOF := Aside0.mk (show Calls Tryd.prog 11 #[.pointer (some ⟨gc, 0, none⟩), .int .i64 (j : Int)] wr.drew fun e w' => e = .returned (.int .u64 ((B.getD j 0 : Nat) : Int)) ∧ Q2 w w' g g1 gc (64 * i + 64 * e2) q p B from by
                    have e1 := HRL.out.of_eq (j : Int)
                    have e2 : Rf.of B (j : Int) = B.getD j 0 := by unfold Rf.of; rw [if_pos (by have := HJ.out; omega), Int.toNat_natCast]
                    rw [← e2, ← e1]
                    exact two_of (wf_nat (by have := HJ.out; omega)) HQD.out)
                  go_upto_region 15 with (fail)
                  refine start_ (n := 8) (S := fun w' => w'.cell? ⟨g1, j, none⟩ = some (.int .u64 ((B.getD j 0 : Nat) : Int))) (ds := []) #[false, false, false, false, false, false, false, false] (by kernel_rfl) rfl rfl (((blk_cell HQD.out.row j).trans (Rf.enc_get B j HLJ.out))) (fun hHeld => ?_)
                  refine pure_ (i := 0) (N := some 57) (v := ?_) (a' := ?_) #[true, false, false, false, false, false, false, false] rfl rfl (by kernel_rfl) (fun _ _ _ h => h) (Or.inl ⟨by rfl, ?_⟩) ?_ ?_
                  rotate_left
                  · intro w'
                    go_simp
                    with_reducible rfl
                  rotate_left
                  · simp only [Act.put, List.setIfInBounds_toArray, List.set_cons_zero, List.set_cons_succ, i64_w, i32_w]
                    rfl
                  refine pure_ (i := 1) (N := some 58) (v := ?_) (a' := ?_) #[true, true, false, false, false, false, false, false] rfl rfl (by kernel_rfl) (fun _ _ _ h => h) (Or.inl ⟨by rfl, ?_⟩) ?_ ?_
                  rotate_left
                  · intro w'
                    go_simp
                    with_reducible rfl
                  rotate_left
                  · simp only [Act.put, List.setIfInBounds_toArray, List.set_cons_zero, List.set_cons_succ, i64_w, i32_w]
                    rfl
                  refine pure_ (i := 3) (N := some 60) (v := ?_) (a' := ?_) #[true, true, false, true, false, false, false, false] rfl rfl (by kernel_rfl) (fun _ _ _ h => h) (Or.inl ⟨by rfl, ?_⟩) ?_ ?_
                  rotate_left
                  · intro w'
                    go_simp
                    with_reducible rfl
                  rotate_left
                  · simp only [Act.put, List.setIfInBounds_toArray, List.set_cons_zero, List.set_cons_succ, i64_w, i32_w]
                    rfl
                  refine pure_ (i := 4) (N := some 61) (v := ?_) (a' := ?_) #[true, true, false, true, true, false, false, false] rfl rfl (by kernel_rfl) (fun _ _ _ h => h) (Or.inl ⟨by rfl, ?_⟩) ?_ ?_
                  rotate_left
                  · intro w'
                    go_simp
                    with_reducible rfl
                  rotate_left
                  · simp only [Act.put, List.setIfInBounds_toArray, List.set_cons_zero, List.set_cons_succ, i64_w, i32_w]
                    rfl
                  refine pure_ (i := 5) (N := some 62) (v := ?_) (a' := ?_) #[true, true, false, true, true, true, false, false] rfl rfl (by kernel_rfl) (fun _ _ _ h => h) (Or.inl ⟨by rfl, ?_⟩) ?_ ?_
                  rotate_left
                  · intro w'
                    go_simp
                    with_reducible rfl
                  rotate_left
                  · simp only [Act.put, List.setIfInBounds_toArray, List.set_cons_zero, List.set_cons_succ, i64_w, i32_w]
                    rfl
                  refine take_ (i := 6) (N := some 63) (v := ?_) (a' := ?_) #[true, true, false, true, true, true, true, false] rfl rfl (by kernel_rfl) (fun _ _ _ h => h) (Or.inl ⟨by rfl, ?_⟩) hHeld ?_ ?_
                  rotate_left
                  · intro w' s0
                    go_simp
                    with_reducible rfl
                  rotate_left
                  · simp only [Act.put, List.setIfInBounds_toArray, List.set_cons_zero, List.set_cons_succ, i64_w, i32_w]
                    rfl
                  refine one_ (i := 2) (N := some 59) #[true, true, true, true, true, true, true, false] rfl rfl (by kernel_rfl) (by decide) (fun K hK => ?_)
                  refine goes_ Tryd.func11 (by kernel_rfl) rfl #[.pointer (some ⟨gc, 0, none⟩), .int .i64 (j : Int)] (by rfl) rfl rfl (by simp only [List.map_toArray, List.map_cons, List.map_nil]; rfl) ?_
                  with_reducible refine (HOF.out).mono ?_
                  rintro e wf ⟨rfl, h⟩
                  refine ⟨_, rfl, ?_⟩
                  have S8 := Aside0.mk h
                  clear h
                  refine hK.out _ _ (((blk_cell S8.out.row j).trans (Rf.enc_get B j HLJ.out))) (fun hHeld => ?_)
                  clear hK K
                  refine norm_ (a' := ?_) ?_ ?_
                  rotate_left
                  · show Act.put _ (some 59) _ = _
                    simp only [Act.put, List.setIfInBounds_toArray, List.set_cons_zero, List.set_cons_succ, i64_w, i32_w]
                    rfl
                  refine pure_ (i := 7) (N := some 64) (v := ?_) (a' := ?_) #[true, true, true, true, true, true, true, true] rfl rfl (by kernel_rfl) (fun _ _ _ h => h) (Or.inl ⟨by rfl, ?_⟩) ?_ ?_
                  rotate_left
                  · intro w'
                    go_simp
                    with_reducible rfl
                  rotate_left
                  · simp only [Act.put, List.setIfInBounds_toArray, List.set_cons_zero, List.set_cons_succ, i64_w, i32_w]
                    rfl
                  refine done_ (by kernel_rfl) ?_
                  go_wp2
                  go_roundg k2
                  case measure => omega
                  case rel => exact ⟨j + 1, by rw [ew2.out]; simp, ⟨by have := HJ.out; omega⟩, S8⟩
            · have d1 : decide ((e2 : Int) < (nb : Int)) = false := decide_eq_false (by omega)
              have d2 : decide (e2 < nb) = false := decide_eq_false hin
              clear hgo hin
              go_upto_block 4 with (fail)
              go_wp2
              go_loopg [10] 64 (fun kq v10 w' => ∃ (j : Nat), v10 = .int .i64 (j : Int) ∧ Aside0 (j + kq = 64) ∧ Aside0 (Q2 w w' g g1 gc (64 * i + 64 * e2) q p B))
              case atStart => exact ⟨0, rfl, ⟨by omega⟩, HS⟩
              case round =>
                clear HS
                obtain ⟨j, rfl, HJ, HS⟩ := hrel
                rcases gk with _ | k2
                · have d5 : decide ((j : Int) < 64) = false := decide_eq_false (by have := HJ.out; omega)
                  have d6 : decide (j < 64) = false := decide_eq_false (by have := HJ.out; omega)
                  have HL0 := Aside0.mk (lives_any (Tb.below HT.out HS.out.hb))
                  go_wp2_with (go_at_call 12; (refine HL0.out.mono ?_); rintro e we ⟨rfl, h⟩; have HBE := Aside0.mk (below_step HS.out.hb h); clear h)
                  go_ret
                  exact ⟨rfl, by repeat (first | exact HBE.out | apply below_drew | apply pw_below_drewN)⟩
                · have d5 : decide ((j : Int) < 64) = true := decide_eq_true (by have := HJ.out; omega)
                  have d6 : decide (j < 64) = true := decide_eq_true (by have := HJ.out; omega)
                  have p3 : (0 ≤ (j : Int)) = True := eq_true (by omega)
                  have p4 : ((j : Int) < 64) = True := eq_true (by have := HJ.out; omega)
                  have HLJ := Aside0.mk (show j < B.length from by rw [HRL.out.len]; have := HJ.out; omega)
                  have ew2 : Aside0 (wrap64 ((j : Int) + 1) = (j : Int) + 1) := ⟨by have h2 := HJ.out; unfold wrap64; omega⟩
                  have HQD := Aside0.mk (show Q2 w wr.drew g g1 gc (64 * i + 64 * e2) q p B from HS.out.drewN 1)
                  have HOF := Aside0.mk (show Calls Tryd.prog 11 #[.pointer (some ⟨gc, 0, none⟩), .int .i64 (j : Int)] wr.drew fun e w' => e = .returned (.int .u64 ((B.getD j 0 : Nat) : Int)) ∧ Q2 w w' g g1 gc (64 * i + 64 * e2) q p B from by
                    have e1 := HRL.out.of_eq (j : Int)
                    have e2 : Rf.of B (j : Int) = B.getD j 0 := by unfold Rf.of; rw [if_pos (by have := HJ.out; omega), Int.toNat_natCast]
                    rw [← e2, ← e1]
                    exact two_of (wf_nat (by have := HJ.out; omega)) HQD.out)
                  go_upto_region 15 with (fail)
                  refine start_ (n := 8) (S := fun w' => w'.cell? ⟨g1, j, none⟩ = some (.int .u64 ((B.getD j 0 : Nat) : Int))) (ds := []) #[false, false, false, false, false, false, false, false] (by kernel_rfl) rfl rfl (((blk_cell HQD.out.row j).trans (Rf.enc_get B j HLJ.out))) (fun hHeld => ?_)
                  refine pure_ (i := 0) (N := some 57) (v := ?_) (a' := ?_) #[true, false, false, false, false, false, false, false] rfl rfl (by kernel_rfl) (fun _ _ _ h => h) (Or.inl ⟨by rfl, ?_⟩) ?_ ?_
                  rotate_left
                  · intro w'
                    go_simp
                    with_reducible rfl
                  rotate_left
                  · simp only [Act.put, List.setIfInBounds_toArray, List.set_cons_zero, List.set_cons_succ, i64_w, i32_w]
                    rfl
                  refine pure_ (i := 1) (N := some 58) (v := ?_) (a' := ?_) #[true, true, false, false, false, false, false, false] rfl rfl (by kernel_rfl) (fun _ _ _ h => h) (Or.inl ⟨by rfl, ?_⟩) ?_ ?_
                  rotate_left
                  · intro w'
                    go_simp
                    with_reducible rfl
                  rotate_left
                  · simp only [Act.put, List.setIfInBounds_toArray, List.set_cons_zero, List.set_cons_succ, i64_w, i32_w]
                    rfl
                  refine pure_ (i := 3) (N := some 60) (v := ?_) (a' := ?_) #[true, true, false, true, false, false, false, false] rfl rfl (by kernel_rfl) (fun _ _ _ h => h) (Or.inl ⟨by rfl, ?_⟩) ?_ ?_
                  rotate_left
                  · intro w'
                    go_simp
                    with_reducible rfl
                  rotate_left
                  · simp only [Act.put, List.setIfInBounds_toArray, List.set_cons_zero, List.set_cons_succ, i64_w, i32_w]
                    rfl
                  refine pure_ (i := 4) (N := some 61) (v := ?_) (a' := ?_) #[true, true, false, true, true, false, false, false] rfl rfl (by kernel_rfl) (fun _ _ _ h => h) (Or.inl ⟨by rfl, ?_⟩) ?_ ?_
                  rotate_left
                  · intro w'
                    go_simp
                    with_reducible rfl
                  rotate_left
                  · simp only [Act.put, List.setIfInBounds_toArray, List.set_cons_zero, List.set_cons_succ, i64_w, i32_w]
                    rfl
                  refine pure_ (i := 5) (N := some 62) (v := ?_) (a' := ?_) #[true, true, false, true, true, true, false, false] rfl rfl (by kernel_rfl) (fun _ _ _ h => h) (Or.inl ⟨by rfl, ?_⟩) ?_ ?_
                  rotate_left
                  · intro w'
                    go_simp
                    with_reducible rfl
                  rotate_left
                  · simp only [Act.put, List.setIfInBounds_toArray, List.set_cons_zero, List.set_cons_succ, i64_w, i32_w]
                    rfl
                  refine take_ (i := 6) (N := some 63) (v := ?_) (a' := ?_) #[true, true, false, true, true, true, true, false] rfl rfl (by kernel_rfl) (fun _ _ _ h => h) (Or.inl ⟨by rfl, ?_⟩) hHeld ?_ ?_
                  rotate_left
                  · intro w' s0
                    go_simp
                    with_reducible rfl
                  rotate_left
                  · simp only [Act.put, List.setIfInBounds_toArray, List.set_cons_zero, List.set_cons_succ, i64_w, i32_w]
                    rfl
                  refine one_ (i := 2) (N := some 59) #[true, true, true, true, true, true, true, false] rfl rfl (by kernel_rfl) (by decide) (fun K hK => ?_)
                  refine goes_ Tryd.func11 (by kernel_rfl) rfl #[.pointer (some ⟨gc, 0, none⟩), .int .i64 (j : Int)] (by rfl) rfl rfl (by simp only [List.map_toArray, List.map_cons, List.map_nil]; rfl) ?_
                  with_reducible refine (HOF.out).mono ?_
                  rintro e wf ⟨rfl, h⟩
                  refine ⟨_, rfl, ?_⟩
                  have S8 := Aside0.mk h
                  clear h
                  refine hK.out _ _ (((blk_cell S8.out.row j).trans (Rf.enc_get B j HLJ.out))) (fun hHeld => ?_)
                  clear hK K
                  refine norm_ (a' := ?_) ?_ ?_
                  rotate_left
                  · show Act.put _ (some 59) _ = _
                    simp only [Act.put, List.setIfInBounds_toArray, List.set_cons_zero, List.set_cons_succ, i64_w, i32_w]
                    rfl
                  refine pure_ (i := 7) (N := some 64) (v := ?_) (a' := ?_) #[true, true, true, true, true, true, true, true] rfl rfl (by kernel_rfl) (fun _ _ _ h => h) (Or.inl ⟨by rfl, ?_⟩) ?_ ?_
                  rotate_left
                  · intro w'
                    go_simp
                    with_reducible rfl
                  rotate_left
                  · simp only [Act.put, List.setIfInBounds_toArray, List.set_cons_zero, List.set_cons_succ, i64_w, i32_w]
                    rfl
                  refine done_ (by kernel_rfl) ?_
                  go_wp2
                  go_roundg k2
                  case measure => omega
                  case rel => exact ⟨j + 1, by rw [ew2.out]; simp, ⟨by have := HJ.out; omega⟩, S8⟩
      · have d1 : decide ((i : Int) < (n : Int)) = false := decide_eq_false (by omega)
        have d2 : decide (i < n) = false := decide_eq_false hin
        clear hgo hin
        go_upto_region 8 with (go_at_call 14; (refine (row_clone HS.out).mono ?_); rintro e wk ⟨gc, rfl, h⟩; have HS0 := Aside0.mk h; clear h)
        clear HS
        go_upto_block 2 with (fail)
        go_wp2
        go_loopg [9] nb (fun kq v9 w' => ∃ (e2 : Nat) (q : Int → Int → Bool), v9 = .int .i64 (e2 : Int) ∧ Aside0 (e2 + kq = nb) ∧ Aside0 (e2 ≤ 30) ∧ Aside0 (Q2 w w' g g1 gc (64 * i + 64 * e2) q p B))
        case atStart => exact ⟨0, _, rfl, ⟨by omega⟩, ⟨by omega⟩, HS0⟩
        case round =>
          clear HS0 d1 d2
          try clear d3 d4
          obtain ⟨e2, q, rfl, HE, HE30, HS⟩ := hrel
          by_cases hgo : e2 < nb ∧ e2 < 30
          · rcases gk with _ | k2
            · exact absurd hgo.1 (by have := HE.out; omega)
            have hin := hgo.1
            have d1 : decide ((e2 : Int) < (nb : Int)) = true := decide_eq_true (by omega)
            have d2 : decide (e2 < nb) = true := decide_eq_true hin
            have d3 : decide ((e2 : Int) < 30) = true := decide_eq_true (by omega)
            have d4 : decide (e2 < 30) = true := decide_eq_true hgo.2
            have p1 : (0 ≤ (e2 : Int)) = True := eq_true (by omega)
            have p2 : ((e2 : Int) < (nb : Int)) = True := eq_true (by omega)
            have HI2 := Aside0.mk hgo.2
            have hmem := rd31 (l := l1) (i := e2) (by rw [← HNB.out]; exact hin)
            have hok := HOKB1.out _ hmem
            obtain ⟨s, hs, hst⟩ := u64_nat hok.2.2.2
            have WF := Aside0.mk (show Wf (rd_T31 l1 (e2 : Int)).f1 from hok.2.1)
            have WT := Aside0.mk (show Wf (rd_T31 l1 (e2 : Int)).f2 from hok.2.2.1)
            have HST := Aside0.mk hst
            obtain ⟨ad, ea, x0, x1, x2, x3⟩ := at_T31 HRB.out (e2 : Int) (by omega) (by omega)
            subst ea
            rw [Int.toNat_natCast] at x0 x1 x2 x3
            rw [hs] at x3
            have X0 := Aside0.mk x0
            have X1 := Aside0.mk x1
            have X2 := Aside0.mk x2
            have X3 := Aside0.mk x3
            clear hmem hok hs hst hgo hin x0 x1 x2 x3
            obtain ⟨k, hk⟩ : ∃ k, k = (rd_T31 l1 (e2 : Int)).f0 := ⟨_, rfl⟩
            obtain ⟨f, hf⟩ : ∃ f, f = (rd_T31 l1 (e2 : Int)).f1 := ⟨_, rfl⟩
            obtain ⟨t, ht⟩ : ∃ t, t = (rd_T31 l1 (e2 : Int)).f2 := ⟨_, rfl⟩
            rw [← hk] at X0
            rw [← hf] at X1 WF
            rw [← ht] at X2 WT
            clear hk hf ht
            have ew : Aside0 (wrap64 ((e2 : Int) + 1) = (e2 : Int) + 1) := ⟨by have h2 := HI2.out; unfold wrap64; omega⟩
            have y0 := cellB HS.out.hb X0.out
            have y1 := cellB HS.out.hb X1.out
            have y2 := cellB HS.out.hb X2.out
            have y3 := cellB HS.out.hb X3.out
            go_upto_region 10 with (go_at_call 8; (refine (two_do WF.out WT.out HST.out (by have h1 := HI2.out; have h2 := HI30.out; omega) HT.out HS.out).mono ?_); rintro e wc2 ⟨rfl, h⟩; have S3 := Aside0.mk h; clear h)
            clear y0 y1 y2 y3 HS
            go_wp2
            go_roundg k2
            case measure => omega
            case rel => exact ⟨e2 + 1, _, by rw [ew.out]; simp, ⟨by have := HE.out; omega⟩, ⟨by have := HI2.out; omega⟩, ⟨S3.out.mono (by omega)⟩⟩
          · by_cases hin : e2 < nb
            · have h30 : ¬ e2 < 30 := fun q => hgo ⟨hin, q⟩
              have d1 : decide ((e2 : Int) < (nb : Int)) = true := decide_eq_true (by omega)
              have d2 : decide (e2 < nb) = true := decide_eq_true hin
              have d3 : decide ((e2 : Int) < 30) = false := decide_eq_false (by omega)
              have d4 : decide (e2 < 30) = false := decide_eq_false h30
              clear hgo h30 hin
              go_upto_block 4 with (fail)
              go_wp2
              go_loopg [10] 64 (fun kq v10 w' => ∃ (j : Nat), v10 = .int .i64 (j : Int) ∧ Aside0 (j + kq = 64) ∧ Aside0 (Q2 w w' g g1 gc (64 * i + 64 * e2) q p B))
              case atStart => exact ⟨0, rfl, ⟨by omega⟩, HS⟩
              case round =>
                clear HS
                obtain ⟨j, rfl, HJ, HS⟩ := hrel
                rcases gk with _ | k2
                · have d5 : decide ((j : Int) < 64) = false := decide_eq_false (by have := HJ.out; omega)
                  have d6 : decide (j < 64) = false := decide_eq_false (by have := HJ.out; omega)
                  have HL0 := Aside0.mk (lives_any (Tb.below HT.out HS.out.hb))
                  go_wp2_with (go_at_call 12; (refine HL0.out.mono ?_); rintro e we ⟨rfl, h⟩; have HBE := Aside0.mk (below_step HS.out.hb h); clear h)
                  go_ret
                  exact ⟨rfl, by repeat (first | exact HBE.out | apply below_drew | apply pw_below_drewN)⟩
                · have d5 : decide ((j : Int) < 64) = true := decide_eq_true (by have := HJ.out; omega)
                  have d6 : decide (j < 64) = true := decide_eq_true (by have := HJ.out; omega)
                  have p3 : (0 ≤ (j : Int)) = True := eq_true (by omega)
                  have p4 : ((j : Int) < 64) = True := eq_true (by have := HJ.out; omega)
                  have HLJ := Aside0.mk (show j < B.length from by rw [HRL.out.len]; have := HJ.out; omega)
                  have ew2 : Aside0 (wrap64 ((j : Int) + 1) = (j : Int) + 1) := ⟨by have h2 := HJ.out; unfold wrap64; omega⟩
                  have HQD := Aside0.mk (show Q2 w wr.drew g g1 gc (64 * i + 64 * e2) q p B from HS.out.drewN 1)
                  have HOF := Aside0.mk (show Calls Tryd.prog 11 #[.pointer (some ⟨gc, 0, none⟩), .int .i64 (j : Int)] wr.drew fun e w' => e = .returned (.int .u64 ((B.getD j 0 : Nat) : Int)) ∧ Q2 w w' g g1 gc (64 * i + 64 * e2) q p B from by
                    have e1 := HRL.out.of_eq (j : Int)
                    have e2 : Rf.of B (j : Int) = B.getD j 0 := by unfold Rf.of; rw [if_pos (by have := HJ.out; omega), Int.toNat_natCast]
                    rw [← e2, ← e1]
                    exact two_of (wf_nat (by have := HJ.out; omega)) HQD.out)
                  go_upto_region 15 with (fail)
                  refine start_ (n := 8) (S := fun w' => w'.cell? ⟨g1, j, none⟩ = some (.int .u64 ((B.getD j 0 : Nat) : Int))) (ds := []) #[false, false, false, false, false, false, false, false] (by kernel_rfl) rfl rfl (((blk_cell HQD.out.row j).trans (Rf.enc_get B j HLJ.out))) (fun hHeld => ?_)
                  refine pure_ (i := 0) (N := some 57) (v := ?_) (a' := ?_) #[true, false, false, false, false, false, false, false] rfl rfl (by kernel_rfl) (fun _ _ _ h => h) (Or.inl ⟨by rfl, ?_⟩) ?_ ?_
                  rotate_left
                  · intro w'
                    go_simp
                    with_reducible rfl
                  rotate_left
                  · simp only [Act.put, List.setIfInBounds_toArray, List.set_cons_zero, List.set_cons_succ, i64_w, i32_w]
                    rfl
                  refine pure_ (i := 1) (N := some 58) (v := ?_) (a' := ?_) #[true, true, false, false, false, false, false, false] rfl rfl (by kernel_rfl) (fun _ _ _ h => h) (Or.inl ⟨by rfl, ?_⟩) ?_ ?_
                  rotate_left
                  · intro w'
                    go_simp
                    with_reducible rfl
                  rotate_left
                  · simp only [Act.put, List.setIfInBounds_toArray, List.set_cons_zero, List.set_cons_succ, i64_w, i32_w]
                    rfl
                  refine pure_ (i := 3) (N := some 60) (v := ?_) (a' := ?_) #[true, true, false, true, false, false, false, false] rfl rfl (by kernel_rfl) (fun _ _ _ h => h) (Or.inl ⟨by rfl, ?_⟩) ?_ ?_
                  rotate_left
                  · intro w'
                    go_simp
                    with_reducible rfl
                  rotate_left
                  · simp only [Act.put, List.setIfInBounds_toArray, List.set_cons_zero, List.set_cons_succ, i64_w, i32_w]
                    rfl
                  refine pure_ (i := 4) (N := some 61) (v := ?_) (a' := ?_) #[true, true, false, true, true, false, false, false] rfl rfl (by kernel_rfl) (fun _ _ _ h => h) (Or.inl ⟨by rfl, ?_⟩) ?_ ?_
                  rotate_left
                  · intro w'
                    go_simp
                    with_reducible rfl
                  rotate_left
                  · simp only [Act.put, List.setIfInBounds_toArray, List.set_cons_zero, List.set_cons_succ, i64_w, i32_w]
                    rfl
                  refine pure_ (i := 5) (N := some 62) (v := ?_) (a' := ?_) #[true, true, false, true, true, true, false, false] rfl rfl (by kernel_rfl) (fun _ _ _ h => h) (Or.inl ⟨by rfl, ?_⟩) ?_ ?_
                  rotate_left
                  · intro w'
                    go_simp
                    with_reducible rfl
                  rotate_left
                  · simp only [Act.put, List.setIfInBounds_toArray, List.set_cons_zero, List.set_cons_succ, i64_w, i32_w]
                    rfl
                  refine take_ (i := 6) (N := some 63) (v := ?_) (a' := ?_) #[true, true, false, true, true, true, true, false] rfl rfl (by kernel_rfl) (fun _ _ _ h => h) (Or.inl ⟨by rfl, ?_⟩) hHeld ?_ ?_
                  rotate_left
                  · intro w' s0
                    go_simp
                    with_reducible rfl
                  rotate_left
                  · simp only [Act.put, List.setIfInBounds_toArray, List.set_cons_zero, List.set_cons_succ, i64_w, i32_w]
                    rfl
                  refine one_ (i := 2) (N := some 59) #[true, true, true, true, true, true, true, false] rfl rfl (by kernel_rfl) (by decide) (fun K hK => ?_)
                  refine goes_ Tryd.func11 (by kernel_rfl) rfl #[.pointer (some ⟨gc, 0, none⟩), .int .i64 (j : Int)] (by rfl) rfl rfl (by simp only [List.map_toArray, List.map_cons, List.map_nil]; rfl) ?_
                  with_reducible refine (HOF.out).mono ?_
                  rintro e wf ⟨rfl, h⟩
                  refine ⟨_, rfl, ?_⟩
                  have S8 := Aside0.mk h
                  clear h
                  refine hK.out _ _ (((blk_cell S8.out.row j).trans (Rf.enc_get B j HLJ.out))) (fun hHeld => ?_)
                  clear hK K
                  refine norm_ (a' := ?_) ?_ ?_
                  rotate_left
                  · show Act.put _ (some 59) _ = _
                    simp only [Act.put, List.setIfInBounds_toArray, List.set_cons_zero, List.set_cons_succ, i64_w, i32_w]
                    rfl
                  refine pure_ (i := 7) (N := some 64) (v := ?_) (a' := ?_) #[true, true, true, true, true, true, true, true] rfl rfl (by kernel_rfl) (fun _ _ _ h => h) (Or.inl ⟨by rfl, ?_⟩) ?_ ?_
                  rotate_left
                  · intro w'
                    go_simp
                    with_reducible rfl
                  rotate_left
                  · simp only [Act.put, List.setIfInBounds_toArray, List.set_cons_zero, List.set_cons_succ, i64_w, i32_w]
                    rfl
                  refine done_ (by kernel_rfl) ?_
                  go_wp2
                  go_roundg k2
                  case measure => omega
                  case rel => exact ⟨j + 1, by rw [ew2.out]; simp, ⟨by have := HJ.out; omega⟩, S8⟩
            · have d1 : decide ((e2 : Int) < (nb : Int)) = false := decide_eq_false (by omega)
              have d2 : decide (e2 < nb) = false := decide_eq_false hin
              clear hgo hin
              go_upto_block 4 with (fail)
              go_wp2
              go_loopg [10] 64 (fun kq v10 w' => ∃ (j : Nat), v10 = .int .i64 (j : Int) ∧ Aside0 (j + kq = 64) ∧ Aside0 (Q2 w w' g g1 gc (64 * i + 64 * e2) q p B))
              case atStart => exact ⟨0, rfl, ⟨by omega⟩, HS⟩
              case round =>
                clear HS
                obtain ⟨j, rfl, HJ, HS⟩ := hrel
                rcases gk with _ | k2
                · have d5 : decide ((j : Int) < 64) = false := decide_eq_false (by have := HJ.out; omega)
                  have d6 : decide (j < 64) = false := decide_eq_false (by have := HJ.out; omega)
                  have HL0 := Aside0.mk (lives_any (Tb.below HT.out HS.out.hb))
                  go_wp2_with (go_at_call 12; (refine HL0.out.mono ?_); rintro e we ⟨rfl, h⟩; have HBE := Aside0.mk (below_step HS.out.hb h); clear h)
                  go_ret
                  exact ⟨rfl, by repeat (first | exact HBE.out | apply below_drew | apply pw_below_drewN)⟩
                · have d5 : decide ((j : Int) < 64) = true := decide_eq_true (by have := HJ.out; omega)
                  have d6 : decide (j < 64) = true := decide_eq_true (by have := HJ.out; omega)
                  have p3 : (0 ≤ (j : Int)) = True := eq_true (by omega)
                  have p4 : ((j : Int) < 64) = True := eq_true (by have := HJ.out; omega)
                  have HLJ := Aside0.mk (show j < B.length from by rw [HRL.out.len]; have := HJ.out; omega)
                  have ew2 : Aside0 (wrap64 ((j : Int) + 1) = (j : Int) + 1) := ⟨by have h2 := HJ.out; unfold wrap64; omega⟩
                  have HQD := Aside0.mk (show Q2 w wr.drew g g1 gc (64 * i + 64 * e2) q p B from HS.out.drewN 1)
                  have HOF := Aside0.mk (show Calls Tryd.prog 11 #[.pointer (some ⟨gc, 0, none⟩), .int .i64 (j : Int)] wr.drew fun e w' => e = .returned (.int .u64 ((B.getD j 0 : Nat) : Int)) ∧ Q2 w w' g g1 gc (64 * i + 64 * e2) q p B from by
                    have e1 := HRL.out.of_eq (j : Int)
                    have e2 : Rf.of B (j : Int) = B.getD j 0 := by unfold Rf.of; rw [if_pos (by have := HJ.out; omega), Int.toNat_natCast]
                    rw [← e2, ← e1]
                    exact two_of (wf_nat (by have := HJ.out; omega)) HQD.out)
                  go_upto_region 15 with (fail)
                  refine start_ (n := 8) (S := fun w' => w'.cell? ⟨g1, j, none⟩ = some (.int .u64 ((B.getD j 0 : Nat) : Int))) (ds := []) #[false, false, false, false, false, false, false, false] (by kernel_rfl) rfl rfl (((blk_cell HQD.out.row j).trans (Rf.enc_get B j HLJ.out))) (fun hHeld => ?_)
                  refine pure_ (i := 0) (N := some 57) (v := ?_) (a' := ?_) #[true, false, false, false, false, false, false, false] rfl rfl (by kernel_rfl) (fun _ _ _ h => h) (Or.inl ⟨by rfl, ?_⟩) ?_ ?_
                  rotate_left
                  · intro w'
                    go_simp
                    with_reducible rfl
                  rotate_left
                  · simp only [Act.put, List.setIfInBounds_toArray, List.set_cons_zero, List.set_cons_succ, i64_w, i32_w]
                    rfl
                  refine pure_ (i := 1) (N := some 58) (v := ?_) (a' := ?_) #[true, true, false, false, false, false, false, false] rfl rfl (by kernel_rfl) (fun _ _ _ h => h) (Or.inl ⟨by rfl, ?_⟩) ?_ ?_
                  rotate_left
                  · intro w'
                    go_simp
                    with_reducible rfl
                  rotate_left
                  · simp only [Act.put, List.setIfInBounds_toArray, List.set_cons_zero, List.set_cons_succ, i64_w, i32_w]
                    rfl
                  refine pure_ (i := 3) (N := some 60) (v := ?_) (a' := ?_) #[true, true, false, true, false, false, false, false] rfl rfl (by kernel_rfl) (fun _ _ _ h => h) (Or.inl ⟨by rfl, ?_⟩) ?_ ?_
                  rotate_left
                  · intro w'
                    go_simp
                    with_reducible rfl
                  rotate_left
                  · simp only [Act.put, List.setIfInBounds_toArray, List.set_cons_zero, List.set_cons_succ, i64_w, i32_w]
                    rfl
                  refine pure_ (i := 4) (N := some 61) (v := ?_) (a' := ?_) #[true, true, false, true, true, false, false, false] rfl rfl (by kernel_rfl) (fun _ _ _ h => h) (Or.inl ⟨by rfl, ?_⟩) ?_ ?_
                  rotate_left
                  · intro w'
                    go_simp
                    with_reducible rfl
                  rotate_left
                  · simp only [Act.put, List.setIfInBounds_toArray, List.set_cons_zero, List.set_cons_succ, i64_w, i32_w]
                    rfl
                  refine pure_ (i := 5) (N := some 62) (v := ?_) (a' := ?_) #[true, true, false, true, true, true, false, false] rfl rfl (by kernel_rfl) (fun _ _ _ h => h) (Or.inl ⟨by rfl, ?_⟩) ?_ ?_
                  rotate_left
                  · intro w'
                    go_simp
                    with_reducible rfl
                  rotate_left
                  · simp only [Act.put, List.setIfInBounds_toArray, List.set_cons_zero, List.set_cons_succ, i64_w, i32_w]
                    rfl
                  refine take_ (i := 6) (N := some 63) (v := ?_) (a' := ?_) #[true, true, false, true, true, true, true, false] rfl rfl (by kernel_rfl) (fun _ _ _ h => h) (Or.inl ⟨by rfl, ?_⟩) hHeld ?_ ?_
                  rotate_left
                  · intro w' s0
                    go_simp
                    with_reducible rfl
                  rotate_left
                  · simp only [Act.put, List.setIfInBounds_toArray, List.set_cons_zero, List.set_cons_succ, i64_w, i32_w]
                    rfl
                  refine one_ (i := 2) (N := some 59) #[true, true, true, true, true, true, true, false] rfl rfl (by kernel_rfl) (by decide) (fun K hK => ?_)
                  refine goes_ Tryd.func11 (by kernel_rfl) rfl #[.pointer (some ⟨gc, 0, none⟩), .int .i64 (j : Int)] (by rfl) rfl rfl (by simp only [List.map_toArray, List.map_cons, List.map_nil]; rfl) ?_
                  with_reducible refine (HOF.out).mono ?_
                  rintro e wf ⟨rfl, h⟩
                  refine ⟨_, rfl, ?_⟩
                  have S8 := Aside0.mk h
                  clear h
                  refine hK.out _ _ (((blk_cell S8.out.row j).trans (Rf.enc_get B j HLJ.out))) (fun hHeld => ?_)
                  clear hK K
                  refine norm_ (a' := ?_) ?_ ?_
                  rotate_left
                  · show Act.put _ (some 59) _ = _
                    simp only [Act.put, List.setIfInBounds_toArray, List.set_cons_zero, List.set_cons_succ, i64_w, i32_w]
                    rfl
                  refine pure_ (i := 7) (N := some 64) (v := ?_) (a' := ?_) #[true, true, true, true, true, true, true, true] rfl rfl (by kernel_rfl) (fun _ _ _ h => h) (Or.inl ⟨by rfl, ?_⟩) ?_ ?_
                  rotate_left
                  · intro w'
                    go_simp
                    with_reducible rfl
                  rotate_left
                  · simp only [Act.put, List.setIfInBounds_toArray, List.set_cons_zero, List.set_cons_succ, i64_w, i32_w]
                    rfl
                  refine done_ (by kernel_rfl) ?_
                  go_wp2
                  go_roundg k2
                  case measure => omega
                  case rel => exact ⟨j + 1, by rw [ew2.out]; simp, ⟨by have := HJ.out; omega⟩, S8⟩
end Go.Proofs.YtjcjhmnfknenlaaDoor.rightApartW
