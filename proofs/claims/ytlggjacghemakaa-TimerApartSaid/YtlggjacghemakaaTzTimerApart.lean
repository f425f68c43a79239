/- Timers' laws: do. Conditions: none. -/
import Derived.Test.YtlggjacghemakaaTyTimerApart
namespace Go.Proofs.Ytlggjacghemakaa.TxTimerApart
open Go.RowKit Go.Proofs.Ytlggjacghemakaa.PTimerApart Go.Proofs.YtlggjacghemakaaW.PrintWords Go.Proofs.YtlggjacghemakaaW.PrintLast Go.Proofs.YtlggjacghemakaaW.PrintMore Tm
set_option linter.unusedVariables false
set_option linter.unusedSimpArgs false
/-- The list behind a call. -/
def nextm (m : List (Int × Int)) (kind id at_ : Int) : List (Int × Int) := if kind = 0 then rSet m id at_ else if kind = 1 then rDrop m id else (rDue m.length at_ m []).2
section
variable {W W' : World} {base g n : Nat} {S S2 : Nat → Prop} {ms : List S81} {v : Value}
theorem MV.of_R {b : Nat} (h : Kd.R k81 81 W b (fun _ => True) v ms) (hS : ∀ k, S k → k < b) : MV W S v ms :=
  Kd.V_mono (Kd.R_V (base' := 0) (Kd.R_tight rfl h)) (fun k hk q => by have := Kd.R_base h k hk.symm; have := hS k q; omega)
theorem RV_of_R {b : Nat} {P : Nat → Prop} (h : Kd.R k81 81 W b (fun _ => True) v ms) (hP : ∀ k, b ≤ k → P k) : Kd.V k81 81 W 0 P v ms :=
  Kd.V_mono (Kd.R_V (base' := 0) (Kd.R_tight rfl h)) (fun k hk => hP k (Kd.R_base h k hk.symm))
theorem RV_step {P : Nat → Prop} (h : Kd.V k81 81 W 0 P v ms) (hc : Chg S W W') (hs : ∀ k, P k → ¬ S k) : Kd.V k81 81 W' 0 (fun k => P k ∧ k < W.heap.size) v ms :=
  Kd.V_step (Kd.V_bound h) (fun k hk hlt => hc.block k hlt (hs k hk.1))
/-- What do leaves. -/
def DoPost (W : World) (base g n : Nat) (S Q : Nat → Prop) (ms : List S81) (kind id at_ : Int) (e : Ending) (w' : World) : Prop :=
  ∃ v' ms', e = .returned (.tuple #[v', .bool true]) ∧ cv ms' = nextm (cv ms) kind id at_ ∧ ms'.length ≤ ms.length + 1 ∧ Aside0 (∃ S', TR w' base g (n + 1000000) (cv ms') S' ∧ Kd.V k81 81 w' 0 (fun k => (Q k ∨ W.heap.size ≤ k) ∧ ¬ S' k) v' ms' ∧ ∀ k, S' k → S k ∨ W.heap.size ≤ k) ∧ Aside0 (Chg S W w')
set_option maxHeartbeats 4000000 in
set_option maxRecDepth 100000 in
theorem do_any {A : Option Addr} {c : Nat} {Q : Nat → Prop} (h : TR W base g n (cv ms) S) (hv : Kd.V k81 81 W 0 Q (.slice A ms.length c) ms) (hq : ∀ k, Q k → ¬ S k) {kind id at_ : Int} (hid : okId id) (hl : ms.length ≤ 150) (hn : n ≤ 900000000) (hb : base ≤ W.heap.size) :
    Calls Try.prog 17 #[.pointer (some ⟨g, 0, none⟩), .slice A ms.length c, .agg #[.int .i64 kind, .int .i64 id, .int .i64 at_]] W (DoPost W base g n S Q ms kind id at_) := by
  have hu32 := Try.underlying32
  have HT := Aside0.mk h
  have HV := Aside0.mk hv
  have HID := Aside0.mk hid
  have HN := Aside0.mk (show ms.length ≤ 150 ∧ n ≤ 900000000 ∧ base ≤ W.heap.size ∧ (cv ms).length ≤ 200 from ⟨hl, hn, hb, by rw [cv_len]; omega⟩)
  have HLT := Aside0.mk h.lt
  have HQ := Aside0.mk hq
  clear h hv hid hl hn hb hq
  go_enter Try.func17, Try.ntmps17
  go_upto_region 1 with ((with_reducible refine gate_dst (N := 5) rfl ?_); refine box_event ?hg (N := 5) ?hd (cs := #[.int .i64 kind, .int .i64 id, .int .i64 at_]) (t := 32) ?hr ?_; (case hd => rfl); (case hg => rfl); (case hr => first | (go_simp; done) | (go_simp; rfl)); intro gx hg w1 hbox hb; have GX := Aside0.mk (show gx = W.heap.size from hg); have HB1 := Aside0.mk hb; have BX := Aside0.mk hbox; clear hb hbox hg)
  have HT1 := Aside0.mk (HT.out.below HB1.out)
  have HQ1 := Aside0.mk (show Kd.V k81 81 w1 0 Q (.slice A ms.length c) ms from Kd.V_below HV.out HB1.out)
  have HV1 := Aside0.mk (show MV w1 S (.slice A ms.length c) ms from Kd.V_mono HQ1.out HQ.out)
  have HC1 := Aside0.mk (show Chg S W w1 from .of_below HB1.out)
  have hxS : ¬ S gx := fun q => by have := HLT.out _ q; have := GX.out; omega
  have HXS := Aside0.mk hxS
  clear HT HV HB1 hxS
  have x0 : w1.cell? ⟨gx, 0, none⟩ = some (.int .i64 kind) := (blk_cell BX.out 0).trans rfl
  have x1 : w1.cell? ⟨gx, 1, none⟩ = some (.int .i64 id) := (blk_cell BX.out 1).trans rfl
  have x2 : w1.cell? ⟨gx, 2, none⟩ = some (.int .i64 at_) := (blk_cell BX.out 2).trans rfl
  by_cases k0 : kind = 0
  · subst k0
    obtain ⟨ks, es⟩ := (set_f ms id at_ (by have := HN.out; omega)).get
    have ES := Aside0.mk es
    clear es
    go_wp2_with (first
      | (go_at_call 10; refine (set_r HT1.out (id := id) (at_ := at_) HID.out HN.out.2.2.2 (by have := HN.out; omega) (by have := HN.out; have := HC1.out.size; omega)).mono ?_; rintro e w2 ⟨rfl, ⟨⟨S', t2, s2⟩⟩, hc⟩; have HT2 := Aside0.mk t2; have HS2 := Aside0.mk s2; have HC2 := Aside0.mk hc; have BX2 := Aside0.mk ((hc.block gx (blk_lt BX.out) HXS.out).trans BX.out); clear t2 s2 hc; have y1 : w2.cell? ⟨gx, 1, none⟩ = some (.int .i64 id) := (blk_cell BX2.out 1).trans rfl; have y2 : w2.cell? ⟨gx, 2, none⟩ = some (.int .i64 at_) := (blk_cell BX2.out 2).trans rfl)
      | (go_at_call 11; refine (logjamref05_Set.calls ks A c ms id at_ _ w2 (Kd.V_reads' (HV1.out.step HC2.out HS2.out)).2.2 (Kd.V_reads' HV1.out).2.1 ES.out).mono ?_; rintro e w3 ⟨v3, rfl, hr, hb⟩; have HR3 := Aside0.mk hr; have HB3 := Aside0.mk hb; clear hr hb))
    refine bodyPost_ret (results_tmp2 rfl _ _ _) rfl ?_
    refine ⟨v3, _, rfl, ?_, ?_, ⟨S', (by rw [cv_Set]; exact HT2.out.below HB3.out), RV_of_R HR3.out (fun k hk => ⟨.inr (Nat.le_trans (Nat.le_trans HC1.out.size HC2.out.size) hk), fun q => by have := HT2.out.lt k q; omega⟩), fun k hk => (HS2.out k hk).imp (fun q => q) (fun q => Nat.le_trans HC1.out.size q)⟩, ⟨HC1.out.trans (HC2.out.trans (.of_below HB3.out))⟩⟩
    · rw [cv_Set]; unfold nextm; rw [if_pos rfl]
    · have := Dp_len ms id
      simp
      omega
  have d0 : (kind == 0) = false := beq_eq_false_iff_ne.2 k0
  by_cases k1 : kind = 1
  · subst k1
    obtain ⟨ks, es⟩ := (drop_f ms id (by have := HN.out; omega)).get
    have ES := Aside0.mk es
    obtain ⟨r, er0, hr⟩ := find_f ms id (by have := HN.out; omega)
    obtain ⟨kf, er⟩ := er0.get
    have ER := Aside0.mk er
    clear es er0 er x2
    have HR1 := Aside0.mk (show (r = -1 ∧ Tm.has (cv ms) id = false) ∨ ∃ j : Nat, r = (j : Int) ∧ Tm.has (cv ms) id = true from hr.imp (fun q => q) (fun ⟨j, h1, _, _, h4⟩ => ⟨j, h1, h4⟩))
    clear hr
    go_upto_region 6 with (fail)
    rcases HR1.out with ⟨rfl, hno⟩ | ⟨j, rfl, hyes⟩
    · clear HR1
      refine start_ (n := 16) (S := fun w' => w'.cell? ⟨gx, 1, none⟩ = some (.int .i64 id)) (ds := []) #[false, false, false, false, false, false, false, false, false, false, false, false, false, false, false, false] (by kernel_rfl) rfl rfl (x1) (fun hHeld => ?_)
      refine pure_ (i := 0) (N := some 28) (v := ?_) (a' := ?_) #[true, false, false, false, false, false, false, false, false, false, false, false, false, false, false, false] rfl rfl (by kernel_rfl) (fun _ _ _ h => h) (Or.inl ⟨by rfl, ?_⟩) ?_ ?_
      rotate_left
      · intro w'
        go_simp
        with_reducible rfl
      rotate_left
      · simp only [Act.put, List.setIfInBounds_toArray, List.set_cons_zero, List.set_cons_succ, i64_w, i32_w]
        rfl
      refine pure_ (i := 1) (N := some 29) (v := ?_) (a' := ?_) #[true, true, false, false, false, false, false, false, false, false, false, false, false, false, false, false] rfl rfl (by kernel_rfl) (fun _ _ _ h => h) (Or.inl ⟨by rfl, ?_⟩) ?_ ?_
      rotate_left
      · intro w'
        go_simp
        with_reducible rfl
      rotate_left
      · simp only [Act.put, List.setIfInBounds_toArray, List.set_cons_zero, List.set_cons_succ, i64_w, i32_w]
        rfl
      refine pure_ (i := 4) (N := some 32) (v := ?_) (a' := ?_) #[true, true, false, false, true, false, false, false, false, false, false, false, false, false, false, false] rfl rfl (by kernel_rfl) (fun _ _ _ h => h) (Or.inl ⟨by rfl, ?_⟩) ?_ ?_
      rotate_left
      · intro w'
        go_simp
        with_reducible rfl
      rotate_left
      · simp only [Act.put, List.setIfInBounds_toArray, List.set_cons_zero, List.set_cons_succ, i64_w, i32_w]
        rfl
      refine pure_ (i := 5) (N := some 33) (v := ?_) (a' := ?_) #[true, true, false, false, true, true, false, false, false, false, false, false, false, false, false, false] rfl rfl (by kernel_rfl) (fun _ _ _ h => h) (Or.inl ⟨by rfl, ?_⟩) ?_ ?_
      rotate_left
      · intro w'
        go_simp
        with_reducible rfl
      rotate_left
      · simp only [Act.put, List.setIfInBounds_toArray, List.set_cons_zero, List.set_cons_succ, i64_w, i32_w]
        rfl
      refine pure_ (i := 8) (N := some 36) (v := ?_) (a' := ?_) #[true, true, false, false, true, true, false, false, true, false, false, false, false, false, false, false] rfl rfl (by kernel_rfl) (fun _ _ _ h => h) (Or.inl ⟨by rfl, ?_⟩) ?_ ?_
      rotate_left
      · intro w'
        go_simp
        with_reducible rfl
      rotate_left
      · simp only [Act.put, List.setIfInBounds_toArray, List.set_cons_zero, List.set_cons_succ, i64_w, i32_w]
        rfl
      refine pure_ (i := 9) (N := some 37) (v := ?_) (a' := ?_) #[true, true, false, false, true, true, false, false, true, true, false, false, false, false, false, false] rfl rfl (by kernel_rfl) (fun _ _ _ h => h) (Or.inl ⟨by rfl, ?_⟩) ?_ ?_
      rotate_left
      · intro w'
        go_simp
        with_reducible rfl
      rotate_left
      · simp only [Act.put, List.setIfInBounds_toArray, List.set_cons_zero, List.set_cons_succ, i64_w, i32_w]
        rfl
      refine take_ (i := 2) (N := some 30) (v := ?_) (a' := ?_) #[true, true, true, false, true, true, false, false, true, true, false, false, false, false, false, false] rfl rfl (by kernel_rfl) (fun _ _ _ h => h) (Or.inl ⟨by rfl, ?_⟩) hHeld ?_ ?_
      rotate_left
      · intro w' s0
        go_simp
        with_reducible rfl
      rotate_left
      · simp only [Act.put, List.setIfInBounds_toArray, List.set_cons_zero, List.set_cons_succ, i64_w, i32_w]
        rfl
      refine take_ (i := 6) (N := some 34) (v := ?_) (a' := ?_) #[true, true, true, false, true, true, true, false, true, true, false, false, false, false, false, false] rfl rfl (by kernel_rfl) (fun _ _ _ h => h) (Or.inl ⟨by rfl, ?_⟩) hHeld ?_ ?_
      rotate_left
      · intro w' s0
        go_simp
        with_reducible rfl
      rotate_left
      · simp only [Act.put, List.setIfInBounds_toArray, List.set_cons_zero, List.set_cons_succ, i64_w, i32_w]
        rfl
      refine take_ (i := 10) (N := some 38) (v := ?_) (a' := ?_) #[true, true, true, false, true, true, true, false, true, true, true, false, false, false, false, false] rfl rfl (by kernel_rfl) (fun _ _ _ h => h) (Or.inl ⟨by rfl, ?_⟩) hHeld ?_ ?_
      rotate_left
      · intro w' s0
        go_simp
        with_reducible rfl
      rotate_left
      · simp only [Act.put, List.setIfInBounds_toArray, List.set_cons_zero, List.set_cons_succ, i64_w, i32_w]
        rfl
      refine one_ (i := 3) (N := some 31) #[true, true, true, true, true, true, true, false, true, true, true, false, false, false, false, false] rfl rfl (by kernel_rfl) (by decide) (fun K hK => ?_)
      refine goes_ Try.func38 (by kernel_rfl) rfl #[.slice A ms.length c, .int .i64 id] (by rfl) rfl rfl (by simp only [List.map_toArray, List.map_cons, List.map_nil]; rfl) ?_
      with_reducible refine (logjamref05_Drop.calls ks A c ms id _ _ (Kd.V_reads' (show MV w1.drew S (.slice A ms.length c) ms from Kd.V_below HV1.out (below_drew (Below.refl _ _)))).2.2 (Kd.V_reads' HV1.out).2.1 ES.out).mono ?_
      rintro e w2 ⟨v2, rfl, hr, hb⟩
      refine ⟨_, rfl, ?_⟩
      have HR2 := Aside0.mk hr
      have HB2 := Aside0.mk (below_step (below_drew (Below.refl _ _)) hb)
      have HT2 := Aside0.mk (HT1.out.below HB2.out)
      have BX2 := Aside0.mk (blk_below BX.out HB2.out)
      clear hr hb
      refine hK.out _ _ ((blk_cell BX2.out 1).trans rfl) (fun hHeld => ?_)
      clear hK K
      refine norm_ (a' := ?_) ?_ ?_
      rotate_left
      · show Act.put _ (some 31) _ = _
        simp only [Act.put, List.setIfInBounds_toArray, List.set_cons_zero, List.set_cons_succ, i64_w, i32_w]
        rfl
      refine one_ (i := 7) (N := some 35) #[true, true, true, true, true, true, true, true, true, true, true, false, false, false, false, false] rfl rfl (by kernel_rfl) (by decide) (fun K hK => ?_)
      refine goes_ Try.func22 (by kernel_rfl) rfl #[.pointer (some ⟨g, 0, none⟩), .int .i64 id] (by rfl) rfl rfl (by simp only [List.map_toArray, List.map_cons, List.map_nil]; rfl) ?_
      with_reducible refine (drop_r HT2.out (id := id) HID.out HN.out.2.2.2 (by have := HN.out; omega)).mono ?_
      rintro e w3 ⟨rfl, ⟨⟨S', t3, s3⟩⟩, hc⟩
      refine ⟨_, rfl, ?_⟩
      have HT3 := Aside0.mk t3
      have HS3 := Aside0.mk s3
      have HC3 := Aside0.mk hc
      have BX3 := Aside0.mk ((hc.block gx (blk_lt BX2.out) HXS.out).trans BX2.out)
      have HV3 := Aside0.mk (MV.step (show MV w2 S (.slice A ms.length c) ms from Kd.V_below HV1.out HB2.out) hc s3)
      clear t3 s3 hc
      refine hK.out _ _ ((blk_cell BX3.out 1).trans rfl) (fun hHeld => ?_)
      clear hK K
      refine norm_ (a' := ?_) ?_ ?_
      rotate_left
      · show Act.put _ (some 35) _ = _
        simp only [Act.put, List.setIfInBounds_toArray, List.set_cons_zero, List.set_cons_succ, i64_w, i32_w]
        rfl
      refine one_ (i := 11) (N := some 39) #[true, true, true, true, true, true, true, true, true, true, true, true, false, false, false, false] rfl rfl (by kernel_rfl) (by decide) (fun K hK => ?_)
      refine goes_ Try.func41 (by kernel_rfl) rfl #[.slice A ms.length c, .int .i64 id] (by rfl) rfl rfl (by simp only [List.map_toArray, List.map_cons, List.map_nil]; rfl) ?_
      with_reducible refine (logjamref05_Find.calls kf A c ms id _ w3 (Kd.V_reads' HV3.out).2.2 (Kd.V_reads' HV1.out).2.1 ER.out).mono ?_
      rintro e w4 ⟨rfl, hd⟩
      refine ⟨_, rfl, ?_⟩
      have HB4 := Aside0.mk (dbel hd)
      clear hd
      have BX4 := Aside0.mk (blk_below BX3.out HB4.out)
      refine hK.out _ _ ((blk_cell BX4.out 1).trans rfl) (fun hHeld => ?_)
      clear hK K
      refine norm_ (a' := ?_) ?_ ?_
      rotate_left
      · show Act.put _ (some 39) _ = _
        simp only [Act.put, List.setIfInBounds_toArray, List.set_cons_zero, List.set_cons_succ, i64_w, i32_w]
        rfl
      refine pure_ (i := 12) (N := some 40) (v := ?_) (a' := ?_) #[true, true, true, true, true, true, true, true, true, true, true, true, true, false, false, false] rfl rfl (by kernel_rfl) (fun _ _ _ h => h) (Or.inl ⟨by rfl, ?_⟩) ?_ ?_
      rotate_left
      · intro w'
        go_simp
        with_reducible rfl
      rotate_left
      · simp only [Act.put, List.setIfInBounds_toArray, List.set_cons_zero, List.set_cons_succ, i64_w, i32_w]
        rfl
      refine pure_ (i := 13) (N := some 41) (v := ?_) (a' := ?_) #[true, true, true, true, true, true, true, true, true, true, true, true, true, true, false, false] rfl rfl (by kernel_rfl) (fun _ _ _ h => h) (Or.inl ⟨by rfl, ?_⟩) ?_ ?_
      rotate_left
      · intro w'
        go_simp
        with_reducible rfl
      rotate_left
      · simp only [Act.put, List.setIfInBounds_toArray, List.set_cons_zero, List.set_cons_succ, i64_w, i32_w]
        rfl
      refine pure_ (i := 14) (N := some 6) (v := ?_) (a' := ?_) #[true, true, true, true, true, true, true, true, true, true, true, true, true, true, true, false] rfl rfl (by kernel_rfl) (fun _ _ _ h => h) (Or.inl ⟨by rfl, ?_⟩) ?_ ?_
      rotate_left
      · intro w'
        go_simp
        with_reducible rfl
      rotate_left
      · simp only [Act.put, List.setIfInBounds_toArray, List.set_cons_zero, List.set_cons_succ, i64_w, i32_w]
        rfl
      refine pure_ (i := 15) (N := some 7) (v := ?_) (a' := ?_) #[true, true, true, true, true, true, true, true, true, true, true, true, true, true, true, true] rfl rfl (by kernel_rfl) (fun _ _ _ h => h) (Or.inl ⟨by rfl, ?_⟩) ?_ ?_
      rotate_left
      · intro w'
        go_simp
        with_reducible rfl
      rotate_left
      · simp only [Act.put, List.setIfInBounds_toArray, List.set_cons_zero, List.set_cons_succ, i64_w, i32_w]
        rfl
      refine done_ (by kernel_rfl) ?_
      go_wp2
      refine bodyPost_ret (results_tmp2 rfl _ _ _) rfl ?_
      refine ⟨v2, _, rfl, ?_, Nat.le_trans (Dp_len ms id) (Nat.le_succ _), ⟨S', (by rw [cv_Dp]; exact HT3.out.below HB4.out), ?_, fun k hk => (HS3.out k hk).imp (fun q => q) (fun q => by have := HB2.out.size; have := HC1.out.size; omega)⟩, ⟨HC1.out.trans (Chg.trans (.of_below HB2.out) (HC3.out.trans (.of_below HB4.out)))⟩⟩
      · rw [cv_Dp]; unfold nextm; rw [if_neg (by decide), if_pos rfl]
      · have q := RV_step (RV_of_R (P := fun k => W.heap.size ≤ k ∧ ¬ S k) HR2.out (fun k hk => ⟨Nat.le_trans HC1.out.size hk, fun q => by have h1 := HT1.out.lt k q; have h2 : w1.heap.size ≤ k := hk; omega⟩)) HC3.out (fun k hk => hk.2)
        exact Kd.V_mono (Kd.V_below q HB4.out) (fun k hk => ⟨.inr hk.1.1, fun hs => (HS3.out k hs).elim hk.1.2 (fun r => by have := hk.2; omega)⟩)
    · clear HR1
      refine start_ (n := 16) (S := fun w' => w'.cell? ⟨gx, 1, none⟩ = some (.int .i64 id)) (ds := []) #[false, false, false, false, false, false, false, false, false, false, false, false, false, false, false, false] (by kernel_rfl) rfl rfl (x1) (fun hHeld => ?_)
      refine pure_ (i := 0) (N := some 28) (v := ?_) (a' := ?_) #[true, false, false, false, false, false, false, false, false, false, false, false, false, false, false, false] rfl rfl (by kernel_rfl) (fun _ _ _ h => h) (Or.inl ⟨by rfl, ?_⟩) ?_ ?_
      rotate_left
      · intro w'
        go_simp
        with_reducible rfl
      rotate_left
      · simp only [Act.put, List.setIfInBounds_toArray, List.set_cons_zero, List.set_cons_succ, i64_w, i32_w]
        rfl
      refine pure_ (i := 1) (N := some 29) (v := ?_) (a' := ?_) #[true, true, false, false, false, false, false, false, false, false, false, false, false, false, false, false] rfl rfl (by kernel_rfl) (fun _ _ _ h => h) (Or.inl ⟨by rfl, ?_⟩) ?_ ?_
      rotate_left
      · intro w'
        go_simp
        with_reducible rfl
      rotate_left
      · simp only [Act.put, List.setIfInBounds_toArray, List.set_cons_zero, List.set_cons_succ, i64_w, i32_w]
        rfl
      refine pure_ (i := 4) (N := some 32) (v := ?_) (a' := ?_) #[true, true, false, false, true, false, false, false, false, false, false, false, false, false, false, false] rfl rfl (by kernel_rfl) (fun _ _ _ h => h) (Or.inl ⟨by rfl, ?_⟩) ?_ ?_
      rotate_left
      · intro w'
        go_simp
        with_reducible rfl
      rotate_left
      · simp only [Act.put, List.setIfInBounds_toArray, List.set_cons_zero, List.set_cons_succ, i64_w, i32_w]
        rfl
      refine pure_ (i := 5) (N := some 33) (v := ?_) (a' := ?_) #[true, true, false, false, true, true, false, false, false, false, false, false, false, false, false, false] rfl rfl (by kernel_rfl) (fun _ _ _ h => h) (Or.inl ⟨by rfl, ?_⟩) ?_ ?_
      rotate_left
      · intro w'
        go_simp
        with_reducible rfl
      rotate_left
      · simp only [Act.put, List.setIfInBounds_toArray, List.set_cons_zero, List.set_cons_succ, i64_w, i32_w]
        rfl
      refine pure_ (i := 8) (N := some 36) (v := ?_) (a' := ?_) #[true, true, false, false, true, true, false, false, true, false, false, false, false, false, false, false] rfl rfl (by kernel_rfl) (fun _ _ _ h => h) (Or.inl ⟨by rfl, ?_⟩) ?_ ?_
      rotate_left
      · intro w'
        go_simp
        with_reducible rfl
      rotate_left
      · simp only [Act.put, List.setIfInBounds_toArray, List.set_cons_zero, List.set_cons_succ, i64_w, i32_w]
        rfl
      refine pure_ (i := 9) (N := some 37) (v := ?_) (a' := ?_) #[true, true, false, false, true, true, false, false, true, true, false, false, false, false, false, false] rfl rfl (by kernel_rfl) (fun _ _ _ h => h) (Or.inl ⟨by rfl, ?_⟩) ?_ ?_
      rotate_left
      · intro w'
        go_simp
        with_reducible rfl
      rotate_left
      · simp only [Act.put, List.setIfInBounds_toArray, List.set_cons_zero, List.set_cons_succ, i64_w, i32_w]
        rfl
      refine take_ (i := 2) (N := some 30) (v := ?_) (a' := ?_) #[true, true, true, false, true, true, false, false, true, true, false, false, false, false, false, false] rfl rfl (by kernel_rfl) (fun _ _ _ h => h) (Or.inl ⟨by rfl, ?_⟩) hHeld ?_ ?_
      rotate_left
      · intro w' s0
        go_simp
        with_reducible rfl
      rotate_left
      · simp only [Act.put, List.setIfInBounds_toArray, List.set_cons_zero, List.set_cons_succ, i64_w, i32_w]
        rfl
      refine take_ (i := 6) (N := some 34) (v := ?_) (a' := ?_) #[true, true, true, false, true, true, true, false, true, true, false, false, false, false, false, false] rfl rfl (by kernel_rfl) (fun _ _ _ h => h) (Or.inl ⟨by rfl, ?_⟩) hHeld ?_ ?_
      rotate_left
      · intro w' s0
        go_simp
        with_reducible rfl
      rotate_left
      · simp only [Act.put, List.setIfInBounds_toArray, List.set_cons_zero, List.set_cons_succ, i64_w, i32_w]
        rfl
      refine take_ (i := 10) (N := some 38) (v := ?_) (a' := ?_) #[true, true, true, false, true, true, true, false, true, true, true, false, false, false, false, false] rfl rfl (by kernel_rfl) (fun _ _ _ h => h) (Or.inl ⟨by rfl, ?_⟩) hHeld ?_ ?_
      rotate_left
      · intro w' s0
        go_simp
        with_reducible rfl
      rotate_left
      · simp only [Act.put, List.setIfInBounds_toArray, List.set_cons_zero, List.set_cons_succ, i64_w, i32_w]
        rfl
      refine one_ (i := 3) (N := some 31) #[true, true, true, true, true, true, true, false, true, true, true, false, false, false, false, false] rfl rfl (by kernel_rfl) (by decide) (fun K hK => ?_)
      refine goes_ Try.func38 (by kernel_rfl) rfl #[.slice A ms.length c, .int .i64 id] (by rfl) rfl rfl (by simp only [List.map_toArray, List.map_cons, List.map_nil]; rfl) ?_
      with_reducible refine (logjamref05_Drop.calls ks A c ms id _ _ (Kd.V_reads' (show MV w1.drew S (.slice A ms.length c) ms from Kd.V_below HV1.out (below_drew (Below.refl _ _)))).2.2 (Kd.V_reads' HV1.out).2.1 ES.out).mono ?_
      rintro e w2 ⟨v2, rfl, hr, hb⟩
      refine ⟨_, rfl, ?_⟩
      have HR2 := Aside0.mk hr
      have HB2 := Aside0.mk (below_step (below_drew (Below.refl _ _)) hb)
      have HT2 := Aside0.mk (HT1.out.below HB2.out)
      have BX2 := Aside0.mk (blk_below BX.out HB2.out)
      clear hr hb
      refine hK.out _ _ ((blk_cell BX2.out 1).trans rfl) (fun hHeld => ?_)
      clear hK K
      refine norm_ (a' := ?_) ?_ ?_
      rotate_left
      · show Act.put _ (some 31) _ = _
        simp only [Act.put, List.setIfInBounds_toArray, List.set_cons_zero, List.set_cons_succ, i64_w, i32_w]
        rfl
      refine one_ (i := 7) (N := some 35) #[true, true, true, true, true, true, true, true, true, true, true, false, false, false, false, false] rfl rfl (by kernel_rfl) (by decide) (fun K hK => ?_)
      refine goes_ Try.func22 (by kernel_rfl) rfl #[.pointer (some ⟨g, 0, none⟩), .int .i64 id] (by rfl) rfl rfl (by simp only [List.map_toArray, List.map_cons, List.map_nil]; rfl) ?_
      with_reducible refine (drop_r HT2.out (id := id) HID.out HN.out.2.2.2 (by have := HN.out; omega)).mono ?_
      rintro e w3 ⟨rfl, ⟨⟨S', t3, s3⟩⟩, hc⟩
      refine ⟨_, rfl, ?_⟩
      have HT3 := Aside0.mk t3
      have HS3 := Aside0.mk s3
      have HC3 := Aside0.mk hc
      have BX3 := Aside0.mk ((hc.block gx (blk_lt BX2.out) HXS.out).trans BX2.out)
      have HV3 := Aside0.mk (MV.step (show MV w2 S (.slice A ms.length c) ms from Kd.V_below HV1.out HB2.out) hc s3)
      clear t3 s3 hc
      refine hK.out _ _ ((blk_cell BX3.out 1).trans rfl) (fun hHeld => ?_)
      clear hK K
      refine norm_ (a' := ?_) ?_ ?_
      rotate_left
      · show Act.put _ (some 35) _ = _
        simp only [Act.put, List.setIfInBounds_toArray, List.set_cons_zero, List.set_cons_succ, i64_w, i32_w]
        rfl
      refine one_ (i := 11) (N := some 39) #[true, true, true, true, true, true, true, true, true, true, true, true, false, false, false, false] rfl rfl (by kernel_rfl) (by decide) (fun K hK => ?_)
      refine goes_ Try.func41 (by kernel_rfl) rfl #[.slice A ms.length c, .int .i64 id] (by rfl) rfl rfl (by simp only [List.map_toArray, List.map_cons, List.map_nil]; rfl) ?_
      with_reducible refine (logjamref05_Find.calls kf A c ms id _ w3 (Kd.V_reads' HV3.out).2.2 (Kd.V_reads' HV1.out).2.1 ER.out).mono ?_
      rintro e w4 ⟨rfl, hd⟩
      refine ⟨_, rfl, ?_⟩
      have HB4 := Aside0.mk (dbel hd)
      clear hd
      have BX4 := Aside0.mk (blk_below BX3.out HB4.out)
      refine hK.out _ _ ((blk_cell BX4.out 1).trans rfl) (fun hHeld => ?_)
      clear hK K
      refine norm_ (a' := ?_) ?_ ?_
      rotate_left
      · show Act.put _ (some 39) _ = _
        simp only [Act.put, List.setIfInBounds_toArray, List.set_cons_zero, List.set_cons_succ, i64_w, i32_w]
        rfl
      refine pure_ (i := 12) (N := some 40) (v := ?_) (a' := ?_) #[true, true, true, true, true, true, true, true, true, true, true, true, true, false, false, false] rfl rfl (by kernel_rfl) (fun _ _ _ h => h) (Or.inl ⟨by rfl, ?_⟩) ?_ ?_
      rotate_left
      · intro w'
        go_simp
        with_reducible rfl
      rotate_left
      · simp only [Act.put, List.setIfInBounds_toArray, List.set_cons_zero, List.set_cons_succ, i64_w, i32_w]
        rfl
      refine pure_ (i := 13) (N := some 41) (v := ?_) (a' := ?_) #[true, true, true, true, true, true, true, true, true, true, true, true, true, true, false, false] rfl rfl (by kernel_rfl) (fun _ _ _ h => h) (Or.inl ⟨by rfl, ?_⟩) ?_ ?_
      rotate_left
      · intro w'
        go_simp
        with_reducible rfl
      rotate_left
      · simp only [Act.put, List.setIfInBounds_toArray, List.set_cons_zero, List.set_cons_succ, i64_w, i32_w]
        rfl
      refine pure_ (i := 14) (N := some 6) (v := ?_) (a' := ?_) #[true, true, true, true, true, true, true, true, true, true, true, true, true, true, true, false] rfl rfl (by kernel_rfl) (fun _ _ _ h => h) (Or.inl ⟨by rfl, ?_⟩) ?_ ?_
      rotate_left
      · intro w'
        go_simp
        with_reducible rfl
      rotate_left
      · simp only [Act.put, List.setIfInBounds_toArray, List.set_cons_zero, List.set_cons_succ, i64_w, i32_w]
        rfl
      refine pure_ (i := 15) (N := some 7) (v := ?_) (a' := ?_) #[true, true, true, true, true, true, true, true, true, true, true, true, true, true, true, true] rfl rfl (by kernel_rfl) (fun _ _ _ h => h) (Or.inl ⟨by rfl, ?_⟩) ?_ ?_
      rotate_left
      · intro w'
        go_simp
        with_reducible rfl
      rotate_left
      · simp only [Act.put, List.setIfInBounds_toArray, List.set_cons_zero, List.set_cons_succ, i64_w, i32_w]
        rfl
      refine done_ (by kernel_rfl) ?_
      go_wp2
      refine bodyPost_ret (results_tmp2 rfl _ _ _) rfl ?_
      refine ⟨v2, _, rfl, ?_, Nat.le_trans (Dp_len ms id) (Nat.le_succ _), ⟨S', (by rw [cv_Dp]; exact HT3.out.below HB4.out), ?_, fun k hk => (HS3.out k hk).imp (fun q => q) (fun q => by have := HB2.out.size; have := HC1.out.size; omega)⟩, ⟨HC1.out.trans (Chg.trans (.of_below HB2.out) (HC3.out.trans (.of_below HB4.out)))⟩⟩
      · rw [cv_Dp]; unfold nextm; rw [if_neg (by decide), if_pos rfl]
      · have q := RV_step (RV_of_R (P := fun k => W.heap.size ≤ k ∧ ¬ S k) HR2.out (fun k hk => ⟨Nat.le_trans HC1.out.size hk, fun q => by have h1 := HT1.out.lt k q; have h2 : w1.heap.size ≤ k := hk; omega⟩)) HC3.out (fun k hk => hk.2)
        exact Kd.V_mono (Kd.V_below q HB4.out) (fun k hk => ⟨.inr hk.1.1, fun hs => (HS3.out k hs).elim hk.1.2 (fun r => by have := hk.2; omega)⟩)
  have d1 : (kind == 1) = false := beq_eq_false_iff_ne.2 k1
  obtain ⟨ms', hm', hlm, ed⟩ := due_f ms at_ (by have := HN.out; omega)
  rw [← cv_len ms] at ed hm'
  obtain ⟨kd, ed⟩ := ed.get
  have ED := Aside0.mk ed
  have HM' := Aside0.mk (show cv ms' = (rDue (cv ms).length at_ (cv ms) []).2 from hm')
  have HLM := Aside0.mk hlm
  have HK := Aside0.mk (show kind ≠ 0 ∧ kind ≠ 1 from ⟨k0, k1⟩)
  have hLL : (rDue (cv ms).length at_ (cv ms) []).1.length < 4611686018427387904 := by
    have : ∀ k now m acc, (rDue k now m acc).1.length ≤ acc.length + k := by
      intro k
      induction k with
      | zero => intro now m acc; exact Nat.le_refl _
      | succ k ih =>
        intro now m acc
        simp only [rDue]
        split
        · have := ih now (rDrop m (E m (rFirst m).toNat).2) (acc ++ [(E m (rFirst m).toNat).2])
          rw [List.length_append, List.length_singleton] at this
          omega
        · simp
    have q := this (cv ms).length at_ (cv ms) []
    have := HN.out
    rw [List.length_nil] at q
    omega
  obtain ⟨kk, es⟩ := (same_f _ hLL).get
  have ES := Aside0.mk es
  clear ed hm' hlm k0 k1 x1 hLL es
  obtain ⟨L, hL⟩ : ∃ L, L = (rDue (cv ms).length at_ (cv ms) []).1 := ⟨_, rfl⟩
  rw [← hL] at ED ES
  have HD12 := fun (w2 : World) (t : TR w2 base g n (cv ms) S) => due_r t at_ HN.out.2.2.2 (by have := HN.out; omega)
  rw [← hL] at HD12
  have HD12 := Aside0.mk HD12
  clear hL
  go_wp2_with (first
    | (go_at_call 13; refine (logjamref05_Due.calls kd Q A c ms at_ L ms' w1 HQ1.out ED.out).mono ?_; rintro e w2 ⟨v0, v1, rfl, hr0, hv1, hb⟩; obtain ⟨A0, c0, rfl⟩ := Kd.R_slice hr0; obtain ⟨A1, c1, rfl⟩ := Kd.V_slice hv1; have HR0 := Aside0.mk hr0; have HV2 := Aside0.mk hv1; have HB2 := Aside0.mk hb; have BX2 := Aside0.mk (blk_below BX.out hb); have HT2 := Aside0.mk (HT1.out.below hb); clear hr0 hv1 hb; have y2 : w2.cell? ⟨gx, 2, none⟩ = some (.int .i64 at_) := (blk_cell BX2.out 2).trans rfl)
    | (go_at_call 12; refine (HD12.out w2 HT2.out).mono ?_; rintro e w3 ⟨v3, rfl, HR3, ⟨⟨S', t3, s3⟩⟩, hc⟩; obtain ⟨A3, c3, rfl⟩ := Kd.R_slice HR3.out; have HT3 := Aside0.mk t3; have HS3 := Aside0.mk s3; have HC3 := Aside0.mk hc; clear t3 s3 hc)
    | (go_at_call 14; refine (logjamlaw05_same.calls kk A3 c3 L A0 c0 L true w3 (Kd.R_reads' HR3.out).2.2 (Kd.R_reads' HR3.out).2.1 (Kd.R_reads' (Kd.R_step HR0.out (fun k hk hlt => HC3.out.block k hlt (fun q => by have := HT1.out.lt k q; omega)))).2.2 (Kd.R_reads' HR0.out).2.1 ES.out).mono ?_; rintro e w4 ⟨rfl, hd⟩; have HB4 := Aside0.mk (dbel hd); clear hd))
  refine bodyPost_ret (results_tmp2 rfl _ _ _) rfl ?_
  refine ⟨_, ms', rfl, ?_, Nat.le_succ_of_le HLM.out, ⟨S', (by rw [HM'.out]; exact HT3.out.below HB4.out), ?_, fun k hk => (HS3.out k hk).imp (fun q => q) (fun q => by have := HB2.out.size; have := HC1.out.size; omega)⟩, ⟨HC1.out.trans (Chg.trans (.of_below HB2.out) (HC3.out.trans (.of_below HB4.out)))⟩⟩
  · rw [HM'.out]
    unfold nextm
    rw [if_neg HK.out.1, if_neg HK.out.2]
  · have q := RV_step (S := S) (show Kd.V k81 81 w2 0 (fun k => (Q k ∨ W.heap.size ≤ k) ∧ ¬ S k) (.slice A1 ms'.length c1) ms' from Kd.V_mono HV2.out (fun k hk => ⟨hk.1.imp (fun q => q) (fun r => Nat.le_trans HC1.out.size r), fun hs => hk.1.elim (fun r => HQ.out k r hs) (fun r => by have := HT1.out.lt k hs; omega)⟩)) HC3.out (fun k hk => hk.2)
    exact Kd.V_mono (Kd.V_below q HB4.out) (fun k hk => ⟨hk.1.1, fun hs => (HS3.out k hs).elim hk.1.2 (fun r => by have := hk.2; omega)⟩)
end
end Go.Proofs.Ytlggjacghemakaa.TxTimerApart
