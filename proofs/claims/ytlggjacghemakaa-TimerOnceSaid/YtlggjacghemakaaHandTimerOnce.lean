/- TimerOnce, walked: for any calls and times it answers true. Conditions: none. -/
import Derived.Test.YtlggjacghemakaaOkTimerOnce
import Derived.Test.YtlggjacghemakaaTxTimerOnce
import Derived.Test.YtlggjacghemakaaTh4
namespace Go.Proofs.Ytlggjacghemakaa.timerOnceW
open Go.RowKit Go.Proofs.Ytlggjacghemakaa.PTimerOnce Go.Proofs.YtlggjacghemakaaW.PrintWords Go.Proofs.YtlggjacghemakaaW.PrintLast Tm TxTimerOnce
set_option linter.unusedSimpArgs false
set_option linter.unusedVariables false
theorem dbel {w w' : World} (h : Drawn0 w w') : Below w.heap.size w w' := by
  obtain ⟨⟨n, rfl⟩⟩ := h
  exact pw_below_drewN (Below.refl _ _) n
abbrev MV (W : World) (S : Nat → Prop) (v : Value) (ms : List S81) : Prop := Kd.V k81 81 W 0 (fun k => ¬ S k) v ms
theorem MV.of_R {W : World} {S : Nat → Prop} {v : Value} {ms : List S81} {b : Nat} (h : Kd.R k81 81 W b (fun _ => True) v ms) (hS : ∀ k, S k → k < b) : MV W S v ms :=
  Kd.V_mono (Kd.R_V (base' := 0) (Kd.R_tight rfl h)) (fun k hk q => by have := Kd.R_base h k hk.symm; have := hS k q; omega)
theorem MV.step {W W' : World} {S S' : Nat → Prop} {v : Value} {ms : List S81} (h : MV W S v ms) (hc : Chg S W W') (hs : ∀ k, S' k → S k ∨ W.heap.size ≤ k) : MV W' S' v ms :=
  Kd.V_mono (Kd.V_step (Kd.V_bound h) (fun k hk hlt => hc.block k hlt hk.1)) (fun k hk q => (hs k q).elim hk.1 (fun r => by have := hk.2; omega))
theorem MV.empty (W : World) (S : Nat → Prop) (A : Option Addr) : MV W S (.slice A 0 0) [] :=
  Kd.V_mk (xs := ([] : List S81)) (Nat.le_refl 0) (fun W' _ => ⟨rfl, by decide, fun h => absurd h (Nat.lt_irrefl 0)⟩)
theorem cells32 {W : World} {ad : Addr} {n : Nat} {l : List S32} (h : Kd.C k32 W (some ad) n l) {j : Nat} (hj : j < n) : W.cell? (ad.add (j * 3)) = some (.int .i64 (rd_T32 l (j : Int)).f0) ∧ W.cell? ⟨(ad.add (j * 3)).block, (ad.add (j * 3)).off + 1, none⟩ = some (.int .i64 (rd_T32 l (j : Int)).f1) ∧ W.cell? ⟨(ad.add (j * 3)).block, (ad.add (j * 3)).off + 2, none⟩ = some (.int .i64 (rd_T32 l (j : Int)).f2) := by
  obtain ⟨ad', e, h0, h1, h2⟩ := at_T32 h (j : Int) (by omega) (by omega)
  injection e with e
  subst e
  exact ⟨h0, h1, h2⟩
theorem ownE {W : World} {base g : Nat} (h : W.heap[g]? = some (.cells #[] 3 (0, 0))) (hb : base ≤ g) : Kd.R (Kd.int .i64) 3 W base (fun k => base ≤ k) (.slice (some ⟨g, 0, none⟩) 0 0) [] :=
  Kd.R_of_own (xs := ([] : List Int)) ⟨rfl, .inr ⟨g, 0, #[], rfl, hb, h, Nat.le_refl _, by decide, rfl, rfl⟩⟩ (fun k hk => by simp [Value.ownBlock] at hk; omega)
set_option maxHeartbeats 8000000 in
set_option maxRecDepth 100000 in
theorem walk (A0 : Option Addr) (c0 : Nat) (l0 : List (S32)) (A1 : Option Addr) (c1 : Nat) (l1 : List Int) (w : World) (hr0 : Kd.C k32 w A0 l0.length l0) (hc0 : l0.length ≤ c0) (hr1 : Kd.C (Kd.int .i64) w A1 l1.length l1) (hc1 : l1.length ≤ c1) (w0 : (fun l => (∀ a ∈ l, (ok32) a) ∧ l.length * 24 ≤ 140737488351232) l0) (w1 : (fun l => (∀ a ∈ l, (fun x => (Lit.int .i64 x).wf = true) a) ∧ l.length * 8 ≤ 140737488351232) l1) :
    Calls Try.prog 3 #[.slice A0 l0.length c0, .slice A1 l1.length c1] w fun e w' => e = .returned (.bool true) ∧ Below w.heap.size w w' := by
  have hu28 := Try.underlying28
  have hu32 := Try.underlying32
  have HC := Aside0.mk hr0
  have HC1 := Aside0.mk hr1
  have HOK := Aside0.mk w0.1
  have HLN := Aside0.mk (show l0.length * 24 ≤ 140737488351232 ∧ l1.length * 8 ≤ 140737488351232 from ⟨w0.2, w1.2⟩)
  have HWF := Aside0.mk w1.1
  clear hr0 hc0 hr1 hc1 w0 w1
  go_enter Try.func3, Try.ntmps3
  go_upto_block 0 with ((with_reducible refine gate_dst (N := 14) rfl ?_); refine box_event ?hg (N := 14) ?hd (cs := #[.slice none 0 0, .map none]) (t := 28) ?hr ?_; (case hd => rfl); (case hg => rfl); (case hr => first | (go_simp; done) | (go_simp; rfl)); intro g hg w1 hbox hb; have T1 := Aside0.mk (TR.new hbox (show w.heap.size ≤ g from by omega)); have C1 := Aside0.mk hb; clear hbox hb hg)
  have HT0 := Aside0.mk (T1.out.below (below_alloc (Below.refl _ _) (.cells #[] 81 (0, 0))))
  have HB0 := Aside0.mk (below_alloc C1.out (.cells #[] 81 (0, 0)))
  clear T1 C1
  go_cut [6, 7] (fun v6 v7 wc => ∃ (n' : Nat) (ms : List S81) (S : Nat → Prop) (A : Option Addr) (c : Nat), v6 = .slice A ms.length c ∧ Aside0 (ms.length ≤ 60 ∧ n' ≤ 60000000) ∧ Aside0 (TR wc w.heap.size g n' (cv ms) S) ∧ Aside0 (MV wc S (.slice A ms.length c) ms) ∧ Aside0 (Below w.heap.size w wc))
  case first =>
    go_wp2
    go_loopg [6, 7] l0.length (fun kq v6 v7 w' => ∃ (i n' : Nat) (ms : List S81) (S : Nat → Prop) (A : Option Addr) (c : Nat), v6 = .slice A ms.length c ∧ v7 = .int .i64 (i : Int) ∧ Aside0 (i + kq = l0.length ∧ i ≤ 60 ∧ ms.length ≤ i ∧ n' ≤ i * 1000000) ∧ Aside0 (TR w' w.heap.size g n' (cv ms) S) ∧ Aside0 (MV w' S (.slice A ms.length c) ms) ∧ Aside0 (Below w.heap.size w w'))
    case atStart => exact ⟨0, 0, [], _, _, _, rfl, rfl, ⟨by omega, by omega, Nat.le_refl _, Nat.le_refl _⟩, HT0, ⟨MV.empty _ _ _⟩, HB0⟩
    case round =>
      clear HT0 HB0
      obtain ⟨i, n', ms, S, A, c, rfl, rfl, HI, HT, HM, HB⟩ := hrel
      by_cases q1 : i < l0.length ∧ i < 60
      case neg =>
        by_cases q2 : i < l0.length
        · have d1 : decide ((i : Int) < (l0.length : Int)) = true := decide_eq_true (by omega)
          have d2 : decide (i < l0.length) = true := decide_eq_true q2
          have d3 : decide ((i : Int) < 60) = false := decide_eq_false (by omega)
          have d4 : decide (i < 60) = false := decide_eq_false (by omega)
          clear q1 q2
          go_wp2
          first | go_meet | (go_step; go_meet) | (go_step; go_step; go_meet)
          case rel => exact ⟨n', ms, S, A, c, rfl, ⟨by have := HI.out; omega⟩, HT, HM, HB⟩
        · have d1 : decide ((i : Int) < (l0.length : Int)) = false := decide_eq_false (by omega)
          have d2 : decide (i < l0.length) = false := decide_eq_false q2
          clear q1 q2
          go_wp2
          first | go_meet | (go_step; go_meet) | (go_step; go_step; go_meet)
          case rel => exact ⟨n', ms, S, A, c, rfl, ⟨by have := HI.out; omega⟩, HT, HM, HB⟩
      have hI := HI.out
      obtain ⟨k1, rfl⟩ : ∃ k, gk = k + 1 := ⟨gk - 1, by omega⟩
      obtain ⟨ad, rfl, _⟩ := at_T32 HC.out 0 (by omega) (by omega)
      have d1 : decide ((i : Int) < (l0.length : Int)) = true := decide_eq_true (by omega)
      have d2 : decide (i < l0.length) = true := decide_eq_true q1.1
      have d3 : decide ((i : Int) < 60) = true := decide_eq_true (by omega)
      have d4 : decide (i < 60) = true := decide_eq_true q1.2
      have p1 : ((0 : Int) ≤ (i : Int)) = True := eq_true (by omega)
      have p2 : ((i : Int) < (l0.length : Int)) = True := eq_true (by omega)
      have p3 : (i < l0.length) = True := eq_true q1.1
      have HIL := Aside0.mk q1
      have hok : ok32 (rd_T32 l0 (i : Int)) := by
        refine HOK.out _ ?_
        unfold rd_T32
        rw [Int.toNat_natCast, List.getD_eq_getElem?_getD, List.getElem?_eq_getElem q1.1]
        exact List.getElem_mem q1.1
      have HO := Aside0.mk hok
      obtain ⟨_, u1, u2⟩ := cells32 (Kd.C_below HC.out HB.out) q1.1
      have D10 := Aside0.mk (show ∀ W2 : World, Below wr.heap.size wr W2 → _ from fun W2 hb => set_r (HT.out.below hb) (id := (rd_T32 l0 (i : Int)).f1) (at_ := (rd_T32 l0 (i : Int)).f2) hok.2.1 (by rw [cv_len]; omega) (by omega) (Nat.le_trans HB.out.size hb.size))
      obtain ⟨ks, es⟩ := (set_f ms (rd_T32 l0 (i : Int)).f1 (rd_T32 l0 (i : Int)).f2 (by omega)).get
      have ES := Aside0.mk es
      have e1 : IntKind.i64.wrap ((i : Int) + 1) = ((i + 1 : Nat) : Int) := by rw [i64_w]; unfold wrap64; omega
      clear q1 hI hok es
      go_upto_region 5 with (fail)
      refine start_ (n := 12) (S := fun w' => w'.cell? ⟨(ad.add (i * 3)).block, (ad.add (i * 3)).off + 1, none⟩ = some (.int .i64 (rd_T32 l0 (i : Int)).f1) ∧ w'.cell? ⟨(ad.add (i * 3)).block, (ad.add (i * 3)).off + 2, none⟩ = some (.int .i64 (rd_T32 l0 (i : Int)).f2)) (ds := []) #[false, false, false, false, false, false, false, false, false, false, false, false] (by kernel_rfl) rfl rfl ⟨u1, u2⟩ (fun hHeld => ?_)
      refine pure_ (i := 0) (N := some 26) (v := ?_) (a' := ?_) #[true, false, false, false, false, false, false, false, false, false, false, false] rfl rfl (by kernel_rfl) (fun _ _ _ h => h) (Or.inl ⟨by rfl, ?_⟩) ?_ ?_
      rotate_left
      · intro w'
        go_simp
        with_reducible rfl
      rotate_left
      · simp only [Act.put, List.setIfInBounds_toArray, List.set_cons_zero, List.set_cons_succ, i64_w, i32_w]
        rfl
      refine pure_ (i := 1) (N := some 27) (v := ?_) (a' := ?_) #[true, true, false, false, false, false, false, false, false, false, false, false] rfl rfl (by kernel_rfl) (fun _ _ _ h => h) (Or.inl ⟨by rfl, ?_⟩) ?_ ?_
      rotate_left
      · intro w'
        go_simp
        with_reducible rfl
      rotate_left
      · simp only [Act.put, List.setIfInBounds_toArray, List.set_cons_zero, List.set_cons_succ, i64_w, i32_w]
        rfl
      refine pure_ (i := 2) (N := some 28) (v := ?_) (a' := ?_) #[true, true, true, false, false, false, false, false, false, false, false, false] rfl rfl (by kernel_rfl) (fun _ _ _ h => h) (Or.inl ⟨by rfl, ?_⟩) ?_ ?_
      rotate_left
      · intro w'
        go_simp
        with_reducible rfl
      rotate_left
      · simp only [Act.put, List.setIfInBounds_toArray, List.set_cons_zero, List.set_cons_succ, i64_w, i32_w]
        rfl
      refine pure_ (i := 3) (N := some 29) (v := ?_) (a' := ?_) #[true, true, true, true, false, false, false, false, false, false, false, false] rfl rfl (by kernel_rfl) (fun _ _ _ h => h) (Or.inl ⟨by rfl, ?_⟩) ?_ ?_
      rotate_left
      · intro w'
        go_simp
        with_reducible rfl
      rotate_left
      · simp only [Act.put, List.setIfInBounds_toArray, List.set_cons_zero, List.set_cons_succ, i64_w, i32_w]
        rfl
      refine pure_ (i := 4) (N := some 30) (v := ?_) (a' := ?_) #[true, true, true, true, true, false, false, false, false, false, false, false] rfl rfl (by kernel_rfl) (fun _ _ _ h => h) (Or.inl ⟨by rfl, ?_⟩) ?_ ?_
      rotate_left
      · intro w'
        go_simp
        with_reducible rfl
      rotate_left
      · simp only [Act.put, List.setIfInBounds_toArray, List.set_cons_zero, List.set_cons_succ, i64_w, i32_w]
        rfl
      refine pure_ (i := 6) (N := some 32) (v := ?_) (a' := ?_) #[true, true, true, true, true, false, true, false, false, false, false, false] rfl rfl (by kernel_rfl) (fun _ _ _ h => h) (Or.inl ⟨by rfl, ?_⟩) ?_ ?_
      rotate_left
      · intro w'
        go_simp
        with_reducible rfl
      rotate_left
      · simp only [Act.put, List.setIfInBounds_toArray, List.set_cons_zero, List.set_cons_succ, i64_w, i32_w]
        rfl
      refine pure_ (i := 7) (N := some 33) (v := ?_) (a' := ?_) #[true, true, true, true, true, false, true, true, false, false, false, false] rfl rfl (by kernel_rfl) (fun _ _ _ h => h) (Or.inl ⟨by rfl, ?_⟩) ?_ ?_
      rotate_left
      · intro w'
        go_simp
        with_reducible rfl
      rotate_left
      · simp only [Act.put, List.setIfInBounds_toArray, List.set_cons_zero, List.set_cons_succ, i64_w, i32_w]
        rfl
      refine pure_ (i := 8) (N := some 34) (v := ?_) (a' := ?_) #[true, true, true, true, true, false, true, true, true, false, false, false] rfl rfl (by kernel_rfl) (fun _ _ _ h => h) (Or.inl ⟨by rfl, ?_⟩) ?_ ?_
      rotate_left
      · intro w'
        go_simp
        with_reducible rfl
      rotate_left
      · simp only [Act.put, List.setIfInBounds_toArray, List.set_cons_zero, List.set_cons_succ, i64_w, i32_w]
        rfl
      refine pure_ (i := 9) (N := some 35) (v := ?_) (a' := ?_) #[true, true, true, true, true, false, true, true, true, true, false, false] rfl rfl (by kernel_rfl) (fun _ _ _ h => h) (Or.inl ⟨by rfl, ?_⟩) ?_ ?_
      rotate_left
      · intro w'
        go_simp
        with_reducible rfl
      rotate_left
      · simp only [Act.put, List.setIfInBounds_toArray, List.set_cons_zero, List.set_cons_succ, i64_w, i32_w]
        rfl
      refine take_ (i := 5) (N := some 31) (v := ?_) (a' := ?_) #[true, true, true, true, true, true, true, true, true, true, false, false] rfl rfl (by kernel_rfl) (fun _ _ _ h => h) (Or.inl ⟨by rfl, ?_⟩) hHeld ?_ ?_
      rotate_left
      · rintro w' ⟨s0, s1⟩
        go_simp
        with_reducible rfl
      rotate_left
      · simp only [Act.put, List.setIfInBounds_toArray, List.set_cons_zero, List.set_cons_succ, i64_w, i32_w]
        rfl
      refine take_ (i := 10) (N := some 36) (v := ?_) (a' := ?_) #[true, true, true, true, true, true, true, true, true, true, true, false] rfl rfl (by kernel_rfl) (fun _ _ _ h => h) (Or.inl ⟨by rfl, ?_⟩) hHeld ?_ ?_
      rotate_left
      · rintro w' ⟨s0, s1⟩
        go_simp
        with_reducible rfl
      rotate_left
      · simp only [Act.put, List.setIfInBounds_toArray, List.set_cons_zero, List.set_cons_succ, i64_w, i32_w]
        rfl
      refine one_ (i := 11) (N := some 37) #[true, true, true, true, true, true, true, true, true, true, true, true] rfl rfl (by kernel_rfl) (by decide) (fun K hK => ?_)
      refine goes_ Try.func10 (by kernel_rfl) rfl #[.pointer (some ⟨g, 0, none⟩), .int .i64 (rd_T32 l0 (i : Int)).f1, .int .i64 (rd_T32 l0 (i : Int)).f2] (by rfl) rfl rfl (by simp only [List.map_toArray, List.map_cons, List.map_nil]; rfl) ?_
      with_reducible refine (D10.out wr.drew (below_drew (Below.refl _ _))).mono ?_
      rintro e w2 ⟨rfl, ⟨⟨S2, t2, s2⟩⟩, hc⟩
      refine ⟨_, rfl, ?_⟩
      have HT2 := Aside0.mk t2
      have HS2 := Aside0.mk s2
      have HC2 := Aside0.mk (Chg.trans (Chg.of_below (below_drew (Below.refl _ _))) hc)
      clear t2 s2 hc
      have HB2 := Aside0.mk (Chg.below HB.out HC2.out HB.out.size HT.out.base_le)
      obtain ⟨_, v1, v2⟩ := cells32 (Kd.C_below HC.out HB2.out) HIL.out.1
      refine hK.out _ _ ⟨v1, v2⟩ (fun hHeld => ?_)
      clear hK K
      refine norm_ (a' := ?_) ?_ ?_
      rotate_left
      · show Act.put _ (some 37) _ = _
        simp only [Act.put, List.setIfInBounds_toArray, List.set_cons_zero, List.set_cons_succ, i64_w, i32_w]
        rfl
      refine done_ (by kernel_rfl) ?_
      have HM2 := Aside0.mk (show MV w2 S2 (.slice A ms.length c) ms from HM.out.step HC2.out HS2.out)
      go_upto_region 6 with (fail)
      refine start_ (n := 13) (S := fun w' => w'.cell? ⟨(ad.add (i * 3)).block, (ad.add (i * 3)).off + 1, none⟩ = some (.int .i64 (rd_T32 l0 (i : Int)).f1) ∧ w'.cell? ⟨(ad.add (i * 3)).block, (ad.add (i * 3)).off + 2, none⟩ = some (.int .i64 (rd_T32 l0 (i : Int)).f2)) (ds := []) #[false, false, false, false, false, false, false, false, false, false, false, false, false] (by kernel_rfl) rfl rfl ⟨v1, v2⟩ (fun hHeld => ?_)
      refine pure_ (i := 0) (N := some 38) (v := ?_) (a' := ?_) #[true, false, false, false, false, false, false, false, false, false, false, false, false] rfl rfl (by kernel_rfl) (fun _ _ _ h => h) (Or.inl ⟨by rfl, ?_⟩) ?_ ?_
      rotate_left
      · intro w'
        go_simp
        with_reducible rfl
      rotate_left
      · simp only [Act.put, List.setIfInBounds_toArray, List.set_cons_zero, List.set_cons_succ, i64_w, i32_w]
        rfl
      refine pure_ (i := 1) (N := some 39) (v := ?_) (a' := ?_) #[true, true, false, false, false, false, false, false, false, false, false, false, false] rfl rfl (by kernel_rfl) (fun _ _ _ h => h) (Or.inl ⟨by rfl, ?_⟩) ?_ ?_
      rotate_left
      · intro w'
        go_simp
        with_reducible rfl
      rotate_left
      · simp only [Act.put, List.setIfInBounds_toArray, List.set_cons_zero, List.set_cons_succ, i64_w, i32_w]
        rfl
      refine pure_ (i := 2) (N := some 40) (v := ?_) (a' := ?_) #[true, true, true, false, false, false, false, false, false, false, false, false, false] rfl rfl (by kernel_rfl) (fun _ _ _ h => h) (Or.inl ⟨by rfl, ?_⟩) ?_ ?_
      rotate_left
      · intro w'
        go_simp
        with_reducible rfl
      rotate_left
      · simp only [Act.put, List.setIfInBounds_toArray, List.set_cons_zero, List.set_cons_succ, i64_w, i32_w]
        rfl
      refine pure_ (i := 3) (N := some 41) (v := ?_) (a' := ?_) #[true, true, true, true, false, false, false, false, false, false, false, false, false] rfl rfl (by kernel_rfl) (fun _ _ _ h => h) (Or.inl ⟨by rfl, ?_⟩) ?_ ?_
      rotate_left
      · intro w'
        go_simp
        with_reducible rfl
      rotate_left
      · simp only [Act.put, List.setIfInBounds_toArray, List.set_cons_zero, List.set_cons_succ, i64_w, i32_w]
        rfl
      refine pure_ (i := 4) (N := some 42) (v := ?_) (a' := ?_) #[true, true, true, true, true, false, false, false, false, false, false, false, false] rfl rfl (by kernel_rfl) (fun _ _ _ h => h) (Or.inl ⟨by rfl, ?_⟩) ?_ ?_
      rotate_left
      · intro w'
        go_simp
        with_reducible rfl
      rotate_left
      · simp only [Act.put, List.setIfInBounds_toArray, List.set_cons_zero, List.set_cons_succ, i64_w, i32_w]
        rfl
      refine pure_ (i := 6) (N := some 44) (v := ?_) (a' := ?_) #[true, true, true, true, true, false, true, false, false, false, false, false, false] rfl rfl (by kernel_rfl) (fun _ _ _ h => h) (Or.inl ⟨by rfl, ?_⟩) ?_ ?_
      rotate_left
      · intro w'
        go_simp
        with_reducible rfl
      rotate_left
      · simp only [Act.put, List.setIfInBounds_toArray, List.set_cons_zero, List.set_cons_succ, i64_w, i32_w]
        rfl
      refine pure_ (i := 7) (N := some 45) (v := ?_) (a' := ?_) #[true, true, true, true, true, false, true, true, false, false, false, false, false] rfl rfl (by kernel_rfl) (fun _ _ _ h => h) (Or.inl ⟨by rfl, ?_⟩) ?_ ?_
      rotate_left
      · intro w'
        go_simp
        with_reducible rfl
      rotate_left
      · simp only [Act.put, List.setIfInBounds_toArray, List.set_cons_zero, List.set_cons_succ, i64_w, i32_w]
        rfl
      refine pure_ (i := 8) (N := some 46) (v := ?_) (a' := ?_) #[true, true, true, true, true, false, true, true, true, false, false, false, false] rfl rfl (by kernel_rfl) (fun _ _ _ h => h) (Or.inl ⟨by rfl, ?_⟩) ?_ ?_
      rotate_left
      · intro w'
        go_simp
        with_reducible rfl
      rotate_left
      · simp only [Act.put, List.setIfInBounds_toArray, List.set_cons_zero, List.set_cons_succ, i64_w, i32_w]
        rfl
      refine pure_ (i := 9) (N := some 47) (v := ?_) (a' := ?_) #[true, true, true, true, true, false, true, true, true, true, false, false, false] rfl rfl (by kernel_rfl) (fun _ _ _ h => h) (Or.inl ⟨by rfl, ?_⟩) ?_ ?_
      rotate_left
      · intro w'
        go_simp
        with_reducible rfl
      rotate_left
      · simp only [Act.put, List.setIfInBounds_toArray, List.set_cons_zero, List.set_cons_succ, i64_w, i32_w]
        rfl
      refine take_ (i := 5) (N := some 43) (v := ?_) (a' := ?_) #[true, true, true, true, true, true, true, true, true, true, false, false, false] rfl rfl (by kernel_rfl) (fun _ _ _ h => h) (Or.inl ⟨by rfl, ?_⟩) hHeld ?_ ?_
      rotate_left
      · rintro w' ⟨s0, s1⟩
        go_simp
        with_reducible rfl
      rotate_left
      · simp only [Act.put, List.setIfInBounds_toArray, List.set_cons_zero, List.set_cons_succ, i64_w, i32_w]
        rfl
      refine take_ (i := 10) (N := some 48) (v := ?_) (a' := ?_) #[true, true, true, true, true, true, true, true, true, true, true, false, false] rfl rfl (by kernel_rfl) (fun _ _ _ h => h) (Or.inl ⟨by rfl, ?_⟩) hHeld ?_ ?_
      rotate_left
      · rintro w' ⟨s0, s1⟩
        go_simp
        with_reducible rfl
      rotate_left
      · simp only [Act.put, List.setIfInBounds_toArray, List.set_cons_zero, List.set_cons_succ, i64_w, i32_w]
        rfl
      refine one_ (i := 11) (N := some 49) #[true, true, true, true, true, true, true, true, true, true, true, true, false] rfl rfl (by kernel_rfl) (by decide) (fun K hK => ?_)
      refine goes_ Try.func11 (by kernel_rfl) rfl #[.slice A ms.length c, .int .i64 (rd_T32 l0 (i : Int)).f1, .int .i64 (rd_T32 l0 (i : Int)).f2] (by rfl) rfl rfl (by simp only [List.map_toArray, List.map_cons, List.map_nil]; rfl) ?_
      with_reducible refine (logjamref05_Set.calls ks A c ms (rd_T32 l0 (i : Int)).f1 (rd_T32 l0 (i : Int)).f2 _ w2.drew (Kd.V_reads' (show MV w2.drew S2 (.slice A ms.length c) ms from Kd.V_below HM2.out (below_drew (Below.refl _ _)))).2.2 (Kd.V_reads' HM2.out).2.1 ES.out).mono ?_
      rintro e w3 ⟨v3, rfl, hr, hb⟩
      refine ⟨_, rfl, ?_⟩
      have HR3 := Aside0.mk hr
      have HB3 := Aside0.mk (below_step (below_drew (Below.refl _ _)) hb)
      clear hr hb
      obtain ⟨_, x1, x2⟩ := cells32 (Kd.C_below HC.out (below_step HB2.out HB3.out)) HIL.out.1
      refine hK.out _ _ ⟨x1, x2⟩ (fun hHeld => ?_)
      clear hK K
      refine norm_ (a' := ?_) ?_ ?_
      rotate_left
      · show Act.put _ (some 49) _ = _
        simp only [Act.put, List.setIfInBounds_toArray, List.set_cons_zero, List.set_cons_succ, i64_w, i32_w]
        rfl
      refine pure_ (i := 12) (N := some 6) (v := ?_) (a' := ?_) #[true, true, true, true, true, true, true, true, true, true, true, true, true] rfl rfl (by kernel_rfl) (fun _ _ _ h => h) (Or.inl ⟨by rfl, ?_⟩) ?_ ?_
      rotate_left
      · intro w'
        go_simp
        with_reducible rfl
      rotate_left
      · simp only [Act.put, List.setIfInBounds_toArray, List.set_cons_zero, List.set_cons_succ, i64_w, i32_w]
        rfl
      refine done_ (by kernel_rfl) ?_
      obtain ⟨A3, c3, rfl⟩ := Kd.R_slice HR3.out
      go_wp2
      go_roundg k1
      case measure => omega
      case rel =>
        exact ⟨i + 1, n' + 1000000, _, S2, A3, c3, rfl, rfl, ⟨by have h1 := HI.out; have h2 := HIL.out; have h3 := Dp_len ms (rd_T32 l0 (i : Int)).f1; simp only [List.length_append, List.length_singleton]; omega⟩, ⟨by rw [cv_Set]; exact HT2.out.below HB3.out⟩, ⟨MV.of_R HR3.out (fun k hk => HT2.out.lt k hk)⟩, ⟨below_step HB2.out HB3.out⟩⟩
  case rest =>
  clear HT0 HB0
  obtain ⟨n5, ms, S5, A, c, rfl, HL, HT, HM, HB⟩ := hcut
  obtain ⟨N0, hN0⟩ : ∃ N, N = wc.heap.size := ⟨_, rfl⟩
  have HN0 := Aside0.mk (show w.heap.size ≤ N0 ∧ ∀ k, S5 k → k < N0 from ⟨by rw [hN0]; exact HB.out.size, fun k hk => by rw [hN0]; exact HT.out.lt k hk⟩)
  have HM5 := Aside0.mk (show Kd.V k81 81 wc 0 (fun k => ¬ S5 k ∧ k < N0) (.slice A ms.length c) ms from by rw [hN0]; exact Kd.V_bound HM.out)
  have HT5 := Aside0.mk (HT.out.below (below_alloc (Below.refl _ _) (.cells #[] 3 (0, 0))))
  have HM6 := Aside0.mk (show Kd.V k81 81 (wc.alloc (.cells #[] 3 (0, 0))) 0 (fun k => ¬ S5 k ∧ k < N0) (.slice A ms.length c) ms from Kd.V_below HM5.out (below_alloc (Below.refl _ _) (.cells #[] 3 (0, 0))))
  have HR5 := Aside0.mk (show Kd.R (Kd.int .i64) 3 (wc.alloc (.cells #[] 3 (0, 0))) N0 (fun k => N0 ≤ k) (.slice (some ⟨wc.heap.size, 0, none⟩) ([] : List Int).length 0) [] from ownE (blk_new wc (.cells #[] 3 (0, 0))) (by omega))
  have HB5 := Aside0.mk (below_alloc HB.out (.cells #[] 3 (0, 0)))
  have HZ5 := Aside0.mk (show N0 ≤ (wc.alloc (.cells #[] 3 (0, 0))).heap.size from by rw [hN0]; exact (below_alloc (Below.refl wc.heap.size wc) (.cells #[] 3 (0, 0))).size)
  clear HT HM HB HM5 hN0
  go_upto_block 2 with (fail)
  go_cut [8, 9, 10] (fun v8 v9 v10 wd => ∃ (n' : Nat) (now : Int) (acc : List Int) (cur : List (Int × Int)) (S : Nat → Prop) (A8 : Option Addr) (c8 : Nat), v8 = .slice A8 acc.length c8 ∧ v9 = .int .i64 now ∧ Aside0 ((l1.length = 0 → acc = [] ∧ cur = cv ms) ∧ (0 < l1.length → D now (cv ms) = (acc, cur))) ∧ Aside0 (TR wd w.heap.size g n' cur S ∧ ∀ k, S k → S5 k) ∧ Aside0 (Kd.V k81 81 wd 0 (fun k => ¬ S5 k ∧ k < N0) (.slice A ms.length c) ms) ∧ Aside0 (Kd.R (Kd.int .i64) 3 wd N0 (fun k => N0 ≤ k) (.slice A8 acc.length c8) acc) ∧ Aside0 (Below w.heap.size w wd))
  case first =>
    go_wp2
    go_loopg [8, 9, 10] l1.length (fun kq v8 v9 v10 w' => ∃ (i n' : Nat) (now : Int) (acc : List Int) (cur : List (Int × Int)) (S : Nat → Prop) (A8 : Option Addr) (c8 : Nat), v8 = .slice A8 acc.length c8 ∧ v9 = .int .i64 now ∧ v10 = .int .i64 (i : Int) ∧ Aside0 (i + kq = l1.length ∧ i ≤ 20 ∧ n' ≤ n5 + i * 1000000 ∧ acc.length ≤ 60 * i ∧ cur.length ≤ 60) ∧ Aside0 ((i = 0 → acc = [] ∧ cur = cv ms) ∧ (0 < i → D now (cv ms) = (acc, cur)) ∧ ∀ n2, now ≤ n2 → D n2 (cv ms) = (acc ++ (D n2 cur).1, (D n2 cur).2)) ∧ Aside0 (TR w' w.heap.size g n' cur S ∧ ∀ k, S k → S5 k) ∧ Aside0 (Kd.V k81 81 w' 0 (fun k => ¬ S5 k ∧ k < N0) (.slice A ms.length c) ms) ∧ Aside0 (Kd.R (Kd.int .i64) 3 w' N0 (fun k => N0 ≤ k) (.slice A8 acc.length c8) acc) ∧ Aside0 (Below w.heap.size w w' ∧ N0 ≤ w'.heap.size))
    case atStart => exact ⟨0, n5, _, [], cv ms, S5, _, _, rfl, rfl, rfl, ⟨by omega, by omega, by omega, Nat.le_refl _, by rw [cv_len]; exact HL.out.1⟩, ⟨fun _ => ⟨rfl, rfl⟩, fun h => absurd h (Nat.lt_irrefl 0), fun n2 _ => rfl⟩, ⟨HT5.out, fun _ h => h⟩, HM6, HR5, ⟨HB5.out, HZ5.out⟩⟩
    case round =>
      clear HT5 HM6 HR5 HB5 HZ5
      obtain ⟨i, n', now, acc, cur, S, A8, c8, rfl, rfl, rfl, HI, HP, HT, HM, HR, HB⟩ := hrel
      by_cases q1 : i < l1.length ∧ i < 20
      case neg =>
        have HEX := Aside0.mk (show (l1.length = 0 → acc = [] ∧ cur = cv ms) ∧ (0 < l1.length → D now (cv ms) = (acc, cur)) from ⟨fun h => HP.out.1 (by have := HI.out; omega), fun h => HP.out.2.1 (by have := HI.out; omega)⟩)
        by_cases q2 : i < l1.length
        · have d1 : decide ((i : Int) < (l1.length : Int)) = true := decide_eq_true (by omega)
          have d2 : decide (i < l1.length) = true := decide_eq_true q2
          have d3 : decide ((i : Int) < 20) = false := decide_eq_false (by omega)
          have d4 : decide (i < 20) = false := decide_eq_false (by omega)
          clear q1 q2
          go_wp2
          first | go_meet | (go_step; go_meet) | (go_step; go_step; go_meet)
          case rel => exact ⟨n', now, acc, cur, S, A8, c8, rfl, rfl, HEX, HT, HM, HR, ⟨HB.out.1⟩⟩
        · have d1 : decide ((i : Int) < (l1.length : Int)) = false := decide_eq_false (by omega)
          have d2 : decide (i < l1.length) = false := decide_eq_false q2
          clear q1 q2
          go_wp2
          first | go_meet | (go_step; go_meet) | (go_step; go_step; go_meet)
          case rel => exact ⟨n', now, acc, cur, S, A8, c8, rfl, rfl, HEX, HT, HM, HR, ⟨HB.out.1⟩⟩
      have hI := HI.out
      obtain ⟨k1, rfl⟩ : ∃ k, gk = k + 1 := ⟨gk - 1, by omega⟩
      have d1 : decide ((i : Int) < (l1.length : Int)) = true := decide_eq_true (by omega)
      have d2 : decide (i < l1.length) = true := decide_eq_true q1.1
      have d3 : decide ((i : Int) < 20) = true := decide_eq_true (by omega)
      have d4 : decide (i < 20) = true := decide_eq_true q1.2
      have p1 : ((0 : Int) ≤ (i : Int)) = True := eq_true (by omega)
      have p2 : ((i : Int) < (l1.length : Int)) = True := eq_true (by omega)
      have p3 : (i < l1.length) = True := eq_true q1.1
      obtain ⟨ad, rfl, u0⟩ := Kd.at_int (Kd.C_below HC1.out HB.out.1) (i : Int) (by omega) (by omega)
      rw [Int.toNat_natCast] at u0
      have e1 : IntKind.i64.wrap ((i : Int) + 1) = ((i + 1 : Nat) : Int) := by rw [i64_w]; unfold wrap64; omega
      have HIL := Aside0.mk q1
      clear q1 hI
      go_upto_region 12 with (fail)
      obtain ⟨nw, en, hnw⟩ : ∃ nw : Int, (if now < rd l1 (i : Int) then rd l1 (i : Int) else now) = nw ∧ now ≤ nw := by
        split
        · exact ⟨_, rfl, by omega⟩
        · exact ⟨_, rfl, Int.le_refl _⟩
      rw [en]
      have HNW := Aside0.mk hnw
      clear en hnw u0 p1 p2 p3 d1 d2 d3 d4
      have hS0 : ∀ k, S k → k < N0 := fun k hk => HN0.out.2 k (HT.out.2 k hk)
      have HS0 := Aside0.mk hS0
      have hDl := D_len cur.length cur (Nat.le_refl _) nw
      have HDL := Aside0.mk hDl
      have hal : (acc.length + (D nw cur).1.length) * 8 ≤ 140737488355328 := by have := HI.out; omega
      have HAL := Aside0.mk hal
      have D12 := Aside0.mk (due_r2 HT.out.1 nw (by have := HI.out; omega) (by have := HI.out; have := HL.out; omega))
      clear hS0 hDl hal
      go_wp2_with (first
        | (go_at_call 12; refine D12.out.mono ?_; rintro e w2 ⟨v, rfl, HRd, ⟨⟨S2, t2, s2⟩⟩, hc⟩; obtain ⟨Ad, cd, rfl⟩ := Kd.R_slice HRd.out; have HT2 := Aside0.mk t2; have HS2 := Aside0.mk s2; have HC2 := Aside0.mk hc; have HR2 := Aside0.mk (Kd.R_step HR.out (fun k hk hlt => hc.block k hlt (fun q => by have := HS0.out k q; omega))); have HM2 := Aside0.mk (Kd.V_step HM.out (fun k hk hlt => hc.block k hlt (fun q => hk.1 (HT.out.2 k q)))); have HB2 := Aside0.mk (Chg.below HB.out.1 hc HB.out.1.size HT.out.1.base_le); have HZ2 := Aside0.mk (Nat.le_trans HB.out.2 hc.size); clear t2 s2 hc)
        | ((with_reducible refine gate_dst (N := 71) rfl ?_); refine Kd.R_append_rows (Kd.int .i64) (w0 := w2) N0 rfl (.tmp 67) (.tmp 70) 23 3 (.int .i64 0) 8 rfl Try.underlying23 info3' rfl (by decide) (by decide) (.slice A8 acc.length c8) acc (D nw cur).1 Ad _ cd (fun k => N0 ≤ k) (fun _ => False) rfl rfl HR2.out (Kd.R_reads' HRd.out).2.2 (fun _ _ h => h) (fun _ h => h.elim) (fun k hk => Nat.le_trans HZ2.out hk) (Below.refl _ _) HZ2.out HAL.out ?_; intro v4 w4 hr4 hb4 hg4 hat4; obtain ⟨A4, c4, rfl⟩ := Kd.R_slice hr4; have HR4 := Aside0.mk hr4; have HG4 := Aside0.mk hg4; clear hr4 hb4 hg4 hat4))
      have hrow : ∀ k, (Value.slice A8 acc.length c8).ownBlock = some k → N0 ≤ k := Kd.R_base HR2.out
      have HT4 := Aside0.mk (HT2.out.kept (S2 := fun k => N0 ≤ k) (.grown HG4.out hrow) (fun k hk q => by have := HS0.out k (HS2.out k hk); omega))
      have HM4 := Aside0.mk (Kd.V_grown HM2.out HG4.out (fun k hk e => by have := hrow k e.symm; omega))
      have HB4 := Aside0.mk (Chg.below HB2.out (Chg.grown (S := fun k => N0 ≤ k) HG4.out hrow) HB2.out.size (fun k hk => Nat.le_trans HN0.out.1 hk))
      have HZ4 := Aside0.mk (Nat.le_trans HZ2.out HG4.out.size)
      clear hrow
      go_roundg k1
      case measure => omega
      case rel =>
        refine ⟨i + 1, n' + 1000000, nw, acc ++ (D nw cur).1, (D nw cur).2, S2, A4, c4, by first | rfl | (simp; done), rfl, rfl, ⟨by have := HI.out; have := HIL.out; have := HDL.out; simp only [List.length_append]; omega⟩, ⟨fun h => by omega, fun _ => HP.out.2.2 nw HNW.out, fun n2 h2 => ?_⟩, ⟨HT4.out, fun k hk => HT.out.2 k (HS2.out k hk)⟩, HM4, HR4, ⟨HB4.out, HZ4.out⟩⟩
        rw [HP.out.2.2 n2 (Int.le_trans HNW.out h2), D_merge cur.length cur (Nat.le_refl _) nw n2 h2, List.append_assoc]
  case rest =>
    clear HT5 HM6 HR5 HB5 HZ5
    obtain ⟨n', now, acc, cur, S, A8, c8, rfl, rfl, HEX, HT, HM, HR, HB⟩ := hcut
    obtain ⟨ms', hm', hlm, ed⟩ := due_f ms now (by have := HL.out; omega)
    rw [← cv_len ms] at ed hm'
    obtain ⟨kd, ed⟩ := ed.get
    have hDl := D_len (cv ms).length (cv ms) (Nat.le_refl _) now
    have ED := Aside0.mk (show logjamref05_Due.f kd ms now = some ((D now (cv ms)).1, ms') from ed)
    have HM' := Aside0.mk (show cv ms' = (D now (cv ms)).2 from hm')
    have hLL : (D now (cv ms)).1.length < 4611686018427387904 := by have := HL.out; have := cv_len ms; omega
    obtain ⟨kk, es⟩ := (same_f _ hLL).get
    obtain ⟨kz, ez⟩ := (same_f [] (by decide)).get
    have ES := Aside0.mk es
    have EZ := Aside0.mk ez
    clear ed hm' hlm hDl hLL es ez
    obtain ⟨L, hL⟩ : ∃ L, L = (D now (cv ms)).1 := ⟨_, rfl⟩
    rw [← hL] at ED ES
    have HLD := Aside0.mk hL
    clear hL
    by_cases q : l1.length = 0
    · have d1 : ((l1.length : Int) == 0) = true := by rw [q]; rfl
      have d2 : (l1.length == 0) = true := by rw [q]; rfl
      obtain ⟨rfl, rfl⟩ := HEX.out.1 q
      have d3 : (l1.length = 0) = True := eq_true q
      clear q
      go_wp2_with (first
        | (go_at_call 13; refine (logjamref05_Due.calls kd (fun k => ¬ S5 k ∧ k < N0) A c ms now L ms' _ HM.out ED.out).mono ?_; rintro e w2 ⟨v0, v1, rfl, hr0, hv1, hb⟩; have HB2 := Aside0.mk hb; clear hr0 hv1 hb)
        | (go_at_call 14; refine (logjamlaw05_same.calls kz A8 c8 [] (some ⟨w2.heap.size, 0, none⟩) 0 [] true _ (Kd.R_reads' (Kd.R_below HR.out (below_alloc HB2.out (.cells #[] 3 (0, 0))))).2.2 (Nat.zero_le _) ⟨rfl, by decide, fun h => absurd h (Nat.lt_irrefl 0)⟩ (Nat.le_refl 0) EZ.out).mono ?_; rintro e w3 ⟨rfl, hd⟩; have HB3 := Aside0.mk (below_step (below_alloc HB2.out (.cells #[] 3 (0, 0))) (dbel hd)); clear hd)
        | (go_at_call 15; refine (len_r (HT.out.1.below HB3.out)).mono ?_; rw [cv_len]; rintro e w4 ⟨rfl, rfl⟩)
        | (go_at_call 16; refine (lives_any _).mono ?_; rintro e w5 ⟨rfl, hb⟩; have HB5 := Aside0.mk (below_step (below_step HB.out HB3.out) hb); clear hb))
      go_ret
      exact ⟨rfl, HB5.out⟩
    · have d1 : ((l1.length : Int) == 0) = false := beq_eq_false_iff_ne.2 (by omega)
      have d2 : (l1.length == 0) = false := beq_eq_false_iff_ne.2 q
      have hD := HEX.out.2 (by omega)
      have e1 : L = acc := by rw [HLD.out, hD]
      have e2 : cv ms' = cur := by rw [HM'.out, hD]
      subst e1
      subst e2
      clear q hD
      go_wp2_with (first
        | (go_at_call 13; refine (logjamref05_Due.calls kd (fun k => ¬ S5 k ∧ k < N0) A c ms now L ms' _ HM.out ED.out).mono ?_; rintro e w2 ⟨v0, v1, rfl, hr0, hv1, hb⟩; obtain ⟨A2, c2, rfl⟩ := Kd.R_slice hr0; obtain ⟨A3, c3, rfl⟩ := Kd.V_slice hv1; have HR0 := Aside0.mk hr0; have HB2 := Aside0.mk hb; clear hr0 hv1 hb)
        | (go_at_call 14; refine (logjamlaw05_same.calls kk A8 c8 L A2 c2 L true w2 (Kd.R_reads' (Kd.R_below HR.out HB2.out)).2.2 (Kd.R_reads' HR.out).2.1 (Kd.R_reads' HR0.out).2.2 (Kd.R_reads' HR0.out).2.1 ES.out).mono ?_; rintro e w3 ⟨rfl, hd⟩; have HB3 := Aside0.mk (below_step HB2.out (dbel hd)); clear hd)
        | (go_at_call 15; refine (len_r (HT.out.1.below HB3.out)).mono ?_; rw [cv_len]; rintro e w4 ⟨rfl, rfl⟩)
        | (go_at_call 16; refine (lives_any _).mono ?_; rintro e w5 ⟨rfl, hb⟩; have HB5 := Aside0.mk (below_step (below_step HB.out HB3.out) hb); clear hb))
      go_ret
      exact ⟨rfl, HB5.out⟩
end Go.Proofs.Ytlggjacghemakaa.timerOnceW
