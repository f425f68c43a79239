/- TimerApart, walked: for any calls it answers true. Conditions: none. -/
import Derived.Test.YtlggjacghemakaaOkTimerApart
import Derived.Test.YtlggjacghemakaaTzTimerApart
import Derived.Test.YtlggjacghemakaaTc2
namespace Go.Proofs.Ytlggjacghemakaa.timerApartW
open Go.RowKit Go.Proofs.Ytlggjacghemakaa.PTimerApart Go.Proofs.YtlggjacghemakaaW.PrintWords Go.Proofs.YtlggjacghemakaaW.PrintLast Tm TxTimerApart
set_option linter.unusedSimpArgs false
set_option linter.unusedVariables false
theorem MV.empty (W : World) (S : Nat → Prop) (A : Option Addr) : MV W S (.slice A 0 0) [] :=
  Kd.V_mk (xs := ([] : List S81)) (Nat.le_refl 0) (fun W' _ => ⟨rfl, by decide, fun h => absurd h (Nat.lt_irrefl 0)⟩)
theorem cells32 {W : World} {ad : Addr} {n : Nat} {l : List S32} (h : Kd.C k32 W (some ad) n l) {j : Nat} (hj : j < n) : W.cell? (ad.add (j * 3)) = some (.int .i64 (rd_T32 l (j : Int)).f0) ∧ W.cell? ⟨(ad.add (j * 3)).block, (ad.add (j * 3)).off + 1, none⟩ = some (.int .i64 (rd_T32 l (j : Int)).f1) ∧ W.cell? ⟨(ad.add (j * 3)).block, (ad.add (j * 3)).off + 2, none⟩ = some (.int .i64 (rd_T32 l (j : Int)).f2) := by
  obtain ⟨ad', e, h0, h1, h2⟩ := at_T32 h (j : Int) (by omega) (by omega)
  injection e with e
  subst e
  exact ⟨h0, h1, h2⟩
theorem okAt {l : List S32} (h : ∀ a ∈ l, ok32 a) {i : Nat} (hi : i < l.length) : okId (rd_T32 l (i : Int)).f1 := by
  have : ok32 (rd_T32 l (i : Int)) := by
    refine h _ ?_
    unfold rd_T32
    rw [Int.toNat_natCast, List.getD_eq_getElem?_getD, List.getElem?_eq_getElem hi]
    exact List.getElem_mem hi
  exact this.2.1
/-- Two timers, and their lists, each off both. -/
structure Two (W : World) (base b2 g g2 n n2 : Nat) (S S2 : Nat → Prop) (v v2 : Value) (ms ms2 : List S81) : Prop where
  t1 : TR W base g n (cv ms) S
  t2 : TR W b2 g2 n2 (cv ms2) S2
  r1 : Kd.V k81 81 W 0 (fun k => ¬ S k ∧ ¬ S2 k) v ms
  r2 : Kd.V k81 81 W 0 (fun k => ¬ S k ∧ ¬ S2 k) v2 ms2
  ap : ∀ k, S k → ¬ S2 k
theorem Two.step1 {W W' : World} {base b2 g g2 n n' n2 : Nat} {S S' S2 : Nat → Prop} {v v' v2 : Value} {ms ms' ms2 : List S81} (h : Two W base b2 g g2 n n2 S S2 v v2 ms ms2) (ht : TR W' base g n' (cv ms') S') (hr : Kd.V k81 81 W' 0 (fun k => ((¬ S k ∧ ¬ S2 k) ∨ W.heap.size ≤ k) ∧ ¬ S' k) v' ms') (hs : ∀ k, S' k → S k ∨ W.heap.size ≤ k) (hc : Chg S W W') : Two W' base b2 g g2 n' n2 S' S2 v' v2 ms' ms2 where
  t1 := ht
  t2 := h.t2.kept hc (fun k hk q => h.ap k q hk)
  r1 := Kd.V_mono hr (fun k hk => ⟨hk.2, fun q => hk.1.elim (fun r => r.2 q) (fun r => by have := h.t2.lt k q; omega)⟩)
  r2 := Kd.V_mono (RV_step h.r2 hc (fun k hk => hk.1)) (fun k hk => ⟨fun q => (hs k q).elim hk.1.1 (fun r => by have := hk.2; omega), hk.1.2⟩)
  ap := fun k hk q => (hs k hk).elim (fun r => h.ap k r q) (fun r => by have := h.t2.lt k q; omega)
theorem Two.symm {W : World} {base b2 g g2 n n2 : Nat} {S S2 : Nat → Prop} {v v2 : Value} {ms ms2 : List S81} (h : Two W base b2 g g2 n n2 S S2 v v2 ms ms2) : Two W b2 base g2 g n2 n S2 S v2 v ms2 ms where
  t1 := h.t2
  t2 := h.t1
  r1 := Kd.V_mono h.r2 (fun k hk => ⟨hk.2, hk.1⟩)
  r2 := Kd.V_mono h.r1 (fun k hk => ⟨hk.2, hk.1⟩)
  ap := fun k hk q => h.ap k q hk
theorem Two.below {W W' : World} {base b2 g g2 n n2 : Nat} {S S2 : Nat → Prop} {v v2 : Value} {ms ms2 : List S81} (h : Two W base b2 g g2 n n2 S S2 v v2 ms ms2) (hb : Below W.heap.size W W') : Two W' base b2 g g2 n n2 S S2 v v2 ms ms2 where
  t1 := h.t1.below hb
  t2 := h.t2.below hb
  r1 := Kd.V_below h.r1 hb
  r2 := Kd.V_below h.r2 hb
  ap := h.ap
set_option maxHeartbeats 8000000 in
set_option maxRecDepth 100000 in
theorem walk (A0 : Option Addr) (c0 : Nat) (l0 : List (S32)) (A1 : Option Addr) (c1 : Nat) (l1 : List (S32)) (A2 : Option Addr) (c2 : Nat) (l2 : List (S32)) (w : World) (hr0 : Kd.C k32 w A0 l0.length l0) (hc0 : l0.length ≤ c0) (hr1 : Kd.C k32 w A1 l1.length l1) (hc1 : l1.length ≤ c1) (hr2 : Kd.C k32 w A2 l2.length l2) (hc2 : l2.length ≤ c2) (w0 : (fun l => (∀ a ∈ l, (ok32) a) ∧ l.length * 24 ≤ 140737488351232) l0) (w1 : (fun l => (∀ a ∈ l, (ok32) a) ∧ l.length * 24 ≤ 140737488351232) l1) (w2 : (fun l => (∀ a ∈ l, (ok32) a) ∧ l.length * 24 ≤ 140737488351232) l2) :
    Calls Try.prog 5 #[.slice A0 l0.length c0, .slice A1 l1.length c1, .slice A2 l2.length c2] w fun e w' => e = .returned (.bool true) ∧ Below w.heap.size w w' := by
  have hu28 := Try.underlying28
  have hu32 := Try.underlying32
  have HC0 := Aside0.mk hr0
  have HC1 := Aside0.mk hr1
  have HC2 := Aside0.mk hr2
  have HK0 := Aside0.mk w0.1
  have HK1 := Aside0.mk w1.1
  have HK2 := Aside0.mk w2.1
  have HLN := Aside0.mk (show l0.length * 24 ≤ 140737488351232 ∧ l1.length * 24 ≤ 140737488351232 ∧ l2.length * 24 ≤ 140737488351232 from ⟨w0.2, w1.2, w2.2⟩)
  clear hr0 hc0 hr1 hc1 hr2 hc2 w0 w1 w2
  go_enter Try.func5, Try.ntmps5
  go_upto_block 0 with ((with_reducible refine gate_dst (N := 16) rfl ?_); refine box_event ?hg (N := 16) ?hd (cs := #[.slice none 0 0, .map none]) (t := 28) ?hr ?_; (case hd => rfl); (case hg => rfl); (case hr => first | (go_simp; done) | (go_simp; rfl)); intro g hg w1 hbox hb; have T1 := Aside0.mk (TR.new hbox (show w.heap.size ≤ g from by omega)); have C1 := Aside0.mk hb; clear hbox hb hg)
  have HT0 := Aside0.mk (T1.out.below (below_alloc (Below.refl _ _) (.cells #[] 81 (0, 0))))
  have HB0 := Aside0.mk (below_alloc C1.out (.cells #[] 81 (0, 0)))
  clear T1 C1
  go_cut [8, 9, 10] (fun v8 v9 v10 wc => ∃ (n' : Nat) (ms : List S81) (S : Nat → Prop) (A : Option Addr) (c : Nat), v8 = .slice A ms.length c ∧ v9 = .bool true ∧ Aside0 (ms.length ≤ 30 ∧ n' ≤ 30000000) ∧ Aside0 (TR wc w.heap.size g n' (cv ms) S) ∧ Aside0 (MV wc S (.slice A ms.length c) ms) ∧ Aside0 (Below w.heap.size w wc))
  case first =>
    go_wp2
    go_loopg [8, 9, 10] l0.length (fun kq v8 v9 v10 w' => ∃ (i : Nat) (n' : Nat) (ms : List S81) (S : Nat → Prop) (A : Option Addr) (c : Nat), v8 = .slice A ms.length c ∧ v9 = .bool true ∧ v10 = .int .i64 (i : Int) ∧ Aside0 (i + kq = l0.length ∧ i ≤ 30 ∧ ms.length ≤ i ∧ n' ≤ i * 1000000) ∧ Aside0 (TR w' w.heap.size g n' (cv ms) S) ∧ Aside0 (MV w' S (.slice A ms.length c) ms) ∧ Aside0 (Below w.heap.size w w'))
    case atStart => exact ⟨0, 0, [], _, _, _, rfl, rfl, rfl, ⟨by omega, by omega, Nat.le_refl _, Nat.le_refl _⟩, HT0, ⟨MV.empty _ _ _⟩, HB0⟩
    case round =>
      clear HT0 HB0
      obtain ⟨i, n', ms, S, A, c, rfl, rfl, rfl, HI, HT, HM, HB⟩ := hrel
      by_cases q1 : i < l0.length ∧ i < 30
      case neg =>
        by_cases q2 : i < l0.length
        · have d1 : decide ((i : Int) < (l0.length : Int)) = true := decide_eq_true (by omega)
          have d2 : decide (i < l0.length) = true := decide_eq_true q2
          have d3 : decide ((i : Int) < 30) = false := decide_eq_false (by omega)
          have d4 : decide (i < 30) = false := decide_eq_false (by omega)
          clear q1 q2
          go_wp2
          first | go_meet | (go_step; go_meet) | (go_step; go_step; go_meet)
          case rel => exact ⟨n', ms, S, A, c, rfl, rfl, ⟨by have := HI.out; omega⟩, HT, HM, HB⟩
        · have d1 : decide ((i : Int) < (l0.length : Int)) = false := decide_eq_false (by omega)
          have d2 : decide (i < l0.length) = false := decide_eq_false q2
          clear q1 q2
          go_wp2
          first | go_meet | (go_step; go_meet) | (go_step; go_step; go_meet)
          case rel => exact ⟨n', ms, S, A, c, rfl, rfl, ⟨by have := HI.out; omega⟩, HT, HM, HB⟩
      have hI := HI.out
      obtain ⟨k1, rfl⟩ : ∃ k, gk = k + 1 := ⟨gk - 1, by omega⟩
      obtain ⟨ad, rfl, _⟩ := at_T32 HC0.out 0 (by omega) (by omega)
      have d1 : decide ((i : Int) < (l0.length : Int)) = true := decide_eq_true (by omega)
      have d2 : decide (i < l0.length) = true := decide_eq_true q1.1
      have d3 : decide ((i : Int) < 30) = true := decide_eq_true (by omega)
      have d4 : decide (i < 30) = true := decide_eq_true q1.2
      have p1 : ((0 : Int) ≤ (i : Int)) = True := eq_true (by omega)
      have p2 : ((i : Int) < (l0.length : Int)) = True := eq_true (by omega)
      have p3 : (i < l0.length) = True := eq_true q1.1
      have HIL := Aside0.mk q1
      obtain ⟨u0, u1, u2⟩ := cells32 (Kd.C_below HC0.out HB.out) q1.1
      have D17 := Aside0.mk (do_any HT.out HM.out (fun _ q => q) (kind := (rd_T32 l0 (i : Int)).f0) (id := (rd_T32 l0 (i : Int)).f1) (at_ := (rd_T32 l0 (i : Int)).f2) (okAt HK0.out q1.1) (by omega) (by omega) HB.out.size)
      have e1 : IntKind.i64.wrap ((i : Int) + 1) = ((i + 1 : Nat) : Int) := by rw [i64_w]; unfold wrap64; omega
      clear q1 hI
      go_wp2_with ((go_at_call 17; refine D17.out.mono ?_; intro e w2 hpost; obtain ⟨v', ms', rfl, hcv, hlen, ⟨⟨S', t2, m2, s2⟩⟩, hc⟩ := hpost; obtain ⟨A', c', rfl⟩ := Kd.V_slice m2; have HT2 := Aside0.mk t2; have HM2 := Aside0.mk (show MV w2 S' (.slice A' ms'.length c') ms' from Kd.V_mono m2 (fun k hk => hk.2)); have HB2 := Aside0.mk (Chg.below HB.out hc.out HB.out.size HT.out.base_le); have HLEN := Aside0.mk hlen; obtain ⟨v0, v1, v2⟩ := cells32 (Kd.C_below HC0.out HB2.out) HIL.out.1; clear t2 m2 s2 hc hlen hcv))
      go_roundg k1
      case measure => omega
      case rel =>
        exact ⟨i + 1, n' + 1000000, ms', S', A', c', rfl, rfl, rfl, ⟨by have := HI.out; have := HIL.out; have := HLEN.out; omega⟩, HT2, HM2, HB2⟩
  case rest =>
  obtain ⟨n5, ms0, S0, Am, cm, rfl, rfl, HL0, HT, HM, HB⟩ := hcut
  clear HT0 HB0
  have D19 := Aside0.mk (clone_r HT.out (by rw [cv_len]; have := HL0.out; omega))
  go_upto_block 2 with (go_at_call 19; refine D19.out.mono ?_; rintro e w2 ⟨g2, rfl, ⟨⟨S2, t2⟩⟩, hb⟩; have HT2 := Aside0.mk t2; have HBC := Aside0.mk hb; clear t2 hb)
  have HW := Aside0.mk (show Two w2 w.heap.size wc.heap.size g g2 n5 n5 S0 S2 (.slice Am ms0.length cm) (.slice Am ms0.length cm) ms0 ms0 from ⟨HT.out.below HBC.out, HT2.out, Kd.V_below (Kd.V_mono (Kd.V_bound HM.out) (fun k hk => ⟨hk.1, fun q => by have := HT2.out.base_le k q; have := hk.2; omega⟩)) HBC.out, Kd.V_below (Kd.V_mono (Kd.V_bound HM.out) (fun k hk => ⟨hk.1, fun q => by have := HT2.out.base_le k q; have := hk.2; omega⟩)) HBC.out, fun k hk q => by have := HT2.out.base_le k q; have := HT.out.lt k hk; omega⟩)
  have HBW := Aside0.mk (below_step HB.out HBC.out)
  obtain ⟨N0, hN0⟩ : ∃ N, N = wc.heap.size := ⟨_, rfl⟩
  rw [← hN0] at HW
  have HZW := Aside0.mk (show w.heap.size ≤ N0 ∧ N0 ≤ w2.heap.size from ⟨by rw [hN0]; exact HB.out.size, by rw [hN0]; exact HBC.out.size⟩)
  clear HT HM HB HT2 HBC D19 hN0
  go_cut [8, 9, 13] (fun v8 v9 v13 wc => ∃ (n' : Nat) (ms : List S81) (S : Nat → Prop) (A : Option Addr) (c : Nat), v8 = .slice A ms.length c ∧ v9 = .bool true ∧ Aside0 (ms.length ≤ 60 ∧ n' ≤ 60000000) ∧ Aside0 (Two wc w.heap.size N0 g g2 n' n5 S S2 (.slice A ms.length c) (.slice Am ms0.length cm) ms ms0) ∧ Aside0 (Below w.heap.size w wc ∧ N0 ≤ wc.heap.size))
  case first =>
    go_wp2
    go_loopg [8, 9, 13] l1.length (fun kq v8 v9 v13 w' => ∃ (i : Nat) (n' : Nat) (ms : List S81) (S : Nat → Prop) (A : Option Addr) (c : Nat), v8 = .slice A ms.length c ∧ v9 = .bool true ∧ v13 = .int .i64 (i : Int) ∧ Aside0 (i + kq = l1.length ∧ i ≤ 30 ∧ ms.length ≤ 30 + i ∧ n' ≤ 30000000 + i * 1000000) ∧ Aside0 (Two w' w.heap.size N0 g g2 n' n5 S S2 (.slice A ms.length c) (.slice Am ms0.length cm) ms ms0) ∧ Aside0 (Below w.heap.size w w' ∧ N0 ≤ w'.heap.size))
    case atStart => exact ⟨0, n5, ms0, S0, _, _, rfl, rfl, rfl, ⟨by omega, by omega, by have := HL0.out; omega, by have := HL0.out; omega⟩, HW, ⟨HBW.out, HZW.out.2⟩⟩
    case round =>
      clear HW HBW
      obtain ⟨i, n', ms, S, A, c, rfl, rfl, rfl, HI, HT, HB⟩ := hrel
      by_cases q1 : i < l1.length ∧ i < 30
      case neg =>
        by_cases q2 : i < l1.length
        · have d1 : decide ((i : Int) < (l1.length : Int)) = true := decide_eq_true (by omega)
          have d2 : decide (i < l1.length) = true := decide_eq_true q2
          have d3 : decide ((i : Int) < 30) = false := decide_eq_false (by omega)
          have d4 : decide (i < 30) = false := decide_eq_false (by omega)
          clear q1 q2
          go_wp2
          first | go_meet | (go_step; go_meet) | (go_step; go_step; go_meet)
          case rel => exact ⟨n', ms, S, A, c, rfl, rfl, ⟨by have := HI.out; omega⟩, HT, HB⟩
        · have d1 : decide ((i : Int) < (l1.length : Int)) = false := decide_eq_false (by omega)
          have d2 : decide (i < l1.length) = false := decide_eq_false q2
          clear q1 q2
          go_wp2
          first | go_meet | (go_step; go_meet) | (go_step; go_step; go_meet)
          case rel => exact ⟨n', ms, S, A, c, rfl, rfl, ⟨by have := HI.out; omega⟩, HT, HB⟩
      have hI := HI.out
      obtain ⟨k1, rfl⟩ : ∃ k, gk = k + 1 := ⟨gk - 1, by omega⟩
      obtain ⟨ad, rfl, _⟩ := at_T32 HC1.out 0 (by omega) (by omega)
      have d1 : decide ((i : Int) < (l1.length : Int)) = true := decide_eq_true (by omega)
      have d2 : decide (i < l1.length) = true := decide_eq_true q1.1
      have d3 : decide ((i : Int) < 30) = true := decide_eq_true (by omega)
      have d4 : decide (i < 30) = true := decide_eq_true q1.2
      have p1 : ((0 : Int) ≤ (i : Int)) = True := eq_true (by omega)
      have p2 : ((i : Int) < (l1.length : Int)) = True := eq_true (by omega)
      have p3 : (i < l1.length) = True := eq_true q1.1
      have HIL := Aside0.mk q1
      obtain ⟨u0, u1, u2⟩ := cells32 (Kd.C_below HC1.out HB.out.1) q1.1
      have D17 := Aside0.mk (do_any HT.out.t1 HT.out.r1 (fun _ q => q.1) (kind := (rd_T32 l1 (i : Int)).f0) (id := (rd_T32 l1 (i : Int)).f1) (at_ := (rd_T32 l1 (i : Int)).f2) (okAt HK1.out q1.1) (by omega) (by omega) HB.out.1.size)
      have e1 : IntKind.i64.wrap ((i : Int) + 1) = ((i + 1 : Nat) : Int) := by rw [i64_w]; unfold wrap64; omega
      clear q1 hI
      go_wp2_with ((go_at_call 17; refine D17.out.mono ?_; intro e w2 hpost; obtain ⟨v', ms', rfl, hcv, hlen, ⟨⟨S', t2, m2, s2⟩⟩, hc⟩ := hpost; obtain ⟨A', c', rfl⟩ := Kd.V_slice m2; have HT2 := Aside0.mk (HT.out.step1 t2 m2 s2 hc.out); have HZ2 := Aside0.mk (Nat.le_trans HB.out.2 hc.out.size); have HB2 := Aside0.mk (Chg.below HB.out.1 hc.out HB.out.1.size HT.out.t1.base_le); have HLEN := Aside0.mk hlen; obtain ⟨v0, v1, v2⟩ := cells32 (Kd.C_below HC1.out HB2.out) HIL.out.1; clear t2 m2 s2 hc hlen hcv))
      go_roundg k1
      case measure => omega
      case rel =>
        exact ⟨i + 1, n' + 1000000, ms', S', A', c', rfl, rfl, rfl, ⟨by have := HI.out; have := HIL.out; have := HLEN.out; omega⟩, HT2, ⟨HB2.out, HZ2.out⟩⟩
  case rest =>
  obtain ⟨n6, ms1, S1, Ax, cx, rfl, rfl, HL1, HW1, HB1⟩ := hcut
  clear HW HBW
  go_upto_block 4 with (fail)
  go_cut [9, 12, 14] (fun v9 v12 v14 wc => ∃ (n' : Nat) (ms : List S81) (S : Nat → Prop) (A : Option Addr) (c : Nat), v12 = .slice A ms.length c ∧ v9 = .bool true ∧ Aside0 (ms.length ≤ 60 ∧ n' ≤ 60000000) ∧ Aside0 (Two wc w.heap.size N0 g g2 n6 n' S1 S (.slice Ax ms1.length cx) (.slice A ms.length c) ms1 ms) ∧ Aside0 (Below w.heap.size w wc ∧ N0 ≤ wc.heap.size))
  case first =>
    go_wp2
    go_loopg [9, 12, 14] l2.length (fun kq v9 v12 v14 w' => ∃ (i : Nat) (n' : Nat) (ms : List S81) (S : Nat → Prop) (A : Option Addr) (c : Nat), v12 = .slice A ms.length c ∧ v9 = .bool true ∧ v14 = .int .i64 (i : Int) ∧ Aside0 (i + kq = l2.length ∧ i ≤ 30 ∧ ms.length ≤ 30 + i ∧ n' ≤ 30000000 + i * 1000000) ∧ Aside0 (Two w' w.heap.size N0 g g2 n6 n' S1 S (.slice Ax ms1.length cx) (.slice A ms.length c) ms1 ms) ∧ Aside0 (Below w.heap.size w w' ∧ N0 ≤ w'.heap.size))
    case atStart => exact ⟨0, n5, ms0, S2, _, _, rfl, rfl, rfl, ⟨by omega, by omega, by have := HL0.out; omega, by have := HL0.out; omega⟩, HW1, HB1⟩
    case round =>
      clear HW1 HB1
      obtain ⟨i, n', ms, S, A, c, rfl, rfl, rfl, HI, HT, HB⟩ := hrel
      by_cases q1 : i < l2.length ∧ i < 30
      case neg =>
        by_cases q2 : i < l2.length
        · have d1 : decide ((i : Int) < (l2.length : Int)) = true := decide_eq_true (by omega)
          have d2 : decide (i < l2.length) = true := decide_eq_true q2
          have d3 : decide ((i : Int) < 30) = false := decide_eq_false (by omega)
          have d4 : decide (i < 30) = false := decide_eq_false (by omega)
          clear q1 q2
          go_wp2
          first | go_meet | (go_step; go_meet) | (go_step; go_step; go_meet)
          case rel => exact ⟨n', ms, S, A, c, rfl, rfl, ⟨by have := HI.out; omega⟩, HT, HB⟩
        · have d1 : decide ((i : Int) < (l2.length : Int)) = false := decide_eq_false (by omega)
          have d2 : decide (i < l2.length) = false := decide_eq_false q2
          clear q1 q2
          go_wp2
          first | go_meet | (go_step; go_meet) | (go_step; go_step; go_meet)
          case rel => exact ⟨n', ms, S, A, c, rfl, rfl, ⟨by have := HI.out; omega⟩, HT, HB⟩
      have hI := HI.out
      obtain ⟨k1, rfl⟩ : ∃ k, gk = k + 1 := ⟨gk - 1, by omega⟩
      obtain ⟨ad, rfl, _⟩ := at_T32 HC2.out 0 (by omega) (by omega)
      have d1 : decide ((i : Int) < (l2.length : Int)) = true := decide_eq_true (by omega)
      have d2 : decide (i < l2.length) = true := decide_eq_true q1.1
      have d3 : decide ((i : Int) < 30) = true := decide_eq_true (by omega)
      have d4 : decide (i < 30) = true := decide_eq_true q1.2
      have p1 : ((0 : Int) ≤ (i : Int)) = True := eq_true (by omega)
      have p2 : ((i : Int) < (l2.length : Int)) = True := eq_true (by omega)
      have p3 : (i < l2.length) = True := eq_true q1.1
      have HIL := Aside0.mk q1
      obtain ⟨u0, u1, u2⟩ := cells32 (Kd.C_below HC2.out HB.out.1) q1.1
      have D17 := Aside0.mk (do_any HT.out.t2 HT.out.symm.r1 (fun _ q => q.1) (kind := (rd_T32 l2 (i : Int)).f0) (id := (rd_T32 l2 (i : Int)).f1) (at_ := (rd_T32 l2 (i : Int)).f2) (okAt HK2.out q1.1) (by omega) (by omega) HB.out.2)
      have e1 : IntKind.i64.wrap ((i : Int) + 1) = ((i + 1 : Nat) : Int) := by rw [i64_w]; unfold wrap64; omega
      clear q1 hI
      go_wp2_with ((go_at_call 17; refine D17.out.mono ?_; intro e w2 hpost; obtain ⟨v', ms', rfl, hcv, hlen, ⟨⟨S', t2, m2, s2⟩⟩, hc⟩ := hpost; obtain ⟨A', c', rfl⟩ := Kd.V_slice m2; have HT2 := Aside0.mk (HT.out.symm.step1 t2 m2 s2 hc.out).symm; have HZ2 := Aside0.mk (Nat.le_trans HB.out.2 hc.out.size); have HB2 := Aside0.mk (Chg.below HB.out.1 hc.out HB.out.1.size (fun k hk => Nat.le_trans HZW.out.1 (HT.out.t2.base_le k hk))); have HLEN := Aside0.mk hlen; obtain ⟨v0, v1, v2⟩ := cells32 (Kd.C_below HC2.out HB2.out) HIL.out.1; clear t2 m2 s2 hc hlen hcv))
      go_roundg k1
      case measure => omega
      case rel =>
        exact ⟨i + 1, n' + 1000000, ms', S', A', c', rfl, rfl, rfl, ⟨by have := HI.out; have := HIL.out; have := HLEN.out; omega⟩, HT2, ⟨HB2.out, HZ2.out⟩⟩
  case rest =>
  obtain ⟨n7, ms2, S3, Ay, cy, rfl, rfl, HL2, HW2, HB2⟩ := hcut
  clear HW1 HB1
  go_wp2_with (first
    | (go_at_call 18; have q := HBA; clear q; refine (tells_any (HW2.out.t2.below HBA.out) (Kd.V_below (Kd.V_mono HW2.out.r2 (fun k hk => hk.2)) HBA.out) (id := 1) (by decide) (by have := HL2.out; omega)).mono ?_; rintro e w4 ⟨rfl, hb⟩; have HBB := Aside0.mk (below_step HBA.out hb); clear hb)
    | (go_at_call 18; refine (tells_any HW2.out.t1 (Kd.V_mono HW2.out.r1 (fun k hk => hk.1)) (id := 1) (by decide) (by have := HL1.out; omega)).mono ?_; rintro e w3 ⟨rfl, hb⟩; have HBA := Aside0.mk hb; clear hb)
    | (go_at_call 16; refine (lives_any _).mono ?_; rintro e w9 ⟨rfl, hb⟩; have HB9 := Aside0.mk (below_step (below_step HB2.out.1 HBB.out) hb); clear hb))
  go_ret
  exact ⟨rfl, HB9.out⟩
end Go.Proofs.Ytlggjacghemakaa.timerApartW
