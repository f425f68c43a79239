/- Timers' laws: tells, do. Conditions: none. -/
import Derived.Test.YtlggjacghemakaaTxTimerApart
namespace Go.Proofs.Ytlggjacghemakaa.TxTimerApart
open Go.RowKit Go.Proofs.Ytlggjacghemakaa.PTimerApart Go.Proofs.YtlggjacghemakaaW.PrintWords Go.Proofs.YtlggjacghemakaaW.PrintLast Go.Proofs.YtlggjacghemakaaW.PrintMore Tm
set_option linter.unusedVariables false
set_option linter.unusedSimpArgs false
theorem dbel {w w' : World} (h : Drawn0 w w') : Below w.heap.size w w' := by
  obtain ⟨⟨n, rfl⟩⟩ := h
  exact pw_below_drewN (Below.refl _ _) n
section
variable {W W' : World} {base g n : Nat} {S S2 : Nat → Prop} {ms : List S81} {v : Value}
theorem TR.ids {m : List (Int × Int)} (h : TR W base g n m S) : Ids m := by obtain ⟨xs, p, _, h2, _⟩ := h; exact h2.ids
/-- The list's row, off the timers' blocks. -/
abbrev MV (W : World) (S : Nat → Prop) (v : Value) (ms : List S81) : Prop := Kd.V k81 81 W 0 (fun k => ¬ S k) v ms
theorem MV.step {S' : Nat → Prop} (h : MV W S v ms) (hc : Chg S W W') (hs : ∀ k, S' k → S k ∨ W.heap.size ≤ k) : MV W' S' v ms :=
  Kd.V_mono (Kd.V_step (Kd.V_bound h) (fun k hk hlt => hc.block k hlt hk.1)) (fun k hk q => (hs k q).elim hk.1 (fun r => by have := hk.2; omega))
theorem cellsAt {ad : Addr} {n : Nat} (h : Kd.C k81 W (some ad) n ms) {j : Nat} (hj : j < n) : W.cell? (ad.add (j * 2)) = some (.int .i64 (rd_T81 ms (j : Int)).f0) ∧ W.cell? ⟨(ad.add (j * 2)).block, (ad.add (j * 2)).off + 1, none⟩ = some (.int .i64 (rd_T81 ms (j : Int)).f1) := by
  obtain ⟨ad', e, h0, h1⟩ := at_T81 h (j : Int) (by omega) (by omega)
  injection e with e
  subst e
  exact ⟨h0, h1⟩
set_option maxHeartbeats 4000000 in
set_option maxRecDepth 100000 in
theorem tells_any {A : Option Addr} {c : Nat} (h : TR W base g n (cv ms) S) (hv : MV W S (.slice A ms.length c) ms) {id : Int} (hid : okId id) (hl : ms.length < 400000) :
    Calls Try.prog 18 #[.pointer (some ⟨g, 0, none⟩), .slice A ms.length c, .int .i64 id] W fun e w' => e = .returned (.bool true) ∧ Below W.heap.size W w' := by
  have hu81 := Try.underlying81
  obtain ⟨_, hc, hC⟩ := Kd.V_reads' hv
  have HC := Aside0.mk hC
  obtain ⟨kf, ef⟩ := (first_f ms (by omega)).get
  obtain ⟨r, er0, hr⟩ := find_f ms id (by omega)
  obtain ⟨kr, er⟩ := er0.get
  have hids := TR.ids h
  have HB0 := Aside0.mk (Below.refl W.heap.size W)
  have D40 : Aside0 (∀ W2 : World, Below W.heap.size W W2 → Calls Try.prog 40 #[.slice A ms.length c] W2 fun e w' => e = .returned (.int .i64 (rFirst (cv ms))) ∧ Below W2.heap.size W2 w') := ⟨fun W2 hb => (logjamref05_First.calls kf A c ms _ W2 (Kd.C_below hC hb) hc ef).mono fun e w' ⟨he, hd⟩ => ⟨he, dbel hd⟩⟩
  have D41 : Aside0 (∀ W2 : World, Below W.heap.size W W2 → Calls Try.prog 41 #[.slice A ms.length c, .int .i64 id] W2 fun e w' => e = .returned (.int .i64 r) ∧ Below W2.heap.size W2 w') := ⟨fun W2 hb => (logjamref05_Find.calls kr A c ms id _ W2 (Kd.C_below hC hb) hc er).mono fun e w' ⟨he, hd⟩ => ⟨he, dbel hd⟩⟩
  have D15 : Aside0 (∀ W2 : World, Below W.heap.size W W2 → Calls Try.prog 15 #[.pointer (some ⟨g, 0, none⟩)] W2 fun e w' => e = .returned (.int .i64 (ms.length : Int)) ∧ w' = W2) := ⟨fun W2 hb => by
    have q := len_r (h.below hb)
    rw [cv_len] at q
    exact q⟩
  by_cases c0 : 0 < ms.length
  · have c0' : 0 < (cv ms).length := by rw [cv_len]; exact c0
    obtain ⟨g1, g2, _⟩ := rFirst_ok c0'
    rw [cv_len] at g2
    obtain ⟨kn, hkn⟩ : ∃ kn : Nat, rFirst (cv ms) = (kn : Int) := ⟨(rFirst (cv ms)).toNat, by omega⟩
    rw [hkn, Int.toNat_natCast] at g2
    have D20 : Aside0 (∀ W2 : World, Below W.heap.size W W2 → Calls Try.prog 20 #[.pointer (some ⟨g, 0, none⟩)] W2 fun e w' => e = .returned (.tuple #[.int .i64 (rd_T81 ms (kn : Int)).f0, .int .i64 (rd_T81 ms (kn : Int)).f1, .bool true]) ∧ Below W2.heap.size W2 w') := ⟨fun W2 hb => by
      have q := first_r (h.below hb)
      unfold fst_ at q
      rw [if_pos c0', if_pos c0', decide_eq_true c0', hkn, Int.toNat_natCast, cv_E] at q
      exact q⟩
    rw [hkn] at D40
    obtain ⟨ad, rfl, _, _⟩ := at_T81 hC 0 (by omega) (by omega)
    have HK := Aside0.mk g2
    have p1 : ((0 : Int) ≤ (kn : Int)) = True := eq_true (by omega)
    have p2 : ((kn : Int) < (ms.length : Int)) = True := eq_true (by omega)
    have p0 : (kn < ms.length) = True := eq_true g2
    have p9 : (0 < ms.length) = True := eq_true c0
    rcases hr with ⟨rfl, hno⟩ | ⟨j, rfl, hj, hjid, hyes⟩
    · have D21 : Aside0 (∀ W2 : World, Below W.heap.size W W2 → Calls Try.prog 21 #[.pointer (some ⟨g, 0, none⟩), .int .i64 id] W2 fun e w' => e = .returned (.tuple #[.int .i64 0, .bool false]) ∧ Below W2.heap.size W2 w') := ⟨fun W2 hb => (at_r (h.below hb) hid).mono fun e w' ⟨a, he, _, ha, hb⟩ => by
        rw [hno] at he ha
        rw [ha rfl] at he
        exact ⟨he, hb⟩⟩
      clear h hv hC hc ef er0 er hid hkn g1 g2 c0 c0' hids hl hno
      go_enter Try.func18, Try.ntmps18
      go_wp2_with (first
            | (go_at_call 40; refine (D40.out _ HB0.out).mono ?_; rintro e w2 ⟨rfl, hb⟩; have HB2 := Aside0.mk (below_step HB0.out hb); clear hb)
            | (go_at_call 41; refine (D41.out _ HB2.out).mono ?_; rintro e w3 ⟨rfl, hb⟩; have HB3 := Aside0.mk (below_step HB2.out hb); clear hb)
            | (go_at_call 20; refine (D20.out _ HB3.out).mono ?_; rintro e w4 ⟨rfl, hb⟩; have HB4 := Aside0.mk (below_step HB3.out hb); clear hb)
            | (go_at_call 21; refine (D21.out _ HB4.out).mono ?_; rintro e w5 ⟨rfl, hb⟩; have HB5 := Aside0.mk (below_step HB4.out hb); clear hb; obtain ⟨u0, u1⟩ := cellsAt (Kd.C_below HC.out HB5.out) HK.out)
            | (go_at_call 15; refine (D15.out _ HB5.out).mono ?_; rintro e w6 ⟨rfl, rfl⟩))
      go_ret
      exact ⟨rfl, HB5.out⟩
    · have D21 : Aside0 (∀ W2 : World, Below W.heap.size W W2 → Calls Try.prog 21 #[.pointer (some ⟨g, 0, none⟩), .int .i64 id] W2 fun e w' => e = .returned (.tuple #[.int .i64 (rd_T81 ms (j : Int)).f1, .bool true]) ∧ Below W2.heap.size W2 w') := ⟨fun W2 hb => (at_r (h.below hb) hid).mono fun e w' ⟨a, he, ha, _, hb⟩ => by
        rw [hyes] at he
        have hj2 : j < (cv ms).length := by rw [cv_len]; exact hj
        have q := hids.inj (ha hyes) (M_iff.1 ⟨j, hj2, rfl⟩ : E (cv ms) j ∈ cv ms) (by rw [cv_E]; exact hjid.symm)
        rw [cv_E] at q
        injection q with q _
        rw [q] at he
        exact ⟨he, hb⟩⟩
      have HJ := Aside0.mk hj
      have q1 : ((0 : Int) ≤ (j : Int)) = True := eq_true (by omega)
      have q2 : ((j : Int) < (ms.length : Int)) = True := eq_true (by omega)
      have q0 : (j < ms.length) = True := eq_true hj
      clear h hv hC hc ef er0 er hid hkn g1 g2 c0 c0' hids hl hyes hj hjid
      go_enter Try.func18, Try.ntmps18
      go_wp2_with (first
            | (go_at_call 40; refine (D40.out _ HB0.out).mono ?_; rintro e w2 ⟨rfl, hb⟩; have HB2 := Aside0.mk (below_step HB0.out hb); clear hb)
            | (go_at_call 41; refine (D41.out _ HB2.out).mono ?_; rintro e w3 ⟨rfl, hb⟩; have HB3 := Aside0.mk (below_step HB2.out hb); clear hb)
            | (go_at_call 20; refine (D20.out _ HB3.out).mono ?_; rintro e w4 ⟨rfl, hb⟩; have HB4 := Aside0.mk (below_step HB3.out hb); clear hb)
            | (go_at_call 21; refine (D21.out _ HB4.out).mono ?_; rintro e w5 ⟨rfl, hb⟩; have HB5 := Aside0.mk (below_step HB4.out hb); clear hb; obtain ⟨u0, u1⟩ := cellsAt (Kd.C_below HC.out HB5.out) HK.out; obtain ⟨v0, v1⟩ := cellsAt (Kd.C_below HC.out HB5.out) HJ.out)
            | (go_at_call 15; refine (D15.out _ HB5.out).mono ?_; rintro e w6 ⟨rfl, rfl⟩))
      go_ret
      exact ⟨rfl, HB5.out⟩
  · obtain rfl : ms = [] := List.eq_nil_of_length_eq_zero (by omega)
    have D20 : Aside0 (∀ W2 : World, Below W.heap.size W W2 → Calls Try.prog 20 #[.pointer (some ⟨g, 0, none⟩)] W2 fun e w' => e = .returned (.tuple #[.int .i64 0, .int .i64 0, .bool false]) ∧ Below W2.heap.size W2 w') := ⟨fun W2 hb => first_r (h.below hb)⟩
    have D21 : Aside0 (∀ W2 : World, Below W.heap.size W W2 → Calls Try.prog 21 #[.pointer (some ⟨g, 0, none⟩), .int .i64 id] W2 fun e w' => e = .returned (.tuple #[.int .i64 0, .bool false]) ∧ Below W2.heap.size W2 w') := ⟨fun W2 hb => (at_r (h.below hb) hid).mono fun e w' ⟨a, he, _, ha, hb⟩ => by
      rw [ha rfl] at he
      exact ⟨he, hb⟩⟩
    rcases hr with ⟨rfl, hno⟩ | ⟨j, rfl, hj, _⟩
    · have D40 : Aside0 (∀ W2 : World, Below W.heap.size W W2 → Calls Try.prog 40 #[.slice A ([] : List S81).length c] W2 fun e w' => e = .returned (.int .i64 (-1)) ∧ Below W2.heap.size W2 w') := D40
      clear h hv hC hc ef er0 er hid c0 hids hl hno
      go_enter Try.func18, Try.ntmps18
      go_wp2_with (first
            | (go_at_call 40; refine (D40.out _ HB0.out).mono ?_; rintro e w2 ⟨rfl, hb⟩; have HB2 := Aside0.mk (below_step HB0.out hb); clear hb)
            | (go_at_call 41; refine (D41.out _ HB2.out).mono ?_; rintro e w3 ⟨rfl, hb⟩; have HB3 := Aside0.mk (below_step HB2.out hb); clear hb)
            | (go_at_call 20; refine (D20.out _ HB3.out).mono ?_; rintro e w4 ⟨rfl, hb⟩; have HB4 := Aside0.mk (below_step HB3.out hb); clear hb)
            | (go_at_call 21; refine (D21.out _ HB4.out).mono ?_; rintro e w5 ⟨rfl, hb⟩; have HB5 := Aside0.mk (below_step HB4.out hb); clear hb; skip)
            | (go_at_call 15; refine (D15.out _ HB5.out).mono ?_; rintro e w6 ⟨rfl, rfl⟩))
      go_ret
      exact ⟨rfl, HB5.out⟩
    · exact absurd hj (Nat.not_lt_zero _)
end
end Go.Proofs.Ytlggjacghemakaa.TxTimerApart
