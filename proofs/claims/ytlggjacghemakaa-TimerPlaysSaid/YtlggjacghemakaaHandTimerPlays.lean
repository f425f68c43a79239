/- TimerPlays, walked: for any calls it answers true. Conditions: none. -/
import Derived.Test.YtlggjacghemakaaOkTimerPlays
import Derived.Test.YtlggjacghemakaaTzTimerPlays
namespace Go.Proofs.Ytlggjacghemakaa.timerPlaysW
open Go.RowKit Go.Proofs.Ytlggjacghemakaa.PTimerPlays Go.Proofs.YtlggjacghemakaaW.PrintWords Go.Proofs.YtlggjacghemakaaW.PrintLast Tm TxTimerPlays
set_option linter.unusedSimpArgs false
set_option linter.unusedVariables false
theorem MV.empty (W : World) (S : Nat → Prop) (A : Option Addr) : MV W S (.slice A 0 0) [] :=
  Kd.V_mk (xs := ([] : List S81)) (Nat.le_refl 0) (fun W' _ => ⟨rfl, by decide, fun h => absurd h (Nat.lt_irrefl 0)⟩)
theorem cells32 {W : World} {ad : Addr} {n : Nat} {l : List S32} (h : Kd.C k32 W (some ad) n l) {j : Nat} (hj : j < n) : W.cell? (ad.add (j * 3)) = some (.int .i64 (rd_T32 l (j : Int)).f0) ∧ W.cell? ⟨(ad.add (j * 3)).block, (ad.add (j * 3)).off + 1, none⟩ = some (.int .i64 (rd_T32 l (j : Int)).f1) ∧ W.cell? ⟨(ad.add (j * 3)).block, (ad.add (j * 3)).off + 2, none⟩ = some (.int .i64 (rd_T32 l (j : Int)).f2) := by
  obtain ⟨ad', e, h0, h1, h2⟩ := at_T32 h (j : Int) (by omega) (by omega)
  injection e with e
  subst e
  exact ⟨h0, h1, h2⟩
set_option maxHeartbeats 8000000 in
set_option maxRecDepth 100000 in
theorem walk (A0 : Option Addr) (c0 : Nat) (l0 : List (S32)) (a1 : Int) (w : World) (hr0 : Kd.C k32 w A0 l0.length l0) (hc0 : l0.length ≤ c0) (w0 : (fun l => (∀ a ∈ l, (ok32) a) ∧ l.length * 24 ≤ 140737488351232) l0) (w1 : (fun x => (Lit.int .i64 x).wf = true) a1) :
    Calls Try.prog 4 #[.slice A0 l0.length c0, .int .i64 a1] w fun e w' => e = .returned (.bool true) ∧ Below w.heap.size w w' := by
  have hu28 := Try.underlying28
  have hu32 := Try.underlying32
  have HC := Aside0.mk hr0
  have HOK := Aside0.mk w0.1
  have HLN := Aside0.mk w0.2
  have W1 := Aside0.mk (show okId a1 from w1)
  clear hr0 hc0 w0 w1
  go_enter Try.func4, Try.ntmps4
  go_wp2_with ((with_reducible refine gate_dst (N := 10) rfl ?_); refine box_event ?hg (N := 10) ?hd (cs := #[.slice none 0 0, .map none]) (t := 28) ?hr ?_; (case hd => rfl); (case hg => rfl); (case hr => first | (go_simp; done) | (go_simp; rfl)); intro g hg w1 hbox hb; have T1 := Aside0.mk (TR.new hbox (show w.heap.size ≤ g from by omega)); have C1 := Aside0.mk hb; clear hbox hb hg)
  have HT0 := Aside0.mk (T1.out.below (below_alloc (Below.refl _ _) (.cells #[] 81 (0, 0))))
  have HB0 := Aside0.mk (below_alloc C1.out (.cells #[] 81 (0, 0)))
  go_loopg [6, 7, 8] l0.length (fun kq v6 v7 v8 w' => ∃ (i n' : Nat) (ms : List S81) (S : Nat → Prop) (A : Option Addr) (c : Nat), v6 = .slice A ms.length c ∧ v7 = .bool true ∧ v8 = .int .i64 (i : Int) ∧ Aside0 (i + kq = l0.length ∧ i ≤ 60 ∧ ms.length ≤ i ∧ n' ≤ i * 1000000) ∧ Aside0 (TR w' w.heap.size g n' (cv ms) S) ∧ Aside0 (MV w' S (.slice A ms.length c) ms) ∧ Aside0 (Below w.heap.size w w'))
  case atStart => exact ⟨0, 0, [], _, _, _, rfl, rfl, rfl, ⟨by omega, by omega, Nat.le_refl _, Nat.le_refl _⟩, HT0, ⟨MV.empty _ _ _⟩, HB0⟩
  case round =>
    clear HT0 HB0 T1 C1
    obtain ⟨i, n', ms, S, A, c, rfl, rfl, rfl, HI, HT, HM, HB⟩ := hrel
    have HIS := Aside0.mk (Nat.le_refl i)
    by_cases c1 : i < l0.length ∧ i < 60
    case neg =>
      by_cases c2 : i < l0.length
      · have d1 : decide ((i : Int) < (l0.length : Int)) = true := decide_eq_true (by omega)
        have d2 : decide (i < l0.length) = true := decide_eq_true c2
        have d3 : decide ((i : Int) < 60) = false := decide_eq_false (by omega)
        have d4 : decide (i < 60) = false := decide_eq_false (by omega)
        clear c1 c2
        go_wp2_with (go_at_call 16; refine (lives_any _).mono ?_; rintro e w9 ⟨rfl, hb⟩; have HB9 := Aside0.mk (below_step HB.out hb); clear hb)
        go_ret
        exact ⟨rfl, HB9.out⟩
      · have d1 : decide ((i : Int) < (l0.length : Int)) = false := decide_eq_false (by omega)
        have d2 : decide (i < l0.length) = false := decide_eq_false c2
        clear c1 c2
        go_wp2_with (go_at_call 16; refine (lives_any _).mono ?_; rintro e w9 ⟨rfl, hb⟩; have HB9 := Aside0.mk (below_step HB.out hb); clear hb)
        go_ret
        exact ⟨rfl, HB9.out⟩
    have hI := HI.out
    obtain ⟨k1, rfl⟩ : ∃ k, gk = k + 1 := ⟨gk - 1, by omega⟩
    obtain ⟨ad, rfl, _⟩ := at_T32 HC.out 0 (by omega) (by omega)
    have d1 : decide ((i : Int) < (l0.length : Int)) = true := decide_eq_true (by omega)
    have d2 : decide (i < l0.length) = true := decide_eq_true c1.1
    have d3 : decide ((i : Int) < 60) = true := decide_eq_true (by omega)
    have d4 : decide (i < 60) = true := decide_eq_true c1.2
    have p1 : ((0 : Int) ≤ (i : Int)) = True := eq_true (by omega)
    have p2 : ((i : Int) < (l0.length : Int)) = True := eq_true (by omega)
    have p3 : (i < l0.length) = True := eq_true c1.1
    have HIL := Aside0.mk c1
    have hok : ok32 (rd_T32 l0 (i : Int)) := by
      refine HOK.out _ ?_
      unfold rd_T32
      rw [Int.toNat_natCast, List.getD_eq_getElem?_getD, List.getElem?_eq_getElem c1.1]
      exact List.getElem_mem c1.1
    have HO := Aside0.mk hok
    obtain ⟨u0, u1, u2⟩ := cells32 (Kd.C_below HC.out HB.out) c1.1
    have D17 := Aside0.mk (do_any HT.out HM.out (kind := (rd_T32 l0 (i : Int)).f0) (id := (rd_T32 l0 (i : Int)).f1) (at_ := (rd_T32 l0 (i : Int)).f2) hok.2.1 (by omega) (by omega) HB.out.size)
    have e1 : IntKind.i64.wrap ((i : Int) + 1) = ((i + 1 : Nat) : Int) := by rw [i64_w]; unfold wrap64; omega
    clear c1 hI hok
    go_wp2_with (first
      | (go_at_call 17; refine D17.out.mono ?_; intro e w2 hpost; obtain ⟨v', ms', rfl, hcv, hlen, ⟨⟨S', t2, m2, s2⟩⟩, hc⟩ := hpost; obtain ⟨A', c', rfl⟩ := Kd.V_slice m2; have HT2 := Aside0.mk t2; have HM2 := Aside0.mk m2; have HB2 := Aside0.mk (Chg.below HB.out hc.out HB.out.size HT.out.base_le); have HLEN := Aside0.mk hlen; obtain ⟨v0, v1, v2⟩ := cells32 (Kd.C_below HC.out HB2.out) HIL.out.1; clear t2 m2 s2 hc hlen hcv)
      | (go_at_call 18; have q := HB3; clear q; refine (tells_any (HT2.out.below HB3.out) (Kd.V_below HM2.out HB3.out) (id := (rd_T32 l0 (i : Int)).f1) HO.out.2.1 (by have := HLEN.out; have := HI.out; omega)).mono ?_; rintro e w4 ⟨rfl, hb⟩; have HB4 := Aside0.mk (below_step HB3.out hb); clear hb)
      | (go_at_call 18; refine (tells_any HT2.out HM2.out W1.out (by have := HLEN.out; have := HI.out; omega)).mono ?_; rintro e w3 ⟨rfl, hb⟩; have HB3 := Aside0.mk hb; clear hb; obtain ⟨x0, x1, x2⟩ := cells32 (Kd.C_below HC.out (below_step HB2.out HB3.out)) HIL.out.1))
    go_roundg k1
    case measure => omega
    case rel =>
      exact ⟨i + 1, n' + 1000000, ms', S', A', c', rfl, rfl, rfl, ⟨by have := HI.out; have := HIL.out; have := HLEN.out; omega⟩, ⟨HT2.out.below HB4.out⟩, ⟨Kd.V_below HM2.out HB4.out⟩, ⟨below_step HB2.out HB4.out⟩⟩
end Go.Proofs.Ytlggjacghemakaa.timerPlaysW
