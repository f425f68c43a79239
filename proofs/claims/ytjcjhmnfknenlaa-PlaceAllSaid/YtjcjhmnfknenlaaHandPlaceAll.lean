/- PlaceAll: the walk by hand. Conditions: none. -/
import Derived.Test.YtjcjhmnfknenlaaPl14
import Derived.Test.YtjcjhmnfknenlaaOkPlaceAll
namespace Go.Proofs.Ytjcjhmnfknenlaa.placeAllW
open Go.RowKit Go.Proofs.Ytjcjhmnfknenlaa.PPlaceAll Go.Proofs.YtjcjhmnfknenlaaW.PrintWords Go.Proofs.YtjcjhmnfknenlaaW.PrintLast
open Pl
set_option linter.unusedVariables false
set_option linter.unusedSimpArgs false

theorem rd28 {l : List S28} {i : Nat} (hi : i < l.length) : rd_T28 l (i : Int) ∈ l := by
  unfold rd_T28
  rw [Int.toNat_natCast, List.getD_eq_getElem?_getD, List.getElem?_eq_getElem hi]
  exact List.getElem_mem hi
theorem cellB {W w2 : World} {a : Addr} {v : Value} (hb : Below W.heap.size W w2) (h : W.cell? a = some v) : w2.cell? a = some v := (hb.cell (World.block_lt_of_cell? _ _ h)).trans h
set_option maxHeartbeats 8000000 in
set_option maxRecDepth 100000 in
theorem walk (a0 : Int) (A1 : Option Addr) (c1 : Nat) (l1 : List (S28)) (w : World) (hr1 : Kd.C k28 w A1 l1.length l1) (hc1 : l1.length ≤ c1) (w0 : (fun x => (Lit.int .i64 x).wf = true) a0) (w1 : (fun l => (∀ a ∈ l, (ok28) a) ∧ l.length * 24 ≤ 140737488351232) l1) :
    Calls Try.prog 3 #[.int .i64 a0, .slice A1 l1.length c1] w fun e w' => e = .returned (.bool true) ∧ Below w.heap.size w w' := by
  have HR := Aside0.mk hr1
  have HOK := Aside0.mk (show ∀ a ∈ l1, ok28 a from w1.1)
  have hu28 := Try.underlying28
  clear hr1 hc1 w0 w1
  obtain ⟨n, hn⟩ : ∃ n, n = l1.length := ⟨_, rfl⟩
  rw [← hn] at HR ⊢
  have HN := Aside0.mk hn
  clear hn
  go_enter Try.func3, Try.ntmps3
  go_upto_block 0 with (go_at_call 7; (refine (sp_new w a0).mono ?_); rintro e wa ⟨gp, nw, rfl, h1, h2, h3⟩; have S0 := Aside0.mk h1; have I0 := Aside0.mk h2; have W0 := Aside0.mk h3; clear h1 h2 h3)
  go_wp2
  go_loopg [6] n (fun kq v6 w' => ∃ (i : Nat) (A : Pa), v6 = .int .i64 (i : Int) ∧ Aside0 (i + kq = n) ∧ Aside0 (i ≤ 80) ∧ Aside0 (Sp w w' gp A) ∧ Aside0 (Inv A) ∧ Aside0 (WB (i : Int) A))
  case atStart => exact ⟨0, _, rfl, ⟨by omega⟩, ⟨by omega⟩, S0, I0, W0⟩
  case round =>
    clear S0 I0 W0
    obtain ⟨i, A, rfl, HK, HI80, HS, HI, HW⟩ := hrel
    by_cases hgo : i < n ∧ i < 80
    · rcases gk with _ | k1
      · exact absurd hgo.1 (by have := HK.out; omega)
      have hin := hgo.1
      have d1 : decide ((i : Int) < (n : Int)) = true := decide_eq_true (by omega)
      have d2 : decide (i < n) = true := decide_eq_true hin
      have d3 : decide ((i : Int) < 80) = true := decide_eq_true (by omega)
      have d4 : decide (i < 80) = true := decide_eq_true hgo.2
      have p1 : (0 ≤ (i : Int)) = True := eq_true (by omega)
      have p2 : ((i : Int) < (n : Int)) = True := eq_true (by omega)
      have HI2 := Aside0.mk hgo.2
      have hmem := rd28 (l := l1) (i := i) (by rw [← HN.out]; exact hin)
      have hok := HOK.out _ hmem
      have WT := Aside0.mk (show (Lit.int .i64 (rd_T28 l1 (i : Int)).f2).wf = true from hok.2.2)
      obtain ⟨ad, ea, x0, x1, x2⟩ := at_T28 HR.out (i : Int) (by omega) (by omega)
      subst ea
      rw [Int.toNat_natCast] at x0 x1 x2
      have y0 := cellB HS.out.hb x0
      have y1 := cellB HS.out.hb x1
      have y2 := cellB HS.out.hb x2
      clear hmem hok hgo hin x0 x1 x2
      obtain ⟨k, hk⟩ : ∃ k, k = (rd_T28 l1 (i : Int)).f0 := ⟨_, rfl⟩
      obtain ⟨f, hf⟩ : ∃ f, f = (rd_T28 l1 (i : Int)).f1 := ⟨_, rfl⟩
      obtain ⟨t, ht⟩ : ∃ t, t = (rd_T28 l1 (i : Int)).f2 := ⟨_, rfl⟩
      rw [← hk] at y0
      rw [← hf] at y1
      rw [← ht] at y2 WT
      clear hk hf ht
      have ew : Aside0 (wrap64 ((i : Int) + 1) = (i : Int) + 1) := ⟨by have h2 := HI2.out; unfold wrap64; omega⟩
      have HI3 := Aside0.mk (HI.out.do_ HW.out (by omega) k f t)
      go_wp2_with (go_at_call 8; (refine (sp_do HS.out HI.out HW.out (by have := HI2.out; omega) k f WT.out).mono ?_); rintro e wb ⟨rfl, h⟩; have S3 := Aside0.mk h; clear h)
      go_roundg k1
      case measure => omega
      case rel => exact ⟨i + 1, _, by rw [ew.out]; simp, ⟨by have := HK.out; omega⟩, ⟨by have := HI2.out; omega⟩, S3, ⟨HI3.out.1⟩, ⟨HI3.out.2.2⟩⟩
    · by_cases hin : i < n
      · have h80 : ¬ i < 80 := fun q => hgo ⟨hin, q⟩
        have d1 : decide ((i : Int) < (n : Int)) = true := decide_eq_true (by omega)
        have d2 : decide (i < n) = true := decide_eq_true hin
        have d3 : decide ((i : Int) < 80) = false := decide_eq_false (by omega)
        have d4 : decide (i < 80) = false := decide_eq_false h80
        clear hgo h80 hin
        go_upto_region 9 with (go_at_call 9; (refine (sp_all HS.out HI.out).mono ?_); rintro e wk ⟨rfl, h⟩; have HS1 := Aside0.mk h; clear h)
        have HZ0 := Aside0.mk (show Sub A A from fun t ht h => h)
        have HM0 := Aside0.mk (metS_self A)
        have HN8 := Aside0.mk HS1.out.n8
        clear HS
        go_upto_block 2 with (fail)
        go_wp2
        go_loopg [8, 9] A.n (fun kq v8 v9 w' => ∃ (j : Nat) (B : Pa), v8 = .int .u64 ((metS A B : Nat) : Int) ∧ v9 = .int .i64 (j : Int) ∧ Aside0 (j + kq = A.n) ∧ Aside0 (B.n = A.n) ∧ Aside0 (Sp w w' gp B) ∧ Aside0 (Inv B) ∧ Aside0 (Sub A B) ∧ Aside0 (∀ c, c < j → B.runs c = 0))
        case atStart => exact ⟨0, A, by rw [HM0.out]; rfl, rfl, ⟨by omega⟩, ⟨rfl⟩, HS1, HI, HZ0, ⟨fun c hc => by omega⟩⟩
        case round =>
          clear HS1 HZ0 HM0
          obtain ⟨j, B, rfl, rfl, HJ, HBN, HSB, HIB, HSUB, HRUN⟩ := hrel
          rcases gk with _ | k2
          · have HE := Aside0.mk (show j = B.n from by have h1 := HJ.out; have h2 := HBN.out; omega)
            have HID := Aside0.mk (show Idle B from fun c hc => HRUN.out c (by have := HE.out; omega))
            have HTOT := Aside0.mk (inv_tot HIB.out)
            have d5 : decide ((j : Int) < (B.n : Int)) = false := decide_eq_false (by have := HE.out; omega)
            have d6 : decide (j < B.n) = false := decide_eq_false (by have := HE.out; omega)
            clear HRUN
            go_upto_block 4 with (go_at_call 10; (refine (sp_workers HSB.out).mono ?_); rintro e wm ⟨rfl, h⟩; have HSB2 := Aside0.mk h; clear h)
            go_wp2
            have HTT0 := Aside0.mk (show tot B + 0 ≤ 64 ∨ tot B = 0 from .inl HTOT.out)
            clear d5 d6 HE HTOT
            go_loopg [8, 11] 70 (fun kq v8 v11 w' => ∃ (m : Nat) (C : Pa), v8 = .int .u64 ((metS A C : Nat) : Int) ∧ v11 = .int .i64 (m : Int) ∧ Aside0 (m + kq = 70) ∧ Aside0 (C.n = A.n) ∧ Aside0 (Sp w w' gp C) ∧ Aside0 (Inv C) ∧ Aside0 (Sub A C) ∧ Aside0 (Idle C) ∧ Aside0 (tot C + m ≤ 64 ∨ tot C = 0))
            case atStart => exact ⟨0, B, rfl, rfl, ⟨by omega⟩, HBN, HSB2, HIB, HSUB, HID, HTT0⟩
            case round =>
              clear HSB2 HIB HSUB HID HTT0 HSB HBN HJ
              obtain ⟨m, C, rfl, rfl, HMK, HCN, HSC, HIC, HSUBC, HIDC, HTTC⟩ := hrel
              rcases gk with _ | k3
              · have d7 : decide ((m : Int) < 70) = false := decide_eq_false (by have := HMK.out; omega)
                have d8 : decide (m < 70) = false := decide_eq_false (by have := HMK.out; omega)
                have HZ := Aside0.mk (none_left HIC.out HIDC.out (by have h1 := HTTC.out; have h2 := HMK.out; omega))
                have HMA := Aside0.mk (met_all (Z := A) HZ.out)
                rw [HMA.out.1]
                clear HZ HTTC
                go_wp2_with (first
                  | (go_at_call 9; (refine (sp_all HSC.out HIC.out).mono ?_); rintro e wp ⟨rfl, h⟩; have HS9 := Aside0.mk h; clear h; rw [HMA.out.2])
                  | (go_at_call 14; (refine (lives_any _).mono ?_); rintro e wq ⟨rfl, h⟩; have HBE := Aside0.mk (below_step HS9.out.hb h); clear h))
                go_ret
                exact ⟨rfl, HBE.out⟩
              · have d7 : decide ((m : Int) < 70) = true := decide_eq_true (by have := HMK.out; omega)
                have d8 : decide (m < 70) = true := decide_eq_true (by have := HMK.out; omega)
                have HM70 := Aside0.mk (show m < 70 from by have := HMK.out; omega)
                have ew3 : Aside0 (wrap64 ((m : Int) + 1) = (m : Int) + 1) := ⟨by have h2 := HM70.out; unfold wrap64; omega⟩
                have HTT1 := Aside0.mk (show tot C + (m + 1) ≤ 64 ∨ tot C = 0 ∨ (tot C + m ≤ 64 ∧ (∀ j, j < 0 → (C.own j).length = 0) ∧ (0 < 0 → C.gl.length = 0)) from by
                  rcases HTTC.out with h | h
                  · exact .inr (.inr ⟨h, fun j hj => by omega, fun h => by omega⟩)
                  · exact .inr (.inl h))
                go_upto_block 6 with (fail)
                go_wp2
                go_loopg [8, 12] C.n (fun kq v8 v12 w' => ∃ (c : Nat) (D : Pa), v8 = .int .u64 ((metS A D : Nat) : Int) ∧ v12 = .int .i64 (c : Int) ∧ Aside0 (c + kq = C.n) ∧ Aside0 (D.n = C.n) ∧ Aside0 (Sp w w' gp D) ∧ Aside0 (Inv D) ∧ Aside0 (Sub A D) ∧ Aside0 (Idle D) ∧ Aside0 (tot D + (m + 1) ≤ 64 ∨ tot D = 0 ∨ (tot D + m ≤ 64 ∧ (∀ j, j < c → (D.own j).length = 0) ∧ (0 < c → D.gl.length = 0))))
                case atStart => exact ⟨0, C, rfl, rfl, ⟨by omega⟩, ⟨rfl⟩, HSC, HIC, HSUBC, HIDC, HTT1⟩
                case round =>
                  clear HSC HIC HSUBC HIDC HTT1 HTTC
                  obtain ⟨c, D, rfl, rfl, HCK, HDN, HSD, HID, HSUBD, HIDD, HTTD⟩ := hrel
                  rcases gk with _ | k4
                  · have HCE := Aside0.mk (show c = D.n from by have h1 := HCK.out; have h2 := HDN.out; omega)
                    have d9 : decide ((c : Int) < (D.n : Int)) = false := decide_eq_false (by have := HCE.out; omega)
                    have d10 : decide (c < D.n) = false := decide_eq_false (by have := HCE.out; omega)
                    have HTTE := Aside0.mk (show tot D + (m + 1) ≤ 64 ∨ tot D = 0 from by
                      rcases HTTD.out with h | h | ⟨h1, h2, h3⟩
                      · exact .inl h
                      · exact .inr h
                      · exact .inr (tot_zero (fun j hj => h2 j (by have := HCE.out; omega)) (h3 (by have h4 := HID.out.pos; have h5 := HCE.out; omega))))
                    go_wp2_with (go_at_call 10; (refine (sp_workers HSD.out).mono ?_); rintro e wr2 ⟨rfl, h⟩; have HSD2 := Aside0.mk h; clear h)
                    go_roundg k3
                    case measure => omega
                    case rel => exact ⟨m + 1, D, rfl, by rw [ew3.out]; simp, ⟨by have := HMK.out; omega⟩, ⟨HDN.out.trans HCN.out⟩, HSD2, HID, HSUBD, HIDD, HTTE⟩
                  · have HCD := Aside0.mk (show c < D.n from by have h1 := HCK.out; have h2 := HDN.out; omega)
                    have d9 : decide ((c : Int) < (D.n : Int)) = true := decide_eq_true (by have := HCD.out; omega)
                    have d10 : decide (c < D.n) = true := decide_eq_true HCD.out
                    have ew4 : Aside0 (wrap64 ((c : Int) + 1) = (c : Int) + 1) := ⟨by have h2 := HCD.out; have h3 := HSD.out.n8; unfold wrap64; omega⟩
                    have HWD := Aside0.mk (show -9223372036854775808 ≤ (m : Int) ∧ (m : Int) ≤ 9223372036854775807 from ⟨by omega, by have := HM70.out; omega⟩)
                    rcases fetch_step HID.out HSUBD.out HIDD.out HCD.out (m : Int) with ⟨hF, ho, hg⟩ | ⟨B2, t, f, hF, hf, ht, hB2, hon, hn2, hbit, hmet, hsub, hinv, hidl, hn3, htot⟩
                    · have HF := Aside0.mk hF
                      have HTTE := Aside0.mk (show tot D + (m + 1) ≤ 64 ∨ tot D = 0 ∨ (tot D + m ≤ 64 ∧ (∀ j, j < c + 1 → (D.own j).length = 0) ∧ (0 < c + 1 → D.gl.length = 0)) from by
                        rcases HTTD.out with h | h | ⟨h1, h2, h3⟩
                        · exact .inl h
                        · exact .inr (.inl h)
                        · refine .inr (.inr ⟨h1, fun j hj => ?_, fun _ => hg⟩)
                          by_cases e : j = c
                          · rw [e]; exact ho
                          · exact h2 j (by omega))
                      clear hF ho hg HTTD
                      go_wp2_with (first
                        | (go_at_call 10; (refine (sp_workers HSD.out).mono ?_); rintro e wr2 ⟨rfl, h⟩; have HSD2 := Aside0.mk h; clear h)
                        | (go_at_call 13; (refine (sp_fetch HSD2.out HID.out (c : Int) HWD.out).mono ?_); rintro e ws ⟨rfl, h⟩; rw [HF.out] at h ⊢; have HSD3 := Aside0.mk (show Sp w ws gp D from h); clear h))
                      go_roundg k4
                      case measure => omega
                      case rel => exact ⟨c + 1, D, rfl, by rw [ew4.out]; simp, ⟨by have := HCK.out; omega⟩, HDN, HSD3, HID, HSUBD, HIDD, HTTE⟩
                    · have HF := Aside0.mk hF
                      have HFP := Aside0.mk hf
                      have HT := Aside0.mk ht
                      have HB2 := Aside0.mk hB2
                      have HON := Aside0.mk hon
                      have HBIT := Aside0.mk hbit
                      have HMET := Aside0.mk hmet
                      have HSUB2 := Aside0.mk hsub
                      have HINV2 := Aside0.mk hinv
                      have HIDL2 := Aside0.mk hidl
                      have HN3 := Aside0.mk hn3
                      have HTTE := Aside0.mk (show tot (leaveA B2 (c : Int)) + (m + 1) ≤ 64 ∨ tot (leaveA B2 (c : Int)) = 0 ∨ (tot (leaveA B2 (c : Int)) + m ≤ 64 ∧ (∀ j, j < c + 1 → ((leaveA B2 (c : Int)).own j).length = 0) ∧ (0 < c + 1 → (leaveA B2 (c : Int)).gl.length = 0)) from by
                        have h1 := HTTD.out
                        omega)
                      have d11 : decide (63 < (t : Int)) = false := decide_eq_false (by omega)
                      have d12 : decide (63 < t) = false := decide_eq_false (by omega)
                      have d13 : (f == 0) = false := beq_eq_false_iff_ne.2 (by omega)
                      have d14 : decide ((t : Int) < 0) = false := decide_eq_false (by omega)
                      have HML := Aside0.mk (metS_top A D)
                      clear hF hf ht hB2 hon hbit hmet hsub hinv hidl hn3 htot hn2 HTTD
                      obtain ⟨P, hP⟩ : ∃ P, P = 2 ^ t := ⟨_, rfl⟩
                      have es := shlf HT.out hP
                      have HPL := Aside0.mk (show P < Bt.top from by rw [hP]; exact Bt.lt_pow HT.out)
                      rw [← hP] at HMET
                      clear hP
                      generalize metS A D = M at *
                      obtain ⟨Q, hQ⟩ : ∃ Q, Q = M ||| P := ⟨_, rfl⟩
                      have eo : Go.bits .or .u64 (M : Int) (P : Int) = (Q : Int) := by rw [hQ]; exact Bt.or_nat HML.out HPL.out
                      rw [← hQ] at HMET
                      clear hQ
                      have ea := shrf HML.out HT.out HBIT.out
                      have d15 : decide ((0 : Int) ≤ (t : Int)) = true := decide_eq_true (by omega)
                      go_upto_region 24 with (first
                        | (go_at_call 10; (refine (sp_workers HSD.out).mono ?_); rintro e wr2 ⟨rfl, h⟩; have HSD2 := Aside0.mk h; clear h)
                        | (go_at_call 13; (refine (sp_fetch HSD2.out HID.out (c : Int) HWD.out).mono ?_); rintro e ws ⟨rfl, h⟩; rw [HF.out] at h ⊢; have HSD3 := Aside0.mk (show Sp w ws gp B2 from h); clear h))
                      go_upto_region 26 with (go_at_call 12; (refine (sp_leave HSD3.out HB2.out (c : Int)).mono ?_); rintro e wt ⟨rfl, h⟩; have HSD4 := Aside0.mk h; clear h; rw [HON.out])
                      clear d15 ea
                      go_wp2
                      go_roundg k4
                      case measure => omega
                      case rel => exact ⟨c + 1, _, by rw [HMET.out], by rw [ew4.out]; simp, ⟨by have := HCK.out; omega⟩, ⟨HN3.out.trans HDN.out⟩, HSD4, HINV2, HSUB2, HIDL2, HTTE⟩
          · have HJN := Aside0.mk (show j < B.n from by have h1 := HJ.out; have h2 := HBN.out; omega)
            have d5 : decide ((j : Int) < (B.n : Int)) = true := decide_eq_true (by have := HJN.out; omega)
            have d6 : decide (j < B.n) = true := decide_eq_true HJN.out
            have ew2 : Aside0 (wrap64 ((j : Int) + 1) = (j : Int) + 1) := ⟨by have h2 := HJN.out; have h3 := HBN.out; have h4 := HN8.out; unfold wrap64; omega⟩
            by_cases h0 : 0 ≤ on B (j : Int)
            · obtain ⟨t, ho, ht, hm, hs, hr, hn⟩ := leave_step HIB.out HSUB.out HJN.out h0
              have HO := Aside0.mk ho
              have HT := Aside0.mk ht
              have HM := Aside0.mk hm
              have HS2 := Aside0.mk hs
              have HR2 := Aside0.mk hr
              have HN2 := Aside0.mk hn
              have d7 : decide ((0 : Int) ≤ (t : Int)) = true := decide_eq_true (by omega)
              clear h0 ho ht hm hs hr hn
              have HML := Aside0.mk (metS_top A B)
              obtain ⟨P, hP⟩ : ∃ P, P = 2 ^ t := ⟨_, rfl⟩
              have es := shlf HT.out hP
              have HPL := Aside0.mk (show P < Bt.top from by rw [hP]; exact Bt.lt_pow HT.out)
              rw [← hP] at HM
              clear hP
              generalize metS A B = M at *
              obtain ⟨Q, hQ⟩ : ∃ Q, Q = M ||| P := ⟨_, rfl⟩
              have eo : Go.bits .or .u64 (M : Int) (P : Int) = (Q : Int) := by rw [hQ]; exact Bt.or_nat HML.out HPL.out
              rw [← hQ] at HM
              clear hQ
              go_upto_region 13 with (first
                | (go_at_call 10; (refine (sp_workers HSB.out).mono ?_); rintro e wm ⟨rfl, h⟩; have HSB2 := Aside0.mk h; clear h)
                | (go_at_call 11; (refine (sp_on HSB2.out HIB.out (j : Int)).mono ?_); rintro e wn ⟨rfl, h⟩; have HSB3 := Aside0.mk h; clear h; rw [HO.out]))
              clear d7
              go_wp2_with (go_at_call 12; (refine (sp_leave HSB3.out HIB.out (j : Int)).mono ?_); rintro e wo ⟨rfl, h⟩; have HSB4 := Aside0.mk h; clear h)
              go_roundg k2
              case measure => omega
              case rel => exact ⟨j + 1, _, by rw [HM.out], by rw [ew2.out]; simp, ⟨by have := HJ.out; omega⟩, ⟨HN2.out.trans HBN.out⟩, HSB4, ⟨HIB.out.leave _⟩, HS2, ⟨fun c hc => by
                rw [HR2.out]
                split
                · rfl
                · exact HRUN.out c (by omega)⟩⟩
            · have d7 : decide ((0 : Int) ≤ on B (j : Int)) = false := decide_eq_false h0
              have HLV := Aside0.mk (leave_none h0)
              have HRJ := Aside0.mk (show B.runs j = 0 from by have h1 := on_in HJN.out; have h2 := (HIB.out.runs j HJN.out).1; omega)
              clear h0
              go_wp2_with (first
                | (go_at_call 10; (refine (sp_workers HSB.out).mono ?_); rintro e wm ⟨rfl, h⟩; have HSB2 := Aside0.mk h; clear h)
                | (go_at_call 11; (refine (sp_on HSB2.out HIB.out (j : Int)).mono ?_); rintro e wn ⟨rfl, h⟩; have HSB3 := Aside0.mk h; clear h)
                | (go_at_call 12; (refine (sp_leave HSB3.out HIB.out (j : Int)).mono ?_); rintro e wo ⟨rfl, h⟩; rw [HLV.out] at h; have HSB4 := Aside0.mk h; clear h))
              go_roundg k2
              case measure => omega
              case rel => exact ⟨j + 1, B, rfl, by rw [ew2.out]; simp, ⟨by have := HJ.out; omega⟩, HBN, HSB4, HIB, HSUB, ⟨fun c hc => by
                by_cases e : c = j
                · rw [e]; exact HRJ.out
                · exact HRUN.out c (by omega)⟩⟩
      · have d1 : decide ((i : Int) < (n : Int)) = false := decide_eq_false (by omega)
        have d2 : decide (i < n) = false := decide_eq_false hin
        clear hgo hin
        go_upto_region 9 with (go_at_call 9; (refine (sp_all HS.out HI.out).mono ?_); rintro e wk ⟨rfl, h⟩; have HS1 := Aside0.mk h; clear h)
        have HZ0 := Aside0.mk (show Sub A A from fun t ht h => h)
        have HM0 := Aside0.mk (metS_self A)
        have HN8 := Aside0.mk HS1.out.n8
        clear HS
        go_upto_block 2 with (fail)
        go_wp2
        go_loopg [8, 9] A.n (fun kq v8 v9 w' => ∃ (j : Nat) (B : Pa), v8 = .int .u64 ((metS A B : Nat) : Int) ∧ v9 = .int .i64 (j : Int) ∧ Aside0 (j + kq = A.n) ∧ Aside0 (B.n = A.n) ∧ Aside0 (Sp w w' gp B) ∧ Aside0 (Inv B) ∧ Aside0 (Sub A B) ∧ Aside0 (∀ c, c < j → B.runs c = 0))
        case atStart => exact ⟨0, A, by rw [HM0.out]; rfl, rfl, ⟨by omega⟩, ⟨rfl⟩, HS1, HI, HZ0, ⟨fun c hc => by omega⟩⟩
        case round =>
          clear HS1 HZ0 HM0
          obtain ⟨j, B, rfl, rfl, HJ, HBN, HSB, HIB, HSUB, HRUN⟩ := hrel
          rcases gk with _ | k2
          · have HE := Aside0.mk (show j = B.n from by have h1 := HJ.out; have h2 := HBN.out; omega)
            have HID := Aside0.mk (show Idle B from fun c hc => HRUN.out c (by have := HE.out; omega))
            have HTOT := Aside0.mk (inv_tot HIB.out)
            have d5 : decide ((j : Int) < (B.n : Int)) = false := decide_eq_false (by have := HE.out; omega)
            have d6 : decide (j < B.n) = false := decide_eq_false (by have := HE.out; omega)
            clear HRUN
            go_upto_block 4 with (go_at_call 10; (refine (sp_workers HSB.out).mono ?_); rintro e wm ⟨rfl, h⟩; have HSB2 := Aside0.mk h; clear h)
            go_wp2
            have HTT0 := Aside0.mk (show tot B + 0 ≤ 64 ∨ tot B = 0 from .inl HTOT.out)
            clear d5 d6 HE HTOT
            go_loopg [8, 11] 70 (fun kq v8 v11 w' => ∃ (m : Nat) (C : Pa), v8 = .int .u64 ((metS A C : Nat) : Int) ∧ v11 = .int .i64 (m : Int) ∧ Aside0 (m + kq = 70) ∧ Aside0 (C.n = A.n) ∧ Aside0 (Sp w w' gp C) ∧ Aside0 (Inv C) ∧ Aside0 (Sub A C) ∧ Aside0 (Idle C) ∧ Aside0 (tot C + m ≤ 64 ∨ tot C = 0))
            case atStart => exact ⟨0, B, rfl, rfl, ⟨by omega⟩, HBN, HSB2, HIB, HSUB, HID, HTT0⟩
            case round =>
              clear HSB2 HIB HSUB HID HTT0 HSB HBN HJ
              obtain ⟨m, C, rfl, rfl, HMK, HCN, HSC, HIC, HSUBC, HIDC, HTTC⟩ := hrel
              rcases gk with _ | k3
              · have d7 : decide ((m : Int) < 70) = false := decide_eq_false (by have := HMK.out; omega)
                have d8 : decide (m < 70) = false := decide_eq_false (by have := HMK.out; omega)
                have HZ := Aside0.mk (none_left HIC.out HIDC.out (by have h1 := HTTC.out; have h2 := HMK.out; omega))
                have HMA := Aside0.mk (met_all (Z := A) HZ.out)
                rw [HMA.out.1]
                clear HZ HTTC
                go_wp2_with (first
                  | (go_at_call 9; (refine (sp_all HSC.out HIC.out).mono ?_); rintro e wp ⟨rfl, h⟩; have HS9 := Aside0.mk h; clear h; rw [HMA.out.2])
                  | (go_at_call 14; (refine (lives_any _).mono ?_); rintro e wq ⟨rfl, h⟩; have HBE := Aside0.mk (below_step HS9.out.hb h); clear h))
                go_ret
                exact ⟨rfl, HBE.out⟩
              · have d7 : decide ((m : Int) < 70) = true := decide_eq_true (by have := HMK.out; omega)
                have d8 : decide (m < 70) = true := decide_eq_true (by have := HMK.out; omega)
                have HM70 := Aside0.mk (show m < 70 from by have := HMK.out; omega)
                have ew3 : Aside0 (wrap64 ((m : Int) + 1) = (m : Int) + 1) := ⟨by have h2 := HM70.out; unfold wrap64; omega⟩
                have HTT1 := Aside0.mk (show tot C + (m + 1) ≤ 64 ∨ tot C = 0 ∨ (tot C + m ≤ 64 ∧ (∀ j, j < 0 → (C.own j).length = 0) ∧ (0 < 0 → C.gl.length = 0)) from by
                  rcases HTTC.out with h | h
                  · exact .inr (.inr ⟨h, fun j hj => by omega, fun h => by omega⟩)
                  · exact .inr (.inl h))
                go_upto_block 6 with (fail)
                go_wp2
                go_loopg [8, 12] C.n (fun kq v8 v12 w' => ∃ (c : Nat) (D : Pa), v8 = .int .u64 ((metS A D : Nat) : Int) ∧ v12 = .int .i64 (c : Int) ∧ Aside0 (c + kq = C.n) ∧ Aside0 (D.n = C.n) ∧ Aside0 (Sp w w' gp D) ∧ Aside0 (Inv D) ∧ Aside0 (Sub A D) ∧ Aside0 (Idle D) ∧ Aside0 (tot D + (m + 1) ≤ 64 ∨ tot D = 0 ∨ (tot D + m ≤ 64 ∧ (∀ j, j < c → (D.own j).length = 0) ∧ (0 < c → D.gl.length = 0))))
                case atStart => exact ⟨0, C, rfl, rfl, ⟨by omega⟩, ⟨rfl⟩, HSC, HIC, HSUBC, HIDC, HTT1⟩
                case round =>
                  clear HSC HIC HSUBC HIDC HTT1 HTTC
                  obtain ⟨c, D, rfl, rfl, HCK, HDN, HSD, HID, HSUBD, HIDD, HTTD⟩ := hrel
                  rcases gk with _ | k4
                  · have HCE := Aside0.mk (show c = D.n from by have h1 := HCK.out; have h2 := HDN.out; omega)
                    have d9 : decide ((c : Int) < (D.n : Int)) = false := decide_eq_false (by have := HCE.out; omega)
                    have d10 : decide (c < D.n) = false := decide_eq_false (by have := HCE.out; omega)
                    have HTTE := Aside0.mk (show tot D + (m + 1) ≤ 64 ∨ tot D = 0 from by
                      rcases HTTD.out with h | h | ⟨h1, h2, h3⟩
                      · exact .inl h
                      · exact .inr h
                      · exact .inr (tot_zero (fun j hj => h2 j (by have := HCE.out; omega)) (h3 (by have h4 := HID.out.pos; have h5 := HCE.out; omega))))
                    go_wp2_with (go_at_call 10; (refine (sp_workers HSD.out).mono ?_); rintro e wr2 ⟨rfl, h⟩; have HSD2 := Aside0.mk h; clear h)
                    go_roundg k3
                    case measure => omega
                    case rel => exact ⟨m + 1, D, rfl, by rw [ew3.out]; simp, ⟨by have := HMK.out; omega⟩, ⟨HDN.out.trans HCN.out⟩, HSD2, HID, HSUBD, HIDD, HTTE⟩
                  · have HCD := Aside0.mk (show c < D.n from by have h1 := HCK.out; have h2 := HDN.out; omega)
                    have d9 : decide ((c : Int) < (D.n : Int)) = true := decide_eq_true (by have := HCD.out; omega)
                    have d10 : decide (c < D.n) = true := decide_eq_true HCD.out
                    have ew4 : Aside0 (wrap64 ((c : Int) + 1) = (c : Int) + 1) := ⟨by have h2 := HCD.out; have h3 := HSD.out.n8; unfold wrap64; omega⟩
                    have HWD := Aside0.mk (show -9223372036854775808 ≤ (m : Int) ∧ (m : Int) ≤ 9223372036854775807 from ⟨by omega, by have := HM70.out; omega⟩)
                    rcases fetch_step HID.out HSUBD.out HIDD.out HCD.out (m : Int) with ⟨hF, ho, hg⟩ | ⟨B2, t, f, hF, hf, ht, hB2, hon, hn2, hbit, hmet, hsub, hinv, hidl, hn3, htot⟩
                    · have HF := Aside0.mk hF
                      have HTTE := Aside0.mk (show tot D + (m + 1) ≤ 64 ∨ tot D = 0 ∨ (tot D + m ≤ 64 ∧ (∀ j, j < c + 1 → (D.own j).length = 0) ∧ (0 < c + 1 → D.gl.length = 0)) from by
                        rcases HTTD.out with h | h | ⟨h1, h2, h3⟩
                        · exact .inl h
                        · exact .inr (.inl h)
                        · refine .inr (.inr ⟨h1, fun j hj => ?_, fun _ => hg⟩)
                          by_cases e : j = c
                          · rw [e]; exact ho
                          · exact h2 j (by omega))
                      clear hF ho hg HTTD
                      go_wp2_with (first
                        | (go_at_call 10; (refine (sp_workers HSD.out).mono ?_); rintro e wr2 ⟨rfl, h⟩; have HSD2 := Aside0.mk h; clear h)
                        | (go_at_call 13; (refine (sp_fetch HSD2.out HID.out (c : Int) HWD.out).mono ?_); rintro e ws ⟨rfl, h⟩; rw [HF.out] at h ⊢; have HSD3 := Aside0.mk (show Sp w ws gp D from h); clear h))
                      go_roundg k4
                      case measure => omega
                      case rel => exact ⟨c + 1, D, rfl, by rw [ew4.out]; simp, ⟨by have := HCK.out; omega⟩, HDN, HSD3, HID, HSUBD, HIDD, HTTE⟩
                    · have HF := Aside0.mk hF
                      have HFP := Aside0.mk hf
                      have HT := Aside0.mk ht
                      have HB2 := Aside0.mk hB2
                      have HON := Aside0.mk hon
                      have HBIT := Aside0.mk hbit
                      have HMET := Aside0.mk hmet
                      have HSUB2 := Aside0.mk hsub
                      have HINV2 := Aside0.mk hinv
                      have HIDL2 := Aside0.mk hidl
                      have HN3 := Aside0.mk hn3
                      have HTTE := Aside0.mk (show tot (leaveA B2 (c : Int)) + (m + 1) ≤ 64 ∨ tot (leaveA B2 (c : Int)) = 0 ∨ (tot (leaveA B2 (c : Int)) + m ≤ 64 ∧ (∀ j, j < c + 1 → ((leaveA B2 (c : Int)).own j).length = 0) ∧ (0 < c + 1 → (leaveA B2 (c : Int)).gl.length = 0)) from by
                        have h1 := HTTD.out
                        omega)
                      have d11 : decide (63 < (t : Int)) = false := decide_eq_false (by omega)
                      have d12 : decide (63 < t) = false := decide_eq_false (by omega)
                      have d13 : (f == 0) = false := beq_eq_false_iff_ne.2 (by omega)
                      have d14 : decide ((t : Int) < 0) = false := decide_eq_false (by omega)
                      have HML := Aside0.mk (metS_top A D)
                      clear hF hf ht hB2 hon hbit hmet hsub hinv hidl hn3 htot hn2 HTTD
                      obtain ⟨P, hP⟩ : ∃ P, P = 2 ^ t := ⟨_, rfl⟩
                      have es := shlf HT.out hP
                      have HPL := Aside0.mk (show P < Bt.top from by rw [hP]; exact Bt.lt_pow HT.out)
                      rw [← hP] at HMET
                      clear hP
                      generalize metS A D = M at *
                      obtain ⟨Q, hQ⟩ : ∃ Q, Q = M ||| P := ⟨_, rfl⟩
                      have eo : Go.bits .or .u64 (M : Int) (P : Int) = (Q : Int) := by rw [hQ]; exact Bt.or_nat HML.out HPL.out
                      rw [← hQ] at HMET
                      clear hQ
                      have ea := shrf HML.out HT.out HBIT.out
                      have d15 : decide ((0 : Int) ≤ (t : Int)) = true := decide_eq_true (by omega)
                      go_upto_region 24 with (first
                        | (go_at_call 10; (refine (sp_workers HSD.out).mono ?_); rintro e wr2 ⟨rfl, h⟩; have HSD2 := Aside0.mk h; clear h)
                        | (go_at_call 13; (refine (sp_fetch HSD2.out HID.out (c : Int) HWD.out).mono ?_); rintro e ws ⟨rfl, h⟩; rw [HF.out] at h ⊢; have HSD3 := Aside0.mk (show Sp w ws gp B2 from h); clear h))
                      go_upto_region 26 with (go_at_call 12; (refine (sp_leave HSD3.out HB2.out (c : Int)).mono ?_); rintro e wt ⟨rfl, h⟩; have HSD4 := Aside0.mk h; clear h; rw [HON.out])
                      clear d15 ea
                      go_wp2
                      go_roundg k4
                      case measure => omega
                      case rel => exact ⟨c + 1, _, by rw [HMET.out], by rw [ew4.out]; simp, ⟨by have := HCK.out; omega⟩, ⟨HN3.out.trans HDN.out⟩, HSD4, HINV2, HSUB2, HIDL2, HTTE⟩
          · have HJN := Aside0.mk (show j < B.n from by have h1 := HJ.out; have h2 := HBN.out; omega)
            have d5 : decide ((j : Int) < (B.n : Int)) = true := decide_eq_true (by have := HJN.out; omega)
            have d6 : decide (j < B.n) = true := decide_eq_true HJN.out
            have ew2 : Aside0 (wrap64 ((j : Int) + 1) = (j : Int) + 1) := ⟨by have h2 := HJN.out; have h3 := HBN.out; have h4 := HN8.out; unfold wrap64; omega⟩
            by_cases h0 : 0 ≤ on B (j : Int)
            · obtain ⟨t, ho, ht, hm, hs, hr, hn⟩ := leave_step HIB.out HSUB.out HJN.out h0
              have HO := Aside0.mk ho
              have HT := Aside0.mk ht
              have HM := Aside0.mk hm
              have HS2 := Aside0.mk hs
              have HR2 := Aside0.mk hr
              have HN2 := Aside0.mk hn
              have d7 : decide ((0 : Int) ≤ (t : Int)) = true := decide_eq_true (by omega)
              clear h0 ho ht hm hs hr hn
              have HML := Aside0.mk (metS_top A B)
              obtain ⟨P, hP⟩ : ∃ P, P = 2 ^ t := ⟨_, rfl⟩
              have es := shlf HT.out hP
              have HPL := Aside0.mk (show P < Bt.top from by rw [hP]; exact Bt.lt_pow HT.out)
              rw [← hP] at HM
              clear hP
              generalize metS A B = M at *
              obtain ⟨Q, hQ⟩ : ∃ Q, Q = M ||| P := ⟨_, rfl⟩
              have eo : Go.bits .or .u64 (M : Int) (P : Int) = (Q : Int) := by rw [hQ]; exact Bt.or_nat HML.out HPL.out
              rw [← hQ] at HM
              clear hQ
              go_upto_region 13 with (first
                | (go_at_call 10; (refine (sp_workers HSB.out).mono ?_); rintro e wm ⟨rfl, h⟩; have HSB2 := Aside0.mk h; clear h)
                | (go_at_call 11; (refine (sp_on HSB2.out HIB.out (j : Int)).mono ?_); rintro e wn ⟨rfl, h⟩; have HSB3 := Aside0.mk h; clear h; rw [HO.out]))
              clear d7
              go_wp2_with (go_at_call 12; (refine (sp_leave HSB3.out HIB.out (j : Int)).mono ?_); rintro e wo ⟨rfl, h⟩; have HSB4 := Aside0.mk h; clear h)
              go_roundg k2
              case measure => omega
              case rel => exact ⟨j + 1, _, by rw [HM.out], by rw [ew2.out]; simp, ⟨by have := HJ.out; omega⟩, ⟨HN2.out.trans HBN.out⟩, HSB4, ⟨HIB.out.leave _⟩, HS2, ⟨fun c hc => by
                rw [HR2.out]
                split
                · rfl
                · exact HRUN.out c (by omega)⟩⟩
            · have d7 : decide ((0 : Int) ≤ on B (j : Int)) = false := decide_eq_false h0
              have HLV := Aside0.mk (leave_none h0)
              have HRJ := Aside0.mk (show B.runs j = 0 from by have h1 := on_in HJN.out; have h2 := (HIB.out.runs j HJN.out).1; omega)
              clear h0
              go_wp2_with (first
                | (go_at_call 10; (refine (sp_workers HSB.out).mono ?_); rintro e wm ⟨rfl, h⟩; have HSB2 := Aside0.mk h; clear h)
                | (go_at_call 11; (refine (sp_on HSB2.out HIB.out (j : Int)).mono ?_); rintro e wn ⟨rfl, h⟩; have HSB3 := Aside0.mk h; clear h)
                | (go_at_call 12; (refine (sp_leave HSB3.out HIB.out (j : Int)).mono ?_); rintro e wo ⟨rfl, h⟩; rw [HLV.out] at h; have HSB4 := Aside0.mk h; clear h))
              go_roundg k2
              case measure => omega
              case rel => exact ⟨j + 1, B, rfl, by rw [ew2.out]; simp, ⟨by have := HJ.out; omega⟩, HBN, HSB4, HIB, HSUB, ⟨fun c hc => by
                by_cases e : c = j
                · rw [e]; exact HRJ.out
                · exact HRUN.out c (by omega)⟩⟩
end Go.Proofs.Ytjcjhmnfknenlaa.placeAllW
