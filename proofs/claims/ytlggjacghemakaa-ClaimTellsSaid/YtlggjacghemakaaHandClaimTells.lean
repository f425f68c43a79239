/- ClaimTells, walked by hand. Conditions: none. -/
import Derived.Test.YtlggjacghemakaaHand1ClaimTells
namespace Go.Proofs.Ytlggjacghemakaa.claimTellsW
open Go.RowKit Go.Proofs.Ytlggjacghemakaa.PClaimTells Go.Proofs.YtlggjacghemakaaW.PrintWords Go.Proofs.YtlggjacghemakaaW.PrintLast Go.Proofs.YtlggjacghemakaaW.PrintMore
open ClClaimTells Cm
set_option linter.unusedVariables false
set_option linter.unusedSimpArgs false
set_option maxHeartbeats 8000000 in
set_option maxRecDepth 100000 in
theorem walk (A0_0 : Option Addr) (c0_0 : Nat) (l0_0 : List Int) (A0_1 : Option Addr) (c0_1 : Nat) (l0_1 : List (List Int)) (A0_2 : Option Addr) (c0_2 : Nat) (l0_2 : List (List Int)) (a1 : Int) (A2 : Option Addr) (c2 : Nat) (l2 : List Int) (w : World) (hr0_0 : Kd.C (Kd.int .i64) w A0_0 l0_0.length l0_0) (hc0_0 : l0_0.length ≤ c0_0) (hr0_1 : Kd.C (Kd.slice 3 (Kd.int .i64)) w A0_1 l0_1.length l0_1) (hc0_1 : l0_1.length ≤ c0_1) (hr0_2 : Kd.C (Kd.slice 3 (Kd.int .i64)) w A0_2 l0_2.length l0_2) (hc0_2 : l0_2.length ≤ c0_2) (hr2 : Kd.C (Kd.int .i64) w A2 l2.length l2) (hc2 : l2.length ≤ c2) (w0_0 : (fun l => (∀ a ∈ l, (fun x => (Lit.int .i64 x).wf = true) a) ∧ l.length * 8 ≤ 140737488351232) l0_0) (w0_1 : (fun l => (∀ a ∈ l, (fun l => (∀ a ∈ l, (fun x => (Lit.int .i64 x).wf = true) a) ∧ l.length * 8 ≤ 140737488351232) a) ∧ l.length * 24 ≤ 140737488351232) l0_1) (w0_2 : (fun l => (∀ a ∈ l, (fun l => (∀ a ∈ l, (fun x => (Lit.int .i64 x).wf = true) a) ∧ l.length * 8 ≤ 140737488351232) a) ∧ l.length * 24 ≤ 140737488351232) l0_2) (w1 : (fun x => (Lit.int .i64 x).wf = true) a1) (w2 : (fun l => (∀ a ∈ l, (fun x => (Lit.int .i64 x).wf = true) a) ∧ l.length * 8 ≤ 140737488351232) l2) :
    Calls Try.prog 7 #[.agg #[.slice A0_0 l0_0.length c0_0, .slice A0_1 l0_1.length c0_1, .slice A0_2 l0_2.length c0_2], .int .i64 a1, .slice A2 l2.length c2] w fun e w' => e = .returned (.bool true) ∧ Below w.heap.size w w' := by
  have hu55 := Try.underlying55
  have HA := Aside0.mk (show At w A0_0 c0_0 l0_0 A0_1 c0_1 l0_1 A0_2 c0_2 l0_2 from ⟨⟨hr0_0, hc0_0⟩, ⟨hr0_1, hc0_1⟩, ⟨hr0_2, hc0_2⟩⟩)
  have HQ := Aside0.mk (show Ro w A2 c2 l2 from ⟨hr2, hc2⟩)
  have hask : l2.length * 8 ≤ 140737488351232 := w2.2
  have HK := Aside0.mk hask
  clear hask
  clear hr0_0 hc0_0 hr0_1 hc0_1 hr0_2 hc0_2 hr2 hc2 w0_0 w0_1 w0_2 w1 w2
  have HB := Aside0.mk (Below.refl w.heap.size w)
  go_enter Try.func7, Try.ntmps7
  go_upto_if 22 with (first
    | ((with_reducible refine gate_dst (N := 3) rfl ?_); (try (refine gate_guard (by rfl) ?_; dsimp only)); refine box_event ?hg (N := 3) ?hd (cs := #[.slice A0_0 l0_0.length c0_0, .slice A0_1 l0_1.length c0_1, .slice A0_2 l0_2.length c0_2]) (t := 55) ?hr ?_; (case hd => rfl); (case hg => rfl); (case hr => first | (go_simp; done) | (go_simp; rfl)); intro g3 hg w3 hbox hb; have HB3 := Aside0.mk hb; have HG3 := Aside0.mk (show w.heap.size ≤ g3 by omega); have BK3 := Aside0.mk hbox; clear hb hbox hg; obtain ⟨hz3_0, hz3_1, hz3_2⟩ := claim_Grants.box3 BK3.out)
    | (go_at_call 23; with_reducible refine (cFew HA.out HB3.out).mono ?_; rintro e w4 ⟨F, H, C, A0, c0, A1, c1, AC, cC, rfl, HFHC0, HA4, hb4⟩; have HFHC := Aside0.mk HFHC0; clear HFHC0; have BK4 := Aside0.mk (blk_below BK3.out hb4); have HB4 := Aside0.mk (below_step HB3.out hb4); clear hb4; obtain ⟨hz4_0, hz4_1, hz4_2⟩ := claim_Grants.box3 BK4.out; have hf4_0 := blk_frozen BK4.out 0; have hf4_1 := blk_frozen BK4.out 1; have hf4_2 := blk_frozen BK4.out 2))
  go_cut [2] (fun v2 wc => ∃ (Aq : Option Addr) (cq : Nat) (ask : List Int), v2 = .slice Aq ask.length cq ∧ Aside0 (ask.length * 8 ≤ 140737488351232) ∧ Aside0 (St w wc g3 A0 c0 F A1 c1 H AC cC C Aq cq ask))
  case first =>
    have hmax : l2.length ≤ 9223372036854775807 := HQ.out.1.2.1
    have KEY : ∀ W3 : World, W3 = ((w4.setCell ⟨g3, 0, none⟩ (.slice A0 F.length c0)).setCell ⟨g3, 1, none⟩ (.slice A1 H.length c1)).setCell ⟨g3, 2, none⟩ (.slice AC C.length cC) → ∀ (Aq : Option Addr) (cq : Nat) (ask : List Int), Ro w Aq cq ask → St w W3 g3 A0 c0 F A1 c1 H AC cC C Aq cq ask := fun W3 e Aq cq ask hq => by
      subst e
      have hg3 := blk_lt BK3.out
      have hB : Below w.heap.size w (((w4.setCell ⟨g3, 0, none⟩ (.slice A0 F.length c0)).setCell ⟨g3, 1, none⟩ (.slice A1 H.length c1)).setCell ⟨g3, 2, none⟩ (.slice AC C.length cC)) := below_set (below_set (below_set HB4.out HG3.out) HG3.out) HG3.out
      refine ⟨HA4.out _ (fun k hk => ?_), blk_put (blk_put (blk_put BK4.out 0 _ rfl) 1 _ rfl) 2 _ rfl, hq.below hB, hB⟩
      have hne : k ≠ g3 := by
        have := HG3.out
        rcases hk with hk | hk <;> omega
      rw [Below.heap_setCell _ ⟨g3, 2, none⟩ _ k hne, Below.heap_setCell _ ⟨g3, 1, none⟩ _ k hne, Below.heap_setCell _ ⟨g3, 0, none⟩ _ k hne]
    have HKEY := Aside0.mk KEY
    clear KEY
    by_cases hc : (l2.length : Int) > 40
    · have hd1 : decide ((40 : Int) < (l2.length : Int)) = true := decide_eq_true (by omega)
      have hd2 : decide (40 < l2.length) = true := decide_eq_true (by omega)
      obtain ⟨i0, hi0, _, hsz, _⟩ := info_parts info3
      obtain ⟨hcut, hA, hCt⟩ := print_take_of (P := Try.prog) (Value.int .i64) 0 23 3 .i64 Try.underlying23 hi0 hsz A2 c2 l2 40 (by omega) (by omega) HQ.out.2
      have hrd := Kd.C_of_reads (h1 := fun _ => rfl) (hA _ (Kd.reads_of_C HQ.out.1))
      obtain ⟨y, hy⟩ : ∃ y, y = l2.take 40 := ⟨_, rfl⟩
      simp only [show (40 : Int).toNat = 40 from rfl, ← hy] at hcut hrd hCt
      have hyl : y.length * 8 ≤ 140737488351232 := by rw [hy, List.length_take]; have := HK.out; omega
      have HY := Aside0.mk (show Ro w A2 c2 y from ⟨hrd, hCt⟩)
      have HYL := Aside0.mk hyl
      have h40 : ((40 : Int) ≤ (l2.length : Int)) = True := eq_true (by omega)
      clear hrd hCt hA hy hyl hi0 hsz hmax hc
      rw [hd1]
      go_wp2
      go_meet
      case rel => exact ⟨A2, c2, y, rfl, HYL, ⟨HKEY.out _ rfl _ _ _ HY.out⟩⟩
    · have hd1 : decide ((40 : Int) < (l2.length : Int)) = false := decide_eq_false (by omega)
      have hd2 : decide (40 < l2.length) = false := decide_eq_false (by omega)
      clear hmax hc
      rw [hd1]
      go_wp2
      go_meet
      case rel => exact ⟨A2, c2, l2, rfl, HK, ⟨HKEY.out _ rfl _ _ _ HQ.out⟩⟩
  case rest =>
    obtain ⟨Aq, cq, ask, rfl, HK2, HS⟩ := hcut
    clear HK HA HQ HB HA4 BK3 BK4 HB3 HB4 HG3
    have n1 : (chk F H C != chk F H C) = false := bne_self_eq_false _
    have n2 : ((oo F H C).2 != (oo F H C).2) = false := bne_self_eq_false _
    obtain ⟨z0, z1, z2⟩ := HS.out.cells
    go_upto_region 8 with (first
      | (go_at_call 24; with_reducible refine (cChk HS.out.acc).mono ?_; rintro e w5 ⟨rfl, hb⟩; have HS5 := Aside0.mk (HS.out.below hb); clear hb; obtain ⟨z5_0, z5_1, z5_2⟩ := HS5.out.cells)
      | (go_at_call 26; with_reducible refine (cOwn HFHC.out.1 HFHC.out.2.1 HFHC.out.2.2 HS5.out.acc).mono ?_; rintro e w6 ⟨B0, d0, B1, d1, B2, d2, rfl, HO6, hb⟩; have HS6 := Aside0.mk (HS5.out.below hb); clear hb)
      | (go_at_call 25; with_reducible refine (cOrder HO6.out).mono ?_; rintro e w7 ⟨Al, cl, rfl, HL7, hb⟩; have HS7 := Aside0.mk (HS6.out.below hb); clear hb; obtain ⟨z7_0, z7_1, z7_2⟩ := HS7.out.cells)
      | (go_at_call 26; with_reducible refine (cOwn HFHC.out.1 HFHC.out.2.1 HFHC.out.2.2 HS7.out.acc).mono ?_; rintro e w8 ⟨B3, d3, B4, d4, B5, d5, rfl, HO8, hb⟩; have HS8 := Aside0.mk (HS7.out.below hb); have HL8 := Aside0.mk (HL7.out.below hb); clear hb)
      | (go_at_call 27; with_reducible refine (cPChk HO8.out).mono ?_; rintro e w9 ⟨rfl, hb⟩; have HS9 := Aside0.mk (HS8.out.below hb); have HL9 := Aside0.mk (HL8.out.below hb); clear hb; obtain ⟨z9_0, z9_1, z9_2⟩ := HS9.out.cells)
      | (go_at_call 26; with_reducible refine (cOwn HFHC.out.1 HFHC.out.2.1 HFHC.out.2.2 HS9.out.acc).mono ?_; rintro e w10 ⟨B6, d6, B7, d7, B8, d8, rfl, HO10, hb⟩; have HS10 := Aside0.mk (HS9.out.below hb); have HL10 := Aside0.mk (HL9.out.below hb); clear hb)
      | (go_at_call 28; with_reducible refine (cSafe HO10.out).mono ?_; rintro e w11 ⟨rfl, hb⟩; have HS11 := Aside0.mk (HS10.out.below hb); have HL11 := Aside0.mk (HL10.out.below hb); clear hb; obtain ⟨z11_0, z11_1, z11_2⟩ := HS11.out.cells))
    go_cut [10, 11] (fun v10 v11 wc => ∃ (Bl : Option Addr) (cb : Nat), v10 = .slice Bl (lv F H C a1).length cb ∧ v11 = .bool (grv F H C a1 ask) ∧ Aside0 (St w wc g3 A0 c0 F A1 c1 H AC cC C Aq cq ask) ∧ Aside0 (Ro wc Al cl (oo F H C).1) ∧ Aside0 (Ro wc Bl cb (lv F H C a1)))
    case first =>
      have KB : Aside0 (∀ W' W2 : World, W'.cell? ⟨g3, 0, none⟩ = some (.slice A0 F.length c0) ∧ W'.cell? ⟨g3, 1, none⟩ = some (.slice A1 H.length c1) ∧ W'.cell? ⟨g3, 2, none⟩ = some (.slice AC C.length cC) ∧ St w W' g3 A0 c0 F A1 c1 H AC cC C Aq cq ask ∧ Ro W' Al cl (oo F H C).1 → Below W'.heap.size W' W2 → W2.cell? ⟨g3, 0, none⟩ = some (.slice A0 F.length c0) ∧ W2.cell? ⟨g3, 1, none⟩ = some (.slice A1 H.length c1) ∧ W2.cell? ⟨g3, 2, none⟩ = some (.slice AC C.length cC) ∧ St w W2 g3 A0 c0 F A1 c1 H AC cC C Aq cq ask ∧ Ro W2 Al cl (oo F H C).1) := ⟨fun W' W2 h hb => ⟨(h.2.2.2.1.below hb).cells.1, (h.2.2.2.1.below hb).cells.2.1, (h.2.2.2.1.below hb).cells.2.2, h.2.2.2.1.below hb, h.2.2.2.2.below hb⟩⟩
      have KA : Aside0 (∀ (W' : World) (o : Obj), W'.cell? ⟨g3, 0, none⟩ = some (.slice A0 F.length c0) ∧ W'.cell? ⟨g3, 1, none⟩ = some (.slice A1 H.length c1) ∧ W'.cell? ⟨g3, 2, none⟩ = some (.slice AC C.length cC) ∧ St w W' g3 A0 c0 F A1 c1 H AC cC C Aq cq ask ∧ Ro W' Al cl (oo F H C).1 → (W'.alloc o).cell? ⟨g3, 0, none⟩ = some (.slice A0 F.length c0) ∧ (W'.alloc o).cell? ⟨g3, 1, none⟩ = some (.slice A1 H.length c1) ∧ (W'.alloc o).cell? ⟨g3, 2, none⟩ = some (.slice AC C.length cC) ∧ St w (W'.alloc o) g3 A0 c0 F A1 c1 H AC cC C Aq cq ask ∧ Ro (W'.alloc o) Al cl (oo F H C).1) := ⟨fun W' o h => KB.out _ _ h (below_alloc (Below.refl _ _) o)⟩
      have KD : Aside0 (∀ (W' : World), W'.cell? ⟨g3, 0, none⟩ = some (.slice A0 F.length c0) ∧ W'.cell? ⟨g3, 1, none⟩ = some (.slice A1 H.length c1) ∧ W'.cell? ⟨g3, 2, none⟩ = some (.slice AC C.length cC) ∧ St w W' g3 A0 c0 F A1 c1 H AC cC C Aq cq ask ∧ Ro W' Al cl (oo F H C).1 → W'.drew.cell? ⟨g3, 0, none⟩ = some (.slice A0 F.length c0) ∧ W'.drew.cell? ⟨g3, 1, none⟩ = some (.slice A1 H.length c1) ∧ W'.drew.cell? ⟨g3, 2, none⟩ = some (.slice AC C.length cC) ∧ St w W'.drew g3 A0 c0 F A1 c1 H AC cC C Aq cq ask ∧ Ro W'.drew Al cl (oo F H C).1) := ⟨fun W' h => KB.out _ _ h (below_drew (Below.refl _ _))⟩
      have SC : w11.cell? ⟨g3, 0, none⟩ = some (.slice A0 F.length c0) ∧ w11.cell? ⟨g3, 1, none⟩ = some (.slice A1 H.length c1) ∧ w11.cell? ⟨g3, 2, none⟩ = some (.slice AC C.length cC) ∧ St w w11 g3 A0 c0 F A1 c1 H AC cC C Aq cq ask ∧ Ro w11 Al cl (oo F H C).1 := ⟨HS11.out.cells.1, HS11.out.cells.2.1, HS11.out.cells.2.2, HS11.out, HL11.out⟩
      have D26 : Aside0 (∀ W' : World, W'.cell? ⟨g3, 0, none⟩ = some (.slice A0 F.length c0) ∧ W'.cell? ⟨g3, 1, none⟩ = some (.slice A1 H.length c1) ∧ W'.cell? ⟨g3, 2, none⟩ = some (.slice AC C.length cC) ∧ St w W' g3 A0 c0 F A1 c1 H AC cC C Aq cq ask ∧ Ro W' Al cl (oo F H C).1 → Calls Try.prog 26 #[.agg #[.slice A0 F.length c0, .slice A1 H.length c1, .slice AC C.length cC]] W' fun e W2 => ∃ B0 d0 B1 d1 B2 d2, e = .returned (.agg #[.slice B0 F.length d0, .slice B1 H.length d1, .slice B2 C.length d2]) ∧ Aside0 (At W2 B0 d0 F B1 d1 H B2 d2 C) ∧ Aside0 (W2.cell? ⟨g3, 0, none⟩ = some (.slice A0 F.length c0) ∧ W2.cell? ⟨g3, 1, none⟩ = some (.slice A1 H.length c1) ∧ W2.cell? ⟨g3, 2, none⟩ = some (.slice AC C.length cC) ∧ St w W2 g3 A0 c0 F A1 c1 H AC cC C Aq cq ask ∧ Ro W2 Al cl (oo F H C).1) ∧ Aside0 (Below W'.heap.size W' W2)) := ⟨fun W' h => (cOwn HFHC.out.1 HFHC.out.2.1 HFHC.out.2.2 h.2.2.2.1.acc).mono fun e W2 ⟨B0, d0, B1, d1, B2, d2, he, ho, hb⟩ => ⟨B0, d0, B1, d1, B2, d2, he, ho, ⟨KB.out _ _ h hb⟩, ⟨hb⟩⟩⟩
      have D29 : Aside0 (∀ (W' : World) B0 d0 B1 d1 B2 d2, W'.cell? ⟨g3, 0, none⟩ = some (.slice A0 F.length c0) ∧ W'.cell? ⟨g3, 1, none⟩ = some (.slice A1 H.length c1) ∧ W'.cell? ⟨g3, 2, none⟩ = some (.slice AC C.length cC) ∧ St w W' g3 A0 c0 F A1 c1 H AC cC C Aq cq ask ∧ Ro W' Al cl (oo F H C).1 → At W' B0 d0 F B1 d1 H B2 d2 C → Calls Try.prog 29 #[.agg #[.slice B0 F.length d0, .slice B1 H.length d1, .slice B2 C.length d2], .int .i64 a1] W' fun e W2 => ∃ Bl cb, e = .returned (.slice Bl (lv F H C a1).length cb) ∧ Aside0 (Ro W2 Bl cb (lv F H C a1)) ∧ Aside0 (W2.cell? ⟨g3, 0, none⟩ = some (.slice A0 F.length c0) ∧ W2.cell? ⟨g3, 1, none⟩ = some (.slice A1 H.length c1) ∧ W2.cell? ⟨g3, 2, none⟩ = some (.slice AC C.length cC) ∧ St w W2 g3 A0 c0 F A1 c1 H AC cC C Aq cq ask ∧ Ro W2 Al cl (oo F H C).1) ∧ Aside0 (Below W'.heap.size W' W2)) := ⟨fun W' B0 d0 B1 d1 B2 d2 h ha => (cLeft ha a1).mono fun e W2 ⟨Bl, cb, he, hl, hb⟩ => ⟨Bl, cb, he, hl, ⟨KB.out _ _ h hb⟩, ⟨hb⟩⟩⟩
      have D30 : Aside0 (∀ (W' : World) B0 d0 B1 d1 B2 d2 Ar cr, W'.cell? ⟨g3, 0, none⟩ = some (.slice A0 F.length c0) ∧ W'.cell? ⟨g3, 1, none⟩ = some (.slice A1 H.length c1) ∧ W'.cell? ⟨g3, 2, none⟩ = some (.slice AC C.length cC) ∧ St w W' g3 A0 c0 F A1 c1 H AC cC C Aq cq ask ∧ Ro W' Al cl (oo F H C).1 → At W' B0 d0 F B1 d1 H B2 d2 C → Ro W' Ar cr ask → Calls Try.prog 30 #[.agg #[.slice B0 F.length d0, .slice B1 H.length d1, .slice B2 C.length d2], .int .i64 a1, .slice Ar ask.length cr] W' fun e W2 => e = .returned (.bool (grv F H C a1 ask)) ∧ Aside0 (W2.cell? ⟨g3, 0, none⟩ = some (.slice A0 F.length c0) ∧ W2.cell? ⟨g3, 1, none⟩ = some (.slice A1 H.length c1) ∧ W2.cell? ⟨g3, 2, none⟩ = some (.slice AC C.length cC) ∧ St w W2 g3 A0 c0 F A1 c1 H AC cC C Aq cq ask ∧ Ro W2 Al cl (oo F H C).1) ∧ Aside0 (Below W'.heap.size W' W2)) := ⟨fun W' B0 d0 B1 d1 B2 d2 Ar cr h ha hq => (cGrants ha a1 hq (by have := HK2.out; omega)).mono fun e W2 ⟨he, hb⟩ => ⟨he, ⟨KB.out _ _ h hb⟩, ⟨hb⟩⟩⟩
      have DR : Aside0 (∀ W' : World, W'.cell? ⟨g3, 0, none⟩ = some (.slice A0 F.length c0) ∧ W'.cell? ⟨g3, 1, none⟩ = some (.slice A1 H.length c1) ∧ W'.cell? ⟨g3, 2, none⟩ = some (.slice AC C.length cC) ∧ St w W' g3 A0 c0 F A1 c1 H AC cC C Aq cq ask ∧ Ro W' Al cl (oo F H C).1 → Ro W' Aq cq ask) := ⟨fun W' h => h.2.2.2.1.asks⟩
      have hAl : ∀ W' : World, W'.cell? ⟨g3, 0, none⟩ = some (.slice A0 F.length c0) ∧ W'.cell? ⟨g3, 1, none⟩ = some (.slice A1 H.length c1) ∧ W'.cell? ⟨g3, 2, none⟩ = some (.slice AC C.length cC) ∧ St w W' g3 A0 c0 F A1 c1 H AC cC C Aq cq ask ∧ Ro W' Al cl (oo F H C).1 → w.heap.size ≤ W'.heap.size := fun W' h => h.2.2.2.1.bel.size
      have HAl := Aside0.mk hAl
      clear hAl
      go_region_held3 (fun W' => W'.cell? ⟨g3, 0, none⟩ = some (.slice A0 F.length c0) ∧ W'.cell? ⟨g3, 1, none⟩ = some (.slice A1 H.length c1) ∧ W'.cell? ⟨g3, 2, none⟩ = some (.slice AC C.length cC) ∧ St w W' g3 A0 c0 F A1 c1 H AC cC C Aq cq ask ∧ Ro W' Al cl (oo F H C).1) (with_reducible first | exact SC | exact KD.out _ SC | exact S12.out | exact S13.out | exact S14.out | exact S16.out | exact KB.out _ _ (by assumption) hb15 | exact KA.out _ _ S12.out | exact KA.out _ _ S13.out | exact KA.out _ _ S14.out | exact KA.out _ _ (KD.out _ SC) | exact KD.out _ (KA.out _ _ SC) | exact KA.out _ _ SC | (exact KA.out _ _ (by assumption)) | (exact KD.out _ (by assumption))) (first
        | (go_at_call 26; have q13_ := L13; clear q13_; with_reducible refine (D26.out _ (by assumption)).mono ?_; rintro e w14 ⟨B3, d3, B4, d4, B5, d5, rfl, O14, S14, b14⟩; (first | have L14 := Aside0.mk (L13.out.below b14.out) | have L14 := Aside0.mk ((L13.out.below (below_alloc (Below.refl _ _) _)).below b14.out)))
        | (go_at_call 26; with_reducible refine (D26.out _ (by assumption)).mono ?_; rintro e w12 ⟨B0, d0, B1, d1, B2, d2, rfl, O12, S12, b12⟩)
        | (go_at_call 29; with_reducible refine (D29.out _ _ _ _ _ _ _ (by assumption) (by first | exact O12.out | exact O12.out.below (below_alloc (Below.refl _ _) _))).mono ?_; rintro e w13 ⟨Bl, cb, rfl, L13, S13, b13⟩)
        | (rw [if_pos (by simp [Region.wanted])]; (first | (refine wp_app0 (g := w14.heap.size) (A := Aq) (c := cq) (l := ask) (.tmp 52) (.tmp 53) rfl (by first | (simp [Act.eval, Act.put]; done) | fail "HS") (by first | (simp [Act.eval, Act.put]; done) | fail "HX") (DR.out _ (by assumption)) HK2.out ?_) | (refine wp_app0 (g := w13.heap.size) (A := Aq) (c := cq) (l := ask) (.tmp 52) (.tmp 53) rfl (by first | (simp [Act.eval, Act.put]; done) | fail "HS") (by first | (simp [Act.eval, Act.put]; done) | fail "HX") (DR.out _ (by assumption)) HK2.out ?_) | (refine wp_app0 (g := w12.heap.size) (A := Aq) (c := cq) (l := ask) (.tmp 52) (.tmp 53) rfl (by first | (simp [Act.eval, Act.put]; done) | fail "HS") (by first | (simp [Act.eval, Act.put]; done) | fail "HX") (DR.out _ (by assumption)) HK2.out ?_) | (refine wp_app0 (g := w11.heap.size) (A := Aq) (c := cq) (l := ask) (.tmp 52) (.tmp 53) rfl (by first | (simp [Act.eval, Act.put]; done) | fail "HS") (by first | (simp [Act.eval, Act.put]; done) | fail "HX") (DR.out _ (by assumption)) HK2.out ?_)); intro Ar cr w15 hR15 hb15)
        | (go_at_call 30; with_reducible refine (D30.out _ _ _ _ _ _ _ _ _ ?hj ?ho hR15).mono ?_; (case hj => assumption); (case ho => first | exact O14.out.below hb15 | exact (O14.out.below (below_alloc (Below.refl _ _) _)).below hb15); rintro e w16 ⟨rfl, S16, b16⟩))
      all_goals
        go_step
        first | go_meet | (go_step; go_meet)
        case rel => exact ⟨Bl, cb, rfl, rfl, ⟨S16.out.2.2.2.1⟩, ⟨S16.out.2.2.2.2⟩, ⟨by first | exact (L14.out.below hb15).below b16.out | exact ((L14.out.below (below_alloc (Below.refl _ _) _)).below hb15).below b16.out⟩⟩
    case rest =>
      obtain ⟨Bl, cb, rfl, rfl, HSr, HLr, HBl⟩ := hcut
      clear HL7 HL8 HL9 HL10 HL11 HS5 HS6 HS7 HS8 HS9 HS10 HS11 HO6 HO8 HO10 HS
      by_cases c : chk F H C = 0
      · have ok := chk_ok c
        have HOK := Aside0.mk ok
        have hm64 := ok.2.1
        have HM64 := Aside0.mk hm64
        clear ok hm64
        have e0 : oo F H C = outO H.length (ord F H C) := by unfold oo; rw [if_pos c]
        have HE0 := Aside0.mk e0
        rw [c, e0]
        clear e0
        obtain ⟨y0, y1, y2⟩ := HSr.out.cells
        by_cases cl2 : (ord F H C).length = H.length
        · have e5 : outO H.length (ord F H C) = (lI (ord F H C), true) := by unfold outO; rw [if_pos cl2]
          have D32 : Aside0 (∀ W' : World, At W' A0 c0 F A1 c1 H AC cC C → Calls Try.prog 32 #[.agg #[.slice A0 F.length c0, .slice A1 H.length c1, .slice AC C.length cC]] W' fun e W2 => ∃ Am cm, e = .returned (.tuple #[.slice Am (lI (ord F H C)).length cm, .bool true]) ∧ Aside0 (Ro W2 Am cm (lI (ord F H C))) ∧ Below W'.heap.size W' W2) := ⟨fun W' h => by
            have q := cROrder HOK.out h
            rw [decide_eq_true cl2] at q
            exact q⟩
          rw [e5]
          rw [HE0.out, e5] at HLr
          have hl3 : (lI (ord F H C)).length < 4611686018427387904 := by rw [lI_len]; have := ord_chain (F := F) (H := H) (C := C) |>.1.len; have := HM64.out; omega
          have HL3 := Aside0.mk hl3
          clear e5 hl3
          go_upto_region 14 with (first
            | (go_at_call 32; with_reducible refine (D32.out _ HSr.out.acc).mono ?_; rintro e w18 ⟨Am, cm, rfl, HM18, hb⟩; have HS18 := Aside0.mk (HSr.out.below hb); have HL18 := Aside0.mk (HLr.out.below hb); have HB18 := Aside0.mk (HBl.out.below hb); clear hb)
            | (go_at_call 33; with_reducible refine (cSame HL3.out HL18.out HM18.out).mono ?_; rintro e w19 ⟨rfl, hd⟩; obtain ⟨⟨n19, rfl⟩⟩ := hd))
          have HSX := Aside0.mk (HS18.out.below (pw_below_drewN (Below.refl _ _) n19))
          obtain ⟨x0, x1, x2⟩ := HSX.out.cells
          by_cases hw : a1 < 0 ∨ (H.length : Int) ≤ a1
          · have e2 : lv F H C a1 = [] := by unfold lv; rw [if_neg (fun h => by omega)]
            have e3 : grv F H C a1 ask = false := by unfold grv; rw [if_neg (fun h => by have := h.2.1; have := h.2.2.1; omega)]
            rw [e2, e3]
            clear e2 e3 HBl HB18
            by_cases ha : a1 < 0
            · have n5 : decide (a1 < 0) = true := decide_eq_true ha
              go_wp2_with (go_at_call 31; with_reducible refine cLives.mono ?_; rintro e w20 ⟨rfl, hb⟩; have HB20 := Aside0.mk (HSX.out.below hb).bel)
              go_ret
              exact ⟨rfl, HB20.out⟩
            · have n5 : decide (a1 < 0) = false := decide_eq_false ha
              have n6 : decide ((H.length : Int) ≤ a1) = true := decide_eq_true (by omega)
              go_wp2_with (go_at_call 31; with_reducible refine cLives.mono ?_; rintro e w20 ⟨rfl, hb⟩; have HB20 := Aside0.mk (HSX.out.below hb).bel)
              go_ret
              exact ⟨rfl, HB20.out⟩
          · have n5 : decide (a1 < 0) = false := decide_eq_false (by omega)
            have n6 : decide ((H.length : Int) ≤ a1) = false := decide_eq_false (by omega)
            obtain ⟨i, rfl⟩ : ∃ i : Nat, a1 = (i : Int) := ⟨a1.toNat, by omega⟩
            have HI := Aside0.mk (show i < H.length by omega)
            have HBX := Aside0.mk (HB18.out.below (pw_below_drewN (Below.refl _ _) n19))
            go_upto_region 17 with (go_at_call 34; with_reducible refine (cGiven HOK.out HSX.out.acc (i : Int) HSX.out.asks).mono ?_; rintro e w21 ⟨G0, k0, G1, k1, G2, k2, rfl, HG21, hb⟩; have HS21 := Aside0.mk (HSX.out.below hb); have HB21 := Aside0.mk (HBX.out.below hb); clear hb)
            have OKB : OkA (giv F H C (i : Int) ask).1 (giv F H C (i : Int) ask).2.1 (giv F H C (i : Int) ask).2.2.1 := by
              unfold giv
              split
              · rename_i hM
                rw [Int.toNat_natCast]
                exact given_ok HOK.out HI.out (fun k hk => by have := hM.2.2.2 k hk; rw [Int.toNat_natCast] at this; exact this)
              · exact HOK.out
            have HOB := Aside0.mk OKB
            clear OKB
            have HS22 := Aside0.mk (HS21.out.below (below_alloc (Below.refl _ _) (.cells #[.slice G0 (giv F H C (i : Int) ask).1.length k0, .slice G1 (giv F H C (i : Int) ask).2.1.length k1, .slice G2 (giv F H C (i : Int) ask).2.2.1.length k2] 55 (0, 0))))
            have HB22 := Aside0.mk (HB21.out.below (below_alloc (Below.refl _ _) (.cells #[.slice G0 (giv F H C (i : Int) ask).1.length k0, .slice G1 (giv F H C (i : Int) ask).2.1.length k1, .slice G2 (giv F H C (i : Int) ask).2.2.1.length k2] 55 (0, 0))))
            have HG22 := Aside0.mk (HG21.out.below (below_alloc (Below.refl _ _) (.cells #[.slice G0 (giv F H C (i : Int) ask).1.length k0, .slice G1 (giv F H C (i : Int) ask).2.1.length k1, .slice G2 (giv F H C (i : Int) ask).2.2.1.length k2] 55 (0, 0))))
            obtain ⟨t0, t1, t2⟩ := claim_Grants.box3 (blk_new w21 (.cells #[.slice G0 (giv F H C (i : Int) ask).1.length k0, .slice G1 (giv F H C (i : Int) ask).2.1.length k1, .slice G2 (giv F H C (i : Int) ask).2.2.1.length k2] 55 (0, 0)))
            go_upto_region 18 with (go_at_call 32; with_reducible refine (cROrder HOB.out HG22.out).mono ?_; rintro e w23 ⟨M0, j0, rfl, HM23, hb⟩; have HS23 := Aside0.mk (HS22.out.below hb); have HB23 := Aside0.mk (HB22.out.below hb); clear hb)
            have e2 : lv F H C (i : Int) = lf F H C i := by unfold lv; rw [if_pos ⟨c, by omega, by have := HI.out; omega⟩, Int.toNat_natCast]
            have e7 : grv F H C (i : Int) ask = ((giv F H C (i : Int) ask).2.2.2 && decide ((ord (giv F H C (i : Int) ask).1 (giv F H C (i : Int) ask).2.1 (giv F H C (i : Int) ask).2.2.1).length = (giv F H C (i : Int) ask).2.1.length)) := by
              by_cases hM : May F H C (i : Int) ask
              · have eg : giv F H C (i : Int) ask = (gF F ask, gH F H (i : Int).toNat ask, C, true) := by unfold giv; rw [if_pos hM]
                have el : (gH F H (i : Int).toNat ask).length = H.length := by simp [gH]
                rw [eg]
                unfold grv
                rw [if_pos ⟨c, hM⟩]
                simp only [el, Bool.true_and]
              · have eg : giv F H C (i : Int) ask = (F, H, C, false) := by unfold giv; rw [if_neg hM]
                rw [eg]
                unfold grv
                rw [if_neg (fun h => hM h.2)]
                rfl
            have hl9 : (lf F H C i).length < 4611686018427387904 := by simp only [lf, vec_len]; have := HOK.out.2.2.1; omega
            have HL9 := Aside0.mk hl9
            clear hl9
            rw [e2] at HB23
            rw [e2, e7]
            clear e2 e7
            generalize (giv F H C (i : Int) ask).2.2.2 = bM
            generalize decide ((ord (giv F H C (i : Int) ask).1 (giv F H C (i : Int) ask).2.1 (giv F H C (i : Int) ask).2.2.1).length = (giv F H C (i : Int) ask).2.1.length) = bS
            obtain ⟨r0, r1, r2⟩ := HS23.out.cells
            clear HS21 HS22 HB21 HB22 HG21 HG22 HM23 HSX HBX HB18 HL18 HM18 HS18 HBl HLr HSr t0 t1 t2 HOB
            cases bM <;> cases bS
            all_goals
              go_wp2_with (first
                | (go_at_call 35; with_reducible refine (cRLeft HOK.out HS23.out.acc HI.out).mono ?_; rintro e w24 ⟨Y0, y9, rfl, HY24, hb⟩; have HS24 := Aside0.mk (HS23.out.below hb); have HB24 := Aside0.mk (HB23.out.below hb); clear hb)
                | (go_at_call 33; with_reducible refine (cSame HL9.out HB24.out HY24.out).mono ?_; rintro e w25 ⟨rfl, hd⟩; obtain ⟨⟨n25, rfl⟩⟩ := hd)
                | (go_at_call 31; with_reducible refine cLives.mono ?_; rintro e w26 ⟨rfl, hb⟩; have HB26 := Aside0.mk ((HS24.out.below (pw_below_drewN (Below.refl _ _) n25)).below hb).bel))
              go_ret
              exact ⟨rfl, HB26.out⟩
        · have e5 : outO H.length (ord F H C) = ([], false) := by unfold outO; rw [if_neg cl2]
          have D32 : Aside0 (∀ W' : World, At W' A0 c0 F A1 c1 H AC cC C → Calls Try.prog 32 #[.agg #[.slice A0 F.length c0, .slice A1 H.length c1, .slice AC C.length cC]] W' fun e W2 => ∃ Am cm, e = .returned (.tuple #[.slice Am (lI (ord F H C)).length cm, .bool false]) ∧ Aside0 (Ro W2 Am cm (lI (ord F H C))) ∧ Below W'.heap.size W' W2) := ⟨fun W' h => by
            have q := cROrder HOK.out h
            rw [decide_eq_false cl2] at q
            exact q⟩
          rw [e5]
          rw [HE0.out, e5] at HLr
          have hl3 : (lI (ord F H C)).length < 4611686018427387904 := by rw [lI_len]; have := ord_chain (F := F) (H := H) (C := C) |>.1.len; have := HM64.out; omega
          have HL3 := Aside0.mk hl3
          clear e5 hl3
          go_upto_region 14 with (first
            | (go_at_call 32; with_reducible refine (D32.out _ HSr.out.acc).mono ?_; rintro e w18 ⟨Am, cm, rfl, HM18, hb⟩; have HS18 := Aside0.mk (HSr.out.below hb); have HL18 := Aside0.mk (HLr.out.below hb); have HB18 := Aside0.mk (HBl.out.below hb); clear hb)
            | (go_at_call 33; with_reducible refine (cSame HL3.out HL18.out HM18.out).mono ?_; rintro e w19 ⟨rfl, hd⟩; obtain ⟨⟨n19, rfl⟩⟩ := hd))
          have HSX := Aside0.mk (HS18.out)
          obtain ⟨x0, x1, x2⟩ := HSX.out.cells
          by_cases hw : a1 < 0 ∨ (H.length : Int) ≤ a1
          · have e2 : lv F H C a1 = [] := by unfold lv; rw [if_neg (fun h => by omega)]
            have e3 : grv F H C a1 ask = false := by unfold grv; rw [if_neg (fun h => by have := h.2.1; have := h.2.2.1; omega)]
            rw [e2, e3]
            clear e2 e3 HBl HB18
            by_cases ha : a1 < 0
            · have n5 : decide (a1 < 0) = true := decide_eq_true ha
              go_wp2_with (go_at_call 31; with_reducible refine cLives.mono ?_; rintro e w20 ⟨rfl, hb⟩; have HB20 := Aside0.mk (HSX.out.below hb).bel)
              go_ret
              exact ⟨rfl, HB20.out⟩
            · have n5 : decide (a1 < 0) = false := decide_eq_false ha
              have n6 : decide ((H.length : Int) ≤ a1) = true := decide_eq_true (by omega)
              go_wp2_with (go_at_call 31; with_reducible refine cLives.mono ?_; rintro e w20 ⟨rfl, hb⟩; have HB20 := Aside0.mk (HSX.out.below hb).bel)
              go_ret
              exact ⟨rfl, HB20.out⟩
          · have n5 : decide (a1 < 0) = false := decide_eq_false (by omega)
            have n6 : decide ((H.length : Int) ≤ a1) = false := decide_eq_false (by omega)
            obtain ⟨i, rfl⟩ : ∃ i : Nat, a1 = (i : Int) := ⟨a1.toNat, by omega⟩
            have HI := Aside0.mk (show i < H.length by omega)
            have HBX := Aside0.mk (HB18.out)
            go_upto_region 17 with (go_at_call 34; with_reducible refine (cGiven HOK.out HSX.out.acc (i : Int) HSX.out.asks).mono ?_; rintro e w21 ⟨G0, k0, G1, k1, G2, k2, rfl, HG21, hb⟩; have HS21 := Aside0.mk (HSX.out.below hb); have HB21 := Aside0.mk (HBX.out.below hb); clear hb)
            have OKB : OkA (giv F H C (i : Int) ask).1 (giv F H C (i : Int) ask).2.1 (giv F H C (i : Int) ask).2.2.1 := by
              unfold giv
              split
              · rename_i hM
                rw [Int.toNat_natCast]
                exact given_ok HOK.out HI.out (fun k hk => by have := hM.2.2.2 k hk; rw [Int.toNat_natCast] at this; exact this)
              · exact HOK.out
            have HOB := Aside0.mk OKB
            clear OKB
            have HS22 := Aside0.mk (HS21.out.below (below_alloc (Below.refl _ _) (.cells #[.slice G0 (giv F H C (i : Int) ask).1.length k0, .slice G1 (giv F H C (i : Int) ask).2.1.length k1, .slice G2 (giv F H C (i : Int) ask).2.2.1.length k2] 55 (0, 0))))
            have HB22 := Aside0.mk (HB21.out.below (below_alloc (Below.refl _ _) (.cells #[.slice G0 (giv F H C (i : Int) ask).1.length k0, .slice G1 (giv F H C (i : Int) ask).2.1.length k1, .slice G2 (giv F H C (i : Int) ask).2.2.1.length k2] 55 (0, 0))))
            have HG22 := Aside0.mk (HG21.out.below (below_alloc (Below.refl _ _) (.cells #[.slice G0 (giv F H C (i : Int) ask).1.length k0, .slice G1 (giv F H C (i : Int) ask).2.1.length k1, .slice G2 (giv F H C (i : Int) ask).2.2.1.length k2] 55 (0, 0))))
            obtain ⟨t0, t1, t2⟩ := claim_Grants.box3 (blk_new w21 (.cells #[.slice G0 (giv F H C (i : Int) ask).1.length k0, .slice G1 (giv F H C (i : Int) ask).2.1.length k1, .slice G2 (giv F H C (i : Int) ask).2.2.1.length k2] 55 (0, 0)))
            go_upto_region 18 with (go_at_call 32; with_reducible refine (cROrder HOB.out HG22.out).mono ?_; rintro e w23 ⟨M0, j0, rfl, HM23, hb⟩; have HS23 := Aside0.mk (HS22.out.below hb); have HB23 := Aside0.mk (HB22.out.below hb); clear hb)
            have e2 : lv F H C (i : Int) = lf F H C i := by unfold lv; rw [if_pos ⟨c, by omega, by have := HI.out; omega⟩, Int.toNat_natCast]
            have e7 : grv F H C (i : Int) ask = ((giv F H C (i : Int) ask).2.2.2 && decide ((ord (giv F H C (i : Int) ask).1 (giv F H C (i : Int) ask).2.1 (giv F H C (i : Int) ask).2.2.1).length = (giv F H C (i : Int) ask).2.1.length)) := by
              by_cases hM : May F H C (i : Int) ask
              · have eg : giv F H C (i : Int) ask = (gF F ask, gH F H (i : Int).toNat ask, C, true) := by unfold giv; rw [if_pos hM]
                have el : (gH F H (i : Int).toNat ask).length = H.length := by simp [gH]
                rw [eg]
                unfold grv
                rw [if_pos ⟨c, hM⟩]
                simp only [el, Bool.true_and]
              · have eg : giv F H C (i : Int) ask = (F, H, C, false) := by unfold giv; rw [if_neg hM]
                rw [eg]
                unfold grv
                rw [if_neg (fun h => hM h.2)]
                rfl
            have hl9 : (lf F H C i).length < 4611686018427387904 := by simp only [lf, vec_len]; have := HOK.out.2.2.1; omega
            have HL9 := Aside0.mk hl9
            clear hl9
            rw [e2] at HB23
            rw [e2, e7]
            clear e2 e7
            generalize (giv F H C (i : Int) ask).2.2.2 = bM
            generalize decide ((ord (giv F H C (i : Int) ask).1 (giv F H C (i : Int) ask).2.1 (giv F H C (i : Int) ask).2.2.1).length = (giv F H C (i : Int) ask).2.1.length) = bS
            obtain ⟨r0, r1, r2⟩ := HS23.out.cells
            clear HS21 HS22 HB21 HB22 HG21 HG22 HM23 HSX HBX HB18 HL18 HM18 HS18 HBl HLr HSr t0 t1 t2 HOB
            cases bM <;> cases bS
            all_goals
              go_wp2_with (first
                | (go_at_call 35; with_reducible refine (cRLeft HOK.out HS23.out.acc HI.out).mono ?_; rintro e w24 ⟨Y0, y9, rfl, HY24, hb⟩; have HS24 := Aside0.mk (HS23.out.below hb); have HB24 := Aside0.mk (HB23.out.below hb); clear hb)
                | (go_at_call 33; with_reducible refine (cSame HL9.out HB24.out HY24.out).mono ?_; rintro e w25 ⟨rfl, hd⟩; obtain ⟨⟨n25, rfl⟩⟩ := hd)
                | (go_at_call 31; with_reducible refine cLives.mono ?_; rintro e w26 ⟨rfl, hb⟩; have HB26 := Aside0.mk ((HS24.out.below (pw_below_drewN (Below.refl _ _) n25)).below hb).bel))
              go_ret
              exact ⟨rfl, HB26.out⟩
      · have e1 : oo F H C = ([], false) := by unfold oo; rw [if_neg c]
        have e2 : lv F H C a1 = [] := by unfold lv; rw [if_neg (fun h => c h.1)]
        have e3 : grv F H C a1 ask = false := by unfold grv; rw [if_neg (fun h => c h.1)]
        have n3 : (chk F H C != 0) = true := bne_iff_ne.mpr c
        have n4 : (chk F H C == 0) = false := beq_eq_false_iff_ne.mpr c
        rw [e1, e2, e3]
        clear e1 e2 e3 HLr HBl
        go_wp2_with (go_at_call 31; with_reducible refine cLives.mono ?_; rintro e w17 ⟨rfl, hb⟩; have HB17 := Aside0.mk (HSr.out.below hb).bel)
        go_ret
        exact ⟨rfl, HB17.out⟩
end Go.Proofs.Ytlggjacghemakaa.claimTellsW
