/- Of, All. Conditions: none. -/
import Derived.Test.YtakbhnfmimnbhaaLn6
namespace Go.Proofs.Ytakbhnfmimnbhaa.Ln
open Go.RowKit Go.Proofs.Ytakbhnfmimnbhaa.PLineRises Go.Proofs.YtakbhnfmimnbhaaW.PrintWords Go.Proofs.YtakbhnfmimnbhaaW.PrintLast Go.Proofs.YtakbhnfmimnbhaaW.PrintMore
open Tm (Chg TR Shp rSet rDrop)
set_option linter.unusedVariables false
set_option linter.unusedSimpArgs false

theorem rowb {b g : Nat} {w0 w : World} (hb : Below b w0 w) (hg : b ≤ g) (cs : Array Value) : Below b w0 (w.setRow g cs) :=
  hb.trans ⟨rfl, rfl, rfl, by simp [World.setRow], fun k hk => setRow_other w g k cs (by omega)⟩
section
variable {W W' : World} {base g n : Nat} {vl : Value} {last : Int} {ws : List S48} {m : List (Int × Int)} {S ok : Nat → Prop}
set_option maxHeartbeats 8000000 in
set_option maxRecDepth 100000 in
theorem of_no (h : Lm W base g vl last ws n m S ok) (hl : ws.length ≤ 1000) (t : Int) (hf : fnd ws t = none) : Calls Try.prog 13 #[.pointer (some ⟨g, 0, none⟩), .int .i64 t] W fun e w' => e = .returned (.tuple #[.agg #[.int .i64 0, .int .i64 0, .int .i64 0, .int .i64 0, .slice none 0 0, .int .i64 0, .int .i64 0, .int .i64 0, .int .i64 0, .int .u64 0], .bool false]) ∧ Below W.heap.size W w' := by
  have hu48 := Try.underlying48
  have HH := Aside0.mk h
  have HL := Aside0.mk hl
  have HF := Aside0.mk (show plc (fnd ws t) = -1 from by rw [hf]; rfl)
  clear h hl hf
  go_enter Try.func13, Try.ntmps13
  go_upto_region 3 with (first
    | (go_at_call 52; (refine (find_any (HH.out.below B1.out) (by have := HL.out; omega) t).mono ?_); rw [HF.out]; rintro e w2 ⟨rfl, hb⟩; have B2 := Aside0.mk hb; have X2 := Aside0.mk (blk_below X1.out hb); clear hb)
    | ((with_reducible refine gate_dst (N := 4) rfl ?_); refine box_event ?hg (N := 4) ?hd (cs := #[.int .i64 0, .int .i64 0, .int .i64 0, .int .i64 0, .slice none 0 0, .int .i64 0, .int .i64 0, .int .i64 0, .int .i64 0, .int .u64 0]) (t := 48) ?hr ?_; (case hd => rfl); (case hg => rfl); (case hr => first | (go_simp; done) | (go_simp; rfl)); intro gx hgx w1 hbox hb; have B1 := Aside0.mk hb; have X1 := Aside0.mk hbox; have G1 := Aside0.mk hgx; clear hbox hb hgx))
  go_wp2_with (refine wpList_store_row rfl 48 (.tmp 4) (.tmp 12) rfl gx _ rfl rfl 48 _ X2.out info48s rfl (by simp [Value.oneCell']) ?_)
  refine bodyPost_ret (results_ct rfl _ _ gx 48 #[.int .i64 0, .int .i64 0, .int .i64 0, .int .i64 0, .slice none 0 0, .int .i64 0, .int .i64 0, .int .i64 0, .int .i64 0, .int .u64 0] (0, 0) _ rfl (setRow_heap _ _ _ _ _ _ X2.out) Try.underlying48 rfl info48s) rfl ?_
  exact ⟨rfl, rowb (below_step B1.out B2.out) (by rw [G1.out]; exact Nat.le_refl _) _⟩
set_option maxHeartbeats 16000000 in
set_option maxRecDepth 100000 in
theorem of_yes (h : Lm W base g vl last ws n m S ok) (hl : ws.length ≤ 1000) (hok : ∀ i, i < ws.length → okA (wq ws i).f4) (t : Int) {i : Nat} (hf : fnd ws t = some i) : Calls Try.prog 13 #[.pointer (some ⟨g, 0, none⟩), .int .i64 t] W fun e w' => ∃ v4, e = .returned (.tuple #[wv (wq ws i) v4, .bool true]) ∧ Kd.R kW 99 w' W.heap.size (fun _ => True) v4 (wq ws i).f4 ∧ Below W.heap.size W w' := by
  have hu48 := Try.underlying48
  have hu37 := Try.underlying37
  have hu44 := Try.underlying44
  have hu38 := Try.underlying38
  have hlt := (fnd_lt hf).1
  have HF := Aside0.mk (show plc (fnd ws t) = (i : Int) from by rw [hf]; rfl)
  obtain ⟨A, c, rfl⟩ := Kd.R_slice h.rw
  obtain ⟨N, hN⟩ : ∃ N, N = ws.length := ⟨_, rfl⟩
  rw [← hN] at h
  have HH := Aside0.mk h
  have HL := Aside0.mk hl
  have HOK := Aside0.mk (hok i hlt)
  have HNN := Aside0.mk hN
  have HLT := Aside0.mk (show i < N by omega)
  obtain ⟨x, hx⟩ : ∃ x, x = wq ws i := ⟨_, rfl⟩
  rw [← hx] at HOK ⊢
  have HX := Aside0.mk hx
  have d1 : decide ((i : Int) < 0) = false := decide_eq_false (by omega)
  have p1 : (0 ≤ (i : Int)) = True := eq_true (by omega)
  have p2 : ((i : Int) < (N : Int)) = True := eq_true (by omega)
  clear h hl hf hok hlt hN hx
  unfold wv
  go_enter Try.func13, Try.ntmps13
  go_upto_region 2 with (first
    | (go_at_call 52; (refine (find_any (HH.out.below B1.out) (by have := HL.out; omega) t).mono ?_); rw [HF.out]; rintro e w2 ⟨rfl, hb⟩; have B2 := Aside0.mk hb; have X2 := Aside0.mk (blk_below X1.out hb); clear hb)
    | ((with_reducible refine gate_dst (N := 4) rfl ?_); refine box_event ?hg (N := 4) ?hd (cs := #[.int .i64 0, .int .i64 0, .int .i64 0, .int .i64 0, .slice none 0 0, .int .i64 0, .int .i64 0, .int .i64 0, .int .i64 0, .int .u64 0]) (t := 48) ?hr ?_; (case hd => rfl); (case hg => rfl); (case hr => first | (go_simp; done) | (go_simp; rfl)); intro gx hgx w1 hbox hb; have B1 := Aside0.mk hb; have X1 := Aside0.mk hbox; have G1 := Aside0.mk hgx; clear hbox hb hgx))
  have HB2 := Aside0.mk (below_step B1.out B2.out)
  have H2 := Aside0.mk (HH.out.below HB2.out)
  have hw := at_w (Kd.R_reads' H2.out.rw).2.2 (i := i) (by have := HLT.out; have := HNN.out; omega)
  rw [← HX.out] at hw
  obtain ⟨ad, A4, c4, ea, hw, hl4, hc4⟩ := hw
  subst ea
  have yl := H2.out.cl
  obtain ⟨n4, hn4⟩ : ∃ n4, n4 = x.f4.length := ⟨_, rfl⟩
  rw [← hn4] at hw
  have HOW := Aside0.mk (own_any (w := w2) (A := A4) (n := n4) (c := c4) x hn4 hc4 hl4 HOK.out)
  unfold wv at HOW
  have y0 := hw.c0
  have y1 := hw.c1
  have y2 := hw.c2
  have y3 := hw.c3
  have y4 := hw.c4
  have y5 := hw.c5
  have y6 := hw.c6
  have y7 := hw.c7
  have y8 := hw.c8
  have y9 := hw.c9
  clear hw hl4 hc4 hn4
  go_wp2_with (first
    | (go_at_call 53; (refine HOW.out.mono ?_); rintro e w3 ⟨v4, rfl, ho, hb⟩; have O3 := Aside0.mk ho; have B3 := Aside0.mk hb; have X3 := Aside0.mk (blk_below X2.out hb); clear ho hb)
    | (refine wpList_store_row rfl 48 (.tmp 4) (.tmp 20) rfl gx _ rfl rfl 48 _ X3.out info48s rfl (by obtain ⟨A5, c5, e5⟩ := Kd.S_slice O3.out; rw [e5]; simp [Value.oneCell']) ?_))
  refine bodyPost_ret (results_ct rfl _ _ gx 48 #[.int .i64 x.f0, .int .i64 x.f1, .int .i64 x.f2, .int .i64 x.f3, v4, .int .i64 x.f5, .int .i64 x.f6, .int .i64 x.f7, .int .i64 x.f8, .int .u64 x.f9] (0, 0) _ rfl (setRow_heap _ _ _ _ _ _ X3.out) Try.underlying48 rfl info48s) rfl ?_
  have hgx : gx < w2.heap.size := blk_lt X2.out
  refine ⟨v4, rfl, ?_, rowb (below_step HB2.out B3.out) (by rw [G1.out]; exact Nat.le_refl _) _⟩
  exact Kd.R_mono (Kd.R_step (Kd.R_lower (Kd.R_bound (Kd.S_R O3.out)) HB2.out.size) (fun k hk _ => setRow_other w3 gx k _ (by have h1 : w2.heap.size ≤ k := hk.2.1; rintro rfl; omega))) (fun _ _ => trivial)
set_option maxHeartbeats 16000000 in
set_option maxRecDepth 100000 in
theorem all_any (h : Lm W base g vl last ws n m S ok) (hl : ws.length ≤ 1000) (hok : ∀ i, i < ws.length → okA (wq ws i).f4) : Calls Try.prog 18 #[.pointer (some ⟨g, 0, none⟩)] W fun e w' => ∃ v, e = .returned v ∧ k48.R 48 w' W.heap.size (fun k => W.heap.size ≤ k) v ws ∧ Below W.heap.size W w' := by
  have hu48 := Try.underlying48
  have hu37 := Try.underlying37
  have hu44 := Try.underlying44
  have hu38 := Try.underlying38
  obtain ⟨A, c, rfl⟩ := Kd.R_slice h.rw
  obtain ⟨N, hN⟩ : ∃ N, N = ws.length := ⟨_, rfl⟩
  rw [← hN] at h
  have HH := Aside0.mk h
  have HL := Aside0.mk hl
  have HOK := Aside0.mk hok
  have HNN := Aside0.mk hN
  have y0 := h.cl
  clear h hl hok hN
  go_enter Try.func18, Try.ntmps18
  go_upto_block 0 with (fail)
  clear y0
  go_wp2
  go_loopg [3, 13] N (fun kq v3 v13 w' => ∃ (i : Nat), v13 = .int .i64 (i : Int) ∧ Aside0 (i + kq = N) ∧ Aside0 (k48.R 48 w' W.heap.size (fun k => W.heap.size ≤ k) v3 (ws.take i)) ∧ Aside0 (Below W.heap.size W w'))
  case atStart => exact ⟨0, rfl, ⟨by omega⟩, ⟨by rw [List.take_zero]; exact Kd.R_nil _ _ _ _ _⟩, ⟨Below.refl _ _⟩⟩
  case round =>
    obtain ⟨i, rfl, HK, HR, HB⟩ := hrel
    rcases gk with _ | k1
    · have d1 : decide ((i : Int) < (N : Int)) = false := decide_eq_false (by have := HK.out; omega)
      have d2 : decide (i < N) = false := decide_eq_false (by have := HK.out; omega)
      have HE := Aside0.mk (show ws.take i = ws from List.take_of_length_le (by have := HK.out; have := HNN.out; omega))
      go_wp2
      go_ret
      exact ⟨_, rfl, by rw [← HE.out]; exact HR.out, HB.out⟩
    · have hil : i < N := by have := HK.out; omega
      have HIL := Aside0.mk (show i < ws.length from by rw [← HNN.out]; exact hil)
      have d1 : decide ((i : Int) < (N : Int)) = true := decide_eq_true (by omega)
      have d2 : decide (i < N) = true := decide_eq_true hil
      have q1 : (0 ≤ (i : Int)) = True := eq_true (by omega)
      have q2 : ((i : Int) < (N : Int)) = True := eq_true (by omega)
      have ew : Aside0 (wrap64 ((i : Int) + 1) = (i : Int) + 1) := ⟨by have h2 := HIL.out; have h3 := HL.out; unfold wrap64; omega⟩
      have hw := at_w (Kd.R_reads' (HH.out.below HB.out).rw).2.2 (i := i) HIL.out
      obtain ⟨x, hx⟩ : ∃ x, x = wq ws i := ⟨_, rfl⟩
      have HX := Aside0.mk hx
      have HOKX := Aside0.mk (show okA x.f4 from by rw [hx]; exact HOK.out i HIL.out)
      rw [← hx] at hw
      obtain ⟨ad, A4, c4, ea, hw, hl4, hc4⟩ := hw
      subst ea
      obtain ⟨n4, hn4⟩ : ∃ n4, n4 = x.f4.length := ⟨_, rfl⟩
      rw [← hn4] at hw
      have HN4 := Aside0.mk hn4
      have HC4 := Aside0.mk hc4
      have HL4 := Aside0.mk hl4
      have y0 := hw.c0
      have y1 := hw.c1
      have y2 := hw.c2
      have y3 := hw.c3
      have y4 := hw.c4
      have y5 := hw.c5
      have y6 := hw.c6
      have y7 := hw.c7
      have y8 := hw.c8
      have y9 := hw.c9
      have HTK := Aside0.mk (show ws.take (i + 1) = ws.take i ++ [x] from by
        rw [List.take_add_one, List.getElem?_eq_getElem HIL.out, hx, wq_el ws HIL.out]
        rfl)
      clear hw hl4 hc4 hn4 hx hil
      go_upto_region 6 with (first
        | ((with_reducible refine gate_dst (N := 5) rfl ?_); refine box_event ?hg (N := 5) ?hd (cs := #[.int .i64 0, .int .i64 0, .int .i64 0, .int .i64 0, .slice none 0 0, .int .i64 0, .int .i64 0, .int .i64 0, .int .i64 0, .int .u64 0]) (t := 48) ?hr ?_; (case hd => rfl); (case hg => rfl); (case hr => first | (go_simp; done) | (go_simp; rfl)); intro gx hgx w1 hbox hb; have B1 := Aside0.mk hb; have X1 := Aside0.mk hbox; have G1 := Aside0.mk hgx; clear hbox hb hgx)
        | (refine wpList_store_row rfl 48 (.tmp 5) (.tmp 16) rfl gx _ rfl rfl 48 _ X1.out info48s rfl (by simp [Value.oneCell']) ?_))
      clear y0 y1 y2 y3 y4 y5 y6 y7 y8 y9 d1 d2 q1 q2
      have X2 := Aside0.mk (setRow_heap w1 gx _ #[.int .i64 x.f0, .int .i64 x.f1, .int .i64 x.f2, .int .i64 x.f3, .slice A4 n4 c4, .int .i64 x.f5, .int .i64 x.f6, .int .i64 x.f7, .int .i64 x.f8, .int .u64 x.f9] _ _ X1.out)
      have B2 := Aside0.mk (show Below wr.heap.size wr (w1.setRow gx #[.int .i64 x.f0, .int .i64 x.f1, .int .i64 x.f2, .int .i64 x.f3, .slice A4 n4 c4, .int .i64 x.f5, .int .i64 x.f6, .int .i64 x.f7, .int .i64 x.f8, .int .u64 x.f9]) from rowb B1.out (by rw [G1.out]; exact Nat.le_refl _) _)
      clear X1 B1 G1
      generalize w1.setRow gx #[.int .i64 x.f0, .int .i64 x.f1, .int .i64 x.f2, .int .i64 x.f3, .slice A4 n4 c4, .int .i64 x.f5, .int .i64 x.f6, .int .i64 x.f7, .int .i64 x.f8, .int .u64 x.f9] = w2 at *
      have HOW := Aside0.mk (own_any (w := w2) (A := A4) (n := n4) (c := c4) x HN4.out (Kd.C_below HC4.out B2.out) HL4.out HOKX.out)
      unfold wv at HOW
      have HB2 := Aside0.mk (HB.out.trans (B2.out.mono HB.out.size))
      have HR2 := Aside0.mk (Kd.R_below HR.out B2.out)
      go_upto_region 7 with (first
        | (refine wpList_load_row rfl 48 (.tmp 5) rfl gx rfl 48 _ (0, 0) _ X2.out Try.underlying48 rfl info48s ?_)
        | (go_at_call 53; (refine HOW.out.mono ?_); rintro e w3 ⟨v4, rfl, ho, hb⟩; obtain ⟨A5, c5, rfl⟩ := Kd.S_slice ho; have O3 := Aside0.mk ho; have B3 := Aside0.mk hb; clear ho hb
           obtain ⟨A9, c9, w9, hrn, hR9, hg9⟩ := w_snoc (W := w3.alloc (.cells #[.int .i64 x.f0, .int .i64 x.f1, .int .i64 x.f2, .int .i64 x.f3, .slice A5 x.f4.length c5, .int .i64 x.f5, .int .i64 x.f6, .int .i64 x.f7, .int .i64 x.f8, .int .u64 x.f9] 48)) (base := W.heap.size) (b := w3.heap.size) (ok := fun k => W.heap.size ≤ k) (okp := fun k => w2.heap.size ≤ k) (p := x) (cs := [.int .i64 x.f0, .int .i64 x.f1, .int .i64 x.f2, .int .i64 x.f3, .slice A5 x.f4.length c5, .int .i64 x.f5, .int .i64 x.f6, .int .i64 x.f7, .int .i64 x.f8, .int .u64 x.f9]) (Kd.R_alloc (Kd.R_below HR2.out B3.out) _) (Nat.le_trans (Nat.le_trans HB2.out.size B3.out.size) (Rn.alloc_le _ _)) (by rw [List.length_take]; have := HL.out; omega)
             (k48_mkM _ W.heap.size (fun k => w2.heap.size ≤ k) x (Kd.R_lower (Kd.R_alloc (Kd.R_mono (Kd.R_bound (Kd.S_R O3.out)) (fun k hk => hk.2.1)) _) HB2.out.size)) (fun k hk => ⟨Nat.le_trans HB2.out.size hk, fun e => by have h1 := Kd.R_lt HR2.out k e.symm; omega⟩) (fun k hk => Nat.le_trans HB2.out.size (Nat.le_trans B3.out.size (Nat.le_trans (Rn.alloc_le _ _) hk))) (blk_new _ _)
           have HR9 := Aside0.mk hR9; have HB9 := Aside0.mk (show Below W.heap.size W w9 from ((HB2.out.trans (B3.out.mono HB2.out.size)).alloc (Nat.le_trans HB2.out.size B3.out.size) _).grown hg9 (Nat.le_trans (Nat.le_trans HB2.out.size B3.out.size) (Rn.alloc_le _ _)) (fun k hk => Kd.R_base HR2.out k hk)); clear hR9 hg9)
        | (at_builtin; refine Rn.list_run rfl (.tmp 17) (.tmp 20) 38 38 rfl _ _ _ rfl rfl hrn ?_))
      clear hrn
      go_wp2
      go_roundg k1
      case measure => omega
      case rel => exact ⟨i + 1, by rw [ew.out]; simp, ⟨by have := HK.out; omega⟩, ⟨by rw [HTK.out]; have h9 := HR9.out; rw [List.length_take] at h9; exact h9⟩, HB9⟩
end
end Go.Proofs.Ytakbhnfmimnbhaa.Ln
