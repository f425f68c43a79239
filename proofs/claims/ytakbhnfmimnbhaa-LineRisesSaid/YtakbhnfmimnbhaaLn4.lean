/- Add. Conditions: none. -/
import Derived.Test.YtakbhnfmimnbhaaLn3
import Derived.Test.YtakbhnfmimnbhaaLnR
namespace Go.Proofs.Ytakbhnfmimnbhaa.Ln
open Go.RowKit Go.Proofs.Ytakbhnfmimnbhaa.PLineRises Go.Proofs.YtakbhnfmimnbhaaW.PrintWords Go.Proofs.YtakbhnfmimnbhaaW.PrintLast Go.Proofs.YtakbhnfmimnbhaaW.PrintMore
open Tm (Chg TR Shp okId rSet)
open Rn (RdC)
set_option linter.unusedVariables false
set_option linter.unusedSimpArgs false

theorem info48 : (Try.prog.info? 48).map (fun i => (i.zero, i.size, i.bytes)) = some (some (.agg #[.int .i64 0, .int .i64 0, .int .i64 0, .int .i64 0, .slice none 0 0, .int .i64 0, .int .i64 0, .int .i64 0, .int .i64 0, .int .u64 0]), 10, 96) := by kernel_rfl
theorem info48s : (Try.prog.info? 48).map (·.size) = some 10 := by kernel_rfl
theorem al_cell {W : World} {a : Addr} {v : Value} (h : W.cell? a = some v) (o : Obj) : (W.alloc o).cell? a = some v := ((below_alloc (Below.refl _ _) o).cell (World.block_lt_of_cell? _ _ h)).trans h
theorem al_blk48 {V : World} {g : Nat} {o : Obj} (h : V.heap[g]? = some o) (o2 : Obj) : (V.alloc o2).heap[g]? = some o := blk_below h (below_alloc (Below.refl _ _) _)
theorem ex_load48 {oi : Oper} {a : Act} {w : World} {g : Nat} {x : Operand} {cs : Array Value} (ho : oi.op = .load 48 x) (hx : a.eval x = .pointer (some ⟨g, 0, none⟩)) (hg : w.heap[g]? = some (.cells cs 48 (0, 0))) (hs : cs.size = 10) : (execOp a.eval oi).run Try.prog w = .ok (.value (.agg cs)) w := by
  unfold execOp
  simp only [ho, hx, Instr.loadAt, Instr.sureAddr, Sem.run_bind, Sem.run_pure, Result.andThen_ok, run_loadVar_row w g 48 48 _ (0, 0) _ hg Try.underlying48 rfl (by rw [hs]; exact info48s)]
theorem row_size (w : World) (g : Nat) (cs : Array Value) : (w.setRow g cs).heap.size = w.heap.size := by simp [World.setRow]
theorem cell_size (w : World) (p : Addr) (v : Value) : (w.setCell p v).heap.size = w.heap.size := by simp [World.setCell]
theorem chg_row {S : Nat → Prop} {w w' : World} {g : Nat} (h : Chg S w w') (hg : S g ∨ w.heap.size ≤ g) (cs : Array Value) : Chg S w (w'.setRow g cs) :=
  ⟨h.os, h.tape, h.output, by simpa [World.setRow] using h.size, fun k hk hs => (setRow_other w' g k cs (by rintro rfl; rcases hg with q | q; exact hs q; omega)).trans (h.block k hk hs)⟩
/-- append of one waiter whose nested rows are okp's. -/
theorem w_snoc {W : World} {base b : Nat} {vl : Value} {ws : List S48} {ok okp : Nat → Prop} {p : S48} {cs : List Value} (h : k48.R 48 W base ok vl ws) (hb : base ≤ W.heap.size) (hl : ws.length ≤ 100000) (hp : k48.M W base okp p cs) (hokp : ∀ k, okp k → ok k ∧ some k ≠ vl.ownBlock) (hfresh : ∀ k, W.heap.size ≤ k → ok k) (hx : W.heap[b]? = some (.cells cs.toArray 48 (0, 0))) : ∃ A9 c9 w9, (Builtin.append_ #[38, 38] 38 #[vl, .slice (some ⟨b, 0, none⟩) 1 1]).run Try.prog W = .ok (.slice A9 (ws.length + 1) c9) w9 ∧ k48.R 48 w9 base ok (.slice A9 (ws.length + 1) c9) (ws ++ [p]) ∧ W.grownBy w9 vl.ownBlock := by
  obtain ⟨h0, inner, hown, hr⟩ := h
  obtain ⟨v1, w9, hrn, hown1, hg1, hat1⟩ := Rn.app_any (P := Try.prog) (ty := 38) (W := W) base 38 48 10 96 _ Try.underlying38 info48 rfl (by decide) (by decide) vl ws.length inner cs (some ⟨b, 0, none⟩) 1 1 hown ⟨k48.K_len (k48.K_of_M hp), fun _ => ⟨_, rfl, fun j q hj => by rw [add_plain]; exact (blk_cell hx j).trans (by rw [List.getElem?_toArray]; exact hj)⟩⟩ (k48.K_one (k48.K_of_M hp)) hb (by omega) (fun _ => rfl)
  have hR := Kd.R_appended (d := k48) h0 hr hp hokp hfresh hown1 hg1 (hat1.imp id fun q => ⟨_, q, Nat.le_refl _⟩)
  obtain ⟨A9, c9, rfl⟩ := own_slice hown1
  exact ⟨A9, c9, w9, hrn, hR, hg1⟩
section
variable {W W' : World} {base g n : Nat} {vl : Value} {last : Int} {ws : List S48} {m : List (Int × Int)} {S ok : Nat → Prop}
theorem Lm.gok (h : Lm W base g vl last ws n m S ok) : S g ∧ base ≤ g ∧ ∀ k, ok k → k ≠ g := by
  obtain ⟨h1, h2, _⟩ := h.tr.blk
  exact ⟨h1, h2, fun k hk e => h.ap k hk (e ▸ h1)⟩
/-- The last ticket anew. -/
theorem Lm.setLast (h : Lm W base g vl last ws n m S ok) (L : Int) : Lm (W.setCell ⟨g, 3, none⟩ (.int .i64 L)) base g vl L ws n m S ok :=
  ⟨h.tr.reshape (sh' := shL vl L) (fun v mm hb => blk_put (show W.heap[g]? = some (.cells #[vl, v, mm, .int .i64 last] 44 (0, 0)) from hb) 3 _ rfl) (fun k hk => Below.heap_setCell W ⟨g, 3, none⟩ (.int .i64 L) k hk), Kd.R_far h.rw (fun k hk => h.gok.2.2 k hk) _, h.ap⟩
/-- Another row. -/
theorem Lm.setRow_ {ok2 : Nat → Prop} {vl2 : Value} {ws2 : List S48} (ht : TR (shL vl last) W base g n m S) (hr : k48.R 48 W base ok2 vl2 ws2) (hap : ∀ k, ok2 k → ¬ S k) : Lm (W.setCell ⟨g, 0, none⟩ vl2) base g vl2 last ws2 n m S ok2 :=
  ⟨ht.reshape (sh' := shL vl2 last) (fun v mm hb => blk_put (show W.heap[g]? = some (.cells #[vl, v, mm, .int .i64 last] 44 (0, 0)) from hb) 0 _ rfl) (fun k hk => Below.heap_setCell W ⟨g, 0, none⟩ vl2 k hk), Kd.R_far hr (fun k hk e => hap k hk (by rw [e]; exact ht.blk.1)) _, hap⟩
theorem Lm.far (h : Lm W base g vl last ws n m S ok) {p : Addr} (h1 : ¬ S p.block) (h2 : ¬ ok p.block) (u : Value) : Lm (W.setCell p u) base g vl last ws n m S ok :=
  h.kept (S2 := fun k => k = p.block) ((Chg.refl (fun k => k = p.block) W).set_ (p := p) (.inl rfl) u) (fun k hk e => h1 (e ▸ hk)) (fun k hk e => h2 (e ▸ hk))
theorem Lm.cut (h : Lm W base g vl last ws n m S ok) : Lm W base g vl last ws n m S (fun k => ok k ∧ k < W.heap.size) :=
  ⟨h.tr, Kd.R_mono (Kd.R_bound h.rw) (fun k hk => ⟨hk.1, hk.2.2.1⟩), fun k hk => h.ap k hk.1⟩
theorem Lm.rowf (h : Lm W base g vl last ws n m S ok) {gx : Nat} (h1 : ¬ S gx) (h2 : ¬ ok gx) (cs : Array Value) : Lm (W.setRow gx cs) base g vl last ws n m S ok :=
  h.kept (S2 := fun k => k = gx) (chg_row (Chg.refl (fun k => k = gx) W) (.inl rfl) cs) (fun k hk e => h1 (e ▸ hk)) (fun k hk e => h2 (e ▸ hk))
theorem tset (h : TR (shL vl last) W base g n m S) {id at_ : Int} (hid : 0 ≤ id ∧ id ≤ 100000000) (hm : m.length ≤ 200) (hn : n ≤ 1000000000) (hb : base ≤ W.heap.size) : Calls Try.prog 54 #[.pointer (some ⟨g, 1, none⟩), .int .i64 id, .int .i64 at_] W fun e w' => e = .returned (.tuple #[]) ∧ Aside0 (∃ S', TR (shL vl last) w' base g (n + 1000000) (rSet m id at_) S' ∧ ∀ k, S' k → S k ∨ W.heap.size ≤ k) ∧ Chg S W w' :=
  Tm.set_r h (Tm.wf_iff.2 (by omega)) hm hn hb
theorem tdrop (h : TR (shL vl last) W base g n m S) {id : Int} (hid : 0 ≤ id ∧ id ≤ 100000000) (hm : m.length ≤ 200) (hn : n ≤ 1000000000) : Calls Try.prog 56 #[.pointer (some ⟨g, 1, none⟩), .int .i64 id] W fun e w' => e = .returned (.bool (Tm.has m id)) ∧ Aside0 (∃ S', TR (shL vl last) w' base g (n + 1000000) (Tm.rDrop m id) S' ∧ ∀ k, S' k → S k ∨ W.heap.size ≤ k) ∧ Chg S W w' :=
  Tm.drop_r h (Tm.wf_iff.2 (by omega)) hm hn
/-- A waiter is let in. -/
def accB (ws : List S48) (t : Int) : Bool := decide (0 ≤ t) && decide (t < 64) && (fnd ws t).isNone
set_option maxHeartbeats 8000000 in
set_option maxRecDepth 100000 in
theorem add_no (h : Lm W base g vl last ws n m S ok) (hl : ws.length ≤ 100000) (x : S48) (A : Option Addr) (k c : Nat) (hno : accB ws x.f0 = false) : Calls Try.prog 14 #[.pointer (some ⟨g, 0, none⟩), wv x (.slice A k c)] W fun e w' => e = .returned (.int .i64 0) ∧ Below W.heap.size W w' := by
  have hu48 := Try.underlying48
  have hu37 := Try.underlying37
  have hu44 := Try.underlying44
  have HH := Aside0.mk h
  have HL := Aside0.mk hl
  unfold wv
  by_cases h0 : x.f0 < 0
  · have d1 : decide (x.f0 < 0) = true := decide_eq_true h0
    clear h hl hno h0
    go_enter Try.func14, Try.ntmps14
    go_upto_region 1 with (((with_reducible refine gate_dst (N := 3) rfl ?_); refine box_event ?hg (N := 3) ?hd (cs := #[.int .i64 x.f0, .int .i64 x.f1, .int .i64 x.f2, .int .i64 x.f3, .slice A k c, .int .i64 x.f5, .int .i64 x.f6, .int .i64 x.f7, .int .i64 x.f8, .int .u64 x.f9]) (t := 48) ?hr ?_; (case hd => rfl); (case hg => rfl); (case hr => first | (go_simp; done) | (go_simp; rfl)); intro gx hgx w1 hbox hb; have B1 := Aside0.mk hb; have X1 := Aside0.mk hbox; have G1 := Aside0.mk hgx; clear hbox hb hgx))
    have z0 : w1.cell? ⟨gx, 0, none⟩ = some (.int .i64 x.f0) := (blk_cell X1.out 0).trans rfl
    go_wp2
    go_ret
    exact ⟨rfl, B1.out⟩
  · have d1 : decide (x.f0 < 0) = false := decide_eq_false h0
    by_cases h6 : 64 ≤ x.f0
    · have d2 : decide (64 ≤ x.f0) = true := decide_eq_true h6
      clear h hl hno h0 h6
      go_enter Try.func14, Try.ntmps14
      go_upto_region 1 with (((with_reducible refine gate_dst (N := 3) rfl ?_); refine box_event ?hg (N := 3) ?hd (cs := #[.int .i64 x.f0, .int .i64 x.f1, .int .i64 x.f2, .int .i64 x.f3, .slice A k c, .int .i64 x.f5, .int .i64 x.f6, .int .i64 x.f7, .int .i64 x.f8, .int .u64 x.f9]) (t := 48) ?hr ?_; (case hd => rfl); (case hg => rfl); (case hr => first | (go_simp; done) | (go_simp; rfl)); intro gx hgx w1 hbox hb; have B1 := Aside0.mk hb; have X1 := Aside0.mk hbox; have G1 := Aside0.mk hgx; clear hbox hb hgx))
      have z0 : w1.cell? ⟨gx, 0, none⟩ = some (.int .i64 x.f0) := (blk_cell X1.out 0).trans rfl
      go_wp2
      go_ret
      exact ⟨rfl, B1.out⟩
    · have d2 : decide (64 ≤ x.f0) = false := decide_eq_false h6
      have d3 : decide (0 ≤ plc (fnd ws x.f0)) = true := by
        cases hf : fnd ws x.f0 with
        | some i => exact decide_eq_true (by simp [plc])
        | none =>
          unfold accB at hno
          rw [hf, decide_eq_true (by omega : 0 ≤ x.f0), decide_eq_true (by omega : x.f0 < 64)] at hno
          cases hno
      obtain ⟨pp, hpp⟩ : ∃ pp, pp = plc (fnd ws x.f0) := ⟨_, rfl⟩
      have HP := Aside0.mk hpp
      rw [← hpp] at d3
      clear h hl hno h0 h6 hpp
      go_enter Try.func14, Try.ntmps14
      go_upto_region 1 with (((with_reducible refine gate_dst (N := 3) rfl ?_); refine box_event ?hg (N := 3) ?hd (cs := #[.int .i64 x.f0, .int .i64 x.f1, .int .i64 x.f2, .int .i64 x.f3, .slice A k c, .int .i64 x.f5, .int .i64 x.f6, .int .i64 x.f7, .int .i64 x.f8, .int .u64 x.f9]) (t := 48) ?hr ?_; (case hd => rfl); (case hg => rfl); (case hr => first | (go_simp; done) | (go_simp; rfl)); intro gx hgx w1 hbox hb; have B1 := Aside0.mk hb; have X1 := Aside0.mk hbox; have G1 := Aside0.mk hgx; clear hbox hb hgx))
      have z0 : w1.cell? ⟨gx, 0, none⟩ = some (.int .i64 x.f0) := (blk_cell X1.out 0).trans rfl
      go_wp2_with (go_at_call 52; (refine (find_any (HH.out.below B1.out) HL.out x.f0).mono ?_); rw [← HP.out]; rintro e w2 ⟨rfl, hb⟩; have B2 := Aside0.mk hb; clear hb)
      go_ret
      exact ⟨rfl, below_step B1.out B2.out⟩
set_option maxHeartbeats 16000000 in
set_option maxRecDepth 100000 in
theorem add_yes {okx : Nat → Prop} {b2 : Nat} {av : Value} (h : Lm W base g vl last ws n m S ok) (hl : ws.length ≤ 100000) (x : S48) (hx : kW.R 99 W b2 okx av x.f4) (hxg : ∀ k, okx k → k ≠ g) (hxo : okA x.f4) (hyes : accB ws x.f0 = true) (hlast : 0 ≤ last ∧ last ≤ 1000000) (hm : m.length ≤ 200) (hn : n ≤ 1000000000) (hb : base ≤ W.heap.size) : Calls Try.prog 14 #[.pointer (some ⟨g, 0, none⟩), wv x av] W fun e w' => e = .returned (.int .i64 (last + 1)) ∧ (∃ vl' S' ok', Lm w' base g vl' (last + 1) (ws ++ [{ x with f2 := last + 1 }]) (n + 1000000) (if 0 ≤ x.f3 then rSet m (last + 1) x.f3 else m) S' ok' ∧ (∀ k, S' k → S k ∨ W.heap.size ≤ k) ∧ (∀ k, ok' k → ok k ∨ W.heap.size ≤ k)) ∧ Chg (fun k => S k ∨ ok k) W w' := by
  obtain ⟨Ax, cx, rfl⟩ := Kd.R_slice hx
  obtain ⟨ok0, hok0⟩ : ∃ ok0 : Nat → Prop, ok0 = fun k => ok k ∧ k < W.heap.size := ⟨_, rfl⟩
  replace h := h.cut
  rw [← hok0] at h
  have HO0 := Aside0.mk (show ∀ k, ok0 k → ok k ∧ k < W.heap.size from by rw [hok0]; exact fun k hk => hk)
  clear hok0
  have hu48 := Try.underlying48
  have hu37 := Try.underlying37
  have hu44 := Try.underlying44
  have hu38 := Try.underlying38
  have HH := Aside0.mk h
  have HL := Aside0.mk hl
  have HX := Aside0.mk hx
  have HXG := Aside0.mk hxg
  have HXO := Aside0.mk hxo
  have HLA := Aside0.mk hlast
  have HM := Aside0.mk hm
  have HN := Aside0.mk hn
  have HBS := Aside0.mk hb
  have hacc : 0 ≤ x.f0 ∧ x.f0 < 64 ∧ fnd ws x.f0 = none := by
    unfold accB at hyes
    simp only [Bool.and_eq_true, decide_eq_true_eq, Option.isNone_iff_eq_none] at hyes
    exact ⟨hyes.1.1, hyes.1.2, hyes.2⟩
  have d1 : decide (x.f0 < 0) = false := decide_eq_false (by omega)
  have d2 : decide (64 ≤ x.f0) = false := decide_eq_false (by omega)
  have HFN := Aside0.mk (show plc (fnd ws x.f0) = -1 from by rw [hacc.2.2]; rfl)
  obtain ⟨L, hL⟩ : ∃ L, L = last + 1 := ⟨_, rfl⟩
  rw [← hL]
  have HLL := Aside0.mk hL
  obtain ⟨xn, hxn⟩ : ∃ xn, xn = x.f4.length := ⟨_, rfl⟩
  rw [← hxn] at HX ⊢
  have HXN := Aside0.mk hxn
  have ewL : IntKind.i64.wrap (last + 1) = L := by rw [IntKind.wrap_i64, hL]; omega
  obtain ⟨m9, hm9⟩ : ∃ m9, m9 = (if 0 ≤ x.f3 then rSet m L x.f3 else m) := ⟨_, rfl⟩
  rw [← hm9]
  have HM9 := Aside0.mk hm9
  clear h hl hx hxg hxo hyes hlast hm hn hb hacc hL hxn hm9
  unfold wv
  go_enter Try.func14, Try.ntmps14
  go_upto_region 1 with (((with_reducible refine gate_dst (N := 3) rfl ?_); refine box_event ?hg (N := 3) ?hd (cs := #[.int .i64 x.f0, .int .i64 x.f1, .int .i64 x.f2, .int .i64 x.f3, .slice Ax xn cx, .int .i64 x.f5, .int .i64 x.f6, .int .i64 x.f7, .int .i64 x.f8, .int .u64 x.f9]) (t := 48) ?hr ?_; (case hd => rfl); (case hg => rfl); (case hr => first | (go_simp; done) | (go_simp; rfl)); intro gx hgx w1 hbox hb; have B1 := Aside0.mk hb; have X1 := Aside0.mk hbox; have G1 := Aside0.mk hgx; clear hbox hb hgx))
  have z0 : w1.cell? ⟨gx, 0, none⟩ = some (.int .i64 x.f0) := (blk_cell X1.out 0).trans rfl
  go_upto_region 3 with (go_at_call 52; (refine (find_any (HH.out.below B1.out) HL.out x.f0).mono ?_); rw [HFN.out]; rintro e w2 ⟨rfl, hb⟩; have B2 := Aside0.mk hb; clear hb)
  clear z0 d1 d2
  have HB2 := Aside0.mk (below_step B1.out B2.out)
  have H2 := Aside0.mk (HH.out.below HB2.out)
  have X2 := Aside0.mk (blk_below X1.out B2.out)
  have RX2 := Aside0.mk (Kd.R_below HX.out HB2.out)
  have GXG := Aside0.mk (show gx ≠ g from by have h1 := HH.out.lt; have h2 := G1.out; omega)
  have GXW := Aside0.mk (show W.heap.size ≤ gx from by rw [G1.out]; exact Nat.le_refl _)
  clear B1 B2 X1 G1
  have y3 := H2.out.clast
  have f3 := H2.out.fz 3
  go_upto_region 4 with (fail)
  clear y3 f3
  have H3 := Aside0.mk (H2.out.setLast L)
  have X3 := Aside0.mk (blk_far X2.out (p := ⟨g, 3, none⟩) GXG.out (.int .i64 L))
  have RX3 := Aside0.mk (Kd.R_far RX2.out (p := ⟨g, 3, none⟩) (fun k hk => HXG.out k hk) (.int .i64 L))
  have C3 := Aside0.mk (show Chg (fun k => S k ∨ ok0 k) W (w2.setCell ⟨g, 3, none⟩ (.int .i64 L)) from (Chg.of_below HB2.out).set_ (.inl (.inl HH.out.gok.1)) _)
  clear H2 X2 RX2 HB2
  generalize w2.setCell ⟨g, 3, none⟩ (.int .i64 L) = w3 at *
  have HOW := Aside0.mk (own_any (w := w3) (A := Ax) (n := xn) (c := cx) x HXN.out (Kd.R_reads' RX3.out).2.2 (by have := (Kd.R_reads' RX3.out).2.1; have := HXN.out; omega) HXO.out)
  unfold wv at HOW
  go_upto_region 5 with (first
    | (refine wpList_load_row rfl 48 (.tmp 3) rfl gx rfl 48 _ (0, 0) _ X3.out Try.underlying48 rfl info48s ?_)
    | (go_at_call 53; (refine HOW.out.mono ?_); rintro e w4 ⟨v4, rfl, ho, hb⟩; obtain ⟨A4, c4, rfl⟩ := Kd.S_slice ho; have O4 := Aside0.mk ho; have B4 := Aside0.mk hb; have X4 := Aside0.mk (blk_below X3.out hb); clear ho hb)
    | (refine wpList_store_row rfl 48 (.tmp 3) (.tmp 32) rfl gx _ rfl rfl 48 _ X4.out info48s rfl (by simp [Value.oneCell']) ?_))
  have GS := Aside0.mk (show ¬ S gx ∧ ¬ ok0 gx ∧ gx < w3.heap.size from ⟨fun q => by have h1 := HH.out.tr.lt gx q; have h2 := GXW.out; omega, fun q => by have h1 := (HO0.out gx q).2; have h2 := GXW.out; omega, blk_lt X3.out⟩)
  have H5 := Aside0.mk ((H3.out.below B4.out).rowf GS.out.1 GS.out.2.1 #[.int .i64 x.f0, .int .i64 x.f1, .int .i64 x.f2, .int .i64 x.f3, .slice A4 x.f4.length c4, .int .i64 x.f5, .int .i64 x.f6, .int .i64 x.f7, .int .i64 x.f8, .int .u64 x.f9])
  have X5 := Aside0.mk (setRow_heap w4 gx _ #[.int .i64 x.f0, .int .i64 x.f1, .int .i64 x.f2, .int .i64 x.f3, .slice A4 x.f4.length c4, .int .i64 x.f5, .int .i64 x.f6, .int .i64 x.f7, .int .i64 x.f8, .int .u64 x.f9] _ _ X4.out)
  have R5 := Aside0.mk (show kW.R 99 (w4.setRow gx #[.int .i64 x.f0, .int .i64 x.f1, .int .i64 x.f2, .int .i64 x.f3, .slice A4 x.f4.length c4, .int .i64 x.f5, .int .i64 x.f6, .int .i64 x.f7, .int .i64 x.f8, .int .u64 x.f9]) w3.heap.size (fun k => w3.heap.size ≤ k) (.slice A4 x.f4.length c4) x.f4 from Kd.R_step (Kd.R_mono (Kd.R_bound (Kd.S_R O4.out)) (fun k hk => hk.2.1)) (fun k hk _ => setRow_other w4 gx k _ (by have h1 := GS.out.2.2; rintro rfl; omega)))
  have C5 := Aside0.mk (show Chg (fun k => S k ∨ ok0 k) W (w4.setRow gx #[.int .i64 x.f0, .int .i64 x.f1, .int .i64 x.f2, .int .i64 x.f3, .slice A4 x.f4.length c4, .int .i64 x.f5, .int .i64 x.f6, .int .i64 x.f7, .int .i64 x.f8, .int .u64 x.f9]) from chg_row (C3.out.trans (Chg.of_below B4.out)) (.inr GXW.out) _)
  have Z5 := Aside0.mk (show w3.heap.size ≤ (w4.setRow gx #[.int .i64 x.f0, .int .i64 x.f1, .int .i64 x.f2, .int .i64 x.f3, .slice A4 x.f4.length c4, .int .i64 x.f5, .int .i64 x.f6, .int .i64 x.f7, .int .i64 x.f8, .int .u64 x.f9]).heap.size from by rw [row_size]; exact B4.out.size)
  clear X4 O4 B4 X3 RX3 HOW HX
  generalize w4.setRow gx #[.int .i64 x.f0, .int .i64 x.f1, .int .i64 x.f2, .int .i64 x.f3, .slice A4 x.f4.length c4, .int .i64 x.f5, .int .i64 x.f6, .int .i64 x.f7, .int .i64 x.f8, .int .u64 x.f9] = w4 at *
  have y3 := H5.out.clast
  have c2 := (blk_cell X5.out 2).trans rfl
  have f2 := blk_frozen X5.out 2
  go_upto_region 6 with (fail)
  clear y3 c2 f2
  have HL5 := Aside0.mk (show Lm ((w4.setCell ⟨gx, 2, none⟩ (.int .i64 L)).drew) base g vl L ws n m S ok0 from (H5.out.far (p := ⟨gx, 2, none⟩) GS.out.1 GS.out.2.1 _).below (below_drew (Below.refl _ _)))
  have XD := Aside0.mk (show ((w4.setCell ⟨gx, 2, none⟩ (.int .i64 L)).drew).heap[gx]? = some (.cells #[.int .i64 x.f0, .int .i64 x.f1, .int .i64 L, .int .i64 x.f3, .slice A4 x.f4.length c4, .int .i64 x.f5, .int .i64 x.f6, .int .i64 x.f7, .int .i64 x.f8, .int .u64 x.f9] 48 (0, 0)) from blk_put X5.out 2 (.int .i64 L) rfl)
  have R6 := Aside0.mk (show kW.R 99 ((w4.setCell ⟨gx, 2, none⟩ (.int .i64 L)).drew) w3.heap.size (fun k => w3.heap.size ≤ k) (.slice A4 x.f4.length c4) x.f4 from Kd.R_drew (Kd.R_far R5.out (p := ⟨gx, 2, none⟩) (fun k hk e => by have h1 := GS.out.2.2; have h2 : k = gx := e; omega) _))
  have C6 := Aside0.mk (show Chg (fun k => S k ∨ ok0 k) W ((w4.setCell ⟨gx, 2, none⟩ (.int .i64 L)).drew) from (C5.out.set_ (p := ⟨gx, 2, none⟩) (.inr GXW.out) _).drew)
  have Z6 := Aside0.mk (show w3.heap.size ≤ ((w4.setCell ⟨gx, 2, none⟩ (.int .i64 L)).drew).heap.size from by rw [show ((w4.setCell ⟨gx, 2, none⟩ (.int .i64 L)).drew).heap.size = w4.heap.size from cell_size _ _ _]; exact Z5.out)
  clear H5 X5 R5 C5 Z5
  generalize w4.setCell ⟨gx, 2, none⟩ (.int .i64 L) = w5 at *
  have WZ := Aside0.mk C3.out.size
  have VB := Aside0.mk (show ∀ k, vl.ownBlock = some k → ok0 k from fun k hk => HL5.out.rw.1 k hk)
  obtain ⟨A9, c9, w9, hrn, hR9, hg9⟩ := w_snoc (W := w5.drew.alloc (.cells #[.int .i64 x.f0, .int .i64 x.f1, .int .i64 L, .int .i64 x.f3, .slice A4 x.f4.length c4, .int .i64 x.f5, .int .i64 x.f6, .int .i64 x.f7, .int .i64 x.f8, .int .u64 x.f9] 48)) (base := base) (b := w5.drew.heap.size) (vl := vl) (ws := ws) (ok := fun k => ok0 k ∨ w3.heap.size ≤ k) (okp := fun k => w3.heap.size ≤ k) (p := { x with f2 := L }) (cs := [.int .i64 x.f0, .int .i64 x.f1, .int .i64 L, .int .i64 x.f3, .slice A4 x.f4.length c4, .int .i64 x.f5, .int .i64 x.f6, .int .i64 x.f7, .int .i64 x.f8, .int .u64 x.f9])
    (Kd.R_alloc (Kd.R_mono HL5.out.rw (fun k hk => .inl hk)) _) (Nat.le_trans (Nat.le_trans HBS.out WZ.out) (Nat.le_trans Z6.out (Rn.alloc_le _ _))) HL.out
    (k48_mkM _ base (fun k => w3.heap.size ≤ k) { x with f2 := L } (Kd.R_lower (Kd.R_alloc R6.out _) (Nat.le_trans HBS.out WZ.out)))
    (fun k hk => ⟨.inr hk, fun e => by have h1 := (HO0.out k (VB.out k e.symm)).2; have h2 := WZ.out; omega⟩) (fun k hk => .inr (by have h1 := Z6.out; have h2 := Rn.alloc_le w5.drew (.cells #[.int .i64 x.f0, .int .i64 x.f1, .int .i64 L, .int .i64 x.f3, .slice A4 x.f4.length c4, .int .i64 x.f5, .int .i64 x.f6, .int .i64 x.f7, .int .i64 x.f8, .int .u64 x.f9] 48); omega)) (blk_new _ _)
  obtain ⟨N9, hv9⟩ : ∃ N9, N9 = ws.length + 1 := ⟨_, rfl⟩
  rw [← hv9] at hrn hR9
  have R9 := Aside0.mk hR9
  have T9 := Aside0.mk (show TR (shL vl L) w9 base g n m S from (HL5.out.tr.below (below_alloc (Below.refl _ _) (.cells #[.int .i64 x.f0, .int .i64 x.f1, .int .i64 L, .int .i64 x.f3, .slice A4 x.f4.length c4, .int .i64 x.f5, .int .i64 x.f6, .int .i64 x.f7, .int .i64 x.f8, .int .u64 x.f9] 48))).kept (S2 := fun k => vl.ownBlock = some k) (Chg.grown hg9 (fun k hk => hk)) (fun k hk e => HL5.out.ap k (VB.out k e) hk))
  have HC6 := Aside0.mk (show w9.cell? ⟨g, 0, none⟩ = some vl from by
    obtain ⟨_, _, v, mm, hb⟩ := T9.out.blk
    exact (blk_cell (show w9.heap[g]? = some (.cells #[vl, v, mm, .int .i64 L] 44 (0, 0)) from hb) 0).trans rfl)
  have HX6 := Aside0.mk (show w9.heap[gx]? = some (.cells #[.int .i64 x.f0, .int .i64 x.f1, .int .i64 L, .int .i64 x.f3, .slice A4 x.f4.length c4, .int .i64 x.f5, .int .i64 x.f6, .int .i64 x.f7, .int .i64 x.f8, .int .u64 x.f9] 48 (0, 0)) from (hg9.block gx (Nat.lt_of_lt_of_le (blk_lt XD.out) (Rn.alloc_le _ _)) (fun e => GS.out.2.1 (VB.out gx e.symm))).trans (al_blk48 XD.out _))
  have C9 := Aside0.mk (show Chg (fun k => S k ∨ ok0 k) W w9 from (C6.out.alloc _).trans (Chg.grown hg9 (fun k hk => .inr (VB.out k hk))))
  have c0 := HC6.out
  have f0 : w9.frozen? ⟨g, 0, none⟩ = false := by
    obtain ⟨_, _, v, mm, hb⟩ := T9.out.blk
    exact blk_frozen hb 0
  clear hv9 hR9 hg9
  refine start_ (n := 11) (S := fun w' => w'.cell? ⟨g, 0, none⟩ = some vl ∧ w'.heap[gx]? = some (.cells #[.int .i64 x.f0, .int .i64 x.f1, .int .i64 L, .int .i64 x.f3, .slice A4 x.f4.length c4, .int .i64 x.f5, .int .i64 x.f6, .int .i64 x.f7, .int .i64 x.f8, .int .u64 x.f9] 48 (0, 0))) (ds := [10]) #[false, false, false, false, false, false, false, false, false, false, false] (by kernel_rfl) rfl rfl ⟨HL5.out.cl, XD.out⟩ (fun hHeld => ?_)
  refine pure_ (i := 0) (N := some 38) (v := ?_) (a' := ?_) #[true, false, false, false, false, false, false, false, false, false, false] rfl rfl (by kernel_rfl) (fun _ _ _ h => h) (Or.inl ⟨by rfl, ?_⟩) ?_ ?_
  rotate_left
  · intro w'
    go_simp
    with_reducible rfl
  rotate_left
  · simp only [Act.put, List.setIfInBounds_toArray, List.set_cons_zero, List.set_cons_succ, i64_w, i32_w]
    rfl
  refine pure_ (i := 1) (N := some 39) (v := ?_) (a' := ?_) #[true, true, false, false, false, false, false, false, false, false, false] rfl rfl (by kernel_rfl) (fun _ _ _ h => h) (Or.inl ⟨by rfl, ?_⟩) ?_ ?_
  rotate_left
  · intro w'
    go_simp
    with_reducible rfl
  rotate_left
  · simp only [Act.put, List.setIfInBounds_toArray, List.set_cons_zero, List.set_cons_succ, i64_w, i32_w]
    rfl
  refine pure_ (i := 2) (N := some 40) (v := ?_) (a' := ?_) #[true, true, true, false, false, false, false, false, false, false, false] rfl rfl (by kernel_rfl) (fun _ _ _ h => h) (Or.inl ⟨by rfl, ?_⟩) ?_ ?_
  rotate_left
  · intro w'
    go_simp
    with_reducible rfl
  rotate_left
  · simp only [Act.put, List.setIfInBounds_toArray, List.set_cons_zero, List.set_cons_succ, i64_w, i32_w]
    rfl
  refine pure_ (i := 3) (N := some 41) (v := ?_) (a' := ?_) #[true, true, true, true, false, false, false, false, false, false, false] rfl rfl (by kernel_rfl) (fun _ _ _ h => h) (Or.inl ⟨by rfl, ?_⟩) ?_ ?_
  rotate_left
  · intro w'
    go_simp
    with_reducible rfl
  rotate_left
  · simp only [Act.put, List.setIfInBounds_toArray, List.set_cons_zero, List.set_cons_succ, i64_w, i32_w]
    rfl
  refine take_ (i := 4) (N := some 42) (v := ?_) (a' := ?_) #[true, true, true, true, true, false, false, false, false, false, false] rfl rfl (by kernel_rfl) (fun _ _ _ h => h) (Or.inl ⟨by rfl, ?_⟩) hHeld ?_ ?_
  rotate_left
  · rintro w' ⟨s0, s1⟩
    go_simp
    with_reducible rfl
  rotate_left
  · simp only [Act.put, List.setIfInBounds_toArray, List.set_cons_zero, List.set_cons_succ, i64_w, i32_w]
    rfl
  refine take_ (i := 5) (N := some 43) (v := ?_) (a' := ?_) #[true, true, true, true, true, true, false, false, false, false, false] rfl rfl (by kernel_rfl) (fun _ _ _ h => h) (Or.inl ⟨by rfl, ?_⟩) hHeld ?_ ?_
  rotate_left
  · rintro w' ⟨s0, s1⟩
    (refine ex_load48 (x := .tmp 3) ?_ ?_ s1 rfl <;> first | (simp [Act.eval, Act.put]; done) | rfl)
  rotate_left
  · simp only [Act.put, List.setIfInBounds_toArray, List.set_cons_zero, List.set_cons_succ, i64_w, i32_w]
    rfl
  refine one_ (i := 6) (N := some 44) #[true, true, true, true, true, true, true, false, false, false, false] rfl rfl (by kernel_rfl) (by decide) (fun K hK => ?_)
  refine value_ (w1 := ?_) (v := ?_) (by rfl) rfl ?_ ?_
  rotate_left 2
  · go_simp
    constructor
    · rfl
    · rfl
  refine hK.out _ _ ⟨((al_cell HL5.out.cl _)), (al_blk48 XD.out _)⟩ (fun hHeld => ?_)
  clear hK K
  refine norm_ (a' := ?_) ?_ ?_
  rotate_left
  · show Act.put _ (some 44) _ = _
    simp only [Act.put, List.setIfInBounds_toArray, List.set_cons_zero, List.set_cons_succ, i64_w, i32_w]
    rfl
  refine one_ (i := 7) (N := some 45) #[true, true, true, true, true, true, true, true, false, false, false] rfl rfl (by kernel_rfl) (by decide) (fun K hK => ?_)
  refine Rn.step_run rfl (.tmp 42) (.tmp 44) 38 38 rfl _ _ _ (by simp [Act.eval, Act.put]) (by simp [Act.eval, Act.put]) hrn ?_
  refine hK.out _ _ ⟨HC6.out, HX6.out⟩ (fun hHeld => ?_)
  clear hK K
  refine norm_ (a' := ?_) ?_ ?_
  rotate_left
  · show Act.put _ (some 45) _ = _
    simp only [Act.put, List.setIfInBounds_toArray, List.set_cons_zero, List.set_cons_succ, i64_w, i32_w]
    rfl
  refine pure_ (i := 8) (N := some 46) (v := ?_) (a' := ?_) #[true, true, true, true, true, true, true, true, true, false, false] rfl rfl (by kernel_rfl) (fun _ _ _ h => h) (Or.inl ⟨by rfl, ?_⟩) ?_ ?_
  rotate_left
  · intro w'
    go_simp
    with_reducible rfl
  rotate_left
  · simp only [Act.put, List.setIfInBounds_toArray, List.set_cons_zero, List.set_cons_succ, i64_w, i32_w]
    rfl
  refine pure_ (i := 9) (N := some 47) (v := ?_) (a' := ?_) #[true, true, true, true, true, true, true, true, true, true, false] rfl rfl (by kernel_rfl) (fun _ _ _ h => h) (Or.inl ⟨by rfl, ?_⟩) ?_ ?_
  rotate_left
  · intro w'
    go_simp
    with_reducible rfl
  rotate_left
  · simp only [Act.put, List.setIfInBounds_toArray, List.set_cons_zero, List.set_cons_succ, i64_w, i32_w]
    rfl
  refine last_ (i := 10) (N := none) #[true, true, true, true, true, true, true, true, true, true, true] rfl rfl (by kernel_rfl) (by decide) (fun K hK => ?_)
  refine skip_ (w1 := ?_) (by rfl) rfl ?_ ?_
  rotate_left
  · go_simp
    rfl
  refine hK.out _ _ ?_
  clear hK K
  refine done_ (by kernel_rfl) ?_
  clear c0 f0 hrn
  have H10 := Aside0.mk (show Lm (w9.setCell ⟨g, 0, none⟩ (.slice A9 N9 c9)) base g (.slice A9 N9 c9) L (ws ++ [{ x with f2 := L }]) n m S (fun k => (ok0 k ∨ w3.heap.size ≤ k) ∧ k < w9.heap.size) from Lm.setRow_ T9.out (Kd.R_mono (Kd.R_bound R9.out) (fun k hk => ⟨hk.1, hk.2.2.1⟩)) (fun k hk q => hk.1.elim (fun z => HL5.out.ap k z q) (fun z => by have h1 := HH.out.tr.lt k q; have h2 := WZ.out; omega)))
  have X10 := Aside0.mk (show (w9.setCell ⟨g, 0, none⟩ (.slice A9 N9 c9)).heap[gx]? = some (.cells #[.int .i64 x.f0, .int .i64 x.f1, .int .i64 L, .int .i64 x.f3, .slice A4 x.f4.length c4, .int .i64 x.f5, .int .i64 x.f6, .int .i64 x.f7, .int .i64 x.f8, .int .u64 x.f9] 48 (0, 0)) from blk_far HX6.out (p := ⟨g, 0, none⟩) GXG.out (.slice A9 N9 c9))
  have C10 := Aside0.mk (show Chg (fun k => S k ∨ ok0 k) W (w9.setCell ⟨g, 0, none⟩ (.slice A9 N9 c9)) from C9.out.set_ (.inl (.inl HH.out.gok.1)) _)
  have Z10 := Aside0.mk (show w9.heap.size ≤ (w9.setCell ⟨g, 0, none⟩ (.slice A9 N9 c9)).heap.size from by rw [cell_size]; exact Nat.le_refl _)
  clear HL5 XD R6 C6 T9 HC6 HX6 C9 R9
  generalize w9.setCell ⟨g, 0, none⟩ (.slice A9 N9 c9) = w10 at *
  have z2 : w10.cell? ⟨gx, 2, none⟩ = some (.int .i64 L) := (blk_cell X10.out 2).trans rfl
  have z3 : w10.cell? ⟨gx, 3, none⟩ = some (.int .i64 x.f3) := (blk_cell X10.out 3).trans rfl
  by_cases h3 : 0 ≤ x.f3
  · have e1 : decide (0 ≤ x.f3) = true := decide_eq_true h3
    have HIF := Aside0.mk (show m9 = rSet m L x.f3 from HM9.out.trans (if_pos h3))
    clear h3
    go_upto_region 8 with (fail)
    have HST := Aside0.mk (tset (W := w10.drew) (H10.out.tr.below (below_drew (Below.refl _ _))) (id := L) (at_ := x.f3) (by have h1 := HLL.out; have h2 := HLA.out; omega) HM.out HN.out (Nat.le_trans HBS.out C10.out.size))
    replace z2 : w10.drew.cell? ⟨gx, 2, none⟩ = some (.int .i64 L) := z2
    replace z3 : w10.drew.cell? ⟨gx, 3, none⟩ = some (.int .i64 x.f3) := z3
    refine start_ (n := 8) (S := fun w' => w'.cell? ⟨gx, 2, none⟩ = some (.int .i64 L) ∧ w'.cell? ⟨gx, 3, none⟩ = some (.int .i64 x.f3)) (ds := [7]) #[false, false, false, false, false, false, false, false] (by kernel_rfl) rfl rfl ⟨z2, z3⟩ (fun hHeld => ?_)
    refine pure_ (i := 0) (N := some 51) (v := ?_) (a' := ?_) #[true, false, false, false, false, false, false, false] rfl rfl (by kernel_rfl) (fun _ _ _ h => h) (Or.inl ⟨by rfl, ?_⟩) ?_ ?_
    rotate_left
    · intro w'
      go_simp
      with_reducible rfl
    rotate_left
    · simp only [Act.put, List.setIfInBounds_toArray, List.set_cons_zero, List.set_cons_succ, i64_w, i32_w]
      rfl
    refine pure_ (i := 1) (N := some 52) (v := ?_) (a' := ?_) #[true, true, false, false, false, false, false, false] rfl rfl (by kernel_rfl) (fun _ _ _ h => h) (Or.inl ⟨by rfl, ?_⟩) ?_ ?_
    rotate_left
    · intro w'
      go_simp
      with_reducible rfl
    rotate_left
    · simp only [Act.put, List.setIfInBounds_toArray, List.set_cons_zero, List.set_cons_succ, i64_w, i32_w]
      rfl
    refine pure_ (i := 2) (N := some 53) (v := ?_) (a' := ?_) #[true, true, true, false, false, false, false, false] rfl rfl (by kernel_rfl) (fun _ _ _ h => h) (Or.inl ⟨by rfl, ?_⟩) ?_ ?_
    rotate_left
    · intro w'
      go_simp
      with_reducible rfl
    rotate_left
    · simp only [Act.put, List.setIfInBounds_toArray, List.set_cons_zero, List.set_cons_succ, i64_w, i32_w]
      rfl
    refine pure_ (i := 3) (N := some 54) (v := ?_) (a' := ?_) #[true, true, true, true, false, false, false, false] rfl rfl (by kernel_rfl) (fun _ _ _ h => h) (Or.inl ⟨by rfl, ?_⟩) ?_ ?_
    rotate_left
    · intro w'
      go_simp
      with_reducible rfl
    rotate_left
    · simp only [Act.put, List.setIfInBounds_toArray, List.set_cons_zero, List.set_cons_succ, i64_w, i32_w]
      rfl
    refine pure_ (i := 5) (N := some 56) (v := ?_) (a' := ?_) #[true, true, true, true, false, true, false, false] rfl rfl (by kernel_rfl) (fun _ _ _ h => h) (Or.inl ⟨by rfl, ?_⟩) ?_ ?_
    rotate_left
    · intro w'
      go_simp
      with_reducible rfl
    rotate_left
    · simp only [Act.put, List.setIfInBounds_toArray, List.set_cons_zero, List.set_cons_succ, i64_w, i32_w]
      rfl
    refine take_ (i := 4) (N := some 55) (v := ?_) (a' := ?_) #[true, true, true, true, true, true, false, false] rfl rfl (by kernel_rfl) (fun _ _ _ h => h) (Or.inl ⟨by rfl, ?_⟩) hHeld ?_ ?_
    rotate_left
    · rintro w' ⟨s0, s1⟩
      go_simp
      with_reducible rfl
    rotate_left
    · simp only [Act.put, List.setIfInBounds_toArray, List.set_cons_zero, List.set_cons_succ, i64_w, i32_w]
      rfl
    refine take_ (i := 6) (N := some 57) (v := ?_) (a' := ?_) #[true, true, true, true, true, true, true, false] rfl rfl (by kernel_rfl) (fun _ _ _ h => h) (Or.inl ⟨by rfl, ?_⟩) hHeld ?_ ?_
    rotate_left
    · rintro w' ⟨s0, s1⟩
      go_simp
      with_reducible rfl
    rotate_left
    · simp only [Act.put, List.setIfInBounds_toArray, List.set_cons_zero, List.set_cons_succ, i64_w, i32_w]
      rfl
    refine last_ (i := 7) (N := some 58) #[true, true, true, true, true, true, true, true] rfl rfl (by kernel_rfl) (by decide) (fun K hK => ?_)
    refine goes_ Try.func54 (by kernel_rfl) rfl #[.pointer (some ⟨g, 1, none⟩), .int .i64 L, .int .i64 x.f3] (by rfl) rfl rfl (by simp only [List.map_toArray, List.map_cons, List.map_nil]; rfl) ?_
    with_reducible refine (HST.out).mono ?_
    rintro e w8 ⟨rfl, ⟨⟨S8, t1, t2⟩⟩, hc⟩
    refine ⟨_, rfl, ?_⟩
    have TR8 := Aside0.mk t1
    have TS8 := Aside0.mk t2
    have C8 := Aside0.mk hc
    clear t1 t2 hc
    refine hK.out _ _ ?_
    clear hK K
    refine norm_ (a' := ?_) ?_ ?_
    rotate_left
    · show Act.put _ (some 58) _ = _
      simp only [Act.put, List.setIfInBounds_toArray, List.set_cons_zero, List.set_cons_succ, i64_w, i32_w]
      rfl
    refine done_ (by kernel_rfl) ?_
    have z8 : w8.cell? ⟨gx, 2, none⟩ = some (.int .i64 L) := (blk_cell ((C8.out.block gx (blk_lt X10.out) GS.out.1).trans X10.out) 2).trans rfl
    clear z2 z3 e1
    go_wp2
    go_ret
    rw [HIF.out]
    refine ⟨rfl, ⟨.slice A9 N9 c9, S8, _, ⟨TR8.out, Kd.R_step H10.out.rw (fun k hk hlt => C8.out.block k hlt (H10.out.ap k hk)), fun k hk q => (TS8.out k q).elim (H10.out.ap k hk) (fun z => by have h1 : k < w9.heap.size := hk.2; have h2 : w10.heap.size ≤ k := z; have h3 := Z10.out; omega)⟩, fun k hk => (TS8.out k hk).imp id (fun z => Nat.le_trans C10.out.size z), fun k hk => hk.1.imp (fun z => (HO0.out k z).1) (fun z => Nat.le_trans WZ.out z)⟩, ?_⟩
    exact ((C10.out.drew.trans (C8.out.mono (fun k hk => .inl hk))).mono (fun k hk => hk.imp id (fun z => (HO0.out k z).1)))
  · have e1 : decide (0 ≤ x.f3) = false := decide_eq_false h3
    have HIF := Aside0.mk (show m9 = m from HM9.out.trans (if_neg h3))
    clear h3
    go_wp2
    go_ret
    rw [HIF.out]
    exact ⟨rfl, ⟨.slice A9 N9 c9, S, _, ⟨H10.out.tr.mono (by omega), H10.out.rw, H10.out.ap⟩, fun k hk => .inl hk, fun k hk => hk.1.imp (fun z => (HO0.out k z).1) (fun z => Nat.le_trans WZ.out z)⟩, C10.out.mono (fun k hk => hk.imp id (fun z => (HO0.out k z).1))⟩
end
end Go.Proofs.Ytakbhnfmimnbhaa.Ln
