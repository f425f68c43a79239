/- The page's rows of pairs: one more at the end; the page's Undo. Conditions: none. -/
import Derived.Test.YtakbhnfmimnbhaaRn21
namespace Go.Proofs.Ytakbhnfmimnbhaa.Rn
open Go.RowKit Go.Proofs.YtakbhnfmimnbhaaW.PrintWords Go.Proofs.YtakbhnfmimnbhaaW.PrintLast Go.Proofs.YtakbhnfmimnbhaaW.PrintMore
set_option linter.unusedVariables false
set_option linter.unusedSimpArgs false

theorem info28 : (Try.prog.info? 28).map (fun i => (i.zero, i.size, i.bytes)) = some (some (.agg #[.int .i64 0, .int .i64 0]), 2, 16) := by kernel_rfl
def PS (W : World) (b : Nat) (v : Value) (l : List (Int × Int)) : Prop := W.ownsRow b 28 2 v l.length (pcs l)
theorem PS.below {W W' : World} {b : Nat} {v : Value} {l : List (Int × Int)} (h : PS W b v l) (hb : Below W.heap.size W W') : PS W' b v l := pw_own_below h hb
theorem PS.rd {W : World} {b n c : Nat} {A : Option Addr} {l : List (Int × Int)} (h : PS W b (.slice A n c) l) : RdC W A l.length 2 (pcs l) := own_rdc (v := .bool true) h
theorem PS.n {W : World} {b n c : Nat} {A : Option Addr} {l : List (Int × Int)} (h : PS W b (.slice A n c) l) : n = l.length := by
  rcases h.2 with ⟨hv, hz⟩ | ⟨g', cap', cur, hv, _⟩
  · injection hv with _ h1 _
    omega
  · injection hv
theorem ps_snoc {W : World} {b : Nat} {v : Value} {l : List (Int × Int)} (h : PS W b v l) (hb : b ≤ W.heap.size) (hl : l.length ≤ 100000) (x y : Int) : ∃ A9 c9 w9, (Builtin.append_ #[23, 23] 23 #[v, .slice (some ⟨W.heap.size, 0, none⟩) 1 1]).run Try.prog (W.alloc (.cells #[.int .i64 x, .int .i64 y] 28)) = .ok (.slice A9 (l.length + 1) c9) w9 ∧ PS w9 b (.slice A9 (l.length + 1) c9) (l ++ [(x, y)]) ∧ Below b W w9 ∧ ∀ k o, W.heap[k]? = some o → some k ≠ v.ownBlock → w9.heap[k]? = some o := by
  obtain ⟨v1, w9, hr, hown, hg9, hat⟩ := app_any (P := Try.prog) (W := W.alloc (.cells #[.int .i64 x, .int .i64 y] 28)) b 23 23 28 2 16 (.agg #[.int .i64 0, .int .i64 0]) Try.underlying23 info28 rfl (by decide) (by decide) v l.length (pcs l) (pcs [(x, y)]) (some ⟨W.heap.size, 0, none⟩) 1 1 (own_alloc h _)
      ⟨rfl, fun _ => ⟨_, rfl, fun j q hj => by rw [add_plain]; exact (blk_cell (blk_new W _) j).trans (by rw [List.getElem?_toArray]; exact hj)⟩⟩ (pcs_one _) (Nat.le_trans hb (alloc_le _ _)) (by omega) (fun _ => rfl)
  obtain ⟨A9, c9, rfl⟩ := own_slice hown
  refine ⟨A9, c9, w9, hr, ?_, ((Below.refl b W).alloc hb _).grown hg9 (Nat.le_trans hb (alloc_le _ _)) (fun k hk => own_base h k hk), fun k o ho hne => blk_grown (blk_below ho (below_alloc (Below.refl _ _) _)) hg9 hne⟩
  unfold PS
  rw [pcs_app, List.length_append]
  exact hown
theorem take_next (l : List (Int × Int)) (j : Nat) (hj : j < l.length) : l.take (j + 1) = l.take j ++ [l.getD j (0, 0)] := by
  rw [List.take_add_one, List.getD_eq_getElem?_getD, List.getElem?_eq_getElem hj]
  rfl
theorem getD_rev (l : List (Int × Int)) (j k : Nat) (h : j + k + 1 = l.length) : l.reverse.getD j (0, 0) = l.getD k (0, 0) := by
  rw [List.getD_eq_getElem?_getD, List.getD_eq_getElem?_getD, List.getElem?_reverse (by omega), show l.length - 1 - j = k by omega]
set_option maxHeartbeats 4000000 in
set_option maxRecDepth 100000 in
theorem rundo_any {W : World} {vf vg : Value} {nm ab : Int} {A : Option Addr} {n c : Nat} {l : List (Int × Int)} (hr : RdC W A l.length 2 (pcs l)) (hl : l.length ≤ 1000) (hn : n = l.length) : Calls Try.prog 59 #[.agg #[vf, .int .i64 nm, .int .i64 ab, .slice A n c, vg]] W fun e w' => ∃ v, e = .returned v ∧ PS w' W.heap.size v l.reverse ∧ Below W.heap.size W w' := by
  have hu64 := Try.underlying64
  have hu23 := Try.underlying23
  have hu28 := Try.underlying28
  have HR := Aside0.mk hr
  have HL := Aside0.mk hl
  have HN := Aside0.mk hn
  have ew0 : wrap64 ((n : Int) - 1) = (n : Int) - 1 := by unfold wrap64; omega
  clear hr hl hn
  go_enter Try.func59, Try.ntmps59
  go_upto_region 1 with ((with_reducible refine gate_dst (N := 1) rfl ?_); refine box_event ?hg (N := 1) ?hd (cs := #[vf, .int .i64 nm, .int .i64 ab, .slice A n c, vg]) (t := 64) ?hr ?_; (case hd => rfl); (case hg => rfl); (case hr => first | (go_simp; done) | (go_simp; rfl)); intro gx hgx w1 hbox hb; have B1 := Aside0.mk hb; have X1 := Aside0.mk hbox; clear hbox hb hgx)
  have e1 := B1.out.size
  go_upto_region 2 with (fail)
  have P0 := Aside0.mk (show PS (w1.alloc (.cells #[] 28)) W.heap.size (.slice (some ⟨w1.heap.size, 0, none⟩) 0 0) [] from own_fresh w1 e1 28 2 (by decide))
  have B0 := Aside0.mk (show Below W.heap.size W (w1.alloc (.cells #[] 28)) from below_alloc B1.out _)
  have X0 := Aside0.mk (blk_below X1.out (below_alloc (Below.refl _ _) (.cells #[] 28)))
  clear B1 X1 e1
  generalize w1.alloc (.cells #[] 28) = w2 at *
  generalize Value.slice (some ⟨w1.heap.size, 0, none⟩) 0 0 = v0 at *
  have x3 : w2.cell? ⟨gx, 3, none⟩ = some (.slice A n c) := (blk_cell X0.out 3).trans rfl
  go_upto_block 0 with (fail)
  rw [ew0]
  clear ew0 x3
  go_wp2
  go_loopg [3, 4] n (fun kq v3 v4 w' => ∃ (j : Nat) (z : Int), v4 = .int .i64 z ∧ Aside0 (z = (n : Int) - 1 - (j : Int)) ∧ Aside0 (j + kq = n) ∧ Aside0 (PS w' W.heap.size v3 (l.reverse.take j)) ∧ Aside0 (Below W.heap.size W w') ∧ Aside0 (w'.heap[gx]? = some (.cells #[vf, .int .i64 nm, .int .i64 ab, .slice A n c, vg] 64 (0, 0))))
  case atStart => exact ⟨0, (n : Int) - 1, rfl, ⟨by simp⟩, ⟨by omega⟩, ⟨by rw [List.take_zero]; exact P0.out⟩, B0, X0⟩
  case round =>
    clear P0 B0 X0
    obtain ⟨j, z, rfl, HZ, HK, HP, HB, HX⟩ := hrel
    by_cases hz : 0 ≤ z
    · rcases gk with _ | k1
      · exact absurd hz (by have := HZ.out; have := HK.out; omega)
      obtain ⟨i, rfl⟩ : ∃ i : Nat, z = (i : Int) := ⟨z.toNat, by omega⟩
      have HIJ := Aside0.mk (show j + i + 1 = l.length from by have := HZ.out; have := HN.out; omega)
      have d1 : decide (0 ≤ (i : Int)) = true := decide_eq_true hz
      have p1 : (0 ≤ (i : Int)) = True := eq_true (by omega)
      have p2 : ((i : Int) < (n : Int)) = True := eq_true (by have := HIJ.out; have := HN.out; omega)
      obtain ⟨ad, hA, y0, y1⟩ := rd_pair (rdc_below HR.out HB.out) (i := i) (by have := HIJ.out; omega)
      subst hA
      have ew : Aside0 (wrap64 ((i : Int) - 1) = (i : Int) - 1) := ⟨by have h3 := HL.out; have h4 := HIJ.out; unfold wrap64; omega⟩
      have HG := Aside0.mk (getD_rev l j i HIJ.out)
      have HT := Aside0.mk (take_next l.reverse j (by rw [List.length_reverse]; have := HIJ.out; omega))
      rw [HG.out] at HT
      obtain ⟨xi, yi, hi⟩ : ∃ xi yi, l.getD i (0, 0) = (xi, yi) := ⟨_, _, rfl⟩
      rw [hi] at y0 y1 HT
      clear hz hi HG
      have x3 : wr.cell? ⟨gx, 3, none⟩ = some (.slice (some ad) n c) := (blk_cell HX.out 3).trans rfl
      have hlen : (l.reverse.take j).length = j := by rw [List.length_take, List.length_reverse]; have := HIJ.out; omega
      obtain ⟨A9, c9, w9, hrn, hps, hbl, hkp⟩ := ps_snoc HP.out HB.out.size (by rw [hlen]; have := HIJ.out; have := HL.out; omega) xi yi
      rw [← HT.out] at hps
      have HP9 := Aside0.mk hps
      have HB9 := Aside0.mk (show Below W.heap.size W w9 from HB.out.trans hbl)
      have HX9 := Aside0.mk (hkp gx _ HX.out (own_ne HP.out HX.out (by decide)))
      rw [hlen] at hrn HP9
      clear hlen hps hbl hkp
      obtain ⟨v9, hv9⟩ : ∃ v9, v9 = Value.slice A9 (j + 1) c9 := ⟨_, rfl⟩
      rw [← hv9] at hrn HP9
      clear hv9
      go_wp2_with (at_builtin; refine list_run rfl (.tmp 14) (.tmp 20) 23 23 rfl _ _ v9 rfl rfl hrn ?_)
      go_roundg k1
      case measure => omega
      case rel => exact ⟨j + 1, (i : Int) - 1, by rw [ew.out], ⟨by have := HZ.out; omega⟩, ⟨by have := HK.out; omega⟩, HP9, HB9, HX9⟩
    · have d1 : decide (0 ≤ z) = false := decide_eq_false hz
      have HE := Aside0.mk (show l.reverse.take j = l.reverse from List.take_of_length_le (by rw [List.length_reverse]; have := HZ.out; have := HN.out; omega))
      clear hz
      go_wp2
      go_ret
      exact ⟨_, rfl, by rw [← HE.out]; exact HP.out, HB.out⟩
end Go.Proofs.Ytakbhnfmimnbhaa.Rn
