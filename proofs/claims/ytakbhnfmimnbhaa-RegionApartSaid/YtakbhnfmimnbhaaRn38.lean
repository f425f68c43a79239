/- The calls, cut (few). Conditions: none. -/
import Derived.Test.YtakbhnfmimnbhaaRn36
import Derived.Test.YtakbhnfmimnbhaaRnL
namespace Go.Proofs.Ytakbhnfmimnbhaa.Rn
open Go.RowKit Go.Proofs.YtakbhnfmimnbhaaW.PrintWords Go.Proofs.YtakbhnfmimnbhaaW.PrintLast Go.Proofs.YtakbhnfmimnbhaaW.PrintMore
set_option linter.unusedVariables false
set_option linter.unusedSimpArgs false

theorem info69 : (Try.prog.info? 69).map (fun i => (i.zero, i.size, i.bytes)) = some (some (.agg #[.int .i64 0, .int .i64 0, .int .i64 0]), 3, 24) := by kernel_rfl
theorem info69s : (Try.prog.info? 69).map (·.size) = some 3 := by kernel_rfl
def tcs : List (Int × Int × Int) → List Value
  | [] => []
  | t :: l => .int .i64 t.1 :: .int .i64 t.2.1 :: .int .i64 t.2.2 :: tcs l
theorem tcs_len : ∀ l : List (Int × Int × Int), (tcs l).length = l.length * 3
  | [] => rfl
  | t :: l => by simp [tcs, tcs_len l]; omega
theorem tcs_app : ∀ l l2 : List (Int × Int × Int), tcs (l ++ l2) = tcs l ++ tcs l2
  | [], _ => rfl
  | t :: l, l2 => by simp [tcs, tcs_app l l2]
theorem tcs_one : ∀ (l : List (Int × Int × Int)), ∀ u ∈ tcs l, u.oneCell' = true
  | [], u, h => by cases h
  | t :: l, u, h => by
    simp only [tcs, List.mem_cons] at h
    rcases h with rfl | rfl | rfl | h
    · rfl
    · rfl
    · rfl
    · exact tcs_one l u h
theorem tcs_get : ∀ (l : List (Int × Int × Int)) (i : Nat) (t : Int × Int × Int), l[i]? = some t → (tcs l)[i * 3]? = some (.int .i64 t.1) ∧ (tcs l)[i * 3 + 1]? = some (.int .i64 t.2.1) ∧ (tcs l)[i * 3 + 2]? = some (.int .i64 t.2.2)
  | [], i, t, h => by cases h
  | x :: l, 0, t, h => by
    have e : x = t := by simpa using h
    subst e
    exact ⟨rfl, rfl, rfl⟩
  | x :: l, i + 1, t, h => by
    obtain ⟨h1, h2, h3⟩ := tcs_get l i t (by simpa using h)
    rw [show (i + 1) * 3 = i * 3 + 3 by omega, show i * 3 + 3 + 1 = (i * 3 + 1) + 3 by omega, show i * 3 + 3 + 2 = (i * 3 + 2) + 3 by omega]
    exact ⟨h1, h2, h3⟩
def T3 (W : World) (b : Nat) (v : Value) (l : List (Int × Int × Int)) : Prop := W.ownsRow b 69 3 v l.length (tcs l)
theorem T3.below {W W' : World} {b : Nat} {v : Value} {l : List (Int × Int × Int)} (h : T3 W b v l) (hb : Below W.heap.size W W') : T3 W' b v l := pw_own_below h hb
theorem t3_at {W : World} {b n c i : Nat} {A : Option Addr} {l : List (Int × Int × Int)} {t : Int × Int × Int} (h : T3 W b (.slice A n c) l) (hi : l[i]? = some t) : ∃ ad, A = some ad ∧ W.cell? (ad.add (i * 3)) = some (.int .i64 t.1) ∧ W.cell? ⟨(ad.add (i * 3)).block, (ad.add (i * 3)).off + 1, none⟩ = some (.int .i64 t.2.1) ∧ W.cell? ⟨(ad.add (i * 3)).block, (ad.add (i * 3)).off + 2, none⟩ = some (.int .i64 t.2.2) := by
  have hl : i < l.length := (List.getElem?_eq_some_iff.1 hi).1
  obtain ⟨ad, e, hc⟩ := (own_rdc (v := .bool true) h).2 (by omega)
  obtain ⟨h1, h2, h3⟩ := tcs_get l i t hi
  exact ⟨ad, e, hc _ _ h1, by rw [← add_field _ _ 1 (by omega)]; exact hc _ _ h2, by rw [← add_field _ _ 2 (by omega)]; exact hc _ _ h3⟩
theorem t3_snoc {W : World} {b : Nat} {v : Value} {l : List (Int × Int × Int)} (h : T3 W b v l) (hb : b ≤ W.heap.size) (hl : l.length ≤ 100000) (x y z : Int) : ∃ A9 c9 w9, (Builtin.append_ #[60, 60] 60 #[v, .slice (some ⟨W.heap.size, 0, none⟩) 1 1]).run Try.prog (W.alloc (.cells #[.int .i64 x, .int .i64 y, .int .i64 z] 69)) = .ok (.slice A9 (l.length + 1) c9) w9 ∧ T3 w9 b (.slice A9 (l.length + 1) c9) (l ++ [(x, y, z)]) ∧ Below b W w9 := by
  obtain ⟨v1, w9, hr, hown, hg9, hat⟩ := app_any (P := Try.prog) (ty := 60) (W := W.alloc (.cells #[.int .i64 x, .int .i64 y, .int .i64 z] 69)) b 60 69 3 24 (.agg #[.int .i64 0, .int .i64 0, .int .i64 0]) Try.underlying60 info69 rfl (by decide) (by decide) v l.length (tcs l) (tcs [(x, y, z)]) (some ⟨W.heap.size, 0, none⟩) 1 1 (own_alloc h _)
      ⟨rfl, fun _ => ⟨_, rfl, fun j q hj => by rw [add_plain]; exact (blk_cell (blk_new W _) j).trans (by rw [List.getElem?_toArray]; exact hj)⟩⟩ (tcs_one _) (Nat.le_trans hb (alloc_le _ _)) (by omega) (fun _ => rfl)
  obtain ⟨A9, c9, rfl⟩ := own_slice hown
  refine ⟨A9, c9, w9, hr, ?_, ((Below.refl b W).alloc hb _).grown hg9 (Nat.le_trans hb (alloc_le _ _)) (fun k hk => own_base h k hk)⟩
  unfold T3
  rw [tcs_app, List.length_append]
  exact hown
def okT (t : Int × Int × Int) : Prop := (-1099511627776 ≤ t.2.1 ∧ t.2.1 ≤ 1099511627776) ∧ (-1099511627776 ≤ t.2.2 ∧ t.2.2 ≤ 1099511627776)
theorem row3_one (x y z : Int) : (#[.int .i64 x, .int .i64 y, .int .i64 z] : Array Value).all (·.oneCell') = true := by simp [Value.oneCell']
set_option maxHeartbeats 16000000 in
set_option maxRecDepth 100000 in
theorem few_any {W : World} {A : Option Addr} {c : Nat} {l1 : List S69} (hr : Kd.C k69 W A l1.length l1) (hl : l1.length ≤ 10000000000000) : Calls Try.prog 21 #[.slice A l1.length c] W fun e w' => ∃ A9 c9 l, e = .returned (.slice A9 l.length c9) ∧ T3 w' W.heap.size (.slice A9 l.length c9) l ∧ l.length ≤ 50 ∧ (∀ t ∈ l, okT t) ∧ Below W.heap.size W w' := by
  have hu60 := Try.underlying60
  have hu69 := Try.underlying69
  have HR := Aside0.mk hr
  have HL := Aside0.mk hl
  obtain ⟨n, hn⟩ : ∃ n, n = l1.length := ⟨_, rfl⟩
  rw [← hn] at HR HL ⊢
  clear hr hl hn
  go_enter Try.func21, Try.ntmps21
  go_upto_region 2 with (fail)
  have P0 := Aside0.mk (show T3 (W.alloc (.cells #[] 69)) W.heap.size (.slice (some ⟨W.heap.size, 0, none⟩) 0 0) [] from own_fresh W (Nat.le_refl _) 69 3 (by decide))
  have B0 := Aside0.mk (show Below W.heap.size W (W.alloc (.cells #[] 69)) from below_alloc (Below.refl _ _) _)
  obtain ⟨A0, hA0⟩ : ∃ A0, A0 = some (⟨W.heap.size, 0, none⟩ : Addr) := ⟨_, rfl⟩
  rw [← hA0] at P0 ⊢
  clear hA0
  generalize W.alloc (.cells #[] 69) = w2 at *
  go_upto_block 0 with (fail)
  go_wp2
  go_loopg [3, 4] n (fun kq v3 v4 w' => ∃ (i : Nat) (l : List (Int × Int × Int)) (A9 : Option Addr) (c9 m : Nat), v4 = .int .i64 (i : Int) ∧ v3 = .slice A9 m c9 ∧ Aside0 (m = l.length) ∧ Aside0 (i + kq = n) ∧ Aside0 (T3 w' W.heap.size (.slice A9 m c9) l) ∧ Aside0 (l.length = i ∧ i ≤ 50 ∧ ∀ t ∈ l, okT t) ∧ Aside0 (Below W.heap.size W w'))
  case atStart => exact ⟨0, [], A0, 0, 0, rfl, rfl, ⟨rfl⟩, ⟨by omega⟩, P0, ⟨rfl, by omega, fun t ht => by cases ht⟩, B0⟩
  case round =>
    clear P0 B0
    obtain ⟨i, l, A9, c9, m, rfl, rfl, HM, HK, HP, HO, HB⟩ := hrel
    by_cases hgo : i < n ∧ i < 50
    · rcases gk with _ | k1
      · exact absurd hgo.1 (by have := HK.out; omega)
      have hin := hgo.1
      have d1 : decide ((i : Int) < (n : Int)) = true := decide_eq_true (by omega)
      have d2 : decide (i < n) = true := decide_eq_true hin
      have d3 : decide ((i : Int) < 50) = true := decide_eq_true (by omega)
      have d4 : decide (i < 50) = true := decide_eq_true hgo.2
      have p1 : (0 ≤ (i : Int)) = True := eq_true (by omega)
      have p2 : ((i : Int) < (n : Int)) = True := eq_true (by omega)
      have H50 := Aside0.mk hgo.2
      obtain ⟨ad, ea, x0, x1, x2⟩ := at_T69 HR.out (i : Int) (by omega) (by omega)
      subst ea
      rw [Int.toNat_natCast] at x0 x1 x2
      have y0 := cellB HB.out x0
      have y1 := cellB HB.out x1
      have y2 := cellB HB.out x2
      clear hgo hin x0 x1 x2
      obtain ⟨K, hK⟩ : ∃ K, K = (rd_T69 l1 (i : Int)).f0 := ⟨_, rfl⟩
      obtain ⟨X, hX⟩ : ∃ X, X = (rd_T69 l1 (i : Int)).f1 := ⟨_, rfl⟩
      obtain ⟨Y, hY⟩ : ∃ Y, Y = (rd_T69 l1 (i : Int)).f2 := ⟨_, rfl⟩
      rw [← hK] at y0
      rw [← hX] at y1
      rw [← hY] at y2
      clear hK hX hY
      have ew : Aside0 (wrap64 ((i : Int) + 1) = (i : Int) + 1) := ⟨by have h2 := H50.out; unfold wrap64; omega⟩
      go_upto_region 6 with (first
        | ((with_reducible refine gate_dst (N := 5) rfl ?_); refine box_event ?hg (N := 5) ?hd (cs := #[.int .i64 0, .int .i64 0, .int .i64 0]) (t := 69) ?hr ?_; (case hd => rfl); (case hg => rfl); (case hr => first | (go_simp; done) | (go_simp; rfl)); intro gx hgx w3 hbox hb; have B1 := Aside0.mk hb; have G1 := Aside0.mk hgx; have X1 := Aside0.mk hbox; clear hbox hb hgx)
        | (refine wpList_store_row rfl 69 (.tmp 5) (.tmp 20) rfl gx _ rfl rfl 69 _ X1.out info69s rfl (row3_one K X Y) ?_))
      clear y0 y1 y2 d1 d2 d3 d4 p1 p2
      have GE := Aside0.mk (show W.heap.size ≤ gx ∧ wr.heap.size ≤ gx from by rw [G1.out]; exact ⟨HB.out.size, Nat.le_refl _⟩)
      have X2 := Aside0.mk (setRow_heap w3 gx _ #[.int .i64 K, .int .i64 X, .int .i64 Y] _ _ X1.out)
      have B2 := Aside0.mk (show Below wr.heap.size wr (w3.setRow gx #[.int .i64 K, .int .i64 X, .int .i64 Y]) from below_row B1.out GE.out.2 _)
      clear B1 G1 X1
      generalize w3.setRow gx #[.int .i64 K, .int .i64 X, .int .i64 Y] = w4 at *
      have z2 : w4.cell? ⟨gx, 2, none⟩ = some (.int .i64 Y) := (blk_cell X2.out 2).trans rfl
      have f2 := blk_frozen X2.out 2
      go_upto_region 7 with (fail)
      obtain ⟨Y1, hY1⟩ : ∃ Y1 : Int, Y1 = (if Y < -1099511627776 then -1099511627776 else Y) := ⟨_, rfl⟩
      rw [← hY1]
      obtain ⟨Y2, hY2⟩ : ∃ Y2 : Int, Y2 = (if 1099511627776 < Y1 then 1099511627776 else Y1) := ⟨_, rfl⟩
      rw [← hY2]
      have HY2 := Aside0.mk (show -1099511627776 ≤ Y2 ∧ Y2 ≤ 1099511627776 from by rw [hY2, hY1]; constructor <;> (repeat' split) <;> omega)
      clear hY2 hY1 z2 f2
      have X3 := Aside0.mk (show (w4.setCell ⟨gx, 2, none⟩ (.int .i64 Y2)).heap[gx]? = some (.cells #[.int .i64 K, .int .i64 X, .int .i64 Y2] 69 (0, 0)) from blk_put X2.out 2 _ rfl)
      have B3 := Aside0.mk (show Below wr.heap.size wr (w4.setCell ⟨gx, 2, none⟩ (.int .i64 Y2)) from B2.out.setCell GE.out.2 _)
      clear X2 B2
      generalize w4.setCell ⟨gx, 2, none⟩ (.int .i64 Y2) = w5 at *
      have z1 : w5.cell? ⟨gx, 1, none⟩ = some (.int .i64 X) := (blk_cell X3.out 1).trans rfl
      have f1 := blk_frozen X3.out 1
      go_upto_region 8 with (fail)
      obtain ⟨Z1, hZ1⟩ : ∃ Z1 : Int, Z1 = (if X < -1099511627776 then -1099511627776 else X) := ⟨_, rfl⟩
      rw [← hZ1]
      obtain ⟨Z2, hZ2⟩ : ∃ Z2 : Int, Z2 = (if 1099511627776 < Z1 then 1099511627776 else Z1) := ⟨_, rfl⟩
      rw [← hZ2]
      have HZ2 := Aside0.mk (show -1099511627776 ≤ Z2 ∧ Z2 ≤ 1099511627776 from by rw [hZ2, hZ1]; constructor <;> (repeat' split) <;> omega)
      clear hZ2 hZ1 z1 f1
      have X4 := Aside0.mk (show (w5.setCell ⟨gx, 1, none⟩ (.int .i64 Z2)).heap[gx]? = some (.cells #[.int .i64 K, .int .i64 Z2, .int .i64 Y2] 69 (0, 0)) from blk_put X3.out 1 _ rfl)
      have B4 := Aside0.mk (show Below wr.heap.size wr (w5.setCell ⟨gx, 1, none⟩ (.int .i64 Z2)) from B3.out.setCell GE.out.2 _)
      clear X3 B3
      generalize w5.setCell ⟨gx, 1, none⟩ (.int .i64 Z2) = w6 at *
      obtain ⟨A8, c8, w8, hrn, hps, hbl⟩ := t3_snoc (HP.out.below B4.out) (Nat.le_trans HB.out.size B4.out.size) (by have := HO.out; omega) K Z2 Y2
      have HB8 := Aside0.mk (show Below W.heap.size W w8 from (HB.out.trans (B4.out.mono HB.out.size)).trans hbl)
      rw [← HM.out] at hrn hps
      have HP8 := Aside0.mk hps
      have z0 : w6.cell? ⟨gx, 0, none⟩ = some (.int .i64 K) := (blk_cell X4.out 0).trans rfl
      have z1 : w6.cell? ⟨gx, 1, none⟩ = some (.int .i64 Z2) := (blk_cell X4.out 1).trans rfl
      have z2 : w6.cell? ⟨gx, 2, none⟩ = some (.int .i64 Y2) := (blk_cell X4.out 2).trans rfl
      clear hps hbl
      go_wp2_with (at_builtin; refine list_run rfl (.tmp 31) (.tmp 33) 60 60 rfl _ _ (.slice A8 (m + 1) c8) rfl rfl hrn ?_)
      go_roundg k1
      case measure => omega
      case rel => exact ⟨i + 1, l ++ [(K, Z2, Y2)], A8, c8, m + 1, by rw [ew.out]; simp, rfl, ⟨by rw [List.length_append, HM.out]; rfl⟩, ⟨by have := HK.out; omega⟩, HP8, ⟨by rw [List.length_append, HO.out.1]; rfl, by have := H50.out; omega, fun t ht => by
        rcases List.mem_append.1 ht with h | h
        · exact HO.out.2.2 t h
        · rw [List.mem_singleton.1 h]; exact ⟨HZ2.out, HY2.out⟩⟩, HB8⟩
    · have HE := Aside0.mk (show ∃ A1 c1 l1, Ending.returned (.slice A9 m c9) = .returned (.slice A1 l1.length c1) ∧ T3 wr W.heap.size (.slice A1 l1.length c1) l1 ∧ l1.length ≤ 50 ∧ (∀ t ∈ l1, okT t) ∧ Below W.heap.size W wr from ⟨A9, c9, l, by rw [HM.out], by rw [← HM.out]; exact HP.out, by have := HO.out; omega, HO.out.2.2, HB.out⟩)
      by_cases hin : i < n
      · have d1 : decide ((i : Int) < (n : Int)) = true := decide_eq_true (by omega)
        have d2 : decide (i < n) = true := decide_eq_true hin
        have d3 : decide ((i : Int) < 50) = false := decide_eq_false (by omega)
        have d4 : decide (i < 50) = false := decide_eq_false (by omega)
        clear hgo hin
        go_wp2
        go_ret
        exact HE.out
      · have d1 : decide ((i : Int) < (n : Int)) = false := decide_eq_false (by omega)
        have d2 : decide (i < n) = false := decide_eq_false hin
        clear hgo hin
        go_wp2
        go_ret
        exact HE.out
end Go.Proofs.Ytakbhnfmimnbhaa.Rn
namespace Go.Proofs.Ytakbhnfmimnbhaa.Rn
open Go.RowKit Go.Proofs.YtakbhnfmimnbhaaW.PrintWords Go.Proofs.YtakbhnfmimnbhaaW.PrintLast Go.Proofs.YtakbhnfmimnbhaaW.PrintMore
set_option linter.unusedVariables false
set_option linter.unusedSimpArgs false

/-- A log whose blocks came since w and are none of R. -/
def Sx (w W : World) (R : Nat → Prop) (g : Nat) (A : La) : Prop := ∃ S, Log S W g A ∧ ∀ k, S k → w.heap.size ≤ k ∧ k < W.heap.size ∧ ¬ R k
section
variable {w W W' : World} {R R' : Nat → Prop} {g gx : Nat} {A Ax : La} {Au Ag : Option Addr} {cu cg : Nat} {vf : Value}
theorem Sx.below (h : Sx w W R g A) (hb : Below W.heap.size W W') : Sx w W' R g A := by
  obtain ⟨S, hl, hs⟩ := h
  exact ⟨S, hl.below hb, fun k hk => ⟨(hs k hk).1, Nat.lt_of_lt_of_le (hs k hk).2.1 hb.size, (hs k hk).2.2⟩⟩
theorem Sx.other (h : Sx w W R g A) (hR : ∀ k, k < W.heap.size → R' k → R k) : Sx w W R' g A := by
  obtain ⟨S, hl, hs⟩ := h
  exact ⟨S, hl, fun k hk => ⟨(hs k hk).1, (hs k hk).2.1, fun q => (hs k hk).2.2 (hR k (hs k hk).2.1 q)⟩⟩
theorem Sx.row (h : Sx w W R g A) (hx : R gx) (cs : Array Value) : Sx w (W.setRow gx cs) R g A := by
  obtain ⟨S, ⟨vf, vu, vg, hl⟩, hs⟩ := h
  refine ⟨S, ⟨vf, vu, vg, hl.kept (T := fun k => k = gx) ⟨rfl, rfl, rfl, by simp [World.setRow], fun k _ hk => setRow_other W gx k cs hk⟩ (fun k hk z => (hs k z).2.2 (by rw [hk]; exact hx))⟩, fun k hk => ⟨(hs k hk).1, ?_, (hs k hk).2.2⟩⟩
  have h1 := (hs k hk).2.1
  have h2 : (W.setRow gx cs).heap.size = W.heap.size := by simp [World.setRow]
  omega
theorem sx_new {B : Nat} (h : Log (fun k => B ≤ k) W g A) (hB : w.heap.size ≤ B) (hR : ∀ k, R k → k < W.heap.size → k < B) : Sx w W R g A := by
  obtain ⟨vf, vu, vg, hl⟩ := h
  exact ⟨_, ⟨vf, vu, vg, hl.cut⟩, fun k hk => ⟨Nat.le_trans hB hk.1, hk.2, fun q => by have h1 := hR k q hk.2; have h2 : B ≤ k := hk.1; omega⟩⟩
theorem Sx.lg (h : Sx w W R g A) : ∃ S vf vu vg, Lg S W g vf vu vg A := by
  obtain ⟨S, ⟨vf, vu, vg, hl⟩, _⟩ := h
  exact ⟨S, vf, vu, vg, hl⟩
theorem sx_do {i : Nat} (h : Sx w W R g A) (hb : Below w.heap.size w W) (hR : ∀ k, R k → k < W.heap.size) (hg : GI i A) {k o n : Int} (ho : -1099511627776 ≤ o ∧ o ≤ 1099511627776) (hn : n ≤ 1099511627776) : Calls Try.prog 24 #[.pointer (some ⟨g, 0, none⟩), .agg #[.int .i64 k, .int .i64 o, .int .i64 n]] W fun e w' => ∃ g', e = .returned (.pointer (some ⟨g', 0, none⟩)) ∧ Sx w w' R g' (doL A k o n) ∧ Below w.heap.size w w' ∧ (∀ k, R k → w'.heap[k]? = W.heap[k]?) ∧ W.heap.size ≤ w'.heap.size := by
  obtain ⟨S, hl, hs⟩ := h
  refine (do_any hl hg ho hn).mono ?_
  rintro e w' ⟨g', rfl, ⟨vf, vu, vg, hl'⟩, hc⟩
  refine ⟨g', rfl, ⟨_, ⟨vf, vu, vg, hl'.cut⟩, fun k hk => ⟨?_, hk.2, fun q => ?_⟩⟩, hc.below hb hb.size (fun k hk => (hs k hk).1), fun k hk => hc.block k (hR k hk) (fun z => (hs k z).2.2 hk), hc.size⟩
  · rcases hk.1 with z | z
    · exact (hs k z).1
    · exact Nat.le_trans hb.size z
  · rcases hk.1 with z | z
    · exact (hs k z).2.2 q
    · have h1 := hR k q
      omega
/-- The page's value in the law's own row gx; its blocks are of R. -/
structure Pd (W : World) (R : Nat → Prop) (gx : Nat) (vf : Value) (Au Ag : Option Addr) (cu cg : Nat) (A : La) : Prop where
  row : W.heap[gx]? = some (.cells #[vf, .int .i64 A.nm, .int .i64 A.ab, .slice Au A.u.length cu, .slice Ag A.go.length cg] 64 (0, 0))
  rx : R gx
  xr : Xr R W Au Ag cu cg A
  lt : ∀ k, R k → k < W.heap.size
theorem Pd.kept (h : Pd W R gx vf Au Ag cu cg A) (hk : ∀ k, R k → W'.heap[k]? = W.heap[k]?) (hs : W.heap.size ≤ W'.heap.size) : Pd W' R gx vf Au Ag cu cg A :=
  ⟨(hk gx h.rx).trans h.row, h.rx, ⟨own_move h.xr.pu (fun k z => hk k (h.xr.tu k z)), own_move h.xr.pg (fun k z => hk k (h.xr.tg k z)), h.xr.tu, h.xr.tg⟩, fun k hk => Nat.lt_of_lt_of_le (h.lt k hk) hs⟩
theorem Pd.below (h : Pd W R gx vf Au Ag cu cg A) (hb : Below W.heap.size W W') : Pd W' R gx vf Au Ag cu cg A := h.kept (fun k hk => hb.block k (h.lt k hk)) hb.size
/-- New blocks join R, and the row is set anew. -/
theorem Pd.next {w2 : World} (h : Pd W R gx vf Au Ag cu cg A) {Au2 Ag2 : Option Addr} {cu2 cg2 : Nat} {A2 : La} (hb : Below W.heap.size W w2) (hx : Xr (fun k => R k ∨ W.heap.size ≤ k) w2 Au2 Ag2 cu2 cg2 A2) : Pd (w2.setRow gx #[vf, .int .i64 A2.nm, .int .i64 A2.ab, .slice Au2 A2.u.length cu2, .slice Ag2 A2.go.length cg2]) (fun k => (R k ∨ W.heap.size ≤ k) ∧ k < w2.heap.size) gx vf Au2 Ag2 cu2 cg2 A2 := by
  have hrow := (h.below hb).row
  have hsz : (w2.setRow gx #[vf, .int .i64 A2.nm, .int .i64 A2.ab, .slice Au2 A2.u.length cu2, .slice Ag2 A2.go.length cg2]).heap.size = w2.heap.size := by simp [World.setRow]
  exact ⟨setRow_heap _ _ _ _ _ _ hrow, ⟨.inl h.rx, Nat.lt_of_lt_of_le (h.lt gx h.rx) hb.size⟩, ⟨ps_row hx.pu hrow (by decide) _, ps_row hx.pg hrow (by decide) _, fun k hk => ⟨hx.tu k hk, own_lt hx.pu k hk⟩, fun k hk => ⟨hx.tg k hk, own_lt hx.pg k hk⟩⟩, fun k hk => by rw [hsz]; exact hk.2⟩
theorem Sx.next {w2 : World} {cs : Array Value} (h : Sx w W R g A) (hx : R gx) (hb : Below W.heap.size W w2) : Sx w (w2.setRow gx cs) (fun k => (R k ∨ W.heap.size ≤ k) ∧ k < w2.heap.size) g A := by
  have h1 : Sx w w2 R g A := h.below hb
  have h2 := h1.row hx cs
  obtain ⟨S, hl, hs⟩ := h
  have h3 := (h1.row hx cs)
  obtain ⟨S1, ⟨vf, vu, vg, hl1⟩, hs1⟩ : ∃ S1, Log S1 (w2.setRow gx cs) g A ∧ ∀ k, S1 k → w.heap.size ≤ k ∧ k < W.heap.size ∧ ¬ R k := by
    obtain ⟨vf, vu, vg, hl⟩ := hl
    exact ⟨S, ⟨vf, vu, vg, (hl.below hb).kept (T := fun k => k = gx) ⟨rfl, rfl, rfl, by simp [World.setRow], fun k _ hk => setRow_other w2 gx k cs hk⟩ (fun k hk z => (hs k z).2.2 (by rw [hk]; exact hx))⟩, hs⟩
  have hsz : (w2.setRow gx cs).heap.size = w2.heap.size := by simp [World.setRow]
  refine ⟨S1, ⟨vf, vu, vg, hl1⟩, fun k hk => ⟨(hs1 k hk).1, ?_, ?_⟩⟩
  · rw [hsz]
    exact Nat.lt_of_lt_of_le (hs1 k hk).2.1 hb.size
  · rintro ⟨q | q, _⟩
    · exact (hs1 k hk).2.2 q
    · have := (hs1 k hk).2.1
      omega
theorem pos_do {i : Nat} (hg : GI i A) (h : Pos A.go) (k o n : Int) : Pos (doL A k o n).go := by
  unfold doL
  split
  · exact h
  · split
    · split
      · exact h
      · exact got_pos h (by omega)
    · split
      · split
        · exact h
        · exact lost_pos h
      · intro q hq
        cases hq
theorem fx_do (k o n : Int) : (doL A k o n).fx = A.fx ∧ (doL A k o n).n = A.n := by
  unfold doL
  repeat' split
  all_goals exact ⟨rfl, rfl⟩
theorem gi_new (n : Nat) (fx : List Value) (nm : Int) (hn : n ≤ 100000) : GI 0 ⟨n, fx, nm, 0, [], []⟩ :=
  ⟨by omega, Nat.le_refl _, Nat.le_refl _, fun i j _ hj => absurd hj (by simp), fun i hi => absurd hi (by simp), fun i hi => absurd hi (by simp), ⟨Int.le_refl 0, Int.le_refl 0⟩, hn⟩
theorem xr_new (R : Nat → Prop) (W : World) (n : Nat) (fx : List Value) (nm : Int) : Xr R W none none 0 0 ⟨n, fx, nm, 0, [], []⟩ := ⟨ps_nil W, ps_nil W, ow_none _ _, ow_none _ _⟩
theorem ex_store64 {oi : Oper} {a : Act} {w : World} {g : Nat} {x y : Operand} {v0 v1 v2 v3 v4 u0 u3 u4 : Value} {u1 u2 : Int} (ho : oi.op = .store 64 x y) (hx : a.eval x = .pointer (some ⟨g, 0, none⟩)) (hy : a.eval y = .agg #[u0, .int .i64 u1, .int .i64 u2, u3, u4]) (hg : w.heap[g]? = some (.cells #[v0, v1, v2, v3, v4] 64 (0, 0))) (h0 : u0.oneCell' = true) (h3 : u3.oneCell' = true) (h4 : u4.oneCell' = true) : (execOp a.eval oi).run Try.prog w = .ok .skip (w.setRow g #[u0, .int .i64 u1, .int .i64 u2, u3, u4]) := by
  unfold execOp
  simp only [ho, hx, hy, Instr.storeAt, Instr.sureAddr, Sem.run_bind, Sem.run_pure, Result.andThen_ok, run_storeVar_row w g 64 64 #[v0, v1, v2, v3, v4] #[u0, .int .i64 u1, .int .i64 u2, u3, u4] hg info64s rfl (row64_one h0 h3 h4)]
end
end Go.Proofs.Ytakbhnfmimnbhaa.Rn
