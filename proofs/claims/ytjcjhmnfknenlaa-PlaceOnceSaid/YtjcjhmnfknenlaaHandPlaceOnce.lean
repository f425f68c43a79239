/- PlaceOnce: the walk by hand. Conditions: none. -/
import Derived.Test.YtjcjhmnfknenlaaPl15
import Derived.Test.YtjcjhmnfknenlaaOkPlaceOnce
namespace Go.Proofs.Ytjcjhmnfknenlaa.placeOnceW
open Go.RowKit Go.Proofs.Ytjcjhmnfknenlaa.PPlaceOnce Go.Proofs.YtjcjhmnfknenlaaW.PrintWords Go.Proofs.YtjcjhmnfknenlaaW.PrintLast
open Pl
set_option linter.unusedVariables false
set_option linter.unusedSimpArgs false

theorem rd28 {l : List S28} {i : Nat} (hi : i < l.length) : rd_T28 l (i : Int) ∈ l := by
  unfold rd_T28
  rw [Int.toNat_natCast, List.getD_eq_getElem?_getD, List.getElem?_eq_getElem hi]
  exact List.getElem_mem hi
theorem cellB {W w2 : World} {a : Addr} {v : Value} (hb : Below W.heap.size W w2) (h : W.cell? a = some v) : w2.cell? a = some v := (hb.cell (World.block_lt_of_cell? _ _ h)).trans h
def M0 : List Int := (List.range 64).map fun _ => 0
theorem built46 : Try.prog.built 46 [] = some (mcells M0).toArray := by kernel_rfl
theorem wpl_build46 {ops : Array Oper} {rest : List Oper} {o : Oper} {a : Act} {w : World} {Q : Exit → Act → World → Prop} (hg : o.guard = none) (ho : o.op = .build 46 #[])
    (h : wpList Try.prog ops Q rest (a.put o.dst (.agg (mcells M0).toArray)) w) : wpList Try.prog ops Q (o :: rest) a w := by
  have hc : Try.prog.built 46 ((#[] : Array (Nat × Operand)).map fun (i, x) => (i, a.eval x)).toList = some (mcells M0).toArray := by
    simp only [List.map_toArray, List.map_nil]
    exact built46
  refine wpList_build hg 46 #[] ho (by rw [hc]; rfl) ?_
  rw [hc]
  exact h
theorem m0_sz : (Try.prog.info? 46).map (·.size) = some (mcells M0).toArray.size := by kernel_rfl
theorem m0_one : (mcells M0).toArray.all (·.oneCell') = true := by kernel_rfl
theorem below_rowM {b g : Nat} {w0 w : World} (hb : Below b w0 w) (hg : b ≤ g) (cs : Array Value) : Below b w0 (w.setRow g cs) :=
  hb.trans ⟨rfl, rfl, rfl, by simp [World.setRow], fun k hk => setRow_other w g k cs (by omega)⟩
theorem own_rowM {W : World} {base g n : Nat} {v : Value} {xs : List Value} {x cs : Array Value} (h : W.ownsRow base 3 1 v n xs) (hg : W.heap[g]? = some (.cells x 46 (0, 0))) : (W.setRow g cs).ownsRow base 3 1 v n xs :=
  own_move h (fun k hk => setRow_other W g k cs (fun e => own_ne h hg (by decide) (by rw [hk, e])))
theorem own_rd {W : World} {base n c : Nat} {A : Option Addr} {xs : List Int} (h : W.ownsRow base 3 1 (.slice A n c) n (nums .i64 xs)) : ReadsInt W .i64 A n xs := by
  obtain ⟨A', c', e, hr⟩ := own_reads h
  injection e with e1 e2 e3
  subst e1
  exact hr
set_option maxHeartbeats 16000000 in
set_option maxRecDepth 100000 in
theorem walk (a0 : Int) (A1 : Option Addr) (c1 : Nat) (l1 : List (S28)) (w : World) (hr1 : Kd.C k28 w A1 l1.length l1) (hc1 : l1.length ≤ c1) (w0 : (fun x => (Lit.int .i64 x).wf = true) a0) (w1 : (fun l => (∀ a ∈ l, (ok28) a) ∧ l.length * 24 ≤ 140737488351232) l1) :
    Calls Try.prog 5 #[.int .i64 a0, .slice A1 l1.length c1] w fun e w' => e = .returned (.bool true) ∧ Below w.heap.size w w' := by
  have HR := Aside0.mk hr1
  have HOK := Aside0.mk (show ∀ a ∈ l1, ok28 a from w1.1)
  have hu28 := Try.underlying28
  have hu46 := Try.underlying46
  clear hr1 hc1 w0 w1
  obtain ⟨n, hn⟩ : ∃ n, n = l1.length := ⟨_, rfl⟩
  rw [← hn] at HR ⊢
  have HN := Aside0.mk hn
  clear hn
  go_enter Try.func5, Try.ntmps5
  go_upto_block 0 with (go_at_call 7; (refine (sp_new w a0).mono ?_); rintro e wa ⟨gp, nw, rfl, h1, h2, h3⟩; have S0 := Aside0.mk h1; have I0 := Aside0.mk h2; have W0 := Aside0.mk h3; clear h1 h2 h3)
  go_wp2
  go_loopg [6] n (fun kq v6 w' => ∃ (i : Nat) (A : Pa), v6 = .int .i64 (i : Int) ∧ Aside0 (i + kq = n) ∧ Aside0 (i ≤ 80) ∧ Aside0 (Sp w w' gp A) ∧ Aside0 (Inv A) ∧ Aside0 (WB (i : Int) A))
  case atStart => exact ⟨0, _, rfl, ⟨by omega⟩, ⟨by omega⟩, S0, I0, W0⟩
  case round =>
    clear S0 I0 W0
    obtain ⟨i, A, rfl, HK, HI80, HS, HI, HW⟩ := hrel
    by_cases hgo : i < n ∧ i < 80
    · rcases gk with _ | k1
      · exact absurd hgo.1 (by have := HK.out; omega)
      have hin := hgo.1
      have d1 : decide ((i : Int) < (n : Int)) = true := decide_eq_true (by omega)
      have d2 : decide (i < n) = true := decide_eq_true hin
      have d3 : decide ((i : Int) < 80) = true := decide_eq_true (by omega)
      have d4 : decide (i < 80) = true := decide_eq_true hgo.2
      have p1 : (0 ≤ (i : Int)) = True := eq_true (by omega)
      have p2 : ((i : Int) < (n : Int)) = True := eq_true (by omega)
      have HI2 := Aside0.mk hgo.2
      have hmem := rd28 (l := l1) (i := i) (by rw [← HN.out]; exact hin)
      have hok := HOK.out _ hmem
      have WT := Aside0.mk (show (Lit.int .i64 (rd_T28 l1 (i : Int)).f2).wf = true from hok.2.2)
      obtain ⟨ad, ea, x0, x1, x2⟩ := at_T28 HR.out (i : Int) (by omega) (by omega)
      subst ea
      rw [Int.toNat_natCast] at x0 x1 x2
      have y0 := cellB HS.out.hb x0
      have y1 := cellB HS.out.hb x1
      have y2 := cellB HS.out.hb x2
      clear hmem hok hgo hin x0 x1 x2
      obtain ⟨k, hk⟩ : ∃ k, k = (rd_T28 l1 (i : Int)).f0 := ⟨_, rfl⟩
      obtain ⟨f, hf⟩ : ∃ f, f = (rd_T28 l1 (i : Int)).f1 := ⟨_, rfl⟩
      obtain ⟨t, ht⟩ : ∃ t, t = (rd_T28 l1 (i : Int)).f2 := ⟨_, rfl⟩
      rw [← hk] at y0
      rw [← hf] at y1
      rw [← ht] at y2 WT
      clear hk hf ht
      have ew : Aside0 (wrap64 ((i : Int) + 1) = (i : Int) + 1) := ⟨by have h2 := HI2.out; unfold wrap64; omega⟩
      have HI3 := Aside0.mk (HI.out.do_ HW.out (by omega) k f t)
      go_upto_region 8 with (go_at_call 8; (refine (sp_do HS.out HI.out HW.out (by have := HI2.out; omega) k f WT.out).mono ?_); rintro e wb ⟨rfl, h⟩; have S3 := Aside0.mk h; clear h)
      have IA := Aside0.mk HI3.out.1
      have WA := Aside0.mk HI3.out.2.2
      clear y0 y1 y2 HS HI HW HI3 p1 p2 d1 d2 d3 d4
      generalize (doA A k f t).1 = A2 at *
      clear WT
      have HGL := Aside0.mk (sp_global S3.out)
      go_upto_region 9 with (first
        | (refine wpl_build46 rfl rfl ?_)
        | (go_at_call 18; (refine HGL.out.mono ?_); rintro e wc ⟨v, rfl, hb, ho⟩; obtain ⟨AG, cG0, rfl⟩ := own_slice ho; have HBG := Aside0.mk hb; have HOG := Aside0.mk ho; clear hb ho)
        | ((with_reducible refine gate_dst (N := 7) rfl ?_); refine box_event ?hg (N := 7) ?hd (cs := (mcells M0).toArray) (t := 46) ?hr ?_; (case hd => rfl); (case hg => rfl); (case hr => first | (go_simp; done) | (go_simp; rfl)); intro gm hg wd hbox hb; have HBM := Aside0.mk hb; have HGM := Aside0.mk hg; have BXM := Aside0.mk hbox; clear hbox hb hg)
        | (refine wpList_plain rfl fun _ hK => wp_store_row 46 (.tmp 7) (.tmp 32) rfl gm (mcells M0).toArray rfl rfl 46 (mcells M0).toArray BXM.out m0_sz rfl m0_one (hK _ _ ?_)))
      have HGE := Aside0.mk (show wb.heap.size ≤ gm from by have h1 := HGM.out; have h2 := HBG.out.size; omega)
      have HMD0 := Aside0.mk (mid_new (gm := gm) (M := M0) S3.out (show Below wb.heap.size wb (wd.setRow gm (mcells M0).toArray) from below_rowM (below_step HBG.out HBM.out) HGE.out _) (own_rowM (pw_own_below HOG.out HBM.out) BXM.out) (setRow_heap _ _ _ _ _ _ BXM.out) HGE.out)
      clear HGL HBG HOG HBM HGM BXM
      generalize wd.setRow gm (mcells M0).toArray = we at *
      have HAN8 := Aside0.mk HMD0.out.pl.n8
      have HB0 := Aside0.mk (show wb.heap.size ≤ we.heap.size from HMD0.out.b2)
      obtain ⟨BB, hBB⟩ : ∃ b, b = wb.heap.size := ⟨_, rfl⟩
      rw [← hBB] at HMD0 HGE HB0
      clear hBB
      have HLST := Aside0.mk (show Mid w we BB gp gm A2 (.slice AG A2.gl.length cG0) (allN A2 0) M0 from HMD0.out)
      clear HMD0
      go_upto_block 2 with (fail)
      go_wp2
      go_loopg [8, 9] A2.n (fun kq v8 v9 w' => ∃ (j : Nat) (AJ : Option Addr) (cJ : Nat), v8 = .slice AJ (allN A2 j).length cJ ∧ v9 = .int .i64 (j : Int) ∧ Aside0 (j + kq = A2.n) ∧ Aside0 (Mid w w' BB gp gm A2 (.slice AJ (allN A2 j).length cJ) (allN A2 j) M0))
      case atStart => exact ⟨0, AG, cG0, rfl, rfl, ⟨by omega⟩, HLST⟩
      case round =>
        clear HLST
        obtain ⟨j, AJ, cJ, rfl, rfl, HJ, HMJ⟩ := hrel
        rcases gk with _ | k2
        · have HE := Aside0.mk (show j = A2.n from by have h1 := HJ.out; omega)
          have d5 : decide ((j : Int) < (A2.n : Int)) = false := decide_eq_false (by have := HE.out; omega)
          have d6 : decide (j < A2.n) = false := decide_eq_false (by have := HE.out; omega)
          obtain ⟨L, hL⟩ : ∃ L, L = allN A2 j := ⟨_, rfl⟩
          have HL1 := Aside0.mk (show ∀ y, L.count y ≤ 1 from by rw [hL]; exact allN_one IA.out (by have := HE.out; omega))
          have HLW := Aside0.mk (show ∀ y, y ∈ L → rg y ∧ A2.wh y.toNat ≠ 0 from by rw [hL]; exact fun y hy => allN_wh IA.out (by have := HE.out; omega) hy)
          have HLL := Aside0.mk (show L.length ≤ 64 from by rw [hL]; exact allN_len IA.out (by have := HE.out; omega))
          rw [← hL] at HMJ
          try rw [← hL]
          clear hL
          have HMK0 := Aside0.mk (show Mid w wr BB gp gm A2 (.slice AJ L.length cJ) L (metM L 0) from by rw [metM_zero]; exact HMJ.out)
          obtain ⟨N, hN⟩ : ∃ N, N = L.length := ⟨_, rfl⟩
          rw [← hN] at HMK0 HLL
          try rw [← hN]
          have HNL := Aside0.mk hN
          clear hN HMJ
          go_upto_block 4 with (go_at_call 10; (refine (mid_workers HMK0.out).mono ?_); rintro e wm ⟨rfl, hw⟩; subst hw)
          clear d5 d6 HE HJ
          go_wp2
          go_loopg [11] N (fun kq v11 w' => ∃ (k : Nat), v11 = .int .i64 (k : Int) ∧ Aside0 (k + kq = N) ∧ Aside0 (Mid w w' BB gp gm A2 (.slice AJ N cJ) L (metM L k)))
          case atStart => exact ⟨0, rfl, ⟨by omega⟩, HMK0⟩
          case round =>
            clear HMK0
            obtain ⟨k, rfl, HKK, HMD⟩ := hrel
            rcases gk with _ | k3
            · have d7 : decide ((k : Int) < (N : Int)) = false := decide_eq_false (by have := HKK.out; omega)
              have d8 : decide (k < N) = false := decide_eq_false (by have := HKK.out; omega)
              have S9 := Aside0.mk HMD.out.sp
              go_wp2
              go_roundg k1
              case measure => omega
              case rel => exact ⟨i + 1, _, by rw [ew.out]; simp, ⟨by have := HK.out; omega⟩, ⟨by have := HI2.out; omega⟩, S9, IA, WA⟩
            · have HKL := Aside0.mk (show k < L.length from by have h1 := HKK.out; have h2 := HNL.out; omega)
              have d7 : decide ((k : Int) < (N : Int)) = true := decide_eq_true (by have := HKK.out; omega)
              have d8 : decide (k < N) = true := decide_eq_true (by have := HKK.out; omega)
              have p3 : (0 ≤ (k : Int)) = True := eq_true (by omega)
              have p4 : ((k : Int) < (N : Int)) = True := eq_true (by have := HKK.out; omega)
              have ew3 : Aside0 (wrap64 ((k : Int) + 1) = (k : Int) + 1) := ⟨by have h2 := HLL.out; have h3 := HKK.out; unfold wrap64; omega⟩
              have hmx : rd L (k : Int) ∈ L := by rw [rd_at HKL.out]; exact List.getElem_mem _
              have hrg := HLW.out _ hmx
              obtain ⟨x, hx⟩ : ∃ x : Nat, rd L (k : Int) = (x : Int) := ⟨(rd L (k : Int)).toNat, by have := hrg.1.1; omega⟩
              rw [hx] at hrg
              have HX := Aside0.mk hx
              have HX64 := Aside0.mk (show x < 64 from by have := hrg.1.2; omega)
              have HWN := Aside0.mk (show A2.wh x ≠ 0 from by have h1 := hrg.2; rwa [Int.toNat_natCast] at h1)
              have HNB := Aside0.mk (show (x : Int) ∉ L.take k from by have h1 := not_before HL1.out HKL.out; rwa [hx] at h1)
              clear hmx hrg hx
              have HMR := Aside0.mk HMD.out
              replace HMD := Aside0.mk (show Mid w wr.drew BB gp gm A2 (.slice AJ N cJ) L (metM L k) from HMD.out.below (below_drew (Below.refl _ _)))
              have HRI := Aside0.mk (show ReadsInt wr.drew .i64 AJ N L from by
                obtain ⟨A', c', e, hr⟩ := own_reads HMD.out.own
                injection e with e2 e3 e4
                subst e2
                rw [← e3] at hr
                exact hr)
              obtain ⟨ad, ea, x0⟩ := HRI.out.at_ (k : Int) (by omega) (by have := HKK.out; omega)
              subst ea
              rw [Int.toNat_natCast, HX.out] at x0
              have X0 := Aside0.mk x0
              have X1 := Aside0.mk (show wr.drew.cell? ⟨gm, x, none⟩ = some (.int .i64 0) from (blk_cell HMD.out.met x).trans (metM_get HX64.out HNB.out))
              have d9 : decide ((x : Int) < 0) = false := decide_eq_false (by omega)
              have d10 : decide ((63 : Int) < (x : Int)) = false := decide_eq_false (by have := HX64.out; omega)
              have d11 : decide (63 < x) = false := decide_eq_false (by have := HX64.out; omega)
              have p5 : (0 ≤ (x : Int)) = True := eq_true (by omega)
              have p6 : ((x : Int) < 64) = True := eq_true (by have := HX64.out; omega)
              have HWH := Aside0.mk (mid_where HMD.out IA.out (x : Int))
              have HWV := Aside0.mk (show wher A2 (x : Int) = A2.wh x from by unfold wher; rw [if_pos (by have := HX64.out; omega), Int.toNat_natCast])
              rw [HWV.out] at HWH
              have d12 : (A2.wh x == 0) = false := beq_eq_false_iff_ne.2 HWN.out
              have HAL := Aside0.mk (mid_all HMD.out IA.out)
              have ea := shr1 (M := allS A2) (t := x) (Gs.setOf_top _ (by decide)) HX64.out (by
                unfold allS
                rw [Gs.tb_setOf, decide_eq_true HX64.out]
                unfold inB
                rw [decide_eq_true (by have h1 := IA.out.wh x HX64.out; have h2 := HWN.out; omega)]
                rfl)
              clear x0 HWN HRI HWV
              generalize A2.wh x = wv at *
              generalize allS A2 = MS at *
              go_upto_region 19 with (fail)
              refine start_ (n := 42) (S := fun w' => w'.cell? (ad.add k) = some (.int .i64 (x : Int)) ∧ w'.cell? ⟨gm, x, none⟩ = some (.int .i64 0)) (ds := []) #[false, false, false, false, false, false, false, false, false, false, false, false, false, false, false, false, false, false, false, false, false, false, false, false, false, false, false, false, false, false, false, false, false, false, false, false, false, false, false, false, false, false] (by kernel_rfl) rfl rfl ⟨X0.out, X1.out⟩ (fun hHeld => ?_)
              refine pure_ (i := 0) (N := some 61) (v := ?_) (a' := ?_) #[true, false, false, false, false, false, false, false, false, false, false, false, false, false, false, false, false, false, false, false, false, false, false, false, false, false, false, false, false, false, false, false, false, false, false, false, false, false, false, false, false, false] rfl rfl (by kernel_rfl) (fun _ _ _ h => h) (Or.inl ⟨by rfl, ?_⟩) ?_ ?_
              rotate_left
              · intro w'
                go_simp
                with_reducible rfl
              rotate_left
              · simp only [Act.put, List.setIfInBounds_toArray, List.set_cons_zero, List.set_cons_succ, i64_w, i32_w]
                rfl
              refine pure_ (i := 1) (N := some 62) (v := ?_) (a' := ?_) #[true, true, false, false, false, false, false, false, false, false, false, false, false, false, false, false, false, false, false, false, false, false, false, false, false, false, false, false, false, false, false, false, false, false, false, false, false, false, false, false, false, false] rfl rfl (by kernel_rfl) (fun _ _ _ h => h) (Or.inl ⟨by rfl, ?_⟩) ?_ ?_
              rotate_left
              · intro w'
                go_simp
                with_reducible rfl
              rotate_left
              · simp only [Act.put, List.setIfInBounds_toArray, List.set_cons_zero, List.set_cons_succ, i64_w, i32_w]
                rfl
              refine pure_ (i := 2) (N := some 63) (v := ?_) (a' := ?_) #[true, true, true, false, false, false, false, false, false, false, false, false, false, false, false, false, false, false, false, false, false, false, false, false, false, false, false, false, false, false, false, false, false, false, false, false, false, false, false, false, false, false] rfl rfl (by kernel_rfl) (fun _ _ _ h => h) (Or.inl ⟨by rfl, ?_⟩) ?_ ?_
              rotate_left
              · intro w'
                go_simp
                with_reducible rfl
              rotate_left
              · simp only [Act.put, List.setIfInBounds_toArray, List.set_cons_zero, List.set_cons_succ, i64_w, i32_w]
                rfl
              refine take_ (i := 3) (N := some 64) (v := ?_) (a' := ?_) #[true, true, true, true, false, false, false, false, false, false, false, false, false, false, false, false, false, false, false, false, false, false, false, false, false, false, false, false, false, false, false, false, false, false, false, false, false, false, false, false, false, false] rfl rfl (by kernel_rfl) (fun _ _ _ h => h) (Or.inl ⟨by rfl, ?_⟩) hHeld ?_ ?_
              rotate_left
              · rintro w' ⟨s0, s1⟩
                go_simp
                with_reducible rfl
              rotate_left
              · simp only [Act.put, List.setIfInBounds_toArray, List.set_cons_zero, List.set_cons_succ, i64_w, i32_w]
                rfl
              refine pure_ (i := 4) (N := some 65) (v := ?_) (a' := ?_) #[true, true, true, true, true, false, false, false, false, false, false, false, false, false, false, false, false, false, false, false, false, false, false, false, false, false, false, false, false, false, false, false, false, false, false, false, false, false, false, false, false, false] rfl rfl (by kernel_rfl) (fun _ _ _ h => h) (Or.inl ⟨by rfl, ?_⟩) ?_ ?_
              rotate_left
              · intro w'
                go_simp
                with_reducible rfl
              rotate_left
              · simp only [Act.put, List.setIfInBounds_toArray, List.set_cons_zero, List.set_cons_succ, i64_w, i32_w]
                rfl
              refine pure_ (i := 5) (N := some 66) (v := ?_) (a' := ?_) #[true, true, true, true, true, true, false, false, false, false, false, false, false, false, false, false, false, false, false, false, false, false, false, false, false, false, false, false, false, false, false, false, false, false, false, false, false, false, false, false, false, false] rfl rfl (by kernel_rfl) (fun _ _ _ h => h) (Or.inl ⟨by rfl, ?_⟩) ?_ ?_
              rotate_left
              · intro w'
                go_simp
                with_reducible rfl
              rotate_left
              · simp only [Act.put, List.setIfInBounds_toArray, List.set_cons_zero, List.set_cons_succ, i64_w, i32_w]
                rfl
              refine pure_ (i := 6) (N := some 67) (v := ?_) (a' := ?_) #[true, true, true, true, true, true, true, false, false, false, false, false, false, false, false, false, false, false, false, false, false, false, false, false, false, false, false, false, false, false, false, false, false, false, false, false, false, false, false, false, false, false] rfl rfl (by kernel_rfl) (fun _ _ _ h => h) (Or.inl ⟨by rfl, ?_⟩) ?_ ?_
              rotate_left
              · intro w'
                go_simp
                with_reducible rfl
              rotate_left
              · simp only [Act.put, List.setIfInBounds_toArray, List.set_cons_zero, List.set_cons_succ, i64_w, i32_w]
                rfl
              refine pure_ (i := 7) (N := some 68) (v := ?_) (a' := ?_) #[true, true, true, true, true, true, true, true, false, false, false, false, false, false, false, false, false, false, false, false, false, false, false, false, false, false, false, false, false, false, false, false, false, false, false, false, false, false, false, false, false, false] rfl rfl (by kernel_rfl) (fun _ _ _ h => h) (Or.inl ⟨by rfl, ?_⟩) ?_ ?_
              rotate_left
              · intro w'
                go_simp
                with_reducible rfl
              rotate_left
              · simp only [Act.put, List.setIfInBounds_toArray, List.set_cons_zero, List.set_cons_succ, i64_w, i32_w]
                rfl
              refine pure_ (i := 8) (N := some 69) (v := ?_) (a' := ?_) #[true, true, true, true, true, true, true, true, true, false, false, false, false, false, false, false, false, false, false, false, false, false, false, false, false, false, false, false, false, false, false, false, false, false, false, false, false, false, false, false, false, false] rfl rfl (by kernel_rfl) (fun _ _ _ h => h) (Or.inl ⟨by rfl, ?_⟩) ?_ ?_
              rotate_left
              · intro w'
                go_simp
                with_reducible rfl
              rotate_left
              · simp only [Act.put, List.setIfInBounds_toArray, List.set_cons_zero, List.set_cons_succ, i64_w, i32_w]
                rfl
              refine take_ (i := 9) (N := some 70) (v := ?_) (a' := ?_) #[true, true, true, true, true, true, true, true, true, true, false, false, false, false, false, false, false, false, false, false, false, false, false, false, false, false, false, false, false, false, false, false, false, false, false, false, false, false, false, false, false, false] rfl rfl (by kernel_rfl) (fun _ _ _ h => h) (Or.inl ⟨by rfl, ?_⟩) hHeld ?_ ?_
              rotate_left
              · rintro w' ⟨s0, s1⟩
                go_simp
                with_reducible rfl
              rotate_left
              · simp only [Act.put, List.setIfInBounds_toArray, List.set_cons_zero, List.set_cons_succ, i64_w, i32_w]
                rfl
              refine pure_ (i := 10) (N := some 71) (v := ?_) (a' := ?_) #[true, true, true, true, true, true, true, true, true, true, true, false, false, false, false, false, false, false, false, false, false, false, false, false, false, false, false, false, false, false, false, false, false, false, false, false, false, false, false, false, false, false] rfl rfl (by kernel_rfl) (fun _ _ _ h => h) (Or.inl ⟨by rfl, ?_⟩) ?_ ?_
              rotate_left
              · intro w'
                go_simp
                with_reducible rfl
              rotate_left
              · simp only [Act.put, List.setIfInBounds_toArray, List.set_cons_zero, List.set_cons_succ, i64_w, i32_w]
                rfl
              refine pure_ (i := 11) (N := some 72) (v := ?_) (a' := ?_) #[true, true, true, true, true, true, true, true, true, true, true, true, false, false, false, false, false, false, false, false, false, false, false, false, false, false, false, false, false, false, false, false, false, false, false, false, false, false, false, false, false, false] rfl rfl (by kernel_rfl) (fun _ _ _ h => h) (Or.inl ⟨by rfl, ?_⟩) ?_ ?_
              rotate_left
              · intro w'
                go_simp
                with_reducible rfl
              rotate_left
              · simp only [Act.put, List.setIfInBounds_toArray, List.set_cons_zero, List.set_cons_succ, i64_w, i32_w]
                rfl
              refine pure_ (i := 12) (N := some 73) (v := ?_) (a' := ?_) #[true, true, true, true, true, true, true, true, true, true, true, true, true, false, false, false, false, false, false, false, false, false, false, false, false, false, false, false, false, false, false, false, false, false, false, false, false, false, false, false, false, false] rfl rfl (by kernel_rfl) (fun _ _ _ h => h) (Or.inl ⟨by rfl, ?_⟩) ?_ ?_
              rotate_left
              · intro w'
                go_simp
                with_reducible rfl
              rotate_left
              · simp only [Act.put, List.setIfInBounds_toArray, List.set_cons_zero, List.set_cons_succ, i64_w, i32_w]
                rfl
              refine pure_ (i := 13) (N := some 74) (v := ?_) (a' := ?_) #[true, true, true, true, true, true, true, true, true, true, true, true, true, true, false, false, false, false, false, false, false, false, false, false, false, false, false, false, false, false, false, false, false, false, false, false, false, false, false, false, false, false] rfl rfl (by kernel_rfl) (fun _ _ _ h => h) (Or.inl ⟨by rfl, ?_⟩) ?_ ?_
              rotate_left
              · intro w'
                go_simp
                with_reducible rfl
              rotate_left
              · simp only [Act.put, List.setIfInBounds_toArray, List.set_cons_zero, List.set_cons_succ, i64_w, i32_w]
                rfl
              refine pure_ (i := 14) (N := some 75) (v := ?_) (a' := ?_) #[true, true, true, true, true, true, true, true, true, true, true, true, true, true, true, false, false, false, false, false, false, false, false, false, false, false, false, false, false, false, false, false, false, false, false, false, false, false, false, false, false, false] rfl rfl (by kernel_rfl) (fun _ _ _ h => h) (Or.inl ⟨by rfl, ?_⟩) ?_ ?_
              rotate_left
              · intro w'
                go_simp
                with_reducible rfl
              rotate_left
              · simp only [Act.put, List.setIfInBounds_toArray, List.set_cons_zero, List.set_cons_succ, i64_w, i32_w]
                rfl
              refine pure_ (i := 15) (N := some 76) (v := ?_) (a' := ?_) #[true, true, true, true, true, true, true, true, true, true, true, true, true, true, true, true, false, false, false, false, false, false, false, false, false, false, false, false, false, false, false, false, false, false, false, false, false, false, false, false, false, false] rfl rfl (by kernel_rfl) (fun _ _ _ h => h) (Or.inl ⟨by rfl, ?_⟩) ?_ ?_
              rotate_left
              · intro w'
                go_simp
                with_reducible rfl
              rotate_left
              · simp only [Act.put, List.setIfInBounds_toArray, List.set_cons_zero, List.set_cons_succ, i64_w, i32_w]
                rfl
              refine take_ (i := 16) (N := some 77) (v := ?_) (a' := ?_) #[true, true, true, true, true, true, true, true, true, true, true, true, true, true, true, true, true, false, false, false, false, false, false, false, false, false, false, false, false, false, false, false, false, false, false, false, false, false, false, false, false, false] rfl rfl (by kernel_rfl) (fun _ _ _ h => h) (Or.inl ⟨by rfl, ?_⟩) hHeld ?_ ?_
              rotate_left
              · rintro w' ⟨s0, s1⟩
                go_simp
                with_reducible rfl
              rotate_left
              · simp only [Act.put, List.setIfInBounds_toArray, List.set_cons_zero, List.set_cons_succ, i64_w, i32_w]
                rfl
              refine pure_ (i := 17) (N := some 78) (v := ?_) (a' := ?_) #[true, true, true, true, true, true, true, true, true, true, true, true, true, true, true, true, true, true, false, false, false, false, false, false, false, false, false, false, false, false, false, false, false, false, false, false, false, false, false, false, false, false] rfl rfl (by kernel_rfl) (fun _ _ _ h => h) (Or.inl ⟨by rfl, ?_⟩) ?_ ?_
              rotate_left
              · intro w'
                go_simp
                with_reducible rfl
              rotate_left
              · simp only [Act.put, List.setIfInBounds_toArray, List.set_cons_zero, List.set_cons_succ, i64_w, i32_w]
                rfl
              refine take_ (i := 18) (N := some 79) (v := ?_) (a' := ?_) #[true, true, true, true, true, true, true, true, true, true, true, true, true, true, true, true, true, true, true, false, false, false, false, false, false, false, false, false, false, false, false, false, false, false, false, false, false, false, false, false, false, false] rfl rfl (by kernel_rfl) (fun _ _ _ h => h) (Or.inl ⟨by rfl, ?_⟩) hHeld ?_ ?_
              rotate_left
              · rintro w' ⟨s0, s1⟩
                go_simp
                with_reducible rfl
              rotate_left
              · simp only [Act.put, List.setIfInBounds_toArray, List.set_cons_zero, List.set_cons_succ, i64_w, i32_w]
                rfl
              refine pure_ (i := 19) (N := some 80) (v := ?_) (a' := ?_) #[true, true, true, true, true, true, true, true, true, true, true, true, true, true, true, true, true, true, true, true, false, false, false, false, false, false, false, false, false, false, false, false, false, false, false, false, false, false, false, false, false, false] rfl rfl (by kernel_rfl) (fun _ _ _ h => h) (Or.inl ⟨by rfl, ?_⟩) ?_ ?_
              rotate_left
              · intro w'
                go_simp
                with_reducible rfl
              rotate_left
              · simp only [Act.put, List.setIfInBounds_toArray, List.set_cons_zero, List.set_cons_succ, i64_w, i32_w]
                rfl
              refine pure_ (i := 20) (N := some 81) (v := ?_) (a' := ?_) #[true, true, true, true, true, true, true, true, true, true, true, true, true, true, true, true, true, true, true, true, true, false, false, false, false, false, false, false, false, false, false, false, false, false, false, false, false, false, false, false, false, false] rfl rfl (by kernel_rfl) (fun _ _ _ h => h) (Or.inl ⟨by rfl, ?_⟩) ?_ ?_
              rotate_left
              · intro w'
                go_simp
                with_reducible rfl
              rotate_left
              · simp only [Act.put, List.setIfInBounds_toArray, List.set_cons_zero, List.set_cons_succ, i64_w, i32_w]
                rfl
              refine pure_ (i := 21) (N := some 82) (v := ?_) (a' := ?_) #[true, true, true, true, true, true, true, true, true, true, true, true, true, true, true, true, true, true, true, true, true, true, false, false, false, false, false, false, false, false, false, false, false, false, false, false, false, false, false, false, false, false] rfl rfl (by kernel_rfl) (fun _ _ _ h => h) (Or.inl ⟨by rfl, ?_⟩) ?_ ?_
              rotate_left
              · intro w'
                go_simp
                with_reducible rfl
              rotate_left
              · simp only [Act.put, List.setIfInBounds_toArray, List.set_cons_zero, List.set_cons_succ, i64_w, i32_w]
                rfl
              refine pure_ (i := 22) (N := some 83) (v := ?_) (a' := ?_) #[true, true, true, true, true, true, true, true, true, true, true, true, true, true, true, true, true, true, true, true, true, true, true, false, false, false, false, false, false, false, false, false, false, false, false, false, false, false, false, false, false, false] rfl rfl (by kernel_rfl) (fun _ _ _ h => h) (Or.inl ⟨by rfl, ?_⟩) ?_ ?_
              rotate_left
              · intro w'
                go_simp
                with_reducible rfl
              rotate_left
              · simp only [Act.put, List.setIfInBounds_toArray, List.set_cons_zero, List.set_cons_succ, i64_w, i32_w]
                rfl
              refine pure_ (i := 23) (N := some 84) (v := ?_) (a' := ?_) #[true, true, true, true, true, true, true, true, true, true, true, true, true, true, true, true, true, true, true, true, true, true, true, true, false, false, false, false, false, false, false, false, false, false, false, false, false, false, false, false, false, false] rfl rfl (by kernel_rfl) (fun _ _ _ h => h) (Or.inl ⟨by rfl, ?_⟩) ?_ ?_
              rotate_left
              · intro w'
                go_simp
                with_reducible rfl
              rotate_left
              · simp only [Act.put, List.setIfInBounds_toArray, List.set_cons_zero, List.set_cons_succ, i64_w, i32_w]
                rfl
              refine pure_ (i := 24) (N := some 85) (v := ?_) (a' := ?_) #[true, true, true, true, true, true, true, true, true, true, true, true, true, true, true, true, true, true, true, true, true, true, true, true, true, false, false, false, false, false, false, false, false, false, false, false, false, false, false, false, false, false] rfl rfl (by kernel_rfl) (fun _ _ _ h => h) (Or.inl ⟨by rfl, ?_⟩) ?_ ?_
              rotate_left
              · intro w'
                go_simp
                with_reducible rfl
              rotate_left
              · simp only [Act.put, List.setIfInBounds_toArray, List.set_cons_zero, List.set_cons_succ, i64_w, i32_w]
                rfl
              refine pure_ (i := 25) (N := some 86) (v := ?_) (a' := ?_) #[true, true, true, true, true, true, true, true, true, true, true, true, true, true, true, true, true, true, true, true, true, true, true, true, true, true, false, false, false, false, false, false, false, false, false, false, false, false, false, false, false, false] rfl rfl (by kernel_rfl) (fun _ _ _ h => h) (Or.inl ⟨by rfl, ?_⟩) ?_ ?_
              rotate_left
              · intro w'
                go_simp
                with_reducible rfl
              rotate_left
              · simp only [Act.put, List.setIfInBounds_toArray, List.set_cons_zero, List.set_cons_succ, i64_w, i32_w]
                rfl
              refine take_ (i := 26) (N := some 87) (v := ?_) (a' := ?_) #[true, true, true, true, true, true, true, true, true, true, true, true, true, true, true, true, true, true, true, true, true, true, true, true, true, true, true, false, false, false, false, false, false, false, false, false, false, false, false, false, false, false] rfl rfl (by kernel_rfl) (fun _ _ _ h => h) (Or.inl ⟨by rfl, ?_⟩) hHeld ?_ ?_
              rotate_left
              · rintro w' ⟨s0, s1⟩
                go_simp
                with_reducible rfl
              rotate_left
              · simp only [Act.put, List.setIfInBounds_toArray, List.set_cons_zero, List.set_cons_succ, i64_w, i32_w]
                rfl
              refine one_ (i := 27) (N := some 88) #[true, true, true, true, true, true, true, true, true, true, true, true, true, true, true, true, true, true, true, true, true, true, true, true, true, true, true, true, false, false, false, false, false, false, false, false, false, false, false, false, false, false] rfl rfl (by kernel_rfl) (by decide) (fun K hK => ?_)
              refine goes_ Try.func20 (by kernel_rfl) rfl #[.pointer (some ⟨gp, 0, none⟩), .int .i64 (x : Int)] (by rfl) rfl rfl (by simp only [List.map_toArray, List.map_cons, List.map_nil]; rfl) ?_
              with_reducible refine (HWH.out).mono ?_
              rintro e wy ⟨rfl, hw⟩
              refine ⟨_, rfl, ?_⟩
              subst hw
              refine hK.out _ _ ⟨X0.out, X1.out⟩ (fun hHeld => ?_)
              clear hK K
              refine norm_ (a' := ?_) ?_ ?_
              rotate_left
              · show Act.put _ (some 88) _ = _
                simp only [Act.put, List.setIfInBounds_toArray, List.set_cons_zero, List.set_cons_succ, i64_w, i32_w]
                rfl
              refine pure_ (i := 28) (N := some 89) (v := ?_) (a' := ?_) #[true, true, true, true, true, true, true, true, true, true, true, true, true, true, true, true, true, true, true, true, true, true, true, true, true, true, true, true, true, false, false, false, false, false, false, false, false, false, false, false, false, false] rfl rfl (by kernel_rfl) (fun _ _ _ h => h) (Or.inl ⟨by rfl, ?_⟩) ?_ ?_
              rotate_left
              · intro w'
                go_simp
                with_reducible rfl
              rotate_left
              · simp only [Act.put, List.setIfInBounds_toArray, List.set_cons_zero, List.set_cons_succ, i64_w, i32_w]
                rfl
              refine pure_ (i := 29) (N := some 90) (v := ?_) (a' := ?_) #[true, true, true, true, true, true, true, true, true, true, true, true, true, true, true, true, true, true, true, true, true, true, true, true, true, true, true, true, true, true, false, false, false, false, false, false, false, false, false, false, false, false] rfl rfl (by kernel_rfl) (fun _ _ _ h => h) (Or.inl ⟨by rfl, ?_⟩) ?_ ?_
              rotate_left
              · intro w'
                go_simp
                with_reducible rfl
              rotate_left
              · simp only [Act.put, List.setIfInBounds_toArray, List.set_cons_zero, List.set_cons_succ, i64_w, i32_w]
                rfl
              refine pure_ (i := 30) (N := some 91) (v := ?_) (a' := ?_) #[true, true, true, true, true, true, true, true, true, true, true, true, true, true, true, true, true, true, true, true, true, true, true, true, true, true, true, true, true, true, true, false, false, false, false, false, false, false, false, false, false, false] rfl rfl (by kernel_rfl) (fun _ _ _ h => h) (Or.inl ⟨by rfl, ?_⟩) ?_ ?_
              rotate_left
              · intro w'
                go_simp
                with_reducible rfl
              rotate_left
              · simp only [Act.put, List.setIfInBounds_toArray, List.set_cons_zero, List.set_cons_succ, i64_w, i32_w]
                rfl
              refine pure_ (i := 31) (N := some 92) (v := ?_) (a' := ?_) #[true, true, true, true, true, true, true, true, true, true, true, true, true, true, true, true, true, true, true, true, true, true, true, true, true, true, true, true, true, true, true, true, false, false, false, false, false, false, false, false, false, false] rfl rfl (by kernel_rfl) (fun _ _ _ h => h) (Or.inl ⟨by rfl, ?_⟩) ?_ ?_
              rotate_left
              · intro w'
                go_simp
                with_reducible rfl
              rotate_left
              · simp only [Act.put, List.setIfInBounds_toArray, List.set_cons_zero, List.set_cons_succ, i64_w, i32_w]
                rfl
              refine pure_ (i := 33) (N := some 94) (v := ?_) (a' := ?_) #[true, true, true, true, true, true, true, true, true, true, true, true, true, true, true, true, true, true, true, true, true, true, true, true, true, true, true, true, true, true, true, true, false, true, false, false, false, false, false, false, false, false] rfl rfl (by kernel_rfl) (fun _ _ _ h => h) (Or.inl ⟨by rfl, ?_⟩) ?_ ?_
              rotate_left
              · intro w'
                go_simp
                with_reducible rfl
              rotate_left
              · simp only [Act.put, List.setIfInBounds_toArray, List.set_cons_zero, List.set_cons_succ, i64_w, i32_w]
                rfl
              refine pure_ (i := 34) (N := some 95) (v := ?_) (a' := ?_) #[true, true, true, true, true, true, true, true, true, true, true, true, true, true, true, true, true, true, true, true, true, true, true, true, true, true, true, true, true, true, true, true, false, true, true, false, false, false, false, false, false, false] rfl rfl (by kernel_rfl) (fun _ _ _ h => h) (Or.inl ⟨by rfl, ?_⟩) ?_ ?_
              rotate_left
              · intro w'
                go_simp
                with_reducible rfl
              rotate_left
              · simp only [Act.put, List.setIfInBounds_toArray, List.set_cons_zero, List.set_cons_succ, i64_w, i32_w]
                rfl
              refine pure_ (i := 35) (N := some 96) (v := ?_) (a' := ?_) #[true, true, true, true, true, true, true, true, true, true, true, true, true, true, true, true, true, true, true, true, true, true, true, true, true, true, true, true, true, true, true, true, false, true, true, true, false, false, false, false, false, false] rfl rfl (by kernel_rfl) (fun _ _ _ h => h) (Or.inl ⟨by rfl, ?_⟩) ?_ ?_
              rotate_left
              · intro w'
                go_simp
                with_reducible rfl
              rotate_left
              · simp only [Act.put, List.setIfInBounds_toArray, List.set_cons_zero, List.set_cons_succ, i64_w, i32_w]
                rfl
              refine take_ (i := 36) (N := some 97) (v := ?_) (a' := ?_) #[true, true, true, true, true, true, true, true, true, true, true, true, true, true, true, true, true, true, true, true, true, true, true, true, true, true, true, true, true, true, true, true, false, true, true, true, true, false, false, false, false, false] rfl rfl (by kernel_rfl) (fun _ _ _ h => h) (Or.inl ⟨by rfl, ?_⟩) hHeld ?_ ?_
              rotate_left
              · rintro w' ⟨s0, s1⟩
                go_simp
                with_reducible rfl
              rotate_left
              · simp only [Act.put, List.setIfInBounds_toArray, List.set_cons_zero, List.set_cons_succ, i64_w, i32_w]
                rfl
              refine pure_ (i := 37) (N := some 98) (v := ?_) (a' := ?_) #[true, true, true, true, true, true, true, true, true, true, true, true, true, true, true, true, true, true, true, true, true, true, true, true, true, true, true, true, true, true, true, true, false, true, true, true, true, true, false, false, false, false] rfl rfl (by kernel_rfl) (fun _ _ _ h => h) (Or.inl ⟨by rfl, ?_⟩) ?_ ?_
              rotate_left
              · intro w'
                go_simp
                with_reducible rfl
              rotate_left
              · simp only [Act.put, List.setIfInBounds_toArray, List.set_cons_zero, List.set_cons_succ, i64_w, i32_w]
                rfl
              refine one_ (i := 32) (N := some 93) #[true, true, true, true, true, true, true, true, true, true, true, true, true, true, true, true, true, true, true, true, true, true, true, true, true, true, true, true, true, true, true, true, true, true, true, true, true, true, false, false, false, false] rfl rfl (by kernel_rfl) (by decide) (fun K hK => ?_)
              refine goes_ Try.func9 (by kernel_rfl) rfl #[.pointer (some ⟨gp, 0, none⟩)] (by rfl) rfl rfl (by simp only [List.map_toArray, List.map_cons, List.map_nil]; rfl) ?_
              with_reducible refine (HAL.out).mono ?_
              rintro e wz ⟨rfl, ⟨nd, rfl⟩⟩
              refine ⟨_, rfl, ?_⟩
              have HM2 := Aside0.mk (HMR.out.below (pw_below_drewN (Below.refl _ _) (1 + nd)))
              refine hK.out _ _ ⟨X0.out, X1.out⟩ (fun hHeld => ?_)
              clear hK K
              refine norm_ (a' := ?_) ?_ ?_
              rotate_left
              · show Act.put _ (some 93) _ = _
                simp only [Act.put, List.setIfInBounds_toArray, List.set_cons_zero, List.set_cons_succ, i64_w, i32_w]
                rfl
              refine pure_ (i := 38) (N := some 99) (v := ?_) (a' := ?_) #[true, true, true, true, true, true, true, true, true, true, true, true, true, true, true, true, true, true, true, true, true, true, true, true, true, true, true, true, true, true, true, true, true, true, true, true, true, true, true, false, false, false] rfl rfl (by kernel_rfl) (fun _ _ _ h => h) (Or.inl ⟨by rfl, ?_⟩) ?_ ?_
              rotate_left
              · intro w'
                go_simp
                with_reducible rfl
              rotate_left
              · simp only [Act.put, List.setIfInBounds_toArray, List.set_cons_zero, List.set_cons_succ, i64_w, i32_w]
                rfl
              refine pure_ (i := 39) (N := some 100) (v := ?_) (a' := ?_) #[true, true, true, true, true, true, true, true, true, true, true, true, true, true, true, true, true, true, true, true, true, true, true, true, true, true, true, true, true, true, true, true, true, true, true, true, true, true, true, true, false, false] rfl rfl (by kernel_rfl) (fun _ _ _ h => h) (Or.inl ⟨by rfl, ?_⟩) ?_ ?_
              rotate_left
              · intro w'
                go_simp
                with_reducible rfl
              rotate_left
              · simp only [Act.put, List.setIfInBounds_toArray, List.set_cons_zero, List.set_cons_succ, i64_w, i32_w]
                rfl
              refine pure_ (i := 40) (N := some 101) (v := ?_) (a' := ?_) #[true, true, true, true, true, true, true, true, true, true, true, true, true, true, true, true, true, true, true, true, true, true, true, true, true, true, true, true, true, true, true, true, true, true, true, true, true, true, true, true, true, false] rfl rfl (by kernel_rfl) (fun _ _ _ h => h) (Or.inl ⟨by rfl, ?_⟩) ?_ ?_
              rotate_left
              · intro w'
                go_simp
                with_reducible rfl
              rotate_left
              · simp only [Act.put, List.setIfInBounds_toArray, List.set_cons_zero, List.set_cons_succ, i64_w, i32_w]
                rfl
              refine pure_ (i := 41) (N := some 102) (v := ?_) (a' := ?_) #[true, true, true, true, true, true, true, true, true, true, true, true, true, true, true, true, true, true, true, true, true, true, true, true, true, true, true, true, true, true, true, true, true, true, true, true, true, true, true, true, true, true] rfl rfl (by kernel_rfl) (fun _ _ _ h => h) (Or.inl ⟨by rfl, ?_⟩) ?_ ?_
              rotate_left
              · intro w'
                go_simp
                with_reducible rfl
              rotate_left
              · simp only [Act.put, List.setIfInBounds_toArray, List.set_cons_zero, List.set_cons_succ, i64_w, i32_w]
                rfl
              refine done_ (by kernel_rfl) ?_
              clear ea d12 HWH HAL
              have z0 : wr.cell? (ad.add k) = some (.int .i64 (x : Int)) := X0.out
              have z1 : wr.cell? ⟨gm, x, none⟩ = some (.int .i64 0) := X1.out
              have fz1 : wr.frozen? ⟨gm, x, none⟩ = false := blk_frozen HM2.out.met x
              go_wp2
              go_roundg k3
              case measure => omega
              case rel => exact ⟨k + 1, by rw [ew3.out]; simp, ⟨by have := HKK.out; omega⟩, ⟨HM2.out.put HX64.out HKL.out HX.out⟩⟩
        · have HJN := Aside0.mk (show j < A2.n from by have h1 := HJ.out; omega)
          have d5 : decide ((j : Int) < (A2.n : Int)) = true := decide_eq_true (by have := HJN.out; omega)
          have d6 : decide (j < A2.n) = true := decide_eq_true HJN.out
          have ew2 : Aside0 (wrap64 ((j : Int) + 1) = (j : Int) + 1) := ⟨by have h2 := HJN.out; have h4 := HAN8.out; unfold wrap64; omega⟩
          have HL64 := Aside0.mk (allN_len IA.out (i := j) (by have := HJN.out; omega))
          have HO64 := Aside0.mk (own_len IA.out HJN.out)
          have HSUC := Aside0.mk (show allN A2 (j + 1) = allN A2 j ++ A2.own j ++ onL A2 j from rfl)
          have HONL := Aside0.mk (show onL A2 j = if 0 ≤ on A2 (j : Int) then [on A2 (j : Int)] else [] from rfl)
          generalize allN A2 j = L at *
          go_upto_region 13 with (first
            | (go_at_call 10; (refine (mid_workers HMJ.out).mono ?_); rintro e wm ⟨rfl, hw⟩; subst hw)
            | (go_at_call 19; (refine (mid_own HMJ.out HJN.out).mono ?_); rintro e wo ⟨v2, rfl, hb, ho⟩; obtain ⟨A2o, c2o, rfl⟩ := own_slice ho; have HMO := Aside0.mk (HMJ.out.below hb); have HRO := Aside0.mk (own_rd ho); clear hb ho)
            | (at_builtin; refine Ap.list_app rfl (.tmp 41) (.tmp 44) 38 3 rfl BB .i64 8 Try.underlying38 Rg.info3 (by decide) (.slice AJ L.length cJ) L (A2.own j) A2o (A2.own j).length c2o rfl rfl HMO.out.own HRO.out HMO.out.b2 (by have h1 := HL64.out; have h2 := HO64.out; omega) ?_; intro v3 w3 hown hg hat; have HMA := Aside0.mk (HMO.out.app hown hg); clear hown hg hat))
          obtain ⟨L2, hL2⟩ : ∃ L2, L2 = L ++ A2.own j := ⟨_, rfl⟩
          rw [← hL2] at HMA HSUC
          have HL2 := Aside0.mk (show L2.length ≤ 128 from by rw [hL2, List.length_append]; have h1 := HL64.out; have h2 := HO64.out; omega)
          clear hL2 HMO HRO
          obtain ⟨A3, c3, e3⟩ := own_slice HMA.out.own
          subst e3
          by_cases h0 : 0 ≤ on A2 (j : Int)
          · have HSUC2 := Aside0.mk (show allN A2 (j + 1) = L2 ++ [on A2 (j : Int)] from by rw [HSUC.out, HONL.out, if_pos h0])
            have d7 : decide ((0 : Int) ≤ on A2 (j : Int)) = true := decide_eq_true h0
            have HONC := Aside0.mk (mid_on HMA.out IA.out (j : Int))
            clear h0 HSUC HONL
            generalize on A2 (j : Int) = t at *
            go_wp2_with (first
              | (go_at_call 11; (refine HONC.out.mono ?_); rintro e wp ⟨rfl, hw⟩; subst hw)
              | (at_builtin; refine Ap.list_app rfl (.tmp 51) (.tmp 53) 38 3 rfl BB .i64 8 Try.underlying38 Rg.info3 (by decide) (.slice A3 L2.length c3) L2 [t] (some ⟨wp.heap.size, 0, none⟩) 1 1 rfl rfl (HMA.out.below (below_alloc (Below.refl _ _) _)).own (by exact Ap.ReadsInt.one_at _ _ _ _ _ (by simp)) (HMA.out.below (below_alloc (Below.refl _ _) _)).b2 (by have h1 := HL2.out; omega) ?_; intro v5 w5 hown hg hat; have HMB := Aside0.mk ((HMA.out.below (below_alloc (Below.refl _ _) _)).app hown hg); clear hown hg hat))
            go_roundg k2
            case measure => omega
            case rel =>
              obtain ⟨A5, c5, e5⟩ := own_slice HMB.out.own
              exact ⟨j + 1, A5, c5, by rw [HSUC2.out]; exact e5, by rw [ew2.out]; simp, ⟨by have := HJ.out; omega⟩, ⟨by rw [HSUC2.out, ← e5]; exact HMB.out⟩⟩
          · have HSUC2 := Aside0.mk (show allN A2 (j + 1) = L2 from by rw [HSUC.out, HONL.out, if_neg h0, List.append_nil])
            have d7 : decide ((0 : Int) ≤ on A2 (j : Int)) = false := decide_eq_false h0
            have HONC := Aside0.mk (mid_on HMA.out IA.out (j : Int))
            clear h0 HSUC HONL
            generalize on A2 (j : Int) = t at *
            go_wp2_with (go_at_call 11; (refine HONC.out.mono ?_); rintro e wp ⟨rfl, hw⟩; subst hw)
            go_roundg k2
            case measure => omega
            case rel => exact ⟨j + 1, A3, c3, by rw [HSUC2.out], by rw [ew2.out]; simp, ⟨by have := HJ.out; omega⟩, ⟨by rw [HSUC2.out]; exact HMA.out⟩⟩
    · by_cases hin : i < n
      · have h80 : ¬ i < 80 := fun q => hgo ⟨hin, q⟩
        have d1 : decide ((i : Int) < (n : Int)) = true := decide_eq_true (by omega)
        have d2 : decide (i < n) = true := decide_eq_true hin
        have d3 : decide ((i : Int) < 80) = false := decide_eq_false (by omega)
        have d4 : decide (i < 80) = false := decide_eq_false h80
        clear hgo h80 hin
        have HS9 := Aside0.mk HS.out.hb
        go_wp2_with (go_at_call 14; (refine (lives_any _).mono ?_); rintro e wq ⟨rfl, h⟩; have HBE := Aside0.mk (below_step HS9.out h); clear h)
        go_ret
        exact ⟨rfl, HBE.out⟩
      · have d1 : decide ((i : Int) < (n : Int)) = false := decide_eq_false (by omega)
        have d2 : decide (i < n) = false := decide_eq_false hin
        clear hgo hin
        have HS9 := Aside0.mk HS.out.hb
        go_wp2_with (go_at_call 14; (refine (lives_any _).mono ?_); rintro e wq ⟨rfl, h⟩; have HBE := Aside0.mk (below_step HS9.out h); clear h)
        go_ret
        exact ⟨rfl, HBE.out⟩
end Go.Proofs.Ytjcjhmnfknenlaa.placeOnceW
