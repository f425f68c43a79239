/- slices.BinarySearchFunc among waiters, by ticket. Conditions: none. -/
import Derived.Test.YtakbhnfmimnbhaaLn7
namespace Go.Proofs.Ytakbhnfmimnbhaa.Ln
open Go.RowKit Go.Proofs.Ytakbhnfmimnbhaa.PLineRises Go.Proofs.YtakbhnfmimnbhaaW.PrintWords Go.Proofs.YtakbhnfmimnbhaaW.PrintLast Go.Proofs.YtakbhnfmimnbhaaW.PrintMore
set_option linter.unusedVariables false
set_option linter.unusedSimpArgs false

set_option maxHeartbeats 4000000 in
theorem cmp_any (W : World) (x : S48) (A : Option Addr) (k c : Nat) (o : Int) (hx : -1099511627776 ≤ x.f2 ∧ x.f2 ≤ 1099511627776) (ho : -1099511627776 ≤ o ∧ o ≤ 1099511627776) : Calls Try.prog 76 #[wv x (.slice A k c), .int .i64 o] W fun e w' => e = .returned (.int .i64 (x.f2 - o)) ∧ Below W.heap.size W w' := by
  have hu48 := Try.underlying48
  have HX := Aside0.mk (show wrap64 (x.f2 - o) = x.f2 - o from by unfold wrap64; omega)
  clear hx ho
  unfold wv
  go_enter Try.func76, Try.ntmps76
  go_upto_region 1 with (((with_reducible refine gate_dst (N := 2) rfl ?_); refine box_event ?hg (N := 2) ?hd (cs := #[.int .i64 x.f0, .int .i64 x.f1, .int .i64 x.f2, .int .i64 x.f3, .slice A k c, .int .i64 x.f5, .int .i64 x.f6, .int .i64 x.f7, .int .i64 x.f8, .int .u64 x.f9]) (t := 48) ?hr ?_; (case hd => rfl); (case hg => rfl); (case hr => first | (go_simp; done) | (go_simp; rfl)); intro g hg w1 hbox hb; have HB := Aside0.mk hb; have X := Aside0.mk hbox; clear hbox hb hg))
  have z0 : w1.cell? ⟨g, 2, none⟩ = some (.int .i64 x.f2) := (blk_cell X.out 2).trans rfl
  go_wp2
  go_ret
  first | exact ⟨rfl, HB.out⟩ | exact ⟨congrArg (fun z => Ending.returned (Value.int .i64 z)) HX.out, HB.out⟩
def Srt (l : List S48) : Prop := ∀ i j, i < j → j < l.length → (wq l i).f2 < (wq l j).f2
def Bnd (l : List S48) : Prop := ∀ i, i < l.length → -1099511627776 ≤ (wq l i).f2 ∧ (wq l i).f2 ≤ 1099511627776
/-- Where an object stands, or is to stand. -/
structure Lb (l : List S48) (o : Int) (i : Nat) : Prop where
  le : i ≤ l.length
  lo : ∀ k, k < i → (wq l k).f2 < o
  hi : ∀ k, i ≤ k → k < l.length → o ≤ (wq l k).f2
set_option maxHeartbeats 8000000 in
set_option maxRecDepth 100000 in
theorem bsearch_any {W : World} {A : Option Addr} {n c : Nat} {l : List S48} (hr : Kd.C k48 W A n l) (hn : n = l.length) (hl : l.length ≤ 1000) (hs : Srt l) (hb : Bnd l) {o : Int} (ho : -1099511627776 ≤ o ∧ o ≤ 1099511627776) :
    Calls Try.prog 75 #[.slice A n c, .int .i64 o, .func (.func 76) #[] #[]] W fun e w' => ∃ i, Lb l o i ∧ e = .returned (.tuple #[.int .i64 (i : Int), .bool (decide (i < n ∧ (wq l i).f2 = o))]) ∧ Below W.heap.size W w' := by
  have eg := enters_of Try.func76 (by kernel_rfl) rfl
  have hu48 := Try.underlying48
  have hu38 := Try.underlying38
  have HR := Aside0.mk hr
  have HN := Aside0.mk hn
  have HL := Aside0.mk (show n ≤ 1000 from by omega)
  have HS := Aside0.mk hs
  have HB := Aside0.mk hb
  have HO := Aside0.mk ho
  clear hr hn hl hs hb ho
  go_enter Try.func75, Try.ntmps75
  go_upto_block 0 with (fail)
  go_wp2
  go_loopg [9, 10] n (fun kq v9 v10 w' => ∃ (i j : Nat), v9 = .int .i64 (i : Int) ∧ v10 = .int .i64 (j : Int) ∧ Aside0 (j - i ≤ kq ∧ i ≤ j ∧ j ≤ n) ∧ Aside0 (Below W.heap.size W w') ∧ Aside0 (∀ k, k < i → (wq l k).f2 < o) ∧ Aside0 (∀ k, j ≤ k → k < n → o ≤ (wq l k).f2))
  case atStart => exact ⟨0, n, rfl, rfl, ⟨by omega, by omega, by omega⟩, ⟨Below.refl _ _⟩, ⟨fun k hk => by omega⟩, ⟨fun k h1 h2 => by omega⟩⟩
  case round =>
    obtain ⟨i, j, rfl, rfl, HK, HW, HLO, HHI⟩ := hrel
    by_cases hij : i < j
    · rcases gk with _ | k1
      · exact absurd hij (by have := HK.out; omega)
      obtain ⟨h, hh⟩ : ∃ h, h = (i + j) / 2 := ⟨_, rfl⟩
      have HH := Aside0.mk (show i ≤ h ∧ h < j ∧ h < n from by have := HK.out; omega)
      have d1 : decide ((i : Int) < (j : Int)) = true := decide_eq_true (by omega)
      have d2 : decide (i < j) = true := decide_eq_true hij
      have HEH := Aside0.mk hh
      have HIJ := Aside0.mk (show i ≤ 1000 ∧ j ≤ 1000 from by have h1 := HK.out; have h2 := HL.out; omega)
      clear hij hh
      have HWH := Aside0.mk (show wrap64 (IntKind.u64.wrap (wrap64 ((i : Int) + (j : Int))) / 2) = (h : Int) from by
        have h1 := HIJ.out
        have h2 := HEH.out
        have e1 : wrap64 ((i : Int) + (j : Int)) = (i : Int) + (j : Int) := by unfold wrap64; omega
        have e2 : IntKind.u64.wrap ((i : Int) + (j : Int)) = (i : Int) + (j : Int) := by simp [IntKind.wrap, IntKind.signed, IntKind.bits]; omega
        rw [e1, e2]
        unfold wrap64
        omega)
      go_upto_region 5 with (fail)
      rw [HWH.out]
      obtain ⟨ad, A4, c4, ea, hw, _, _⟩ := at_w (Kd.C_below HR.out HW.out) (i := h) (by have := HH.out; omega)
      subst ea
      have y0 := hw.c0
      have y1 := hw.c1
      have y2 := hw.c2
      have y3 := hw.c3
      have y4 := hw.c4
      have y5 := hw.c5
      have y6 := hw.c6
      have y7 := hw.c7
      have y8 := hw.c8
      have y9 := hw.c9
      have p1 : (0 ≤ (h : Int)) = True := eq_true (by omega)
      have p2 : ((h : Int) < (n : Int)) = True := eq_true (by have := HH.out; omega)
      have HX := Aside0.mk (HB.out h (by have := HH.out; have := HN.out; omega))
      have ew : Aside0 (wrap64 ((h : Int) + 1) = (h : Int) + 1) := ⟨by have h1 := HH.out; have h3 := HL.out; unfold wrap64; omega⟩
      clear hw d1 d2
      obtain ⟨x, hx⟩ : ∃ x, x = wq l h := ⟨_, rfl⟩
      rw [← hx] at y0 y1 y2 y3 y4 y5 y6 y7 y8 y9 HX
      have HXX := Aside0.mk hx
      clear hx
      by_cases hc : x.f2 < o
      · have d3 : decide (x.f2 - o < 0) = true := decide_eq_true (by omega)
        have HLO2 := Aside0.mk (show ∀ k, k < h + 1 → (wq l k).f2 < o from fun k hk => by
          by_cases e : k = h
          · rw [e, ← HXX.out]; exact hc
          · have h1 := HS.out k h (by omega) (by have := HH.out; have := HN.out; omega)
            rw [← HXX.out] at h1
            omega)
        clear hc
        generalize hz : x.f2 - o = z at d3
        have HZ := Aside0.mk hz
        clear hz
        go_wp2_with (fail)
        refine (cmp_any _ x A4 x.f4.length c4 o HX.out HO.out).mono ?_
        rw [HZ.out]
        rintro e w2 ⟨rfl, hb⟩
        have HW2 := Aside0.mk (below_step HW.out hb)
        clear hb
        go_wp2
        go_roundg k1
        case measure => omega
        case rel => exact ⟨h + 1, j, by rw [ew.out]; simp, rfl, ⟨by have h1 := HK.out; have h2 := HH.out; omega, by have := HH.out; omega, by have := HK.out; omega⟩, HW2, HLO2, HHI⟩
      · have d3 : decide (x.f2 - o < 0) = false := decide_eq_false (by omega)
        have HHI2 := Aside0.mk (show ∀ k, h ≤ k → k < n → o ≤ (wq l k).f2 from fun k h1 h2 => by
          by_cases e : k = h
          · rw [e, ← HXX.out]; omega
          · have h1 := HS.out h k (by omega) (by have := HN.out; omega)
            rw [← HXX.out] at h1
            omega)
        clear hc
        generalize hz : x.f2 - o = z at d3
        have HZ := Aside0.mk hz
        clear hz
        go_wp2_with (fail)
        refine (cmp_any _ x A4 x.f4.length c4 o HX.out HO.out).mono ?_
        rw [HZ.out]
        rintro e w2 ⟨rfl, hb⟩
        have HW2 := Aside0.mk (below_step HW.out hb)
        clear hb
        go_wp2
        go_roundg k1
        case measure => omega
        case rel => exact ⟨i, h, rfl, rfl, ⟨by have h1 := HK.out; have h2 := HH.out; have h3 := HEH.out; omega, by have := HH.out; omega, by have := HH.out; omega⟩, HW2, HLO, HHI2⟩
    · have HE := Aside0.mk (show i = j from by have := HK.out; omega)
      have d1 : decide ((i : Int) < (j : Int)) = false := decide_eq_false (by omega)
      have d2 : decide (i < j) = false := decide_eq_false hij
      clear hij
      have HLB := Aside0.mk (show Lb l o i from ⟨by have := HK.out; have := HN.out; omega, HLO.out, fun k h1 h2 => HHI.out k (by have := HE.out; omega) (by have := HN.out; omega)⟩)
      by_cases hin : i < n
      · obtain ⟨ad, A4, c4, ea, hw, _, _⟩ := at_w (Kd.C_below HR.out HW.out) (i := i) (by omega)
        subst ea
        have y0 := hw.c0
        have y1 := hw.c1
        have y2 := hw.c2
        have y3 := hw.c3
        have y4 := hw.c4
        have y5 := hw.c5
        have y6 := hw.c6
        have y7 := hw.c7
        have y8 := hw.c8
        have y9 := hw.c9
        have p1 : (0 ≤ (i : Int)) = True := eq_true (by omega)
        have p2 : ((i : Int) < (n : Int)) = True := eq_true (by omega)
        have d3 : decide ((i : Int) < (n : Int)) = true := decide_eq_true (by omega)
        have d4 : decide (i < n) = true := decide_eq_true hin
        have HX := Aside0.mk (HB.out i (by have := HN.out; omega))
        have HIN := Aside0.mk hin
        clear hw hin
        obtain ⟨x, hx⟩ : ∃ x, x = wq l i := ⟨_, rfl⟩
        rw [← hx] at y0 y1 y2 y3 y4 y5 y6 y7 y8 y9 HX
        have HXX := Aside0.mk hx
        clear hx
        obtain ⟨bb, hbb⟩ : ∃ bb, bb = decide (i < n ∧ (wq l i).f2 = o) := ⟨_, rfl⟩
        have HBB := Aside0.mk hbb
        have d5 : (x.f2 - o == 0) = bb := by
          rw [hbb, ← HXX.out]
          by_cases e : x.f2 = o
          · rw [beq_iff_eq.2 (by omega), decide_eq_true ⟨HIN.out, e⟩]
          · rw [beq_eq_false_iff_ne.2 (by omega), decide_eq_false (fun z => e z.2)]
        clear hbb
        generalize hz : x.f2 - o = z at d5
        have HZ := Aside0.mk hz
        clear hz
        go_wp2_with (fail)
        refine (cmp_any _ x A4 x.f4.length c4 o HX.out HO.out).mono ?_
        rw [HZ.out]
        rintro e w2 ⟨rfl, hb⟩
        have HW2 := Aside0.mk (below_step HW.out hb)
        clear hb
        go_wp2
        go_ret2
        exact ⟨i, HLB.out, by rw [← HBB.out]; rfl, HW2.out⟩
      · have d3 : decide ((i : Int) < (n : Int)) = false := decide_eq_false (by omega)
        have d4 : decide (i < n) = false := decide_eq_false hin
        have HD := Aside0.mk (show decide (i < n ∧ (wq l i).f2 = o) = false from decide_eq_false (fun z => hin z.1))
        clear hin
        go_wp2
        go_ret2
        exact ⟨i, HLB.out, by rw [HD.out]; rfl, HW.out⟩
end Go.Proofs.Ytakbhnfmimnbhaa.Ln
