/- What is got where nothing was got; Again; Frames. Conditions: none. -/
import Derived.Test.YtakbhnfmimnbhaaRn4
namespace Go.Proofs.Ytakbhnfmimnbhaa.Rn
open Go.RowKit Go.Proofs.YtakbhnfmimnbhaaW.PrintWords Go.Proofs.YtakbhnfmimnbhaaW.PrintLast Go.Proofs.YtakbhnfmimnbhaaW.PrintMore
set_option linter.unusedVariables false
set_option linter.unusedSimpArgs false


set_option maxHeartbeats 4000000 in
set_option maxRecDepth 100000 in
theorem insert_end {W : World} {v : Value} {l : List (Int × Int)} {b0 : Nat} (hr : PR W b0 v l) (hb0 : b0 ≤ W.heap.size) (hl : l.length ≤ 1000) {gv : Nat} {x y : Int} (hv : W.heap[gv]? = some (.cells #[.int .i64 x, .int .i64 y] 33 (0, 0))) :
    Calls Try.prog 67 #[v, .int .i64 (l.length : Int), .slice (some ⟨gv, 0, none⟩) 1 1] W fun e w' => ∃ v', e = .returned v' ∧ PR w' b0 v' (l ++ [(x, y)]) ∧ W.grownBy w' v.ownBlock ∧ (v'.ownBlock = v.ownBlock ∨ v'.ownBlock = some W.heap.size) := by
  have hu30 := Try.underlying30
  obtain ⟨v1, w9, hrn, hown, hg9, hat⟩ := app_any (P := Try.prog) (W := W) b0 30 30 33 2 16 (.agg #[.int .i64 0, .int .i64 0]) Try.underlying30 info33 rfl (by decide) (by decide) v l.length (pcs l) (pcs [(x, y)]) (some ⟨gv, 0, none⟩) 1 1 hr
    ⟨rfl, fun _ => ⟨_, rfl, fun j q hj => by rw [add_plain]; exact (blk_cell hv j).trans (by rw [List.getElem?_toArray]; exact hj)⟩⟩ (pcs_one _) hb0 (by omega) (fun _ => rfl)
  obtain ⟨A, c, rfl, ho⟩ := hr.open
  have HO := Aside0.mk hown
  have HG := Aside0.mk hg9
  have HT := Aside0.mk hat
  obtain ⟨n, hn⟩ : ∃ n, n = l.length := ⟨_, rfl⟩
  rw [← hn] at hrn ⊢
  have HN := Aside0.mk hn
  have hs : ∃ A', A' = A := ⟨_, rfl⟩
  have q1 : (0 ≤ (n : Int)) = True := eq_true (by omega)
  have q2 : ¬ ((1 : Int) == 0) = true := by decide
  have hc : n ≤ c := by
    rcases ho with ⟨_, hc, h⟩ | ⟨_, _, h⟩
    · rw [hn, h]; simp
    · omega
  have q3 : ((n : Int) ≤ (c : Int)) = True := eq_true (by omega)
  have HO2 := Aside0.mk ho
  clear hown hg9 hat hr hn ho hs
  go_enter Try.func67, Try.ntmps67
  go_wp2_with (at_builtin; refine list_run rfl (.tmp 23) (.tmp 24) 30 30 rfl _ _ v1 rfl rfl hrn ?_)
  all_goals
    go_ret
    refine ⟨v1, rfl, ?_, ?_, ?_⟩
    · unfold PR
      rw [pcs_app, List.length_append]
      exact HO.out
    · cases A <;> exact HG.out
    · cases A <;> exact HT.out
end Go.Proofs.Ytakbhnfmimnbhaa.Rn
namespace Go.Proofs.Ytakbhnfmimnbhaa.Rn
open Go.RowKit Go.Proofs.YtakbhnfmimnbhaaW.PrintWords Go.Proofs.YtakbhnfmimnbhaaW.PrintLast Go.Proofs.YtakbhnfmimnbhaaW.PrintMore
set_option linter.unusedVariables false
set_option linter.unusedSimpArgs false

theorem cmp_any (W : World) (x y o : Int) (hx : -1099511627776 ≤ x ∧ x ≤ 1099511627776) (ho : -1099511627776 ≤ o ∧ o ≤ 1099511627776) : Calls Try.prog 66 #[.agg #[.int .i64 x, .int .i64 y], .int .i64 o] W fun e w' => e = .returned (.int .i64 (x - o)) ∧ Below W.heap.size W w' := by
  have hu33 := Try.underlying33
  have HX := Aside0.mk (show wrap64 (x - o) = x - o from by unfold wrap64; omega)
  clear hx ho
  go_enter Try.func66, Try.ntmps66
  go_upto_region 1 with (((with_reducible refine gate_dst (N := 2) rfl ?_); refine box_event ?hg (N := 2) ?hd (cs := #[.int .i64 x, .int .i64 y]) (t := 33) ?hr ?_; (case hd => rfl); (case hg => rfl); (case hr => first | (go_simp; done) | (go_simp; rfl)); intro g hg w1 hbox hb; have HB := Aside0.mk hb; have X := Aside0.mk hbox; clear hbox hb hg))
  have z0 : w1.cell? ⟨g, 0, none⟩ = some (.int .i64 x) := (blk_cell X.out 0).trans rfl
  go_wp2
  go_ret
  first | exact ⟨rfl, HB.out⟩ | exact ⟨congrArg (fun z => Ending.returned (Value.int .i64 z)) HX.out, HB.out⟩
def Srt (l : List (Int × Int)) : Prop := ∀ i j, i < j → j < l.length → (l.getD i (0, 0)).1 < (l.getD j (0, 0)).1
def Bnd (l : List (Int × Int)) : Prop := ∀ i, i < l.length → -1099511627776 ≤ (l.getD i (0, 0)).1 ∧ (l.getD i (0, 0)).1 ≤ 1099511627776
/-- Where an object stands, or is to stand. -/
structure Lb (l : List (Int × Int)) (o : Int) (i : Nat) : Prop where
  le : i ≤ l.length
  lo : ∀ k, k < i → (l.getD k (0, 0)).1 < o
  hi : ∀ k, i ≤ k → k < l.length → o ≤ (l.getD k (0, 0)).1
set_option maxHeartbeats 8000000 in
set_option maxRecDepth 100000 in
theorem bsearch_any {W : World} {v : Value} {l : List (Int × Int)} {b0 : Nat} (hr : PR W b0 v l) (hl : l.length ≤ 1000) (hs : Srt l) (hb : Bnd l) {o : Int} (ho : -1099511627776 ≤ o ∧ o ≤ 1099511627776) :
    Calls Try.prog 65 #[v, .int .i64 o, .func (.func 66) #[] #[]] W fun e w' => ∃ i, Lb l o i ∧ e = .returned (.tuple #[.int .i64 (i : Int), .bool (decide (i < l.length ∧ (l.getD i (0, 0)).1 = o))]) ∧ Below W.heap.size W w' := by
  have eg := enters_of Try.func66 (by kernel_rfl) rfl
  have hu33 := Try.underlying33
  have hu30 := Try.underlying30
  have HR := Aside0.mk hr
  obtain ⟨A, c, rfl, hA⟩ := hr.open
  have HA := Aside0.mk hA
  obtain ⟨n, hn⟩ : ∃ n, n = l.length := ⟨_, rfl⟩
  rw [← hn] at HR ⊢
  have HN := Aside0.mk hn
  have HL := Aside0.mk (show n ≤ 1000 from by omega)
  have HS := Aside0.mk hs
  have HB := Aside0.mk hb
  have HO := Aside0.mk ho
  clear hr hA hn hl hs hb ho
  go_enter Try.func65, Try.ntmps65
  go_upto_block 0 with (fail)
  go_wp2
  go_loopg [9, 10] n (fun kq v9 v10 w' => ∃ (i j : Nat), v9 = .int .i64 (i : Int) ∧ v10 = .int .i64 (j : Int) ∧ Aside0 (j - i ≤ kq ∧ i ≤ j ∧ j ≤ n) ∧ Aside0 (Below W.heap.size W w') ∧ Aside0 (∀ k, k < i → (l.getD k (0, 0)).1 < o) ∧ Aside0 (∀ k, j ≤ k → k < n → o ≤ (l.getD k (0, 0)).1))
  case atStart => exact ⟨0, n, rfl, rfl, ⟨by omega, by omega, by omega⟩, ⟨Below.refl _ _⟩, ⟨fun k hk => by omega⟩, ⟨fun k h1 h2 => by omega⟩⟩
  case round =>
    obtain ⟨i, j, rfl, rfl, HK, HW, HLO, HHI⟩ := hrel
    by_cases hij : i < j
    · rcases gk with _ | k1
      · exact absurd hij (by have := HK.out; omega)
      obtain ⟨h, hh⟩ : ∃ h, h = (i + j) / 2 := ⟨_, rfl⟩
      have HH := Aside0.mk (show i ≤ h ∧ h < j ∧ h < n from by have := HK.out; omega)
      have d1 : decide ((i : Int) < (j : Int)) = true := decide_eq_true (by omega)
      have d2 : decide (i < j) = true := decide_eq_true hij
      have HEH := Aside0.mk hh
      have HIJ := Aside0.mk (show i ≤ 1000 ∧ j ≤ 1000 from by have h1 := HK.out; have h2 := HL.out; omega)
      clear hij hh
      have HWH := Aside0.mk (show wrap64 (IntKind.u64.wrap (wrap64 ((i : Int) + (j : Int))) / 2) = (h : Int) from by
        have h1 := HIJ.out
        have h2 := HEH.out
        have e1 : wrap64 ((i : Int) + (j : Int)) = (i : Int) + (j : Int) := by unfold wrap64; omega
        have e2 : IntKind.u64.wrap ((i : Int) + (j : Int)) = (i : Int) + (j : Int) := by simp [IntKind.wrap, IntKind.signed, IntKind.bits]; omega
        rw [e1, e2]
        unfold wrap64
        omega)
      go_upto_region 5 with (fail)
      rw [HWH.out]
      obtain ⟨g, hg⟩ : ∃ g, A = some ⟨g, 0, none⟩ := by
        rcases HA.out with ⟨_, _, h0⟩ | ⟨g, h0, _⟩
        · have h1 := HH.out
          have h2 := HN.out
          rw [h0] at h2
          simp at h2
          omega
        · exact ⟨g, h0⟩
      subst hg
      have hat := (show PR wr b0 (.slice (some ⟨g, 0, none⟩) l.length c) l from by rw [← HN.out]; exact HR.out.below HW.out).at (j := h) (by have := HH.out; have := HN.out; omega)
      have y0 := hat.1
      have y1 := hat.2
      have p1 : (0 ≤ (h : Int)) = True := eq_true (by omega)
      have p2 : ((h : Int) < (n : Int)) = True := eq_true (by have := HH.out; omega)
      have HX := Aside0.mk (HB.out h (by have := HH.out; have := HN.out; omega))
      have ew : Aside0 (wrap64 ((h : Int) + 1) = (h : Int) + 1) := ⟨by have h1 := HH.out; have h3 := HL.out; unfold wrap64; omega⟩
      clear hat d1 d2
      obtain ⟨x, hx⟩ : ∃ x, x = (l.getD h (0, 0)).1 := ⟨_, rfl⟩
      obtain ⟨y, hy⟩ : ∃ y, y = (l.getD h (0, 0)).2 := ⟨_, rfl⟩
      rw [← hx] at y0 HX
      rw [← hy] at y1
      have HXX := Aside0.mk hx
      clear hx hy
      by_cases hc : x < o
      · have d3 : decide (x - o < 0) = true := decide_eq_true (by omega)
        have HLO2 := Aside0.mk (show ∀ k, k < h + 1 → (l.getD k (0, 0)).1 < o from fun k hk => by
          by_cases e : k = h
          · rw [e, ← HXX.out]; exact hc
          · have h1 := HS.out k h (by omega) (by have := HH.out; have := HN.out; omega)
            rw [← HXX.out] at h1
            omega)
        clear hc
        generalize hz : x - o = z at d3
        have HZ := Aside0.mk hz
        clear hz
        go_wp2_with (fail)
        refine (cmp_any _ x y o HX.out HO.out).mono ?_
        rw [HZ.out]
        rintro e w2 ⟨rfl, hb⟩
        have HW2 := Aside0.mk (below_step HW.out hb)
        clear hb
        go_wp2
        go_roundg k1
        case measure => omega
        case rel => exact ⟨h + 1, j, by rw [ew.out]; simp, rfl, ⟨by have h1 := HK.out; have h2 := HH.out; omega, by have := HH.out; omega, by have := HK.out; omega⟩, HW2, HLO2, HHI⟩
      · have d3 : decide (x - o < 0) = false := decide_eq_false (by omega)
        have HHI2 := Aside0.mk (show ∀ k, h ≤ k → k < n → o ≤ (l.getD k (0, 0)).1 from fun k h1 h2 => by
          by_cases e : k = h
          · rw [e, ← HXX.out]; omega
          · have h1 := HS.out h k (by omega) (by have := HN.out; omega)
            rw [← HXX.out] at h1
            omega)
        clear hc
        generalize hz : x - o = z at d3
        have HZ := Aside0.mk hz
        clear hz
        go_wp2_with (fail)
        refine (cmp_any _ x y o HX.out HO.out).mono ?_
        rw [HZ.out]
        rintro e w2 ⟨rfl, hb⟩
        have HW2 := Aside0.mk (below_step HW.out hb)
        clear hb
        go_wp2
        go_roundg k1
        case measure => omega
        case rel => exact ⟨i, h, rfl, rfl, ⟨by have h1 := HK.out; have h2 := HH.out; have h3 := HEH.out; omega, by have := HH.out; omega, by have := HH.out; omega⟩, HW2, HLO, HHI2⟩
    · have HE := Aside0.mk (show i = j from by have := HK.out; omega)
      have d1 : decide ((i : Int) < (j : Int)) = false := decide_eq_false (by omega)
      have d2 : decide (i < j) = false := decide_eq_false hij
      clear hij
      have HLB := Aside0.mk (show Lb l o i from ⟨by have := HK.out; have := HN.out; omega, HLO.out, fun k h1 h2 => HHI.out k (by have := HE.out; omega) (by have := HN.out; omega)⟩)
      by_cases hin : i < n
      · obtain ⟨g, hg⟩ : ∃ g, A = some ⟨g, 0, none⟩ := by
          rcases HA.out with ⟨_, _, h0⟩ | ⟨g, h0, _⟩
          · have h2 := HN.out
            rw [h0] at h2
            simp at h2
            omega
          · exact ⟨g, h0⟩
        subst hg
        have hat := (show PR wr b0 (.slice (some ⟨g, 0, none⟩) l.length c) l from by rw [← HN.out]; exact HR.out.below HW.out).at (j := i) (by have := HN.out; omega)
        have y0 := hat.1
        have y1 := hat.2
        have p1 : (0 ≤ (i : Int)) = True := eq_true (by omega)
        have p2 : ((i : Int) < (n : Int)) = True := eq_true (by omega)
        have d3 : decide ((i : Int) < (n : Int)) = true := decide_eq_true (by omega)
        have d4 : decide (i < n) = true := decide_eq_true hin
        have HX := Aside0.mk (HB.out i (by have := HN.out; omega))
        have HIN := Aside0.mk hin
        clear hat hin
        obtain ⟨x, hx⟩ : ∃ x, x = (l.getD i (0, 0)).1 := ⟨_, rfl⟩
        obtain ⟨y, hy⟩ : ∃ y, y = (l.getD i (0, 0)).2 := ⟨_, rfl⟩
        rw [← hx] at y0 HX
        rw [← hy] at y1
        have HXX := Aside0.mk hx
        clear hx hy
        obtain ⟨bb, hbb⟩ : ∃ bb, bb = decide (i < n ∧ (l.getD i (0, 0)).1 = o) := ⟨_, rfl⟩
        have HBB := Aside0.mk hbb
        have d5 : (x - o == 0) = bb := by
          rw [hbb, ← HXX.out]
          by_cases e : x = o
          · rw [beq_iff_eq.2 (by omega), decide_eq_true ⟨HIN.out, e⟩]
          · rw [beq_eq_false_iff_ne.2 (by omega), decide_eq_false (fun z => e z.2)]
        clear hbb
        generalize hz : x - o = z at d5
        have HZ := Aside0.mk hz
        clear hz
        go_wp2_with (fail)
        refine (cmp_any _ x y o HX.out HO.out).mono ?_
        rw [HZ.out]
        rintro e w2 ⟨rfl, hb⟩
        have HW2 := Aside0.mk (below_step HW.out hb)
        clear hb
        go_wp2
        go_ret2
        exact ⟨i, HLB.out, by rw [← HBB.out]; rfl, HW2.out⟩
      · have d3 : decide ((i : Int) < (n : Int)) = false := decide_eq_false (by omega)
        have d4 : decide (i < n) = false := decide_eq_false hin
        have HD := Aside0.mk (show decide (i < n ∧ (l.getD i (0, 0)).1 = o) = false from decide_eq_false (fun z => hin z.1))
        clear hin
        go_wp2
        go_ret2
        exact ⟨i, HLB.out, by rw [HD.out]; rfl, HW.out⟩
end Go.Proofs.Ytakbhnfmimnbhaa.Rn
