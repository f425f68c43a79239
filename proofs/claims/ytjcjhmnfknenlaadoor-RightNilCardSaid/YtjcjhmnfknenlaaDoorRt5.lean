/- Rights: Of, Who. Conditions: none. -/
import Derived.Test.YtjcjhmnfknenlaaDoorRt4
import Derived.Laws.IdiomRangeMap
namespace Go.Proofs.YtjcjhmnfknenlaaDoor.Rt
open Go.RowKit Go.Proofs.YtjcjhmnfknenlaaDoor.PRightNil Go.Proofs.YtjcjhmnfknenlaaDoorW.PrintWords Go.Proofs.YtjcjhmnfknenlaaDoorW.PrintLast
open Ch (Chg)
set_option linter.unusedVariables false
set_option linter.unusedSimpArgs false

namespace Gs
/-- A set by a test. -/
def setOf (p : Nat → Bool) : Nat → Nat
  | 0 => 0
  | i + 1 => if p i = true then setOf p i ||| 2 ^ i else setOf p i
theorem tb_setOf (p : Nat → Bool) (j : Nat) : ∀ i, (setOf p i).testBit j = (decide (j < i) && p j) := by
  intro i
  induction i with
  | zero => simp [setOf]
  | succ i ih =>
    simp only [setOf]
    by_cases e : j = i
    · subst e
      have h1 : decide (j < j) = false := by simp
      have h2 : decide (j < j + 1) = true := by simp
      rw [h2]
      split
      · rename_i c; rw [Bt.tb_or, Bt.tb_pow, c]; simp
      · rename_i c; rw [ih, h1]; simp [Bool.eq_false_iff.mpr c]
    · have h1 : decide (j < i + 1) = decide (j < i) := by
        rw [decide_eq_decide]; omega
      rw [h1]
      split
      · rw [Bt.tb_or, Bt.tb_pow, ih, decide_eq_false (show ¬ i = j from fun q => e q.symm), Bool.or_false]
      · exact ih
theorem setOf_top (p : Nat → Bool) {i : Nat} (hi : i ≤ 64) : setOf p i < Bt.top := by
  rw [Bt.top_pow]
  apply Nat.lt_pow_two_of_testBit
  intro j hj
  rw [tb_setOf, decide_eq_false (by omega)]
  rfl
theorem setOf_false (i : Nat) : setOf (fun _ => false) i = 0 := by
  induction i with
  | zero => rfl
  | succ i ih => simp only [setOf]; rw [if_neg (by decide)]; exact ih
end Gs
theorem same_self (a b : Int) : (kl a b).sameKey (kl a b) = true := by simp [Lit.sameKey, kl]
theorem keep {s : Nat} {P : Nat → Bool} {left : Lit → Bool} {K : Nat → Lit} {k0 : Lit} (h : ∀ o, o < 64 → K o ≠ k0) (hst : ∀ o, o < 64 → s.testBit o = (P o && !left (K o))) : ∀ o, o < 64 → s.testBit o = (P o && !(left (K o) && !(K o).sameKey k0)) := by
  intro o ho
  rw [Maps.sameKey_ne (h o ho), hst o ho]
  simp
theorem more {s c : Nat} {P : Nat → Bool} {left : Lit → Bool} {K : Nat → Lit} {k0 : Lit} (hK : K c = k0) (hs : k0.sameKey k0 = true) (hn : ∀ o, o < 64 → o ≠ c → K o ≠ k0) (hP : P c = true) (hst : ∀ o, o < 64 → s.testBit o = (P o && !left (K o))) : ∀ o, o < 64 → (s ||| 2 ^ c).testBit o = (P o && !(left (K o) && !(K o).sameKey k0)) := by
  intro o ho
  rw [Bt.tb_or, Bt.tb_pow]
  by_cases e : c = o
  · subst e
    rw [hK, hs, hP]
    simp
  · rw [Maps.sameKey_ne (hn o ho (fun q => e q.symm)), decide_eq_false e, hst o ho]
    simp
def mkK (q : Int × Int) : Value := .agg #[.int .i64 q.1, .int .i64 q.2]
def mkV (_ : Unit) : Value := .agg #[]
theorem invK : ∀ key l, keyOf Tryd.prog 52 key = some l → ∃ x, key = mkK x := by
  intro key l h
  obtain ⟨a, b, rfl, _⟩ := key_inv h
  exact ⟨(a, b), rfl⟩
theorem invV : ∀ v y, unitElem (H := Unit) v = some y → ∃ c, v = mkV c := by
  intro v y h
  exact ⟨(), (unitElem_inv h).1⟩
theorem with_f {s t : Nat} (hs : s < Bt.top) (ht : t < 64) : bits_Set_With.f (s : Int) (t : Int) = some ((s ||| 2 ^ t : Nat) : Int) := by
  unfold bits_Set_With.f bits_one.f
  rw [if_neg (by omega), if_neg (by omega), if_pos (by omega), Bt.shl_one ht, Option.bind_some, Bt.or_nat hs (Bt.lt_pow ht)]
theorem with_out {s : Nat} (hs : s < Bt.top) {t : Int} (ht : t < 0 ∨ 64 ≤ t) : bits_Set_With.f (s : Int) t = some (s : Int) := by
  unfold bits_Set_With.f bits_one.f
  have e : Go.bits .or .u64 (s : Int) 0 = (s : Int) := by
    rw [show (0 : Int) = ((0 : Nat) : Int) from rfl, Bt.or_nat hs (by decide), Nat.or_zero]
  by_cases h : t < 0
  · rw [if_pos h, Option.bind_some, e]
  · rw [if_neg h, if_pos (by omega), Option.bind_some, e]

set_option maxHeartbeats 4000000 in
set_option maxRecDepth 100000 in
theorem of_any {W : World} {g N : Nat} {m : Option Nat} {p : Int → Int → Bool} {t : Int} (wt : Wf t) (hA : At W g m N p) :
    Calls Tryd.prog 11 #[.pointer (some ⟨g, 0, none⟩), .int .i64 t] W fun e w' => e = .returned (.int .u64 ((Gs.setOf (fun o => p t (o : Int)) 64 : Nat) : Int)) ∧ Below W.heap.size W w' := by
  have HA := Aside0.mk hA
  have c0 := hA.c0
  have WT := Aside0.mk wt
  have hu52 := Tryd.underlying52
  cases m with
  | none =>
    have HP := Aside0.mk (show Gs.setOf (fun o => p t (o : Int)) 64 = 0 from by
      rcases hA.hm with ⟨_, h⟩ | ⟨b, D, h, _⟩
      · rw [h]; exact Gs.setOf_false 64
      · cases h)
    clear hA wt
    have hrg := run_range_nilMap (P := Tryd.prog) W 38 52 55 Tryd.underlying38
    have hnx : ∀ ty, (Instr.next (.pointer (some ⟨W.heap.size, 0, none⟩)) false ty).run Tryd.prog (W.alloc (.mapIter none 0 #[] 0)) = _ := fun ty => run_next_nilMap _ ty 0 0 #[]
    go_enter Tryd.func11, Tryd.ntmps11
    go_wp2
    refine wp_loop_rounds 1 ?_
    rw [rounds_succ]
    go_wp2
    go_ret
    exact ⟨by rw [HP.out]; first | rfl | simp, by repeat (first | exact Below.refl _ _ | apply below_alloc | apply below_drew)⟩
  | some b =>
    obtain ⟨D, hown, hv⟩ : ∃ D, W.ownsMap Tryd.prog 52 (unitElem (H := Unit)) b N D ∧ Vw D p := by
      rcases hA.hm with ⟨h, _⟩ | ⟨b', D, h, ho, hv⟩
      · cases h
      · injection h with h; subst h; exact ⟨D, ho, hv⟩
    have HV := Aside0.mk hv
    have HBL := Aside0.mk hown.lt
    clear hA hv wt
    go_enter Tryd.func11, Tryd.ntmps11
    go_upto_block 0 with (at_range; refine wpList_range_own _ rfl _ 38 rfl 52 55 law Tryd.underlying38 _ b N D rfl hown ?_; intro w0 hrg0 hg0 hs0; have HR0 := Aside0.mk hrg0; have HB0 := Aside0.mk (show Below W.heap.size W w0 from ⟨hg0.os, hg0.tape, hg0.output, hg0.size, fun k hk => hg0.block k hk (by simp)⟩); clear hrg0 hg0 hs0)
    clear hown c0
    obtain ⟨r, hr⟩ : ∃ r, r = W.heap.size := ⟨_, rfl⟩
    have HRG := Aside0.mk (show W.heap.size ≤ r from by omega)
    rw [← hr] at HR0
    try rw [← hr]
    clear hr
    go_wp2
    go_frame
    go_loopg [5] (Maps.size D) (fun kq v5 w' => ∃ (left : Lit → Bool) (cnt s : Nat), v5 = .int .u64 (s : Int) ∧ Aside0 (s < Bt.top) ∧ Aside0 (cnt ≤ kq) ∧ Aside0 (w'.ranges Tryd.prog 52 (unitElem (H := Unit)) b r N D left cnt) ∧ Aside0 (∀ o : Nat, o < 64 → s.testBit o = (p t (o : Int) && !left (kl t (o : Int)))) ∧ Aside0 (Below W.heap.size W w'))
    case atStart =>
      refine ⟨_, _, 0, rfl, ⟨by decide⟩, ⟨Nat.le_refl _⟩, HR0, ⟨fun o ho => ?_⟩, HB0⟩
      rw [Nat.zero_testBit, HV.out.2 t o WT.out (wf_nat (by omega))]
      cases p t (o : Int) <;> rfl
    case round =>
      clear HR0 HB0
      obtain ⟨left, cnt, s, rfl, HS, HCN, HRA, HST, HB⟩ := hrel
      go_wp2_with (at_next; refine wpList_next_ranges _ rfl _ rfl 52 law (unitElem (H := Unit)) mkK mkV invK invV b r N D left cnt rfl HRA.out ?_ ?_)
      · intro hc0 hl0
        have HSE := Aside0.mk (show s = Gs.setOf (fun o => p t (o : Int)) 64 from by
          apply Bt.ext HS.out (Gs.setOf_top _ (by decide))
          intro o ho
          rw [HST.out o ho, Gs.tb_setOf, decide_eq_true ho, hl0]
          simp)
        clear hc0 hl0
        go_wp2
        go_ret
        exact ⟨by rw [← HSE.out]; first | rfl | simp, by repeat (first | exact HB.out | apply below_alloc | apply below_drew)⟩
      · intro x y u kl0 z z2 w1 cnt1 hkx hlx hR hat hrg1 hlt hg1 hs1 hen
        obtain ⟨x', y', exy, wx, wy, rfl⟩ := key_inv hkx
        have exy2 : x = x' ∧ y = y' := by
          unfold mkK at exy
          injection exy with exy
          have h2 := congrArg Array.toList exy
          simp at h2
          exact h2
        obtain ⟨rfl, rfl⟩ := exy2
        have HPX := Aside0.mk (show p x y = true from by rw [← HV.out.2 x y wx wy]; exact Maps.has_true_of_atKey hat)
        have WX := Aside0.mk wx
        have WY := Aside0.mk wy
        have HLT := Aside0.mk hlt
        have HR1 := Aside0.mk hrg1
        have HB1 := Aside0.mk (show Below W.heap.size W w1 from ⟨hg1.os.trans HB.out.os, hg1.tape.trans HB.out.tape, hg1.output.trans HB.out.output, Nat.le_trans HB.out.size hg1.size, fun k hk => (hg1.block k (Nat.lt_of_lt_of_le hk HB.out.size) (fun e => by injection e with e; have := HRG.out; omega)).trans (HB.out.block k hk)⟩)
        have hen2 : (Instr.entry (.pointer (some ⟨r, 0, none⟩))).run Tryd.prog w1 = .ok (.tuple #[.agg #[.int .i64 x, .int .i64 y], .agg #[]]) w1 := hen
        clear hkx hlx hR hat hrg1 hlt hg1 hs1 hen exy wx wy
        simp only [mkK, mkV]
        rcases gk with _ | k1
        · exact absurd HLT.out (by have := HCN.out; omega)
        go_upto_region 7 with ((with_reducible refine gate_dst (N := 6) rfl ?_); refine box_event ?hg (N := 6) ?hd (cs := #[.int .i64 0, .int .i64 0]) (t := 52) ?hr ?_; (case hd => rfl); (case hg => rfl); (case hr => first | (go_simp; done) | (go_simp; rfl)); intro gb hg w2 hbox hb; have HGB := Aside0.mk (show gb = w1.heap.size from hg); have BX2 := Aside0.mk hbox; have HW2 := Aside0.mk hb; clear hg hbox hb; have y0 : w2.cell? ⟨gb, 0, none⟩ = some (.int .i64 0) := (blk_cell BX2.out 0).trans rfl; have y1 : w2.cell? ⟨gb, 1, none⟩ = some (.int .i64 0) := (blk_cell BX2.out 1).trans rfl; have fz0 := blk_frozen BX2.out 0; have fz1 := blk_frozen BX2.out 1)
        have HX2 := Aside0.mk (show ((w2.setCell ⟨gb, 0, none⟩ (.int .i64 x)).setCell ⟨gb, 1, none⟩ (.int .i64 y)).heap[gb]? = some (.cells #[.int .i64 x, .int .i64 y] 52 (0, 0)) from blk_put (blk_put BX2.out 0 _ rfl) 1 _ rfl)
        have HW7 := Aside0.mk (show Below w1.heap.size w1 ((w2.setCell ⟨gb, 0, none⟩ (.int .i64 x)).setCell ⟨gb, 1, none⟩ (.int .i64 y)) from below_set (below_set HW2.out (by have := HGB.out; omega)) (by have := HGB.out; omega))
        clear HW2 BX2 fz0 fz1 y0 y1 HGB
        generalize (w2.setCell ⟨gb, 0, none⟩ (.int .i64 x)).setCell ⟨gb, 1, none⟩ (.int .i64 y) = w7 at *
        have HR7 := Aside0.mk (HR1.out.kept (row := none) (show w1.grownBy w7 none from ⟨HW7.out.os, HW7.out.tape, HW7.out.output, HW7.out.size, fun i hi _ => HW7.out.block i hi⟩) (by simp) (by simp))
        have HB7 := Aside0.mk (below_step HB1.out HW7.out)
        have x0 : w7.cell? ⟨gb, 0, none⟩ = some (.int .i64 x) := (blk_cell HX2.out 0).trans rfl
        have x1 : w7.cell? ⟨gb, 1, none⟩ = some (.int .i64 y) := (blk_cell HX2.out 1).trans rfl
        clear HR1 HB1 HW7
        by_cases hc : x = t
        · have WCT := Aside0.mk hc
          have d1 : (x == t) = true := beq_iff_eq.2 hc
          by_cases hr : y < 0 ∨ 64 ≤ y
          · have HWF := Aside0.mk (with_out HS.out hr)
            have HST2 := Aside0.mk (keep (k0 := kl x y) (K := fun o => kl t (o : Int)) (P := fun o => p t (o : Int)) (left := left) (fun o ho e => by
              have := (kl_inj WT.out (wf_nat (by omega)) WX.out WY.out e).2
              omega) HST.out)
            clear hr hc
            go_wp2_with (go_at_call 26; (with_reducible refine (bits_Set_With.calls _ _ _ _ HWF.out).mono ?_); rintro e w9 ⟨rfl, ⟨nd9, rfl⟩⟩)
            go_roundg k1
            case measure => omega
            case rel => exact ⟨fun z => left z && !z.sameKey (kl x y), cnt1, s, rfl, HS, ⟨by have h1 := HCN.out; have h2 := HLT.out; omega⟩, ⟨HR7.out⟩, HST2, ⟨pw_below_drewN HB7.out _⟩⟩
          · obtain ⟨c, hcc⟩ : ∃ c : Nat, y = (c : Int) := ⟨(y).toNat, by omega⟩
            have HCC := Aside0.mk hcc
            have HC64 := Aside0.mk (show c < 64 from by omega)
            have HWF := Aside0.mk (with_f HS.out HC64.out)
            have HST2 := Aside0.mk (more (c := c) (k0 := kl x y) (K := fun o => kl t (o : Int)) (P := fun o => p t (o : Int)) (left := left) (by show kl t (c : Int) = kl x y; rw [← hcc, ← hc]) (same_self x y) (fun o ho hne e => by
              have := (kl_inj WT.out (wf_nat (by omega)) WX.out WY.out e).2
              omega) (by show p t (c : Int) = true; rw [← hcc, ← hc]; exact HPX.out) HST.out)
            have d2 : y = (c : Int) := hcc
            subst hcc
            clear hr hc
            go_wp2_with (go_at_call 26; (with_reducible refine (bits_Set_With.calls _ _ _ _ HWF.out).mono ?_); rintro e w9 ⟨rfl, ⟨nd9, rfl⟩⟩)
            go_roundg k1
            case measure => omega
            case rel => exact ⟨fun z => left z && !z.sameKey (kl x (c : Int)), cnt1, s ||| 2 ^ c, rfl, ⟨Bt.lt_or HS.out (Bt.lt_pow HC64.out)⟩, ⟨by have h1 := HCN.out; have h2 := HLT.out; omega⟩, ⟨HR7.out⟩, HST2, ⟨pw_below_drewN HB7.out _⟩⟩
        · have d1 : (x == t) = false := beq_eq_false_iff_ne.2 hc
          have HST2 := Aside0.mk (keep (k0 := kl x y) (K := fun o => kl t (o : Int)) (P := fun o => p t (o : Int)) (left := left) (fun o ho e => hc (kl_inj WT.out (wf_nat (by omega)) WX.out WY.out e).1.symm) HST.out)
          clear hc
          go_wp2_with (fail)
          go_roundg k1
          case measure => omega
          case rel => exact ⟨_, cnt1, s, rfl, HS, ⟨by have h1 := HCN.out; have h2 := HLT.out; omega⟩, ⟨HR7.out⟩, HST2, HB7⟩

set_option maxHeartbeats 4000000 in
set_option maxRecDepth 100000 in
theorem who_any {W : World} {g N : Nat} {m : Option Nat} {p : Int → Int → Bool} {t : Int} (wt : Wf t) (hA : At W g m N p) :
    Calls Tryd.prog 13 #[.pointer (some ⟨g, 0, none⟩), .int .i64 t] W fun e w' => e = .returned (.int .u64 ((Gs.setOf (fun o => p (o : Int) t) 64 : Nat) : Int)) ∧ Below W.heap.size W w' := by
  have HA := Aside0.mk hA
  have c0 := hA.c0
  have WT := Aside0.mk wt
  have hu52 := Tryd.underlying52
  cases m with
  | none =>
    have HP := Aside0.mk (show Gs.setOf (fun o => p (o : Int) t) 64 = 0 from by
      rcases hA.hm with ⟨_, h⟩ | ⟨b, D, h, _⟩
      · rw [h]; exact Gs.setOf_false 64
      · cases h)
    clear hA wt
    have hrg := run_range_nilMap (P := Tryd.prog) W 38 52 55 Tryd.underlying38
    have hnx : ∀ ty, (Instr.next (.pointer (some ⟨W.heap.size, 0, none⟩)) false ty).run Tryd.prog (W.alloc (.mapIter none 0 #[] 0)) = _ := fun ty => run_next_nilMap _ ty 0 0 #[]
    go_enter Tryd.func13, Tryd.ntmps13
    go_wp2
    refine wp_loop_rounds 1 ?_
    rw [rounds_succ]
    go_wp2
    go_ret
    exact ⟨by rw [HP.out]; first | rfl | simp, by repeat (first | exact Below.refl _ _ | apply below_alloc | apply below_drew)⟩
  | some b =>
    obtain ⟨D, hown, hv⟩ : ∃ D, W.ownsMap Tryd.prog 52 (unitElem (H := Unit)) b N D ∧ Vw D p := by
      rcases hA.hm with ⟨h, _⟩ | ⟨b', D, h, ho, hv⟩
      · cases h
      · injection h with h; subst h; exact ⟨D, ho, hv⟩
    have HV := Aside0.mk hv
    have HBL := Aside0.mk hown.lt
    clear hA hv wt
    go_enter Tryd.func13, Tryd.ntmps13
    go_upto_block 0 with (at_range; refine wpList_range_own _ rfl _ 38 rfl 52 55 law Tryd.underlying38 _ b N D rfl hown ?_; intro w0 hrg0 hg0 hs0; have HR0 := Aside0.mk hrg0; have HB0 := Aside0.mk (show Below W.heap.size W w0 from ⟨hg0.os, hg0.tape, hg0.output, hg0.size, fun k hk => hg0.block k hk (by simp)⟩); clear hrg0 hg0 hs0)
    clear hown c0
    obtain ⟨r, hr⟩ : ∃ r, r = W.heap.size := ⟨_, rfl⟩
    have HRG := Aside0.mk (show W.heap.size ≤ r from by omega)
    rw [← hr] at HR0
    try rw [← hr]
    clear hr
    go_wp2
    go_frame
    go_loopg [5] (Maps.size D) (fun kq v5 w' => ∃ (left : Lit → Bool) (cnt s : Nat), v5 = .int .u64 (s : Int) ∧ Aside0 (s < Bt.top) ∧ Aside0 (cnt ≤ kq) ∧ Aside0 (w'.ranges Tryd.prog 52 (unitElem (H := Unit)) b r N D left cnt) ∧ Aside0 (∀ o : Nat, o < 64 → s.testBit o = (p (o : Int) t && !left (kl (o : Int) t))) ∧ Aside0 (Below W.heap.size W w'))
    case atStart =>
      refine ⟨_, _, 0, rfl, ⟨by decide⟩, ⟨Nat.le_refl _⟩, HR0, ⟨fun o ho => ?_⟩, HB0⟩
      rw [Nat.zero_testBit, HV.out.2 o t (wf_nat (by omega)) WT.out]
      cases p (o : Int) t <;> rfl
    case round =>
      clear HR0 HB0
      obtain ⟨left, cnt, s, rfl, HS, HCN, HRA, HST, HB⟩ := hrel
      go_wp2_with (at_next; refine wpList_next_ranges _ rfl _ rfl 52 law (unitElem (H := Unit)) mkK mkV invK invV b r N D left cnt rfl HRA.out ?_ ?_)
      · intro hc0 hl0
        have HSE := Aside0.mk (show s = Gs.setOf (fun o => p (o : Int) t) 64 from by
          apply Bt.ext HS.out (Gs.setOf_top _ (by decide))
          intro o ho
          rw [HST.out o ho, Gs.tb_setOf, decide_eq_true ho, hl0]
          simp)
        clear hc0 hl0
        go_wp2
        go_ret
        exact ⟨by rw [← HSE.out]; first | rfl | simp, by repeat (first | exact HB.out | apply below_alloc | apply below_drew)⟩
      · intro x y u kl0 z z2 w1 cnt1 hkx hlx hR hat hrg1 hlt hg1 hs1 hen
        obtain ⟨x', y', exy, wx, wy, rfl⟩ := key_inv hkx
        have exy2 : x = x' ∧ y = y' := by
          unfold mkK at exy
          injection exy with exy
          have h2 := congrArg Array.toList exy
          simp at h2
          exact h2
        obtain ⟨rfl, rfl⟩ := exy2
        have HPX := Aside0.mk (show p x y = true from by rw [← HV.out.2 x y wx wy]; exact Maps.has_true_of_atKey hat)
        have WX := Aside0.mk wx
        have WY := Aside0.mk wy
        have HLT := Aside0.mk hlt
        have HR1 := Aside0.mk hrg1
        have HB1 := Aside0.mk (show Below W.heap.size W w1 from ⟨hg1.os.trans HB.out.os, hg1.tape.trans HB.out.tape, hg1.output.trans HB.out.output, Nat.le_trans HB.out.size hg1.size, fun k hk => (hg1.block k (Nat.lt_of_lt_of_le hk HB.out.size) (fun e => by injection e with e; have := HRG.out; omega)).trans (HB.out.block k hk)⟩)
        have hen2 : (Instr.entry (.pointer (some ⟨r, 0, none⟩))).run Tryd.prog w1 = .ok (.tuple #[.agg #[.int .i64 x, .int .i64 y], .agg #[]]) w1 := hen
        clear hkx hlx hR hat hrg1 hlt hg1 hs1 hen exy wx wy
        simp only [mkK, mkV]
        rcases gk with _ | k1
        · exact absurd HLT.out (by have := HCN.out; omega)
        go_upto_region 7 with ((with_reducible refine gate_dst (N := 6) rfl ?_); refine box_event ?hg (N := 6) ?hd (cs := #[.int .i64 0, .int .i64 0]) (t := 52) ?hr ?_; (case hd => rfl); (case hg => rfl); (case hr => first | (go_simp; done) | (go_simp; rfl)); intro gb hg w2 hbox hb; have HGB := Aside0.mk (show gb = w1.heap.size from hg); have BX2 := Aside0.mk hbox; have HW2 := Aside0.mk hb; clear hg hbox hb; have y0 : w2.cell? ⟨gb, 0, none⟩ = some (.int .i64 0) := (blk_cell BX2.out 0).trans rfl; have y1 : w2.cell? ⟨gb, 1, none⟩ = some (.int .i64 0) := (blk_cell BX2.out 1).trans rfl; have fz0 := blk_frozen BX2.out 0; have fz1 := blk_frozen BX2.out 1)
        have HX2 := Aside0.mk (show ((w2.setCell ⟨gb, 0, none⟩ (.int .i64 x)).setCell ⟨gb, 1, none⟩ (.int .i64 y)).heap[gb]? = some (.cells #[.int .i64 x, .int .i64 y] 52 (0, 0)) from blk_put (blk_put BX2.out 0 _ rfl) 1 _ rfl)
        have HW7 := Aside0.mk (show Below w1.heap.size w1 ((w2.setCell ⟨gb, 0, none⟩ (.int .i64 x)).setCell ⟨gb, 1, none⟩ (.int .i64 y)) from below_set (below_set HW2.out (by have := HGB.out; omega)) (by have := HGB.out; omega))
        clear HW2 BX2 fz0 fz1 y0 y1 HGB
        generalize (w2.setCell ⟨gb, 0, none⟩ (.int .i64 x)).setCell ⟨gb, 1, none⟩ (.int .i64 y) = w7 at *
        have HR7 := Aside0.mk (HR1.out.kept (row := none) (show w1.grownBy w7 none from ⟨HW7.out.os, HW7.out.tape, HW7.out.output, HW7.out.size, fun i hi _ => HW7.out.block i hi⟩) (by simp) (by simp))
        have HB7 := Aside0.mk (below_step HB1.out HW7.out)
        have x0 : w7.cell? ⟨gb, 0, none⟩ = some (.int .i64 x) := (blk_cell HX2.out 0).trans rfl
        have x1 : w7.cell? ⟨gb, 1, none⟩ = some (.int .i64 y) := (blk_cell HX2.out 1).trans rfl
        clear HR1 HB1 HW7
        by_cases hc : y = t
        · have WCT := Aside0.mk hc
          have d1 : (y == t) = true := beq_iff_eq.2 hc
          by_cases hr : x < 0 ∨ 64 ≤ x
          · have HWF := Aside0.mk (with_out HS.out hr)
            have HST2 := Aside0.mk (keep (k0 := kl x y) (K := fun o => kl (o : Int) t) (P := fun o => p (o : Int) t) (left := left) (fun o ho e => by
              have := (kl_inj (wf_nat (by omega)) WT.out WX.out WY.out e).1
              omega) HST.out)
            clear hr hc
            go_wp2_with (go_at_call 26; (with_reducible refine (bits_Set_With.calls _ _ _ _ HWF.out).mono ?_); rintro e w9 ⟨rfl, ⟨nd9, rfl⟩⟩)
            go_roundg k1
            case measure => omega
            case rel => exact ⟨fun z => left z && !z.sameKey (kl x y), cnt1, s, rfl, HS, ⟨by have h1 := HCN.out; have h2 := HLT.out; omega⟩, ⟨HR7.out⟩, HST2, ⟨pw_below_drewN HB7.out _⟩⟩
          · obtain ⟨c, hcc⟩ : ∃ c : Nat, x = (c : Int) := ⟨(x).toNat, by omega⟩
            have HCC := Aside0.mk hcc
            have HC64 := Aside0.mk (show c < 64 from by omega)
            have HWF := Aside0.mk (with_f HS.out HC64.out)
            have HST2 := Aside0.mk (more (c := c) (k0 := kl x y) (K := fun o => kl (o : Int) t) (P := fun o => p (o : Int) t) (left := left) (by show kl (c : Int) t = kl x y; rw [← hcc, ← hc]) (same_self x y) (fun o ho hne e => by
              have := (kl_inj (wf_nat (by omega)) WT.out WX.out WY.out e).1
              omega) (by show p (c : Int) t = true; rw [← hcc, ← hc]; exact HPX.out) HST.out)
            have d2 : x = (c : Int) := hcc
            subst hcc
            clear hr hc
            go_wp2_with (go_at_call 26; (with_reducible refine (bits_Set_With.calls _ _ _ _ HWF.out).mono ?_); rintro e w9 ⟨rfl, ⟨nd9, rfl⟩⟩)
            go_roundg k1
            case measure => omega
            case rel => exact ⟨fun z => left z && !z.sameKey (kl (c : Int) y), cnt1, s ||| 2 ^ c, rfl, ⟨Bt.lt_or HS.out (Bt.lt_pow HC64.out)⟩, ⟨by have h1 := HCN.out; have h2 := HLT.out; omega⟩, ⟨HR7.out⟩, HST2, ⟨pw_below_drewN HB7.out _⟩⟩
        · have d1 : (y == t) = false := beq_eq_false_iff_ne.2 hc
          have HST2 := Aside0.mk (keep (k0 := kl x y) (K := fun o => kl (o : Int) t) (P := fun o => p (o : Int) t) (left := left) (fun o ho e => hc (kl_inj (wf_nat (by omega)) WT.out WX.out WY.out e).2.symm) HST.out)
          clear hc
          go_wp2_with (fail)
          go_roundg k1
          case measure => omega
          case rel => exact ⟨_, cnt1, s, rfl, HS, ⟨by have h1 := HCN.out; have h2 := HLT.out; omega⟩, ⟨HR7.out⟩, HST2, HB7⟩
end Go.Proofs.YtjcjhmnfknenlaaDoor.Rt
