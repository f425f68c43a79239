/- find: where a thread stands among waiters. Conditions: none. -/
import Derived.Test.YtakbhnfmimnbhaaLn1
import Derived.Deep.LoopGhost
import Derived.Shelf.Abstract
namespace Go.Proofs.Ytakbhnfmimnbhaa.Ln
open Go.RowKit Go.Proofs.Ytakbhnfmimnbhaa.PLineRises Go.Proofs.YtakbhnfmimnbhaaW.PrintWords Go.Proofs.YtakbhnfmimnbhaaW.PrintLast Go.Proofs.YtakbhnfmimnbhaaW.PrintMore
set_option linter.unusedVariables false
set_option linter.unusedSimpArgs false

def wq (l : List S48) (i : Nat) : S48 := l.getD i z48
def fnd (l : List S48) (o : Int) : Option Nat := l.findIdx? fun p => p.f0 == o
def plc : Option Nat → Int
  | some i => (i : Int)
  | none => -1
theorem wq_el (l : List S48) {i : Nat} (h : i < l.length) : wq l i = l[i] := by
  unfold wq
  rw [List.getD_eq_getElem?_getD, List.getElem?_eq_getElem h]
  rfl
theorem fnd_none {l : List S48} {o : Int} (h : ∀ j, j < l.length → (wq l j).f0 ≠ o) : fnd l o = none := by
  unfold fnd
  rw [List.findIdx?_eq_none_iff]
  intro x hx
  obtain ⟨j, hj, rfl⟩ := List.mem_iff_getElem.1 hx
  have := h j hj
  rw [wq_el l hj] at this
  simpa using this
theorem fnd_some {l : List S48} {o : Int} {i : Nat} (hi : i < l.length) (he : (wq l i).f0 = o) (h : ∀ j, j < i → (wq l j).f0 ≠ o) : fnd l o = some i := by
  unfold fnd
  rw [List.findIdx?_eq_some_iff_getElem]
  refine ⟨hi, by rw [← wq_el l hi]; simpa using he, fun j hj => ?_⟩
  have := h j hj
  rw [wq_el l (by omega)] at this
  simpa using this
theorem fnd_lt {l : List S48} {o : Int} {i : Nat} (h : fnd l o = some i) : i < l.length ∧ (wq l i).f0 = o ∧ ∀ j, j < i → (wq l j).f0 ≠ o := by
  unfold fnd at h
  rw [List.findIdx?_eq_some_iff_getElem] at h
  obtain ⟨hi, h1, h2⟩ := h
  refine ⟨hi, by rw [wq_el l hi]; simpa using h1, fun j hj => ?_⟩
  have := h2 j hj
  rw [wq_el l (by omega)]
  simpa using this
theorem fnd_no {l : List S48} {o : Int} (h : fnd l o = none) : ∀ j, j < l.length → (wq l j).f0 ≠ o := by
  intro j hj
  unfold fnd at h
  rw [List.findIdx?_eq_none_iff] at h
  have := h (l[j]) (List.getElem_mem hj)
  rw [wq_el l hj]
  simpa using this
theorem rd48 (l : List S48) (i : Nat) : rd_T48 l (i : Int) = wq l i := by
  unfold rd_T48 wq
  rw [Int.toNat_natCast]
/-- The cells of the i-th waiter. -/
structure Wc (w : World) (ad : Addr) (i : Nat) (x : S48) (v : Value) : Prop where
  c0 : w.cell? (ad.add (i * 10)) = some (.int .i64 x.f0)
  c1 : w.cell? ⟨(ad.add (i * 10)).block, (ad.add (i * 10)).off + 1, none⟩ = some (.int .i64 x.f1)
  c2 : w.cell? ⟨(ad.add (i * 10)).block, (ad.add (i * 10)).off + 2, none⟩ = some (.int .i64 x.f2)
  c3 : w.cell? ⟨(ad.add (i * 10)).block, (ad.add (i * 10)).off + 3, none⟩ = some (.int .i64 x.f3)
  c4 : w.cell? ⟨(ad.add (i * 10)).block, (ad.add (i * 10)).off + 4, none⟩ = some v
  c5 : w.cell? ⟨(ad.add (i * 10)).block, (ad.add (i * 10)).off + 5, none⟩ = some (.int .i64 x.f5)
  c6 : w.cell? ⟨(ad.add (i * 10)).block, (ad.add (i * 10)).off + 6, none⟩ = some (.int .i64 x.f6)
  c7 : w.cell? ⟨(ad.add (i * 10)).block, (ad.add (i * 10)).off + 7, none⟩ = some (.int .i64 x.f7)
  c8 : w.cell? ⟨(ad.add (i * 10)).block, (ad.add (i * 10)).off + 8, none⟩ = some (.int .i64 x.f8)
  c9 : w.cell? ⟨(ad.add (i * 10)).block, (ad.add (i * 10)).off + 9, none⟩ = some (.int .u64 x.f9)
theorem at_w {w : World} {A : Option Addr} {n : Nat} {l : List S48} (h : Kd.C k48 w A n l) {i : Nat} (hi : i < n) : ∃ ad A4 c4, A = some ad ∧ Wc w ad i (wq l i) (.slice A4 (wq l i).f4.length c4) ∧ (wq l i).f4.length ≤ c4 ∧ Kd.C kW w A4 (wq l i).f4.length (wq l i).f4 := by
  obtain ⟨ad, A4, c4, e, h0, h1, h2, h3, h4, h5, h6, h7, h8, h9, hl, hc⟩ := at_T48 h (i : Int) (by omega) (by omega)
  rw [rd48] at h0 h1 h2 h3 h4 h5 h6 h7 h8 h9 hl hc
  rw [Int.toNat_natCast] at h0 h1 h2 h3 h4 h5 h6 h7 h8 h9
  exact ⟨ad, A4, c4, e, ⟨h0, h1, h2, h3, h4, h5, h6, h7, h8, h9⟩, hl, hc⟩
set_option maxHeartbeats 4000000 in
theorem pred_any (W : World) (b : Nat) (x : S48) (A : Option Addr) (n c : Nat) (o : Int) (hc : W.cell? ⟨b, 0, none⟩ = some (.int .i64 o)) : Calls Try.prog 84 #[wv x (.slice A n c), .pointer (some ⟨b, 0, none⟩)] W fun e w' => e = .returned (.bool (x.f0 == o)) ∧ Below W.heap.size W w' := by
  have hu48 := Try.underlying48
  unfold wv
  go_enter Try.func84, Try.ntmps84
  go_upto_region 1 with (((with_reducible refine gate_dst (N := 2) rfl ?_); refine box_event ?hg (N := 2) ?hd (cs := #[.int .i64 x.f0, .int .i64 x.f1, .int .i64 x.f2, .int .i64 x.f3, .slice A n c, .int .i64 x.f5, .int .i64 x.f6, .int .i64 x.f7, .int .i64 x.f8, .int .u64 x.f9]) (t := 48) ?hr ?_; (case hd => rfl); (case hg => rfl); (case hr => first | (go_simp; done) | (go_simp; rfl)); intro g hg w1 hbox hb; have HB := Aside0.mk hb; have X := Aside0.mk hbox; clear hbox hb hg))
  have z0 : w1.cell? ⟨g, 0, none⟩ = some (.int .i64 x.f0) := (blk_cell X.out 0).trans rfl
  have z1 : w1.cell? ⟨b, 0, none⟩ = some (.int .i64 o) := (HB.out.cell (World.block_lt_of_cell? _ _ hc)).trans hc
  clear hc
  go_wp2
  go_ret
  exact ⟨rfl, HB.out⟩
set_option maxHeartbeats 8000000 in
set_option maxRecDepth 100000 in
theorem idx_any {W : World} {A : Option Addr} {n c : Nat} {l : List S48} {b : Nat} {o : Int} (hr : Kd.C k48 W A n l) (hn : n = l.length) (hl : n ≤ 1000000) (hc : W.cell? ⟨b, 0, none⟩ = some (.int .i64 o)) : Calls Try.prog 83 #[.slice A n c, .func (.func 84) #[] #[.pointer (some ⟨b, 0, none⟩)]] W fun e w' => e = .returned (.int .i64 (plc (fnd l o))) ∧ Below W.heap.size W w' := by
  have eg := enters_of Try.func84 (by kernel_rfl) rfl
  have hu48 := Try.underlying48
  have hu38 := Try.underlying38
  have HR := Aside0.mk hr
  have HC := Aside0.mk hc
  have HN := Aside0.mk hn
  have HL := Aside0.mk hl
  clear hr hc hn hl
  go_enter Try.func83, Try.ntmps83
  go_wp2
  go_loopg [5, 8] n (fun kq _ v8 w' => ∃ (i : Nat), v8 = .int .i64 (i : Int) ∧ Aside0 (i + kq = n) ∧ Aside0 (Below W.heap.size W w') ∧ Aside0 (∀ j, j < i → (wq l j).f0 ≠ o))
  case atStart => exact ⟨0, rfl, ⟨by omega⟩, ⟨Below.refl _ _⟩, ⟨fun j hj => by omega⟩⟩
  case round =>
    obtain ⟨i, rfl, HI, HB, HF⟩ := hrel
    rcases gk with _ | k1
    · have d1 : decide ((i : Int) < (n : Int)) = false := decide_eq_false (by have := HI.out; omega)
      have d2 : decide (i < n) = false := decide_eq_false (by have := HI.out; omega)
      go_wp2
      go_ret
      refine ⟨?_, HB.out⟩
      rw [fnd_none (fun j hj => HF.out j (by have := HI.out; have := HN.out; omega))]
      rfl
    · have hil : i < n := by have := HI.out; omega
      have HIL := Aside0.mk (show i < l.length from by rw [← HN.out]; exact hil)
      have d1 : decide ((i : Int) < (n : Int)) = true := decide_eq_true (by omega)
      have d2 : decide (i < n) = true := decide_eq_true hil
      have q1 : (0 ≤ (i : Int)) = True := eq_true (by omega)
      have q2 : ((i : Int) < (n : Int)) = True := eq_true (by omega)
      obtain ⟨ad, A4, c4, ea, hw, hl4, hc4⟩ := at_w (Kd.C_below HR.out HB.out) hil
      subst ea
      have y0 := hw.c0
      have y1 := hw.c1
      have y2 := hw.c2
      have y3 := hw.c3
      have y4 := hw.c4
      have y5 := hw.c5
      have y6 := hw.c6
      have y7 := hw.c7
      have y8 := hw.c8
      have y9 := hw.c9
      clear hil hw hl4 hc4
      have HCW := Aside0.mk (show wr.cell? ⟨b, 0, none⟩ = some (.int .i64 o) from (HB.out.cell (World.block_lt_of_cell? _ _ HC.out)).trans HC.out)
      have ew : Aside0 (wrap64 ((i : Int) + 1) = (i : Int) + 1) := ⟨by have h2 := HIL.out; have h3 := HL.out; have h4 := HN.out; unfold wrap64; omega⟩
      by_cases he : (wq l i).f0 = o
      · have HE := Aside0.mk (fnd_some HIL.out he HF.out)
        have d3 : ((wq l i).f0 == o) = true := beq_iff_eq.2 he
        clear he
        obtain ⟨x, hx⟩ : ∃ x, x = wq l i := ⟨_, rfl⟩
        rw [← hx] at y0 y1 y2 y3 y4 y5 y6 y7 y8 y9 d3
        clear hx
        go_wp2_with (fail)
        refine (pred_any _ b x A4 x.f4.length c4 o HCW.out).mono ?_
        rw [d3]
        rintro e w2 ⟨rfl, hb⟩
        have HB2 := Aside0.mk (below_step HB.out hb)
        clear hb
        go_wp2
        go_ret
        exact ⟨by rw [HE.out]; rfl, HB2.out⟩
      · have HF2 := Aside0.mk (show ∀ j, j < i + 1 → (wq l j).f0 ≠ o from fun j hj => by
          by_cases e : j = i
          · rw [e]; exact he
          · exact HF.out j (by omega))
        have d3 : ((wq l i).f0 == o) = false := beq_eq_false_iff_ne.2 he
        clear he HF
        obtain ⟨x, hx⟩ : ∃ x, x = wq l i := ⟨_, rfl⟩
        rw [← hx] at y0 y1 y2 y3 y4 y5 y6 y7 y8 y9 d3
        clear hx
        go_wp2_with (fail)
        refine (pred_any _ b x A4 x.f4.length c4 o HCW.out).mono ?_
        rw [d3]
        rintro e w2 ⟨rfl, hb⟩
        have HB2 := Aside0.mk (below_step HB.out hb)
        clear hb
        go_wp2
        go_roundg k1
        case measure => omega
        case rel => exact ⟨i + 1, by rw [ew.out]; simp, ⟨by have := HI.out; omega⟩, HB2, HF2⟩
end Go.Proofs.Ytakbhnfmimnbhaa.Ln
