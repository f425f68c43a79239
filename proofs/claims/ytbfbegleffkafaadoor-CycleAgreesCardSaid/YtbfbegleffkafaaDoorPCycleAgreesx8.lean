/- Go functions as plain Lean functions, and that the calls come to them. Conditions: none. (Written by a program of this session.) -/
import Derived.Test.YtbfbegleffkafaaDoorPCycleAgreesx0
import Derived.Test.YtbfbegleffkafaaDoorPCycleAgreesx3
import Derived.Test.YtbfbegleffkafaaDoorPCycleAgreesx4
import Derived.Test.YtbfbegleffkafaaDoorPCycleAgreesx6
import Derived.Test.YtbfbegleffkafaaDoorPCycleAgreesx7
namespace Go.Proofs.YtbfbegleffkafaaDoor.PCycleAgrees
open Go.RowKit Go.Proofs.YtbfbegleffkafaaDoorW.PrintWords Go.Proofs.YtbfbegleffkafaaDoorW.PrintLast Go.Proofs.YtbfbegleffkafaaDoorW.PrintMore
attribute [local go_sem] max2_int min2_int max_two min_two max_three min_three max_four min_four   -- for this text's walks alone
set_option linter.unusedVariables false
set_option linter.unusedSimpArgs false

/-! ### graph_order: function 59 -/
-- by hand
open Ch (Chg)
namespace As
/-! ### who has a share of whom, as sets by thread -/
def Cv (n : Nat) (B : List Nat) (i : Nat) (L : List S68) : Prop := ∀ s ∈ L, 0 ≤ s.f0 → s.f0 < (n : Int) → (B.getD s.f0.toNat 0).testBit i = true
def CvT (n : Nat) (B : List Nat) (i : Nat) (L : List S66) : Prop := ∀ m ∈ L, Cv n B i m.f1
def CvA (n : Nat) (B : List Nat) (i : Nat) (L : List (List S66)) : Prop := ∀ y ∈ L, CvT n B i y
def CvN (n : Nat) (B : List Nat) (l : List S44) (i : Nat) : Prop := ∀ j, j < i → CvA n B j (l.getD j z44).f1
def Up (B B' : List Nat) : Prop := ∀ j i, (B.getD j 0).testBit i = true → (B'.getD j 0).testBit i = true
def Ok (n : Nat) (B : List Nat) : Prop := B.length = 64 ∧ ∀ j, B.getD j 0 < 2 ^ n
section
variable {n i : Nat} {B B' B2 : List Nat}
theorem Up.refl (B : List Nat) : Up B B := fun _ _ h => h
theorem Up.trans (h : Up B B') (k : Up B' B2) : Up B B2 := fun j i q => k j i (h j i q)
theorem Cv.up {L : List S68} (h : Cv n B i L) (u : Up B B') : Cv n B' i L := fun s hs h0 h1 => u _ _ (h s hs h0 h1)
theorem CvT.up {L : List S66} (h : CvT n B i L) (u : Up B B') : CvT n B' i L := fun m hm => (h m hm).up u
theorem CvA.up {L : List (List S66)} (h : CvA n B i L) (u : Up B B') : CvA n B' i L := fun m hm => (h m hm).up u
theorem CvN.up {l : List S44} (h : CvN n B l i) (u : Up B B') : CvN n B' l i := fun j hj => (h j hj).up u
theorem take_succ {α : Type} (L : List α) (z : α) {q : Nat} (hq : q < L.length) : L.take (q + 1) = L.take q ++ [L.getD q z] := by
  rw [List.take_add_one, List.getD_eq_getElem?_getD, List.getElem?_eq_getElem hq]
  rfl
theorem Cv.snoc {L : List S68} {q : Nat} (hq : q < L.length) (h : Cv n B i (L.take q)) (k : 0 ≤ (L.getD q z68).f0 → (L.getD q z68).f0 < (n : Int) → (B.getD (L.getD q z68).f0.toNat 0).testBit i = true) : Cv n B i (L.take (q + 1)) := by
  intro s hs
  rw [take_succ L z68 hq] at hs
  rcases List.mem_append.1 hs with hs | hs
  · exact h s hs
  · rw [List.mem_singleton.1 hs]; exact k
theorem CvT.snoc {L : List S66} {q : Nat} (hq : q < L.length) (h : CvT n B i (L.take q)) (k : Cv n B i (L.getD q z66).f1) : CvT n B i (L.take (q + 1)) := by
  intro s hs
  rw [take_succ L z66 hq] at hs
  rcases List.mem_append.1 hs with hs | hs
  · exact h s hs
  · rw [List.mem_singleton.1 hs]; exact k
theorem CvA.snoc {L : List (List S66)} {q : Nat} (hq : q < L.length) (h : CvA n B i (L.take q)) (k : CvT n B i (L.getD q [])) : CvA n B i (L.take (q + 1)) := by
  intro s hs
  rw [take_succ L [] hq] at hs
  rcases List.mem_append.1 hs with hs | hs
  · exact h s hs
  · rw [List.mem_singleton.1 hs]; exact k
theorem CvN.snoc {l : List S44} (h : CvN n B l i) (k : CvA n B i (l.getD i z44).f1) : CvN n B l (i + 1) := by
  intro j hj
  by_cases e : j = i
  · subst e; exact k
  · exact h j (by omega)
/-- One bit more. -/
def put (B : List Nat) (t i : Nat) : List Nat := B.set t (B.getD t 0 ||| 2 ^ i)
theorem getD_set (B : List Nat) (t x j : Nat) (ht : t < B.length) : (B.set t x).getD j 0 = if j = t then x else B.getD j 0 := by
  rw [List.getD_eq_getElem?_getD, List.getD_eq_getElem?_getD, List.getElem?_set]
  by_cases e : t = j
  · subst e; rw [if_pos rfl, if_pos rfl, if_pos ht]; rfl
  · rw [if_neg e, if_neg (fun q => e q.symm)]
theorem Ok.put_ (h : Ok n B) {t : Nat} (ht : t < 64) (hi : i < n) : Ok n (put B t i) := by
  refine ⟨by unfold put; rw [List.length_set]; exact h.1, fun j => ?_⟩
  unfold put
  rw [getD_set _ _ _ _ (by rw [h.1]; exact ht)]
  split
  · exact Nat.or_lt_two_pow (h.2 t) (Nat.pow_lt_pow_right (by decide) hi)
  · exact h.2 j
theorem up_put (h : Ok n B) {t : Nat} (ht : t < 64) : Up B (put B t i) := by
  intro j k hk
  unfold put
  rw [getD_set _ _ _ _ (by rw [h.1]; exact ht)]
  split
  · rename_i e; rw [← e, Nat.testBit_or, hk]; rfl
  · exact hk
theorem put_bit (h : Ok n B) {t : Nat} (ht : t < 64) : ((put B t i).getD t 0).testBit i = true := by
  unfold put
  rw [getD_set _ _ _ _ (by rw [h.1]; exact ht), if_pos rfl, Nat.testBit_or, Nat.testBit_two_pow_self]
  simp
end
/-! ### in memory -/
def enc (B : List Nat) : Array Value := (B.map fun (n : Nat) => Value.int .u64 (n : Int)).toArray
theorem enc_size (B : List Nat) : (enc B).size = B.length := by simp [enc]
theorem enc_get (B : List Nat) (j : Nat) (hj : j < B.length) : (enc B)[j]? = some (.int .u64 ((B.getD j 0 : Nat) : Int)) := by
  simp [enc, List.getD_eq_getElem?_getD, hj]
theorem enc_set (B : List Nat) (j x : Nat) : (enc B).setIfInBounds j (.int .u64 (x : Int)) = enc (B.set j x) := by
  unfold enc
  rw [List.setIfInBounds_toArray, List.map_set]
theorem enc_one (B : List Nat) : (enc B).all (·.oneCell') = true := by
  rw [Array.all_eq_true_iff_forall_mem]
  intro x hx
  unfold enc at hx
  rw [List.mem_toArray, List.mem_map] at hx
  obtain ⟨a, _, rfl⟩ := hx
  rfl
def Z0 : List Nat := List.replicate 64 0
/-- Below, and the two rows of 64 sets: the one that is built, and the result's. -/
structure I (n : Nat) (w w' : World) (g g2 : Nat) (B : List Nat) : Prop where
  hb : Below w.heap.size w w'
  hg : w'.heap[g]? = some (.cells (enc B) 93 (0, 0))
  h2 : w'.heap[g2]? = some (.cells (enc Z0) 93 (0, 0))
  ne : g ≠ g2
  ge : w.heap.size ≤ g
  ge2 : w.heap.size ≤ g2
  ok : Ok n B
theorem I.below {n : Nat} {w w' w2 : World} {g g2 : Nat} {B : List Nat} (h : I n w w' g g2 B) (hb : Below w'.heap.size w' w2) : I n w w2 g g2 B :=
  ⟨below_step h.hb hb, blk_below h.hg hb, blk_below h.h2 hb, h.ne, h.ge, h.ge2, h.ok⟩
theorem I.put_ {n : Nat} {w w' : World} {g g2 : Nat} {B : List Nat} (h : I n w w' g g2 B) {t i : Nat} (ht : t < 64) (hi : i < n) : I n w (w'.setCell ⟨g, t, none⟩ (.int .u64 ((B.getD t 0 ||| 2 ^ i : Nat) : Int))) g g2 (put B t i) :=
  ⟨below_set h.hb h.ge, blk_put h.hg t _ (enc_set _ _ _), blk_far h.h2 h.ne.symm _, h.ne, h.ge, h.ge2, h.ok.put_ ht hi⟩
theorem I.cell {n : Nat} {w w' : World} {g g2 : Nat} {B : List Nat} (h : I n w w' g g2 B) {t : Nat} (ht : t < 64) : w'.cell? ⟨g, t, none⟩ = some (.int .u64 ((B.getD t 0 : Nat) : Int)) :=
  (blk_cell h.hg t).trans (enc_get B t (by rw [h.ok.1]; exact ht))
theorem with_f {s t : Nat} (hs : s < Bt.top) (ht : t < 64) : bits_Set_With.f (s : Int) (t : Int) = some ((s ||| 2 ^ t : Nat) : Int) := by
  unfold bits_Set_With.f bits_one.f
  rw [if_neg (by omega), if_neg (by omega), if_pos (by omega), Bt.shl_one ht, Option.bind_some, Bt.or_nat hs (Bt.lt_pow ht)]
theorem lt_top {n : Nat} (hn : n ≤ 64) {x : Nat} (h : x < 2 ^ n) : x < Bt.top := by
  rw [Bt.top_pow]
  exact Nat.lt_of_lt_of_le h (Nat.pow_le_pow_right (by decide) hn)
theorem below_row {b g : Nat} {w0 w : World} (hb : Below b w0 w) (hg : b ≤ g) (cs : Array Value) : Below b w0 (w.setRow g cs) :=
  hb.trans ⟨rfl, rfl, rfl, by simp [World.setRow], fun k hk => setRow_other w g k cs (by omega)⟩
end As
open Ch (Chg)
namespace As
set_option maxHeartbeats 8000000 in
set_option maxRecDepth 100000 in
theorem asks_any {A : Option Addr} {c0 : Nat} {l : List S44} {w : World} (hr : Kd.C k44 w A l.length l) (hc : l.length ≤ c0) (hn : l.length ≤ 64) :
    Calls Tryd.prog 78 #[.slice A l.length c0] w fun e w' => ∃ B, e = .returned (.agg (enc B)) ∧ Ok l.length B ∧ CvN l.length B l l.length ∧ Below w.heap.size w w' := by
  have hu44 := Tryd.underlying44
  have hu66 := Tryd.underlying66
  have hu68 := Tryd.underlying68
  have HR := Aside0.mk hr
  have HC := Aside0.mk hc
  clear hr hc
  obtain ⟨n, hN⟩ : ∃ n, n = l.length := ⟨_, rfl⟩
  have HN := Aside0.mk hN
  rw [← hN] at HR HC hn
  rw [← hN]
  have HN64 := Aside0.mk hn
  clear hn hN
  go_enter Tryd.func78, Tryd.ntmps78
  go_upto_block 0 with (first
    | ((with_reducible refine gate_dst (N := 2) rfl ?_); refine box_event ?hg (N := 2) ?hd (cs := enc Z0) (t := 93) ?hr ?_; (case hd => rfl); (case hg => rfl); (case hr => first | (go_simp; done) | (go_simp; rfl)); intro g2 hg w1 hbox hb; have HB1 := Aside0.mk hb; have BX1 := Aside0.mk hbox; have HG1 := Aside0.mk hg; clear hb hbox hg)
    | ((with_reducible refine gate_dst (N := 3) rfl ?_); refine box_event ?hg (N := 3) ?hd (cs := enc Z0) (t := 93) ?hr ?_; (case hd => rfl); (case hg => rfl); (case hr => first | (go_simp; done) | (go_simp; rfl)); intro g hg w2 hbox hb; have HB2 := Aside0.mk hb; have BX2 := Aside0.mk hbox; have HG2 := Aside0.mk hg; clear hb hbox hg))
  have HI := Aside0.mk (show I n w w2 g g2 Z0 from ⟨below_step HB1.out HB2.out, BX2.out, blk_below BX1.out HB2.out, by have h1 := HG1.out; have h2 := HG2.out; have h3 := blk_lt BX1.out; omega, by have h2 := HG2.out; have h3 := HB1.out.size; omega, by have h1 := HG1.out; omega, ⟨rfl, fun j => by
    have : Z0.getD j 0 = 0 := by unfold Z0; rw [List.getD_eq_getElem?_getD, List.getElem?_replicate]; split <;> rfl
    rw [this]
    exact Nat.two_pow_pos n⟩⟩)
  clear HB1 HB2 BX1 BX2 HG1 HG2
  go_wp2
  go_loopg [14] n (fun kq v14 w' => ∃ (i : Nat) (B : List Nat), v14 = .int .i64 (i : Int) ∧ Aside0 (i + kq = n) ∧ Aside0 (I n w w' g g2 B) ∧ Aside0 (CvN n B l i))
  case atStart => exact ⟨0, Z0, rfl, ⟨by omega⟩, HI, ⟨fun j hj => by omega⟩⟩
  case round =>
    clear HI
    obtain ⟨i, B, rfl, HK, HI, HV⟩ := hrel
    rcases gk with _ | k1
    · have d1 : decide ((i : Int) < (n : Int)) = false := decide_eq_false (by have := HK.out; omega)
      have d2 : decide (i < n) = false := decide_eq_false (by have := HK.out; omega)
      have HIS := Aside0.mk (show (Tryd.prog.info? 93).map (·.size) = some (enc B).size from by rw [enc_size, HI.out.ok.1]; kernel_rfl)
      go_wp2_with (first
        | (refine wpList_load_row rfl 93 (.tmp 3) rfl g rfl 93 (enc B) (0, 0) _ HI.out.hg Tryd.underlying93 rfl HIS.out ?_)
        | (refine wpList_plain rfl fun _ hK => wp_store_row 93 (.tmp 2) (.tmp 62) rfl g2 (enc B) rfl rfl 93 (enc Z0) HI.out.h2 HIS.out (by rw [enc_size, enc_size, HI.out.ok.1]; rfl) (enc_one B) (hK _ _ ?_)))
      refine bodyPost_ret (results_cell_row rfl _ _ g2 93 (enc B) (0, 0) _ rfl (setRow_heap _ _ _ _ _ _ HI.out.h2) Tryd.underlying93 rfl HIS.out) rfl ⟨B, rfl, HI.out.ok, ?_, below_row HI.out.hb HI.out.ge2 _⟩
      have e : i = n := by have := HK.out; omega
      have h := HV.out
      rwa [e] at h
    · have hi := HK.out
      have d1 : decide ((i : Int) < (n : Int)) = true := decide_eq_true (by omega)
      have d2 : decide (i < n) = true := decide_eq_true (by omega)
      have p1 : (0 ≤ (i : Int)) = True := eq_true (by omega)
      have p2 : ((i : Int) < (n : Int)) = True := eq_true (by omega)
      obtain ⟨ad, A1, c1, ea, hx0, hx1, hl1, hi1⟩ := at_T44 HR.out (i : Int) (by omega) (by omega)
      subst ea
      have e44 : rd_T44 l (i : Int) = l.getD i z44 := by unfold rd_T44; rw [Int.toNat_natCast]
      rw [e44] at hx0 hx1 hl1 hi1
      replace hx0 := (HI.out.hb.cell (World.block_lt_of_cell? w _ hx0)).trans hx0
      replace hx1 := (HI.out.hb.cell (World.block_lt_of_cell? w _ hx1)).trans hx1
      rw [Int.toNat_natCast] at hx0 hx1
      have HSN := Aside0.mk (fun (B : List Nat) (h : CvN n B l i) (k : CvA n B i (l.getD i z44).f1) => h.snoc k)
      obtain ⟨nd, hnd⟩ : ∃ nd, nd = l.getD i z44 := ⟨_, rfl⟩
      rw [← hnd] at hx0 hx1 hl1 hi1 HSN
      have HC1 := Aside0.mk hi1
      have HL1 := Aside0.mk hl1
      have HIN := Aside0.mk (show i < n from by omega)
      obtain ⟨nA, hnA⟩ : ∃ m, m = nd.f1.length := ⟨_, rfl⟩
      rw [← hnA] at hx1 HC1
      have HnA := Aside0.mk hnA
      clear hnd e44 hi1 hl1 hi hnA HL1
      go_upto_region 5 with ((with_reducible refine gate_dst (N := 5) rfl ?_); refine box_event ?hg (N := 5) ?hd (cs := #[.bool false, .slice none 0 0]) (t := 44) ?hr ?_; (case hd => rfl); (case hg => rfl); (case hr => first | (go_simp; done) | (go_simp; rfl)); intro gb hg w2 hbox hb; have HGB := Aside0.mk (show gb = wr.heap.size from hg); have BX2 := Aside0.mk hbox; have HW2 := Aside0.mk hb; clear hg hbox hb; replace hx0 := (HW2.out.cell (World.block_lt_of_cell? _ _ hx0)).trans hx0; replace hx1 := (HW2.out.cell (World.block_lt_of_cell? _ _ hx1)).trans hx1; have y0 : w2.cell? ⟨gb, 0, none⟩ = some (.bool false) := (blk_cell BX2.out 0).trans rfl; have y1 : w2.cell? ⟨gb, 1, none⟩ = some (.slice none 0 0) := (blk_cell BX2.out 1).trans rfl; have fz0 := blk_frozen BX2.out 0; have fz1 := blk_frozen BX2.out 1)
      have HX2 := Aside0.mk (show ((w2.setCell ⟨gb, 0, none⟩ (.bool nd.f0)).setCell ⟨gb, 1, none⟩ (.slice A1 nA c1)).heap[gb]? = some (.cells #[.bool nd.f0, .slice A1 nA c1] 44 (0, 0)) from blk_put (blk_put BX2.out 0 _ rfl) 1 _ rfl)
      have HI7 := Aside0.mk (HI.out.below (show Below wr.heap.size wr ((w2.setCell ⟨gb, 0, none⟩ (.bool nd.f0)).setCell ⟨gb, 1, none⟩ (.slice A1 nA c1)) from below_set (below_set HW2.out (by have := HGB.out; omega)) (by have := HGB.out; omega)))
      have HNE := Aside0.mk (show g ≠ gb from by have h1 := blk_lt HI.out.hg; have h2 := HGB.out; omega)
      clear HW2 BX2 fz0 fz1 y0 y1 hx0 hx1 p1 p2 d1 d2 HGB HI
      generalize (w2.setCell ⟨gb, 0, none⟩ (.bool nd.f0)).setCell ⟨gb, 1, none⟩ (.slice A1 nA c1) = w7 at *
      have x0 : w7.cell? ⟨gb, 0, none⟩ = some (.bool nd.f0) := (blk_cell HX2.out 0).trans rfl
      have x1 : w7.cell? ⟨gb, 1, none⟩ = some (.slice A1 nA c1) := (blk_cell HX2.out 1).trans rfl
      go_upto_block 2 with (fail)
      clear x0 x1 HX2
      go_wp2
      have HI := HI7
      clear HI7
      go_loopg [22] nA (fun kq v22 w' => ∃ (a : Nat) (B2 : List Nat), v22 = .int .i64 (a : Int) ∧ Aside0 (a + kq = nA) ∧ Aside0 (I n w w' g g2 B2) ∧ Aside0 (Up B B2) ∧ Aside0 (CvA n B2 i (nd.f1.take a)))
      case atStart => exact ⟨0, B, rfl, ⟨by omega⟩, HI, ⟨Up.refl B⟩, ⟨fun y hy => by simp at hy⟩⟩
      case round =>
        clear HI
        obtain ⟨a, B2, rfl, HKa, HI, HU, HVa⟩ := hrel
        rcases gk with _ | k2
        · have d1 : decide ((a : Int) < (nA : Int)) = false := decide_eq_false (by have := HKa.out; omega)
          have d2 : decide (a < nA) = false := decide_eq_false (by have := HKa.out; omega)
          have HNV := Aside0.mk (HSN.out B2 (HV.out.up HU.out) (by
            have h := HVa.out
            rw [List.take_of_length_le (by have := HKa.out; have := HnA.out; omega)] at h
            exact h))
          go_wp2_with (fail)
          go_roundg k1
          case measure => omega
          case rel => exact ⟨i + 1, B2, by have h1 := HIN.out; have h2 := HN64.out; rw [show wrap64 ((i : Int) + 1) = (i : Int) + 1 from by unfold wrap64; omega]; simp, ⟨by have := HK.out; omega⟩, HI, HNV⟩
        · have d1 : decide ((a : Int) < (nA : Int)) = true := decide_eq_true (by have := HKa.out; omega)
          have d2 : decide (a < nA) = true := decide_eq_true (by have := HKa.out; omega)
          have p1 : (0 ≤ (a : Int)) = True := eq_true (by omega)
          have p2 : ((a : Int) < (nA : Int)) = True := eq_true (by have := HKa.out; omega)
          have hal : a < nd.f1.length := by have := HKa.out; have := HnA.out; omega
          obtain ⟨ad2, A2, c2, ea, hx0, hl2, hi2⟩ := at_L5 HC1.out (a : Int) (by omega) (by have := HKa.out; omega)
          subst ea
          have eL5 : rd_L5 nd.f1 (a : Int) = nd.f1.getD a [] := by unfold rd_L5; rw [Int.toNat_natCast]
          rw [eL5] at hx0 hl2 hi2
          replace hx0 := (HI.out.hb.cell (World.block_lt_of_cell? w _ hx0)).trans hx0
          rw [Int.toNat_natCast] at hx0
          have HSA := Aside0.mk (fun (B : List Nat) (h : CvA n B i (nd.f1.take a)) (k : CvT n B i (nd.f1.getD a [])) => h.snoc hal k)
          obtain ⟨wy, hwy⟩ : ∃ wy, wy = nd.f1.getD a [] := ⟨_, rfl⟩
          rw [← hwy] at hx0 hl2 hi2 HSA
          obtain ⟨nB, hnB⟩ : ∃ m, m = wy.length := ⟨_, rfl⟩
          rw [← hnB] at hx0 hi2
          have HC2 := Aside0.mk hi2
          have HnB := Aside0.mk hnB
          have HMA := Aside0.mk (Kd.C_max HC1.out)
          clear hwy eL5 hi2 hl2 hnB hal
          go_upto_block 4 with (fail)
          clear hx0 p1 p2 d1 d2
          go_wp2
          go_loopg [28] nB (fun kq v28 w' => ∃ (b : Nat) (B3 : List Nat), v28 = .int .i64 (b : Int) ∧ Aside0 (b + kq = nB) ∧ Aside0 (I n w w' g g2 B3) ∧ Aside0 (Up B2 B3) ∧ Aside0 (CvT n B3 i (wy.take b)))
          case atStart => exact ⟨0, B2, rfl, ⟨by omega⟩, HI, ⟨Up.refl B2⟩, ⟨fun y hy => by simp at hy⟩⟩
          case round =>
            clear HI
            obtain ⟨b, B3, rfl, HKb, HI, HUb, HVb⟩ := hrel
            rcases gk with _ | k3
            · have d1 : decide ((b : Int) < (nB : Int)) = false := decide_eq_false (by have := HKb.out; omega)
              have d2 : decide (b < nB) = false := decide_eq_false (by have := HKb.out; omega)
              have HNV := Aside0.mk (HSA.out B3 (HVa.out.up HUb.out) (by
                have h := HVb.out
                rw [List.take_of_length_le (by have := HKb.out; have := HnB.out; omega)] at h
                exact h))
              go_wp2_with (fail)
              go_roundg k2
              case measure => omega
              case rel => exact ⟨a + 1, B3, by have h1 := HKa.out; have h2 := HMA.out; rw [show wrap64 ((a : Int) + 1) = (a : Int) + 1 from by unfold wrap64; omega]; simp, ⟨by have := HKa.out; omega⟩, HI, ⟨HU.out.trans HUb.out⟩, HNV⟩
            · have d1 : decide ((b : Int) < (nB : Int)) = true := decide_eq_true (by have := HKb.out; omega)
              have d2 : decide (b < nB) = true := decide_eq_true (by have := HKb.out; omega)
              have p1 : (0 ≤ (b : Int)) = True := eq_true (by omega)
              have p2 : ((b : Int) < (nB : Int)) = True := eq_true (by have := HKb.out; omega)
              have hbl : b < wy.length := by have := HKb.out; have := HnB.out; omega
              obtain ⟨ad3, A3, c3, ea, hx0, hx1, hl3, hi3⟩ := at_T66 HC2.out (b : Int) (by omega) (by have := HKb.out; omega)
              subst ea
              have e66 : rd_T66 wy (b : Int) = wy.getD b z66 := by unfold rd_T66; rw [Int.toNat_natCast]
              rw [e66] at hx0 hx1 hl3 hi3
              replace hx0 := (HI.out.hb.cell (World.block_lt_of_cell? w _ hx0)).trans hx0
              replace hx1 := (HI.out.hb.cell (World.block_lt_of_cell? w _ hx1)).trans hx1
              rw [Int.toNat_natCast] at hx0 hx1
              have HSB := Aside0.mk (fun (B : List Nat) (h : CvT n B i (wy.take b)) (k : Cv n B i (wy.getD b z66).f1) => h.snoc hbl k)
              obtain ⟨m, hm⟩ : ∃ m, m = wy.getD b z66 := ⟨_, rfl⟩
              rw [← hm] at hx0 hx1 hl3 hi3 HSB
              obtain ⟨nC, hnC⟩ : ∃ q, q = m.f1.length := ⟨_, rfl⟩
              rw [← hnC] at hx1 hi3
              have HC3 := Aside0.mk hi3
              have HnC := Aside0.mk hnC
              have HMB := Aside0.mk (Kd.C_max HC2.out)
              clear hm e66 hi3 hl3 hnC hbl
              go_upto_region 11 with ((with_reducible refine gate_dst (N := 9) rfl ?_); refine box_event ?hg (N := 9) ?hd (cs := #[.int .i64 0, .slice none 0 0]) (t := 66) ?hr ?_; (case hd => rfl); (case hg => rfl); (case hr => first | (go_simp; done) | (go_simp; rfl)); intro gb hg w2 hbox hb; have HGB := Aside0.mk (show gb = wr.heap.size from hg); have BX2 := Aside0.mk hbox; have HW2 := Aside0.mk hb; clear hg hbox hb; replace hx0 := (HW2.out.cell (World.block_lt_of_cell? _ _ hx0)).trans hx0; replace hx1 := (HW2.out.cell (World.block_lt_of_cell? _ _ hx1)).trans hx1; have y0 : w2.cell? ⟨gb, 0, none⟩ = some (.int .i64 0) := (blk_cell BX2.out 0).trans rfl; have y1 : w2.cell? ⟨gb, 1, none⟩ = some (.slice none 0 0) := (blk_cell BX2.out 1).trans rfl; have fz0 := blk_frozen BX2.out 0; have fz1 := blk_frozen BX2.out 1)
              have HX2 := Aside0.mk (show ((w2.setCell ⟨gb, 0, none⟩ (.int .i64 m.f0)).setCell ⟨gb, 1, none⟩ (.slice A3 nC c3)).heap[gb]? = some (.cells #[.int .i64 m.f0, .slice A3 nC c3] 66 (0, 0)) from blk_put (blk_put BX2.out 0 _ rfl) 1 _ rfl)
              have HI7 := Aside0.mk (HI.out.below (show Below wr.heap.size wr ((w2.setCell ⟨gb, 0, none⟩ (.int .i64 m.f0)).setCell ⟨gb, 1, none⟩ (.slice A3 nC c3)) from below_set (below_set HW2.out (by have := HGB.out; omega)) (by have := HGB.out; omega)))
              have HNE := Aside0.mk (show g ≠ gb from by have h1 := blk_lt HI.out.hg; have h2 := HGB.out; omega)
              clear HW2 BX2 fz0 fz1 y0 y1 hx0 hx1 p1 p2 d1 d2 HGB HI
              generalize (w2.setCell ⟨gb, 0, none⟩ (.int .i64 m.f0)).setCell ⟨gb, 1, none⟩ (.slice A3 nC c3) = w7 at *
              have x0 : w7.cell? ⟨gb, 0, none⟩ = some (.int .i64 m.f0) := (blk_cell HX2.out 0).trans rfl
              have x1 : w7.cell? ⟨gb, 1, none⟩ = some (.slice A3 nC c3) := (blk_cell HX2.out 1).trans rfl
              go_upto_block 6 with (fail)
              clear x0 x1 HX2
              go_wp2
              have HI := HI7
              clear HI7
              go_loopg [35] nC (fun kq v35 w' => ∃ (d : Nat) (B4 : List Nat), v35 = .int .i64 (d : Int) ∧ Aside0 (d + kq = nC) ∧ Aside0 (I n w w' g g2 B4) ∧ Aside0 (Up B3 B4) ∧ Aside0 (Cv n B4 i (m.f1.take d)))
              case atStart => exact ⟨0, B3, rfl, ⟨by omega⟩, HI, ⟨Up.refl B3⟩, ⟨fun y hy => by simp at hy⟩⟩
              case round =>
                clear HI
                obtain ⟨d, B4, rfl, HKd, HI, HUd, HVd⟩ := hrel
                rcases gk with _ | k4
                · have d1 : decide ((d : Int) < (nC : Int)) = false := decide_eq_false (by have := HKd.out; omega)
                  have d2 : decide (d < nC) = false := decide_eq_false (by have := HKd.out; omega)
                  have HNV := Aside0.mk (HSB.out B4 (HVb.out.up HUd.out) (by
                    have h := HVd.out
                    rw [List.take_of_length_le (by have := HKd.out; have := HnC.out; omega)] at h
                    exact h))
                  go_wp2_with (fail)
                  go_roundg k3
                  case measure => omega
                  case rel => exact ⟨b + 1, B4, by have h1 := HKb.out; have h2 := HMB.out; rw [show wrap64 ((b : Int) + 1) = (b : Int) + 1 from by unfold wrap64; omega]; simp, ⟨by have := HKb.out; omega⟩, HI, ⟨HUb.out.trans HUd.out⟩, HNV⟩
                · have d1 : decide ((d : Int) < (nC : Int)) = true := decide_eq_true (by have := HKd.out; omega)
                  have d2 : decide (d < nC) = true := decide_eq_true (by have := HKd.out; omega)
                  have p1 : (0 ≤ (d : Int)) = True := eq_true (by omega)
                  have p2 : ((d : Int) < (nC : Int)) = True := eq_true (by have := HKd.out; omega)
                  have hdl : d < m.f1.length := by have := HKd.out; have := HnC.out; omega
                  obtain ⟨ad4, ea, hx0, hx1⟩ := at_T68 HC3.out (d : Int) (by omega) (by have := HKd.out; omega)
                  subst ea
                  have e68 : rd_T68 m.f1 (d : Int) = m.f1.getD d z68 := by unfold rd_T68; rw [Int.toNat_natCast]
                  rw [e68] at hx0 hx1
                  replace hx0 := (HI.out.hb.cell (World.block_lt_of_cell? w _ hx0)).trans hx0
                  replace hx1 := (HI.out.hb.cell (World.block_lt_of_cell? w _ hx1)).trans hx1
                  rw [Int.toNat_natCast] at hx0 hx1
                  have HSD := Aside0.mk (fun (B : List Nat) (h : Cv n B i (m.f1.take d)) (k : 0 ≤ (m.f1.getD d z68).f0 → (m.f1.getD d z68).f0 < (n : Int) → (B.getD (m.f1.getD d z68).f0.toNat 0).testBit i = true) => h.snoc hdl k)
                  obtain ⟨s, hs⟩ : ∃ s, s = m.f1.getD d z68 := ⟨_, rfl⟩
                  rw [← hs] at hx0 hx1 HSD
                  have HMC := Aside0.mk (Kd.C_max HC3.out)
                  clear hs e68 hdl
                  go_upto_region 14 with ((with_reducible refine gate_dst (N := 11) rfl ?_); refine box_event ?hg (N := 11) ?hd (cs := #[.int .i64 0, .int .i64 0]) (t := 68) ?hr ?_; (case hd => rfl); (case hg => rfl); (case hr => first | (go_simp; done) | (go_simp; rfl)); intro gb hg w2 hbox hb; have HGB := Aside0.mk (show gb = wr.heap.size from hg); have BX2 := Aside0.mk hbox; have HW2 := Aside0.mk hb; clear hg hbox hb; replace hx0 := (HW2.out.cell (World.block_lt_of_cell? _ _ hx0)).trans hx0; replace hx1 := (HW2.out.cell (World.block_lt_of_cell? _ _ hx1)).trans hx1; have y0 : w2.cell? ⟨gb, 0, none⟩ = some (.int .i64 0) := (blk_cell BX2.out 0).trans rfl; have y1 : w2.cell? ⟨gb, 1, none⟩ = some (.int .i64 0) := (blk_cell BX2.out 1).trans rfl; have fz0 := blk_frozen BX2.out 0; have fz1 := blk_frozen BX2.out 1)
                  have HX2 := Aside0.mk (show ((w2.setCell ⟨gb, 0, none⟩ (.int .i64 s.f0)).setCell ⟨gb, 1, none⟩ (.int .i64 s.f1)).heap[gb]? = some (.cells #[.int .i64 s.f0, .int .i64 s.f1] 68 (0, 0)) from blk_put (blk_put BX2.out 0 _ rfl) 1 _ rfl)
                  have HI7 := Aside0.mk (HI.out.below (show Below wr.heap.size wr ((w2.setCell ⟨gb, 0, none⟩ (.int .i64 s.f0)).setCell ⟨gb, 1, none⟩ (.int .i64 s.f1)) from below_set (below_set HW2.out (by have := HGB.out; omega)) (by have := HGB.out; omega)))
                  have HNE := Aside0.mk (show g ≠ gb from by have h1 := blk_lt HI.out.hg; have h2 := HGB.out; omega)
                  clear HW2 BX2 fz0 fz1 y0 y1 hx0 hx1 p1 p2 d1 d2 HGB HI
                  generalize (w2.setCell ⟨gb, 0, none⟩ (.int .i64 s.f0)).setCell ⟨gb, 1, none⟩ (.int .i64 s.f1) = w7 at *
                  have x0 : w7.cell? ⟨gb, 0, none⟩ = some (.int .i64 s.f0) := (blk_cell HX2.out 0).trans rfl
                  have x1 : w7.cell? ⟨gb, 1, none⟩ = some (.int .i64 s.f1) := (blk_cell HX2.out 1).trans rfl
                  by_cases q0 : 0 ≤ s.f0
                  · by_cases q1 : s.f0 < (n : Int)
                    · have d1 : decide (0 ≤ s.f0) = true := decide_eq_true q0
                      have d2 : decide (s.f0 < (n : Int)) = true := decide_eq_true q1
                      go_upto_region 15 with (fail)
                      have hu93 := Tryd.underlying93
                      obtain ⟨t, ht⟩ : ∃ t : Nat, s.f0 = (t : Int) := ⟨s.f0.toNat, by omega⟩
                      rw [ht] at x0 HX2 q1
                      have HT := Aside0.mk ht
                      have HTN := Aside0.mk (show t < n from by omega)
                      have HWF := Aside0.mk (with_f (s := B4.getD t 0) (t := i) (lt_top HN64.out (HI7.out.ok.2 t)) (by have h1 := HIN.out; have h2 := HN64.out; omega))
                      have xg := HI7.out.cell (t := t) (by have h1 := HTN.out; have h2 := HN64.out; omega)
                      have HPI := Aside0.mk (fun nd => (I.below HI7.out (pw_below_drewN (Below.refl _ _) nd)).put_ (t := t) (i := i) (by have h1 := HTN.out; have h2 := HN64.out; omega) HIN.out)
                      have p1 : (0 ≤ (t : Int)) = True := eq_true (by omega)
                      have p2 : ((t : Int) < 64) = True := eq_true (by have h1 := HTN.out; have h2 := HN64.out; omega)
                      have HBIT := Aside0.mk (put_bit (i := i) HI7.out.ok (t := t) (by have h1 := HTN.out; have h2 := HN64.out; omega))
                      have HUPP := Aside0.mk (up_put (i := i) HI7.out.ok (t := t) (by have h1 := HTN.out; have h2 := HN64.out; omega))
                      have fz := blk_frozen HI7.out.hg t
                      clear q0 q1 ht d1 d2 x1 HX2
                      generalize B4.getD t 0 = v at *
                      refine start_ (n := 10) (S := fun w' => w'.cell? ⟨gb, 0, none⟩ = some (.int .i64 (t : Int)) ∧ w'.cell? ⟨g, t, none⟩ = some (.int .u64 (v : Int))) (ds := [9]) #[false, false, false, false, false, false, false, false, false, false] (by kernel_rfl) rfl rfl ⟨x0, xg⟩ (fun hHeld => ?_)
                      refine pure_ (i := 0) (N := some 49) (v := ?_) (a' := ?_) #[true, false, false, false, false, false, false, false, false, false] rfl rfl (by kernel_rfl) (fun _ _ _ h => h) (Or.inl ⟨by rfl, ?_⟩) ?_ ?_
                      rotate_left
                      · intro w'
                        go_simp
                        with_reducible rfl
                      rotate_left
                      · simp only [Act.put, List.setIfInBounds_toArray, List.set_cons_zero, List.set_cons_succ, i64_w, i32_w]
                        rfl
                      refine pure_ (i := 2) (N := some 51) (v := ?_) (a' := ?_) #[true, false, true, false, false, false, false, false, false, false] rfl rfl (by kernel_rfl) (fun _ _ _ h => h) (Or.inl ⟨by rfl, ?_⟩) ?_ ?_
                      rotate_left
                      · intro w'
                        go_simp
                        with_reducible rfl
                      rotate_left
                      · simp only [Act.put, List.setIfInBounds_toArray, List.set_cons_zero, List.set_cons_succ, i64_w, i32_w]
                        rfl
                      refine pure_ (i := 6) (N := some 55) (v := ?_) (a' := ?_) #[true, false, true, false, false, false, true, false, false, false] rfl rfl (by kernel_rfl) (fun _ _ _ h => h) (Or.inl ⟨by rfl, ?_⟩) ?_ ?_
                      rotate_left
                      · intro w'
                        go_simp
                        with_reducible rfl
                      rotate_left
                      · simp only [Act.put, List.setIfInBounds_toArray, List.set_cons_zero, List.set_cons_succ, i64_w, i32_w]
                        rfl
                      refine take_ (i := 1) (N := some 50) (v := ?_) (a' := ?_) #[true, true, true, false, false, false, true, false, false, false] rfl rfl (by kernel_rfl) (fun _ _ _ h => h) (Or.inl ⟨by rfl, ?_⟩) hHeld ?_ ?_
                      rotate_left
                      · rintro w' ⟨s0, s1⟩
                        go_simp
                        with_reducible rfl
                      rotate_left
                      · simp only [Act.put, List.setIfInBounds_toArray, List.set_cons_zero, List.set_cons_succ, i64_w, i32_w]
                        rfl
                      refine take_ (i := 3) (N := some 52) (v := ?_) (a' := ?_) #[true, true, true, true, false, false, true, false, false, false] rfl rfl (by kernel_rfl) (fun _ _ _ h => h) (Or.inl ⟨by rfl, ?_⟩) hHeld ?_ ?_
                      rotate_left
                      · rintro w' ⟨s0, s1⟩
                        go_simp
                        with_reducible rfl
                      rotate_left
                      · simp only [Act.put, List.setIfInBounds_toArray, List.set_cons_zero, List.set_cons_succ, i64_w, i32_w]
                        rfl
                      refine pure_ (i := 4) (N := some 53) (v := ?_) (a' := ?_) #[true, true, true, true, true, false, true, false, false, false] rfl rfl (by kernel_rfl) (fun _ _ _ h => h) (Or.inl ⟨by rfl, ?_⟩) ?_ ?_
                      rotate_left
                      · intro w'
                        go_simp
                        with_reducible rfl
                      rotate_left
                      · simp only [Act.put, List.setIfInBounds_toArray, List.set_cons_zero, List.set_cons_succ, i64_w, i32_w]
                        rfl
                      refine take_ (i := 5) (N := some 54) (v := ?_) (a' := ?_) #[true, true, true, true, true, true, true, false, false, false] rfl rfl (by kernel_rfl) (fun _ _ _ h => h) (Or.inl ⟨by rfl, ?_⟩) hHeld ?_ ?_
                      rotate_left
                      · rintro w' ⟨s0, s1⟩
                        go_simp
                        with_reducible rfl
                      rotate_left
                      · simp only [Act.put, List.setIfInBounds_toArray, List.set_cons_zero, List.set_cons_succ, i64_w, i32_w]
                        rfl
                      refine one_ (i := 7) (N := some 56) #[true, true, true, true, true, true, true, true, false, false] rfl rfl (by kernel_rfl) (by decide) (fun K hK => ?_)
                      refine goes_ Tryd.func52 (by kernel_rfl) rfl #[.int .u64 (v : Int), .int .i64 (i : Int)] (by rfl) rfl rfl (by simp only [List.map_toArray, List.map_cons, List.map_nil]; rfl) ?_
                      with_reducible refine (bits_Set_With.calls _ _ _ _ HWF.out).mono ?_
                      rintro e w4 ⟨rfl, ⟨nd4, rfl⟩⟩
                      refine ⟨_, rfl, ?_⟩
                      refine hK.out _ _ ⟨x0, xg⟩ (fun hHeld => ?_)
                      clear hK K
                      refine norm_ (a' := ?_) ?_ ?_
                      rotate_left
                      · show Act.put _ (some 56) _ = _
                        simp only [Act.put, List.setIfInBounds_toArray, List.set_cons_zero, List.set_cons_succ, i64_w, i32_w]
                        rfl
                      refine pure_ (i := 8) (N := some 57) (v := ?_) (a' := ?_) #[true, true, true, true, true, true, true, true, true, false] rfl rfl (by kernel_rfl) (fun _ _ _ h => h) (Or.inl ⟨by rfl, ?_⟩) ?_ ?_
                      rotate_left
                      · intro w'
                        go_simp
                        with_reducible rfl
                      rotate_left
                      · simp only [Act.put, List.setIfInBounds_toArray, List.set_cons_zero, List.set_cons_succ, i64_w, i32_w]
                        rfl
                      refine last_ (i := 9) (N := none) #[true, true, true, true, true, true, true, true, true, true] rfl rfl (by kernel_rfl) (by decide) (fun K hK => ?_)
                      refine skip_ (w1 := ?_) (by rfl) rfl ?_ ?_
                      rotate_left
                      · go_simp
                        rfl
                      refine hK.out _ _ ?_
                      clear hK K
                      refine done_ (by kernel_rfl) ?_
                      go_wp2
                      go_roundg k4
                      case measure => omega
                      case rel => exact ⟨d + 1, put B4 t i, by have h1 := HKd.out; have h2 := HMC.out; rw [show wrap64 ((d : Int) + 1) = (d : Int) + 1 from by unfold wrap64; omega]; simp, ⟨by have := HKd.out; omega⟩, ⟨HPI.out _⟩, ⟨HUd.out.trans HUPP.out⟩, ⟨HSD.out _ (HVd.out.up HUPP.out) (fun _ _ => by rw [HT.out, Int.toNat_natCast]; exact HBIT.out)⟩⟩
                    · have d1 : decide (0 ≤ s.f0) = true := decide_eq_true q0
                      have d2 : decide (s.f0 < (n : Int)) = false := decide_eq_false q1
                      have HQ := Aside0.mk (show ¬ s.f0 < (n : Int) from q1)
                      clear q0 q1
                      go_wp2_with (fail)
                      go_roundg k4
                      case measure => omega
                      case rel => exact ⟨d + 1, B4, by have h1 := HKd.out; have h2 := HMC.out; rw [show wrap64 ((d : Int) + 1) = (d : Int) + 1 from by unfold wrap64; omega]; simp, ⟨by have := HKd.out; omega⟩, HI7, HUd, ⟨HSD.out B4 HVd.out (fun _ h => absurd h (by have := HQ.out; omega))⟩⟩
                  · have d1 : decide (0 ≤ s.f0) = false := decide_eq_false q0
                    have HQ := Aside0.mk (show ¬ 0 ≤ s.f0 from q0)
                    clear q0
                    go_wp2_with (fail)
                    go_roundg k4
                    case measure => omega
                    case rel => exact ⟨d + 1, B4, by have h1 := HKd.out; have h2 := HMC.out; rw [show wrap64 ((d : Int) + 1) = (d : Int) + 1 from by unfold wrap64; omega]; simp, ⟨by have := HKd.out; omega⟩, HI7, HUd, ⟨HSD.out B4 HVd.out (fun h _ => absurd h (by have := HQ.out; omega))⟩⟩
end As
open Ch (Chg)
namespace Og
/-! ### a term comes, a thread can go on -/
def hasB (F : Nat) (t : Int) : Bool := decide (0 ≤ t) && (decide (t < 64) && F.testBit t.toNat)
theorem has_f {F : Nat} (hF : F < Bt.top) (t : Int) : bits_Set_Has.f (F : Int) t = some (hasB F t) := by
  unfold bits_Set_Has.f bits_one.f hasB
  by_cases h0 : t < 0
  · rw [if_pos h0, Option.bind_some, show (0 : Int) = ((0 : Nat) : Int) from rfl, Bt.and_nat hF (by decide), Nat.and_zero]
    rw [decide_eq_false (show ¬ ((0 : Nat) : Int) ≤ t by omega)]
    rfl
  · by_cases h1 : t > 63
    · rw [if_neg h0, if_pos h1, Option.bind_some, show (0 : Int) = ((0 : Nat) : Int) from rfl, Bt.and_nat hF (by decide), Nat.and_zero]
      rw [decide_eq_false (show ¬ t < 64 by omega)]
      simp
    · obtain ⟨q, rfl⟩ : ∃ q : Nat, t = (q : Int) := ⟨t.toNat, by omega⟩
      rw [if_neg h0, if_neg h1, if_pos (by omega), Bt.shl_one (by omega), Option.bind_some, Bt.has_int hF (by omega), Int.toNat_natCast]
      rw [decide_eq_true (show (0 : Int) ≤ (q : Int) by omega), decide_eq_true (show (q : Int) < 64 by omega)]
      rfl
def shr (x : Int) : Int := mn (mx x 0) 1048576
theorem shr_le (x : Int) : 0 ≤ shr x ∧ shr x ≤ 1048576 := by unfold shr mn mx; split <;> split <;> omega
def sumI (F : Nat) : List S68 → Int
  | [] => 0
  | s :: L => (if hasB F s.f0 = true then shr s.f1 else 0) + sumI F L
def comesB (F : Nat) (m : S66) : Bool := decide (sumI F m.f1 ≥ m.f0)
theorem comes_l0 {F : Nat} (hF : F < Bt.top) (L : List S68) (K : Int) (hL : L.length ≤ 1000) : ∀ (d k i : Nat) (acc : Int), i + d = L.length → d < k → 0 ≤ acc → acc ≤ i * 1048576 →
    graph_comes.l0 k (F : Int) acc L (L.length : Int) (i : Int) K L = some (decide (acc + sumI F (L.drop i) ≥ K)) := by
  intro d
  induction d with
  | zero =>
    intro k i acc hi hk h0 h1
    obtain ⟨k, rfl⟩ : ∃ q, k = q + 1 := ⟨k - 1, by omega⟩
    simp only [graph_comes.l0]
    rw [if_neg (by omega), List.drop_of_length_le (by omega)]
    simp [sumI]
  | succ d ih =>
    intro k i acc hi hk h0 h1
    obtain ⟨k, rfl⟩ : ∃ q, k = q + 1 := ⟨k - 1, by omega⟩
    have hil : i < L.length := by omega
    simp only [graph_comes.l0]
    have e : rd_T68 L (i : Int) = L[i] := by unfold rd_T68; rw [Int.toNat_natCast, List.getD_eq_getElem?_getD, List.getElem?_eq_getElem hil]; rfl
    rw [if_pos (by omega), if_pos (by omega), if_pos (by omega), e, has_f hF, Option.bind_some, List.drop_eq_getElem_cons hil]
    have ew : wrap64 ((i : Int) + 1) = ((i + 1 : Nat) : Int) := by unfold wrap64; omega
    have hs := shr_le L[i].f1
    simp only [sumI]
    split
    · unfold graph_share.f
      rw [Option.bind_some, ew]
      have ea : wrap64 (acc + mn (mx L[i].f1 0) 1048576) = acc + shr L[i].f1 := by
        show wrap64 (acc + shr L[i].f1) = _
        generalize shr L[i].f1 = x at *
        unfold wrap64; omega
      rw [ea, ih k (i + 1) (acc + shr L[i].f1) (by omega) (by omega) (by omega) (by generalize shr L[i].f1 = x at *; omega)]
      congr 2
      rw [Int.add_assoc]
    · rw [ew, ih k (i + 1) acc (by omega) (by omega) h0 (by omega), Int.zero_add]
theorem comes_f {k F : Nat} (hF : F < Bt.top) {m : S66} (hk : m.f1.length < k) (hL : m.f1.length ≤ 1000) : graph_comes.f k m.f0 m.f1 (F : Int) = some (comesB F m) := by
  unfold graph_comes.f comesB
  have := comes_l0 hF m.f1 m.f0 hL m.f1.length k 0 0 (by omega) hk (by omega) (by omega)
  rw [Int.zero_add, List.drop_zero] at this
  exact this
def metB (F : Nat) (nd : S44) : Bool := !nd.f0 || nd.f1.any fun y => y.all (comesB F)
def needN (k : Nat) (nd : S44) : Bool := nd.f1.all fun y => y.all fun m => decide (m.f1.length < k ∧ m.f1.length ≤ 1000)
def need (k : Nat) (l : List S44) : Bool := l.all (needN k)
theorem needN_mono {k : Nat} {nd : S44} (h : needN k nd = true) : needN (k + 1) nd = true := by
  unfold needN at h ⊢
  rw [List.all_eq_true] at h ⊢
  intro y hy
  have h1 := h y hy
  rw [List.all_eq_true] at h1 ⊢
  intro m hm
  have h2 := of_decide_eq_true (h1 m hm)
  exact decide_eq_true ⟨by omega, h2.2⟩
theorem need_mono {k : Nat} {l : List S44} (h : need k l = true) : need (k + 1) l = true := by
  unfold need at h ⊢
  rw [List.all_eq_true] at h ⊢
  exact fun x hx => needN_mono (h x hx)
theorem met_f {k F : Nat} (hF : F < Bt.top) {nd : S44} (h : needN k nd = true) : graph_met.f k nd.f0 nd.f1 (F : Int) = some (metB F nd) := by
  unfold needN at h
  rw [List.all_eq_true] at h
  have hc : ∀ y ∈ nd.f1, ∀ m ∈ y, graph_comes.f k m.f0 m.f1 (F : Int) = some (comesB F m) := by
    intro y hy m hm
    have h1 := h y hy
    rw [List.all_eq_true] at h1
    have h2 := of_decide_eq_true (h1 m hm)
    exact comes_f hF h2.1 h2.2
  unfold graph_met.f metB
  have hD : nd.f1.all (fun x => x.all (Gm.D k (F : Int))) = true := by
    rw [List.all_eq_true]
    intro y hy
    rw [List.all_eq_true]
    intro m hm
    unfold Gm.D
    rw [hc y hy m hm]
    rfl
  rw [if_pos hD]
  have hg : ∀ y ∈ nd.f1, Gm.goes k (F : Int) y = y.all (comesB F) := by
    intro y hy
    unfold Gm.goes
    have : ∀ z : List S66, (∀ m ∈ z, graph_comes.f k m.f0 m.f1 (F : Int) = some (comesB F m)) → (!z.any (Gm.lacks k (F : Int))) = z.all (comesB F) := by
      intro z
      induction z with
      | nil => intro _; rfl
      | cons a z ih =>
        intro hz
        have h1 := ih (fun m hm => hz m (by simp [hm]))
        rw [List.any_cons, List.all_cons, Bool.not_or, h1]
        congr 1
        unfold Gm.lacks Gm.c
        rw [hz a (by simp)]
        cases comesB F a <;> rfl
    exact this y (hc y hy)
  have ha : ∀ z : List (List S66), (∀ y ∈ z, Gm.goes k (F : Int) y = y.all (comesB F)) → z.any (Gm.goes k (F : Int)) = z.any (fun y => y.all (comesB F)) := by
    intro z
    induction z with
    | nil => intro _; rfl
    | cons a z ih =>
      intro hz
      rw [List.any_cons, List.any_cons, hz a (by simp), ih (fun m hm => hz m (by simp [hm]))]
  rw [ha _ hg]
/-- More that are free: no less. -/
def Sub (F F' : Nat) : Prop := ∀ i, F.testBit i = true → F'.testBit i = true
theorem sum_le {F F' : Nat} (h : Sub F F') : ∀ L : List S68, sumI F L ≤ sumI F' L := by
  intro L
  induction L with
  | nil => exact Int.le_refl _
  | cons s L ih =>
    simp only [sumI]
    have hs := shr_le s.f1
    have : hasB F s.f0 = true → hasB F' s.f0 = true := by
      unfold hasB
      simp only [Bool.and_eq_true]
      exact fun q => ⟨q.1, q.2.1, h _ q.2.2⟩
    by_cases c : hasB F s.f0 = true
    · rw [if_pos c, if_pos (this c)]; omega
    · rw [if_neg c]; split <;> omega
theorem comes_mono {F F' : Nat} (h : Sub F F') {m : S66} (hm : comesB F m = true) : comesB F' m = true := by
  have h1 := of_decide_eq_true hm
  have h2 := sum_le h m.f1
  exact decide_eq_true (by omega)
theorem met_mono {F F' : Nat} (h : Sub F F') {nd : S44} (hm : metB F nd = true) : metB F' nd = true := by
  unfold metB at hm ⊢
  rw [Bool.or_eq_true] at hm ⊢
  refine hm.imp id fun q => ?_
  rw [List.any_eq_true] at q ⊢
  obtain ⟨y, hy, hq⟩ := q
  refine ⟨y, hy, ?_⟩
  rw [List.all_eq_true] at hq ⊢
  exact fun m hm => comes_mono h (hq m hm)
/-- Only who has a share of t can go on because of t. -/
theorem met_new {n F t i : Nat} {B : List Nat} {nd : S44} (ht : t < n) (hn : n ≤ 64) (hc : As.CvA n B i nd.f1) (h0 : metB F nd = false) (h1 : metB (F ||| 2 ^ t) nd = true) : (B.getD t 0).testBit i = true := by
  refine Classical.byContradiction fun hb => ?_
  have hs : ∀ y ∈ nd.f1, ∀ m ∈ y, ∀ s ∈ m.f1, hasB (F ||| 2 ^ t) s.f0 = hasB F s.f0 := by
    intro y hy m hm s hs
    unfold hasB
    by_cases e : s.f0 = (t : Int)
    · exact absurd (by have := hc y hy m hm s hs (by omega) (by omega); rwa [e, Int.toNat_natCast] at this) hb
    · by_cases e0 : 0 ≤ s.f0
      · have : ¬ t = s.f0.toNat := by omega
        rw [Bt.tb_or, Bt.tb_pow, decide_eq_false this, Bool.or_false]
      · rw [decide_eq_false e0]; rfl
  have hsum : ∀ L : List S68, (∀ s ∈ L, hasB (F ||| 2 ^ t) s.f0 = hasB F s.f0) → sumI (F ||| 2 ^ t) L = sumI F L := by
    intro L
    induction L with
    | nil => intro _; rfl
    | cons s L ih => intro h; simp only [sumI]; rw [h s (by simp), ih (fun x hx => h x (by simp [hx]))]
  have hcm : ∀ y ∈ nd.f1, ∀ m ∈ y, comesB (F ||| 2 ^ t) m = comesB F m := by
    intro y hy m hm
    unfold comesB
    rw [hsum m.f1 (hs y hy m hm)]
  rw [show metB F nd = metB (F ||| 2 ^ t) nd from ?_, h1] at h0
  · cases h0
  · unfold metB
    congr 1
    have : ∀ z : List (List S66), (∀ y ∈ z, ∀ m ∈ y, comesB (F ||| 2 ^ t) m = comesB F m) → z.any (fun y => y.all (comesB F)) = z.any (fun y => y.all (comesB (F ||| 2 ^ t))) := by
      intro z hz
      rw [Bool.eq_iff_iff, List.any_eq_true, List.any_eq_true]
      constructor
      · rintro ⟨y, hy, hq⟩
        refine ⟨y, hy, ?_⟩
        rw [List.all_eq_true] at hq ⊢
        exact fun m hm => by rw [hz y hy m hm]; exact hq m hm
      · rintro ⟨y, hy, hq⟩
        refine ⟨y, hy, ?_⟩
        rw [List.all_eq_true] at hq ⊢
        exact fun m hm => by rw [← hz y hy m hm]; exact hq m hm
    exact this _ hcm
/-! ### sets by a test -/
def setOf (p : Nat → Bool) : Nat → Nat
  | 0 => 0
  | i + 1 => if p i = true then setOf p i ||| 2 ^ i else setOf p i
theorem tb_setOf (p : Nat → Bool) (j : Nat) : ∀ i, (setOf p i).testBit j = (decide (j < i) && p j) := by
  intro i
  induction i with
  | zero => simp [setOf]
  | succ i ih =>
    simp only [setOf]
    by_cases e : j = i
    · subst e
      have h1 : decide (j < j) = false := by simp
      have h2 : decide (j < j + 1) = true := by simp
      rw [h2]
      split
      · rename_i c; rw [Bt.tb_or, Bt.tb_pow, c]; simp
      · rename_i c; rw [ih, h1]; simp [Bool.eq_false_iff.mpr c]
    · have h1 : decide (j < i + 1) = decide (j < i) := by
        rw [decide_eq_decide]; omega
      rw [h1]
      split
      · rw [Bt.tb_or, Bt.tb_pow, ih, decide_eq_false (show ¬ i = j from fun q => e q.symm), Bool.or_false]
      · exact ih
theorem setOf_lt (p : Nat → Bool) {i : Nat} : setOf p i < 2 ^ i := by
  apply Nat.lt_pow_two_of_testBit
  intro j hj
  rw [tb_setOf, decide_eq_false (by omega)]
  rfl
theorem setOf_top (p : Nat → Bool) {i : Nat} (hi : i ≤ 64) : setOf p i < Bt.top := As.lt_top hi (setOf_lt p)
theorem setOf_congr {p q : Nat → Bool} {i : Nat} (h : ∀ j, j < i → p j = q j) : setOf p i = setOf q i := by
  apply Nat.eq_of_testBit_eq
  intro j
  rw [tb_setOf, tb_setOf]
  by_cases e : j < i
  · rw [h j e]
  · rw [decide_eq_false e]; rfl
/-! ### the order -/
def out0 (l : List S44) (i : Nat) : List Nat := (List.range i).filter fun t => !(l.getD t z44).f0
def F0 (l : List S44) (i : Nat) : Nat := setOf (fun t => !(l.getD t z44).f0) i
/-- Those that are not free, and can go on. -/
def Td (l : List S44) (F i : Nat) : Nat := setOf (fun t => !F.testBit t && metB F (l.getD t z44)) i
def ord (l : List S44) : Nat → List Nat → Nat → List Nat × Nat
  | 0, out, F => (out, F)
  | k + 1, out, F => match Gr.low (Td l F l.length) 64 with
    | [] => (out, F)
    | t :: _ => ord l k (out ++ [t]) (F ||| 2 ^ t)
def ordR (l : List S44) : List Nat × Nat := ord l 64 (out0 l l.length) (F0 l l.length)
theorem out0_succ (l : List S44) (i : Nat) : out0 l (i + 1) = if (l.getD i z44).f0 = true then out0 l i else out0 l i ++ [i] := by
  unfold out0
  rw [List.range_succ, List.filter_append, List.filter_cons, List.filter_nil]
  by_cases h : (l.getD i z44).f0 = true
  · rw [if_pos h, h]
    simp
  · rw [if_neg h, Bool.eq_false_iff.mpr h]
    rfl
theorem F0_succ (l : List S44) (i : Nat) : F0 l (i + 1) = if (l.getD i z44).f0 = true then F0 l i else F0 l i ||| 2 ^ i := by
  unfold F0
  simp only [setOf]
  by_cases h : (l.getD i z44).f0 = true
  · rw [if_pos h, if_neg (by rw [h]; decide)]
  · rw [if_neg h, if_pos (by rw [Bool.eq_false_iff.mpr h]; rfl)]
def lft (n F : Nat) : Nat := (List.range n).countP fun i => !F.testBit i
theorem lft_le (n F : Nat) : lft n F ≤ n := by
  unfold lft
  exact Nat.le_trans List.countP_le_length (by simp)
theorem lft_with {n F t : Nat} (ht : t < n) (h : F.testBit t = false) : lft n (F ||| 2 ^ t) < lft n F := by
  unfold lft
  refine Gr.countP_lt (t := t) (fun x _ => ?_) (by rw [h]; rfl) (by rw [Bt.tb_or, Bt.tb_pow]; simp) (by simpa using ht)
  rw [Bt.tb_or]
  cases F.testBit x <;> simp
theorem lft_zero {n F : Nat} (h : lft n F = 0) {t : Nat} (ht : t < n) : F.testBit t = true := by
  unfold lft at h
  rw [List.countP_eq_zero] at h
  have := h t (by simpa using ht)
  simpa using this
theorem Td_zero {l : List S44} {F : Nat} (h : lft l.length F = 0) : Td l F l.length = 0 := by
  apply Nat.eq_of_testBit_eq
  intro j
  unfold Td
  rw [tb_setOf, Nat.zero_testBit]
  by_cases e : j < l.length
  · rw [lft_zero h e]; simp
  · rw [decide_eq_false e]; rfl
/-- With t let free: who can go on then. -/
def tdo (l : List S44) (F : Nat) : List Nat → Nat → Nat
  | [], T => T
  | u :: L, T => tdo l F L (if metB F (l.getD u z44) = true then T ||| 2 ^ u else T)
theorem tb_tdo (l : List S44) (F j : Nat) : ∀ (L : List Nat) (T : Nat), (tdo l F L T).testBit j = (T.testBit j || (L.contains j && metB F (l.getD j z44))) := by
  intro L
  induction L with
  | nil => intro T; simp [tdo]
  | cons u L ih =>
    intro T
    simp only [tdo]
    rw [ih, List.contains_cons]
    by_cases e : u = j
    · subst e
      cases h : metB F (l.getD u z44) <;> simp
    · have e1 : (j == u) = false := by simp; exact fun q => e q.symm
      rw [e1, Bool.false_or]
      congr 1
      split
      · rw [Bt.tb_or, Bt.tb_pow, decide_eq_false e, Bool.or_false]
      · rfl
theorem tdo_lt {l : List S44} {F n : Nat} : ∀ (L : List Nat) (T : Nat), (∀ u ∈ L, u < n) → T < 2 ^ n → tdo l F L T < 2 ^ n := by
  intro L
  induction L with
  | nil => intro T _ h; exact h
  | cons u L ih =>
    intro T hL h
    refine ih _ (fun x hx => hL x (by simp [hx])) ?_
    split
    · exact Nat.or_lt_two_pow h (Nat.pow_lt_pow_right (by decide) (hL u (by simp)))
    · exact h
theorem Td_step {l : List S44} (hn : l.length ≤ 64) {B : List Nat} (hB : As.Ok l.length B) (hC : As.CvN l.length B l l.length) {F t : Nat} (hF : F < 2 ^ l.length) (ht : (Td l F l.length).testBit t = true) :
    tdo l (F ||| 2 ^ t) (Gr.low (Bt.sub (Bt.sub (B.getD t 0) (F ||| 2 ^ t)) (Bt.sub (Td l F l.length) (2 ^ t))) 64) (Bt.sub (Td l F l.length) (2 ^ t)) = Td l (F ||| 2 ^ t) l.length := by
  have htn : t < l.length := by
    unfold Td at ht
    rw [tb_setOf, Bool.and_eq_true] at ht
    exact of_decide_eq_true ht.1
  have hbt : 2 ^ t < Bt.top := Bt.lt_pow (by omega)
  have hFt : F < Bt.top := As.lt_top hn hF
  have hF1 : F ||| 2 ^ t < Bt.top := Bt.lt_or hFt hbt
  have hTt : Td l F l.length < Bt.top := setOf_top _ hn
  apply Nat.eq_of_testBit_eq
  intro u
  rw [tb_tdo]
  by_cases hu : u < l.length
  · have hu64 : u < 64 := by omega
    have e1 : (Gr.low (Bt.sub (Bt.sub (B.getD t 0) (F ||| 2 ^ t)) (Bt.sub (Td l F l.length) (2 ^ t))) 64).contains u = ((B.getD t 0).testBit u && !(F ||| 2 ^ t).testBit u && !(Bt.sub (Td l F l.length) (2 ^ t)).testBit u) := by
      rw [← Bt.tb_sub hF1 u hu64, ← Bt.tb_sub (Bt.lt_sub hTt) u hu64, Bool.eq_iff_iff, List.contains_iff_mem, Gr.mem_low]
      exact ⟨fun h => h.2, fun h => ⟨hu64, h⟩⟩
    rw [e1, Bt.tb_sub hbt u hu64, Bt.tb_pow]
    have e2 : ∀ G, (Td l G l.length).testBit u = (!G.testBit u && metB G (l.getD u z44)) := by
      intro G
      unfold Td
      rw [tb_setOf, decide_eq_true hu, Bool.true_and]
    rw [e2, e2, Bt.tb_or, Bt.tb_pow]
    by_cases hut : t = u
    · subst hut
      simp
    · rw [decide_eq_false hut]
      simp only [Bool.or_false, Bool.not_false, Bool.and_true]
      cases hf : F.testBit u with
      | true => simp
      | false =>
        simp only [Bool.not_false, Bool.true_and, Bool.and_true]
        cases hm : metB F (l.getD u z44) with
        | true =>
          have := met_mono (F := F) (F' := F ||| 2 ^ t) (fun i hi => by rw [Bt.tb_or, hi]; rfl) hm
          rw [this]
          rfl
        | false =>
          cases hm1 : metB (F ||| 2 ^ t) (l.getD u z44) with
          | false => simp
          | true =>
            have := met_new htn hn (hC u hu) hm hm1
            rw [this]
            rfl
  · have h1 : (Bt.sub (Td l F l.length) (2 ^ t)).testBit u = false := by
      unfold Bt.sub
      rw [Nat.testBit_and]
      unfold Td
      rw [tb_setOf, decide_eq_false hu]
      rfl
    have h2 : (Gr.low (Bt.sub (Bt.sub (B.getD t 0) (F ||| 2 ^ t)) (Bt.sub (Td l F l.length) (2 ^ t))) 64).contains u = false := by
      rw [Bool.eq_false_iff]
      intro h
      rw [List.contains_iff_mem, Gr.mem_low] at h
      have h3 := h.2
      unfold Bt.sub at h3
      rw [Nat.testBit_and, Nat.testBit_and, Bool.and_eq_true, Bool.and_eq_true] at h3
      have h4 := Nat.testBit_lt_two_pow (Nat.lt_of_lt_of_le (hB.2 t) (Nat.pow_le_pow_right (by decide) (Nat.le_of_not_lt hu)))
      rw [h4] at h3
      exact absurd h3.1.1 (by decide)
    rw [h1, h2]
    unfold Td
    rw [tb_setOf, decide_eq_false hu]
    rfl
theorem ord_nil {l : List S44} {k F : Nat} {out : List Nat} (h : Td l F l.length = 0) : ord l k out F = (out, F) := by
  cases k with
  | zero => rfl
  | succ k => simp only [ord]; rw [h, Bl.low_zero]
theorem ord_cons {l : List S44} {k F : Nat} {out : List Nat} (hn : l.length ≤ 64) (h : Td l F l.length ≠ 0) : ord l (k + 1) out F = ord l k (out ++ [Lib.ctz 64 (Td l F l.length)]) (F ||| 2 ^ Lib.ctz 64 (Td l F l.length)) := by
  simp only [ord]
  have e := Bl.low_step (s := Td l F l.length) (setOf_top _ hn) h
  rw [e]
theorem ctz_bit {s : Nat} (hs : s < Bt.top) (h0 : s ≠ 0) : s.testBit (Lib.ctz 64 s) = true := by
  have : Lib.ctz 64 s ∈ Gr.low s 64 := by rw [Bl.low_step hs h0]; simp
  exact (Gr.mem_low.1 this).2
end Og
def graph_order.f (k : Nat) (l0 : List S44) : Option (List Int × Int) := if l0.length ≤ 64 then if Og.need k l0 = true then some (Bl.ints (Og.ordR l0).1, ((Og.ordR l0).2 : Int)) else none else none
theorem graph_order.mono : ∀ a0 k, LeO (graph_order.f k a0) (graph_order.f (k + 1) a0) := by
  intro a0 k r h
  unfold graph_order.f at h ⊢
  split at h
  · rename_i c
    rw [if_pos c]
    split at h
    · rename_i c2
      rw [if_pos (Og.need_mono c2)]
      exact h
    · cases h
  · cases h
open Ch (Chg)
namespace Og
/-- Below, and the row of who asks for whom. -/
structure J (w w' : World) (g : Nat) (B : List Nat) : Prop where
  hb : Below w.heap.size w w'
  hg : w'.heap[g]? = some (.cells (As.enc B) 93 (0, 0))
  ge : w.heap.size ≤ g
theorem J.below {w w' w2 : World} {g : Nat} {B : List Nat} (h : J w w' g B) (hb : Below w'.heap.size w' w2) : J w w2 g B := ⟨below_step h.hb hb, blk_below h.hg hb, h.ge⟩
theorem J.drewN {w w' : World} {g : Nat} {B : List Nat} (h : J w w' g B) (n : Nat) : J w (w'.drewN n) g B := h.below (pw_below_drewN (Below.refl _ _) _)
theorem without_f {s t : Nat} (hs : s < Bt.top) (ht : t < 64) : bits_Set_Without.f (s : Int) (t : Int) = some ((Bt.sub s (2 ^ t) : Nat) : Int) := by
  unfold bits_Set_Without.f bits_one.f
  rw [if_neg (by omega), if_neg (by omega), if_pos (by omega), Bt.shl_one ht, Option.bind_some, Bt.andNot_nat hs (Bt.lt_pow ht)]
theorem first_f {s : Nat} (hs : s < Bt.top) (h0 : s ≠ 0) : bits_Set_First.f (s : Int) = some ((Lib.ctz 64 s : Nat) : Int) := by
  unfold bits_Set_First.f bits_TrailingZeros64.f
  rw [if_neg (by omega), if_pos (by omega), if_pos (by unfold Bt.top at hs; omega)]
  simp
theorem list_f {s : Nat} (hs : s < Bt.top) : bits_Set_List.f (s : Int) = some (Bl.ints (Gr.low s 64)) := by
  unfold bits_Set_List.f
  rw [if_pos (by omega), if_pos (by unfold Bt.top at hs; omega), Int.toNat_natCast]
theorem Td_bit {l : List S44} {F n u : Nat} (h : (Td l F n).testBit u = true) : u < n ∧ F.testBit u = false := by
  unfold Td at h
  rw [tb_setOf, Bool.and_eq_true, Bool.and_eq_true] at h
  exact ⟨of_decide_eq_true h.1, by have := h.2.1; rwa [Bool.not_eq_true'] at this⟩
theorem rd_ints (l : List Nat) (i : Nat) : rd (Bl.ints l) (i : Int) = ((l.getD i 0 : Nat) : Int) := by
  unfold rd Bl.ints
  simp only [List.getD_eq_getElem?_getD, Int.toNat_natCast, List.getElem?_map]
  cases l[i]? <;> rfl
theorem sub_le (a b : Nat) : Bt.sub a b ≤ a := by unfold Bt.sub; exact Nat.and_le_left
theorem out0_len (l : List S44) (i : Nat) : (out0 l i).length ≤ i := by
  unfold out0
  exact Nat.le_trans (List.length_filter_le _ _) (by simp)
end Og
set_option maxHeartbeats 8000000 in
set_option maxRecDepth 100000 in
theorem graph_order.calls (k : Nat) (A0 : Option Addr) (c0 : Nat) (l0 : List (S44)) (r1 : List Int) (r2 : Int) (w : World) (hr0 : Kd.C k44 w A0 l0.length l0) (hc0 : l0.length ≤ c0) (hT : Tb.Tab w) (h : graph_order.f k l0 = some (r1, r2)) :
    Calls Tryd.prog 59 #[.slice A0 l0.length c0] w fun e w' => ∃ v0_ : Value, e = .returned (.tuple #[v0_, .int .u64 r2]) ∧ Kd.R (Kd.int .i64) 3 w' w.heap.size (fun _ => True) v0_ r1 ∧ Below w.heap.size w w' := by
  obtain ⟨l, hl⟩ : ∃ l, l = l0 := ⟨_, rfl⟩
  rw [← hl] at hr0 hc0 h ⊢
  clear hl
  have hu44 := Tryd.underlying44
  have hu93 := Tryd.underlying93
  obtain ⟨hn, hnd, rfl, rfl⟩ : l.length ≤ 64 ∧ Og.need k l = true ∧ r1 = Bl.ints (Og.ordR l).1 ∧ r2 = ((Og.ordR l).2 : Int) := by
    unfold graph_order.f at h
    split at h
    · split at h
      · rename_i h1 h2
        injection h with h
        injection h with h3 h4
        exact ⟨h1, h2, h3.symm, h4.symm⟩
      · cases h
    · cases h
  have HND := Aside0.mk (show ∀ i, i < l.length → Og.needN k (l.getD i z44) = true from fun i hi => by
    unfold Og.need at hnd
    rw [List.all_eq_true] at hnd
    refine hnd _ ?_
    rw [List.getD_eq_getElem?_getD, List.getElem?_eq_getElem hi]
    exact List.getElem_mem hi)
  have HR := Aside0.mk hr0
  have HC := Aside0.mk hc0
  have HT := Aside0.mk hT
  have HN64 := Aside0.mk hn
  have HASK := Aside0.mk (As.asks_any hr0 hc0 hn)
  clear hr0 hc0 hT hn h hnd
  have HTS := Aside0.mk (fun (B : List Nat) (hB : As.Ok l.length B) (hC : As.CvN l.length B l l.length) (F t : Nat) (hF : F < 2 ^ l.length) (ht : (Og.Td l F l.length).testBit t = true) => Og.Td_step HN64.out hB hC hF ht)
  have HON := Aside0.mk (fun (kq F : Nat) (out : List Nat) (h : Og.Td l F l.length = 0) => Og.ord_nil (k := kq) (out := out) h)
  have HOC := Aside0.mk (fun (kq F : Nat) (out : List Nat) (h : Og.Td l F l.length ≠ 0) => Og.ord_cons (k := kq) (out := out) HN64.out h)
  have HTZ := Aside0.mk (fun (F : Nat) (h : Og.lft l.length F = 0) => Og.Td_zero (l := l) h)
  have HRD := Aside0.mk (show Og.ordR l = Og.ord l 64 (Og.out0 l l.length) (Og.F0 l l.length) from rfl)
  generalize Og.ordR l = R at *
  obtain ⟨n, hN⟩ : ∃ n, n = l.length := ⟨_, rfl⟩
  rw [← hN] at HR HC HN64 HASK HND HTS HON HOC HTZ HRD
  try rw [← hN]
  clear hN
  go_enter Tryd.func59, Tryd.ntmps59
  go_upto_block 0 with (first
    | (go_at_call 78; (with_reducible refine HASK.out.mono ?_); rintro e w1 ⟨B, rfl, hok, hcv, hb⟩; have HOK := Aside0.mk hok; have HCV := Aside0.mk hcv; have HB1 := Aside0.mk hb; have HIS := Aside0.mk (show (Tryd.prog.info? 93).map (·.size) = some (As.enc B).size from by rw [As.enc_size, hok.1]; kernel_rfl); clear hb hok hcv)
    | ((with_reducible refine gate_dst (N := 7) rfl ?_); refine box_event ?hg (N := 7) ?hd (cs := As.enc As.Z0) (t := 93) ?hr ?_; (case hd => rfl); (case hg => rfl); (case hr => first | (go_simp; done) | (go_simp; rfl)); intro g hg w2 hbox hb; have HB2 := Aside0.mk hb; have BX2 := Aside0.mk hbox; have HG2 := Aside0.mk hg; clear hb hbox hg)
    | (refine wpList_plain rfl fun _ hK => wp_store_row 93 (.tmp 7) (.tmp 16) rfl g (As.enc B) rfl rfl 93 (As.enc As.Z0) BX2.out HIS.out (by rw [As.enc_size, As.enc_size, HOK.out.1]; rfl) (As.enc_one B) (hK _ _ ?_)))
  have HGE := Aside0.mk (show w.heap.size ≤ g from by have h1 := HG2.out; have h2 := HB1.out.size; omega)
  have HJ := Aside0.mk (show Og.J w (w2.setRow g (As.enc B)) g B from ⟨As.below_row (below_step HB1.out HB2.out) HGE.out _, setRow_heap _ _ _ _ _ _ BX2.out, HGE.out⟩)
  clear HASK HIS HB1 HB2 BX2 HG2 HGE
  generalize w2.setRow g (As.enc B) = w3 at *
  have HO := Aside0.mk (Kd.R_nil (Kd.int .i64) 3 w3 w.heap.size (fun _ => True))
  go_wp2
  go_loopg [4, 5, 19] n (fun kq v4 v5 v19 w' => ∃ (i : Nat), v4 = .int .u64 (Og.F0 l i : Nat) ∧ v19 = .int .i64 (i : Int) ∧ Aside0 (i + kq = n) ∧ Aside0 (Og.J w w' g B) ∧ Aside0 (Kd.R (Kd.int .i64) 3 w' w.heap.size (fun _ => True) v5 (Bl.ints (Og.out0 l i))))
  case atStart => exact ⟨0, rfl, rfl, ⟨by omega⟩, HJ, HO⟩
  case round =>
    clear HJ HO
    obtain ⟨i, rfl, rfl, HK, HJ, HO⟩ := hrel
    rcases gk with _ | k1
    · have d1 : decide ((i : Int) < (n : Int)) = false := decide_eq_false (by have := HK.out; omega)
      have d2 : decide (i < n) = false := decide_eq_false (by have := HK.out; omega)
      have hin : i = n := by have := HK.out; omega
      rw [hin] at HO
      rw [hin]
      clear HK
      go_upto_block 2 with (fail)
      clear d1 d2 hin
      have HF0 := Aside0.mk (show Og.F0 l n < 2 ^ n from Og.setOf_lt _)
      have HOL := Aside0.mk (Og.out0_len l n)
      have HSB := Aside0.mk (fun i => Og.tb_setOf (fun t => !(l.getD t z44).f0) i n)
      have HFD := Aside0.mk (show Og.F0 l n = Og.setOf (fun t => !(l.getD t z44).f0) n from rfl)
      generalize Og.F0 l n = F at *
      generalize Og.out0 l n = out at *
      have HSB2 := Aside0.mk (show ∀ i, F.testBit i = (decide (i < n) && !(l.getD i z44).f0) from fun i => by rw [HFD.out]; exact HSB.out i)
      clear HSB HFD
      have HFT := Aside0.mk (As.lt_top HN64.out HF0.out)
      go_wp2
      go_loopg [6, 37] n (fun kq v6 v37 w' => ∃ (i : Nat), v6 = .int .u64 (Og.Td l F i : Nat) ∧ v37 = .int .i64 (i : Int) ∧ Aside0 (i + kq = n) ∧ Aside0 (Og.J w w' g B) ∧ Aside0 (Kd.R (Kd.int .i64) 3 w' w.heap.size (fun _ => True) u5 (Bl.ints out)))
      case atStart => exact ⟨0, rfl, rfl, ⟨by omega⟩, HJ, HO⟩
      case round =>
        clear HJ HO
        obtain ⟨i, rfl, rfl, HK, HJ, HO⟩ := hrel
        rcases gk with _ | k1
        · have d1 : decide ((i : Int) < (n : Int)) = false := decide_eq_false (by have := HK.out; omega)
          have d2 : decide (i < n) = false := decide_eq_false (by have := HK.out; omega)
          have hin : i = n := by have := HK.out; omega
          rw [hin]
          clear HK
          go_upto_block 4 with (fail)
          clear d1 d2 hin HSB2 HFT
          go_wp2
          go_loopg [4, 5, 6] 64 (fun kq v4 v5 v6 w' => ∃ (F : Nat) (out : List Nat), v4 = .int .u64 (F : Int) ∧ v6 = .int .u64 (Og.Td l F n : Nat) ∧ Aside0 (F < 2 ^ n) ∧ Aside0 (Og.lft n F ≤ kq) ∧ Aside0 (Og.ord l kq out F = R) ∧ Aside0 (out.length + kq ≤ 128) ∧ Aside0 (Og.J w w' g B) ∧ Aside0 (Kd.R (Kd.int .i64) 3 w' w.heap.size (fun _ => True) v5 (Bl.ints out)))
          case atStart => exact ⟨F, out, rfl, rfl, HF0, ⟨by have h1 := Og.lft_le n F; have h2 := HN64.out; omega⟩, ⟨HRD.out.symm⟩, ⟨by have h1 := HOL.out; have h2 := HN64.out; omega⟩, HJ, HO⟩
          case round =>
            clear HJ HO HF0 HOL HRD
            obtain ⟨F, out, rfl, rfl, HF, HL, HE, HOL, HJ, HO⟩ := hrel
            by_cases hz : Og.Td l F n = 0
            · have HE2 := Aside0.mk (show (out, F) = R from by rw [← HON.out gk F out hz]; exact HE.out)
              rw [hz]
              clear hz
              go_wp2_with (fail)
              go_ret2
              have e := HE2.out
              subst e
              refine ⟨_, rfl, ?_, by repeat (first | exact HJ.out.hb | apply below_drew | apply pw_below_drewN)⟩
              exact HO.out
            · rcases gk with _ | k1
              · exact absurd (HTZ.out F (by have := HL.out; omega)) hz
              · have HOC1 := Aside0.mk (show Og.ord l k1 (out ++ [Lib.ctz 64 (Og.Td l F n)]) (F ||| 2 ^ Lib.ctz 64 (Og.Td l F n)) = R from by rw [← HOC.out k1 F out hz]; exact HE.out)
                have HTT := Aside0.mk (show Og.Td l F n < 2 ^ n from Og.setOf_lt _)
                have HTP := Aside0.mk (As.lt_top HN64.out HTT.out)
                have HFF := Aside0.mk (Og.first_f HTP.out hz)
                have hbit := Og.ctz_bit HTP.out hz
                have HTS1 := Aside0.mk (HTS.out B HOK.out HCV.out F _ HF.out hbit)
                have hb2 := Og.Td_bit hbit
                have HTN := Aside0.mk hb2.1
                have HLF := Aside0.mk (Og.lft_with HTN.out hb2.2)
                clear hb2 hbit
                have d1 : ((Og.Td l F n : Int) != 0) = true := by rw [bne_iff_ne]; omega
                have d2 : ((Og.Td l F n : Int) == 0) = false := by rw [beq_eq_false_iff_ne]; omega
                clear hz HE
                generalize Og.Td l F n = T at *
                generalize Lib.ctz 64 T = t at *
                have HT64 := Aside0.mk (show t < 64 from by have h1 := HTN.out; have h2 := HN64.out; omega)
                have HFP := Aside0.mk (As.lt_top HN64.out HF.out)
                have HW1 := Aside0.mk (As.with_f (t := t) HFP.out HT64.out)
                have HW2 := Aside0.mk (Og.without_f (t := t) HTP.out HT64.out)
                have HF1 := Aside0.mk (show F ||| 2 ^ t < 2 ^ n from Nat.or_lt_two_pow HF.out (Nat.pow_lt_pow_right (by decide) HTN.out))
                have HT1 := Aside0.mk (show Bt.sub T (2 ^ t) < 2 ^ n from Nat.lt_of_le_of_lt (by unfold Bt.sub; exact Nat.and_le_left) HTT.out)
                have HTW := Aside0.mk (Tb.below HT.out HJ.out.hb)
                go_upto_region 19 with (first
                  | (go_at_call 46; (with_reducible refine (bits_Set_First.calls _ _ _ HTW.out HFF.out).mono ?_); rintro e w4 ⟨rfl, ⟨nd4, rfl⟩⟩)
                  | (go_at_call 52; (with_reducible refine (bits_Set_With.calls _ _ _ _ HW1.out).mono ?_); rintro e w5 ⟨rfl, ⟨nd5, rfl⟩⟩)
                  | (go_at_call 69; (with_reducible refine (bits_Set_Without.calls _ _ _ _ HW2.out).mono ?_); rintro e w6 ⟨rfl, ⟨nd6, rfl⟩⟩))
                have HJ6 := Aside0.mk (HJ.out.drewN (nd4 + nd5 + nd6))
                have HO6 := Aside0.mk (Kd.R_drewN HO.out (nd4 + nd5 + nd6))
                clear HJ HO HW1 HW2 HFF HTW d1 d2
                generalize wr.drewN (nd4 + nd5 + nd6) = w6 at *
                obtain ⟨A5, c5, ev⟩ := Kd.R_slice HO6.out
                subst ev
                obtain ⟨N5, hN5⟩ : ∃ N, N = (Bl.ints out).length := ⟨_, rfl⟩
                rw [← hN5] at HO6
                try rw [← hN5]
                clear hN5
                go_upto_region 20 with (at_builtin; refine Kd.R_append (Kd.int .i64) (w0 := w) w.heap.size rfl (.tmp 63) (.tmp 65) 28 3 (.int .i64 0) 8 rfl Tryd.underlying28 info3 rfl (by decide) (by omega) (.slice A5 N5 c5) (Bl.ints out) (t : Int) [.int .i64 (t : Int)] (fun _ => True) (fun _ => False) rfl (by first | (go_simp; done) | (go_simp; rfl)) ?aP (fun _ hk => hk.elim) ?aF ?aO ?aB ?aS ?aL ?_; (case aP => exact rfl); (case aB => exact HJ6.out.hb); (case aF => exact (fun _ _ => trivial)); (case aO => exact HO6.out); (case aS => exact below_size HJ6.out.hb); (case aL => have h1 := HOL.out; rw [Bl.ints_len]; omega); intro v7 w7 ho hb hg hat; have HO7 := Aside0.mk (show Kd.R (Kd.int .i64) 3 w7 w.heap.size (fun _ => True) v7 (Bl.ints (out ++ [t])) from by rw [← Bl.ints_snoc]; exact ho); have HJ7 := Aside0.mk (show Og.J w w7 g B from ⟨hb, blk_grown HJ6.out.hg hg (Kd.R_ne HO6.out HJ6.out.hg (by decide)), HJ6.out.ge⟩); clear ho hb hg hat)
                clear HJ6 HO6
                have HBT := Aside0.mk (HOK.out.2 t)
                have HBP := Aside0.mk (As.lt_top HN64.out HBT.out)
                have HF1P := Aside0.mk (As.lt_top HN64.out HF1.out)
                have HT1P := Aside0.mk (As.lt_top HN64.out HT1.out)
                have xb : w7.cell? ⟨g, t, none⟩ = some (.int .u64 ((B.getD t 0 : Nat) : Int)) := (blk_cell HJ7.out.hg t).trans (As.enc_get B t (by rw [HOK.out.1]; exact HT64.out))
                have e1 := Bt.andNot_nat HBP.out HF1P.out
                have e2 := Bt.andNot_nat (Bt.lt_sub (b := F ||| 2 ^ t) HBP.out) HT1P.out
                have p1 : (0 ≤ (t : Int)) = True := eq_true (by omega)
                have p2 : ((t : Int) < 64) = True := eq_true (by have := HT64.out; omega)
                have HUB := Aside0.mk (show ∀ u ∈ Gr.low (Bt.sub (Bt.sub (B.getD t 0) (F ||| 2 ^ t)) (Bt.sub T (2 ^ t))) 64, u < n from by
                  intro u hu
                  have h1 := (Gr.mem_low.1 hu).2
                  refine Classical.byContradiction fun hc => ?_
                  have h2 : Bt.sub (Bt.sub (B.getD t 0) (F ||| 2 ^ t)) (Bt.sub T (2 ^ t)) < 2 ^ u := Nat.lt_of_lt_of_le (Nat.lt_of_le_of_lt (Nat.le_trans (Og.sub_le _ _) (Og.sub_le _ _)) HBT.out) (Nat.pow_le_pow_right (by decide) (by omega))
                  rw [Nat.testBit_lt_two_pow h2] at h1
                  cases h1)
                have HLI := Aside0.mk (Og.list_f (s := Bt.sub (Bt.sub (B.getD t 0) (F ||| 2 ^ t)) (Bt.sub T (2 ^ t))) (Bt.lt_sub (Bt.lt_sub HBP.out)))
                have HTW := Aside0.mk (Tb.below HT.out HJ7.out.hb)
                generalize Gr.low (Bt.sub (Bt.sub (B.getD t 0) (F ||| 2 ^ t)) (Bt.sub T (2 ^ t))) 64 = U at *
                generalize B.getD t 0 = bt at *
                generalize F ||| 2 ^ t = F1 at *
                generalize Bt.sub T (2 ^ t) = T1 at *
                generalize hs1 : Bt.sub bt F1 = s1 at *
                generalize hs2 : Bt.sub s1 T1 = s2 at *
                clear hs1 hs2
                go_upto_block 6 with (go_at_call 62; (with_reducible refine (bits_Set_List.calls _ _ _ HTW.out HLI.out).mono ?_); rintro e w8 ⟨v8, rfl, ho, hb⟩; obtain ⟨A8, c8, e8⟩ := Kd.R_slice ho; subst e8; have HU8 := Aside0.mk (Kd.R_reads' ho).2.2; have HB8 := Aside0.mk hb; clear ho hb)
                have HJ8 := Aside0.mk (HJ7.out.below HB8.out)
                have HO8 := Aside0.mk (Kd.R_below HO7.out HB8.out)
                have HOCL := Aside0.mk (show (out ++ [t]).length + k1 ≤ 128 from by have := HOL.out; simp; omega)
                obtain ⟨m, hm⟩ : ∃ m, m = (Bl.ints U).length := ⟨_, rfl⟩
                rw [← hm] at HU8
                try rw [← hm]
                have HM := Aside0.mk (show m = U.length from by rw [hm, Bl.ints_len])
                clear hm HJ7 HO7 HB8 HTW HLI xb e1 e2 p1 p2
                go_wp2
                go_loopg [6, 76] m (fun kq v6 v76 w' => ∃ (q Tq : Nat), v6 = .int .u64 (Tq : Int) ∧ v76 = .int .i64 (q : Int) ∧ Aside0 (q + kq = m) ∧ Aside0 (Og.tdo l F1 (U.drop q) Tq = Og.Td l F1 n) ∧ Aside0 (Tq < 2 ^ n) ∧ Aside0 (Og.J w w' g B) ∧ Aside0 (Kd.R (Kd.int .i64) 3 w' w.heap.size (fun _ => True) v7 (Bl.ints (out ++ [t]))) ∧ Aside0 (Kd.C (Kd.int .i64) w' A8 m (Bl.ints U)))
                case atStart => exact ⟨0, T1, rfl, rfl, ⟨by omega⟩, ⟨by rw [List.drop_zero]; exact HTS1.out⟩, HT1, HJ8, HO8, HU8⟩
                case round =>
                  clear HJ8 HO8 HU8
                  obtain ⟨q, Tq, rfl, rfl, HK, HTQ, HTL, HJ, HO, HU⟩ := hrel
                  rcases gk with _ | k2
                  · have d1 : decide ((q : Int) < (m : Int)) = false := decide_eq_false (by have := HK.out; omega)
                    have d2 : decide (q < m) = false := decide_eq_false (by have := HK.out; omega)
                    have HTE := Aside0.mk (show Tq = Og.Td l F1 n from by
                      have h := HTQ.out
                      rwa [List.drop_of_length_le (by have h1 := HM.out; have h2 := HK.out; omega)] at h)
                    go_wp2_with (fail)
                    go_roundg k1
                    case measure => omega
                    case rel => exact ⟨F1, out ++ [t], rfl, by rw [HTE.out], HF1, ⟨by have h1 := HL.out; have h2 := HLF.out; omega⟩, HOC1, HOCL, HJ, HO⟩
                  · have d1 : decide ((q : Int) < (m : Int)) = true := decide_eq_true (by have := HK.out; omega)
                    have d2 : decide (q < m) = true := decide_eq_true (by have := HK.out; omega)
                    have p1 : (0 ≤ (q : Int)) = True := eq_true (by omega)
                    have p2 : ((q : Int) < (m : Int)) = True := eq_true (by have := HK.out; omega)
                    have hql : q < U.length := by have h1 := HM.out; have h2 := HK.out; omega
                    obtain ⟨ad, ead, hx⟩ := Kd.at_int HU.out (q : Int) (by omega) (by have := HK.out; omega)
                    subst ead
                    rw [Og.rd_ints, Int.toNat_natCast] at hx
                    have HUL := Aside0.mk (HUB.out (U.getD q 0) (by rw [List.getD_eq_getElem?_getD, List.getElem?_eq_getElem hql]; exact List.getElem_mem hql))
                    have HDR := Aside0.mk (show U.drop q = U.getD q 0 :: U.drop (q + 1) from by rw [List.drop_eq_getElem_cons hql, List.getD_eq_getElem?_getD, List.getElem?_eq_getElem hql]; rfl)
                    have ew : Aside0 (wrap64 ((q : Int) + 1) = (q : Int) + 1) := ⟨by have h2 := Kd.C_max HU.out; have h3 := HK.out; unfold wrap64; omega⟩
                    generalize U.getD q 0 = u at *
                    clear hql
                    have p3 : (0 ≤ (u : Int)) = True := eq_true (by omega)
                    have p4 : ((u : Int) < (n : Int)) = True := eq_true (by have := HUL.out; omega)
                    obtain ⟨ad2, A1, c1, ea, hx0, hx1, hl1, hi1⟩ := at_T44 HR.out (u : Int) (by omega) (by have := HUL.out; omega)
                    subst ea
                    have e44 : rd_T44 l (u : Int) = l.getD u z44 := by unfold rd_T44; rw [Int.toNat_natCast]
                    rw [e44] at hx0 hx1 hl1 hi1
                    replace hx0 := (HJ.out.hb.cell (World.block_lt_of_cell? w _ hx0)).trans hx0
                    replace hx1 := (HJ.out.hb.cell (World.block_lt_of_cell? w _ hx1)).trans hx1
                    rw [Int.toNat_natCast] at hx0 hx1
                    have HNN := Aside0.mk (HND.out u HUL.out)
                    have HTN2 := Aside0.mk (show Og.tdo l F1 (U.drop (q + 1)) (if Og.metB F1 (l.getD u z44) = true then Tq ||| 2 ^ u else Tq) = Og.Td l F1 n from by
                      have h := HTQ.out
                      rw [HDR.out] at h
                      exact h)
                    have HMF := Aside0.mk (Og.met_f (k := k) (As.lt_top HN64.out HF1.out) HNN.out)
                    obtain ⟨nd, hnd⟩ : ∃ nd, nd = l.getD u z44 := ⟨_, rfl⟩
                    rw [← hnd] at hx0 hx1 hl1 hi1 HNN HMF HTN2
                    have HC1 := Aside0.mk hi1
                    have HL1 := Aside0.mk hl1
                    clear hnd e44 hi1 hl1 HTQ HDR
                    have HWF := Aside0.mk (As.with_f (t := u) (As.lt_top HN64.out HTL.out) (by have h1 := HUL.out; have h2 := HN64.out; omega))
                    have HLT := Aside0.mk (show Tq ||| 2 ^ u < 2 ^ n from Nat.or_lt_two_pow HTL.out (Nat.pow_lt_pow_right (by decide) HUL.out))
                    generalize Og.metB F1 nd = mt at *
                    cases mt with
                    | true =>
                      replace HTN2 := Aside0.mk ((show _ = Og.tdo l F1 (U.drop (q + 1)) (if true = true then Tq ||| 2 ^ u else Tq) from by rw [if_pos rfl]).trans HTN2.out)
                      go_wp2_with (first
                        | (go_at_call 64; (with_reducible refine (graph_met.calls k _ _ _ nd.f1 _ _ _ (Kd.C_below HC1.out HJ.out.hb) HL1.out HMF.out).mono ?_); rintro e w9 ⟨rfl, hb9⟩; have HB9 := Aside0.mk hb9; clear hb9)
                        | (go_at_call 52; (with_reducible refine (bits_Set_With.calls _ _ _ _ HWF.out).mono ?_); rintro e w10 ⟨rfl, ⟨nd10, rfl⟩⟩))
                      go_roundg k2
                      case measure => omega
                      case rel => exact ⟨q + 1, Tq ||| 2 ^ u, rfl, by rw [ew.out]; simp, ⟨by have := HK.out; omega⟩, HTN2, HLT, ⟨(HJ.out.below HB9.out).drewN _⟩, ⟨Kd.R_drewN (Kd.R_below HO.out HB9.out) _⟩, ⟨Kd.C_drewN (Kd.C_below HU.out HB9.out) _⟩⟩
                    | false =>
                      replace HTN2 := Aside0.mk ((show Og.tdo l F1 (U.drop (q + 1)) Tq = Og.tdo l F1 (U.drop (q + 1)) (if false = true then Tq ||| 2 ^ u else Tq) from by rw [if_neg (by decide)]).trans HTN2.out)
                      go_wp2_with (go_at_call 64; (with_reducible refine (graph_met.calls k _ _ _ nd.f1 _ _ _ (Kd.C_below HC1.out HJ.out.hb) HL1.out HMF.out).mono ?_); rintro e w9 ⟨rfl, hb9⟩; have HB9 := Aside0.mk hb9; clear hb9)
                      go_roundg k2
                      case measure => omega
                      case rel => exact ⟨q + 1, Tq, rfl, by rw [ew.out]; simp, ⟨by have := HK.out; omega⟩, HTN2, HTL, ⟨HJ.out.below HB9.out⟩, ⟨Kd.R_below HO.out HB9.out⟩, ⟨Kd.C_below HU.out HB9.out⟩⟩
        · have d1 : decide ((i : Int) < (n : Int)) = true := decide_eq_true (by have := HK.out; omega)
          have d2 : decide (i < n) = true := decide_eq_true (by have := HK.out; omega)
          have p1 : (0 ≤ (i : Int)) = True := eq_true (by omega)
          have p2 : ((i : Int) < (n : Int)) = True := eq_true (by have := HK.out; omega)
          obtain ⟨ad, A1, c1, ea, hx0, hx1, hl1, hi1⟩ := at_T44 HR.out (i : Int) (by omega) (by have := HK.out; omega)
          subst ea
          have e44 : rd_T44 l (i : Int) = l.getD i z44 := by unfold rd_T44; rw [Int.toNat_natCast]
          rw [e44] at hx0 hx1 hl1 hi1
          replace hx0 := (HJ.out.hb.cell (World.block_lt_of_cell? w _ hx0)).trans hx0
          replace hx1 := (HJ.out.hb.cell (World.block_lt_of_cell? w _ hx1)).trans hx1
          rw [Int.toNat_natCast] at hx0 hx1
          have HNN := Aside0.mk (HND.out i (by have := HK.out; omega))
          have HMF := Aside0.mk (Og.met_f (k := k) HFT.out HNN.out)
          have HTD := Aside0.mk (show Og.Td l F (i + 1) = if ((l.getD i z44).f0 && Og.metB F (l.getD i z44)) = true then Og.Td l F i ||| 2 ^ i else Og.Td l F i from by
            show (if (!F.testBit i && Og.metB F (l.getD i z44)) = true then _ else _) = _
            rw [HSB2.out i, decide_eq_true (show i < n by have := HK.out; omega), Bool.true_and, Bool.not_not]
            rfl)
          have HTT := Aside0.mk (show Og.Td l F i < Bt.top from Og.setOf_top _ (by have h1 := HK.out; have h2 := HN64.out; omega))
          have HI64 := Aside0.mk (show i < 64 from by have h1 := HK.out; have h2 := HN64.out; omega)
          obtain ⟨nd, hnd⟩ : ∃ nd, nd = l.getD i z44 := ⟨_, rfl⟩
          rw [← hnd] at hx0 hx1 hl1 hi1 HNN HMF HTD
          have HC1 := Aside0.mk hi1
          have HL1 := Aside0.mk hl1
          have HBW := Aside0.mk HJ.out.hb
          clear hnd e44 hi1 hl1
          have ew : Aside0 (wrap64 ((i : Int) + 1) = (i : Int) + 1) := ⟨by have h2 := HI64.out; unfold wrap64; omega⟩
          go_upto_region 13 with ((with_reducible refine gate_dst (N := 11) rfl ?_); refine box_event ?hg (N := 11) ?hd (cs := #[.bool false, .slice none 0 0]) (t := 44) ?hr ?_; (case hd => rfl); (case hg => rfl); (case hr => first | (go_simp; done) | (go_simp; rfl)); intro gb hg w2 hbox hb; have HGB := Aside0.mk (show gb = wr.heap.size from hg); have BX2 := Aside0.mk hbox; have HW2 := Aside0.mk hb; clear hg hbox hb; replace hx0 := (HW2.out.cell (World.block_lt_of_cell? _ _ hx0)).trans hx0; replace hx1 := (HW2.out.cell (World.block_lt_of_cell? _ _ hx1)).trans hx1; have y0 : w2.cell? ⟨gb, 0, none⟩ = some (.bool false) := (blk_cell BX2.out 0).trans rfl; have y1 : w2.cell? ⟨gb, 1, none⟩ = some (.slice none 0 0) := (blk_cell BX2.out 1).trans rfl; have fz0 := blk_frozen BX2.out 0; have fz1 := blk_frozen BX2.out 1)
          have HX2 := Aside0.mk (show ((w2.setCell ⟨gb, 0, none⟩ (.bool nd.f0)).setCell ⟨gb, 1, none⟩ (.slice A1 nd.f1.length c1)).heap[gb]? = some (.cells #[.bool nd.f0, .slice A1 nd.f1.length c1] 44 (0, 0)) from blk_put (blk_put BX2.out 0 _ rfl) 1 _ rfl)
          have HBX := Aside0.mk (show Below wr.heap.size wr ((w2.setCell ⟨gb, 0, none⟩ (.bool nd.f0)).setCell ⟨gb, 1, none⟩ (.slice A1 nd.f1.length c1)) from below_set (below_set HW2.out (by have := HGB.out; omega)) (by have := HGB.out; omega))
          have HJ7 := Aside0.mk (HJ.out.below HBX.out)
          have HO7 := Aside0.mk (Kd.R_below HO.out HBX.out)
          clear HW2 BX2 fz0 fz1 y0 y1 hx0 hx1 p1 p2 d1 d2 HGB HJ HO HBX
          generalize (w2.setCell ⟨gb, 0, none⟩ (.bool nd.f0)).setCell ⟨gb, 1, none⟩ (.slice A1 nd.f1.length c1) = w7 at *
          have x0 : w7.cell? ⟨gb, 0, none⟩ = some (.bool nd.f0) := (blk_cell HX2.out 0).trans rfl
          have x1 : w7.cell? ⟨gb, 1, none⟩ = some (.slice A1 nd.f1.length c1) := (blk_cell HX2.out 1).trans rfl
          generalize Og.metB F nd = mt at *
          generalize Og.Td l F i = T at *
          cases hq : nd.f0 with
          | true =>
            rw [hq] at x0 HTD HMF
            cases hmt : mt with
            | true =>
              rw [hmt] at HMF HTD
              replace HTD := Aside0.mk (HTD.out.trans (if_pos (by simp)))
              have HWF := Aside0.mk (As.with_f (t := i) HTT.out HI64.out)
              go_wp2_with (first
                | (go_at_call 64; (with_reducible refine (graph_met.calls k _ _ _ nd.f1 _ _ _ (Kd.C_below HC1.out HJ7.out.hb) HL1.out HMF.out).mono ?_); rintro e w8 ⟨rfl, hb8⟩; have HB8 := Aside0.mk hb8; clear hb8)
                | (go_at_call 52; (with_reducible refine (bits_Set_With.calls _ _ _ _ HWF.out).mono ?_); rintro e w9 ⟨rfl, ⟨nd9, rfl⟩⟩))
              go_roundg k1
              case measure => omega
              case rel => exact ⟨i + 1, by rw [HTD.out], by rw [ew.out]; simp, ⟨by have := HK.out; omega⟩, ⟨(HJ7.out.below HB8.out).drewN _⟩, ⟨Kd.R_drewN (Kd.R_below HO7.out HB8.out) _⟩⟩
            | false =>
              rw [hmt] at HMF HTD
              replace HTD := Aside0.mk (HTD.out.trans (if_neg (by simp)))
              go_wp2_with (go_at_call 64; (with_reducible refine (graph_met.calls k _ _ _ nd.f1 _ _ _ (Kd.C_below HC1.out HJ7.out.hb) HL1.out HMF.out).mono ?_); rintro e w8 ⟨rfl, hb8⟩; have HB8 := Aside0.mk hb8; clear hb8)
              go_roundg k1
              case measure => omega
              case rel => exact ⟨i + 1, by rw [HTD.out], by rw [ew.out]; simp, ⟨by have := HK.out; omega⟩, ⟨HJ7.out.below HB8.out⟩, ⟨Kd.R_below HO7.out HB8.out⟩⟩
          | false =>
            rw [hq] at x0 HTD
            replace HTD := Aside0.mk (HTD.out.trans (if_neg (by simp)))
            go_wp2_with (fail)
            go_roundg k1
            case measure => omega
            case rel => exact ⟨i + 1, by rw [HTD.out], by rw [ew.out]; simp, ⟨by have := HK.out; omega⟩, HJ7, HO7⟩
    · have d1 : decide ((i : Int) < (n : Int)) = true := decide_eq_true (by have := HK.out; omega)
      have d2 : decide (i < n) = true := decide_eq_true (by have := HK.out; omega)
      have p1 : (0 ≤ (i : Int)) = True := eq_true (by omega)
      have p2 : ((i : Int) < (n : Int)) = True := eq_true (by have := HK.out; omega)
      obtain ⟨ad, A1, c1, ea, hx0, hx1, hl1, hi1⟩ := at_T44 HR.out (i : Int) (by omega) (by have := HK.out; omega)
      subst ea
      have e44 : rd_T44 l (i : Int) = l.getD i z44 := by unfold rd_T44; rw [Int.toNat_natCast]
      rw [e44] at hx0 hx1 hl1 hi1
      replace hx0 := (HJ.out.hb.cell (World.block_lt_of_cell? w _ hx0)).trans hx0
      replace hx1 := (HJ.out.hb.cell (World.block_lt_of_cell? w _ hx1)).trans hx1
      rw [Int.toNat_natCast] at hx0 hx1
      have HNN := Aside0.mk (HND.out i (by have := HK.out; omega))
      have HFS := Aside0.mk (Og.F0_succ l i)
      have HOS := Aside0.mk (Og.out0_succ l i)
      have HFT := Aside0.mk (show Og.F0 l i < Bt.top from Og.setOf_top _ (by have h1 := HK.out; have h2 := HN64.out; omega))
      have HOL := Aside0.mk (Og.out0_len l i)
      have HI64 := Aside0.mk (show i < 64 from by have h1 := HK.out; have h2 := HN64.out; omega)
      obtain ⟨nd, hnd⟩ : ∃ nd, nd = l.getD i z44 := ⟨_, rfl⟩
      rw [← hnd] at hx0 hx1 hl1 hi1 HFS HOS HNN
      clear hnd e44 hi1 hl1
      have ew : Aside0 (wrap64 ((i : Int) + 1) = (i : Int) + 1) := ⟨by have h2 := HI64.out; unfold wrap64; omega⟩
      go_upto_region 6 with ((with_reducible refine gate_dst (N := 9) rfl ?_); refine box_event ?hg (N := 9) ?hd (cs := #[.bool false, .slice none 0 0]) (t := 44) ?hr ?_; (case hd => rfl); (case hg => rfl); (case hr => first | (go_simp; done) | (go_simp; rfl)); intro gb hg w2 hbox hb; have HGB := Aside0.mk (show gb = wr.heap.size from hg); have BX2 := Aside0.mk hbox; have HW2 := Aside0.mk hb; clear hg hbox hb; replace hx0 := (HW2.out.cell (World.block_lt_of_cell? _ _ hx0)).trans hx0; replace hx1 := (HW2.out.cell (World.block_lt_of_cell? _ _ hx1)).trans hx1; have y0 : w2.cell? ⟨gb, 0, none⟩ = some (.bool false) := (blk_cell BX2.out 0).trans rfl; have y1 : w2.cell? ⟨gb, 1, none⟩ = some (.slice none 0 0) := (blk_cell BX2.out 1).trans rfl; have fz0 := blk_frozen BX2.out 0; have fz1 := blk_frozen BX2.out 1)
      have HX2 := Aside0.mk (show ((w2.setCell ⟨gb, 0, none⟩ (.bool nd.f0)).setCell ⟨gb, 1, none⟩ (.slice A1 nd.f1.length c1)).heap[gb]? = some (.cells #[.bool nd.f0, .slice A1 nd.f1.length c1] 44 (0, 0)) from blk_put (blk_put BX2.out 0 _ rfl) 1 _ rfl)
      have HBX := Aside0.mk (show Below wr.heap.size wr ((w2.setCell ⟨gb, 0, none⟩ (.bool nd.f0)).setCell ⟨gb, 1, none⟩ (.slice A1 nd.f1.length c1)) from below_set (below_set HW2.out (by have := HGB.out; omega)) (by have := HGB.out; omega))
      have HJ7 := Aside0.mk (HJ.out.below HBX.out)
      have HO7 := Aside0.mk (Kd.R_below HO.out HBX.out)
      clear HW2 BX2 fz0 fz1 y0 y1 hx0 hx1 p1 p2 d1 d2 HGB HJ HO HBX
      generalize (w2.setCell ⟨gb, 0, none⟩ (.bool nd.f0)).setCell ⟨gb, 1, none⟩ (.slice A1 nd.f1.length c1) = w7 at *
      have x0 : w7.cell? ⟨gb, 0, none⟩ = some (.bool nd.f0) := (blk_cell HX2.out 0).trans rfl
      have x1 : w7.cell? ⟨gb, 1, none⟩ = some (.slice A1 nd.f1.length c1) := (blk_cell HX2.out 1).trans rfl
      cases hq : nd.f0 with
      | true =>
        rw [hq] at x0 HFS HOS
        replace HFS := Aside0.mk (HFS.out.trans (if_pos rfl))
        replace HOS := Aside0.mk (HOS.out.trans (if_pos rfl))
        go_wp2_with (fail)
        go_roundg k1
        case measure => omega
        case rel => exact ⟨i + 1, by rw [HFS.out], by rw [ew.out]; simp, ⟨by have := HK.out; omega⟩, HJ7, ⟨by rw [HOS.out]; exact HO7.out⟩⟩
      | false =>
        rw [hq] at x0 HFS HOS
        replace HFS := Aside0.mk (HFS.out.trans (if_neg (by decide)))
        replace HOS := Aside0.mk (HOS.out.trans (if_neg (by decide)))
        have HWF := Aside0.mk (As.with_f (t := i) HFT.out HI64.out)
        go_upto_region 8 with (go_at_call 52; (with_reducible refine (bits_Set_With.calls _ _ _ _ HWF.out).mono ?_); rintro e w8 ⟨rfl, ⟨nd8, rfl⟩⟩)
        have HJ8 := Aside0.mk (HJ7.out.drewN nd8)
        have HO8 := Aside0.mk (Kd.R_drewN HO7.out nd8)
        clear HJ7 HO7 x0 x1 HX2 HWF
        generalize w7.drewN nd8 = w8 at *
        obtain ⟨A5, c5, ev⟩ := Kd.R_slice HO8.out
        subst ev
        obtain ⟨N5, hN5⟩ : ∃ N, N = (Bl.ints (Og.out0 l i)).length := ⟨_, rfl⟩
        rw [← hN5] at HO8
        try rw [← hN5]
        clear hN5
        go_wp2_with (at_builtin; refine Kd.R_append (Kd.int .i64) (w0 := w) w.heap.size rfl (.tmp 30) (.tmp 32) 28 3 (.int .i64 0) 8 rfl Tryd.underlying28 info3 rfl (by decide) (by omega) (.slice A5 N5 c5) (Bl.ints (Og.out0 l i)) (i : Int) [.int .i64 (i : Int)] (fun _ => True) (fun _ => False) rfl (by first | (go_simp; done) | (go_simp; rfl)) ?aP (fun _ hk => hk.elim) ?aF ?aO ?aB ?aS ?aL ?_; (case aP => exact rfl); (case aB => exact HJ8.out.hb); (case aF => exact (fun _ _ => trivial)); (case aO => exact HO8.out); (case aS => exact below_size HJ8.out.hb); (case aL => have h1 := HOL.out; have h2 := HI64.out; rw [Bl.ints_len]; omega); intro v9 w9 ho hb hg hat; have HV9 := Aside0.mk ho; have HJ9 := Aside0.mk (show Og.J w w9 g B from ⟨hb, blk_grown HJ8.out.hg hg (Kd.R_ne HO8.out HJ8.out.hg (by decide)), HJ8.out.ge⟩); clear ho hb hg hat)
        go_roundg k1
        case measure => omega
        case rel =>
          have h3 := HV9.out
          rw [Bl.ints_snoc] at h3
          exact ⟨i + 1, by rw [HFS.out], by rw [ew.out]; simp, ⟨by have := HK.out; omega⟩, HJ9, ⟨by rw [HOS.out]; exact h3⟩⟩


end Go.Proofs.YtbfbegleffkafaaDoor.PCycleAgrees
