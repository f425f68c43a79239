/- What the calls of a row with two ends do to it, as calls on a list. Conditions: the row lies in memory of its own. -/
import Derived.Test.YtjcjhmnfknenlaaProg
import Derived.Test.YtjcjhmnfknenlaaWMore
import Derived.WalkKit
import Derived.KernelRfl
import Derived.Deep.Draws
import Derived.Deep.OwnRows
import Derived.Deep.QuietTactic
import Derived.BigQuiet
import Derived.Deep.RegionWith
import Derived.StillTailTactics
import Derived.Deep.LoopGhost
namespace Go.Proofs.Ytjcjhmnfknenlaa.Rg
open Go.RowKit Go.Proofs.YtjcjhmnfknenlaaW.PrintWords

/-- Only blocks of S, and new ones, have turned. -/
structure Chg (S : Nat → Prop) (w w' : World) : Prop where
  os : w'.os = w.os
  tape : w'.tape = w.tape
  output : w'.output = w.output
  size : w.heap.size ≤ w'.heap.size
  block : ∀ k, k < w.heap.size → ¬ S k → w'.heap[k]? = w.heap[k]?
theorem Chg.refl (S : Nat → Prop) (w : World) : Chg S w w := ⟨rfl, rfl, rfl, Nat.le_refl _, fun _ _ _ => rfl⟩
theorem Chg.drewN {S : Nat → Prop} {w w' : World} (h : Chg S w w') (n : Nat) : Chg S w (w'.drewN n) := ⟨h.os, h.tape, h.output, h.size, h.block⟩
theorem Chg.drew {S : Nat → Prop} {w w' : World} (h : Chg S w w') : Chg S w w'.drew := ⟨h.os, h.tape, h.output, h.size, h.block⟩
theorem Chg.set_ {S : Nat → Prop} {w w' : World} (h : Chg S w w') {p : Addr} (hp : S p.block ∨ w.heap.size ≤ p.block) (u : Value) : Chg S w (w'.setCell p u) :=
  ⟨h.os, h.tape, h.output, by simpa [World.setCell] using h.size, fun k hk hs => (Below.heap_setCell w' p u k (by
    rintro rfl
    rcases hp with hp | hp
    · exact hs hp
    · omega)).trans (h.block k hk hs)⟩
theorem Chg.trans {S : Nat → Prop} {a b c : World} (h : Chg S a b) (k : Chg S b c) : Chg S a c :=
  ⟨k.os.trans h.os, k.tape.trans h.tape, k.output.trans h.output, Nat.le_trans h.size k.size, fun i hi hs => (k.block i (Nat.lt_of_lt_of_le hi h.size) hs).trans (h.block i hi hs)⟩
theorem Chg.of_below {S : Nat → Prop} {w w' : World} (h : Below w.heap.size w w') : Chg S w w' := ⟨h.os, h.tape, h.output, h.size, fun k hk _ => h.block k hk⟩
theorem Chg.below {S : Nat → Prop} {B : Nat} {w0 w w' : World} (hb : Below B w0 w) (h : Chg S w w') (hB : B ≤ w.heap.size) (hs : ∀ k, S k → B ≤ k) : Below B w0 w' :=
  hb.trans ⟨h.os, h.tape, h.output, h.size, fun k hk => h.block k (by omega) (fun q => by have := hs k q; omega)⟩
theorem Chg.alloc {S : Nat → Prop} {w w' : World} (h : Chg S w w') (o : Obj) : Chg S w (w'.alloc o) :=
  ⟨h.os, h.tape, h.output, Nat.le_trans h.size (by simp), fun k hk hs => (Below.heap_alloc w' o k (Nat.lt_of_lt_of_le hk h.size)).trans (h.block k hk hs)⟩

/-- A row: its header in block g, its slots in block b: cap of them; n are taken, from p on. -/
structure At (W : World) (g b c : Nat) (ex : List Value) (cap p n : Nat) (xs : List Int) : Prop where
  hg : W.heap[g]? = some (.cells #[.slice (some ⟨b, 0, none⟩) cap c, .int .i64 (p : Int), .int .i64 (n : Int)] 80 (0, 0))
  hb : W.heap[b]? = some (.cells (xs.map (Value.int .i64) ++ ex).toArray 3 (0, 0))
  len : xs.length = cap
  room : cap ≤ 4096
  n_le : n ≤ cap
  p_lt : p < cap ∨ cap = 0 ∧ p = 0
  cap_le : cap ≤ c
theorem At.ne {W : World} {g b cap p n c : Nat} {xs : List Int} {ex : List Value} (h : At W g b c ex cap p n xs) : g ≠ b := by
  intro e
  have h1 := h.hg
  have h2 := h.hb
  rw [e, h2] at h1
  injection h1 with h1
  injection h1 with _ ht
  exact absurd ht (by decide)
theorem At.kept {W W' : World} {g b cap p n c : Nat} {xs : List Int} {ex : List Value} (h : At W g b c ex cap p n xs) {S : Nat → Prop} (hc : Chg S W W') (h1 : ¬ S g) (h2 : ¬ S b) : At W' g b c ex cap p n xs :=
  ⟨(hc.block g (blk_lt h.hg) h1).trans h.hg, (hc.block b (blk_lt h.hb) h2).trans h.hb, h.len, h.room, h.n_le, h.p_lt, h.cap_le⟩
theorem At.drewN {W : World} {g b cap p n c : Nat} {xs : List Int} {ex : List Value} (h : At W g b c ex cap p n xs) (k : Nat) : At (W.drewN k) g b c ex cap p n xs := ⟨h.hg, h.hb, h.len, h.room, h.n_le, h.p_lt, h.cap_le⟩
theorem At.setN {W : World} {g b cap p n c : Nat} {xs : List Int} {ex : List Value} (h : At W g b c ex cap p n xs) (m : Nat) (hm : m ≤ cap) : At (W.setCell ⟨g, 2, none⟩ (.int .i64 (m : Int))) g b c ex cap p m xs :=
  ⟨blk_put h.hg 2 _ rfl, blk_far h.hb h.ne.symm _, h.len, h.room, hm, h.p_lt, h.cap_le⟩
theorem At.setP {W : World} {g b cap p n c : Nat} {xs : List Int} {ex : List Value} (h : At W g b c ex cap p n xs) (m : Nat) (hm : m < cap) : At (W.setCell ⟨g, 1, none⟩ (.int .i64 (m : Int))) g b c ex cap m n xs :=
  ⟨blk_put h.hg 1 _ rfl, blk_far h.hb h.ne.symm _, h.len, h.room, h.n_le, Or.inl hm, h.cap_le⟩
theorem At.setX {W : World} {g b cap p n c : Nat} {xs : List Int} {ex : List Value} (h : At W g b c ex cap p n xs) (q : Nat) (hq : q < cap) (x : Int) : At (W.setCell ⟨b, q, none⟩ (.int .i64 x)) g b c ex cap p n (xs.set q x) :=
  ⟨blk_far h.hg h.ne _, blk_put h.hb q _ (by have := h.len; simp [List.set_append_left _ _ (show q < (xs.map (Value.int .i64)).length by simp; omega), ← List.map_set]), by simpa using h.len, h.room, h.n_le, h.p_lt, h.cap_le⟩
/-- What stands in it, in order. -/
def elems (cap p n : Nat) (xs : List Int) : List Int := (List.range n).map fun i => xs.getD ((p + i) % cap) 0
theorem elems_len (cap p n : Nat) (xs : List Int) : (elems cap p n xs).length = n := by simp [elems]

section
variable {W : World} {g b cap p n c : Nat} {xs : List Int} {ex : List Value}
theorem At.c0 (h : At W g b c ex cap p n xs) : W.cell? ⟨g, 0, none⟩ = some (.slice (some ⟨b, 0, none⟩) cap c) := (blk_cell h.hg 0).trans rfl
theorem At.c1 (h : At W g b c ex cap p n xs) : W.cell? ⟨g, 1, none⟩ = some (.int .i64 (p : Int)) := (blk_cell h.hg 1).trans rfl
theorem At.c2 (h : At W g b c ex cap p n xs) : W.cell? ⟨g, 2, none⟩ = some (.int .i64 (n : Int)) := (blk_cell h.hg 2).trans rfl
theorem At.cb (h : At W g b c ex cap p n xs) {j : Nat} (hj : j < cap) : W.cell? ⟨b, j, none⟩ = some (.int .i64 (xs.getD j 0)) := by
  have hl := h.len
  refine (blk_cell h.hb j).trans ?_
  simp [List.getD_eq_getElem?_getD, List.getElem?_append_left (show j < (xs.map (Value.int .i64)).length by simp; omega), List.getElem?_eq_getElem (show j < xs.length by omega)]

/-- slot: where the one at a place stands. -/
theorem slot_any (h : At W g b c ex cap p n xs) (i : Int) (h0 : 0 ≤ i) (h1 : i ≤ 8192) (hc : 0 < cap) :
    Calls Try.prog 55 #[.pointer (some ⟨g, 0, none⟩), .int .i64 i] W fun e w' => e = .returned (.int .i64 (((p + i.toNat) % cap : Nat) : Int)) ∧ ∃ k, w' = W.drewN k := by
  have c0 := h.c0
  have c1 := h.c1
  have hr := h.room
  have hp : p ≤ 4096 := by rcases h.p_lt with q | q <;> omega
  have hz : ((cap : Int) == 0) = false := beq_eq_false_iff_ne.2 (by omega)
  go_enter Try.func55, Try.ntmps55
  go_wp2
  go_quiet (fail)
  go_wp2
  go_ret
  refine ⟨?_, _, rfl⟩
  rw [show (((p + i.toNat) % cap : Nat) : Int) = ((p : Int) + i) % (cap : Int) from by rw [Int.natCast_emod]; congr 1; omega]
  rfl

theorem slot_q (h : At W g b c ex cap p n xs) (i q : Nat) (hq : (p + i) % cap = q) (h1 : i ≤ 8192) (hc : 0 < cap) :
    Calls Try.prog 55 #[.pointer (some ⟨g, 0, none⟩), .int .i64 (i : Int)] W fun e w' => e = .returned (.int .i64 (q : Int)) ∧ ∃ k, w' = W.drewN k := by
  subst hq
  exact slot_any h i (by omega) (by omega) hc

theorem full_any (h : At W g b c ex cap p n xs) :
    Calls Try.prog 56 #[.pointer (some ⟨g, 0, none⟩)] W fun e w' => e = .returned (.bool (decide (n = cap))) ∧ ∃ k, w' = W.drewN k := by
  have c0 := h.c0
  have c2 := h.c2
  go_enter Try.func56, Try.ntmps56
  go_wp2
  repeat (go_quiet (fail); try go_wp2)
  go_ret
  refine ⟨?_, _, rfl⟩
  rw [show decide (n = cap) = ((n : Int) == (cap : Int)) from by
    by_cases e : n = cap
    · subst e; simp
    · rw [decide_eq_false e, beq_eq_false_iff_ne.2 (by omega)]]
  rfl

theorem len_any (h : At W g b c ex cap p n xs) :
    Calls Try.prog 54 #[.pointer (some ⟨g, 0, none⟩)] W fun e w' => e = .returned (.int .i64 (n : Int)) ∧ W = w' := by
  have c2 := h.c2
  go_enter Try.func54, Try.ntmps54
  go_wp2
  go_ret
  simp

theorem at_out (h : At W g b c ex cap p n xs) (i : Int) (hi : i < 0 ∨ n ≤ i) :
    Calls Try.prog 57 #[.pointer (some ⟨g, 0, none⟩), .int .i64 i] W fun e w' => e = .returned (.tuple #[.int .i64 0, .bool false]) ∧ ∃ k, w' = W.drewN k := by
  have c2 := h.c2
  by_cases hi0 : i < 0
  · have d0 : decide (i < 0) = true := decide_eq_true hi0
    go_enter Try.func57, Try.ntmps57
    go_wp2
    all_goals go_ret2
    all_goals exact ⟨rfl, 0, rfl⟩
  · have d0 : decide (i < 0) = false := decide_eq_false hi0
    have d1 : decide ((n : Int) ≤ i) = true := decide_eq_true (by omega)
    go_enter Try.func57, Try.ntmps57
    go_wp2
    all_goals go_ret2
    all_goals exact ⟨rfl, 0, rfl⟩
theorem at_in (h : At W g b c ex cap p n xs) (i : Nat) (hi : i < n) :
    Calls Try.prog 57 #[.pointer (some ⟨g, 0, none⟩), .int .i64 (i : Int)] W fun e w' => e = .returned (.tuple #[.int .i64 (xs.getD ((p + i) % cap) 0), .bool true]) ∧ ∃ k, w' = W.drewN k := by
  have c2 := h.c2
  have c0 := h.c0
  have hn := h.n_le
  have hr := h.room
  have hm : (p + i) % cap < cap := Nat.mod_lt _ (by omega)
  have cb := h.cb hm
  have d0 : decide ((i : Int) < 0) = false := decide_eq_false (by omega)
  have d1 : decide (n ≤ i) = false := decide_eq_false (by omega)
  have hx : (0 : Int) ≤ (((p + i) % cap : Nat) : Int) := by omega
  have hy : (((p + i) % cap : Nat) : Int) < (cap : Int) := by omega
  have ht : (((p + i) % cap : Nat) : Int).toNat = (p + i) % cap := rfl
  have hs := fun k => slot_q (h.drewN k) i _ rfl (by omega) (by omega)
  generalize (p + i) % cap = q at *
  go_enter Try.func57, Try.ntmps57
  go_wp2
  go_quiet ((go_at_call 55; exact Calls.quiet_of (hs _)))
  go_wp2
  go_ret2
  exact ⟨by simp, _, rfl⟩
theorem back_full (h : At W g b c ex cap p n xs) (hn : n = cap) (x : Int) :
    Calls Try.prog 43 #[.pointer (some ⟨g, 0, none⟩), .int .i64 x] W fun e w' => e = .returned (.bool false) ∧ ∃ k, w' = W.drewN k := by
  go_enter Try.func43, Try.ntmps43
  go_wp2_with (go_at_call 56; refine (full_any h).mono ?_; rintro e w' ⟨rfl, k, rfl⟩)
  try rw [decide_eq_true hn]
  try go_wp2
  all_goals go_ret
  all_goals exact ⟨rfl, _, rfl⟩
theorem back_any (h : At W g b c ex cap p n xs) (hn : n < cap) (x : Int) :
    Calls Try.prog 43 #[.pointer (some ⟨g, 0, none⟩), .int .i64 x] W fun e w' => e = .returned (.bool true) ∧ Chg (fun k => k = g ∨ k = b) W w' ∧ At w' g b c ex cap p (n + 1) (xs.set ((p + n) % cap) x) := by
  have c2 := h.c2
  have c0 := h.c0
  have hr := h.room
  have hm : (p + n) % cap < cap := Nat.mod_lt _ (by omega)
  have cb := h.cb hm
  have hx : (0 : Int) ≤ (((p + n) % cap : Nat) : Int) := by omega
  have hy : (((p + n) % cap : Nat) : Int) < (cap : Int) := by omega
  have ht : (((p + n) % cap : Nat) : Int).toNat = (p + n) % cap := rfl
  have hs := fun k => slot_q (h.drewN k) n _ rfl (by omega) (by omega)
  have hfb := fun k => blk_frozen h.hb k
  have hg2 := blk_frozen h.hg 2
  have hgb := h.ne
  have hbg := h.ne.symm
  generalize (p + n) % cap = q at *
  go_enter Try.func43, Try.ntmps43
  go_wp2_with (go_at_call 56; refine (full_any h).mono ?_; rintro e w' ⟨rfl, k, rfl⟩)
  rw [decide_eq_false (by omega)]
  go_wp2
  go_region_with (go_at_call 55; refine (hs _).mono ?_; rintro e w' ⟨rfl, k, rfl⟩)
  all_goals go_wp2
  all_goals go_ret
  all_goals exact ⟨rfl, ((Chg.refl _ _).drewN _ |>.set_ (Or.inl (Or.inr rfl)) _).set_ (Or.inl (Or.inl rfl)) _, ((h.drewN _).setX q hm x).setN (n + 1) (by omega)⟩

end
end Go.Proofs.Ytjcjhmnfknenlaa.Rg
