/- What the calls of a row with two ends do to it, as calls on a list. Conditions: the row lies in memory of its own. -/
import Derived.Test.YtjcjhmnfknenlaaProg
import Derived.Test.YtjcjhmnfknenlaaWMore
import Derived.WalkKit
import Derived.KernelRfl
import Derived.Deep.Draws
import Derived.Deep.OwnRows
import Derived.Deep.QuietTactic
import Derived.BigQuiet
import Derived.Deep.RegionWith
import Derived.StillTailTactics
import Derived.Deep.LoopGhost
import Derived.Test.YtjcjhmnfknenlaaAp
import Derived.Test.YtjcjhmnfknenlaaWLast
namespace Go.Proofs.Ytjcjhmnfknenlaa.Rg
open Go.RowKit Go.Proofs.YtjcjhmnfknenlaaW.PrintWords

/-- Only blocks of S, and new ones, have turned. -/
structure Chg (S : Nat → Prop) (w w' : World) : Prop where
  os : w'.os = w.os
  tape : w'.tape = w.tape
  output : w'.output = w.output
  size : w.heap.size ≤ w'.heap.size
  block : ∀ k, k < w.heap.size → ¬ S k → w'.heap[k]? = w.heap[k]?
theorem Chg.refl (S : Nat → Prop) (w : World) : Chg S w w := ⟨rfl, rfl, rfl, Nat.le_refl _, fun _ _ _ => rfl⟩
theorem Chg.drewN {S : Nat → Prop} {w w' : World} (h : Chg S w w') (n : Nat) : Chg S w (w'.drewN n) := ⟨h.os, h.tape, h.output, h.size, h.block⟩
theorem Chg.drew {S : Nat → Prop} {w w' : World} (h : Chg S w w') : Chg S w w'.drew := ⟨h.os, h.tape, h.output, h.size, h.block⟩
theorem Chg.set_ {S : Nat → Prop} {w w' : World} (h : Chg S w w') {p : Addr} (hp : S p.block ∨ w.heap.size ≤ p.block) (u : Value) : Chg S w (w'.setCell p u) :=
  ⟨h.os, h.tape, h.output, by simpa [World.setCell] using h.size, fun k hk hs => (Below.heap_setCell w' p u k (by
    rintro rfl
    rcases hp with hp | hp
    · exact hs hp
    · omega)).trans (h.block k hk hs)⟩
theorem Chg.trans {S : Nat → Prop} {a b c : World} (h : Chg S a b) (k : Chg S b c) : Chg S a c :=
  ⟨k.os.trans h.os, k.tape.trans h.tape, k.output.trans h.output, Nat.le_trans h.size k.size, fun i hi hs => (k.block i (Nat.lt_of_lt_of_le hi h.size) hs).trans (h.block i hi hs)⟩
theorem Chg.of_below {S : Nat → Prop} {w w' : World} (h : Below w.heap.size w w') : Chg S w w' := ⟨h.os, h.tape, h.output, h.size, fun k hk _ => h.block k hk⟩
theorem Chg.below {S : Nat → Prop} {B : Nat} {w0 w w' : World} (hb : Below B w0 w) (h : Chg S w w') (hB : B ≤ w.heap.size) (hs : ∀ k, S k → B ≤ k) : Below B w0 w' :=
  hb.trans ⟨h.os, h.tape, h.output, h.size, fun k hk => h.block k (by omega) (fun q => by have := hs k q; omega)⟩
theorem Chg.alloc {S : Nat → Prop} {w w' : World} (h : Chg S w w') (o : Obj) : Chg S w (w'.alloc o) :=
  ⟨h.os, h.tape, h.output, Nat.le_trans h.size (by simp), fun k hk hs => (Below.heap_alloc w' o k (Nat.lt_of_lt_of_le hk h.size)).trans (h.block k hk hs)⟩

/-- A row: its header in block g, its slots in block b: cap of them; n are taken, from p on. -/
structure At (W : World) (g b c : Nat) (ex : List Value) (cap p n : Nat) (xs : List Int) : Prop where
  hg : W.heap[g]? = some (.cells #[.slice (some ⟨b, 0, none⟩) cap c, .int .i64 (p : Int), .int .i64 (n : Int)] 80 (0, 0))
  hb : W.heap[b]? = some (.cells (xs.map (Value.int .i64) ++ ex).toArray 3 (0, 0))
  len : xs.length = cap
  room : cap ≤ 4096
  n_le : n ≤ cap
  p_lt : p < cap ∨ cap = 0 ∧ p = 0
  cap_le : cap ≤ c
theorem At.ne {W : World} {g b cap p n c : Nat} {xs : List Int} {ex : List Value} (h : At W g b c ex cap p n xs) : g ≠ b := by
  intro e
  have h1 := h.hg
  have h2 := h.hb
  rw [e, h2] at h1
  injection h1 with h1
  injection h1 with _ ht
  exact absurd ht (by decide)
theorem At.kept {W W' : World} {g b cap p n c : Nat} {xs : List Int} {ex : List Value} (h : At W g b c ex cap p n xs) {S : Nat → Prop} (hc : Chg S W W') (h1 : ¬ S g) (h2 : ¬ S b) : At W' g b c ex cap p n xs :=
  ⟨(hc.block g (blk_lt h.hg) h1).trans h.hg, (hc.block b (blk_lt h.hb) h2).trans h.hb, h.len, h.room, h.n_le, h.p_lt, h.cap_le⟩
theorem At.drewN {W : World} {g b cap p n c : Nat} {xs : List Int} {ex : List Value} (h : At W g b c ex cap p n xs) (k : Nat) : At (W.drewN k) g b c ex cap p n xs := ⟨h.hg, h.hb, h.len, h.room, h.n_le, h.p_lt, h.cap_le⟩
theorem At.setN {W : World} {g b cap p n c : Nat} {xs : List Int} {ex : List Value} (h : At W g b c ex cap p n xs) (m : Nat) (hm : m ≤ cap) : At (W.setCell ⟨g, 2, none⟩ (.int .i64 (m : Int))) g b c ex cap p m xs :=
  ⟨blk_put h.hg 2 _ rfl, blk_far h.hb h.ne.symm _, h.len, h.room, hm, h.p_lt, h.cap_le⟩
theorem At.setP {W : World} {g b cap p n c : Nat} {xs : List Int} {ex : List Value} (h : At W g b c ex cap p n xs) (m : Nat) (hm : m < cap) : At (W.setCell ⟨g, 1, none⟩ (.int .i64 (m : Int))) g b c ex cap m n xs :=
  ⟨blk_put h.hg 1 _ rfl, blk_far h.hb h.ne.symm _, h.len, h.room, h.n_le, Or.inl hm, h.cap_le⟩
theorem At.setX {W : World} {g b cap p n c : Nat} {xs : List Int} {ex : List Value} (h : At W g b c ex cap p n xs) (q : Nat) (hq : q < cap) (x : Int) : At (W.setCell ⟨b, q, none⟩ (.int .i64 x)) g b c ex cap p n (xs.set q x) :=
  ⟨blk_far h.hg h.ne _, blk_put h.hb q _ (by have := h.len; simp [List.set_append_left _ _ (show q < (xs.map (Value.int .i64)).length by simp; omega), ← List.map_set]), by simpa using h.len, h.room, h.n_le, h.p_lt, h.cap_le⟩
/-- What stands in it, in order. -/
def elems (cap p n : Nat) (xs : List Int) : List Int := (List.range n).map fun i => xs.getD ((p + i) % cap) 0
theorem elems_len (cap p n : Nat) (xs : List Int) : (elems cap p n xs).length = n := by simp [elems]

section
variable {W : World} {g b cap p n c : Nat} {xs : List Int} {ex : List Value}
theorem At.c0 (h : At W g b c ex cap p n xs) : W.cell? ⟨g, 0, none⟩ = some (.slice (some ⟨b, 0, none⟩) cap c) := (blk_cell h.hg 0).trans rfl
theorem At.c1 (h : At W g b c ex cap p n xs) : W.cell? ⟨g, 1, none⟩ = some (.int .i64 (p : Int)) := (blk_cell h.hg 1).trans rfl
theorem At.c2 (h : At W g b c ex cap p n xs) : W.cell? ⟨g, 2, none⟩ = some (.int .i64 (n : Int)) := (blk_cell h.hg 2).trans rfl
theorem At.cb (h : At W g b c ex cap p n xs) {j : Nat} (hj : j < cap) : W.cell? ⟨b, j, none⟩ = some (.int .i64 (xs.getD j 0)) := by
  have hl := h.len
  refine (blk_cell h.hb j).trans ?_
  simp [List.getD_eq_getElem?_getD, List.getElem?_append_left (show j < (xs.map (Value.int .i64)).length by simp; omega), List.getElem?_eq_getElem (show j < xs.length by omega)]

/-- slot: where the one at a place stands. -/
theorem slot_any (h : At W g b c ex cap p n xs) (i : Int) (h0 : 0 ≤ i) (h1 : i ≤ 8192) (hc : 0 < cap) :
    Calls Try.prog 55 #[.pointer (some ⟨g, 0, none⟩), .int .i64 i] W fun e w' => e = .returned (.int .i64 (((p + i.toNat) % cap : Nat) : Int)) ∧ ∃ k, w' = W.drewN k := by
  have c0 := h.c0
  have c1 := h.c1
  have hr := h.room
  have hp : p ≤ 4096 := by rcases h.p_lt with q | q <;> omega
  have hz : ((cap : Int) == 0) = false := beq_eq_false_iff_ne.2 (by omega)
  go_enter Try.func55, Try.ntmps55
  go_wp2
  go_quiet (fail)
  go_wp2
  go_ret
  refine ⟨?_, _, rfl⟩
  rw [show (((p + i.toNat) % cap : Nat) : Int) = ((p : Int) + i) % (cap : Int) from by rw [Int.natCast_emod]; congr 1; omega]
  rfl

theorem slot_q (h : At W g b c ex cap p n xs) (i q : Nat) (hq : (p + i) % cap = q) (h1 : i ≤ 8192) (hc : 0 < cap) :
    Calls Try.prog 55 #[.pointer (some ⟨g, 0, none⟩), .int .i64 (i : Int)] W fun e w' => e = .returned (.int .i64 (q : Int)) ∧ ∃ k, w' = W.drewN k := by
  subst hq
  exact slot_any h i (by omega) (by omega) hc

theorem full_any (h : At W g b c ex cap p n xs) :
    Calls Try.prog 56 #[.pointer (some ⟨g, 0, none⟩)] W fun e w' => e = .returned (.bool (decide (n = cap))) ∧ ∃ k, w' = W.drewN k := by
  have c0 := h.c0
  have c2 := h.c2
  go_enter Try.func56, Try.ntmps56
  go_wp2
  repeat (go_quiet (fail); try go_wp2)
  go_ret
  refine ⟨?_, _, rfl⟩
  rw [show decide (n = cap) = ((n : Int) == (cap : Int)) from by
    by_cases e : n = cap
    · subst e; simp
    · rw [decide_eq_false e, beq_eq_false_iff_ne.2 (by omega)]]
  rfl

theorem len_any (h : At W g b c ex cap p n xs) :
    Calls Try.prog 54 #[.pointer (some ⟨g, 0, none⟩)] W fun e w' => e = .returned (.int .i64 (n : Int)) ∧ W = w' := by
  have c2 := h.c2
  go_enter Try.func54, Try.ntmps54
  go_wp2
  go_ret
  simp

theorem at_out (h : At W g b c ex cap p n xs) (i : Int) (hi : i < 0 ∨ n ≤ i) :
    Calls Try.prog 57 #[.pointer (some ⟨g, 0, none⟩), .int .i64 i] W fun e w' => e = .returned (.tuple #[.int .i64 0, .bool false]) ∧ ∃ k, w' = W.drewN k := by
  have c2 := h.c2
  by_cases hi0 : i < 0
  · have d0 : decide (i < 0) = true := decide_eq_true hi0
    go_enter Try.func57, Try.ntmps57
    go_wp2
    all_goals go_ret2
    all_goals exact ⟨rfl, 0, rfl⟩
  · have d0 : decide (i < 0) = false := decide_eq_false hi0
    have d1 : decide ((n : Int) ≤ i) = true := decide_eq_true (by omega)
    go_enter Try.func57, Try.ntmps57
    go_wp2
    all_goals go_ret2
    all_goals exact ⟨rfl, 0, rfl⟩
theorem at_in (h : At W g b c ex cap p n xs) (i : Nat) (hi : i < n) :
    Calls Try.prog 57 #[.pointer (some ⟨g, 0, none⟩), .int .i64 (i : Int)] W fun e w' => e = .returned (.tuple #[.int .i64 (xs.getD ((p + i) % cap) 0), .bool true]) ∧ ∃ k, w' = W.drewN k := by
  have c2 := h.c2
  have c0 := h.c0
  have hn := h.n_le
  have hr := h.room
  have hm : (p + i) % cap < cap := Nat.mod_lt _ (by omega)
  have cb := h.cb hm
  have d0 : decide ((i : Int) < 0) = false := decide_eq_false (by omega)
  have d1 : decide (n ≤ i) = false := decide_eq_false (by omega)
  have hx : (0 : Int) ≤ (((p + i) % cap : Nat) : Int) := by omega
  have hy : (((p + i) % cap : Nat) : Int) < (cap : Int) := by omega
  have ht : (((p + i) % cap : Nat) : Int).toNat = (p + i) % cap := rfl
  have hs := fun k => slot_q (h.drewN k) i _ rfl (by omega) (by omega)
  generalize (p + i) % cap = q at *
  go_enter Try.func57, Try.ntmps57
  go_wp2
  go_quiet ((go_at_call 55; exact Calls.quiet_of (hs _)))
  go_wp2
  go_ret2
  exact ⟨by simp, _, rfl⟩
theorem back_full (h : At W g b c ex cap p n xs) (hn : n = cap) (x : Int) :
    Calls Try.prog 43 #[.pointer (some ⟨g, 0, none⟩), .int .i64 x] W fun e w' => e = .returned (.bool false) ∧ ∃ k, w' = W.drewN k := by
  go_enter Try.func43, Try.ntmps43
  go_wp2_with (go_at_call 56; refine (full_any h).mono ?_; rintro e w' ⟨rfl, k, rfl⟩)
  try rw [decide_eq_true hn]
  try go_wp2
  all_goals go_ret
  all_goals exact ⟨rfl, _, rfl⟩
theorem back_any (h : At W g b c ex cap p n xs) (hn : n < cap) (x : Int) :
    Calls Try.prog 43 #[.pointer (some ⟨g, 0, none⟩), .int .i64 x] W fun e w' => e = .returned (.bool true) ∧ Chg (fun k => k = g ∨ k = b) W w' ∧ At w' g b c ex cap p (n + 1) (xs.set ((p + n) % cap) x) := by
  have c2 := h.c2
  have c0 := h.c0
  have hr := h.room
  have hm : (p + n) % cap < cap := Nat.mod_lt _ (by omega)
  have cb := h.cb hm
  have hx : (0 : Int) ≤ (((p + n) % cap : Nat) : Int) := by omega
  have hy : (((p + n) % cap : Nat) : Int) < (cap : Int) := by omega
  have ht : (((p + n) % cap : Nat) : Int).toNat = (p + n) % cap := rfl
  have hs := fun k => slot_q (h.drewN k) n _ rfl (by omega) (by omega)
  have hfb := fun k => blk_frozen h.hb k
  have hg2 := blk_frozen h.hg 2
  have hgb := h.ne
  have hbg := h.ne.symm
  generalize (p + n) % cap = q at *
  go_enter Try.func43, Try.ntmps43
  go_wp2_with (go_at_call 56; refine (full_any h).mono ?_; rintro e w' ⟨rfl, k, rfl⟩)
  rw [decide_eq_false (by omega)]
  go_wp2
  go_region_with (go_at_call 55; refine (hs _).mono ?_; rintro e w' ⟨rfl, k, rfl⟩)
  all_goals go_wp2
  all_goals go_ret
  all_goals exact ⟨rfl, ((Chg.refl _ _).drewN _ |>.set_ (Or.inl (Or.inr rfl)) _).set_ (Or.inl (Or.inl rfl)) _, ((h.drewN _).setX q hm x).setN (n + 1) (by omega)⟩

end
end Go.Proofs.Ytjcjhmnfknenlaa.Rg
namespace Go.Proofs.Ytjcjhmnfknenlaa.Rg
open Go.RowKit Go.Proofs.YtjcjhmnfknenlaaW.PrintWords


section
variable {W : World} {g b cap p n c : Nat} {xs : List Int} {ex : List Value}
theorem popback_none (h : At W g b c ex cap p 0 xs) :
    Calls Try.prog 46 #[.pointer (some ⟨g, 0, none⟩)] W fun e w' => e = .returned (.tuple #[.int .i64 0, .bool false]) ∧ ∃ k, w' = W.drewN k := by
  go_enter Try.func46, Try.ntmps46
  go_wp2_with (first | (go_at_call 54; refine (len_any h).mono ?_; rintro e w' ⟨rfl, rfl⟩) | (go_at_call 57; refine (at_out h _ (by omega)).mono ?_; rintro e w' ⟨rfl, k1, rfl⟩))
  go_ret2
  exact ⟨rfl, _, rfl⟩
theorem popback_some (h : At W g b c ex cap p n xs) (hn : 0 < n) :
    Calls Try.prog 46 #[.pointer (some ⟨g, 0, none⟩)] W fun e w' => e = .returned (.tuple #[.int .i64 (xs.getD ((p + (n - 1)) % cap) 0), .bool true]) ∧ Chg (fun k => k = g ∨ k = b) W w' ∧ At w' g b c ex cap p (n - 1) xs := by
  have hr := h.room
  have hl := h.n_le
  have c2 := h.c2
  have hg2 := blk_frozen h.hg 2
  have ha := fun k => at_in (h.drewN k) (n - 1) (by omega)
  rw [show ((n - 1 : Nat) : Int) = (n : Int) - 1 by omega] at ha
  generalize xs.getD ((p + (n - 1)) % cap) 0 = y at *
  go_enter Try.func46, Try.ntmps46
  go_wp2_with (first | (go_at_call 54; refine (len_any h).mono ?_; rintro e w' ⟨rfl, rfl⟩) | (go_at_call 57; refine (ha 0).mono ?_; rintro e w' ⟨rfl, k1, rfl⟩))
  go_ret2
  refine ⟨rfl, ?_, ?_⟩
  · exact ((Chg.refl _ _).drewN _).set_ (Or.inl (Or.inl rfl)) _
  · have := (h.drewN k1).setN (n - 1) (by omega)
    rwa [show ((n - 1 : Nat) : Int) = (n : Int) - 1 by omega] at this
theorem popfront_none (h : At W g b c ex cap p 0 xs) :
    Calls Try.prog 47 #[.pointer (some ⟨g, 0, none⟩)] W fun e w' => e = .returned (.tuple #[.int .i64 0, .bool false]) ∧ ∃ k, w' = W.drewN k := by
  go_enter Try.func47, Try.ntmps47
  go_wp2_with (first | (go_at_call 57; refine (at_out h _ (by omega)).mono ?_; rintro e w' ⟨rfl, k1, rfl⟩))
  go_ret2
  exact ⟨rfl, _, rfl⟩
theorem popfront_some (h : At W g b c ex cap p n xs) (hn : 0 < n) :
    Calls Try.prog 47 #[.pointer (some ⟨g, 0, none⟩)] W fun e w' => e = .returned (.tuple #[.int .i64 (xs.getD (p % cap) 0), .bool true]) ∧ Chg (fun k => k = g ∨ k = b) W w' ∧ At w' g b c ex cap ((p + 1) % cap) (n - 1) xs := by
  have hr := h.room
  have hl := h.n_le
  have c2 := h.c2
  have hg2 := blk_frozen h.hg 2
  have hg1 := blk_frozen h.hg 1
  have c1 := h.c1
  have ha := at_in h 0 hn
  have hm : (p + 1) % cap < cap := Nat.mod_lt _ (by omega)
  have hs := fun k => slot_q (h.drewN k) 1 _ rfl (by omega) (by omega)
  simp only [Nat.add_zero] at ha
  generalize xs.getD (p % cap) 0 = y at *
  generalize (p + 1) % cap = q at *
  go_enter Try.func47, Try.ntmps47
  go_wp2_with (first | (go_at_call 57; refine ha.mono ?_; rintro e w' ⟨rfl, k1, rfl⟩) | (go_at_call 55; refine (hs _).mono ?_; rintro e w' ⟨rfl, k2, rfl⟩))
  go_ret2
  refine ⟨rfl, ?_, ?_⟩
  · exact (((Chg.refl _ _).drewN _).set_ (Or.inl (Or.inl rfl)) _).set_ (Or.inl (Or.inl rfl)) _
  · have := ((h.drewN (k1 + k2)).setP q hm).setN (n - 1) (by omega)
    rwa [show ((n - 1 : Nat) : Int) = (n : Int) - 1 by omega] at this
end
end Go.Proofs.Ytjcjhmnfknenlaa.Rg
namespace Go.Proofs.Ytjcjhmnfknenlaa.Rg
open Go.RowKit Go.Proofs.YtjcjhmnfknenlaaW.PrintWords Go.Proofs.YtjcjhmnfknenlaaW.PrintLast Go.Proofs.YtjcjhmnfknenlaaW.PrintMore Ap
attribute [local go_sem] max2_int min2_int max_two min_two max_three min_three max_four min_four
theorem info3 : (Try.prog.info? 3).map (fun i => (i.zero, i.size, i.bytes)) = some (some (.int .i64 0), 1, 8) := by kernel_rfl

section
variable {W : World} {g b cap p n c : Nat} {xs : List Int} {ex : List Value}

theorem At.reads (h : At W g b c ex cap p n xs) : ReadsInt W .i64 (some ⟨b, 0, none⟩) cap xs :=
  ⟨h.len, by have := h.room; omega, fun _ => ⟨_, rfl, fun j hj => by rw [add_plain]; simpa using h.cb hj⟩⟩

theorem made_at (W : World) (c : Nat) (hc : c ≤ 4096) : At ((W.alloc (.cells (madeCells #[.int .i64 0] c) 3)).alloc (.cells #[.slice (some ⟨W.heap.size, 0, none⟩) c c, .int .i64 0, .int .i64 0] 80)) (W.heap.size + 1) W.heap.size c [] c 0 0 (List.replicate c 0) := by
  have e : madeCells #[Value.int .i64 0] c = ((List.replicate c (0 : Int)).map (Value.int .i64) ++ []).toArray := by
    apply Array.ext'
    apply List.ext_getElem
    · simp [madeCells]
    · intro i h1 h2
      simp [madeCells, Nat.mod_one]
  refine ⟨?_, ?_, by simp, hc, by omega, by omega, Nat.le_refl _⟩
  · have := heap_alloc_new (W.alloc (.cells (madeCells #[.int .i64 0] c) 3)) (.cells #[.slice (some ⟨W.heap.size, 0, none⟩) c c, .int .i64 0, .int .i64 0] 80)
    simpa using this
  · rw [← e]
    exact blk_alloc (heap_alloc_new W _) _

set_option maxRecDepth 100000 in
theorem new_any (W : World) (room : Int) (c : Nat) (hc : (c : Int) = min (max room 0) 4096) :
    Calls Try.prog 26 #[.int .i64 room] W fun e w' => ∃ g b, e = .returned (.pointer (some ⟨g, 0, none⟩)) ∧ Below W.heap.size W w' ∧ At w' g b c [] c 0 0 (List.replicate c 0) ∧ W.heap.size ≤ g ∧ W.heap.size ≤ b := by
  have h1 : c ≤ 4096 := by omega
  have hm := print_make 38 3 .i64 8 Try.underlying38 info3 (by decide) c (by omega)
  have fin : ∃ g b, (Ending.returned (.pointer (some ⟨W.heap.size + 1, 0, none⟩))) = .returned (.pointer (some ⟨g, 0, none⟩)) ∧ Below W.heap.size W ((W.alloc (.cells (madeCells #[.int .i64 0] c) 3)).alloc (.cells #[.slice (some ⟨W.heap.size, 0, none⟩) c c, .int .i64 0, .int .i64 0] 80)) ∧ At ((W.alloc (.cells (madeCells #[.int .i64 0] c) 3)).alloc (.cells #[.slice (some ⟨W.heap.size, 0, none⟩) c c, .int .i64 0, .int .i64 0] 80)) g b c [] c 0 0 (List.replicate c 0) ∧ W.heap.size ≤ g ∧ W.heap.size ≤ b :=
    ⟨_, _, rfl, below_alloc (below_alloc (Below.refl _ _) _) _, made_at W c h1, by simp, by simp⟩
  by_cases r0 : room < 0
  · have e : (c : Int) = 0 := by omega
    rw [e] at hm
    have r1 : (room < 0) = True := eq_true r0
    go_enter Try.func26, Try.ntmps26
    go_wp2
    go_ret
    exact fin
  · have r1 : (room < 0) = False := eq_false r0
    rcases Int.lt_trichotomy room 4096 with r2 | r2 | r2
    · have e : (c : Int) = room := by omega
      rw [e] at hm
      have r3 : (room < 4096) = True := eq_true r2
      have r4 : (4096 < room) = False := eq_false (by omega)
      go_enter Try.func26, Try.ntmps26
      go_wp2
      go_ret
      first | exact fin | (obtain ⟨g, b, f1, f2, f3⟩ := fin; exact ⟨g, f1, f2, b, f3⟩)
    · have e : (c : Int) = 4096 := by omega
      rw [e] at hm
      subst r2
      go_enter Try.func26, Try.ntmps26
      go_wp2
      go_ret
      first | exact fin | (obtain ⟨g, b, f1, f2, f3⟩ := fin; exact ⟨g, f1, f2, b, f3⟩)
    · have e : (c : Int) = 4096 := by omega
      rw [e] at hm
      have r3 : (room < 4096) = False := eq_false (by omega)
      have r4 : (4096 < room) = True := eq_true r2
      go_enter Try.func26, Try.ntmps26
      go_wp2
      go_ret
      first | exact fin | (obtain ⟨g, b, f1, f2, f3⟩ := fin; exact ⟨g, f1, f2, b, f3⟩)

theorem clone_any (h : At W g b c ex cap p n xs) :
    Calls Try.prog 42 #[.pointer (some ⟨g, 0, none⟩)] W fun e w' => ∃ g' b' c' ex', e = .returned (.pointer (some ⟨g', 0, none⟩)) ∧ Below W.heap.size W w' ∧ At w' g' b' c' ex' cap p n xs ∧ W.heap.size ≤ g' ∧ W.heap.size ≤ b' := by
  have c0 := h.c0
  have c1 := h.c1
  have c2 := h.c2
  have hf := blk_frozen h.hg
  have hl := blk_lt h.hg
  have hr := (h.reads.allocS (.cells #[.slice (some ⟨b, 0, none⟩) cap c, .int .i64 (p : Int), .int .i64 (n : Int)] 80)).allocS (.cells #[] 3)
  have hrm := h.room
  generalize hW1 : (W.alloc (.cells #[.slice (some ⟨b, 0, none⟩) cap c, .int .i64 (p : Int), .int .i64 (n : Int)] 80)).alloc (.cells #[] 3) = W1 at hr
  have hB1 : Below W.heap.size W W1 := by rw [← hW1]; exact below_alloc (below_alloc (Below.refl _ _) _) _
  have hs1 : W1.heap.size = W.heap.size + 2 := by rw [← hW1]; simp
  have hO1 : W1.ownsRow W.heap.size 3 1 (.slice (some ⟨W.heap.size + 1, 0, none⟩) 0 0) ([] : List Int).length (nums .i64 []) := by rw [← hW1]; exact own_new_at _ W.heap.size (W.heap.size + 1) 3 .i64 (by simp) (by omega)
  have hG1 : W1.heap[W.heap.size]? = some (.cells #[.slice (some ⟨b, 0, none⟩) cap c, .int .i64 (p : Int), .int .i64 (n : Int)] 80) := by rw [← hW1]; exact blk_alloc (heap_alloc_new W _) _
  have k0 := (h.kept (Chg.of_below hB1 (S := fun _ => False)) id id).c0
  go_enter Try.func42, Try.ntmps42
  go_wp2_with (at_builtin; refine list_app rfl (.tmp 9) (.tmp 13) 38 3 rfl W.heap.size .i64 8 Try.underlying38 info3 (by decide) (.slice (some ⟨W.heap.size + 1, 0, none⟩) 0 0) [] xs (some ⟨b, 0, none⟩) cap c rfl rfl hO1 hr (by omega) (by simp; omega) ?_; intro v1 w1 hown hg hat; obtain ⟨A1, c1, rfl⟩ := own_slice hown; have hG2 := (hg.block _ (blk_lt hG1) (by simp [Value.ownBlock])).trans hG1; have q0 := blk_cell hG2 0; have f0 := blk_frozen hG2 0)
  go_ret
  have hn0 : ([] ++ xs).length = cap := h.len
  have hne : ∃ j, (Value.slice A1 xs.length c1).ownBlock = some j ∧ W.heap.size + 1 ≤ j := by
    rcases hat with q | q
    · exact ⟨_, q, Nat.le_refl _⟩
    · exact ⟨_, q, by omega⟩
  obtain ⟨j, hj, hjl⟩ := hne
  obtain ⟨rfl, hbj, hcj, ex', hbk⟩ := own_block hown hj
  rw [show xs.length = cap from h.len]
  refine ⟨_, j, c1, ex', rfl, ?_, ⟨?_, ?_, h.len, h.room, h.n_le, h.p_lt, ?_⟩, Nat.le_refl _, by omega⟩
  · exact below_set ((hB1.grown hg (by omega) (fun k hk => by have : k = W.heap.size + 1 := by simpa [Value.ownBlock] using hk.symm
                                                              omega))) (Nat.le_refl _)
  · exact blk_put hG2 0 _ rfl
  · exact blk_far hbk (by show j ≠ W.heap.size; omega) _
  · have := h.len
    simp at hcj
    omega
end
end Go.Proofs.Ytjcjhmnfknenlaa.Rg
namespace Go.Proofs.Ytjcjhmnfknenlaa.Rg
open Go.RowKit Go.Proofs.YtjcjhmnfknenlaaW.PrintWords Go.Proofs.YtjcjhmnfknenlaaW.PrintLast Go.Proofs.YtjcjhmnfknenlaaW.PrintMore Ap

section
variable {W : World} {g b cap p n c : Nat} {xs : List Int} {ex : List Value}

theorem elems_take_succ (cap p : Nat) (xs : List Int) (i : Nat) : elems cap p (i + 1) xs = elems cap p i xs ++ [xs.getD ((p + i) % cap) 0] := by
  simp [elems, List.range_succ]

theorem all_any (h : At W g b c ex cap p n xs) :
    Calls Try.prog 40 #[.pointer (some ⟨g, 0, none⟩)] W fun e w' => ∃ v, e = .returned v ∧ Below W.heap.size W w' ∧ w'.ownsRow W.heap.size 3 1 v (elems cap p n xs).length (nums .i64 (elems cap p n xs)) := by
  have hn := h.n_le
  have hr := h.room
  go_enter Try.func40, Try.ntmps40
  go_wp2_with (go_at_call 54; refine (len_any h).mono ?_; rintro e w' ⟨rfl, rfl⟩)
  go_loopg [3, 7] n (fun d v3 v7 w' => ∃ i : Nat, d + i = n ∧ v7 = .int .i64 (i : Int) ∧ Below W.heap.size W w' ∧ w'.ownsRow W.heap.size 3 1 v3 (elems cap p i xs).length (nums .i64 (elems cap p i xs)))
  case atStart => exact ⟨0, by omega, rfl, Below.refl _ _, ⟨rfl, .inl ⟨rfl, rfl⟩⟩⟩
  case round =>
    obtain ⟨i, hd, rfl, HB, HO⟩ := hrel
    have h1 := h.kept (Chg.of_below HB (S := fun _ => False)) id id
    rcases gk with _ | d
    · obtain rfl : i = n := by omega
      go_wp2
      go_ret
      exact ⟨_, rfl, HB, HO⟩
    · have hin : i < n := by omega
      have d1 : decide ((i : Int) < (n : Int)) = true := decide_eq_true (by omega)
      have e1 : IntKind.i64.wrap ((i : Int) + 1) = ((i + 1 : Nat) : Int) := by rw [i64_w]; unfold wrap64; omega
      have c0 := h1.c0
      have hm : (p + i) % cap < cap := Nat.mod_lt _ (by omega)
      have hs := fun k => slot_q (h1.drewN k) i _ rfl (by omega) (by omega)
      have cb := h1.cb hm
      have hx : (0 : Int) ≤ (((p + i) % cap : Nat) : Int) := by omega
      have hy : (((p + i) % cap : Nat) : Int) < (cap : Int) := by omega
      have ht : (((p + i) % cap : Nat) : Int).toNat = (p + i) % cap := rfl
      have hE := elems_take_succ cap p xs i
      have hlen := elems_len cap p i xs
      generalize (p + i) % cap = q at *
      generalize xs.getD q 0 = y at *
      generalize elems cap p i xs = es at *
      go_wp2
      go_region_law (first
        | (refine goes_ Try.func55 (by kernel_rfl) rfl #[.pointer (some ⟨g, 0, none⟩), .int .i64 (i : Int)] (by rfl) rfl rfl (by simp [Act.eval, Act.put]) ?_; refine (hs _).mono ?_; rintro e w' ⟨rfl, k, rfl⟩; refine ⟨_, rfl, ?_⟩)
        | (refine step_app rfl (.tmp 10) (.tmp 20) 38 3 rfl W.heap.size .i64 8 Try.underlying38 info3 (by decide) u3 es [y] (some ⟨wr.heap.size, 0, none⟩) 1 1 rfl rfl (by first | exact (own_drewN HO _).alloc _ | exact HO.alloc _) (by exact ReadsInt.one_at _ _ _ _ _ (by simp)) (by have := HB.size; simp; omega) (by omega) ?_; intro v1 w1 hown hg hat))
      all_goals
        go_wp2
        go_roundg d
        case measure => omega
        case rel =>
          refine ⟨i + 1, by omega, by simp, ?_, by rw [hE]; exact hown⟩
          exact (below_alloc (pw_below_drewN HB _) _).grown hg (by have := HB.size; simp; omega) (own_base HO)
end
end Go.Proofs.Ytjcjhmnfknenlaa.Rg
namespace Go.Proofs.Ytjcjhmnfknenlaa.Rg
open Go.RowKit Go.Proofs.YtjcjhmnfknenlaaW.PrintWords Go.Proofs.YtjcjhmnfknenlaaW.PrintLast Go.Proofs.YtjcjhmnfknenlaaW.PrintMore Ap
set_option linter.unusedSimpArgs false
set_option linter.unusedVariables false

/-! ### The list behind the slots -/
theorem mod_ne {cap p i j : Nat} (hi : i < cap) (hj : j < cap) (h : i ≠ j) : (p + i) % cap ≠ (p + j) % cap := by
  intro e
  have h1 := Nat.div_add_mod (p + i) cap
  have h2 := Nat.div_add_mod (p + j) cap
  rw [e] at h1
  have h3 : cap * ((p + i) / cap) + j = cap * ((p + j) / cap) + i := by omega
  rcases Nat.lt_trichotomy ((p + i) / cap) ((p + j) / cap) with q | q | q
  · have := Nat.mul_le_mul_left cap q
    rw [Nat.mul_succ] at this
    omega
  · rw [q] at h3; omega
  · have := Nat.mul_le_mul_left cap q
    rw [Nat.mul_succ] at this
    omega
theorem elems_get {cap p n : Nat} {xs : List Int} {i : Nat} (hi : i < n) : (elems cap p n xs).getD i 0 = xs.getD ((p + i) % cap) 0 := by
  simp [elems, List.getD_eq_getElem?_getD, hi]
theorem elems_congr {cap p n : Nat} {xs ys : List Int} (h : ∀ i, i < n → xs.getD ((p + i) % cap) 0 = ys.getD ((p + i) % cap) 0) : elems cap p n xs = elems cap p n ys := by
  unfold elems
  apply List.map_congr_left
  intro i hi
  exact h i (List.mem_range.1 hi)
theorem elems_back {cap p n : Nat} {xs : List Int} (hl : xs.length = cap) (hn : n < cap) (x : Int) : elems cap p (n + 1) (xs.set ((p + n) % cap) x) = elems cap p n xs ++ [x] := by
  have hm : (p + n) % cap < cap := Nat.mod_lt _ (by omega)
  rw [elems_take_succ]
  congr 1
  · apply elems_congr
    intro i hi
    have := mod_ne (p := p) (show i < cap by omega) hn (by omega)
    simp [List.getD_eq_getElem?_getD, List.getElem?_set, Ne.symm this]
  · simp [List.getD_eq_getElem?_getD, List.getElem?_set, hl, hm]
theorem elems_front {cap p n : Nat} {xs : List Int} (hl : xs.length = cap) (hn : n < cap) (x : Int) :
    elems cap ((p + (cap - 1)) % cap) (n + 1) (xs.set ((p + (cap - 1)) % cap) x) = x :: elems cap p n xs := by
  have hm : (p + (cap - 1)) % cap < cap := Nat.mod_lt _ (by omega)
  have hs : ∀ i, ((p + (cap - 1)) % cap + i) % cap = (p + (cap - 1) + i) % cap := fun i => by rw [Nat.mod_add_mod]
  have h1 : ∀ i, ((p + (cap - 1)) % cap + (i + 1)) % cap = (p + i) % cap := fun i => by
    rw [hs, show p + (cap - 1) + (i + 1) = p + i + cap by omega, Nat.add_mod_right]
  unfold elems
  rw [List.range_succ_eq_map, List.map_cons, List.map_map]
  congr 1
  · rw [Nat.add_zero, Nat.mod_mod]
    simp [List.getD_eq_getElem?_getD, List.getElem?_set, hl, hm]
  · apply List.map_congr_left
    intro i hi
    have hi := List.mem_range.1 hi
    simp only [Function.comp, Nat.succ_eq_add_one, h1]
    have : (p + (cap - 1)) % cap ≠ (p + i) % cap := mod_ne (by omega) (by omega) (by omega)
    simp [List.getD_eq_getElem?_getD, List.getElem?_set, this]
theorem elems_popback {cap p n : Nat} {xs : List Int} (hn : 0 < n) : elems cap p (n - 1) xs = (elems cap p n xs).take (n - 1) := by
  unfold elems
  rw [← List.map_take, List.take_range]
  congr 2
  omega
theorem elems_popfront {cap p n : Nat} {xs : List Int} (hn : 0 < n) : elems cap ((p + 1) % cap) (n - 1) xs = (elems cap p n xs).drop 1 := by
  obtain ⟨m, rfl⟩ : ∃ m, n = m + 1 := ⟨n - 1, by omega⟩
  unfold elems
  rw [List.range_succ_eq_map, List.map_cons, List.map_map]
  simp only [List.drop_succ_cons, List.drop_zero, Nat.add_sub_cancel]
  apply List.map_congr_left
  intro i _
  simp only [Function.comp, Nat.succ_eq_add_one]
  rw [Nat.mod_add_mod, show p + 1 + i = p + (i + 1) by omega]

/-- The page's call, on a list. -/
def refDo (l : List Int) (room kd x : Int) : List Int × Int × Bool :=
  if kd = 0 then (if room ≤ (l.length : Int) then (l, 0, false) else (l ++ [x], 0, true))
  else if kd = 1 then (if room ≤ (l.length : Int) then (l, 0, false) else (x :: l, 0, true))
  else if kd = 2 then (if l.length = 0 then (l, 0, false) else (l.take (l.length - 1), l.getD (l.length - 1) 0, true))
  else if kd = 3 then (if l.length = 0 then (l, 0, false) else (l.drop 1, l.getD 0 0, true))
  else if x < 0 ∨ (l.length : Int) ≤ x then (l, 0, false) else (l, l.getD x.toNat 0, true)
/-- A row that holds a list. -/
def Row (W : World) (g b c : Nat) (ex : List Value) (cap : Nat) (l : List Int) : Prop := ∃ p n xs, At W g b c ex cap p n xs ∧ elems cap p n xs = l
def two (g b k : Nat) : Prop := k = g ∨ k = b
section
variable {W : World} {g b c cap : Nat} {ex : List Value} {l : List Int}
theorem Row.kept {W' : World} (h : Row W g b c ex cap l) {S : Nat → Prop} (hc : Chg S W W') (h1 : ¬ S g) (h2 : ¬ S b) : Row W' g b c ex cap l := by
  obtain ⟨p, n, xs, h, e⟩ := h
  exact ⟨p, n, xs, h.kept hc h1 h2, e⟩
theorem Row.below {W' : World} (h : Row W g b c ex cap l) (hc : Below W.heap.size W W') : Row W' g b c ex cap l := h.kept (Chg.of_below hc (S := fun _ => False)) id id
theorem Row.drewN (h : Row W g b c ex cap l) (k : Nat) : Row (W.drewN k) g b c ex cap l := by
  obtain ⟨p, n, xs, h, e⟩ := h
  exact ⟨p, n, xs, h.drewN k, e⟩
theorem Row.le (h : Row W g b c ex cap l) : l.length ≤ cap := by
  obtain ⟨p, n, xs, h, rfl⟩ := h
  rw [elems_len]; exact h.n_le
theorem Row.room (h : Row W g b c ex cap l) : cap ≤ 4096 := by
  obtain ⟨p, n, xs, h, rfl⟩ := h
  exact h.room
theorem Chg.drawn {S : Nat → Prop} (W : World) (k : Nat) : Chg S W (W.drewN k) := (Chg.refl S W).drewN k

theorem row_back (h : Row W g b c ex cap l) (x : Int) :
    Calls Try.prog 43 #[.pointer (some ⟨g, 0, none⟩), .int .i64 x] W fun e w' => e = .returned (.bool (refDo l cap 0 x).2.2) ∧ Chg (two g b) W w' ∧ Row w' g b c ex cap (refDo l cap 0 x).1 := by
  obtain ⟨p, n, xs, h, rfl⟩ := h
  have hn := h.n_le
  simp only [refDo, if_true, elems_len]
  by_cases e : n = cap
  · rw [if_pos (by omega)]
    refine (back_full h e x).mono ?_
    rintro _ w' ⟨rfl, k, rfl⟩
    exact ⟨rfl, Chg.drawn _ _, p, n, xs, h.drewN k, rfl⟩
  · rw [if_neg (by omega)]
    refine (back_any h (by omega) x).mono ?_
    rintro _ w' ⟨rfl, hc, h'⟩
    exact ⟨rfl, hc, p, n + 1, _, h', elems_back h.len (by omega) x⟩
theorem row_popback (h : Row W g b c ex cap l) :
    Calls Try.prog 46 #[.pointer (some ⟨g, 0, none⟩)] W fun e w' => e = .returned (.tuple #[.int .i64 (refDo l cap 2 0).2.1, .bool (refDo l cap 2 0).2.2]) ∧ Chg (two g b) W w' ∧ Row w' g b c ex cap (refDo l cap 2 0).1 := by
  obtain ⟨p, n, xs, h, rfl⟩ := h
  have hn := h.n_le
  simp only [refDo, Int.reduceEq, if_false, if_true, elems_len]
  by_cases e : n = 0
  · subst e
    rw [if_pos rfl]
    refine (popback_none h).mono ?_
    rintro _ w' ⟨rfl, k, rfl⟩
    exact ⟨rfl, Chg.drawn _ _, p, 0, xs, h.drewN k, rfl⟩
  · rw [if_neg e]
    refine (popback_some h (by omega)).mono ?_
    rintro _ w' ⟨rfl, hc, h'⟩
    exact ⟨by rw [elems_get (by omega)], hc, p, n - 1, _, h', elems_popback (by omega)⟩
theorem row_popfront (h : Row W g b c ex cap l) :
    Calls Try.prog 47 #[.pointer (some ⟨g, 0, none⟩)] W fun e w' => e = .returned (.tuple #[.int .i64 (refDo l cap 3 0).2.1, .bool (refDo l cap 3 0).2.2]) ∧ Chg (two g b) W w' ∧ Row w' g b c ex cap (refDo l cap 3 0).1 := by
  obtain ⟨p, n, xs, h, rfl⟩ := h
  have hn := h.n_le
  simp only [refDo, Int.reduceEq, if_false, if_true, elems_len]
  by_cases e : n = 0
  · subst e
    rw [if_pos rfl]
    refine (popfront_none h).mono ?_
    rintro _ w' ⟨rfl, k, rfl⟩
    exact ⟨rfl, Chg.drawn _ _, p, 0, xs, h.drewN k, rfl⟩
  · rw [if_neg e]
    refine (popfront_some h (by omega)).mono ?_
    rintro _ w' ⟨rfl, hc, h'⟩
    exact ⟨by rw [elems_get (by omega), Nat.add_zero], hc, _, n - 1, _, h', elems_popfront (by omega)⟩
theorem row_at (h : Row W g b c ex cap l) (x : Int) :
    Calls Try.prog 57 #[.pointer (some ⟨g, 0, none⟩), .int .i64 x] W fun e w' => e = .returned (.tuple #[.int .i64 (refDo l cap 4 x).2.1, .bool (refDo l cap 4 x).2.2]) ∧ Chg (two g b) W w' ∧ Row w' g b c ex cap (refDo l cap 4 x).1 := by
  obtain ⟨p, n, xs, h, rfl⟩ := h
  have hn := h.n_le
  simp only [refDo, Int.reduceEq, if_false, if_true, elems_len]
  by_cases e : x < 0 ∨ (n : Int) ≤ x
  · rw [if_pos e]
    refine (at_out h x e).mono ?_
    rintro _ w' ⟨rfl, k, rfl⟩
    exact ⟨rfl, Chg.drawn _ _, p, n, xs, h.drewN k, rfl⟩
  · rw [if_neg e]
    obtain ⟨i, rfl⟩ : ∃ i : Nat, x = (i : Int) := ⟨x.toNat, by omega⟩
    refine (at_in h i (by omega)).mono ?_
    rintro _ w' ⟨rfl, k, rfl⟩
    exact ⟨by rw [show (i : Int).toNat = i from rfl, elems_get (by omega)], Chg.drawn _ _, p, n, xs, h.drewN k, rfl⟩
theorem row_len (h : Row W g b c ex cap l) :
    Calls Try.prog 54 #[.pointer (some ⟨g, 0, none⟩)] W fun e w' => e = .returned (.int .i64 (l.length : Int)) ∧ W = w' := by
  obtain ⟨p, n, xs, h, rfl⟩ := h
  rw [elems_len]
  exact len_any h
theorem row_all (h : Row W g b c ex cap l) :
    Calls Try.prog 40 #[.pointer (some ⟨g, 0, none⟩)] W fun e w' => ∃ v, e = .returned v ∧ Below W.heap.size W w' ∧ w'.ownsRow W.heap.size 3 1 v l.length (nums .i64 l) := by
  obtain ⟨p, n, xs, h, rfl⟩ := h
  exact all_any h
theorem row_new (W : World) (room : Int) (c : Nat) (hc : (c : Int) = min (max room 0) 4096) :
    Calls Try.prog 26 #[.int .i64 room] W fun e w' => ∃ g b, e = .returned (.pointer (some ⟨g, 0, none⟩)) ∧ Below W.heap.size W w' ∧ Row w' g b c [] c [] ∧ W.heap.size ≤ g ∧ W.heap.size ≤ b := by
  refine (new_any W room c hc).mono ?_
  rintro e w' ⟨g, b, he, hb, h, h1, h2⟩
  exact ⟨g, b, he, hb, ⟨0, 0, _, h, rfl⟩, h1, h2⟩
theorem row_clone (h : Row W g b c ex cap l) :
    Calls Try.prog 42 #[.pointer (some ⟨g, 0, none⟩)] W fun e w' => ∃ g' b' c' ex', e = .returned (.pointer (some ⟨g', 0, none⟩)) ∧ Below W.heap.size W w' ∧ Row w' g' b' c' ex' cap l ∧ W.heap.size ≤ g' ∧ W.heap.size ≤ b' := by
  obtain ⟨p, n, xs, h, rfl⟩ := h
  refine (clone_any h).mono ?_
  rintro e w' ⟨g, b, c1, ex1, he, hb, h, h1, h2⟩
  exact ⟨g, b, c1, ex1, he, hb, ⟨p, n, xs, h, rfl⟩, h1, h2⟩
end
end Go.Proofs.Ytjcjhmnfknenlaa.Rg
