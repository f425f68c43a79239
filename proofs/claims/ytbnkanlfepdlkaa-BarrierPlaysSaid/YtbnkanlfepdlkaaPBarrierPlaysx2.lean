/- Go functions as plain Lean functions, and that the calls come to them. Conditions: none. (Written by a program of this session.) -/
import Derived.Test.YtbnkanlfepdlkaaPBarrierPlaysx0
namespace Go.Proofs.Ytbnkanlfepdlkaa.PBarrierPlays
open Go.RowKit Go.Proofs.YtbnkanlfepdlkaaW.PrintWords Go.Proofs.YtbnkanlfepdlkaaW.PrintLast Go.Proofs.YtbnkanlfepdlkaaW.PrintMore
attribute [local go_sem] max2_int min2_int max_two min_two max_three min_three max_four min_four   -- for this text's walks alone
set_option linter.unusedVariables false
set_option linter.unusedSimpArgs false

/-- A state of type 66 at block g of W; what its slices lead to came in by w0. -/
def IsS66 (w0 W : World) (g : Nat) (f0 : Int) (f1 : Int) : Prop := W.heap[g]? = some (.cells #[.int .u64 f0, .int .u64 f1] 66 (0, 0)) ∧ w0.heap.size ≤ g
theorem IsS66.grown {w0 W : World} {g : Nat} {f0 : Int} {f1 : Int} {W1 : World} {row : Option Nat} (h : IsS66 w0 W g f0 f1) (hw : W.grownBy W1 row) (hne : some g ≠ row) : IsS66 w0 W1 g f0 f1 := by
  obtain ⟨hb, hg⟩ := h
  exact ⟨blk_grown hb hw hne, hg⟩
theorem IsS66.own_neN {w0 W : World} {g : Nat} {f0 : Int} {f1 : Int} {α : Type} {d : Kd α} {e : Nat} {base : Nat} {ok : Nat → Prop} {v : Value} {xs : List α} (h : IsS66 w0 W g f0 f1) (ho : Kd.N d e W base ok v xs) (ht : e ≠ 66) : some g ≠ v.ownBlock := by
  obtain ⟨hb, hg⟩ := h
  exact Kd.N_ne ho hb ht
theorem IsS66.fresh {w0 W : World} {g : Nat} {f0 : Int} {f1 : Int} (h : IsS66 w0 W g f0 f1) : ∀ k, W.heap.size ≤ k → k ≠ g := by
  obtain ⟨hb, hg⟩ := h
  exact Kd.freshB hb
theorem IsS66.kept {w0 W : World} {g : Nat} {f0 : Int} {f1 : Int} {W1 : World} {S : Nat → Prop} (h : IsS66 w0 W g f0 f1) (hk : Kept W W1 S) (hne : ¬ S g) : IsS66 w0 W1 g f0 f1 := by
  obtain ⟨hb, hg⟩ := h
  exact ⟨blk_kept hb hk hne, hg⟩
theorem IsS66.below {w0 W : World} {g : Nat} {f0 : Int} {f1 : Int} {W1 : World} (h : IsS66 w0 W g f0 f1) (hw : Below W.heap.size W W1) : IsS66 w0 W1 g f0 f1 := h.grown (grown_of_below hw none) (by simp)
theorem IsS66.alloc {w0 W : World} {g : Nat} {f0 : Int} {f1 : Int} (h : IsS66 w0 W g f0 f1) (o : Obj) : IsS66 w0 (W.alloc o) g f0 f1 := h.below (ba_ (Below.refl _ _) o)
theorem IsS66.drewN {w0 W : World} {g : Nat} {f0 : Int} {f1 : Int} (h : IsS66 w0 W g f0 f1) (m : Nat) : IsS66 w0 (W.drewN m) g f0 f1 := h
theorem IsS66.drew {w0 W : World} {g : Nat} {f0 : Int} {f1 : Int} (h : IsS66 w0 W g f0 f1) : IsS66 w0 W.drew g f0 f1 := h
theorem IsS66.at_ {w0 W : World} {g : Nat} {f0 : Int} {f1 : Int} {w' : World} {m : Nat} (hq : W.drewN m = w') (h : IsS66 w0 W g f0 f1) : IsS66 w0 w' g f0 f1 := by subst hq; exact IsS66.drewN h m
theorem IsS66.apart {w0 W : World} {g : Nat} {f0 : Int} {f1 : Int} {α : Type} {d : Kd α} {e : Nat} {base : Nat} {ok : Nat → Prop} {v : Value} {xs : List α} (h : IsS66 w0 W g f0 f1) (ho : d.R e W base ok v xs) (ht : ∀ q, q ∈ e :: d.E → q ≠ 66) : d.R e W base (fun k => ok k ∧ k ≠ g) v xs := by
  obtain ⟨hb, hg⟩ := h
  exact Kd.R_types ho hb ht
theorem IsS66.own_ne {w0 W : World} {g : Nat} {f0 : Int} {f1 : Int} {α : Type} {d : Kd α} {e : Nat} {base : Nat} {ok : Nat → Prop} {v : Value} {xs : List α} (h : IsS66 w0 W g f0 f1) (ho : d.R e W base ok v xs) (ht : e ≠ 66) : some g ≠ v.ownBlock := by
  obtain ⟨hb, hg⟩ := h
  exact Kd.R_ne ho hb ht
theorem IsS66.apartQ {w0 W : World} {g : Nat} {f0 : Int} {f1 : Int} {α : Type} {d : Kd α} {e : Nat} {base : Nat} {ok : Nat → Prop} {v : Value} {xs : List α} (h : IsS66 w0 W g f0 f1) (ho : d.Q e W base ok v xs) (ht : ∀ q, q ∈ e :: d.E → q ≠ 66) : d.Q e W base (fun k => ok k ∧ k ≠ g) v xs := by
  obtain ⟨hb, hg⟩ := h
  exact Kd.Q_types ho hb ht
theorem IsS66.own_neQ {w0 W : World} {g : Nat} {f0 : Int} {f1 : Int} {α : Type} {d : Kd α} {e : Nat} {base : Nat} {ok : Nat → Prop} {v : Value} {xs : List α} (h : IsS66 w0 W g f0 f1) (ho : d.Q e W base ok v xs) (ht : e ≠ 66) : some g ≠ v.ownBlock := by
  obtain ⟨hb, hg⟩ := h
  exact Kd.Q_ne ho hb ht
theorem IsS66.apartS {w0 W : World} {g : Nat} {f0 : Int} {f1 : Int} {α : Type} {d : Kd α} {e : Nat} {base : Nat} {ok : Nat → Prop} {v : Value} {xs : List α} (h : IsS66 w0 W g f0 f1) (ho : d.S e W base ok v xs) (ht : ∀ q, q ∈ e :: d.E → q ≠ 66) : d.S e W base (fun k => ok k ∧ k ≠ g) v xs := by
  obtain ⟨hb, hg⟩ := h
  exact Kd.S_types ho hb ht
theorem IsS66.own_neS {w0 W : World} {g : Nat} {f0 : Int} {f1 : Int} {α : Type} {d : Kd α} {e : Nat} {base : Nat} {ok : Nat → Prop} {v : Value} {xs : List α} (h : IsS66 w0 W g f0 f1) (ho : d.S e W base ok v xs) (ht : e ≠ 66) : some g ≠ v.ownBlock := by
  obtain ⟨hb, hg⟩ := h
  exact Kd.S_ne ho hb ht
theorem IsS66.lt {w0 W : World} {g : Nat} {f0 : Int} {f1 : Int} (h : IsS66 w0 W g f0 f1) : g < W.heap.size := by
  obtain ⟨hb, hg⟩ := h
  exact blk_lt hb
theorem IsS66.ge {w0 W : World} {g : Nat} {f0 : Int} {f1 : Int} (h : IsS66 w0 W g f0 f1) : w0.heap.size ≤ g := by
  obtain ⟨hb, hg⟩ := h
  exact hg
theorem IsS66.ne_blk {w0 W : World} {g : Nat} {f0 : Int} {f1 : Int} {a : Nat} {cs : Array Value} {t : TypeId} {fr : Nat × Nat} (h : IsS66 w0 W g f0 f1) (hb2 : W.heap[a]? = some (.cells cs t fr)) (ht : t ≠ 66) : g ≠ a := by
  obtain ⟨hb, hg⟩ := h
  rintro rfl
  rw [hb] at hb2
  injection hb2 with hb2
  injection hb2 with _ ht2
  exact ht ht2.symm
theorem IsS66.far {w0 W : World} {g : Nat} {f0 : Int} {f1 : Int} {p : Addr} (h : IsS66 w0 W g f0 f1) (hne : g ≠ p.block) (u : Value) : IsS66 w0 (W.setCell p u) g f0 f1 := by
  obtain ⟨hb, hg⟩ := h
  exact ⟨blk_far hb hne u, hg⟩
theorem cellS66_0 {W : World} {g : Nat} {f0 : Int} {f1 : Int} (h : W.heap[g]? = some (.cells #[.int .u64 f0, .int .u64 f1] 66 (0, 0))) : W.cell? ⟨g, 0, none⟩ = some (.int .u64 f0) := (blk_cell h 0).trans rfl
theorem IsS66.set_0 {w0 W : World} {g : Nat} {f0 : Int} {f1 : Int} (h : IsS66 w0 W g f0 f1) (x : Int) : IsS66 w0 (W.setCell ⟨g, 0, none⟩ (.int .u64 x)) g x f1 := by
  obtain ⟨hb, hg⟩ := h
  exact ⟨by simpa using blk_set hb 0 (.int .u64 x), hg⟩
theorem cellS66_1 {W : World} {g : Nat} {f0 : Int} {f1 : Int} (h : W.heap[g]? = some (.cells #[.int .u64 f0, .int .u64 f1] 66 (0, 0))) : W.cell? ⟨g, 1, none⟩ = some (.int .u64 f1) := (blk_cell h 1).trans rfl
theorem IsS66.set_1 {w0 W : World} {g : Nat} {f0 : Int} {f1 : Int} (h : IsS66 w0 W g f0 f1) (x : Int) : IsS66 w0 (W.setCell ⟨g, 1, none⟩ (.int .u64 x)) g f0 x := by
  obtain ⟨hb, hg⟩ := h
  exact ⟨by simpa using blk_set hb 1 (.int .u64 x), hg⟩
theorem IsS66.new (w0 W : World) (f0 : Int) (f1 : Int) (hB : Below w0.heap.size w0 W) : IsS66 w0 (W.alloc (.cells #[.int .u64 f0, .int .u64 f1] 66)) W.heap.size f0 f1 := ⟨by simpa using heap_alloc_new W _, hB.size⟩

/-! ### barrier_Barrier_Members: function 40 -/
def barrier_Barrier_Members.f (s0_0 : Int) (s0_1 : Int) : Option (Int × Int × Int) := some (s0_0, s0_0, s0_1)
set_option maxHeartbeats 8000000 in
set_option maxRecDepth 100000 in
theorem barrier_Barrier_Members.calls (g : Nat) (s0_0 : Int) (s0_1 : Int) (r1 : Int) (r2 : Int) (r3 : Int) (w0 w : World) (hI : IsS66 w0 w g s0_0 s0_1) (hB : Below w0.heap.size w0 w) (h : barrier_Barrier_Members.f s0_0 s0_1 = some (r1, r2, r3)) :
    Calls Try.prog 40 #[.pointer (some ⟨g, 0, none⟩)] w fun e w' => e = .returned (.int .u64 r1) ∧ IsS66 w0 w' g r2 r3 ∧ Below w0.heap.size w0 w' ∧ KeepBut w w' g none := by
  have HI0 := A0_ hI
  have HK := A0_ (KeepBut.refl w g none)
  have HL := A0_ hB.size
  clear hI
  have HW0 := A0_ hB.size
  have HB := A0_ hB
  clear hB
  have H : (some (s0_0, s0_0, s0_1)) = some (r1, r2, r3) := h
  clear h
  simp only [Option.some.injEq, Prod.mk.injEq] at H
  obtain ⟨rfl, rfl, rfl⟩ := H
  obtain ⟨HGz2, hgz2⟩ := HI0.out
  have hcz2_0 := cellS66_0 HGz2
  have hcz2_1 := cellS66_1 HGz2
  have hfz2_0 := blk_frozen HGz2 0
  have hfz2_1 := blk_frozen HGz2 1
  clear HGz2 hgz2
  go_enter Try.func40, Try.ntmps40
  go_wp2
  go_ret
  exact ⟨by first|rfl|(simp [errW_none, errW_some] <;> rfl)|(simp [*, errW_none, errW_some] <;> rfl), by repeat (first|(with_reducible first|exact HI0.out|apply IsS66.alloc|apply IsS66.drewN|apply IsS66.drew|apply IsS66.set_0|apply IsS66.set_1)|exact HI0.out), by repeat (first|(with_reducible first|exact HB.out|apply ba_|apply pN_|apply b1_|refine bs_ ?_ (IsS66.ge HI0.out))|exact HB.out), by repeat (first|(with_reducible first|exact HK.out|apply KeepBut.set_|apply keep_drewN|apply keep_drew|apply keep_alloc)|exact HK.out)⟩

/-! ### barrier_Barrier_Arrived: function 41 -/
def barrier_Barrier_Arrived.f (s0_0 : Int) (s0_1 : Int) : Option (Int × Int × Int) := some (s0_1, s0_0, s0_1)
set_option maxHeartbeats 8000000 in
set_option maxRecDepth 100000 in
theorem barrier_Barrier_Arrived.calls (g : Nat) (s0_0 : Int) (s0_1 : Int) (r1 : Int) (r2 : Int) (r3 : Int) (w0 w : World) (hI : IsS66 w0 w g s0_0 s0_1) (hB : Below w0.heap.size w0 w) (h : barrier_Barrier_Arrived.f s0_0 s0_1 = some (r1, r2, r3)) :
    Calls Try.prog 41 #[.pointer (some ⟨g, 0, none⟩)] w fun e w' => e = .returned (.int .u64 r1) ∧ IsS66 w0 w' g r2 r3 ∧ Below w0.heap.size w0 w' ∧ KeepBut w w' g none := by
  have HI0 := A0_ hI
  have HK := A0_ (KeepBut.refl w g none)
  have HL := A0_ hB.size
  clear hI
  have HW0 := A0_ hB.size
  have HB := A0_ hB
  clear hB
  have H : (some (s0_1, s0_0, s0_1)) = some (r1, r2, r3) := h
  clear h
  simp only [Option.some.injEq, Prod.mk.injEq] at H
  obtain ⟨rfl, rfl, rfl⟩ := H
  obtain ⟨HGz2, hgz2⟩ := HI0.out
  have hcz2_0 := cellS66_0 HGz2
  have hcz2_1 := cellS66_1 HGz2
  have hfz2_0 := blk_frozen HGz2 0
  have hfz2_1 := blk_frozen HGz2 1
  clear HGz2 hgz2
  go_enter Try.func41, Try.ntmps41
  go_wp2
  go_ret
  exact ⟨by first|rfl|(simp [errW_none, errW_some] <;> rfl)|(simp [*, errW_none, errW_some] <;> rfl), by repeat (first|(with_reducible first|exact HI0.out|apply IsS66.alloc|apply IsS66.drewN|apply IsS66.drew|apply IsS66.set_0|apply IsS66.set_1)|exact HI0.out), by repeat (first|(with_reducible first|exact HB.out|apply ba_|apply pN_|apply b1_|refine bs_ ?_ (IsS66.ge HI0.out))|exact HB.out), by repeat (first|(with_reducible first|exact HK.out|apply KeepBut.set_|apply keep_drewN|apply keep_drew|apply keep_alloc)|exact HK.out)⟩

/-! ### barrier_Barrier_bad: function 52 -/
def barrier_Barrier_bad.f (s0_0 : Int) (s0_1 : Int) (a1 : Int) : Option (Bool × Int × Int) := if a1 < 0 then (some (true, s0_0, s0_1)) else (some (decide (a1 ≥ 64), s0_0, s0_1))
set_option maxHeartbeats 8000000 in
set_option maxRecDepth 100000 in
theorem barrier_Barrier_bad.calls (g : Nat) (s0_0 : Int) (s0_1 : Int) (a1 : Int) (r1 : Bool) (r2 : Int) (r3 : Int) (w0 w : World) (hI : IsS66 w0 w g s0_0 s0_1) (hB : Below w0.heap.size w0 w) (h : barrier_Barrier_bad.f s0_0 s0_1 a1 = some (r1, r2, r3)) :
    Calls Try.prog 52 #[.pointer (some ⟨g, 0, none⟩), .int .i64 a1] w fun e w' => e = .returned (.bool r1) ∧ IsS66 w0 w' g r2 r3 ∧ Below w0.heap.size w0 w' ∧ KeepBut w w' g none := by
  have HI0 := A0_ hI
  have HK := A0_ (KeepBut.refl w g none)
  have HL := A0_ hB.size
  clear hI
  have HW0 := A0_ hB.size
  have HB := A0_ hB
  clear hB
  have H : (if a1 < 0 then (some (true, s0_0, s0_1)) else (some (decide (a1 ≥ 64), s0_0, s0_1))) = some (r1, r2, r3) := h
  clear h
  by_cases c3 : a1 < 0
  · rw [if_pos c3] at H
    have c3b0 : decide (a1 < 0) = true := decide_eq_true c3
    clear c3
    simp only [Option.some.injEq, Prod.mk.injEq] at H
    obtain ⟨rfl, rfl, rfl⟩ := H
    go_enter Try.func52, Try.ntmps52
    go_wp2
    go_ret
    exact ⟨by first|rfl|(simp [errW_none, errW_some] <;> rfl)|(simp [*, errW_none, errW_some] <;> rfl), by repeat (first|(with_reducible first|exact HI0.out|apply IsS66.alloc|apply IsS66.drewN|apply IsS66.drew|apply IsS66.set_0|apply IsS66.set_1)|exact HI0.out), by repeat (first|(with_reducible first|exact HB.out|apply ba_|apply pN_|apply b1_|refine bs_ ?_ (IsS66.ge HI0.out))|exact HB.out), by repeat (first|(with_reducible first|exact HK.out|apply KeepBut.set_|apply keep_drewN|apply keep_drew|apply keep_alloc)|exact HK.out)⟩
  · rw [if_neg c3] at H
    have c3b0 : decide (a1 < 0) = false := decide_eq_false c3
    clear c3
    simp only [Option.some.injEq, Prod.mk.injEq] at H
    obtain ⟨rfl, rfl, rfl⟩ := H
    go_enter Try.func52, Try.ntmps52
    go_wp2
    go_ret
    exact ⟨by first|rfl|(simp [errW_none, errW_some] <;> rfl)|(simp [*, errW_none, errW_some] <;> rfl), by repeat (first|(with_reducible first|exact HI0.out|apply IsS66.alloc|apply IsS66.drewN|apply IsS66.drew|apply IsS66.set_0|apply IsS66.set_1)|exact HI0.out), by repeat (first|(with_reducible first|exact HB.out|apply ba_|apply pN_|apply b1_|refine bs_ ?_ (IsS66.ge HI0.out))|exact HB.out), by repeat (first|(with_reducible first|exact HK.out|apply KeepBut.set_|apply keep_drewN|apply keep_drew|apply keep_alloc)|exact HK.out)⟩

/-! ### bits_one: function 64 -/
def bits_one.f (a0 : Int) : Option (Int) := if a0 < 0 then (some 0) else (if a0 > 63 then (some 0) else (if 0 ≤ a0 then (some (shl .u64 1 a0)) else (none)))
set_option maxHeartbeats 8000000 in
set_option maxRecDepth 100000 in
theorem bits_one.calls (a0 : Int) (r : Int) (w : World) (h : bits_one.f a0 = some r) :
    Calls Try.prog 64 #[.int .i64 a0] w fun e w' => e = .returned (.int .u64 r) ∧ Drawn0 w w' := by
  have H : (if a0 < 0 then (some 0) else (if a0 > 63 then (some 0) else (if 0 ≤ a0 then (some (shl .u64 1 a0)) else (none)))) = some r := h
  clear h
  by_cases c2 : a0 < 0
  · rw [if_pos c2] at H
    have c2b0 : decide (a0 < 0) = true := decide_eq_true c2
    clear c2
    obtain rfl := Option.some.inj H
    go_enter Try.func64, Try.ntmps64
    go_wp2
    go_ret
    exact ⟨by first|rfl|(simp; done)|(simp [*]; done), by repeat (first|exact Drawn0.refl _|apply Drawn0.step)⟩
  · rw [if_neg c2] at H
    have c2b0 : decide (a0 < 0) = false := decide_eq_false c2
    clear c2
    by_cases c3 : a0 > 63
    · rw [if_pos c3] at H
      have c3b0 : decide (63 < a0) = true := decide_eq_true c3
      clear c3
      obtain rfl := Option.some.inj H
      go_enter Try.func64, Try.ntmps64
      go_wp2
      go_ret
      exact ⟨by first|rfl|(simp; done)|(simp [*]; done), by repeat (first|exact Drawn0.refl _|apply Drawn0.step)⟩
    · rw [if_neg c3] at H
      have c3b0 : decide (63 < a0) = false := decide_eq_false c3
      clear c3
      by_cases c4 : 0 ≤ a0
      · rw [if_pos c4] at H
        have c4b0 := eq_true c4
        have c4b1 : decide (0 ≤ a0) = true := decide_eq_true c4
        clear c4
        obtain ⟨ji5, hji5⟩ : ∃ j_ : Int, (shl .u64 1 a0) = j_ := ⟨_, rfl⟩
        replace H : (some ji5) = some r := by first|(rw [hji5] at H; exact H)|(simp only [hji5] at H ⊢; exact H)
        have hji5_ : (IntKind.u64.wrap (1 * 2 ^ min a0.toNat 64)) = ji5 := hji5
        have hji5z : a0 ≤ 64 → (IntKind.u64.wrap (1 * 2 ^ a0.toNat)) = ji5 := shl_small hji5
        have hji5u : (IntKind.u64.wrap (2 ^ min a0.toNat 64)) = ji5 := by have h_ := hji5_; rw [Int.one_mul] at h_; exact h_
        have hji5v : a0 ≤ 64 → (IntKind.u64.wrap (2 ^ a0.toNat)) = ji5 := fun hle_ => by have h_ := hji5z hle_; rw [Int.one_mul] at h_; exact h_
        obtain rfl := Option.some.inj H
        go_enter Try.func64, Try.ntmps64
        go_wp2
        go_ret
        exact ⟨by first|rfl|(simp; done)|(simp only [← hji5] <;> (first|rfl|simp))|(simp [*]; done), by repeat (first|exact Drawn0.refl _|apply Drawn0.step)⟩
      · rw [if_neg c4] at H
        exact absurd H (by simp)

/-! ### bits_Set_Has: function 53 -/
def bits_Set_Has.f (a0 : Int) (a1 : Int) : Option (Bool) := (bits_one.f a1).bind fun t101 => (some ((Go.bits .and .u64 a0 t101) != 0))
set_option maxHeartbeats 8000000 in
set_option maxRecDepth 100000 in
theorem bits_Set_Has.calls (a0 : Int) (a1 : Int) (r : Bool) (w : World) (h : bits_Set_Has.f a0 a1 = some r) :
    Calls Try.prog 53 #[.int .u64 a0, .int .i64 a1] w fun e w' => e = .returned (.bool r) ∧ Drawn0 w w' := by
  have H : ((bits_one.f a1).bind fun t101 => (some ((Go.bits .and .u64 a0 t101) != 0))) = some r := h
  clear h
  replace H := bm_ H
  obtain ⟨t101, A30, H⟩ := H
  replace H : (some ((Go.bits .and .u64 a0 t101) != 0)) = some r := H
  have A3 := A0_ A30
  clear A30
  obtain rfl := Option.some.inj H
  go_enter Try.func53, Try.ntmps53
  go_wp2_with (first|((with_reducible refine gate_callee (f := 64) rfl ?_); refine goesL_ (some 7) rfl rfl Try.func64 (by kernel_rfl) rfl #[.int .i64 a1] rfl (by first|(simp only [List.map_toArray, List.map_cons, List.map_nil] <;> rfl)|rfl|(simp only [List.length_drop, List.length_take]; rfl)) ?_; (with_reducible refine (bits_one.calls a1 t101 _ A3.out).mono ?_); rintro e w' ⟨rfl, ⟨nd, rfl⟩⟩; refine ⟨_, rfl, ?_⟩))
  go_ret
  exact ⟨by first|rfl|(simp; done)|(simp [*]; done), by repeat (first|exact Drawn0.refl _|apply Drawn0.step)⟩

/-! ### bits_Set_With: function 54 -/
def bits_Set_With.f (a0 : Int) (a1 : Int) : Option (Int) := (bits_one.f a1).bind fun t102 => (some (Go.bits .or .u64 a0 t102))
set_option maxHeartbeats 8000000 in
set_option maxRecDepth 100000 in
theorem bits_Set_With.calls (a0 : Int) (a1 : Int) (r : Int) (w : World) (h : bits_Set_With.f a0 a1 = some r) :
    Calls Try.prog 54 #[.int .u64 a0, .int .i64 a1] w fun e w' => e = .returned (.int .u64 r) ∧ Drawn0 w w' := by
  have H : ((bits_one.f a1).bind fun t102 => (some (Go.bits .or .u64 a0 t102))) = some r := h
  clear h
  replace H := bm_ H
  obtain ⟨t102, A30, H⟩ := H
  replace H : (some (Go.bits .or .u64 a0 t102)) = some r := H
  have A3 := A0_ A30
  clear A30
  obtain rfl := Option.some.inj H
  go_enter Try.func54, Try.ntmps54
  go_wp2_with (first|((with_reducible refine gate_callee (f := 64) rfl ?_); refine goesL_ (some 7) rfl rfl Try.func64 (by kernel_rfl) rfl #[.int .i64 a1] rfl (by first|(simp only [List.map_toArray, List.map_cons, List.map_nil] <;> rfl)|rfl|(simp only [List.length_drop, List.length_take]; rfl)) ?_; (with_reducible refine (bits_one.calls a1 t102 _ A3.out).mono ?_); rintro e w' ⟨rfl, ⟨nd, rfl⟩⟩; refine ⟨_, rfl, ?_⟩))
  go_ret
  exact ⟨by first|rfl|(simp; done)|(simp [*]; done), by repeat (first|exact Drawn0.refl _|apply Drawn0.step)⟩

/-! ### barrier_Barrier_Enrol: function 38 -/
def barrier_Barrier_Enrol.f (s0_0 : Int) (s0_1 : Int) (a1 : Int) : Option (Int × Int × Int) := (barrier_Barrier_bad.f s0_0 s0_1 a1).bind fun bt103 => (if bt103.1 = true then (some (1, bt103.2.1, bt103.2.2)) else ((bits_Set_Has.f bt103.2.1 a1).bind fun t106 => (if t106 = true then (some (8, bt103.2.1, bt103.2.2)) else (if bt103.2.2 = 0 then ((bits_Set_With.f bt103.2.1 a1).bind fun t107 => (some (0, t107, bt103.2.2))) else (some (7, bt103.2.1, bt103.2.2))))))
set_option maxHeartbeats 8000000 in
set_option maxRecDepth 100000 in
theorem barrier_Barrier_Enrol.calls (g : Nat) (s0_0 : Int) (s0_1 : Int) (a1 : Int) (r1 : Int) (r2 : Int) (r3 : Int) (w0 w : World) (hI : IsS66 w0 w g s0_0 s0_1) (hB : Below w0.heap.size w0 w) (h : barrier_Barrier_Enrol.f s0_0 s0_1 a1 = some (r1, r2, r3)) :
    Calls Try.prog 38 #[.pointer (some ⟨g, 0, none⟩), .int .i64 a1] w fun e w' => e = .returned (.int .i64 r1) ∧ IsS66 w0 w' g r2 r3 ∧ Below w0.heap.size w0 w' ∧ KeepBut w w' g none := by
  have HI0 := A0_ hI
  have HK := A0_ (KeepBut.refl w g none)
  have HL := A0_ hB.size
  clear hI
  have HW0 := A0_ hB.size
  have HB := A0_ hB
  clear hB
  have H : ((barrier_Barrier_bad.f s0_0 s0_1 a1).bind fun bt103 => (if bt103.1 = true then (some (1, bt103.2.1, bt103.2.2)) else ((bits_Set_Has.f bt103.2.1 a1).bind fun t106 => (if t106 = true then (some (8, bt103.2.1, bt103.2.2)) else (if bt103.2.2 = 0 then ((bits_Set_With.f bt103.2.1 a1).bind fun t107 => (some (0, t107, bt103.2.2))) else (some (7, bt103.2.1, bt103.2.2))))))) = some (r1, r2, r3) := h
  clear h
  replace H := bm_ H
  obtain ⟨⟨t103, t104, t105⟩, A30, H⟩ := H
  replace H : (if t103 = true then (some (1, t104, t105)) else ((bits_Set_Has.f t104 a1).bind fun t106 => (if t106 = true then (some (8, t104, t105)) else (if t105 = 0 then ((bits_Set_With.f t104 a1).bind fun t107 => (some (0, t107, t105))) else (some (7, t104, t105)))))) = some (r1, r2, r3) := H
  have A3 := A0_ A30
  clear A30
  by_cases c4 : t103 = true
  · subst c4
    have H1 : (some (1, t104, t105)) = some (r1, r2, r3) := by rw [if_pos rfl] at H; exact H
    clear H
    have H := H1
    clear H1
    simp only [Option.some.injEq, Prod.mk.injEq] at H
    obtain ⟨rfl, rfl, rfl⟩ := H
    go_enter Try.func38, Try.ntmps38
    go_wp2_with (first|((with_reducible refine gate_callee (f := 52) rfl ?_); refine goesL_ (some 8) rfl rfl Try.func52 (by kernel_rfl) rfl #[.pointer (some ⟨g, 0, none⟩), .int .i64 a1] rfl (by first|(simp only [List.map_toArray, List.map_cons, List.map_nil] <;> rfl)|rfl|(simp only [List.length_drop, List.length_take]; rfl)) ?_; (with_reducible refine (barrier_Barrier_bad.calls g s0_0 s0_1 a1 true t104 t105 w0 _ ?side1 ?side2 A3.out).mono ?_); (case side1 => repeat (first|(with_reducible first|exact HI0.out|apply IsS66.alloc|apply IsS66.drewN|apply IsS66.drew|apply IsS66.set_0|apply IsS66.set_1)|exact HI0.out)); (case side2 => repeat (first|(with_reducible first|exact HB.out|apply ba_|apply pN_|apply b1_|refine bs_ ?_ (IsS66.ge HI0.out))|exact HB.out)); rintro e w5 ⟨rfl, hi, hb, hk⟩; refine ⟨_, rfl, ?_⟩; have n0_ := A0_ (KeepBut.trans (by repeat (first|(with_reducible first|exact HK.out|apply KeepBut.set_|apply keep_drewN|apply keep_drew|apply keep_alloc)|exact HK.out)) hk (.inl rfl)); have n1_ := A0_ (hb); have n2_ := A0_ (hi); clear HK; clear HB; clear HI0; have HK := n0_; have HB := n1_; have HI0 := n2_; clear n0_ n1_ n2_; (try clear hb); (try clear hb2); (try clear hk); (try clear hi)))
    go_ret
    exact ⟨by first|rfl|(simp [errW_none, errW_some] <;> rfl)|(simp [*, errW_none, errW_some] <;> rfl), by repeat (first|(with_reducible first|exact HI0.out|apply IsS66.alloc|apply IsS66.drewN|apply IsS66.drew|apply IsS66.set_0|apply IsS66.set_1)|exact HI0.out), by repeat (first|(with_reducible first|exact HB.out|apply ba_|apply pN_|apply b1_|refine bs_ ?_ (IsS66.ge HI0.out))|exact HB.out), by repeat (first|(with_reducible first|exact HK.out|apply KeepBut.set_|apply keep_drewN|apply keep_drew|apply keep_alloc)|exact HK.out)⟩
  · replace c4 := Bool.eq_false_iff.mpr c4
    subst c4
    have H1 : ((bits_Set_Has.f t104 a1).bind fun t106 => (if t106 = true then (some (8, t104, t105)) else (if t105 = 0 then ((bits_Set_With.f t104 a1).bind fun t107 => (some (0, t107, t105))) else (some (7, t104, t105))))) = some (r1, r2, r3) := by rw [if_neg (show ¬ (false = true) by decide)] at H; exact H
    clear H
    have H := H1
    clear H1
    replace H := bm_ H
    obtain ⟨t106, A60, H⟩ := H
    replace H : (if t106 = true then (some (8, t104, t105)) else (if t105 = 0 then ((bits_Set_With.f t104 a1).bind fun t107 => (some (0, t107, t105))) else (some (7, t104, t105)))) = some (r1, r2, r3) := H
    have A6 := A0_ A60
    clear A60
    by_cases c7 : t106 = true
    · subst c7
      have H1 : (some (8, t104, t105)) = some (r1, r2, r3) := by rw [if_pos rfl] at H; exact H
      clear H
      have H := H1
      clear H1
      simp only [Option.some.injEq, Prod.mk.injEq] at H
      obtain ⟨rfl, rfl, rfl⟩ := H
      go_enter Try.func38, Try.ntmps38
      go_wp2_with (first|((with_reducible refine gate_callee (f := 52) rfl ?_); refine goesL_ (some 8) rfl rfl Try.func52 (by kernel_rfl) rfl #[.pointer (some ⟨g, 0, none⟩), .int .i64 a1] rfl (by first|(simp only [List.map_toArray, List.map_cons, List.map_nil] <;> rfl)|rfl|(simp only [List.length_drop, List.length_take]; rfl)) ?_; (with_reducible refine (barrier_Barrier_bad.calls g s0_0 s0_1 a1 false t104 t105 w0 _ ?side1 ?side2 A3.out).mono ?_); (case side1 => repeat (first|(with_reducible first|exact HI0.out|apply IsS66.alloc|apply IsS66.drewN|apply IsS66.drew|apply IsS66.set_0|apply IsS66.set_1)|exact HI0.out)); (case side2 => repeat (first|(with_reducible first|exact HB.out|apply ba_|apply pN_|apply b1_|refine bs_ ?_ (IsS66.ge HI0.out))|exact HB.out)); rintro e w8 ⟨rfl, hi, hb, hk⟩; refine ⟨_, rfl, ?_⟩; have n0_ := A0_ (KeepBut.trans (by repeat (first|(with_reducible first|exact HK.out|apply KeepBut.set_|apply keep_drewN|apply keep_drew|apply keep_alloc)|exact HK.out)) hk (.inl rfl)); have n1_ := A0_ (hb); have n2_ := A0_ (hi); clear HK; clear HB; clear HI0; have HK := n0_; have HB := n1_; have HI0 := n2_; clear n0_ n1_ n2_; (try clear hb); (try clear hb2); (try clear hk); (try clear hi); obtain ⟨HGz9, hgz9⟩ := HI0.out; have hcz9_0 := cellS66_0 HGz9; have hcz9_1 := cellS66_1 HGz9; have hfz9_0 := blk_frozen HGz9 0; have hfz9_1 := blk_frozen HGz9 1; clear HGz9 hgz9)|((with_reducible refine gate_callee (f := 53) rfl ?_); refine goesL_ (some 15) rfl rfl Try.func53 (by kernel_rfl) rfl #[.int .u64 t104, .int .i64 a1] rfl (by first|(simp only [List.map_toArray, List.map_cons, List.map_nil] <;> rfl)|rfl|(simp only [List.length_drop, List.length_take]; rfl)) ?_; (with_reducible refine (bits_Set_Has.calls t104 a1 true _ A6.out).mono ?_); rintro e w' ⟨rfl, ⟨nd, rfl⟩⟩; refine ⟨_, rfl, ?_⟩))
      go_ret
      exact ⟨by first|rfl|(simp [errW_none, errW_some] <;> rfl)|(simp [*, errW_none, errW_some] <;> rfl), by repeat (first|(with_reducible first|exact HI0.out|apply IsS66.alloc|apply IsS66.drewN|apply IsS66.drew|apply IsS66.set_0|apply IsS66.set_1)|exact HI0.out), by repeat (first|(with_reducible first|exact HB.out|apply ba_|apply pN_|apply b1_|refine bs_ ?_ (IsS66.ge HI0.out))|exact HB.out), by repeat (first|(with_reducible first|exact HK.out|apply KeepBut.set_|apply keep_drewN|apply keep_drew|apply keep_alloc)|exact HK.out)⟩
    · replace c7 := Bool.eq_false_iff.mpr c7
      subst c7
      have H1 : (if t105 = 0 then ((bits_Set_With.f t104 a1).bind fun t107 => (some (0, t107, t105))) else (some (7, t104, t105))) = some (r1, r2, r3) := by rw [if_neg (show ¬ (false = true) by decide)] at H; exact H
      clear H
      have H := H1
      clear H1
      by_cases c10 : t105 = 0
      · rw [if_pos c10] at H
        have c10b0 : (t105 == 0) = true := beq_iff_eq.mpr c10
        have c10b1 : (t105 != 0) = false := bne_eq_false_iff_eq.mpr c10
        clear c10
        replace H := bm_ H
        obtain ⟨t107, A110, H⟩ := H
        replace H : (some (0, t107, t105)) = some (r1, r2, r3) := H
        have A11 := A0_ A110
        clear A110
        simp only [Option.some.injEq, Prod.mk.injEq] at H
        obtain ⟨rfl, rfl, rfl⟩ := H
        go_enter Try.func38, Try.ntmps38
        go_wp2_with (first|((with_reducible refine gate_callee (f := 52) rfl ?_); refine goesL_ (some 8) rfl rfl Try.func52 (by kernel_rfl) rfl #[.pointer (some ⟨g, 0, none⟩), .int .i64 a1] rfl (by first|(simp only [List.map_toArray, List.map_cons, List.map_nil] <;> rfl)|rfl|(simp only [List.length_drop, List.length_take]; rfl)) ?_; (with_reducible refine (barrier_Barrier_bad.calls g s0_0 s0_1 a1 false t104 t105 w0 _ ?side1 ?side2 A3.out).mono ?_); (case side1 => repeat (first|(with_reducible first|exact HI0.out|apply IsS66.alloc|apply IsS66.drewN|apply IsS66.drew|apply IsS66.set_0|apply IsS66.set_1)|exact HI0.out)); (case side2 => repeat (first|(with_reducible first|exact HB.out|apply ba_|apply pN_|apply b1_|refine bs_ ?_ (IsS66.ge HI0.out))|exact HB.out)); rintro e w12 ⟨rfl, hi, hb, hk⟩; refine ⟨_, rfl, ?_⟩; have n0_ := A0_ (KeepBut.trans (by repeat (first|(with_reducible first|exact HK.out|apply KeepBut.set_|apply keep_drewN|apply keep_drew|apply keep_alloc)|exact HK.out)) hk (.inl rfl)); have n1_ := A0_ (hb); have n2_ := A0_ (hi); clear HK; clear HB; clear HI0; have HK := n0_; have HB := n1_; have HI0 := n2_; clear n0_ n1_ n2_; (try clear hb); (try clear hb2); (try clear hk); (try clear hi); obtain ⟨HGz13, hgz13⟩ := HI0.out; have hcz13_0 := cellS66_0 HGz13; have hcz13_1 := cellS66_1 HGz13; have hfz13_0 := blk_frozen HGz13 0; have hfz13_1 := blk_frozen HGz13 1; clear HGz13 hgz13)|((with_reducible refine gate_callee (f := 53) rfl ?_); refine goesL_ (some 15) rfl rfl Try.func53 (by kernel_rfl) rfl #[.int .u64 t104, .int .i64 a1] rfl (by first|(simp only [List.map_toArray, List.map_cons, List.map_nil] <;> rfl)|rfl|(simp only [List.length_drop, List.length_take]; rfl)) ?_; (with_reducible refine (bits_Set_Has.calls t104 a1 false _ A6.out).mono ?_); rintro e w' ⟨rfl, ⟨nd, rfl⟩⟩; refine ⟨_, rfl, ?_⟩)|((with_reducible refine gate_callee (f := 54) rfl ?_); refine goesL_ (some 28) rfl rfl Try.func54 (by kernel_rfl) rfl #[.int .u64 t104, .int .i64 a1] rfl (by first|(simp only [List.map_toArray, List.map_cons, List.map_nil] <;> rfl)|rfl|(simp only [List.length_drop, List.length_take]; rfl)) ?_; (with_reducible refine (bits_Set_With.calls t104 a1 t107 _ A11.out).mono ?_); rintro e w' ⟨rfl, ⟨nd, rfl⟩⟩; refine ⟨_, rfl, ?_⟩))
        go_ret
        exact ⟨by first|rfl|(simp [errW_none, errW_some] <;> rfl)|(simp [*, errW_none, errW_some] <;> rfl), by repeat (first|(with_reducible first|exact HI0.out|apply IsS66.alloc|apply IsS66.drewN|apply IsS66.drew|apply IsS66.set_0|apply IsS66.set_1)|exact HI0.out), by repeat (first|(with_reducible first|exact HB.out|apply ba_|apply pN_|apply b1_|refine bs_ ?_ (IsS66.ge HI0.out))|exact HB.out), by repeat (first|(with_reducible first|exact HK.out|apply KeepBut.set_|apply keep_drewN|apply keep_drew|apply keep_alloc)|exact HK.out)⟩
      · rw [if_neg c10] at H
        have c10b0 : (t105 == 0) = false := beq_eq_false_iff_ne.mpr c10
        have c10b1 : (t105 != 0) = true := bne_iff_ne.mpr c10
        simp only [Option.some.injEq, Prod.mk.injEq] at H
        obtain ⟨rfl, rfl, rfl⟩ := H
        go_enter Try.func38, Try.ntmps38
        go_wp2_with (first|((with_reducible refine gate_callee (f := 52) rfl ?_); refine goesL_ (some 8) rfl rfl Try.func52 (by kernel_rfl) rfl #[.pointer (some ⟨g, 0, none⟩), .int .i64 a1] rfl (by first|(simp only [List.map_toArray, List.map_cons, List.map_nil] <;> rfl)|rfl|(simp only [List.length_drop, List.length_take]; rfl)) ?_; (with_reducible refine (barrier_Barrier_bad.calls g s0_0 s0_1 a1 false t104 t105 w0 _ ?side1 ?side2 A3.out).mono ?_); (case side1 => repeat (first|(with_reducible first|exact HI0.out|apply IsS66.alloc|apply IsS66.drewN|apply IsS66.drew|apply IsS66.set_0|apply IsS66.set_1)|exact HI0.out)); (case side2 => repeat (first|(with_reducible first|exact HB.out|apply ba_|apply pN_|apply b1_|refine bs_ ?_ (IsS66.ge HI0.out))|exact HB.out)); rintro e w14 ⟨rfl, hi, hb, hk⟩; refine ⟨_, rfl, ?_⟩; have n0_ := A0_ (KeepBut.trans (by repeat (first|(with_reducible first|exact HK.out|apply KeepBut.set_|apply keep_drewN|apply keep_drew|apply keep_alloc)|exact HK.out)) hk (.inl rfl)); have n1_ := A0_ (hb); have n2_ := A0_ (hi); clear HK; clear HB; clear HI0; have HK := n0_; have HB := n1_; have HI0 := n2_; clear n0_ n1_ n2_; (try clear hb); (try clear hb2); (try clear hk); (try clear hi); obtain ⟨HGz15, hgz15⟩ := HI0.out; have hcz15_0 := cellS66_0 HGz15; have hcz15_1 := cellS66_1 HGz15; have hfz15_0 := blk_frozen HGz15 0; have hfz15_1 := blk_frozen HGz15 1; clear HGz15 hgz15)|((with_reducible refine gate_callee (f := 53) rfl ?_); refine goesL_ (some 15) rfl rfl Try.func53 (by kernel_rfl) rfl #[.int .u64 t104, .int .i64 a1] rfl (by first|(simp only [List.map_toArray, List.map_cons, List.map_nil] <;> rfl)|rfl|(simp only [List.length_drop, List.length_take]; rfl)) ?_; (with_reducible refine (bits_Set_Has.calls t104 a1 false _ A6.out).mono ?_); rintro e w' ⟨rfl, ⟨nd, rfl⟩⟩; refine ⟨_, rfl, ?_⟩))
        go_ret
        exact ⟨by first|rfl|(simp [errW_none, errW_some] <;> rfl)|(simp [*, errW_none, errW_some] <;> rfl), by repeat (first|(with_reducible first|exact HI0.out|apply IsS66.alloc|apply IsS66.drewN|apply IsS66.drew|apply IsS66.set_0|apply IsS66.set_1)|exact HI0.out), by repeat (first|(with_reducible first|exact HB.out|apply ba_|apply pN_|apply b1_|refine bs_ ?_ (IsS66.ge HI0.out))|exact HB.out), by repeat (first|(with_reducible first|exact HK.out|apply KeepBut.set_|apply keep_drewN|apply keep_drew|apply keep_alloc)|exact HK.out)⟩

/-! ### barrier_Barrier_clear: function 55 -/
def barrier_Barrier_clear.f (s0_0 : Int) (s0_1 : Int) : Option (Int × Int × Int) := some (s0_1, s0_0, 0)
set_option maxHeartbeats 8000000 in
set_option maxRecDepth 100000 in
theorem barrier_Barrier_clear.calls (g : Nat) (s0_0 : Int) (s0_1 : Int) (r1 : Int) (r2 : Int) (r3 : Int) (w0 w : World) (hI : IsS66 w0 w g s0_0 s0_1) (hB : Below w0.heap.size w0 w) (h : barrier_Barrier_clear.f s0_0 s0_1 = some (r1, r2, r3)) :
    Calls Try.prog 55 #[.pointer (some ⟨g, 0, none⟩)] w fun e w' => e = .returned (.int .u64 r1) ∧ IsS66 w0 w' g r2 r3 ∧ Below w0.heap.size w0 w' ∧ KeepBut w w' g none := by
  have HI0 := A0_ hI
  have HK := A0_ (KeepBut.refl w g none)
  have HL := A0_ hB.size
  clear hI
  have HW0 := A0_ hB.size
  have HB := A0_ hB
  clear hB
  have H : (some (s0_1, s0_0, 0)) = some (r1, r2, r3) := h
  clear h
  simp only [Option.some.injEq, Prod.mk.injEq] at H
  obtain ⟨rfl, rfl, rfl⟩ := H
  obtain ⟨HGz2, hgz2⟩ := HI0.out
  have hcz2_0 := cellS66_0 HGz2
  have hcz2_1 := cellS66_1 HGz2
  have hfz2_0 := blk_frozen HGz2 0
  have hfz2_1 := blk_frozen HGz2 1
  clear HGz2 hgz2
  go_enter Try.func55, Try.ntmps55
  go_wp2
  go_ret
  exact ⟨by first|rfl|(simp [errW_none, errW_some] <;> rfl)|(simp [*, errW_none, errW_some] <;> rfl), by repeat (first|(with_reducible first|exact HI0.out|apply IsS66.alloc|apply IsS66.drewN|apply IsS66.drew|apply IsS66.set_0|apply IsS66.set_1)|exact HI0.out), by repeat (first|(with_reducible first|exact HB.out|apply ba_|apply pN_|apply b1_|refine bs_ ?_ (IsS66.ge HI0.out))|exact HB.out), by repeat (first|(with_reducible first|exact HK.out|apply KeepBut.set_|apply keep_drewN|apply keep_drew|apply keep_alloc)|exact HK.out)⟩

/-! ### barrier_Barrier_Arrive: function 39 -/
def barrier_Barrier_Arrive.f (s0_0 : Int) (s0_1 : Int) (a1 : Int) : Option (Int × Bool × Int × Int × Int) := (barrier_Barrier_bad.f s0_0 s0_1 a1).bind fun bt108 => (if bt108.1 = true then (some (0, false, 1, bt108.2.1, bt108.2.2)) else ((bits_Set_Has.f bt108.2.1 a1).bind fun t111 => (if t111 = true then ((bits_Set_Has.f bt108.2.2 a1).bind fun t112 => (if t112 = true then (some (0, false, 7, bt108.2.1, bt108.2.2)) else ((bits_Set_With.f bt108.2.2 a1).bind fun t113 => (if t113 = bt108.2.1 then ((barrier_Barrier_clear.f bt108.2.1 bt108.2.2).bind fun bt114 => (some (bt114.1, true, 0, bt114.2.1, bt114.2.2))) else (some (0, false, 0, bt108.2.1, t113)))))) else (some (0, false, 9, bt108.2.1, bt108.2.2)))))
set_option maxHeartbeats 8000000 in
set_option maxRecDepth 100000 in
theorem barrier_Barrier_Arrive.calls (g : Nat) (s0_0 : Int) (s0_1 : Int) (a1 : Int) (r1 : Int) (r2 : Bool) (r3 : Int) (r4 : Int) (r5 : Int) (w0 w : World) (hI : IsS66 w0 w g s0_0 s0_1) (hB : Below w0.heap.size w0 w) (h : barrier_Barrier_Arrive.f s0_0 s0_1 a1 = some (r1, r2, r3, r4, r5)) :
    Calls Try.prog 39 #[.pointer (some ⟨g, 0, none⟩), .int .i64 a1] w fun e w' => e = .returned (.tuple #[.int .u64 r1, .bool r2, .int .i64 r3]) ∧ IsS66 w0 w' g r4 r5 ∧ Below w0.heap.size w0 w' ∧ KeepBut w w' g none := by
  have HI0 := A0_ hI
  have HK := A0_ (KeepBut.refl w g none)
  have HL := A0_ hB.size
  clear hI
  have HW0 := A0_ hB.size
  have HB := A0_ hB
  clear hB
  have H : ((barrier_Barrier_bad.f s0_0 s0_1 a1).bind fun bt108 => (if bt108.1 = true then (some (0, false, 1, bt108.2.1, bt108.2.2)) else ((bits_Set_Has.f bt108.2.1 a1).bind fun t111 => (if t111 = true then ((bits_Set_Has.f bt108.2.2 a1).bind fun t112 => (if t112 = true then (some (0, false, 7, bt108.2.1, bt108.2.2)) else ((bits_Set_With.f bt108.2.2 a1).bind fun t113 => (if t113 = bt108.2.1 then ((barrier_Barrier_clear.f bt108.2.1 bt108.2.2).bind fun bt114 => (some (bt114.1, true, 0, bt114.2.1, bt114.2.2))) else (some (0, false, 0, bt108.2.1, t113)))))) else (some (0, false, 9, bt108.2.1, bt108.2.2)))))) = some (r1, r2, r3, r4, r5) := h
  clear h
  replace H := bm_ H
  obtain ⟨⟨t108, t109, t110⟩, A30, H⟩ := H
  replace H : (if t108 = true then (some (0, false, 1, t109, t110)) else ((bits_Set_Has.f t109 a1).bind fun t111 => (if t111 = true then ((bits_Set_Has.f t110 a1).bind fun t112 => (if t112 = true then (some (0, false, 7, t109, t110)) else ((bits_Set_With.f t110 a1).bind fun t113 => (if t113 = t109 then ((barrier_Barrier_clear.f t109 t110).bind fun bt114 => (some (bt114.1, true, 0, bt114.2.1, bt114.2.2))) else (some (0, false, 0, t109, t113)))))) else (some (0, false, 9, t109, t110))))) = some (r1, r2, r3, r4, r5) := H
  have A3 := A0_ A30
  clear A30
  by_cases c4 : t108 = true
  · subst c4
    have H1 : (some (0, false, 1, t109, t110)) = some (r1, r2, r3, r4, r5) := by rw [if_pos rfl] at H; exact H
    clear H
    have H := H1
    clear H1
    simp only [Option.some.injEq, Prod.mk.injEq] at H
    obtain ⟨rfl, rfl, rfl, rfl, rfl⟩ := H
    go_enter Try.func39, Try.ntmps39
    go_wp2_with (first|(go_at_call 52; (with_reducible refine (barrier_Barrier_bad.calls g s0_0 s0_1 a1 true t109 t110 w0 _ ?side1 ?side2 A3.out).mono ?_); (case side1 => repeat (first|(with_reducible first|exact HI0.out|apply IsS66.alloc|apply IsS66.drewN|apply IsS66.drew|apply IsS66.set_0|apply IsS66.set_1)|exact HI0.out)); (case side2 => repeat (first|(with_reducible first|exact HB.out|apply ba_|apply pN_|apply b1_|refine bs_ ?_ (IsS66.ge HI0.out))|exact HB.out)); rintro e w5 ⟨rfl, hi, hb, hk⟩; have n0_ := A0_ (KeepBut.trans (by repeat (first|(with_reducible first|exact HK.out|apply KeepBut.set_|apply keep_drewN|apply keep_drew|apply keep_alloc)|exact HK.out)) hk (.inl rfl)); have n1_ := A0_ (hb); have n2_ := A0_ (hi); clear HK; clear HB; clear HI0; have HK := n0_; have HB := n1_; have HI0 := n2_; clear n0_ n1_ n2_; (try clear hb); (try clear hb2); (try clear hk); (try clear hi)))
    repeat (go_quiet (first|(go_at_call 52; (with_reducible refine (barrier_Barrier_bad.calls g s0_0 s0_1 a1 true t109 t110 w0 _ ?side1 ?side2 A3.out).mono ?_); (case side1 => repeat (first|(with_reducible first|exact HI0.out|apply IsS66.alloc|apply IsS66.drewN|apply IsS66.drew|apply IsS66.set_0|apply IsS66.set_1)|exact HI0.out)); (case side2 => repeat (first|(with_reducible first|exact HB.out|apply ba_|apply pN_|apply b1_|refine bs_ ?_ (IsS66.ge HI0.out))|exact HB.out)); rintro e w5 ⟨rfl, hi, hb, hk⟩; have n0_ := A0_ (KeepBut.trans (by repeat (first|(with_reducible first|exact HK.out|apply KeepBut.set_|apply keep_drewN|apply keep_drew|apply keep_alloc)|exact HK.out)) hk (.inl rfl)); have n1_ := A0_ (hb); have n2_ := A0_ (hi); clear HK; clear HB; clear HI0; have HK := n0_; have HB := n1_; have HI0 := n2_; clear n0_ n1_ n2_; (try clear hb); (try clear hb2); (try clear hk); (try clear hi))); try go_wp2_with (first|(go_at_call 52; (with_reducible refine (barrier_Barrier_bad.calls g s0_0 s0_1 a1 true t109 t110 w0 _ ?side1 ?side2 A3.out).mono ?_); (case side1 => repeat (first|(with_reducible first|exact HI0.out|apply IsS66.alloc|apply IsS66.drewN|apply IsS66.drew|apply IsS66.set_0|apply IsS66.set_1)|exact HI0.out)); (case side2 => repeat (first|(with_reducible first|exact HB.out|apply ba_|apply pN_|apply b1_|refine bs_ ?_ (IsS66.ge HI0.out))|exact HB.out)); rintro e w5 ⟨rfl, hi, hb, hk⟩; have n0_ := A0_ (KeepBut.trans (by repeat (first|(with_reducible first|exact HK.out|apply KeepBut.set_|apply keep_drewN|apply keep_drew|apply keep_alloc)|exact HK.out)) hk (.inl rfl)); have n1_ := A0_ (hb); have n2_ := A0_ (hi); clear HK; clear HB; clear HI0; have HK := n0_; have HB := n1_; have HI0 := n2_; clear n0_ n1_ n2_; (try clear hb); (try clear hb2); (try clear hk); (try clear hi))))
    go_ret3
    exact ⟨by first|rfl|(simp [errW_none, errW_some] <;> rfl)|(simp [*, errW_none, errW_some] <;> rfl), by repeat (first|(with_reducible first|exact HI0.out|apply IsS66.alloc|apply IsS66.drewN|apply IsS66.drew|apply IsS66.set_0|apply IsS66.set_1)|exact HI0.out), by repeat (first|(with_reducible first|exact HB.out|apply ba_|apply pN_|apply b1_|refine bs_ ?_ (IsS66.ge HI0.out))|exact HB.out), by repeat (first|(with_reducible first|exact HK.out|apply KeepBut.set_|apply keep_drewN|apply keep_drew|apply keep_alloc)|exact HK.out)⟩
  · replace c4 := Bool.eq_false_iff.mpr c4
    subst c4
    have H1 : ((bits_Set_Has.f t109 a1).bind fun t111 => (if t111 = true then ((bits_Set_Has.f t110 a1).bind fun t112 => (if t112 = true then (some (0, false, 7, t109, t110)) else ((bits_Set_With.f t110 a1).bind fun t113 => (if t113 = t109 then ((barrier_Barrier_clear.f t109 t110).bind fun bt114 => (some (bt114.1, true, 0, bt114.2.1, bt114.2.2))) else (some (0, false, 0, t109, t113)))))) else (some (0, false, 9, t109, t110)))) = some (r1, r2, r3, r4, r5) := by rw [if_neg (show ¬ (false = true) by decide)] at H; exact H
    clear H
    have H := H1
    clear H1
    replace H := bm_ H
    obtain ⟨t111, A60, H⟩ := H
    replace H : (if t111 = true then ((bits_Set_Has.f t110 a1).bind fun t112 => (if t112 = true then (some (0, false, 7, t109, t110)) else ((bits_Set_With.f t110 a1).bind fun t113 => (if t113 = t109 then ((barrier_Barrier_clear.f t109 t110).bind fun bt114 => (some (bt114.1, true, 0, bt114.2.1, bt114.2.2))) else (some (0, false, 0, t109, t113)))))) else (some (0, false, 9, t109, t110))) = some (r1, r2, r3, r4, r5) := H
    have A6 := A0_ A60
    clear A60
    by_cases c7 : t111 = true
    · subst c7
      have H1 : ((bits_Set_Has.f t110 a1).bind fun t112 => (if t112 = true then (some (0, false, 7, t109, t110)) else ((bits_Set_With.f t110 a1).bind fun t113 => (if t113 = t109 then ((barrier_Barrier_clear.f t109 t110).bind fun bt114 => (some (bt114.1, true, 0, bt114.2.1, bt114.2.2))) else (some (0, false, 0, t109, t113)))))) = some (r1, r2, r3, r4, r5) := by rw [if_pos rfl] at H; exact H
      clear H
      have H := H1
      clear H1
      replace H := bm_ H
      obtain ⟨t112, A80, H⟩ := H
      replace H : (if t112 = true then (some (0, false, 7, t109, t110)) else ((bits_Set_With.f t110 a1).bind fun t113 => (if t113 = t109 then ((barrier_Barrier_clear.f t109 t110).bind fun bt114 => (some (bt114.1, true, 0, bt114.2.1, bt114.2.2))) else (some (0, false, 0, t109, t113))))) = some (r1, r2, r3, r4, r5) := H
      have A8 := A0_ A80
      clear A80
      by_cases c9 : t112 = true
      · subst c9
        have H1 : (some (0, false, 7, t109, t110)) = some (r1, r2, r3, r4, r5) := by rw [if_pos rfl] at H; exact H
        clear H
        have H := H1
        clear H1
        simp only [Option.some.injEq, Prod.mk.injEq] at H
        obtain ⟨rfl, rfl, rfl, rfl, rfl⟩ := H
        go_enter Try.func39, Try.ntmps39
        go_wp2_with (first|(go_at_call 52; (with_reducible refine (barrier_Barrier_bad.calls g s0_0 s0_1 a1 false t109 t110 w0 _ ?side1 ?side2 A3.out).mono ?_); (case side1 => repeat (first|(with_reducible first|exact HI0.out|apply IsS66.alloc|apply IsS66.drewN|apply IsS66.drew|apply IsS66.set_0|apply IsS66.set_1)|exact HI0.out)); (case side2 => repeat (first|(with_reducible first|exact HB.out|apply ba_|apply pN_|apply b1_|refine bs_ ?_ (IsS66.ge HI0.out))|exact HB.out)); rintro e w10 ⟨rfl, hi, hb, hk⟩; have n0_ := A0_ (KeepBut.trans (by repeat (first|(with_reducible first|exact HK.out|apply KeepBut.set_|apply keep_drewN|apply keep_drew|apply keep_alloc)|exact HK.out)) hk (.inl rfl)); have n1_ := A0_ (hb); have n2_ := A0_ (hi); clear HK; clear HB; clear HI0; have HK := n0_; have HB := n1_; have HI0 := n2_; clear n0_ n1_ n2_; (try clear hb); (try clear hb2); (try clear hk); (try clear hi); obtain ⟨HGz11, hgz11⟩ := HI0.out; have hcz11_0 := cellS66_0 HGz11; have hcz11_1 := cellS66_1 HGz11; have hfz11_0 := blk_frozen HGz11 0; have hfz11_1 := blk_frozen HGz11 1; clear HGz11 hgz11)|(go_at_call 53; (with_reducible refine (bits_Set_Has.calls t109 a1 true _ A6.out).mono ?_); rintro e w' ⟨rfl, ⟨nd, rfl⟩⟩; (try first|exact ⟨rfl, _, World.drewN_drewN _ _ _⟩|exact ⟨rfl, _, Eq.trans (World.drewN_drewN _ _ _) (congrArg (World.drewN _) (Nat.add_assoc _ _ _))⟩))|(go_at_call 53; (with_reducible refine (bits_Set_Has.calls t110 a1 true _ A8.out).mono ?_); rintro e w' ⟨rfl, ⟨nd, rfl⟩⟩; (try first|exact ⟨rfl, _, World.drewN_drewN _ _ _⟩|exact ⟨rfl, _, Eq.trans (World.drewN_drewN _ _ _) (congrArg (World.drewN _) (Nat.add_assoc _ _ _))⟩)))
        repeat (go_quiet (first|(go_at_call 52; (with_reducible refine (barrier_Barrier_bad.calls g s0_0 s0_1 a1 false t109 t110 w0 _ ?side1 ?side2 A3.out).mono ?_); (case side1 => repeat (first|(with_reducible first|exact HI0.out|apply IsS66.alloc|apply IsS66.drewN|apply IsS66.drew|apply IsS66.set_0|apply IsS66.set_1)|exact HI0.out)); (case side2 => repeat (first|(with_reducible first|exact HB.out|apply ba_|apply pN_|apply b1_|refine bs_ ?_ (IsS66.ge HI0.out))|exact HB.out)); rintro e w10 ⟨rfl, hi, hb, hk⟩; have n0_ := A0_ (KeepBut.trans (by repeat (first|(with_reducible first|exact HK.out|apply KeepBut.set_|apply keep_drewN|apply keep_drew|apply keep_alloc)|exact HK.out)) hk (.inl rfl)); have n1_ := A0_ (hb); have n2_ := A0_ (hi); clear HK; clear HB; clear HI0; have HK := n0_; have HB := n1_; have HI0 := n2_; clear n0_ n1_ n2_; (try clear hb); (try clear hb2); (try clear hk); (try clear hi); obtain ⟨HGz11, hgz11⟩ := HI0.out; have hcz11_0 := cellS66_0 HGz11; have hcz11_1 := cellS66_1 HGz11; have hfz11_0 := blk_frozen HGz11 0; have hfz11_1 := blk_frozen HGz11 1; clear HGz11 hgz11)|(go_at_call 53; (with_reducible refine (bits_Set_Has.calls t109 a1 true _ A6.out).mono ?_); rintro e w' ⟨rfl, ⟨nd, rfl⟩⟩; (try first|exact ⟨rfl, _, World.drewN_drewN _ _ _⟩|exact ⟨rfl, _, Eq.trans (World.drewN_drewN _ _ _) (congrArg (World.drewN _) (Nat.add_assoc _ _ _))⟩))|(go_at_call 53; (with_reducible refine (bits_Set_Has.calls t110 a1 true _ A8.out).mono ?_); rintro e w' ⟨rfl, ⟨nd, rfl⟩⟩; (try first|exact ⟨rfl, _, World.drewN_drewN _ _ _⟩|exact ⟨rfl, _, Eq.trans (World.drewN_drewN _ _ _) (congrArg (World.drewN _) (Nat.add_assoc _ _ _))⟩))); try go_wp2_with (first|(go_at_call 52; (with_reducible refine (barrier_Barrier_bad.calls g s0_0 s0_1 a1 false t109 t110 w0 _ ?side1 ?side2 A3.out).mono ?_); (case side1 => repeat (first|(with_reducible first|exact HI0.out|apply IsS66.alloc|apply IsS66.drewN|apply IsS66.drew|apply IsS66.set_0|apply IsS66.set_1)|exact HI0.out)); (case side2 => repeat (first|(with_reducible first|exact HB.out|apply ba_|apply pN_|apply b1_|refine bs_ ?_ (IsS66.ge HI0.out))|exact HB.out)); rintro e w10 ⟨rfl, hi, hb, hk⟩; have n0_ := A0_ (KeepBut.trans (by repeat (first|(with_reducible first|exact HK.out|apply KeepBut.set_|apply keep_drewN|apply keep_drew|apply keep_alloc)|exact HK.out)) hk (.inl rfl)); have n1_ := A0_ (hb); have n2_ := A0_ (hi); clear HK; clear HB; clear HI0; have HK := n0_; have HB := n1_; have HI0 := n2_; clear n0_ n1_ n2_; (try clear hb); (try clear hb2); (try clear hk); (try clear hi); obtain ⟨HGz11, hgz11⟩ := HI0.out; have hcz11_0 := cellS66_0 HGz11; have hcz11_1 := cellS66_1 HGz11; have hfz11_0 := blk_frozen HGz11 0; have hfz11_1 := blk_frozen HGz11 1; clear HGz11 hgz11)|(go_at_call 53; (with_reducible refine (bits_Set_Has.calls t109 a1 true _ A6.out).mono ?_); rintro e w' ⟨rfl, ⟨nd, rfl⟩⟩; (try first|exact ⟨rfl, _, World.drewN_drewN _ _ _⟩|exact ⟨rfl, _, Eq.trans (World.drewN_drewN _ _ _) (congrArg (World.drewN _) (Nat.add_assoc _ _ _))⟩))|(go_at_call 53; (with_reducible refine (bits_Set_Has.calls t110 a1 true _ A8.out).mono ?_); rintro e w' ⟨rfl, ⟨nd, rfl⟩⟩; (try first|exact ⟨rfl, _, World.drewN_drewN _ _ _⟩|exact ⟨rfl, _, Eq.trans (World.drewN_drewN _ _ _) (congrArg (World.drewN _) (Nat.add_assoc _ _ _))⟩))))
        go_ret3
        exact ⟨by first|rfl|(simp [errW_none, errW_some] <;> rfl)|(simp [*, errW_none, errW_some] <;> rfl), by repeat (first|(with_reducible first|exact HI0.out|apply IsS66.alloc|apply IsS66.drewN|apply IsS66.drew|apply IsS66.set_0|apply IsS66.set_1)|exact HI0.out), by repeat (first|(with_reducible first|exact HB.out|apply ba_|apply pN_|apply b1_|refine bs_ ?_ (IsS66.ge HI0.out))|exact HB.out), by repeat (first|(with_reducible first|exact HK.out|apply KeepBut.set_|apply keep_drewN|apply keep_drew|apply keep_alloc)|exact HK.out)⟩
      · replace c9 := Bool.eq_false_iff.mpr c9
        subst c9
        have H1 : ((bits_Set_With.f t110 a1).bind fun t113 => (if t113 = t109 then ((barrier_Barrier_clear.f t109 t110).bind fun bt114 => (some (bt114.1, true, 0, bt114.2.1, bt114.2.2))) else (some (0, false, 0, t109, t113)))) = some (r1, r2, r3, r4, r5) := by rw [if_neg (show ¬ (false = true) by decide)] at H; exact H
        clear H
        have H := H1
        clear H1
        replace H := bm_ H
        obtain ⟨t113, A120, H⟩ := H
        replace H : (if t113 = t109 then ((barrier_Barrier_clear.f t109 t110).bind fun bt114 => (some (bt114.1, true, 0, bt114.2.1, bt114.2.2))) else (some (0, false, 0, t109, t113))) = some (r1, r2, r3, r4, r5) := H
        have A12 := A0_ A120
        clear A120
        by_cases c13 : t113 = t109
        · rw [if_pos c13] at H
          have c13b0 : (t113 == t109) = true := beq_iff_eq.mpr c13
          have c13b1 : (t113 != t109) = false := bne_eq_false_iff_eq.mpr c13
          clear c13
          replace H := bm_ H
          obtain ⟨⟨t114, t115, t116⟩, A140, H⟩ := H
          replace H : (some (t114, true, 0, t115, t116)) = some (r1, r2, r3, r4, r5) := H
          have A14 := A0_ A140
          clear A140
          simp only [Option.some.injEq, Prod.mk.injEq] at H
          obtain ⟨rfl, rfl, rfl, rfl, rfl⟩ := H
          go_enter Try.func39, Try.ntmps39
          go_wp2_with (first|(go_at_call 52; (with_reducible refine (barrier_Barrier_bad.calls g s0_0 s0_1 a1 false t109 t110 w0 _ ?side1 ?side2 A3.out).mono ?_); (case side1 => repeat (first|(with_reducible first|exact HI0.out|apply IsS66.alloc|apply IsS66.drewN|apply IsS66.drew|apply IsS66.set_0|apply IsS66.set_1)|exact HI0.out)); (case side2 => repeat (first|(with_reducible first|exact HB.out|apply ba_|apply pN_|apply b1_|refine bs_ ?_ (IsS66.ge HI0.out))|exact HB.out)); rintro e w15 ⟨rfl, hi, hb, hk⟩; have n0_ := A0_ (KeepBut.trans (by repeat (first|(with_reducible first|exact HK.out|apply KeepBut.set_|apply keep_drewN|apply keep_drew|apply keep_alloc)|exact HK.out)) hk (.inl rfl)); have n1_ := A0_ (hb); have n2_ := A0_ (hi); clear HK; clear HB; clear HI0; have HK := n0_; have HB := n1_; have HI0 := n2_; clear n0_ n1_ n2_; (try clear hb); (try clear hb2); (try clear hk); (try clear hi); obtain ⟨HGz16, hgz16⟩ := HI0.out; have hcz16_0 := cellS66_0 HGz16; have hcz16_1 := cellS66_1 HGz16; have hfz16_0 := blk_frozen HGz16 0; have hfz16_1 := blk_frozen HGz16 1; clear HGz16 hgz16)|(go_at_call 53; (with_reducible refine (bits_Set_Has.calls t109 a1 true _ A6.out).mono ?_); rintro e w' ⟨rfl, ⟨nd, rfl⟩⟩; (try first|exact ⟨rfl, _, World.drewN_drewN _ _ _⟩|exact ⟨rfl, _, Eq.trans (World.drewN_drewN _ _ _) (congrArg (World.drewN _) (Nat.add_assoc _ _ _))⟩))|(go_at_call 53; (with_reducible refine (bits_Set_Has.calls t110 a1 false _ A8.out).mono ?_); rintro e w' ⟨rfl, ⟨nd, rfl⟩⟩; (try first|exact ⟨rfl, _, World.drewN_drewN _ _ _⟩|exact ⟨rfl, _, Eq.trans (World.drewN_drewN _ _ _) (congrArg (World.drewN _) (Nat.add_assoc _ _ _))⟩))|(go_at_call 54; (with_reducible refine (bits_Set_With.calls t110 a1 t113 _ A12.out).mono ?_); rintro e w' ⟨rfl, ⟨nd, rfl⟩⟩; (try first|exact ⟨rfl, _, World.drewN_drewN _ _ _⟩|exact ⟨rfl, _, Eq.trans (World.drewN_drewN _ _ _) (congrArg (World.drewN _) (Nat.add_assoc _ _ _))⟩))|(go_at_call 55; (with_reducible refine (barrier_Barrier_clear.calls g t109 t110 t114 t115 t116 w0 _ ?side1 ?side2 A14.out).mono ?_); (case side1 => repeat (first|(with_reducible first|exact HI0.out|apply IsS66.alloc|apply IsS66.drewN|apply IsS66.drew|apply IsS66.set_0|apply IsS66.set_1)|exact HI0.out)); (case side2 => repeat (first|(with_reducible first|exact HB.out|apply ba_|apply pN_|apply b1_|refine bs_ ?_ (IsS66.ge HI0.out))|exact HB.out)); rintro e w17 ⟨rfl, hi, hb, hk⟩; have n0_ := A0_ (KeepBut.trans (by repeat (first|(with_reducible first|exact HK.out|apply KeepBut.set_|apply keep_drewN|apply keep_drew|apply keep_alloc)|exact HK.out)) hk (.inl rfl)); have n1_ := A0_ (hb); have n2_ := A0_ (hi); clear HK; clear HB; clear HI0; have HK := n0_; have HB := n1_; have HI0 := n2_; clear n0_ n1_ n2_; (try clear hb); (try clear hb2); (try clear hk); (try clear hi)))
          repeat (go_quiet (first|(go_at_call 52; (with_reducible refine (barrier_Barrier_bad.calls g s0_0 s0_1 a1 false t109 t110 w0 _ ?side1 ?side2 A3.out).mono ?_); (case side1 => repeat (first|(with_reducible first|exact HI0.out|apply IsS66.alloc|apply IsS66.drewN|apply IsS66.drew|apply IsS66.set_0|apply IsS66.set_1)|exact HI0.out)); (case side2 => repeat (first|(with_reducible first|exact HB.out|apply ba_|apply pN_|apply b1_|refine bs_ ?_ (IsS66.ge HI0.out))|exact HB.out)); rintro e w15 ⟨rfl, hi, hb, hk⟩; have n0_ := A0_ (KeepBut.trans (by repeat (first|(with_reducible first|exact HK.out|apply KeepBut.set_|apply keep_drewN|apply keep_drew|apply keep_alloc)|exact HK.out)) hk (.inl rfl)); have n1_ := A0_ (hb); have n2_ := A0_ (hi); clear HK; clear HB; clear HI0; have HK := n0_; have HB := n1_; have HI0 := n2_; clear n0_ n1_ n2_; (try clear hb); (try clear hb2); (try clear hk); (try clear hi); obtain ⟨HGz16, hgz16⟩ := HI0.out; have hcz16_0 := cellS66_0 HGz16; have hcz16_1 := cellS66_1 HGz16; have hfz16_0 := blk_frozen HGz16 0; have hfz16_1 := blk_frozen HGz16 1; clear HGz16 hgz16)|(go_at_call 53; (with_reducible refine (bits_Set_Has.calls t109 a1 true _ A6.out).mono ?_); rintro e w' ⟨rfl, ⟨nd, rfl⟩⟩; (try first|exact ⟨rfl, _, World.drewN_drewN _ _ _⟩|exact ⟨rfl, _, Eq.trans (World.drewN_drewN _ _ _) (congrArg (World.drewN _) (Nat.add_assoc _ _ _))⟩))|(go_at_call 53; (with_reducible refine (bits_Set_Has.calls t110 a1 false _ A8.out).mono ?_); rintro e w' ⟨rfl, ⟨nd, rfl⟩⟩; (try first|exact ⟨rfl, _, World.drewN_drewN _ _ _⟩|exact ⟨rfl, _, Eq.trans (World.drewN_drewN _ _ _) (congrArg (World.drewN _) (Nat.add_assoc _ _ _))⟩))|(go_at_call 54; (with_reducible refine (bits_Set_With.calls t110 a1 t113 _ A12.out).mono ?_); rintro e w' ⟨rfl, ⟨nd, rfl⟩⟩; (try first|exact ⟨rfl, _, World.drewN_drewN _ _ _⟩|exact ⟨rfl, _, Eq.trans (World.drewN_drewN _ _ _) (congrArg (World.drewN _) (Nat.add_assoc _ _ _))⟩))|(go_at_call 55; (with_reducible refine (barrier_Barrier_clear.calls g t109 t110 t114 t115 t116 w0 _ ?side1 ?side2 A14.out).mono ?_); (case side1 => repeat (first|(with_reducible first|exact HI0.out|apply IsS66.alloc|apply IsS66.drewN|apply IsS66.drew|apply IsS66.set_0|apply IsS66.set_1)|exact HI0.out)); (case side2 => repeat (first|(with_reducible first|exact HB.out|apply ba_|apply pN_|apply b1_|refine bs_ ?_ (IsS66.ge HI0.out))|exact HB.out)); rintro e w17 ⟨rfl, hi, hb, hk⟩; have n0_ := A0_ (KeepBut.trans (by repeat (first|(with_reducible first|exact HK.out|apply KeepBut.set_|apply keep_drewN|apply keep_drew|apply keep_alloc)|exact HK.out)) hk (.inl rfl)); have n1_ := A0_ (hb); have n2_ := A0_ (hi); clear HK; clear HB; clear HI0; have HK := n0_; have HB := n1_; have HI0 := n2_; clear n0_ n1_ n2_; (try clear hb); (try clear hb2); (try clear hk); (try clear hi))); try go_wp2_with (first|(go_at_call 52; (with_reducible refine (barrier_Barrier_bad.calls g s0_0 s0_1 a1 false t109 t110 w0 _ ?side1 ?side2 A3.out).mono ?_); (case side1 => repeat (first|(with_reducible first|exact HI0.out|apply IsS66.alloc|apply IsS66.drewN|apply IsS66.drew|apply IsS66.set_0|apply IsS66.set_1)|exact HI0.out)); (case side2 => repeat (first|(with_reducible first|exact HB.out|apply ba_|apply pN_|apply b1_|refine bs_ ?_ (IsS66.ge HI0.out))|exact HB.out)); rintro e w15 ⟨rfl, hi, hb, hk⟩; have n0_ := A0_ (KeepBut.trans (by repeat (first|(with_reducible first|exact HK.out|apply KeepBut.set_|apply keep_drewN|apply keep_drew|apply keep_alloc)|exact HK.out)) hk (.inl rfl)); have n1_ := A0_ (hb); have n2_ := A0_ (hi); clear HK; clear HB; clear HI0; have HK := n0_; have HB := n1_; have HI0 := n2_; clear n0_ n1_ n2_; (try clear hb); (try clear hb2); (try clear hk); (try clear hi); obtain ⟨HGz16, hgz16⟩ := HI0.out; have hcz16_0 := cellS66_0 HGz16; have hcz16_1 := cellS66_1 HGz16; have hfz16_0 := blk_frozen HGz16 0; have hfz16_1 := blk_frozen HGz16 1; clear HGz16 hgz16)|(go_at_call 53; (with_reducible refine (bits_Set_Has.calls t109 a1 true _ A6.out).mono ?_); rintro e w' ⟨rfl, ⟨nd, rfl⟩⟩; (try first|exact ⟨rfl, _, World.drewN_drewN _ _ _⟩|exact ⟨rfl, _, Eq.trans (World.drewN_drewN _ _ _) (congrArg (World.drewN _) (Nat.add_assoc _ _ _))⟩))|(go_at_call 53; (with_reducible refine (bits_Set_Has.calls t110 a1 false _ A8.out).mono ?_); rintro e w' ⟨rfl, ⟨nd, rfl⟩⟩; (try first|exact ⟨rfl, _, World.drewN_drewN _ _ _⟩|exact ⟨rfl, _, Eq.trans (World.drewN_drewN _ _ _) (congrArg (World.drewN _) (Nat.add_assoc _ _ _))⟩))|(go_at_call 54; (with_reducible refine (bits_Set_With.calls t110 a1 t113 _ A12.out).mono ?_); rintro e w' ⟨rfl, ⟨nd, rfl⟩⟩; (try first|exact ⟨rfl, _, World.drewN_drewN _ _ _⟩|exact ⟨rfl, _, Eq.trans (World.drewN_drewN _ _ _) (congrArg (World.drewN _) (Nat.add_assoc _ _ _))⟩))|(go_at_call 55; (with_reducible refine (barrier_Barrier_clear.calls g t109 t110 t114 t115 t116 w0 _ ?side1 ?side2 A14.out).mono ?_); (case side1 => repeat (first|(with_reducible first|exact HI0.out|apply IsS66.alloc|apply IsS66.drewN|apply IsS66.drew|apply IsS66.set_0|apply IsS66.set_1)|exact HI0.out)); (case side2 => repeat (first|(with_reducible first|exact HB.out|apply ba_|apply pN_|apply b1_|refine bs_ ?_ (IsS66.ge HI0.out))|exact HB.out)); rintro e w17 ⟨rfl, hi, hb, hk⟩; have n0_ := A0_ (KeepBut.trans (by repeat (first|(with_reducible first|exact HK.out|apply KeepBut.set_|apply keep_drewN|apply keep_drew|apply keep_alloc)|exact HK.out)) hk (.inl rfl)); have n1_ := A0_ (hb); have n2_ := A0_ (hi); clear HK; clear HB; clear HI0; have HK := n0_; have HB := n1_; have HI0 := n2_; clear n0_ n1_ n2_; (try clear hb); (try clear hb2); (try clear hk); (try clear hi))))
          go_ret3
          exact ⟨by first|rfl|(simp [errW_none, errW_some] <;> rfl)|(simp [*, errW_none, errW_some] <;> rfl), by repeat (first|(with_reducible first|exact HI0.out|apply IsS66.alloc|apply IsS66.drewN|apply IsS66.drew|apply IsS66.set_0|apply IsS66.set_1)|exact HI0.out), by repeat (first|(with_reducible first|exact HB.out|apply ba_|apply pN_|apply b1_|refine bs_ ?_ (IsS66.ge HI0.out))|exact HB.out), by repeat (first|(with_reducible first|exact HK.out|apply KeepBut.set_|apply keep_drewN|apply keep_drew|apply keep_alloc)|exact HK.out)⟩
        · rw [if_neg c13] at H
          have c13b0 : (t113 == t109) = false := beq_eq_false_iff_ne.mpr c13
          have c13b1 : (t113 != t109) = true := bne_iff_ne.mpr c13
          simp only [Option.some.injEq, Prod.mk.injEq] at H
          obtain ⟨rfl, rfl, rfl, rfl, rfl⟩ := H
          go_enter Try.func39, Try.ntmps39
          go_wp2_with (first|(go_at_call 52; (with_reducible refine (barrier_Barrier_bad.calls g s0_0 s0_1 a1 false t109 t110 w0 _ ?side1 ?side2 A3.out).mono ?_); (case side1 => repeat (first|(with_reducible first|exact HI0.out|apply IsS66.alloc|apply IsS66.drewN|apply IsS66.drew|apply IsS66.set_0|apply IsS66.set_1)|exact HI0.out)); (case side2 => repeat (first|(with_reducible first|exact HB.out|apply ba_|apply pN_|apply b1_|refine bs_ ?_ (IsS66.ge HI0.out))|exact HB.out)); rintro e w18 ⟨rfl, hi, hb, hk⟩; have n0_ := A0_ (KeepBut.trans (by repeat (first|(with_reducible first|exact HK.out|apply KeepBut.set_|apply keep_drewN|apply keep_drew|apply keep_alloc)|exact HK.out)) hk (.inl rfl)); have n1_ := A0_ (hb); have n2_ := A0_ (hi); clear HK; clear HB; clear HI0; have HK := n0_; have HB := n1_; have HI0 := n2_; clear n0_ n1_ n2_; (try clear hb); (try clear hb2); (try clear hk); (try clear hi); obtain ⟨HGz19, hgz19⟩ := HI0.out; have hcz19_0 := cellS66_0 HGz19; have hcz19_1 := cellS66_1 HGz19; have hfz19_0 := blk_frozen HGz19 0; have hfz19_1 := blk_frozen HGz19 1; clear HGz19 hgz19)|(go_at_call 53; (with_reducible refine (bits_Set_Has.calls t109 a1 true _ A6.out).mono ?_); rintro e w' ⟨rfl, ⟨nd, rfl⟩⟩; (try first|exact ⟨rfl, _, World.drewN_drewN _ _ _⟩|exact ⟨rfl, _, Eq.trans (World.drewN_drewN _ _ _) (congrArg (World.drewN _) (Nat.add_assoc _ _ _))⟩))|(go_at_call 53; (with_reducible refine (bits_Set_Has.calls t110 a1 false _ A8.out).mono ?_); rintro e w' ⟨rfl, ⟨nd, rfl⟩⟩; (try first|exact ⟨rfl, _, World.drewN_drewN _ _ _⟩|exact ⟨rfl, _, Eq.trans (World.drewN_drewN _ _ _) (congrArg (World.drewN _) (Nat.add_assoc _ _ _))⟩))|(go_at_call 54; (with_reducible refine (bits_Set_With.calls t110 a1 t113 _ A12.out).mono ?_); rintro e w' ⟨rfl, ⟨nd, rfl⟩⟩; (try first|exact ⟨rfl, _, World.drewN_drewN _ _ _⟩|exact ⟨rfl, _, Eq.trans (World.drewN_drewN _ _ _) (congrArg (World.drewN _) (Nat.add_assoc _ _ _))⟩)))
          repeat (go_quiet (first|(go_at_call 52; (with_reducible refine (barrier_Barrier_bad.calls g s0_0 s0_1 a1 false t109 t110 w0 _ ?side1 ?side2 A3.out).mono ?_); (case side1 => repeat (first|(with_reducible first|exact HI0.out|apply IsS66.alloc|apply IsS66.drewN|apply IsS66.drew|apply IsS66.set_0|apply IsS66.set_1)|exact HI0.out)); (case side2 => repeat (first|(with_reducible first|exact HB.out|apply ba_|apply pN_|apply b1_|refine bs_ ?_ (IsS66.ge HI0.out))|exact HB.out)); rintro e w18 ⟨rfl, hi, hb, hk⟩; have n0_ := A0_ (KeepBut.trans (by repeat (first|(with_reducible first|exact HK.out|apply KeepBut.set_|apply keep_drewN|apply keep_drew|apply keep_alloc)|exact HK.out)) hk (.inl rfl)); have n1_ := A0_ (hb); have n2_ := A0_ (hi); clear HK; clear HB; clear HI0; have HK := n0_; have HB := n1_; have HI0 := n2_; clear n0_ n1_ n2_; (try clear hb); (try clear hb2); (try clear hk); (try clear hi); obtain ⟨HGz19, hgz19⟩ := HI0.out; have hcz19_0 := cellS66_0 HGz19; have hcz19_1 := cellS66_1 HGz19; have hfz19_0 := blk_frozen HGz19 0; have hfz19_1 := blk_frozen HGz19 1; clear HGz19 hgz19)|(go_at_call 53; (with_reducible refine (bits_Set_Has.calls t109 a1 true _ A6.out).mono ?_); rintro e w' ⟨rfl, ⟨nd, rfl⟩⟩; (try first|exact ⟨rfl, _, World.drewN_drewN _ _ _⟩|exact ⟨rfl, _, Eq.trans (World.drewN_drewN _ _ _) (congrArg (World.drewN _) (Nat.add_assoc _ _ _))⟩))|(go_at_call 53; (with_reducible refine (bits_Set_Has.calls t110 a1 false _ A8.out).mono ?_); rintro e w' ⟨rfl, ⟨nd, rfl⟩⟩; (try first|exact ⟨rfl, _, World.drewN_drewN _ _ _⟩|exact ⟨rfl, _, Eq.trans (World.drewN_drewN _ _ _) (congrArg (World.drewN _) (Nat.add_assoc _ _ _))⟩))|(go_at_call 54; (with_reducible refine (bits_Set_With.calls t110 a1 t113 _ A12.out).mono ?_); rintro e w' ⟨rfl, ⟨nd, rfl⟩⟩; (try first|exact ⟨rfl, _, World.drewN_drewN _ _ _⟩|exact ⟨rfl, _, Eq.trans (World.drewN_drewN _ _ _) (congrArg (World.drewN _) (Nat.add_assoc _ _ _))⟩))); try go_wp2_with (first|(go_at_call 52; (with_reducible refine (barrier_Barrier_bad.calls g s0_0 s0_1 a1 false t109 t110 w0 _ ?side1 ?side2 A3.out).mono ?_); (case side1 => repeat (first|(with_reducible first|exact HI0.out|apply IsS66.alloc|apply IsS66.drewN|apply IsS66.drew|apply IsS66.set_0|apply IsS66.set_1)|exact HI0.out)); (case side2 => repeat (first|(with_reducible first|exact HB.out|apply ba_|apply pN_|apply b1_|refine bs_ ?_ (IsS66.ge HI0.out))|exact HB.out)); rintro e w18 ⟨rfl, hi, hb, hk⟩; have n0_ := A0_ (KeepBut.trans (by repeat (first|(with_reducible first|exact HK.out|apply KeepBut.set_|apply keep_drewN|apply keep_drew|apply keep_alloc)|exact HK.out)) hk (.inl rfl)); have n1_ := A0_ (hb); have n2_ := A0_ (hi); clear HK; clear HB; clear HI0; have HK := n0_; have HB := n1_; have HI0 := n2_; clear n0_ n1_ n2_; (try clear hb); (try clear hb2); (try clear hk); (try clear hi); obtain ⟨HGz19, hgz19⟩ := HI0.out; have hcz19_0 := cellS66_0 HGz19; have hcz19_1 := cellS66_1 HGz19; have hfz19_0 := blk_frozen HGz19 0; have hfz19_1 := blk_frozen HGz19 1; clear HGz19 hgz19)|(go_at_call 53; (with_reducible refine (bits_Set_Has.calls t109 a1 true _ A6.out).mono ?_); rintro e w' ⟨rfl, ⟨nd, rfl⟩⟩; (try first|exact ⟨rfl, _, World.drewN_drewN _ _ _⟩|exact ⟨rfl, _, Eq.trans (World.drewN_drewN _ _ _) (congrArg (World.drewN _) (Nat.add_assoc _ _ _))⟩))|(go_at_call 53; (with_reducible refine (bits_Set_Has.calls t110 a1 false _ A8.out).mono ?_); rintro e w' ⟨rfl, ⟨nd, rfl⟩⟩; (try first|exact ⟨rfl, _, World.drewN_drewN _ _ _⟩|exact ⟨rfl, _, Eq.trans (World.drewN_drewN _ _ _) (congrArg (World.drewN _) (Nat.add_assoc _ _ _))⟩))|(go_at_call 54; (with_reducible refine (bits_Set_With.calls t110 a1 t113 _ A12.out).mono ?_); rintro e w' ⟨rfl, ⟨nd, rfl⟩⟩; (try first|exact ⟨rfl, _, World.drewN_drewN _ _ _⟩|exact ⟨rfl, _, Eq.trans (World.drewN_drewN _ _ _) (congrArg (World.drewN _) (Nat.add_assoc _ _ _))⟩))))
          go_ret3
          exact ⟨by first|rfl|(simp [errW_none, errW_some] <;> rfl)|(simp [*, errW_none, errW_some] <;> rfl), by repeat (first|(with_reducible first|exact HI0.out|apply IsS66.alloc|apply IsS66.drewN|apply IsS66.drew|apply IsS66.set_0|apply IsS66.set_1)|exact HI0.out), by repeat (first|(with_reducible first|exact HB.out|apply ba_|apply pN_|apply b1_|refine bs_ ?_ (IsS66.ge HI0.out))|exact HB.out), by repeat (first|(with_reducible first|exact HK.out|apply KeepBut.set_|apply keep_drewN|apply keep_drew|apply keep_alloc)|exact HK.out)⟩
    · replace c7 := Bool.eq_false_iff.mpr c7
      subst c7
      have H1 : (some (0, false, 9, t109, t110)) = some (r1, r2, r3, r4, r5) := by rw [if_neg (show ¬ (false = true) by decide)] at H; exact H
      clear H
      have H := H1
      clear H1
      simp only [Option.some.injEq, Prod.mk.injEq] at H
      obtain ⟨rfl, rfl, rfl, rfl, rfl⟩ := H
      go_enter Try.func39, Try.ntmps39
      go_wp2_with (first|(go_at_call 52; (with_reducible refine (barrier_Barrier_bad.calls g s0_0 s0_1 a1 false t109 t110 w0 _ ?side1 ?side2 A3.out).mono ?_); (case side1 => repeat (first|(with_reducible first|exact HI0.out|apply IsS66.alloc|apply IsS66.drewN|apply IsS66.drew|apply IsS66.set_0|apply IsS66.set_1)|exact HI0.out)); (case side2 => repeat (first|(with_reducible first|exact HB.out|apply ba_|apply pN_|apply b1_|refine bs_ ?_ (IsS66.ge HI0.out))|exact HB.out)); rintro e w20 ⟨rfl, hi, hb, hk⟩; have n0_ := A0_ (KeepBut.trans (by repeat (first|(with_reducible first|exact HK.out|apply KeepBut.set_|apply keep_drewN|apply keep_drew|apply keep_alloc)|exact HK.out)) hk (.inl rfl)); have n1_ := A0_ (hb); have n2_ := A0_ (hi); clear HK; clear HB; clear HI0; have HK := n0_; have HB := n1_; have HI0 := n2_; clear n0_ n1_ n2_; (try clear hb); (try clear hb2); (try clear hk); (try clear hi); obtain ⟨HGz21, hgz21⟩ := HI0.out; have hcz21_0 := cellS66_0 HGz21; have hcz21_1 := cellS66_1 HGz21; have hfz21_0 := blk_frozen HGz21 0; have hfz21_1 := blk_frozen HGz21 1; clear HGz21 hgz21)|(go_at_call 53; (with_reducible refine (bits_Set_Has.calls t109 a1 false _ A6.out).mono ?_); rintro e w' ⟨rfl, ⟨nd, rfl⟩⟩; (try first|exact ⟨rfl, _, World.drewN_drewN _ _ _⟩|exact ⟨rfl, _, Eq.trans (World.drewN_drewN _ _ _) (congrArg (World.drewN _) (Nat.add_assoc _ _ _))⟩)))
      repeat (go_quiet (first|(go_at_call 52; (with_reducible refine (barrier_Barrier_bad.calls g s0_0 s0_1 a1 false t109 t110 w0 _ ?side1 ?side2 A3.out).mono ?_); (case side1 => repeat (first|(with_reducible first|exact HI0.out|apply IsS66.alloc|apply IsS66.drewN|apply IsS66.drew|apply IsS66.set_0|apply IsS66.set_1)|exact HI0.out)); (case side2 => repeat (first|(with_reducible first|exact HB.out|apply ba_|apply pN_|apply b1_|refine bs_ ?_ (IsS66.ge HI0.out))|exact HB.out)); rintro e w20 ⟨rfl, hi, hb, hk⟩; have n0_ := A0_ (KeepBut.trans (by repeat (first|(with_reducible first|exact HK.out|apply KeepBut.set_|apply keep_drewN|apply keep_drew|apply keep_alloc)|exact HK.out)) hk (.inl rfl)); have n1_ := A0_ (hb); have n2_ := A0_ (hi); clear HK; clear HB; clear HI0; have HK := n0_; have HB := n1_; have HI0 := n2_; clear n0_ n1_ n2_; (try clear hb); (try clear hb2); (try clear hk); (try clear hi); obtain ⟨HGz21, hgz21⟩ := HI0.out; have hcz21_0 := cellS66_0 HGz21; have hcz21_1 := cellS66_1 HGz21; have hfz21_0 := blk_frozen HGz21 0; have hfz21_1 := blk_frozen HGz21 1; clear HGz21 hgz21)|(go_at_call 53; (with_reducible refine (bits_Set_Has.calls t109 a1 false _ A6.out).mono ?_); rintro e w' ⟨rfl, ⟨nd, rfl⟩⟩; (try first|exact ⟨rfl, _, World.drewN_drewN _ _ _⟩|exact ⟨rfl, _, Eq.trans (World.drewN_drewN _ _ _) (congrArg (World.drewN _) (Nat.add_assoc _ _ _))⟩))); try go_wp2_with (first|(go_at_call 52; (with_reducible refine (barrier_Barrier_bad.calls g s0_0 s0_1 a1 false t109 t110 w0 _ ?side1 ?side2 A3.out).mono ?_); (case side1 => repeat (first|(with_reducible first|exact HI0.out|apply IsS66.alloc|apply IsS66.drewN|apply IsS66.drew|apply IsS66.set_0|apply IsS66.set_1)|exact HI0.out)); (case side2 => repeat (first|(with_reducible first|exact HB.out|apply ba_|apply pN_|apply b1_|refine bs_ ?_ (IsS66.ge HI0.out))|exact HB.out)); rintro e w20 ⟨rfl, hi, hb, hk⟩; have n0_ := A0_ (KeepBut.trans (by repeat (first|(with_reducible first|exact HK.out|apply KeepBut.set_|apply keep_drewN|apply keep_drew|apply keep_alloc)|exact HK.out)) hk (.inl rfl)); have n1_ := A0_ (hb); have n2_ := A0_ (hi); clear HK; clear HB; clear HI0; have HK := n0_; have HB := n1_; have HI0 := n2_; clear n0_ n1_ n2_; (try clear hb); (try clear hb2); (try clear hk); (try clear hi); obtain ⟨HGz21, hgz21⟩ := HI0.out; have hcz21_0 := cellS66_0 HGz21; have hcz21_1 := cellS66_1 HGz21; have hfz21_0 := blk_frozen HGz21 0; have hfz21_1 := blk_frozen HGz21 1; clear HGz21 hgz21)|(go_at_call 53; (with_reducible refine (bits_Set_Has.calls t109 a1 false _ A6.out).mono ?_); rintro e w' ⟨rfl, ⟨nd, rfl⟩⟩; (try first|exact ⟨rfl, _, World.drewN_drewN _ _ _⟩|exact ⟨rfl, _, Eq.trans (World.drewN_drewN _ _ _) (congrArg (World.drewN _) (Nat.add_assoc _ _ _))⟩))))
      go_ret3
      exact ⟨by first|rfl|(simp [errW_none, errW_some] <;> rfl)|(simp [*, errW_none, errW_some] <;> rfl), by repeat (first|(with_reducible first|exact HI0.out|apply IsS66.alloc|apply IsS66.drewN|apply IsS66.drew|apply IsS66.set_0|apply IsS66.set_1)|exact HI0.out), by repeat (first|(with_reducible first|exact HB.out|apply ba_|apply pN_|apply b1_|refine bs_ ?_ (IsS66.ge HI0.out))|exact HB.out), by repeat (first|(with_reducible first|exact HK.out|apply KeepBut.set_|apply keep_drewN|apply keep_drew|apply keep_alloc)|exact HK.out)⟩

/-! ### bits_Set_Without: function 63 -/
def bits_Set_Without.f (a0 : Int) (a1 : Int) : Option (Int) := (bits_one.f a1).bind fun t117 => (some (Go.bits .andNot .u64 a0 t117))
set_option maxHeartbeats 8000000 in
set_option maxRecDepth 100000 in
theorem bits_Set_Without.calls (a0 : Int) (a1 : Int) (r : Int) (w : World) (h : bits_Set_Without.f a0 a1 = some r) :
    Calls Try.prog 63 #[.int .u64 a0, .int .i64 a1] w fun e w' => e = .returned (.int .u64 r) ∧ Drawn0 w w' := by
  have H : ((bits_one.f a1).bind fun t117 => (some (Go.bits .andNot .u64 a0 t117))) = some r := h
  clear h
  replace H := bm_ H
  obtain ⟨t117, A30, H⟩ := H
  replace H : (some (Go.bits .andNot .u64 a0 t117)) = some r := H
  have A3 := A0_ A30
  clear A30
  obtain rfl := Option.some.inj H
  go_enter Try.func63, Try.ntmps63
  go_wp2_with (first|((with_reducible refine gate_callee (f := 64) rfl ?_); refine goesL_ (some 7) rfl rfl Try.func64 (by kernel_rfl) rfl #[.int .i64 a1] rfl (by first|(simp only [List.map_toArray, List.map_cons, List.map_nil] <;> rfl)|rfl|(simp only [List.length_drop, List.length_take]; rfl)) ?_; (with_reducible refine (bits_one.calls a1 t117 _ A3.out).mono ?_); rintro e w' ⟨rfl, ⟨nd, rfl⟩⟩; refine ⟨_, rfl, ?_⟩))
  go_ret
  exact ⟨by first|rfl|(simp; done)|(simp [*]; done), by repeat (first|exact Drawn0.refl _|apply Drawn0.step)⟩

/-! ### barrier_Barrier_Leave: function 47 -/
def barrier_Barrier_Leave.f (s0_0 : Int) (s0_1 : Int) (a1 : Int) : Option (Int × Int × Int × Int) :=
  (barrier_Barrier_bad.f s0_0 s0_1 a1).bind fun b => if b.1 = true then some (0, 1, b.2.1, b.2.2) else
    (bits_Set_Has.f b.2.1 a1).bind fun t => if t = true then
      (bits_Set_Without.f b.2.1 a1).bind fun m => (bits_Set_Without.f b.2.2 a1).bind fun a =>
        if m = a then (barrier_Barrier_clear.f m a).bind fun c => some (c.1, 0, c.2.1, c.2.2) else some (0, 0, m, a)
    else some (0, 9, b.2.1, b.2.2)
set_option maxHeartbeats 4000000 in
set_option maxRecDepth 100000 in
theorem barrier_Barrier_Leave.calls (g : Nat) (s0_0 : Int) (s0_1 : Int) (a1 : Int) (r1 : Int) (r2 : Int) (r3 : Int) (r4 : Int) (w0 w : World) (hI : IsS66 w0 w g s0_0 s0_1) (hB : Below w0.heap.size w0 w) (h : barrier_Barrier_Leave.f s0_0 s0_1 a1 = some (r1, r2, r3, r4)) :
    Calls Try.prog 47 #[.pointer (some ⟨g, 0, none⟩), .int .i64 a1] w fun e w' => e = .returned (.tuple #[.int .u64 r1, .int .i64 r2]) ∧ IsS66 w0 w' g r3 r4 ∧ Below w0.heap.size w0 w' ∧ KeepBut w w' g none := by
  have HI0 := A0_ hI
  have HB := A0_ hB
  clear hI hB
  unfold barrier_Barrier_Leave.f at h
  replace h := bm_ h
  obtain ⟨⟨b, c0, c1⟩, hb0, h⟩ := h
  have hb := A0_ hb0
  clear hb0
  dsimp only at h
  by_cases cb : b = true
  · subst cb
    simp only [if_true, Option.some.injEq, Prod.mk.injEq] at h
    obtain ⟨rfl, rfl, rfl, rfl⟩ := h
    go_enter Try.func47, Try.ntmps47
    go_wp2_with (go_at_call 52; refine (barrier_Barrier_bad.calls g s0_0 s0_1 a1 true _ _ w0 _ HI0.out HB.out hb.out).mono ?_; rintro e w1 ⟨rfl, hI1, hB1, hK1⟩)
    go_ret2
    exact ⟨rfl, hI1, hB1, hK1⟩
  have cb' : b = false := by simpa using cb
  subst cb'
  simp only [Bool.false_eq_true, if_false] at h
  clear cb
  replace h := bm_ h
  obtain ⟨t, ht0, h⟩ := h
  have ht := A0_ ht0
  clear ht0
  by_cases ct : t = true
  · subst ct
    simp only [if_true] at h
    replace h := bm_ h
    obtain ⟨m, hm0, h⟩ := h
    have hm := A0_ hm0
    clear hm0
    replace h := bm_ h
    obtain ⟨a, ha0, h⟩ := h
    have ha := A0_ ha0
    clear ha0
    have hh := A0_ h
    clear h
    go_enter Try.func47, Try.ntmps47
    go_wp2_with (first
      | (go_at_call 52; refine (barrier_Barrier_bad.calls g s0_0 s0_1 a1 false _ _ w0 _ HI0.out HB.out hb.out).mono ?_; rintro e w1 ⟨rfl, hI1, hB1, hK1⟩
         have HI1 := A0_ hI1; have HB1 := A0_ hB1; have HK1 := A0_ hK1; clear hI1 hB1 hK1
         obtain ⟨HGz5, hgz5⟩ := HI1.out
         have hcz5_0 := cellS66_0 HGz5
         have hcz5_1 := cellS66_1 HGz5
         have hfz5_0 := blk_frozen HGz5 0
         have hfz5_1 := blk_frozen HGz5 1
         clear HGz5 hgz5)
      | (go_at_call 53; refine (bits_Set_Has.calls _ _ true _ ht.out).mono ?_; rintro e w2 ⟨rfl, hw2⟩; obtain ⟨⟨n2, rfl⟩⟩ := hw2))
    by_cases cm : m = a
    · subst cm
      have hh1 := hh.out
      clear hh
      simp only [if_true] at hh1
      replace hh1 := bm_ hh1
      obtain ⟨⟨q1, q2, q3⟩, hq0, hh1⟩ := hh1
      have hq := A0_ hq0
      clear hq0
      simp only [Option.some.injEq, Prod.mk.injEq] at hh1
      obtain ⟨rfl, rfl, rfl, rfl⟩ := hh1
      go_region_with (first|(go_at_call_of 63 c0; refine (bits_Set_Without.calls c0 a1 m _ hm.out).mono ?_; rintro e w3 ⟨rfl, hw3⟩; obtain ⟨⟨n3, rfl⟩⟩ := hw3)|(go_at_call_of 63 c1; refine (bits_Set_Without.calls c1 a1 m _ ha.out).mono ?_; rintro e w3 ⟨rfl, hw3⟩; obtain ⟨⟨n3, rfl⟩⟩ := hw3))
      all_goals
        go_wp2
        go_quiet (fail)
        go_wp2_with (go_at_call 55; refine (barrier_Barrier_clear.calls g m m _ _ _ w0 _ (by repeat (first|(with_reducible first|exact HI1.out|apply IsS66.alloc|apply IsS66.drewN|apply IsS66.drew|apply IsS66.set_0|apply IsS66.set_1)|exact HI1.out)) (by repeat (first|(with_reducible first|exact HB1.out|apply ba_|apply pN_|apply b1_|refine bs_ ?_ (IsS66.ge HI1.out))|exact HB1.out)) hq.out).mono ?_; rintro e w3 ⟨rfl, hI3, hB3, hK3⟩)
        go_ret2
        exact ⟨rfl, hI3, hB3, KeepBut.trans (by repeat (first|(with_reducible first|exact HK1.out|apply KeepBut.set_|apply keep_drewN|apply keep_drew|apply keep_alloc)|exact HK1.out)) hK3 (.inl rfl)⟩
    · have hh1 := hh.out
      clear hh
      rw [if_neg cm] at hh1
      simp only [Option.some.injEq, Prod.mk.injEq] at hh1
      obtain ⟨rfl, rfl, rfl, rfl⟩ := hh1
      have cmb : (m == a) = false := beq_eq_false_iff_ne.mpr cm
      clear cm
      go_region_with (first|(go_at_call_of 63 c0; refine (bits_Set_Without.calls c0 a1 m _ hm.out).mono ?_; rintro e w3 ⟨rfl, hw3⟩; obtain ⟨⟨n3, rfl⟩⟩ := hw3)|(go_at_call_of 63 c1; refine (bits_Set_Without.calls c1 a1 a _ ha.out).mono ?_; rintro e w3 ⟨rfl, hw3⟩; obtain ⟨⟨n3, rfl⟩⟩ := hw3))
      all_goals
        go_wp2
        go_quiet (fail)
        go_wp2
        go_ret2
        exact ⟨rfl, by repeat (first|(with_reducible first|exact HI1.out|apply IsS66.alloc|apply IsS66.drewN|apply IsS66.drew|apply IsS66.set_0|apply IsS66.set_1)|exact HI1.out), by repeat (first|(with_reducible first|exact HB1.out|apply ba_|apply pN_|apply b1_|refine bs_ ?_ (IsS66.ge HI1.out))|exact HB1.out), by repeat (first|(with_reducible first|exact HK1.out|apply KeepBut.set_|apply keep_drewN|apply keep_drew|apply keep_alloc)|exact HK1.out)⟩
  have ct' : t = false := by simpa using ct
  subst ct'
  simp only [Bool.false_eq_true, if_false, Option.some.injEq, Prod.mk.injEq] at h
  obtain ⟨rfl, rfl, rfl, rfl⟩ := h
  clear ct
  go_enter Try.func47, Try.ntmps47
  go_wp2_with (first
      | (go_at_call 52; refine (barrier_Barrier_bad.calls g s0_0 s0_1 a1 false _ _ w0 _ HI0.out HB.out hb.out).mono ?_; rintro e w1 ⟨rfl, hI1, hB1, hK1⟩
         have HI1 := A0_ hI1; have HB1 := A0_ hB1; have HK1 := A0_ hK1; clear hI1 hB1 hK1
         obtain ⟨HGz5, hgz5⟩ := HI1.out
         have hcz5_0 := cellS66_0 HGz5
         have hcz5_1 := cellS66_1 HGz5
         have hfz5_0 := blk_frozen HGz5 0
         have hfz5_1 := blk_frozen HGz5 1
         clear HGz5 hgz5)
      | (go_at_call 53; refine (bits_Set_Has.calls _ _ false _ ht.out).mono ?_; rintro e w2 ⟨rfl, hw2⟩; obtain ⟨⟨n2, rfl⟩⟩ := hw2))
  go_ret2
  exact ⟨rfl, IsS66.drewN HI1.out _, pN_ HB1.out _, keep_drewN HK1.out _⟩


/-! ### logjamlaw19_lives: function 42 -/
def logjamlaw19_lives.f : Option (Bool) := some true
set_option maxHeartbeats 4000000 in
theorem logjamlaw19_lives.calls (r : Bool) (w : World) (h : logjamlaw19_lives.f = some r) :
    Calls Try.prog 42 #[] w fun e w' => e = .returned (.bool r) ∧ Below w.heap.size w w' := by
  have hr : r = true := by injection h with h; exact h.symm
  subst hr
  go_enter Try.func42, Try.ntmps42
  go_wp2_with fail
  refine (barrier_Barrier_Enrol.calls w.heap.size 0 0 1 0 2 0 w _ (IsS66.new w w 0 0 (Below.refl _ _)) ((Below.refl _ _).alloc (Nat.le_refl _) _) (by decide +kernel)).mono ?_
  rintro e w1 ⟨rfl, hI1, hB1, _⟩
  have HI1 := A0_ hI1; have HB1 := A0_ hB1; clear hI1 hB1
  go_wp2_with fail
  refine (barrier_Barrier_Enrol.calls w.heap.size 2 0 2 0 6 0 w _ HI1.out HB1.out (by decide +kernel)).mono ?_
  rintro e w2 ⟨rfl, hI2, hB2, _⟩
  have HI2 := A0_ hI2; have HB2 := A0_ hB2; clear hI2 hB2 HI1 HB1
  go_wp2_with fail
  refine (barrier_Barrier_Arrive.calls w.heap.size 6 0 1 0 false 0 6 2 w _ HI2.out HB2.out (by decide +kernel)).mono ?_
  rintro e w3 ⟨rfl, hI3, hB3, _⟩
  have HI3 := A0_ hI3; have HB3 := A0_ hB3; clear hI3 hB3 HI2 HB2
  go_wp2_with fail
  refine (barrier_Barrier_Leave.calls w.heap.size 6 2 2 2 0 2 0 w _ HI3.out HB3.out (by decide +kernel)).mono ?_
  rintro e w4 ⟨rfl, hI4, hB4, _⟩
  have HI4 := A0_ hI4; have HB4 := A0_ hB4; clear hI4 hB4 HI3 HB3
  go_wp2_with fail
  refine (barrier_Barrier_Members.calls w.heap.size 2 0 2 2 0 w _ HI4.out HB4.out (by decide +kernel)).mono ?_
  rintro e w5 ⟨rfl, hI5, hB5, _⟩
  have HI5 := A0_ hI5; have HB5 := A0_ hB5; clear hI5 hB5 HI4 HB4
  go_wp2_with fail
  refine (barrier_Barrier_Arrived.calls w.heap.size 2 0 0 2 0 w _ HI5.out HB5.out (by decide +kernel)).mono ?_
  rintro e w6 ⟨rfl, hI6, hB6, _⟩
  go_wp2
  go_ret
  exact ⟨rfl, hB6⟩


/-! ### logjamref02_Has: function 65 -/
mutual
def logjamref02_Has.j0 : Nat → Int → Int → Bool → Option (Bool)
  | 0, _, _, _ => none
  | k + 1, x0, x1, x11 => if x11 = true then (some false) else (logjamref02_Has.l0 k x0 x1 0)
def logjamref02_Has.l0 : Nat → Int → Int → Int → Option (Bool)
  | 0, _, _, _ => none
  | k + 1, x0, x1, x5 => if x5 < x1 then (logjamref02_Has.l0 k (IntKind.u64.wrap (Int.tdiv x0 2)) x1 (wrap64 (x5 + 1))) else (some ((Int.tmod x0 2) == 1))
end
def logjamref02_Has.f (k : Nat) (a0 : Int) (a1 : Int) : Option (Bool) := if a1 < 0 then (logjamref02_Has.j0 k a0 a1 true) else (logjamref02_Has.j0 k a0 a1 (decide (a1 > 63)))
theorem logjamref02_Has.mono_l : ∀ k, (∀ y0 y1 y2, LeO (logjamref02_Has.j0 k y0 y1 y2) (logjamref02_Has.j0 (k + 1) y0 y1 y2)) ∧ (∀ y0 y1 y2, LeO (logjamref02_Has.l0 k y0 y1 y2) (logjamref02_Has.l0 (k + 1) y0 y1 y2))
  | 0 => ⟨fun _ _ _ r h => by simp [logjamref02_Has.j0] at h, fun _ _ _ r h => by simp [logjamref02_Has.l0] at h⟩
  | k + 1 => by
    obtain ⟨ih0, ih1⟩ := logjamref02_Has.mono_l k
    refine ⟨?_, ?_⟩
    · intro y0 y1 y2
      unfold logjamref02_Has.j0
      repeat' first
      | (with_reducible exact ih0 _ _ _)
      | (with_reducible exact ih1 _ _ _)
      | (with_reducible exact LeO.refl _)
      | (with_reducible exact LeO.none _)
      | (with_reducible refine LeO.ite ?_ ?_)
      | (with_reducible refine LeO.bind ?_ (fun _ => ?_))
      | exact ih0 _ _ _
      | exact ih1 _ _ _
      | exact LeO.none _
      | refine LeO.ite ?_ ?_
      | refine LeO.bind ?_ (fun _ => ?_)
    · intro y0 y1 y2
      unfold logjamref02_Has.l0
      repeat' first
      | (with_reducible exact ih0 _ _ _)
      | (with_reducible exact ih1 _ _ _)
      | (with_reducible exact LeO.refl _)
      | (with_reducible exact LeO.none _)
      | (with_reducible refine LeO.ite ?_ ?_)
      | (with_reducible refine LeO.bind ?_ (fun _ => ?_))
      | exact ih0 _ _ _
      | exact ih1 _ _ _
      | exact LeO.none _
      | refine LeO.ite ?_ ?_
      | refine LeO.bind ?_ (fun _ => ?_)
theorem logjamref02_Has.mono : ∀ a0 a1 k, LeO (logjamref02_Has.f k a0 a1) (logjamref02_Has.f (k + 1) a0 a1) := by
  intro a0 a1 k
  obtain ⟨ih0, ih1⟩ := logjamref02_Has.mono_l k
  unfold logjamref02_Has.f
  repeat' first
      | (with_reducible exact ih0 _ _ _)
      | (with_reducible exact ih1 _ _ _)
      | (with_reducible exact LeO.refl _)
      | (with_reducible exact LeO.none _)
      | (with_reducible refine LeO.ite ?_ ?_)
      | (with_reducible refine LeO.bind ?_ (fun _ => ?_))
      | exact ih0 _ _ _
      | exact ih1 _ _ _
      | exact LeO.none _
      | refine LeO.ite ?_ ?_
      | refine LeO.bind ?_ (fun _ => ?_)
set_option maxHeartbeats 8000000 in
set_option maxRecDepth 100000 in
theorem logjamref02_Has.calls (k : Nat) (a0 : Int) (a1 : Int) (r : Bool) (w : World) (h : logjamref02_Has.f k a0 a1 = some r) :
    Calls Try.prog 65 #[.int .u64 a0, .int .i64 a1] w fun e w' => e = .returned (.bool r) ∧ Drawn0 w w' := by
  have H : (if a1 < 0 then (logjamref02_Has.j0 k a0 a1 true) else (logjamref02_Has.j0 k a0 a1 (decide (a1 > 63)))) = some r := h
  clear h
  have HC3 := A0_ H
  clear H
  go_enter Try.func65, Try.ntmps65
  go_upto_region 1 with (fail)
  go_cut [11] (fun v11 wc => ∃ (kq : Nat) (x11_2 : Bool), v11 = .bool x11_2 ∧ Aside0 (logjamref02_Has.j0 kq a0 a1 x11_2 = some r) ∧ Aside0 (kq ≤ k) ∧ Drawn0 w wc)
  case first =>
    have H := HC3.out
    clear HC3
    by_cases c4 : a1 < 0
    · rw [if_pos c4] at H
      have c4b0 : decide (a1 < 0) = true := decide_eq_true c4
      clear c4
      (first|rw [c4b0]|(simp only [i64_w, i32_w]; rw [c4b0])|skip)
      have H' := A0_ H
      clear H
      go_wp2
      go_meet
      case rel => exact ⟨_, (true), (by first|rfl|(simp; done)|(simp [*]; done)), H', ⟨by first|omega|exact Nat.le_refl _⟩, by repeat (first|exact Drawn0.refl _|apply Drawn0.step)⟩
    · rw [if_neg c4] at H
      have c4b0 : decide (a1 < 0) = false := decide_eq_false c4
      clear c4
      (first|rw [c4b0]|(simp only [i64_w, i32_w]; rw [c4b0])|skip)
      have H' := A0_ H
      clear H
      go_wp2
      go_meet
      case rel => exact ⟨_, (decide (a1 > 63)), (by first|rfl|(simp; done)|(simp [*]; done)), H', ⟨by first|omega|exact Nat.le_refl _⟩, by repeat (first|exact Drawn0.refl _|apply Drawn0.step)⟩
  case rest =>
    clear HC3
    try clear p2
    try clear c4
    try clear c4b0
    obtain ⟨kq, x11_2, rfl, HA, HJ2, ⟨mc2, rfl⟩⟩ := hcut
    cases kq with
    | zero => exact absurd HA.out (by simp [logjamref02_Has.j0])
    | succ kj2 =>
      have H := HA.out
      clear HA
      simp only [logjamref02_Has.j0] at H
      by_cases c5 : x11_2 = true
      · subst c5
        have H1 : (some false) = some r := by rw [if_pos rfl] at H; exact H
        clear H
        have H := H1
        clear H1
        obtain rfl := Option.some.inj H
        go_wp2
        go_ret
        exact ⟨by first|rfl|(simp; done)|(simp [*]; done), by repeat (first|exact Drawn0.refl _|apply Drawn0.step)⟩
      · replace c5 := Bool.eq_false_iff.mpr c5
        subst c5
        have H1 : (logjamref02_Has.l0 kj2 a0 a1 0) = some r := by rw [if_neg (show ¬ (false = true) by decide)] at H; exact H
        clear H
        have H := H1
        clear H1
        have H' := A0_ H
        clear H
        go_wp2
        go_loopg [0, 5] kj2 (fun kq v0 v5 w' => ∃ (x0_2 : Int) (x5_2 : Int), v0 = .int .u64 x0_2 ∧ v5 = .int .i64 x5_2 ∧ Aside0 (logjamref02_Has.l0 kq x0_2 a1 x5_2 = some r) ∧ Aside0 (kq ≤ kj2) ∧ Drawn0 w w')
        case atStart => exact ⟨(a0), (0), (by first|rfl|(simp; done)|(simp [*]; done)), (by first|rfl|(simp; done)|(simp [*]; done)), H', ⟨Nat.le_refl _⟩, by repeat (first|exact Drawn0.refl _|apply Drawn0.step)⟩
        case round =>
          clear H'
          try clear c2
          try clear p2
          try clear c4
          try clear c4b0
          try clear c5
          try clear p2
          obtain ⟨x0_2, x5_2, rfl, rfl, HA, HK2, ⟨m2, rfl⟩⟩ := hrel
          cases gk with
          | zero => exact absurd HA.out (by simp [logjamref02_Has.l0])
          | succ k2 =>
            have H := HA.out
            clear HA
            simp only [logjamref02_Has.l0] at H
            by_cases c6 : x5_2 < a1
            · rw [if_pos c6] at H
              have c6b0 : decide (x5_2 < a1) = true := decide_eq_true c6
              clear c6
              have H' := A0_ H
              clear H
              go_wp2
              go_roundg k2
              case measure => have := HJ2.out; have := HK2.out; omega
              case rel => exact ⟨(IntKind.u64.wrap (Int.tdiv x0_2 2)), (wrap64 (x5_2 + 1)), (by first|rfl|(simp; done)|(simp [*]; done)), (by first|rfl|(simp; done)|(simp [*]; done)), H', ⟨by have := HJ2.out; have := HK2.out; omega⟩, by repeat (first|exact Drawn0.refl _|apply Drawn0.step)⟩
            · rw [if_neg c6] at H
              have c6b0 : decide (x5_2 < a1) = false := decide_eq_false c6
              clear c6
              obtain rfl := Option.some.inj H
              go_wp2
              go_ret
              exact ⟨by first|rfl|(simp; done)|(simp [*]; done), by repeat (first|exact Drawn0.refl _|apply Drawn0.step)⟩

/-! ### logjamref02_power: function 68 -/
def logjamref02_power.l0 : Nat → Int → Int → Int → Option (Int)
  | 0, _, _, _ => none
  | k + 1, x0, x3, x4 => if x4 < x0 then (logjamref02_power.l0 k x0 (IntKind.u64.wrap (x3 * 2)) (wrap64 (x4 + 1))) else (some x3)
def logjamref02_power.f (k : Nat) (a0 : Int) : Option (Int) := logjamref02_power.l0 k a0 1 0
theorem logjamref02_power.mono_l : ∀ k, (∀ y0 y1 y2, LeO (logjamref02_power.l0 k y0 y1 y2) (logjamref02_power.l0 (k + 1) y0 y1 y2))
  | 0 => fun _ _ _ r h => by simp [logjamref02_power.l0] at h
  | k + 1 => by
    have ih0 := logjamref02_power.mono_l k
    · intro y0 y1 y2
      unfold logjamref02_power.l0
      repeat' first
      | (with_reducible exact ih0 _ _ _)
      | (with_reducible exact LeO.refl _)
      | (with_reducible exact LeO.none _)
      | (with_reducible refine LeO.ite ?_ ?_)
      | (with_reducible refine LeO.bind ?_ (fun _ => ?_))
      | exact ih0 _ _ _
      | exact LeO.none _
      | refine LeO.ite ?_ ?_
      | refine LeO.bind ?_ (fun _ => ?_)
theorem logjamref02_power.mono : ∀ a0 k, LeO (logjamref02_power.f k a0) (logjamref02_power.f (k + 1) a0) := by
  intro a0 k
  have ih0 := logjamref02_power.mono_l k
  unfold logjamref02_power.f
  repeat' first
      | (with_reducible exact ih0 _ _ _)
      | (with_reducible exact LeO.refl _)
      | (with_reducible exact LeO.none _)
      | (with_reducible refine LeO.ite ?_ ?_)
      | (with_reducible refine LeO.bind ?_ (fun _ => ?_))
      | exact ih0 _ _ _
      | exact LeO.none _
      | refine LeO.ite ?_ ?_
      | refine LeO.bind ?_ (fun _ => ?_)
set_option maxHeartbeats 8000000 in
set_option maxRecDepth 100000 in
theorem logjamref02_power.calls (k : Nat) (a0 : Int) (r : Int) (w : World) (h : logjamref02_power.f k a0 = some r) :
    Calls Try.prog 68 #[.int .i64 a0] w fun e w' => e = .returned (.int .u64 r) ∧ Drawn0 w w' := by
  have H : (logjamref02_power.l0 k a0 1 0) = some r := h
  clear h
  have H' := A0_ H
  clear H
  go_enter Try.func68, Try.ntmps68
  go_wp2
  go_loopg [3, 4] k (fun kq v3 v4 w' => ∃ (x3_1 : Int) (x4_1 : Int), v3 = .int .u64 x3_1 ∧ v4 = .int .i64 x4_1 ∧ Aside0 (logjamref02_power.l0 kq a0 x3_1 x4_1 = some r) ∧ Aside0 (kq ≤ k) ∧ Drawn0 w w')
  case atStart => exact ⟨(1), (0), (by first|rfl|(simp; done)|(simp [*]; done)), (by first|rfl|(simp; done)|(simp [*]; done)), H', ⟨Nat.le_refl _⟩, by repeat (first|exact Drawn0.refl _|apply Drawn0.step)⟩
  case round =>
    clear H'
    obtain ⟨x3_1, x4_1, rfl, rfl, HA, HK1, ⟨m1, rfl⟩⟩ := hrel
    cases gk with
    | zero => exact absurd HA.out (by simp [logjamref02_power.l0])
    | succ k1 =>
      have H := HA.out
      clear HA
      simp only [logjamref02_power.l0] at H
      by_cases c2 : x4_1 < a0
      · rw [if_pos c2] at H
        have c2b0 : decide (x4_1 < a0) = true := decide_eq_true c2
        clear c2
        have H' := A0_ H
        clear H
        go_wp2
        go_roundg k1
        case measure => have := HK1.out; omega
        case rel => exact ⟨(IntKind.u64.wrap (x3_1 * 2)), (wrap64 (x4_1 + 1)), (by first|rfl|(simp; done)|(simp [*]; done)), (by first|rfl|(simp; done)|(simp [*]; done)), H', ⟨by have := HK1.out; omega⟩, by repeat (first|exact Drawn0.refl _|apply Drawn0.step)⟩
      · rw [if_neg c2] at H
        have c2b0 : decide (x4_1 < a0) = false := decide_eq_false c2
        clear c2
        obtain rfl := Option.some.inj H
        go_wp2
        go_ret
        exact ⟨by first|rfl|(simp; done)|(simp [*]; done), by repeat (first|exact Drawn0.refl _|apply Drawn0.step)⟩

end Go.Proofs.Ytbnkanlfepdlkaa.PBarrierPlays
