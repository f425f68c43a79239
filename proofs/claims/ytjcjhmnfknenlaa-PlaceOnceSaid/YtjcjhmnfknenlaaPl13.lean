/- Places that the call has made; lives. Conditions: none. -/
import Derived.Test.YtjcjhmnfknenlaaPl12
namespace Go.Proofs.Ytjcjhmnfknenlaa.Pl
open Go.RowKit Go.Proofs.Ytjcjhmnfknenlaa.PPlaceOnce Go.Proofs.YtjcjhmnfknenlaaW.PrintWords Go.Proofs.YtjcjhmnfknenlaaW.PrintLast
open Rg (Chg)
set_option linter.unusedVariables false
set_option linter.unusedSimpArgs false

/-- Places made since w. -/
def Sp (w w' : World) (gp : Nat) (A : Pa) : Prop := Pl (fun k => w.heap.size ≤ k) w' gp A ∧ Below w.heap.size w w'
section
variable {w w1 w2 : World} {gp : Nat} {A : Pa}
theorem Sp.hb (h : Sp w w1 gp A) : Below w.heap.size w w1 := h.2
theorem Sp.below (h : Sp w w1 gp A) (hb : Below w1.heap.size w1 w2) : Sp w w2 gp A := by
  obtain ⟨⟨bl, cl, ex, r, q, h1⟩, h2⟩ := h
  exact ⟨⟨bl, cl, ex, r, q, h1.below hb⟩, below_step h2 hb⟩
theorem Sp.drewN (h : Sp w w1 gp A) (n : Nat) : Sp w (w1.drewN n) gp A := h.below (pw_below_drewN (Below.refl _ _) n)
theorem Sp.n8 (h : Sp w w1 gp A) : 0 < A.n ∧ A.n ≤ 8 := by
  obtain ⟨⟨bl, cl, ex, r, q, h1⟩, h2⟩ := h
  exact ⟨h1.n_pos, h1.n_le⟩
theorem sp_new (w : World) (x : Int) : Calls Try.prog 7 #[.int .i64 x] w fun e w' => ∃ gp n, e = .returned (.pointer (some ⟨gp, 0, none⟩)) ∧ Sp w w' gp (A0 n) ∧ Inv (A0 n) ∧ WB 0 (A0 n) := by
  obtain ⟨n, hn⟩ : ∃ n : Nat, (n : Int) = min (max x 1) 8 := ⟨(min (max x 1) 8).toNat, by omega⟩
  exact (new_any w x n hn).mono fun e w' ⟨gp, h1, h2, h3⟩ => ⟨gp, n, h1, ⟨h2, h3⟩, inv0 (by omega), fun i hi => ⟨Int.le_refl _, Int.le_refl _⟩⟩
theorem sp_on (h : Sp w w1 gp A) (hi : Inv A) (x : Int) : Calls Try.prog 11 #[.pointer (some ⟨gp, 0, none⟩), .int .i64 x] w1 fun e w' => e = .returned (.int .i64 (on A x)) ∧ Sp w w' gp A := by
  obtain ⟨⟨bl, cl, ex, r, q, h1⟩, h2⟩ := h
  exact (on_any h1 hi.runs x).mono fun e w' ⟨h3, h4⟩ => ⟨h3, by rw [h4]; exact ⟨⟨bl, cl, ex, r, q, h1⟩, h2⟩⟩
theorem sp_where (h : Sp w w1 gp A) (hi : Inv A) (x : Int) : Calls Try.prog 20 #[.pointer (some ⟨gp, 0, none⟩), .int .i64 x] w1 fun e w' => e = .returned (.int .i64 (wher A x)) ∧ Sp w w' gp A := by
  obtain ⟨⟨bl, cl, ex, r, q, h1⟩, h2⟩ := h
  exact (where_any h1 hi.wh x).mono fun e w' ⟨h3, h4⟩ => ⟨h3, by rw [h4]; exact ⟨⟨bl, cl, ex, r, q, h1⟩, h2⟩⟩
theorem sp_workers (h : Sp w w1 gp A) : Calls Try.prog 10 #[.pointer (some ⟨gp, 0, none⟩)] w1 fun e w' => e = .returned (.int .i64 (A.n : Int)) ∧ Sp w w' gp A := by
  obtain ⟨⟨bl, cl, ex, r, q, h1⟩, h2⟩ := h
  exact (workers_any h1).mono fun e w' ⟨h3, h4⟩ => ⟨h3, by rw [h4]; exact ⟨⟨bl, cl, ex, r, q, h1⟩, h2⟩⟩
theorem sp_all (h : Sp w w1 gp A) (hi : Inv A) : Calls Try.prog 9 #[.pointer (some ⟨gp, 0, none⟩)] w1 fun e w' => e = .returned (.int .u64 ((allS A : Nat) : Int)) ∧ Sp w w' gp A := by
  have h' := h
  obtain ⟨⟨bl, cl, ex, r, q, h1⟩, h2⟩ := h
  exact (all_any h1 hi.ok).mono fun e w' ⟨h3, n, h4⟩ => ⟨h3, by rw [h4]; exact h'.drewN n⟩
theorem sp_of {A' : Pa} (h : Sp w w1 gp A) (h1 : Pl (fun k => w.heap.size ≤ k ∨ w1.heap.size ≤ k) w2 gp A') (h2 : Chg (fun k => w.heap.size ≤ k) w1 w2) : Sp w w2 gp A' := by
  obtain ⟨bl, cl, ex, r, q, h1⟩ := h1
  exact ⟨⟨bl, cl, ex, r, q, h1.mono (fun k hk => by have := h.2.size; omega)⟩, Chg.below h.2 h2 h.2.size (fun k hk => hk)⟩
theorem sp_do (h : Sp w w1 gp A) (hi : Inv A) {m : Int} (hw : WB m A) (hm : m ≤ 1000000) (k x : Int) {t : Int} (wt : (Lit.int .i64 t).wf = true) :
    Calls Try.prog 8 #[.pointer (some ⟨gp, 0, none⟩), .agg #[.int .i64 k, .int .i64 x, .int .i64 t]] w1 fun e w' => e = .returned (.tuple #[.int .i64 (doA A k x t).2.1, .int .i64 (doA A k x t).2.2]) ∧ Sp w w' gp (doA A k x t).1 := by
  have e1 : IntKind.i64.min = -9223372036854775808 := by decide
  have e2 : IntKind.i64.max = 9223372036854775807 := by decide
  simp only [Lit.wf, Bool.and_eq_true, decide_eq_true_eq, e1, e2] at wt
  exact (do_any h.1 hi.ok (fun i hi => ⟨(hw i hi).1, Int.le_trans (hw i hi).2 hm⟩) k x wt).mono fun e w' ⟨h3, h4, h5⟩ => ⟨h3, sp_of h h4 h5⟩
theorem sp_leave (h : Sp w w1 gp A) (hi : Inv A) (x : Int) : Calls Try.prog 12 #[.pointer (some ⟨gp, 0, none⟩), .int .i64 x] w1 fun e w' => e = .returned (.bool (decide (0 ≤ on A x))) ∧ Sp w w' gp (leaveA A x) := by
  have h' := h
  obtain ⟨⟨bl, cl, ex, r, q, h1⟩, h2⟩ := h
  exact (leave_any h1 hi.ok x).mono fun e w' ⟨h3, h4, h5⟩ => ⟨h3, sp_of h' ⟨bl, cl, ex, r, q, h4.mono (fun k hk => .inl hk)⟩ h5⟩
theorem sp_ready (h : Sp w w1 gp A) (hi : Inv A) (x t : Int) : Calls Try.prog 22 #[.pointer (some ⟨gp, 0, none⟩), .int .i64 x, .int .i64 t] w1 fun e w' => e = .returned (.bool (readyB A x t)) ∧ Sp w w' gp (readyA A x t) := by
  have h' := h
  obtain ⟨⟨bl, cl, ex, r, q, h1⟩, h2⟩ := h
  exact (ready_any h1 hi.ok x t).mono fun e w' ⟨h3, h4, h5⟩ => ⟨h3, sp_of h' ⟨bl, cl, ex, r, q, h4.mono (fun k hk => .inl hk)⟩ h5⟩
theorem sp_fetch (h : Sp w w1 gp A) (hi : Inv A) (x : Int) {d : Int} (wd : -9223372036854775808 ≤ d ∧ d ≤ 9223372036854775807) : Calls Try.prog 13 #[.pointer (some ⟨gp, 0, none⟩), .int .i64 x, .int .i64 d] w1 fun e w' => e = .returned (.tuple #[.int .i64 (fetchA A x d).2.1, .int .i64 (fetchA A x d).2.2]) ∧ Sp w w' gp (fetchA A x d).1 := by
  have h' := h
  obtain ⟨⟨bl, cl, ex, r, q, h1⟩, h2⟩ := h
  exact (fetch_any h1 hi.ok x wd).mono fun e w' ⟨h3, h4, h5⟩ => ⟨h3, sp_of h' ⟨bl, cl, ex, r, q, h4.mono (fun k hk => .inl hk)⟩ h5⟩
end
/-! ### lives -/
def L1 : Pa := readyA (A0 2) 0 5
def L2 : Pa := readyA L1 0 6
def L3 : Pa := (fetchA L2 0 0).1
def L4 : Pa := (fetchA L3 1 0).1
theorem l_r1 : readyB (A0 2) 0 5 = true := by decide +kernel
theorem l_r2 : readyB L1 0 6 = true := by decide +kernel
theorem l_f1 : (fetchA L2 0 0).2 = (6, 1) := by decide +kernel
theorem l_f2 : (fetchA L3 1 0).2 = (5, 3) := by decide +kernel
theorem l_on : on L4 1 = 5 := by decide +kernel
theorem l_wh : wher L4 6 = 1 := by decide +kernel
theorem l_i0 : Inv (A0 2) := inv0 (by decide)
theorem l_i1 : Inv L1 := l_i0.ready 0 5
theorem l_i2 : Inv L2 := l_i1.ready 0 6
theorem l_i3 : Inv L3 := (l_i2.fetch 0 0).1
theorem l_i4 : Inv L4 := (l_i3.fetch 1 0).1
set_option maxHeartbeats 4000000 in
set_option maxRecDepth 100000 in
theorem lives_any (w : World) : Calls Try.prog 14 #[] w fun e w' => e = .returned (.bool true) ∧ Below w.heap.size w w' := by
  have HN := Aside0.mk (new_any w 2 2 (by decide))
  go_enter Try.func14, Try.ntmps14
  go_upto_region 4 with (go_at_call 7; (refine HN.out.mono ?_); rintro e w1 ⟨gp, rfl, ha, hb⟩; have S0 := Aside0.mk (show Sp w w1 gp (A0 2) from ⟨ha, hb⟩); clear ha hb)
  go_upto_region 5 with (first
    | (go_at_call 22; (with_reducible refine (sp_ready S0.out l_i0 0 5).mono ?_); rintro e w2 ⟨rfl, h⟩; rw [l_r1]; have S1 := Aside0.mk (show Sp w w2 gp L1 from h); clear h)
    | (go_at_call 22; (with_reducible refine (sp_ready S1.out l_i1 0 6).mono ?_); rintro e w3 ⟨rfl, h⟩; rw [l_r2]; have S2 := Aside0.mk (show Sp w w3 gp L2 from h); clear h))
  have HF1 := Aside0.mk (show Calls Try.prog 13 #[.pointer (some ⟨gp, 0, none⟩), .int .i64 0, .int .i64 0] w3 fun e w' => e = .returned (.tuple #[.int .i64 6, .int .i64 1]) ∧ Sp w w' gp L3 from by
    have h := sp_fetch S2.out l_i2 0 (d := 0) (by decide)
    rw [l_f1] at h
    exact h)
  go_upto_region 6 with (go_at_call 13; (refine HF1.out.mono ?_); rintro e w4 ⟨rfl, h⟩; have S3 := Aside0.mk h; clear h)
  have HF2 := Aside0.mk (show Calls Try.prog 13 #[.pointer (some ⟨gp, 0, none⟩), .int .i64 1, .int .i64 0] w4 fun e w' => e = .returned (.tuple #[.int .i64 5, .int .i64 3]) ∧ Sp w w' gp L4 from by
    have h := sp_fetch S3.out l_i3 1 (d := 0) (by decide)
    rw [l_f2] at h
    exact h)
  go_upto_region 7 with (go_at_call 13; (refine HF2.out.mono ?_); rintro e w5 ⟨rfl, h⟩; have S4 := Aside0.mk h; clear h)
  go_wp2_with (first
    | (go_at_call 11; (refine (sp_on S4.out l_i4 1).mono ?_); rintro e w6 ⟨rfl, h⟩; rw [l_on]; have S5 := Aside0.mk h; clear h)
    | (go_at_call 20; (refine (sp_where S5.out l_i4 6).mono ?_); rintro e w7 ⟨rfl, h⟩; rw [l_wh]; have S6 := Aside0.mk h; clear h))
  go_ret
  exact ⟨rfl, S6.out.hb⟩
end Go.Proofs.Ytjcjhmnfknenlaa.Pl
