/- A heap of timers: cut. Conditions: none. -/
import Derived.Test.YtakbhnfmimnbhaaTm3
namespace Go.Proofs.Ytakbhnfmimnbhaa.Tm
open Go.RowKit Go.Proofs.YtakbhnfmimnbhaaW.PrintWords Go.Proofs.YtakbhnfmimnbhaaW.PrintLast
open Go.Maps (int_keyed keyOf_int_mk)
set_option linter.unusedVariables false
set_option linter.unusedSimpArgs false
variable {sh : Shp}

theorem info77 : (Try.prog.info? 145).map (fun i => (i.zero, i.size, i.bytes)) = some (some (.agg #[.int .i64 0, .int .i64 0]), 2, 16) := by kernel_rfl
theorem zero3 (W : World) : (zeroValue 3).run Try.prog W = .ok (.int .i64 0) W := by
  have h : (Try.prog.info? 3).map (fun i => (i.zero, i.size, i.bytes)) = some (some (.int .i64 0), 1, 8) := by kernel_rfl
  obtain ⟨i0, hi, hz0, hz1, hz2⟩ := info_parts h
  simp [zeroValue, typeInfo, hi, hz0, Result.andThen]
theorem slice_run (A : Option Addr) (m c l : Nat) (hl : l ≤ c) (W : World) : (Instr.slice 39 (.slice A m c) none (some (.int .i64 (l : Int))) none).run Try.prog W = .ok (.slice A l c) W := by
  obtain ⟨i0, hi, hz0, hz1, hz2⟩ := info_parts info77
  have hel : Try.prog.elem 39 = 145 := by simp [Program.elem, Try.underlying39]
  have hu : Try.prog.underlying 39 = some (.slice (Try.prog.elem 39)) := by rw [hel]; exact Try.underlying39
  have ha : (A.map fun x => x.add 0) = A := by cases A <;> simp [Addr.add]
  rw [run_slice_h W 39 A m c hu .i64 (l : Int) (by omega) (by omega), hel]
  simp [sizeOf, typeInfo, hi, hz1, sliced, Result.andThen, ha]
section
variable {W : World} {base g b n : Nat} {v : Value} {xs : List (Int × Int)} {p : Int → Option Int}
/-- delete(m, k). -/
theorem T.drop (h : T sh W base g v b n xs p) {k : Int} (wk : (Lit.int .i64 k).wf = true) (ty : TypeId) :
    ∃ w', (Builtin.delete_ #[40, 3] ty #[.map (some b), .int .i64 k]).run Try.prog W = .ok (.tuple #[]) w' ∧ T sh w' base g v b n xs (del p k) ∧ W.grownBy w' (some b) := by
  obtain ⟨D, h1, h2⟩ := h.hm
  obtain ⟨w', hrun, r1, r2⟩ := h1.drop (int_keyed Try.underlying3) Try.underlying40 (keyOf_int_mk Try.underlying3 wk) ty
  exact ⟨w', hrun, ⟨(r2.grown.block g h.g_lt (by simpa using h.gne)).trans h.hg, Kd.R_grown h.hr r2.grown (fun k hk e => h.vne_b k hk (by injection e)), ⟨_, r1, h2.del k⟩, h.gb, h.bb⟩, r2.grown⟩
/-- m[k]. -/
theorem T.look (h : T sh W base g v b n xs p) {k : Int} (wk : (Lit.int .i64 k).wf = true) :
    (Instr.lookup 40 (.map (some b)) (.int .i64 k) false).run Try.prog W = .ok (.int .i64 ((p k).getD 0)) W := by
  obtain ⟨D, h1, h2⟩ := h.hm
  obtain ⟨c, hrun, hat, _⟩ := h1.lookup_int (int_keyed Try.underlying3) Try.underlying40 Try.underlying3 (zero3 W) (keyOf_int_mk Try.underlying3 wk)
  have := (h2.2 k).2
  unfold zl at this
  rw [hat] at this
  have this := (Lit.int.inj (DataW.lit.inj this)).2
  rw [hrun, this]
/-- v, ok := m[k]. -/
theorem T.lookok (h : T sh W base g v b n xs p) {k : Int} (wk : (Lit.int .i64 k).wf = true) :
    (Instr.lookup 40 (.map (some b)) (.int .i64 k) true).run Try.prog W = .ok (.tuple #[.int .i64 ((p k).getD 0), .bool (p k).isSome]) W := by
  obtain ⟨D, h1, h2⟩ := h.hm
  obtain ⟨v, ps, hrun, hv⟩ := h1.look_ok (int_keyed Try.underlying3) Try.underlying40 (z := .int .i64 0) (zero3 W) (zd := .lit (.int .i64 0)) (zp := []) (plainElem_int Try.underlying3 (by decide)) (keyOf_int_mk Try.underlying3 wk)
  obtain ⟨c, rfl, hc, _⟩ := plainElem_int_inv Try.underlying3 hv
  have := h2.2 k
  unfold zl at this
  rw [this.2] at hc
  simp only [Prod.mk.injEq] at hc
  have hc := hc.1
  have hc := (Lit.int.inj (DataW.lit.inj hc)).2
  rw [hrun, this.1, ← hc]
/-- t.heap = t.heap[:l]. -/
theorem T.take {gh m c l : Nat} (h : T sh W base g (.slice (some ⟨gh, 0, none⟩) m c) b n xs p) (hl : l ≤ xs.length) :
    T sh (W.setCell ⟨g, sh.o, none⟩ (.slice (some ⟨gh, 0, none⟩) l c)) base g (.slice (some ⟨gh, 0, none⟩) l c) b n (xs.take l) p := by
  obtain ⟨D, h1, h2⟩ := h.hm
  have q := Kd.R_far (p := ⟨g, sh.o, none⟩) (Kd.R_take h.hr hl) (fun k hk => h.vne_g k hk) (.slice (some ⟨gh, 0, none⟩) l c)
  exact ⟨blk_put h.hg sh.o _ (sh.set0 _ _ _), Kd.R_mono q (fun k hk => hk), ⟨D, h1.setCell h.gne.symm _, h2⟩, h.gb, h.bb⟩
end
/-- cut at i. -/
def cutF (i : Nat) (xs : List (Int × Int)) (p : Int → Option Int) : List (Int × Int) × (Int → Option Int) :=
  let l := xs.length - 1
  let x := xs.getD l (0, 0)
  let p1 := del p (xs.getD i (0, 0)).2
  if i = l then (xs.take l, p1) else
    let u := upF i x i ((xs.take l).set i x) (upd p1 x.2 i)
    downF u.1.length (u.1.getD ((u.2 x.2).getD 0).toNat (0, 0)) ((u.2 x.2).getD 0).toNat u.1 u.2
theorem upF_at : ∀ k x i xs p, i < xs.length → (upF k x i xs p).1.length = xs.length ∧ ∃ j : Nat, j ≤ i ∧ (upF k x i xs p).2 x.2 = some (j : Int) ∧ (upF k x i xs p).1.getD j (0, 0) = x
  | 0, x, i, xs, p, h => ⟨by simp [upF], i, Nat.le_refl _, by simp [upF, upd], by simp only [upF]; rw [getD_set h, if_pos rfl]⟩
  | k + 1, x, i, xs, p, h => by
    simp only [upF]
    split
    · obtain ⟨h1, j, h2, h3, h4⟩ := upF_at k x ((i - 1) / 2) (xs.set i (xs.getD ((i - 1) / 2) (0, 0))) (upd p (xs.getD ((i - 1) / 2) (0, 0)).2 i) (by rw [List.length_set]; omega)
      exact ⟨by rw [h1, List.length_set], j, by omega, h3, h4⟩
    · exact ⟨by simp, i, Nat.le_refl _, by simp [upd], by rw [getD_set h, if_pos rfl]⟩
theorem Wx.upF : ∀ k x i xs p, i < xs.length → Wx xs → (Lit.int .i64 x.2).wf = true → Wx (Tm.upF k x i xs p).1
  | 0, x, i, xs, p, h, hw, hx => hw.set_ h hx
  | k + 1, x, i, xs, p, h, hw, hx => by
    simp only [Tm.upF]
    split
    · exact Wx.upF k x _ _ _ (by rw [List.length_set]; omega) (hw.set_ h (hw _)) hx
    · exact hw.set_ h hx
theorem Wx.take {xs : List (Int × Int)} (h : Wx xs) (l : Nat) : Wx (xs.take l) := fun j => by
  by_cases hj : j < l
  · have := h j
    rw [List.getD_eq_getElem?_getD] at this ⊢
    rw [List.getElem?_take, if_pos hj]
    exact this
  · rw [List.getD_eq_getElem?_getD, List.getElem?_take, if_neg hj]
    decide
end Go.Proofs.Ytakbhnfmimnbhaa.Tm
