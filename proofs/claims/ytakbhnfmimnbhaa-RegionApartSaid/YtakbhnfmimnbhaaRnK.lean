/- Kinds of RegionBack's arguments: rows of two numbers, and an array of eight. Conditions: none. -/
import Derived.Test.YtakbhnfmimnbhaaRw
import Derived.Test.YtakbhnfmimnbhaaProg
import Derived.WideShapes
import Derived.OpenShut
namespace Go.Proofs.Ytakbhnfmimnbhaa.Rn
open Go.ChangeShapes Go.WideShapes Go.ChangeAt Go.RowKit Go.Proofs.YtakbhnfmimnbhaaW.PrintWords
set_option linter.unusedVariables false
set_option linter.unusedSimpArgs false
set_option linter.constructorNameAsVariable false
structure S28 where
  f0 : Int
  f1 : Int
def z28 : S28 := ⟨(0 : Int), (0 : Int)⟩
def k28 : Kd S28 := Kd.iso (Kd.pair (Kd.int .i64) (Kd.int .i64)) (fun x : S28 => (x.f0, x.f1))
theorem k28_open {w : World} {x : S28} {cs : List Value} (h : k28.K w x cs) : cs = [.int .i64 x.f0, .int .i64 x.f1] := by
  obtain ⟨_, _, rfl, rfl, rfl⟩ := h
  exact rfl
def rd_T28 (xs : List S28) (i : Int) : S28 := xs.getD i.toNat z28
theorem at_T28 {w : World} {A : Option Addr} {n : Nat} {xs : List S28} (h : Kd.C k28 w A n xs) (i : Int) (h0 : 0 ≤ i) (h1 : i < n) : ∃ ad , A = some ad ∧ w.cell? (ad.add (i.toNat * 2)) = some (.int .i64 (rd_T28 xs i).f0) ∧ w.cell? ⟨(ad.add (i.toNat * 2)).block, (ad.add (i.toNat * 2)).off + 1, none⟩ = some (.int .i64 (rd_T28 xs i).f1) := by
  obtain ⟨ad, c, e, _, hK, hc0⟩ := Kd.C_get h z28 i h0 h1
  have hc : ∀ j u, c[j]? = some u → w.cell? (ad.add (i.toNat * 2 + j)) = some u := hc0
  obtain rfl := k28_open hK
  exact ⟨ad, e, hc 0 _ rfl, by rw [← add_field _ _ 1 (by omega)]; exact hc 1 _ rfl⟩
instance : Inhabited S28 := ⟨z28⟩
def ok28 (s : S28) : Prop := (fun x => (Lit.int .i64 x).wf = true) s.f0 ∧ (fun x => (Lit.int .i64 x).wf = true) s.f1
theorem opn28 {H : Type} {enc : TypeId × Value → H} {w : World} : Rw.Opn enc Try.prog w 28 k28 ok28 := by
  refine ⟨by kernel_rfl, fun base spare held fuel cs x h hw => ?_⟩
  have hl : cs.length = 2 := (Rw.struct_len Try.underlying28 h).trans (by kernel_rfl)
  obtain ⟨a0, q0, o0⟩ := Rw.opn_field Try.underlying28 h hw 0 _ rfl (Rw.opn_int Try.underlying3 (by kernel_rfl))
  have k0 : (Kd.int .i64).K w a0 ((cs.drop 0).take 1) := q0
  obtain ⟨a1, q1, o1⟩ := Rw.opn_field Try.underlying28 h hw 1 _ rfl (Rw.opn_int Try.underlying3 (by kernel_rfl))
  have k1 : (Kd.int .i64).K w a1 ((cs.drop 1).take 1) := q1
  refine ⟨⟨a0, a1⟩, ?_, o0, o1⟩
  have e1 := Rw.cut_last cs 1 1 hl
  rw [← e1] at k1
  exact ⟨(cs.drop 0).take 1, cs.drop 1, Rw.cut_at cs 0 1, k0, k1⟩
theorem nums_of : ∀ (cs : List Value), (∀ i, i < cs.length → ∃ a, (cs.drop i).take 1 = [.int .i64 a]) → ∃ f : List Int, cs = nums .i64 f
  | [], _ => ⟨[], rfl⟩
  | x :: t, h => by
    obtain ⟨f, hf⟩ := nums_of t (fun i hi => by
      have := h (i + 1) (by simp; omega)
      simpa using this)
    obtain ⟨a, ha⟩ := h 0 (by simp)
    simp at ha
    exact ⟨a :: f, by rw [hf, ha]; rfl⟩
theorem open_arr8 {H : Type} {enc : TypeId × Value → H} {w : World} {base : Nat} {spare : Nat → Bool} {held : Bool} {r : Reach} {b0 : Nat} {v : Value} {d : DataW H} {ps : List MemPlace} (hval : Value.okWide Try.prog w r b0 22 v) (hd : DataW.Trod enc Try.prog w base spare held 22 v d ps) : ∃ f : List Int, f.length = 8 ∧ v = .agg (nums .i64 f).toArray := by
  have hv : ∃ cs, v = .agg cs ∧ cs.size = 8 := by
    simp only [Value.okWide, Try.underlying22] at hval
    obtain ⟨cs, h1, h2, _⟩ := hval
    exact ⟨cs, h1, h2.trans (by kernel_rfl)⟩
  obtain ⟨cs, rfl, hz⟩ := hv
  obtain ⟨fuel, hf⟩ := hd
  obtain ⟨xs, m, _, _, hl, hn, hx⟩ := DataW.trod_array Try.underlying22 hf
  have hc : Try.prog.cellsOf 3 = 1 := by kernel_rfl
  obtain ⟨f, e⟩ := nums_of cs.toList (fun i hi => by
    have h := hx i (by rw [Array.length_toList] at hi; omega)
    rw [hc, Nat.mul_one, List.getElem?_eq_getElem (by rw [Array.length_toList] at hi; omega)] at h
    obtain ⟨a, ha, _⟩ := DataW.trod_int Try.underlying3 h
    exact ⟨a, ha⟩)
  refine ⟨f, ?_, ?_⟩
  · have := congrArg List.length e
    rw [Array.length_toList, hz] at this
    simpa [nums] using this.symm
  · rw [← e]
end Go.Proofs.Ytakbhnfmimnbhaa.Rn
