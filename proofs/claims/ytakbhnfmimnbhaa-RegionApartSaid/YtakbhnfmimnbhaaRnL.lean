/- Kinds of RegionPlays' arguments: calls of three numbers. Conditions: none. -/
import Derived.Test.YtakbhnfmimnbhaaRnK
namespace Go.Proofs.Ytakbhnfmimnbhaa.Rn
open Go.ChangeShapes Go.WideShapes Go.ChangeAt Go.RowKit Go.Proofs.YtakbhnfmimnbhaaW.PrintWords
set_option linter.unusedVariables false
set_option linter.unusedSimpArgs false
set_option linter.constructorNameAsVariable false
structure S69 where
  f0 : Int
  f1 : Int
  f2 : Int
def z69 : S69 := ⟨(0 : Int), (0 : Int), (0 : Int)⟩
def k69 : Kd S69 := Kd.iso (Kd.pair (Kd.int .i64) (Kd.pair (Kd.int .i64) (Kd.int .i64))) (fun x : S69 => (x.f0, x.f1, x.f2))
theorem k69_open {w : World} {x : S69} {cs : List Value} (h : k69.K w x cs) : cs = [.int .i64 x.f0, .int .i64 x.f1, .int .i64 x.f2] := by
  obtain ⟨_, _, rfl, rfl, ⟨_, _, rfl, rfl, rfl⟩⟩ := h
  exact rfl
def rd_T69 (xs : List S69) (i : Int) : S69 := xs.getD i.toNat z69
theorem at_T69 {w : World} {A : Option Addr} {n : Nat} {xs : List S69} (h : Kd.C k69 w A n xs) (i : Int) (h0 : 0 ≤ i) (h1 : i < n) : ∃ ad , A = some ad ∧ w.cell? (ad.add (i.toNat * 3)) = some (.int .i64 (rd_T69 xs i).f0) ∧ w.cell? ⟨(ad.add (i.toNat * 3)).block, (ad.add (i.toNat * 3)).off + 1, none⟩ = some (.int .i64 (rd_T69 xs i).f1) ∧ w.cell? ⟨(ad.add (i.toNat * 3)).block, (ad.add (i.toNat * 3)).off + 2, none⟩ = some (.int .i64 (rd_T69 xs i).f2) := by
  obtain ⟨ad, c, e, _, hK, hc0⟩ := Kd.C_get h z69 i h0 h1
  have hc : ∀ j u, c[j]? = some u → w.cell? (ad.add (i.toNat * 3 + j)) = some u := hc0
  obtain rfl := k69_open hK
  exact ⟨ad, e, hc 0 _ rfl, by rw [← add_field _ _ 1 (by omega)]; exact hc 1 _ rfl, by rw [← add_field _ _ 2 (by omega)]; exact hc 2 _ rfl⟩
instance : Inhabited S69 := ⟨z69⟩
def ok69 (s : S69) : Prop := (fun x => (Lit.int .i64 x).wf = true) s.f0 ∧ (fun x => (Lit.int .i64 x).wf = true) s.f1 ∧ (fun x => (Lit.int .i64 x).wf = true) s.f2
theorem opn69 {H : Type} {enc : TypeId × Value → H} {w : World} : Rw.Opn enc Try.prog w 69 k69 ok69 := by
  refine ⟨by kernel_rfl, fun base spare held fuel cs x h hw => ?_⟩
  have hl : cs.length = 3 := (Rw.struct_len Try.underlying69 h).trans (by kernel_rfl)
  obtain ⟨a0, q0, o0⟩ := Rw.opn_field Try.underlying69 h hw 0 _ rfl (Rw.opn_int Try.underlying3 (by kernel_rfl))
  have k0 : (Kd.int .i64).K w a0 ((cs.drop 0).take 1) := q0
  obtain ⟨a1, q1, o1⟩ := Rw.opn_field Try.underlying69 h hw 1 _ rfl (Rw.opn_int Try.underlying3 (by kernel_rfl))
  have k1 : (Kd.int .i64).K w a1 ((cs.drop 1).take 1) := q1
  obtain ⟨a2, q2, o2⟩ := Rw.opn_field Try.underlying69 h hw 2 _ rfl (Rw.opn_int Try.underlying3 (by kernel_rfl))
  have k2 : (Kd.int .i64).K w a2 ((cs.drop 2).take 1) := q2
  refine ⟨⟨a0, a1, a2⟩, ?_, o0, o1, o2⟩
  have e2 := Rw.cut_last cs 2 1 hl
  rw [← e2] at k2
  exact ⟨(cs.drop 0).take 1, cs.drop 1, Rw.cut_at cs 0 1, k0, ⟨(cs.drop 1).take 1, cs.drop 2, Rw.cut_at cs 1 1, k1, k2⟩⟩
end Go.Proofs.Ytakbhnfmimnbhaa.Rn
