/- What the arguments of LineRises are known to meet, whatever they are. Conditions: none. (Written by this session's program.) -/
import Derived.Test.YtakbhnfmimnbhaaPLineRisesx0
import Derived.Test.YtakbhnfmimnbhaaRw
namespace Go.Proofs.Ytakbhnfmimnbhaa.lineRisesW
open Go.ChangeShapes Go.WideShapes Go.ChangeAt Go.RowKit
open Go.Proofs.Ytakbhnfmimnbhaa.PLineRises Go.Proofs.YtakbhnfmimnbhaaW.PrintWords
instance : Inhabited S100 := ⟨z100⟩
def ok100 (s : S100) : Prop := (fun x => (Lit.int .i64 x).wf = true) s.f0 ∧ (fun x => (Lit.int .i64 x).wf = true) s.f1 ∧ (fun x => (Lit.int .i64 x).wf = true) s.f2
theorem opn100 {H : Type} {enc : TypeId × Value → H} {w : World} : Rw.Opn enc Try.prog w 100 k100 ok100 := by
  refine ⟨by kernel_rfl, fun base spare held fuel cs x h hw => ?_⟩
  have hl : cs.length = 3 := (Rw.struct_len Try.underlying100 h).trans (by kernel_rfl)
  obtain ⟨a0, q0, o0⟩ := Rw.opn_field Try.underlying100 h hw 0 _ rfl (Rw.opn_int Try.underlying3 (by kernel_rfl))
  have k0 : (Kd.int .i64).K w a0 ((cs.drop 0).take 1) := q0
  obtain ⟨a1, q1, o1⟩ := Rw.opn_field Try.underlying100 h hw 1 _ rfl (Rw.opn_int Try.underlying3 (by kernel_rfl))
  have k1 : (Kd.int .i64).K w a1 ((cs.drop 1).take 1) := q1
  obtain ⟨a2, q2, o2⟩ := Rw.opn_field Try.underlying100 h hw 2 _ rfl (Rw.opn_int Try.underlying3 (by kernel_rfl))
  have k2 : (Kd.int .i64).K w a2 ((cs.drop 2).take 1) := q2
  refine ⟨⟨a0, a1, a2⟩, ?_, o0, o1, o2⟩
  have e2 := Rw.cut_last cs 2 1 hl
  rw [← e2] at k2
  exact ⟨(cs.drop 0).take 1, cs.drop 1, Rw.cut_at cs 0 1, k0, ⟨(cs.drop 1).take 1, cs.drop 2, Rw.cut_at cs 1 1, k1, k2⟩⟩
instance : Inhabited S48 := ⟨z48⟩
def ok48 (s : S48) : Prop := (fun x => (Lit.int .i64 x).wf = true) s.f0 ∧ (fun x => (Lit.int .i64 x).wf = true) s.f1 ∧ (fun x => (Lit.int .i64 x).wf = true) s.f2 ∧ (fun x => (Lit.int .i64 x).wf = true) s.f3 ∧ (fun l => (∀ a ∈ l, (fun l => (∀ a ∈ l, (ok100) a) ∧ l.length * 24 ≤ 140737488351232) a) ∧ l.length * 24 ≤ 140737488351232) s.f4 ∧ (fun x => (Lit.int .i64 x).wf = true) s.f5 ∧ (fun x => (Lit.int .i64 x).wf = true) s.f6 ∧ (fun x => (Lit.int .i64 x).wf = true) s.f7 ∧ (fun x => (Lit.int .i64 x).wf = true) s.f8 ∧ (fun x => (Lit.int .u64 x).wf = true) s.f9
theorem opn48 {H : Type} {enc : TypeId × Value → H} {w : World} : Rw.Opn enc Try.prog w 48 k48 ok48 := by
  refine ⟨by kernel_rfl, fun base spare held fuel cs x h hw => ?_⟩
  have hl : cs.length = 10 := (Rw.struct_len Try.underlying48 h).trans (by kernel_rfl)
  obtain ⟨a0, q0, o0⟩ := Rw.opn_field Try.underlying48 h hw 0 _ rfl (Rw.opn_int Try.underlying3 (by kernel_rfl))
  have k0 : (Kd.int .i64).K w a0 ((cs.drop 0).take 1) := q0
  obtain ⟨a1, q1, o1⟩ := Rw.opn_field Try.underlying48 h hw 1 _ rfl (Rw.opn_int Try.underlying3 (by kernel_rfl))
  have k1 : (Kd.int .i64).K w a1 ((cs.drop 1).take 1) := q1
  obtain ⟨a2, q2, o2⟩ := Rw.opn_field Try.underlying48 h hw 2 _ rfl (Rw.opn_int Try.underlying3 (by kernel_rfl))
  have k2 : (Kd.int .i64).K w a2 ((cs.drop 2).take 1) := q2
  obtain ⟨a3, q3, o3⟩ := Rw.opn_field Try.underlying48 h hw 3 _ rfl (Rw.opn_int Try.underlying3 (by kernel_rfl))
  have k3 : (Kd.int .i64).K w a3 ((cs.drop 3).take 1) := q3
  obtain ⟨a4, q4, o4⟩ := Rw.opn_field Try.underlying48 h hw 4 _ rfl (Rw.opn_slice 24 Try.underlying45 (by kernel_rfl) (by kernel_rfl) (Rw.opn_slice 24 Try.underlying99 (by kernel_rfl) (by kernel_rfl) opn100))
  have k4 : (Kd.slice 99 (Kd.slice 100 k100)).K w a4 ((cs.drop 4).take 1) := q4
  obtain ⟨a5, q5, o5⟩ := Rw.opn_field Try.underlying48 h hw 5 _ rfl (Rw.opn_int Try.underlying3 (by kernel_rfl))
  have k5 : (Kd.int .i64).K w a5 ((cs.drop 5).take 1) := q5
  obtain ⟨a6, q6, o6⟩ := Rw.opn_field Try.underlying48 h hw 6 _ rfl (Rw.opn_int Try.underlying3 (by kernel_rfl))
  have k6 : (Kd.int .i64).K w a6 ((cs.drop 6).take 1) := q6
  obtain ⟨a7, q7, o7⟩ := Rw.opn_field Try.underlying48 h hw 7 _ rfl (Rw.opn_int Try.underlying3 (by kernel_rfl))
  have k7 : (Kd.int .i64).K w a7 ((cs.drop 7).take 1) := q7
  obtain ⟨a8, q8, o8⟩ := Rw.opn_field Try.underlying48 h hw 8 _ rfl (Rw.opn_int Try.underlying3 (by kernel_rfl))
  have k8 : (Kd.int .i64).K w a8 ((cs.drop 8).take 1) := q8
  obtain ⟨a9, q9, o9⟩ := Rw.opn_field Try.underlying48 h hw 9 _ rfl (Rw.opn_int Try.underlying46 (by kernel_rfl))
  have k9 : (Kd.int .u64).K w a9 ((cs.drop 9).take 1) := q9
  refine ⟨⟨a0, a1, a2, a3, a4, a5, a6, a7, a8, a9⟩, ?_, o0, o1, o2, o3, o4, o5, o6, o7, o8, o9⟩
  have e9 := Rw.cut_last cs 9 1 hl
  rw [← e9] at k9
  exact ⟨(cs.drop 0).take 1, cs.drop 1, Rw.cut_at cs 0 1, k0, ⟨(cs.drop 1).take 1, cs.drop 2, Rw.cut_at cs 1 1, k1, ⟨(cs.drop 2).take 1, cs.drop 3, Rw.cut_at cs 2 1, k2, ⟨(cs.drop 3).take 1, cs.drop 4, Rw.cut_at cs 3 1, k3, ⟨(cs.drop 4).take 1, cs.drop 5, Rw.cut_at cs 4 1, k4, ⟨(cs.drop 5).take 1, cs.drop 6, Rw.cut_at cs 5 1, k5, ⟨(cs.drop 6).take 1, cs.drop 7, Rw.cut_at cs 6 1, k6, ⟨(cs.drop 7).take 1, cs.drop 8, Rw.cut_at cs 7 1, k7, ⟨(cs.drop 8).take 1, cs.drop 9, Rw.cut_at cs 8 1, k8, k9⟩⟩⟩⟩⟩⟩⟩⟩⟩
instance : Inhabited S50 := ⟨z50⟩
def ok50 (s : S50) : Prop := (fun x => (Lit.int .i64 x).wf = true) s.f0 ∧ (fun x => (Lit.int .i64 x).wf = true) s.f1 ∧ (fun x => (Lit.int .i64 x).wf = true) s.f2 ∧ (ok48) s.f3
theorem opn50 {H : Type} {enc : TypeId × Value → H} {w : World} : Rw.Opn enc Try.prog w 50 k50 ok50 := by
  refine ⟨by kernel_rfl, fun base spare held fuel cs x h hw => ?_⟩
  have hl : cs.length = 13 := (Rw.struct_len Try.underlying50 h).trans (by kernel_rfl)
  obtain ⟨a0, q0, o0⟩ := Rw.opn_field Try.underlying50 h hw 0 _ rfl (Rw.opn_int Try.underlying3 (by kernel_rfl))
  have k0 : (Kd.int .i64).K w a0 ((cs.drop 0).take 1) := q0
  obtain ⟨a1, q1, o1⟩ := Rw.opn_field Try.underlying50 h hw 1 _ rfl (Rw.opn_int Try.underlying3 (by kernel_rfl))
  have k1 : (Kd.int .i64).K w a1 ((cs.drop 1).take 1) := q1
  obtain ⟨a2, q2, o2⟩ := Rw.opn_field Try.underlying50 h hw 2 _ rfl (Rw.opn_int Try.underlying3 (by kernel_rfl))
  have k2 : (Kd.int .i64).K w a2 ((cs.drop 2).take 1) := q2
  obtain ⟨a3, q3, o3⟩ := Rw.opn_field Try.underlying50 h hw 3 _ rfl opn48
  have k3 : k48.K w a3 ((cs.drop 3).take 10) := q3
  refine ⟨⟨a0, a1, a2, a3⟩, ?_, o0, o1, o2, o3⟩
  have e3 := Rw.cut_last cs 3 10 hl
  rw [← e3] at k3
  exact ⟨(cs.drop 0).take 1, cs.drop 1, Rw.cut_at cs 0 1, k0, ⟨(cs.drop 1).take 1, cs.drop 2, Rw.cut_at cs 1 1, k1, ⟨(cs.drop 2).take 1, cs.drop 3, Rw.cut_at cs 2 1, k2, k3⟩⟩⟩
/- what is to be proved by hand:
theorem walk (A0 : Option Addr) (c0 : Nat) (l0 : List (S50)) (w : World) (hr0 : Kd.C k50 w A0 l0.length l0) (hc0 : l0.length ≤ c0) (w0 : (fun l => (∀ a ∈ l, (ok50) a) ∧ l.length * 120 ≤ 140737488351232) l0) :
    Calls Try.prog 4 #[.slice A0 l0.length c0] w fun e w' => e = .returned (.bool true) ∧ Below w.heap.size w w' := by
-/
end Go.Proofs.Ytakbhnfmimnbhaa.lineRisesW
