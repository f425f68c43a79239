/- What the arguments of RightNil are known to meet, whatever they are. Conditions: none. (Written by this session's program.) -/
import Derived.Test.YtjcjhmnfknenlaaDoorPRightNilx0
import Derived.Test.YtjcjhmnfknenlaaDoorRw
namespace Go.Proofs.YtjcjhmnfknenlaaDoor.rightNilW
open Go.ChangeShapes Go.WideShapes Go.ChangeAt Go.RowKit
open Go.Proofs.YtjcjhmnfknenlaaDoor.PRightNil Go.Proofs.YtjcjhmnfknenlaaDoorW.PrintWords
instance : Inhabited S31 := ⟨z31⟩
def ok31 (s : S31) : Prop := (fun x => (Lit.int .i64 x).wf = true) s.f0 ∧ (fun x => (Lit.int .i64 x).wf = true) s.f1 ∧ (fun x => (Lit.int .i64 x).wf = true) s.f2 ∧ (fun x => (Lit.int .u64 x).wf = true) s.f3
theorem opn31 {H : Type} {enc : TypeId × Value → H} {w : World} : Rw.Opn enc Tryd.prog w 31 k31 ok31 := by
  refine ⟨by kernel_rfl, fun base spare held fuel cs x h hw => ?_⟩
  have hl : cs.length = 4 := (Rw.struct_len Tryd.underlying31 h).trans (by kernel_rfl)
  obtain ⟨a0, q0, o0⟩ := Rw.opn_field Tryd.underlying31 h hw 0 _ rfl (Rw.opn_int Tryd.underlying3 (by kernel_rfl))
  have k0 : (Kd.int .i64).K w a0 ((cs.drop 0).take 1) := q0
  obtain ⟨a1, q1, o1⟩ := Rw.opn_field Tryd.underlying31 h hw 1 _ rfl (Rw.opn_int Tryd.underlying3 (by kernel_rfl))
  have k1 : (Kd.int .i64).K w a1 ((cs.drop 1).take 1) := q1
  obtain ⟨a2, q2, o2⟩ := Rw.opn_field Tryd.underlying31 h hw 2 _ rfl (Rw.opn_int Tryd.underlying3 (by kernel_rfl))
  have k2 : (Kd.int .i64).K w a2 ((cs.drop 2).take 1) := q2
  obtain ⟨a3, q3, o3⟩ := Rw.opn_field Tryd.underlying31 h hw 3 _ rfl (Rw.opn_int Tryd.underlying25 (by kernel_rfl))
  have k3 : (Kd.int .u64).K w a3 ((cs.drop 3).take 1) := q3
  refine ⟨⟨a0, a1, a2, a3⟩, ?_, o0, o1, o2, o3⟩
  have e3 := Rw.cut_last cs 3 1 hl
  rw [← e3] at k3
  exact ⟨(cs.drop 0).take 1, cs.drop 1, Rw.cut_at cs 0 1, k0, ⟨(cs.drop 1).take 1, cs.drop 2, Rw.cut_at cs 1 1, k1, ⟨(cs.drop 2).take 1, cs.drop 3, Rw.cut_at cs 2 1, k2, k3⟩⟩⟩
/- what is to be proved by hand:
theorem walk (a0_0 : Int) (a0_1 : Int) (a0_2 : Int) (a0_3 : Int) (a1 : Int) (w : World)  (w0_0 : (fun x => (Lit.int .i64 x).wf = true) a0_0) (w0_1 : (fun x => (Lit.int .i64 x).wf = true) a0_1) (w0_2 : (fun x => (Lit.int .i64 x).wf = true) a0_2) (w0_3 : (fun x => (Lit.int .u64 x).wf = true) a0_3) (w1 : (fun x => (Lit.int .i64 x).wf = true) a1) :
    Calls Tryd.prog 6 #[.agg #[.int .i64 a0_0, .int .i64 a0_1, .int .i64 a0_2, .int .u64 a0_3], .int .i64 a1] w fun e w' => e = .returned (.bool true) ∧ Below w.heap.size w w' := by
-/
end Go.Proofs.YtjcjhmnfknenlaaDoor.rightNilW
