/- What the arguments of RingPlays are known to meet, whatever they are. Conditions: none. (Written by this session's program.) -/
import Derived.Test.YtbnkanlfepdlkaaPRingPlaysx0
import Derived.Test.YtbnkanlfepdlkaaRw
namespace Go.Proofs.Ytbnkanlfepdlkaa.ringPlaysW
open Go.ChangeShapes Go.WideShapes Go.ChangeAt Go.RowKit
open Go.Proofs.Ytbnkanlfepdlkaa.PRingPlays Go.Proofs.YtbnkanlfepdlkaaW.PrintWords
instance : Inhabited S48 := ⟨z48⟩
def ok48 (s : S48) : Prop := (fun x => (Lit.int .i64 x).wf = true) s.f0 ∧ (fun x => (Lit.int .i64 x).wf = true) s.f1
theorem opn48 {H : Type} {enc : TypeId × Value → H} {w : World} : Rw.Opn enc Try.prog w 48 k48 ok48 := by
  refine ⟨by kernel_rfl, fun base spare held fuel cs x h hw => ?_⟩
  have hl : cs.length = 2 := (Rw.struct_len Try.underlying48 h).trans (by kernel_rfl)
  obtain ⟨a0, q0, o0⟩ := Rw.opn_field Try.underlying48 h hw 0 _ rfl (Rw.opn_int Try.underlying3 (by kernel_rfl))
  have k0 : (Kd.int .i64).K w a0 ((cs.drop 0).take 1) := q0
  obtain ⟨a1, q1, o1⟩ := Rw.opn_field Try.underlying48 h hw 1 _ rfl (Rw.opn_int Try.underlying3 (by kernel_rfl))
  have k1 : (Kd.int .i64).K w a1 ((cs.drop 1).take 1) := q1
  refine ⟨⟨a0, a1⟩, ?_, o0, o1⟩
  have e1 := Rw.cut_last cs 1 1 hl
  rw [← e1] at k1
  exact ⟨(cs.drop 0).take 1, cs.drop 1, Rw.cut_at cs 0 1, k0, k1⟩
/- what is to be proved by hand:
theorem walk (a0 : Int) (A1 : Option Addr) (c1 : Nat) (l1 : List (S48)) (w : World) (hr1 : Kd.C k48 w A1 l1.length l1) (hc1 : l1.length ≤ c1) (w0 : (fun x => (Lit.int .i64 x).wf = true) a0) (w1 : (fun l => (∀ a ∈ l, (ok48) a) ∧ l.length * 16 ≤ 140737488351232) l1) :
    Calls Try.prog 7 #[.int .i64 a0, .slice A1 l1.length c1] w fun e w' => e = .returned (.bool true) ∧ Below w.heap.size w w' := by
-/
end Go.Proofs.Ytbnkanlfepdlkaa.ringPlaysW
