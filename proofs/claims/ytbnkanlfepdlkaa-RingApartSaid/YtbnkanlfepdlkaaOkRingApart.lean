/- What the arguments of RingApart are known to meet, whatever they are. Conditions: none. (Written by this session's program.) -/
import Derived.Test.YtbnkanlfepdlkaaPRingApartx0
import Derived.Test.YtbnkanlfepdlkaaRw
namespace Go.Proofs.Ytbnkanlfepdlkaa.ringApartW
open Go.ChangeShapes Go.WideShapes Go.ChangeAt Go.RowKit
open Go.Proofs.Ytbnkanlfepdlkaa.PRingApart Go.Proofs.YtbnkanlfepdlkaaW.PrintWords
instance : Inhabited S48 := ⟨z48⟩
def ok48 (s : S48) : Prop := (fun x => (Lit.int .i64 x).wf = true) s.f0 ∧ (fun x => (Lit.int .i64 x).wf = true) s.f1
theorem opn48 {H : Type} {enc : TypeId × Value → H} {w : World} : Rw.Opn enc Try.prog w 48 k48 ok48 := by
  refine ⟨by kernel_rfl, fun base spare held fuel cs x h hw => ?_⟩
  have hl : cs.length = 2 := (Rw.struct_len Try.underlying48 h).trans (by kernel_rfl)
  obtain ⟨a0, q0, o0⟩ := Rw.opn_field Try.underlying48 h hw 0 _ rfl (Rw.opn_int Try.underlying3 (by kernel_rfl))
  have k0 : (Kd.int .i64).K w a0 ((cs.drop 0).take 1) := q0
  obtain ⟨a1, q1, o1⟩ := Rw.opn_field Try.underlying48 h hw 1 _ rfl (Rw.opn_int Try.underlying3 (by kernel_rfl))
  have k1 : (Kd.int .i64).K w a1 ((cs.drop 1).take 1) := q1
  refine ⟨⟨a0, a1⟩, ?_, o0, o1⟩
  have e1 := Rw.cut_last cs 1 1 hl
  rw [← e1] at k1
  exact ⟨(cs.drop 0).take 1, cs.drop 1, Rw.cut_at cs 0 1, k0, k1⟩
instance : Inhabited S56 := ⟨z56⟩
def ok56 (s : S56) : Prop := (fun x => (Lit.int .u8 x).wf = true) s.f0 ∧ (fun l => (∀ a ∈ l, (ok48) a) ∧ l.length * 16 ≤ 140737488351232) s.f1 ∧ (fun l => (∀ a ∈ l, (ok48) a) ∧ l.length * 16 ≤ 140737488351232) s.f2 ∧ (fun l => (∀ a ∈ l, (ok48) a) ∧ l.length * 16 ≤ 140737488351232) s.f3
theorem opn56 {H : Type} {enc : TypeId × Value → H} {w : World} : Rw.Opn enc Try.prog w 56 k56 ok56 := by
  refine ⟨by kernel_rfl, fun base spare held fuel cs x h hw => ?_⟩
  have hl : cs.length = 4 := (Rw.struct_len Try.underlying56 h).trans (by kernel_rfl)
  obtain ⟨a0, q0, o0⟩ := Rw.opn_field Try.underlying56 h hw 0 _ rfl (Rw.opn_int Try.underlying5 (by kernel_rfl))
  have k0 : (Kd.int .u8).K w a0 ((cs.drop 0).take 1) := q0
  obtain ⟨a1, q1, o1⟩ := Rw.opn_field Try.underlying56 h hw 1 _ rfl (Rw.opn_slice 16 Try.underlying45 (by kernel_rfl) (by kernel_rfl) opn48)
  have k1 : (Kd.slice 48 k48).K w a1 ((cs.drop 1).take 1) := q1
  obtain ⟨a2, q2, o2⟩ := Rw.opn_field Try.underlying56 h hw 2 _ rfl (Rw.opn_slice 16 Try.underlying45 (by kernel_rfl) (by kernel_rfl) opn48)
  have k2 : (Kd.slice 48 k48).K w a2 ((cs.drop 2).take 1) := q2
  obtain ⟨a3, q3, o3⟩ := Rw.opn_field Try.underlying56 h hw 3 _ rfl (Rw.opn_slice 16 Try.underlying45 (by kernel_rfl) (by kernel_rfl) opn48)
  have k3 : (Kd.slice 48 k48).K w a3 ((cs.drop 3).take 1) := q3
  refine ⟨⟨a0, a1, a2, a3⟩, ?_, o0, o1, o2, o3⟩
  have e3 := Rw.cut_last cs 3 1 hl
  rw [← e3] at k3
  exact ⟨(cs.drop 0).take 1, cs.drop 1, Rw.cut_at cs 0 1, k0, ⟨(cs.drop 1).take 1, cs.drop 2, Rw.cut_at cs 1 1, k1, ⟨(cs.drop 2).take 1, cs.drop 3, Rw.cut_at cs 2 1, k2, k3⟩⟩⟩
/- what is to be proved by hand:
theorem walk (a0_0 : Int) (A0_1 : Option Addr) (c0_1 : Nat) (l0_1 : List (S48)) (A0_2 : Option Addr) (c0_2 : Nat) (l0_2 : List (S48)) (A0_3 : Option Addr) (c0_3 : Nat) (l0_3 : List (S48)) (w : World) (hr0_1 : Kd.C k48 w A0_1 l0_1.length l0_1) (hc0_1 : l0_1.length ≤ c0_1) (hr0_2 : Kd.C k48 w A0_2 l0_2.length l0_2) (hc0_2 : l0_2.length ≤ c0_2) (hr0_3 : Kd.C k48 w A0_3 l0_3.length l0_3) (hc0_3 : l0_3.length ≤ c0_3) (w0_0 : (fun x => (Lit.int .u8 x).wf = true) a0_0) (w0_1 : (fun l => (∀ a ∈ l, (ok48) a) ∧ l.length * 16 ≤ 140737488351232) l0_1) (w0_2 : (fun l => (∀ a ∈ l, (ok48) a) ∧ l.length * 16 ≤ 140737488351232) l0_2) (w0_3 : (fun l => (∀ a ∈ l, (ok48) a) ∧ l.length * 16 ≤ 140737488351232) l0_3) :
    Calls Try.prog 8 #[.agg #[.int .u8 a0_0, .slice A0_1 l0_1.length c0_1, .slice A0_2 l0_2.length c0_2, .slice A0_3 l0_3.length c0_3]] w fun e w' => e = .returned (.bool true) ∧ Below w.heap.size w w' := by
-/
end Go.Proofs.Ytbnkanlfepdlkaa.ringApartW
