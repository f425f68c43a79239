/- What the arguments of PlaceApart are known to meet, whatever they are. Conditions: none. (Written by this session's program.) -/
import Derived.Test.YtjcjhmnfknenlaaPPlaceApartx0
import Derived.Test.YtjcjhmnfknenlaaRw
namespace Go.Proofs.Ytjcjhmnfknenlaa.placeApartW
open Go.ChangeShapes Go.WideShapes Go.ChangeAt Go.RowKit
open Go.Proofs.Ytjcjhmnfknenlaa.PPlaceApart Go.Proofs.YtjcjhmnfknenlaaW.PrintWords
instance : Inhabited S28 := ⟨z28⟩
def ok28 (s : S28) : Prop := (fun x => (Lit.int .i64 x).wf = true) s.f0 ∧ (fun x => (Lit.int .i64 x).wf = true) s.f1 ∧ (fun x => (Lit.int .i64 x).wf = true) s.f2
theorem opn28 {H : Type} {enc : TypeId × Value → H} {w : World} : Rw.Opn enc Try.prog w 28 k28 ok28 := by
  refine ⟨by kernel_rfl, fun base spare held fuel cs x h hw => ?_⟩
  have hl : cs.length = 3 := (Rw.struct_len Try.underlying28 h).trans (by kernel_rfl)
  obtain ⟨a0, q0, o0⟩ := Rw.opn_field Try.underlying28 h hw 0 _ rfl (Rw.opn_int Try.underlying3 (by kernel_rfl))
  have k0 : (Kd.int .i64).K w a0 ((cs.drop 0).take 1) := q0
  obtain ⟨a1, q1, o1⟩ := Rw.opn_field Try.underlying28 h hw 1 _ rfl (Rw.opn_int Try.underlying3 (by kernel_rfl))
  have k1 : (Kd.int .i64).K w a1 ((cs.drop 1).take 1) := q1
  obtain ⟨a2, q2, o2⟩ := Rw.opn_field Try.underlying28 h hw 2 _ rfl (Rw.opn_int Try.underlying3 (by kernel_rfl))
  have k2 : (Kd.int .i64).K w a2 ((cs.drop 2).take 1) := q2
  refine ⟨⟨a0, a1, a2⟩, ?_, o0, o1, o2⟩
  have e2 := Rw.cut_last cs 2 1 hl
  rw [← e2] at k2
  exact ⟨(cs.drop 0).take 1, cs.drop 1, Rw.cut_at cs 0 1, k0, ⟨(cs.drop 1).take 1, cs.drop 2, Rw.cut_at cs 1 1, k1, k2⟩⟩
/- what is to be proved by hand:
theorem walk (a0 : Int) (A1 : Option Addr) (c1 : Nat) (l1 : List (S28)) (A2 : Option Addr) (c2 : Nat) (l2 : List (S28)) (w : World) (hr1 : Kd.C k28 w A1 l1.length l1) (hc1 : l1.length ≤ c1) (hr2 : Kd.C k28 w A2 l2.length l2) (hc2 : l2.length ≤ c2) (w0 : (fun x => (Lit.int .i64 x).wf = true) a0) (w1 : (fun l => (∀ a ∈ l, (ok28) a) ∧ l.length * 24 ≤ 140737488351232) l1) (w2 : (fun l => (∀ a ∈ l, (ok28) a) ∧ l.length * 24 ≤ 140737488351232) l2) :
    Calls Try.prog 6 #[.int .i64 a0, .slice A1 l1.length c1, .slice A2 l2.length c2] w fun e w' => e = .returned (.bool true) ∧ Below w.heap.size w w' := by
-/
end Go.Proofs.Ytjcjhmnfknenlaa.placeApartW
