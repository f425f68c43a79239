/- What the arguments of ClaimBack are known to meet, whatever they are. Conditions: none. (Written by this session's program.) -/
import Derived.Test.YtlggjacghemakaaPClaimBackx0
import Derived.Test.YtlggjacghemakaaRw
namespace Go.Proofs.Ytlggjacghemakaa.claimBackW
open Go.ChangeShapes Go.WideShapes Go.ChangeAt Go.RowKit
open Go.Proofs.Ytlggjacghemakaa.PClaimBack Go.Proofs.YtlggjacghemakaaW.PrintWords
instance : Inhabited S55 := ⟨z55⟩
def ok55 (s : S55) : Prop := (fun l => (∀ a ∈ l, (fun x => (Lit.int .i64 x).wf = true) a) ∧ l.length * 8 ≤ 140737488351232) s.f0 ∧ (fun l => (∀ a ∈ l, (fun l => (∀ a ∈ l, (fun x => (Lit.int .i64 x).wf = true) a) ∧ l.length * 8 ≤ 140737488351232) a) ∧ l.length * 24 ≤ 140737488351232) s.f1 ∧ (fun l => (∀ a ∈ l, (fun l => (∀ a ∈ l, (fun x => (Lit.int .i64 x).wf = true) a) ∧ l.length * 8 ≤ 140737488351232) a) ∧ l.length * 24 ≤ 140737488351232) s.f2
theorem opn55 {H : Type} {enc : TypeId × Value → H} {w : World} : Rw.Opn enc Try.prog w 55 k55 ok55 := by
  refine ⟨by kernel_rfl, fun base spare held fuel cs x h hw => ?_⟩
  have hl : cs.length = 3 := (Rw.struct_len Try.underlying55 h).trans (by kernel_rfl)
  obtain ⟨a0, q0, o0⟩ := Rw.opn_field Try.underlying55 h hw 0 _ rfl (Rw.opn_slice 8 Try.underlying23 (by kernel_rfl) (by kernel_rfl) (Rw.opn_int Try.underlying3 (by kernel_rfl)))
  have k0 : (Kd.slice 3 (Kd.int .i64)).K w a0 ((cs.drop 0).take 1) := q0
  obtain ⟨a1, q1, o1⟩ := Rw.opn_field Try.underlying55 h hw 1 _ rfl (Rw.opn_slice 24 Try.underlying53 (by kernel_rfl) (by kernel_rfl) (Rw.opn_slice 8 Try.underlying23 (by kernel_rfl) (by kernel_rfl) (Rw.opn_int Try.underlying3 (by kernel_rfl))))
  have k1 : (Kd.slice 23 (Kd.slice 3 (Kd.int .i64))).K w a1 ((cs.drop 1).take 1) := q1
  obtain ⟨a2, q2, o2⟩ := Rw.opn_field Try.underlying55 h hw 2 _ rfl (Rw.opn_slice 24 Try.underlying53 (by kernel_rfl) (by kernel_rfl) (Rw.opn_slice 8 Try.underlying23 (by kernel_rfl) (by kernel_rfl) (Rw.opn_int Try.underlying3 (by kernel_rfl))))
  have k2 : (Kd.slice 23 (Kd.slice 3 (Kd.int .i64))).K w a2 ((cs.drop 2).take 1) := q2
  refine ⟨⟨a0, a1, a2⟩, ?_, o0, o1, o2⟩
  have e2 := Rw.cut_last cs 2 1 hl
  rw [← e2] at k2
  exact ⟨(cs.drop 0).take 1, cs.drop 1, Rw.cut_at cs 0 1, k0, ⟨(cs.drop 1).take 1, cs.drop 2, Rw.cut_at cs 1 1, k1, k2⟩⟩
instance : Inhabited S74 := ⟨z74⟩
def ok74 (s : S74) : Prop := (ok55) s.f0 ∧ (fun x => (Lit.int .i64 x).wf = true) s.f1 ∧ (fun x => (Lit.int .i64 x).wf = true) s.f2 ∧ (fun l => (∀ a ∈ l, (fun x => (Lit.int .i64 x).wf = true) a) ∧ l.length * 8 ≤ 140737488351232) s.f3
theorem opn74 {H : Type} {enc : TypeId × Value → H} {w : World} : Rw.Opn enc Try.prog w 74 k74 ok74 := by
  refine ⟨by kernel_rfl, fun base spare held fuel cs x h hw => ?_⟩
  have hl : cs.length = 6 := (Rw.struct_len Try.underlying74 h).trans (by kernel_rfl)
  obtain ⟨a0, q0, o0⟩ := Rw.opn_field Try.underlying74 h hw 0 _ rfl opn55
  have k0 : k55.K w a0 ((cs.drop 0).take 3) := q0
  obtain ⟨a1, q1, o1⟩ := Rw.opn_field Try.underlying74 h hw 1 _ rfl (Rw.opn_int Try.underlying3 (by kernel_rfl))
  have k1 : (Kd.int .i64).K w a1 ((cs.drop 3).take 1) := q1
  obtain ⟨a2, q2, o2⟩ := Rw.opn_field Try.underlying74 h hw 2 _ rfl (Rw.opn_int Try.underlying3 (by kernel_rfl))
  have k2 : (Kd.int .i64).K w a2 ((cs.drop 4).take 1) := q2
  obtain ⟨a3, q3, o3⟩ := Rw.opn_field Try.underlying74 h hw 3 _ rfl (Rw.opn_slice 8 Try.underlying23 (by kernel_rfl) (by kernel_rfl) (Rw.opn_int Try.underlying3 (by kernel_rfl)))
  have k3 : (Kd.slice 3 (Kd.int .i64)).K w a3 ((cs.drop 5).take 1) := q3
  refine ⟨⟨a0, a1, a2, a3⟩, ?_, o0, o1, o2, o3⟩
  have e3 := Rw.cut_last cs 5 1 hl
  rw [← e3] at k3
  exact ⟨(cs.drop 0).take 3, cs.drop 3, Rw.cut_at cs 0 3, k0, ⟨(cs.drop 3).take 1, cs.drop 4, Rw.cut_at cs 3 1, k1, ⟨(cs.drop 4).take 1, cs.drop 5, Rw.cut_at cs 4 1, k2, k3⟩⟩⟩
/- what is to be proved by hand:
theorem walk (A0_0 : Option Addr) (c0_0 : Nat) (l0_0 : List Int) (A0_1 : Option Addr) (c0_1 : Nat) (l0_1 : List (List Int)) (A0_2 : Option Addr) (c0_2 : Nat) (l0_2 : List (List Int)) (a0_3 : Int) (a0_4 : Int) (A0_5 : Option Addr) (c0_5 : Nat) (l0_5 : List Int) (w : World) (hr0_0 : Kd.C (Kd.int .i64) w A0_0 l0_0.length l0_0) (hc0_0 : l0_0.length ≤ c0_0) (hr0_1 : Kd.C (Kd.slice 3 (Kd.int .i64)) w A0_1 l0_1.length l0_1) (hc0_1 : l0_1.length ≤ c0_1) (hr0_2 : Kd.C (Kd.slice 3 (Kd.int .i64)) w A0_2 l0_2.length l0_2) (hc0_2 : l0_2.length ≤ c0_2) (hr0_5 : Kd.C (Kd.int .i64) w A0_5 l0_5.length l0_5) (hc0_5 : l0_5.length ≤ c0_5) (w0_0 : (fun l => (∀ a ∈ l, (fun x => (Lit.int .i64 x).wf = true) a) ∧ l.length * 8 ≤ 140737488351232) l0_0) (w0_1 : (fun l => (∀ a ∈ l, (fun l => (∀ a ∈ l, (fun x => (Lit.int .i64 x).wf = true) a) ∧ l.length * 8 ≤ 140737488351232) a) ∧ l.length * 24 ≤ 140737488351232) l0_1) (w0_2 : (fun l => (∀ a ∈ l, (fun l => (∀ a ∈ l, (fun x => (Lit.int .i64 x).wf = true) a) ∧ l.length * 8 ≤ 140737488351232) a) ∧ l.length * 24 ≤ 140737488351232) l0_2) (w0_3 : (fun x => (Lit.int .i64 x).wf = true) a0_3) (w0_4 : (fun x => (Lit.int .i64 x).wf = true) a0_4) (w0_5 : (fun l => (∀ a ∈ l, (fun x => (Lit.int .i64 x).wf = true) a) ∧ l.length * 8 ≤ 140737488351232) l0_5) :
    Calls Try.prog 9 #[.agg #[.slice A0_0 l0_0.length c0_0, .slice A0_1 l0_1.length c0_1, .slice A0_2 l0_2.length c0_2, .int .i64 a0_3, .int .i64 a0_4, .slice A0_5 l0_5.length c0_5]] w fun e w' => e = .returned (.bool true) ∧ Below w.heap.size w w' := by
-/
end Go.Proofs.Ytlggjacghemakaa.claimBackW
