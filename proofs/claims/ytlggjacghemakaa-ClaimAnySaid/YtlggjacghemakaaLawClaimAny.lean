/- ClaimAny: for every input the law answers true; the input reads as it did. Conditions: none. (Written by this session's program.) -/
import Derived.Test.YtlggjacghemakaaRows
import Derived.Test.YtlggjacghemakaaPClaimAnyx13
import Derived.Test.YtlggjacghemakaaPureClaimAny
import Derived.Test.YtlggjacghemakaaRw
import Derived.WalkKit
import Derived.ProofKit
import Derived.OpenShut
import Derived.ShutString
import Derived.ChangeOld
import Derived.Below
import Derived.SizedLaws
namespace Go.Proofs.Ytlggjacghemakaa.claimAny
open Go.ChangeShapes Go.WideShapes Go.ChangeAt Go.RowKit
open Go.ChangeMaps (open_string shut_string)
open Go.Proofs.Ytlggjacghemakaa.PClaimAny Go.Proofs.YtlggjacghemakaaW.PrintWords
set_option linter.unusedVariables false
theorem own : ownKnob Try.prog.godebug = none := by kernel_rfl
theorem laidOut : laidOutB Try.prog = true := by kernel_rfl
instance : Inhabited S55 := ⟨z55⟩
theorem opn55 {H : Type} {enc : TypeId × Value → H} {w : World} : Rw.Opn enc Try.prog w 55 k55 ok55 := by
  refine ⟨by kernel_rfl, fun base spare held fuel cs x h hw => ?_⟩
  have hl : cs.length = 3 := (Rw.struct_len Try.underlying55 h).trans (by kernel_rfl)
  obtain ⟨a0, q0, o0⟩ := Rw.opn_field Try.underlying55 h hw 0 _ rfl (Rw.opn_slice 8 Try.underlying23 (by kernel_rfl) (by kernel_rfl) (Rw.opn_int Try.underlying3 (by kernel_rfl)))
  have k0 : (Kd.slice 3 (Kd.int .i64)).K w a0 ((cs.drop 0).take 1) := q0
  obtain ⟨a1, q1, o1⟩ := Rw.opn_field Try.underlying55 h hw 1 _ rfl (Rw.opn_slice 24 Try.underlying53 (by kernel_rfl) (by kernel_rfl) (Rw.opn_slice 8 Try.underlying23 (by kernel_rfl) (by kernel_rfl) (Rw.opn_int Try.underlying3 (by kernel_rfl))))
  have k1 : (Kd.slice 23 (Kd.slice 3 (Kd.int .i64))).K w a1 ((cs.drop 1).take 1) := q1
  obtain ⟨a2, q2, o2⟩ := Rw.opn_field Try.underlying55 h hw 2 _ rfl (Rw.opn_slice 24 Try.underlying53 (by kernel_rfl) (by kernel_rfl) (Rw.opn_slice 8 Try.underlying23 (by kernel_rfl) (by kernel_rfl) (Rw.opn_int Try.underlying3 (by kernel_rfl))))
  have k2 : (Kd.slice 23 (Kd.slice 3 (Kd.int .i64))).K w a2 ((cs.drop 2).take 1) := q2
  refine ⟨⟨a0, a1, a2⟩, ?_, o0, o1, o2⟩
  have e2 := Rw.cut_last cs 2 1 hl
  rw [← e2] at k2
  exact ⟨(cs.drop 0).take 1, cs.drop 1, Rw.cut_at cs 0 1, k0, ⟨(cs.drop 1).take 1, cs.drop 2, Rw.cut_at cs 1 1, k1, k2⟩⟩
set_option maxRecDepth 100000 in
theorem lifted (os : Os) (started : os.Started) (H : Type) (enc : TypeId × Value → H) :
    ReturnsInHanded {} Try.checked os 8 .any (Rows.claimAnySpec.pre6 enc Try.prog Try.f8 Rows.claimAnyRow.domain false) (Rows.claimAnySpec.post enc Try.prog Try.f8 false true false false) := by
  refine returnsInHanded_of_change_sized (C := Try.checked) own started (by kernel_rfl) Try.func8
    (ChangeSpec.witness6 (enc := enc) (C := Try.checked) false ⟨#[], #[.agg #[.slice none 0 0, .slice none 0 0, .slice none 0 0], .slice none 0 0], []⟩ 8 (by kernel_rfl) (by kernel_rfl) (by kernel_rfl) (by kernel_rfl)) ?_
  intro W base args ds gs before hval0 hW hcnd hsz0 _
  have hsz : (DataW.weightsEach Try.prog (Try.f8.params.toList ++ Rows.claimAnySpec.plain.varTypes Try.prog) (ds ++ gs)).all (· ≤ reachBytes) = true := hsz0
  have hval : ∀ (j : Nat) t v, Try.f8.params[j]? = some t → args[j]? = some v → Value.okWide Try.prog W .any base t v := hval0
  have hW' := hW
  obtain ⟨p, q, hA0, hV, rfl, hfz, hnd⟩ := hW
  have hA : DataW.TrodAll enc Try.prog W 0 (fun _ => true) true Try.f8.params.toList args.toList ds p := hA0
  rw [Try.params8] at hA hval hsz
  obtain ⟨v0, vs0, d0, ds0, p0, q0, hargs, rfl, rfl, h0, r0⟩ := trodAll_cons hA
  obtain ⟨v1, vs1, d1, ds1, p1, q1, rfl, rfl, rfl, h1, r1⟩ := trodAll_cons r0
  obtain ⟨rfl, rfl, rfl⟩ := trodAll_nil r1
  obtain rfl : args = #[v0, v1] := by cases args; simp_all
  obtain ⟨rfl, rfl⟩ := trodVars_none hV
  have k0 := h0
  have lt0 : ∀ x ∈ p0, x.block < W.heap.size := by obtain ⟨m, hm⟩ := k0; exact DataW.trod_lt m _ _ _ hm
  obtain ⟨cs0, rfl, hz0⟩ := okWide_struct Try.underlying55 (hval 0 55 v0 rfl rfl)
  obtain ⟨s0, K0, w0⟩ : ∃ s, k55.K W s cs0.toList ∧ ok55 s := by
    obtain ⟨m, hm⟩ := h0
    exact opn55.2 _ _ _ _ _ _ hm (Rw.weights_each _ _ hsz (j := 0) (t := 55) rfl rfl)
  obtain ⟨l0_0, l0_1, l0_2⟩ := s0
  obtain ⟨A0_0, c0_0, A0_1, c0_1, A0_2, c0_2, e0, hc0_0, hr0_0, hc0_1, hr0_1, hc0_2, hr0_2⟩ := k55_open K0
  obtain rfl : cs0 = #[.slice A0_0 l0_0.length c0_0, .slice A0_1 l0_1.length c0_1, .slice A0_2 l0_2.length c0_2] := by cases cs0; simpa using e0
  obtain ⟨w0_0, w0_1, w0_2⟩ := w0
  have k1 := h1
  have lt1 : ∀ x ∈ p1, x.block < W.heap.size := by obtain ⟨m, hm⟩ := k1; exact DataW.trod_lt m _ _ _ hm
  obtain ⟨A1, len1, c1, rfl⟩ := okWide_slice Try.underlying23 (hval 1 23 v1 rfl rfl)
  obtain ⟨l1, rfl, hc1, hr1, w1⟩ := Rw.arg_slice (Rw.opn_slice 8 Try.underlying23 (by kernel_rfl) (by kernel_rfl) (Rw.opn_int Try.underlying3 (by kernel_rfl))) h1 (Rw.weights_each _ _ hsz (j := 1) (t := 23) rfl rfl)
  clear hA0 hval0 hsz0 hsz
  obtain ⟨k, hf⟩ := Pure.ClaimAny l0_0 l0_1 l0_2 l1 w0_0 w0_1 w0_2 w1
  refine (PClaimAny.logjamlaw25_ClaimAny.calls k A0_0 c0_0 l0_0 A0_1 c0_1 l0_1 A0_2 c0_2 l0_2 A1 c1 l1 true W hr0_0 hc0_0 hr0_1 hc0_1 hr0_2 hc0_2 hr1 hc1 hf).mono fun e W' ⟨he, bel0⟩ => ?_
  have bel : Below W.heap.size W W' := bel0
  subst he
  exact ⟨_, rfl, _, _, _, [], _, [], hW', trodAll_mk1 (shut_bool Try.underlying4 _), (trodAll_cons_mk (Below.trod laidOut (by kernel_rfl) (of_decide_eq_true (by kernel_rfl)) k0 bel lt0) (trodAll_cons_mk (Below.trod laidOut (by kernel_rfl) (of_decide_eq_true (by kernel_rfl)) k1 bel lt1) trodAll_mk0)), rfl, bel.frame _, fun h => by cases h⟩
theorem over : Rows.claimAnyRow.holds Try.pinned (OpenSpec.ofChange Rows.claimAnySpec) :=
  OpenClaim.holds_of_wide 8 Try.f8 rfl rfl rfl rfl rfl rfl rfl ⟨rfl, rfl, rfl, rfl, rfl⟩ rfl rfl rfl rfl rfl (by kernel_rfl) Try.func8 (by kernel_rfl)
    (of_decide_eq_true (by kernel_rfl)) (by unfold Func.isWrapper; first | (rw [if_pos (by decide +kernel)]; kernel_rfl) | (rw [if_neg (by decide +kernel)]; exact ⟨rfl, rfl⟩))
    (fun os started H enc _ => lifted os started H enc)
theorem proved : Rows.ClaimAnySaid := over
#print axioms proved
end Go.Proofs.Ytlggjacghemakaa.claimAny
namespace Go.Proofs.Ytlggjacghemakaa
/-- The row, under a short name, for the claim. -/
theorem claimAny_holds : Rows.ClaimAnySaid := claimAny.proved
end Go.Proofs.Ytlggjacghemakaa
