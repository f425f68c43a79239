/- CycleAgrees: for every input the law answers true; the input reads as it did. Conditions: none. (Written by this session's program.) -/
import Derived.Test.YtbfbegleffkafaaDoorRows
import Derived.Test.YtbfbegleffkafaaDoorPCycleAgreesx9
import Derived.Test.YtbfbegleffkafaaDoorPureCycleAgrees
import Derived.Test.YtbfbegleffkafaaDoorRw
import Derived.Test.YtbfbegleffkafaaDoorTb
import Derived.Test.YtbfbegleffkafaaDoorTie
import Derived.Test.YtbfbegleffkafaaDoorCards
import Derived.SevenTiedAt
import Derived.LaidMore
import Derived.Stop.Joined
import Derived.WalkKit
import Derived.ProofKit
import Derived.OpenShut
import Derived.ShutString
import Derived.ChangeOld
import Derived.Below
import Derived.SizedLaws
namespace Go.Proofs.YtbfbegleffkafaaDoor.cycleAgrees
open Go.ChangeShapes Go.WideShapes Go.ChangeAt Go.RowKit
open Go.ChangeMaps (open_string shut_string)
open Go.Proofs.YtbfbegleffkafaaDoor.PCycleAgrees Go.Proofs.YtbfbegleffkafaaDoorW.PrintWords
set_option linter.unusedVariables false
theorem own : ownKnob Tryd.prog.godebug = none := by kernel_rfl
theorem laidOut : laidOutB Tryd.prog = true := by kernel_rfl
instance : Inhabited S68 := ⟨z68⟩
theorem opn68 {H : Type} {enc : TypeId × Value → H} {w : World} : Rw.Opn enc Tryd.prog w 68 k68 ok68 := by
  refine ⟨by kernel_rfl, fun base spare held fuel cs x h hw => ?_⟩
  have hl : cs.length = 2 := (Rw.struct_len Tryd.underlying68 h).trans (by kernel_rfl)
  obtain ⟨a0, q0, o0⟩ := Rw.opn_field Tryd.underlying68 h hw 0 _ rfl (Rw.opn_int Tryd.underlying3 (by kernel_rfl))
  have k0 : (Kd.int .i64).K w a0 ((cs.drop 0).take 1) := q0
  obtain ⟨a1, q1, o1⟩ := Rw.opn_field Tryd.underlying68 h hw 1 _ rfl (Rw.opn_int Tryd.underlying3 (by kernel_rfl))
  have k1 : (Kd.int .i64).K w a1 ((cs.drop 1).take 1) := q1
  refine ⟨⟨a0, a1⟩, ?_, o0, o1⟩
  have e1 := Rw.cut_last cs 1 1 hl
  rw [← e1] at k1
  exact ⟨(cs.drop 0).take 1, cs.drop 1, Rw.cut_at cs 0 1, k0, k1⟩
instance : Inhabited S66 := ⟨z66⟩
theorem opn66 {H : Type} {enc : TypeId × Value → H} {w : World} : Rw.Opn enc Tryd.prog w 66 k66 ok66 := by
  refine ⟨by kernel_rfl, fun base spare held fuel cs x h hw => ?_⟩
  have hl : cs.length = 2 := (Rw.struct_len Tryd.underlying66 h).trans (by kernel_rfl)
  obtain ⟨a0, q0, o0⟩ := Rw.opn_field Tryd.underlying66 h hw 0 _ rfl (Rw.opn_int Tryd.underlying3 (by kernel_rfl))
  have k0 : (Kd.int .i64).K w a0 ((cs.drop 0).take 1) := q0
  obtain ⟨a1, q1, o1⟩ := Rw.opn_field Tryd.underlying66 h hw 1 _ rfl (Rw.opn_slice 16 Tryd.underlying64 (by kernel_rfl) (by kernel_rfl) opn68)
  have k1 : (Kd.slice 68 k68).K w a1 ((cs.drop 1).take 1) := q1
  refine ⟨⟨a0, a1⟩, ?_, o0, o1⟩
  have e1 := Rw.cut_last cs 1 1 hl
  rw [← e1] at k1
  exact ⟨(cs.drop 0).take 1, cs.drop 1, Rw.cut_at cs 0 1, k0, k1⟩
instance : Inhabited S44 := ⟨z44⟩
theorem opn44 {H : Type} {enc : TypeId × Value → H} {w : World} : Rw.Opn enc Tryd.prog w 44 k44 ok44 := by
  refine ⟨by kernel_rfl, fun base spare held fuel cs x h hw => ?_⟩
  have hl : cs.length = 2 := (Rw.struct_len Tryd.underlying44 h).trans (by kernel_rfl)
  obtain ⟨a0, q0, o0⟩ := Rw.opn_field Tryd.underlying44 h hw 0 _ rfl (Rw.opn_bool Tryd.underlying4 (by kernel_rfl))
  have k0 : Kd.bool.K w a0 ((cs.drop 0).take 1) := q0
  obtain ⟨a1, q1, o1⟩ := Rw.opn_field Tryd.underlying44 h hw 1 _ rfl (Rw.opn_slice 24 Tryd.underlying42 (by kernel_rfl) (by kernel_rfl) (Rw.opn_slice 32 Tryd.underlying63 (by kernel_rfl) (by kernel_rfl) opn66))
  have k1 : (Kd.slice 63 (Kd.slice 66 k66)).K w a1 ((cs.drop 1).take 1) := q1
  refine ⟨⟨a0, a1⟩, ?_, o0, o1⟩
  have e1 := Rw.cut_last cs 1 1 hl
  rw [← e1] at k1
  exact ⟨(cs.drop 0).take 1, cs.drop 1, Rw.cut_at cs 0 1, k0, k1⟩
abbrev laidL {H : Type} : List (String × DataW H) := [("math/bits.deBruijn64tab", Rows.laid_math_bits_deBruijn64tab)]
set_option maxRecDepth 100000 in
theorem door_met (os : Os) (args : Array Value) : laidMetH Tryd.prog laidL ((World.doorLaid Tryd.prog 14 os).forCall (fun _ _ => 0) ⟨#[], args, []⟩).memory :=
  laidMetH_of_parts3 (fuel := 8) (laidMet_of_run' 8 (by kernel_rfl) (by kernel_rfl)) (by kernel_rfl) (by kernel_rfl)
set_option maxRecDepth 100000 in
theorem lifted (os : Os) (started : os.Started) (H : Type) (enc : TypeId × Value → H) :
    ReturnsInHanded {} Tryd.checked os 9 .any (fun w args => (Rows.cycleAgreesSpec.pre enc Tryd.prog Tryd.f9 [] false w args ∧ laidMetH Tryd.prog laidL w) ∧ sizedMet enc Tryd.prog Tryd.f9 (OpenSpec.ofChange Rows.cycleAgreesSpec) false w args) (Rows.cycleAgreesSpec.post enc Tryd.prog Tryd.f9 false true false false) := by
  refine returnsInHanded_of_change_and (C := Tryd.checked) (X := fun w _ => laidMetH Tryd.prog laidL w) (fun _ _ _ hh h => h.of_heap hh) own started (by kernel_rfl) Tryd.func9
    (ChangeSpec.witness_shaped (enc := enc) (C := Tryd.checked) (os := os) (X := fun w _ => laidMetH Tryd.prog laidL w) false (World.doorLaid Tryd.prog 14 os) #[.slice none 0 0] 8 rfl (World.shaped_of_RefB (by kernel_rfl) (by kernel_rfl)) (by kernel_rfl) (by kernel_rfl) (by kernel_rfl) (door_met os _)) ?_
  intro W base args ds gs before hval0 hW hcnd hsz0 hL _
  have hsz : (DataW.weightsEach Tryd.prog (Tryd.f9.params.toList ++ Rows.cycleAgreesSpec.plain.varTypes Tryd.prog) (ds ++ gs)).all (· ≤ reachBytes) = true := hsz0
  have hval : ∀ (j : Nat) t v, Tryd.f9.params[j]? = some t → args[j]? = some v → Value.okWide Tryd.prog W .any base t v := hval0
  have hW' := hW
  obtain ⟨p, q, hA0, hV, rfl, hfz, hnd⟩ := hW
  have hA : DataW.TrodAll enc Tryd.prog W 0 (fun _ => true) true Tryd.f9.params.toList args.toList ds p := hA0
  rw [Tryd.params9] at hA hval hsz
  obtain ⟨v0, vs0, d0, ds0, p0, q0, hargs, rfl, rfl, h0, r0⟩ := trodAll_cons hA
  obtain ⟨rfl, rfl, rfl⟩ := trodAll_nil r0
  obtain rfl : args = #[v0] := by cases args; simp_all
  obtain ⟨rfl, rfl⟩ := trodVars_none hV
  have k0 := h0
  have lt0 : ∀ x ∈ p0, x.block < W.heap.size := by obtain ⟨m, hm⟩ := k0; exact DataW.trod_lt m _ _ _ hm
  obtain ⟨A0, len0, c0, rfl⟩ := okWide_slice Tryd.underlying22 (hval 0 22 v0 rfl rfl)
  obtain ⟨l0, rfl, hc0, hr0, w0⟩ := Rw.arg_slice (Rw.opn_slice 32 Tryd.underlying22 (by kernel_rfl) (by kernel_rfl) opn44) h0 (Rw.weights_each _ _ hsz (j := 0) (t := 22) rfl rfl)
  clear hA0 hval0 hsz0 hsz
  obtain ⟨k, hf⟩ := Pure.CycleAgrees l0 w0
  refine (PCycleAgrees.logjamlaw27_CycleAgrees.calls k A0 c0 l0 true W hr0 hc0 (Tb.of_laid hL) hf).mono fun e W' ⟨he, bel0⟩ => ?_
  have bel : Below W.heap.size W W' := bel0
  subst he
  exact ⟨_, rfl, _, _, _, [], _, [], hW', trodAll_mk1 (shut_bool Tryd.underlying4 _), (trodAll_cons_mk (Below.trod laidOut (by kernel_rfl) (of_decide_eq_true (by kernel_rfl)) k0 bel lt0) trodAll_mk0), rfl, bel.frame _, fun h => by cases h⟩
theorem over : Rows.cycleAgreesRow.holds Tryd.pinned (OpenSpec.ofChange Rows.cycleAgreesSpec) :=
  OpenClaim.holds_of_wide 9 Tryd.f9 rfl rfl rfl rfl rfl rfl rfl ⟨rfl, rfl, rfl, rfl, rfl⟩ rfl rfl rfl rfl rfl (by kernel_rfl) Tryd.func9 (by kernel_rfl)
    (of_decide_eq_true (by kernel_rfl)) (by unfold Func.isWrapper; first | (rw [if_pos (by decide +kernel)]; kernel_rfl) | (rw [if_neg (by decide +kernel)]; exact ⟨rfl, rfl⟩))
    (fun os started H enc _ => lifted os started H enc)
theorem proved : Rows.CycleAgreesSaid := over
#print axioms proved
/-- The tied card: the table that the row lists is the one that the library's own text lays. -/
theorem card : Rows.CycleAgreesCardSaid :=
  Claim7.holds_tied_plain_at .later [] [.data] true (true, "f4be1b93dfd9b9010b58a1f38855e3ca697fae4e77ad730161c0e76830dc1a01") false
    proved (fun _ h => by cases h) (by kernel_rfl) (fun _ h => by cases h) cycleAgrees_row_tie rfl ⟨rfl, rfl⟩ (by kernel_rfl) rfl
    (fun f fn hf hfn => by
      obtain rfl : f = 9 := Option.some.inj ((show Tryd.prog.funcNamed "logjam/logjamlaw27.CycleAgrees" = some 9 by kernel_rfl).symm.trans hf) |>.symm
      obtain rfl : fn = Tryd.f9 := (Option.some.inj (Tryd.func9.symm.trans hfn)).symm
      exact ⟨by kernel_rfl, fun j t ht => by
        rw [Tryd.params9] at ht
        have hm : t ∈ [22] := by
          have := Array.mem_of_getElem? ht
          simp only [List.mem_toArray] at this
          simp only [List.mem_cons, List.not_mem_nil, or_false] at this ⊢
          omega
        have hall : ([22].all fun u => !Tryd.prog.wantsStandIn u) = true := by kernel_rfl
        exact (show Tryd.prog.wantsStandIn t = false by simpa using List.all_eq_true.1 hall t hm)⟩)
    (by kernel_rfl)
#print axioms card
end Go.Proofs.YtbfbegleffkafaaDoor.cycleAgrees
namespace Go.Proofs.YtbfbegleffkafaaDoor
/-- The row, under a short name, for the claim. -/
theorem cycleAgrees_holds : Rows.CycleAgreesCardSaid := cycleAgrees.card
end Go.Proofs.YtbfbegleffkafaaDoor
