/- Rights: Has. Conditions: none. -/
import Derived.Test.YtjcjhmnfknenlaaDoorRt3
namespace Go.Proofs.YtjcjhmnfknenlaaDoor.Rt
open Go.RowKit Go.Proofs.YtjcjhmnfknenlaaDoor.PRightNil Go.Proofs.YtjcjhmnfknenlaaDoorW.PrintWords Go.Proofs.YtjcjhmnfknenlaaDoorW.PrintLast
open Ch (Chg)
set_option linter.unusedVariables false
set_option linter.unusedSimpArgs false

theorem zero55 (w : World) : (zeroValue 55).run Tryd.prog w = .ok (.agg #[]) w := by kernel_rfl
set_option maxHeartbeats 4000000 in
set_option maxRecDepth 100000 in
theorem has_any {W : World} {g N : Nat} {m : Option Nat} {p : Int → Int → Bool} {t o : Int} (wt : Wf t) (wo : Wf o) (hA : At W g m N p) :
    Calls Tryd.prog 15 #[.pointer (some ⟨g, 0, none⟩), .int .i64 t, .int .i64 o] W fun e w' => e = .returned (.bool (p t o)) ∧ Below W.heap.size W w' := by
  have HA := Aside0.mk hA
  have c0 := hA.c0
  have hkey := key_mk wt wo
  have hu55 := Tryd.underlying55
  cases m with
  | none =>
    have HP := Aside0.mk (show p t o = false from by
      rcases hA.hm with ⟨_, h⟩ | ⟨b, D, h, _⟩
      · rw [h]
      · cases h)
    have hlk : ∀ (w : World), (Instr.lookup 38 (.map none) (.agg #[.int .i64 t, .int .i64 o]) true).run Tryd.prog w = .ok (.tuple #[.agg #[], .bool false]) w := fun w => Maps.look_nil true law Tryd.underlying38 (zero55 w) hkey
    clear hA hkey
    go_enter Tryd.func15, Tryd.ntmps15
    go_wp2
    go_ret
    exact ⟨by rw [HP.out]; first | rfl | simp, by repeat (first | exact Below.refl _ _ | apply below_alloc | apply below_drew)⟩
  | some b =>
    obtain ⟨D, hown, hv⟩ : ∃ D, W.ownsMap Tryd.prog 52 (unitElem (H := Unit)) b N D ∧ Vw D p := by
      rcases hA.hm with ⟨h, _⟩ | ⟨b', D, h, ho, hv⟩
      · cases h
      · injection h with h; subst h; exact ⟨D, ho, hv⟩
    have HP := Aside0.mk (hv.2 t o wt wo)
    clear hA hv
    go_enter Tryd.func15, Tryd.ntmps15
    go_wp2_with (at_lookup; refine wpList_lookup_own_unit _ rfl _ _ 38 rfl 52 55 law Tryd.underlying38 (zero55 _) b N D rfl hown _ _ rfl hkey ?_)
    go_ret
    exact ⟨by rw [← HP.out]; first | rfl | simp, by repeat (first | exact Below.refl _ _ | apply below_alloc | apply below_drew)⟩
end Go.Proofs.YtjcjhmnfknenlaaDoor.Rt
