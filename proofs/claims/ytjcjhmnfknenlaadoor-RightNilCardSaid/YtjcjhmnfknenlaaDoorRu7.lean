/- Rights: Clone. Conditions: none. -/
import Derived.Test.YtjcjhmnfknenlaaDoorRu3
import Derived.Shelf.SlMaps.Clone
namespace Go.Proofs.YtjcjhmnfknenlaaDoor.Rt
open Go.RowKit Go.Proofs.YtjcjhmnfknenlaaDoor.PRightNil Go.Proofs.YtjcjhmnfknenlaaDoorW.PrintWords Go.Proofs.YtjcjhmnfknenlaaDoorW.PrintLast
open Ch (Chg)
set_option linter.unusedVariables false
set_option linter.unusedSimpArgs false

set_option maxHeartbeats 2000000 in
theorem mclone_nil (W : World) : Calls Tryd.prog 27 #[.map none] W fun e w' => e = .returned (.map none) ∧ w' = W := by
  have hq := fun w => run_eql_map_nil (P := Tryd.prog) w 38 52 55 none Tryd.underlying38
  go_enter Tryd.func27, Tryd.ntmps27
  go_wp2
  go_ret
  exact ⟨rfl, rfl⟩
set_option maxHeartbeats 2000000 in
theorem mclone_map {W : World} {b : Nat} {es : Array MapEntry} {cl : Nat} (hb : W.heap[b]? = some (.map es cl)) : Calls Tryd.prog 27 #[.map (some b)] W fun e w' => e = .returned (.map (some W.heap.size)) ∧ w' = W.alloc (.map es cl) := by
  have hq := fun w => run_eql_map_nil (P := Tryd.prog) w 38 52 55 (some b) Tryd.underlying38
  have hu26 := Tryd.underlying38
  have hu20 := Tryd.underlying20
  go_enter Tryd.func27, Tryd.ntmps27
  go_wp2
  rw [run_callFunc_extern Tryd.func33 (by kernel_rfl) (by kernel_rfl) (by kernel_rfl) (e := Extern.MapsClone.clone) (by kernel_rfl), run_maps_clone_sl W 38 hb]
  simp only [Result.andThen]
  rw [Oper.upon_value]
  go_wp2
  rw [run_typeAssert_map_sl _ 38 20 _ _ _ Tryd.underlying38]
  simp only [Result.andThen]
  rw [Oper.upon_value]
  go_wp2
  go_ret
  exact ⟨rfl, rfl⟩
theorem mclone_any {W : World} {g N : Nat} {m : Option Nat} {p : Int → Int → Bool} (hA : At W g m N p) :
    Calls Tryd.prog 27 #[.map m] W fun e w' => ∃ mc, e = .returned (.map mc) ∧ Mp w' mc N p ∧ Below W.heap.size W w' ∧ (∀ b, mc = some b → W.heap.size ≤ b ∧ b < w'.heap.size) := by
  rcases hA.hm with ⟨rfl, hp⟩ | ⟨b, D, rfl, ⟨es, cl, e1, r⟩, hv⟩
  · exact (mclone_nil W).mono fun e w' ⟨h1, h2⟩ => ⟨none, h1, .inl ⟨rfl, hp⟩, by rw [h2]; exact Below.refl _ _, fun b hb => by cases hb⟩
  · refine (mclone_map e1).mono fun e w' ⟨h1, h2⟩ => ⟨some W.heap.size, h1, .inr ⟨_, D, rfl, ⟨es, cl, by rw [h2]; exact blk_new W _, r⟩, hv⟩, by rw [h2]; exact below_alloc (Below.refl _ _) _, fun b hb => ?_⟩
    injection hb with hb
    subst hb
    rw [h2]
    exact ⟨Nat.le_refl _, blk_lt (blk_new W (.map es cl))⟩
set_option maxHeartbeats 4000000 in
set_option maxRecDepth 100000 in
theorem clone_any {W : World} {g N : Nat} {m : Option Nat} {p : Int → Int → Bool} (hA : At W g m N p) :
    Calls Tryd.prog 14 #[.pointer (some ⟨g, 0, none⟩)] W fun e w' => ∃ gc, e = .returned (.pointer (some ⟨gc, 0, none⟩)) ∧ W.heap.size ≤ gc ∧ Aside0 (∃ mc, At w' gc mc N p ∧ ∀ b, mc = some b → W.heap.size ≤ b) ∧ Below W.heap.size W w' := by
  have hu40 := Tryd.underlying40
  have c0 := hA.c0
  have HM := Aside0.mk (mclone_any hA)
  clear hA
  go_enter Tryd.func14, Tryd.ntmps14
  go_wp2_with (first
    | (go_at_call 27; (refine HM.out.mono ?_); rintro e w2 ⟨mc, rfl, h1, h2, h3⟩; have HP := Aside0.mk h1; have HB2 := Aside0.mk h2; have HN := Aside0.mk h3; clear h1 h2 h3)
    | ((with_reducible refine gate_dst (N := 11) rfl ?_); refine box_event ?hg (N := 11) ?hd (cs := #[.map mc]) (t := 40) ?hr ?_; (case hd => rfl); (case hg => rfl); (case hr => first | (go_simp; done) | (go_simp; rfl)); intro gc hg w3 hbox hb; have HB3 := Aside0.mk hb; have HG3 := Aside0.mk hg; have BX := Aside0.mk hbox; clear hbox hb hg))
  go_ret
  refine ⟨gc, rfl, by have h1 := HG3.out; have h2 := HB2.out.size; omega, ⟨mc, ⟨BX.out, HP.out.chg (S := fun _ => False) (Chg.of_below HB3.out) (fun _ _ q => q)⟩, fun b hb => (HN.out b hb).1⟩, below_step HB2.out HB3.out⟩
set_option maxHeartbeats 2000000 in
theorem clone_none (W : World) : Calls Tryd.prog 14 #[.pointer none] W fun e w' => e = .returned (.pointer none) ∧ Below W.heap.size W w' := by
  go_enter Tryd.func14, Tryd.ntmps14
  go_wp2
  go_ret
  exact ⟨rfl, Below.refl _ _⟩
end Go.Proofs.YtjcjhmnfknenlaaDoor.Rt
