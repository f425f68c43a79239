/- Rights: a map of pairs, and what it tells. Conditions: none. -/
import Derived.Test.YtjcjhmnfknenlaaDoorRt0
import Derived.Test.YtjcjhmnfknenlaaDoorPRightNilx1
import Derived.Deep.OwnRows
import Derived.Deep.QuietTactic
import Derived.BigQuiet
import Derived.Deep.RegionWith
import Derived.Deep.RegionLaw
import Derived.StillTailTactics
import Derived.Deep.LoopGhost
namespace Go.Proofs.YtjcjhmnfknenlaaDoor.Rt
open Go.RowKit Go.Proofs.YtjcjhmnfknenlaaDoor.PRightNil Go.Proofs.YtjcjhmnfknenlaaDoorW.PrintWords Go.Proofs.YtjcjhmnfknenlaaDoorW.PrintLast
open Go.Maps (IsMap isMap_empty)
open Ch (Chg)
set_option linter.unusedVariables false
set_option linter.unusedSimpArgs false

abbrev DU := DataW Unit
/-- The datum tells p. -/
def Vw (D : DU) (p : Int → Int → Bool) : Prop := IsMap D ∧ ∀ a b, Wf a → Wf b → Maps.has D (kl a b) = p a b
def upd (p : Int → Int → Bool) (a b : Int) : Int → Int → Bool := fun x y => (decide (x = a) && decide (y = b)) || p x y
def del (p : Int → Int → Bool) (a b : Int) : Int → Int → Bool := fun x y => !(decide (x = a) && decide (y = b)) && p x y
theorem isKey {a b : Int} (wa : Wf a) (wb : Wf b) : WideAt.IsKeyLit (kl a b) := law.key (key_mk wa wb)
theorem Vw.put {D : DU} {p : Int → Int → Bool} (h : Vw D p) {a b : Int} (wa : Wf a) (wb : Wf b) (d : DU) : Vw (D.put (kl a b) d) (upd p a b) := by
  refine ⟨h.1.put _ _, fun x y wx wy => ?_⟩
  unfold upd
  by_cases e : x = a ∧ y = b
  · obtain ⟨rfl, rfl⟩ := e
    rw [Maps.has_put_same h.1 (isKey wa wb)]
    simp
  · rw [Maps.has_put_other (fun q => e (kl_inj wx wy wa wb q)), h.2 x y wx wy]
    have : (decide (x = a) && decide (y = b)) = false := by
      rw [Bool.eq_false_iff]
      intro q
      rw [Bool.and_eq_true, decide_eq_true_eq, decide_eq_true_eq] at q
      exact e q
    rw [this, Bool.false_or]
theorem Vw.del {D : DU} {p : Int → Int → Bool} (h : Vw D p) {a b : Int} (wa : Wf a) (wb : Wf b) : Vw (D.del (kl a b)) (Rt.del p a b) := by
  refine ⟨h.1.del _, fun x y wx wy => ?_⟩
  unfold Rt.del
  by_cases e : x = a ∧ y = b
  · obtain ⟨rfl, rfl⟩ := e
    rw [Maps.has_del_same]
    simp
  · rw [Maps.has_del_other (fun q => e (kl_inj wx wy wa wb q)), h.2 x y wx wy]
    have : (decide (x = a) && decide (y = b)) = false := by
      rw [Bool.eq_false_iff]
      intro q
      rw [Bool.and_eq_true, decide_eq_true_eq, decide_eq_true_eq] at q
      exact e q
    rw [this]
    rfl
theorem Vw.nil : Vw (.map []) (fun _ _ => false) := ⟨isMap_empty, fun _ _ _ _ => rfl⟩
/-- A map of at most N pairs, or none. -/
def Mp (W : World) (m : Option Nat) (N : Nat) (p : Int → Int → Bool) : Prop :=
  (m = none ∧ p = fun _ _ => false) ∨ ∃ b D, m = some b ∧ W.ownsMap Tryd.prog 52 (unitElem (H := Unit)) b N D ∧ Vw D p
/-- The block g holds it. -/
structure At (W : World) (g : Nat) (m : Option Nat) (N : Nat) (p : Int → Int → Bool) : Prop where
  hg : W.heap[g]? = some (.cells #[.map m] 40 (0, 0))
  hm : Mp W m N p
section
variable {W W' : World} {g N : Nat} {m : Option Nat} {p : Int → Int → Bool}
theorem Mp.chg {S : Nat → Prop} (h : Mp W m N p) (hc : Chg S W W') (hS : ∀ b, m = some b → ¬ S b) : Mp W' m N p := by
  rcases h with h | ⟨b, D, rfl, ho, hv⟩
  · exact .inl h
  · obtain ⟨es, clock, hb, r⟩ := ho
    have hlt : b < W.heap.size := (Array.getElem?_eq_some_iff.1 hb).1
    exact .inr ⟨b, D, rfl, ⟨es, clock, (hc.block b hlt (hS b rfl)).trans hb, r⟩, hv⟩
theorem Mp.mono (h : Mp W m N p) {N' : Nat} (hn : N ≤ N') : Mp W m N' p := by
  rcases h with h | ⟨b, D, rfl, ho, hv⟩
  · exact .inl h
  · exact .inr ⟨b, D, rfl, ho.mono hn, hv⟩
theorem At.chg {S : Nat → Prop} (h : At W g m N p) (hc : Chg S W W') (h1 : ¬ S g) (h2 : ∀ b, m = some b → ¬ S b) : At W' g m N p :=
  ⟨(hc.block g (blk_lt h.hg) h1).trans h.hg, h.hm.chg hc h2⟩
theorem At.below (h : At W g m N p) (hb : Below W.heap.size W W') : At W' g m N p := h.chg (S := fun _ => False) (Chg.of_below hb) (fun q => q) (fun _ _ q => q)
theorem At.drewN (h : At W g m N p) (n : Nat) : At (W.drewN n) g m N p := h.below (pw_below_drewN (Below.refl _ _) n)
theorem At.mono (h : At W g m N p) {N' : Nat} (hn : N ≤ N') : At W g m N' p := ⟨h.hg, h.hm.mono hn⟩
theorem At.c0 (h : At W g m N p) : W.cell? ⟨g, 0, none⟩ = some (.map m) := (blk_cell h.hg 0).trans rfl
end
theorem wf_nat {n : Nat} (h : n < 9223372036854775808) : Wf (n : Int) := by
  show (Lit.int .i64 (n : Int)).wf = true
  have e1 : IntKind.i64.min = -9223372036854775808 := by decide
  have e2 : IntKind.i64.max = 9223372036854775807 := by decide
  simp only [Lit.wf, Bool.and_eq_true, decide_eq_true_eq, e1, e2]
  omega
end Go.Proofs.YtjcjhmnfknenlaaDoor.Rt
