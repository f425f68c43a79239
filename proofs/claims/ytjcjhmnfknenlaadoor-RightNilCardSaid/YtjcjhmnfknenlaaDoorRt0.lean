/- Rights: the key's law. Conditions: none. -/
import Derived.Test.YtjcjhmnfknenlaaDoorProg
import Derived.WalkKit
import Derived.KernelRfl
import Derived.WideKeyPair
import Derived.DeepKeys4
import Derived.Maps.OwnSet
import Derived.Maps.OwnOps
import Derived.Maps.RangeWalk
namespace Go.Proofs.YtjcjhmnfknenlaaDoor.Rt
open Go.RowKit Go.Maps Go.WideMaps
set_option linter.unusedVariables false
set_option linter.unusedSimpArgs false

theorem laidOut : laidOutB Tryd.prog = true := by kernel_rfl
theorem row52 : 52 < Tryd.prog.types.size := of_decide_eq_true (by kernel_rfl)
theorem deep52 : Tryd.prog.keyTypeAt (Tryd.prog.types.size + 1) 52 = true := by kernel_rfl
theorem wide52 : (match Tryd.prog.underlying 52 with | some (.array _ _) | some (.struct _) => true | _ => false) = true := by rw [Tryd.underlying52]
theorem law : Keyed Tryd.prog 52 := Keyed.of_law (deep_law_laid laidOut (m := 3) (by omega) row52 (by kernel_rfl) wide52)
/-- What a pair of a thread and an object reads as. -/
def kl (a b : Int) : Lit := .string (keyBytes [.int .i64 a, .int .i64 b])
def Wf (a : Int) : Prop := (Lit.int .i64 a).wf = true
theorem key_mk {a b : Int} (wa : Wf a) (wb : Wf b) : keyOf Tryd.prog 52 (.agg #[.int .i64 a, .int .i64 b]) = some (kl a b) := by
  have hkt : Tryd.prog.keyType 52 = true := deep52
  obtain ⟨m, hm⟩ : ∃ m, Tryd.prog.types.size = m + 1 := ⟨Tryd.prog.types.size - 1, by have := row52; omega⟩
  have hf : (Value.agg #[.int .i64 a, .int .i64 b]).formed Tryd.prog 52 = true := by
    simp [Value.formed, Tryd.underlying52]
    kernel_rfl
  have c52 : Tryd.prog.cellsOf 52 = 2 := by kernel_rfl
  have c3 : Tryd.prog.cellsOf 3 = 1 := by kernel_rfl
  unfold keyOf
  simp only [Tryd.underlying52]
  rw [if_pos (by simp [hkt, hf]), hm]
  unfold Program.keyLits
  simp only [Tryd.underlying52, Value.cells]
  rw [if_pos (by rw [c52]; exact ⟨rfl, by simp⟩)]
  unfold Program.keyLits
  have wa' : (Lit.int .i64 a).wf = true := wa
  have wb' : (Lit.int .i64 b).wf = true := wb
  simp [c3, Tryd.underlying3, wa', wb', kl]
theorem key3 {m : Nat} {c : Value} {ls : List Lit} (h : Tryd.prog.keyLits (m + 1) 3 [c] = some ls) : ∃ n, c = .int .i64 n ∧ Wf n := by
  unfold Program.keyLits at h
  simp only [Tryd.underlying3] at h
  cases c <;> simp at h
  obtain ⟨⟨rfl, hw⟩, _⟩ := h
  exact ⟨_, rfl, hw⟩
theorem key_inv {v : Value} {l : Lit} (h : keyOf Tryd.prog 52 v = some l) : ∃ a b, v = .agg #[.int .i64 a, .int .i64 b] ∧ Wf a ∧ Wf b ∧ l = kl a b := by
  have c52 : Tryd.prog.cellsOf 52 = 2 := by kernel_rfl
  have c3 : Tryd.prog.cellsOf 3 = 1 := by kernel_rfl
  obtain ⟨m, hm⟩ : ∃ m, Tryd.prog.types.size = m + 1 := ⟨Tryd.prog.types.size - 1, by have := row52; omega⟩
  have h0 := h
  unfold keyOf at h
  simp only [Tryd.underlying52] at h
  split at h
  · rename_i hc
    rw [Bool.and_eq_true] at hc
    rw [hm] at h
    obtain ⟨ls, hls, rfl⟩ := Option.map_eq_some_iff.1 h
    unfold Program.keyLits at hls
    simp only [Tryd.underlying52] at hls
    split at hls
    · rename_i hl
      rw [c52] at hl
      obtain ⟨c0, c1, hcs⟩ : ∃ c0 c1, v.cells.toList = [c0, c1] := by
        match hv : v.cells.toList, hl.1 with
        | [c0, c1], _ => exact ⟨c0, c1, rfl⟩
      rw [hcs] at hls
      simp only [c3, List.drop_zero, List.drop_succ_cons, List.take_succ_cons, List.take_zero, List.mapM_cons, List.mapM_nil, bind, pure, Option.map_eq_some_iff, Option.bind_eq_some_iff] at hls
      obtain ⟨_, ⟨l0, h0', _, ⟨l1, h1', _⟩, _⟩, _⟩ := hls
      obtain ⟨a, rfl, wa⟩ := key3 h0'
      obtain ⟨b, rfl, wb⟩ := key3 h1'
      have hv : v = .agg #[.int .i64 a, .int .i64 b] := by
        cases v with
        | agg cs =>
          congr 1
          apply Array.toList_inj.1
          exact hcs
        | _ => simp [Value.formed, Tryd.underlying52] at hc <;> simp [Value.cells] at hcs
      subst hv
      exact ⟨a, b, rfl, wa, wb, Option.some.inj (h0.symm.trans (key_mk wa wb))⟩
    · cases hls
  · cases h
theorem kl_inj {a b c d : Int} (wa : Wf a) (wb : Wf b) (wc : Wf c) (wd : Wf d) (h : kl a b = kl c d) : a = c ∧ b = d := by
  have h1 := law.inj (key_mk wa wb) (by rw [h]; exact key_mk wc wd)
  injection h1 with h1
  have h2 := congrArg Array.toList h1
  simp at h2
  exact h2
end Go.Proofs.YtjcjhmnfknenlaaDoor.Rt
