/-
  Arguments' data read as kinds (slices, structs, whole numbers), with their bounds: for the rows of the laws.
  By an AI agent's session; no macro, syntax, notation, axiom.
-/
import Derived.Test.YtakbhnfmimnbhaaWWords
import Derived.WalkKit
import Derived.ProofKit
import Derived.OpenShut
import Derived.Deep.Slices
import Derived.SizedLaws
namespace Go.Proofs.Ytakbhnfmimnbhaa.Rw
open Go.RowKit Go.ChangeShapes Go.WideShapes Go.Proofs.YtakbhnfmimnbhaaW.PrintWords

section
variable {H : Type} {enc : TypeId × Value → H} {P : Program} {w : World}

/-- A datum of type t, met within the form's reach, reads as one of the kind d, of which ok holds. -/
def Opn (enc : TypeId × Value → H) (P : Program) (w : World) (t : TypeId) {α : Type} (d : Kd α) (ok : α → Prop) : Prop :=
  P.cellsOf t = d.sz ∧ ∀ (base : Nat) (spare : Nat → Bool) (held : Bool) (fuel : Nat) (cs : List Value) (x : DataW H × List MemPlace),
    DataW.trod enc P w base spare held fuel t cs = some x → (∀ n ∈ x.1.weights P t, n ≤ 140737488351232) → ∃ a, d.K w a cs ∧ ok a

theorem opn_int {t : TypeId} {k : IntKind} (ht : P.underlying t = some (.int k)) (hc : P.cellsOf t = 1) : Opn enc P w t (Kd.int k) (fun n => (Lit.int k n).wf = true) := by
  refine ⟨hc, fun base spare held fuel cs x h _ => ?_⟩
  obtain ⟨n, rfl, _, hw⟩ := DataW.trod_int ht h
  exact ⟨n, rfl, hw⟩

theorem opn_bool {t : TypeId} (ht : P.underlying t = some .bool) (hc : P.cellsOf t = 1) : Opn enc P w t Kd.bool (fun _ => True) := by
  refine ⟨hc, fun base spare held fuel cs x h _ => ?_⟩
  obtain ⟨n, rfl, _⟩ := DataW.trod_bool ht h
  exact ⟨n, rfl, trivial⟩

theorem opn_string {t : TypeId} (ht : P.underlying t = some .string) (hc : P.cellsOf t = 1) : Opn enc P w t Kd.string (fun s => s.size ≤ 140737488351232) := by
  refine ⟨hc, fun base spare held fuel cs x h hw => ?_⟩
  obtain ⟨s, rfl, rfl, _⟩ := DataW.trod_string ht h
  refine ⟨s, rfl, ?_⟩
  have := hw s.data.toList.length (by simp [DataW.weights])
  rw [Array.length_toList] at this
  exact this

theorem weightsAll_mem {e : TypeId} {l : List (DataW H)} {d : DataW H} (hd : d ∈ l) {n : Nat} (hn : n ∈ d.weights P e) : n ∈ DataW.weightsAll P e l := by
  induction l with
  | nil => cases hd
  | cons y r ih =>
    simp only [DataW.weightsAll, List.mem_append]
    rcases List.mem_cons.1 hd with rfl | h
    · exact .inl hn
    · exact .inr (ih h)

theorem opn_slice {t e : TypeId} {α : Type} [Inhabited α] {d : Kd α} {ok : α → Prop} (B : Nat) (ht : P.underlying t = some (.slice e)) (hc : P.cellsOf t = 1) (hB : P.bytesOf e = B) (he : Opn enc P w e d ok) :
    Opn enc P w t (Kd.slice e d) (fun l => (∀ a ∈ l, ok a) ∧ l.length * B ≤ 140737488351232) := by
  refine ⟨hc, fun base spare held fuel cs x h hw => ?_⟩
  rcases Go.Deep.open_slice ht h with ⟨rfl, rfl⟩ | ⟨a, len, cap, m, n, D, Pl, rfl, hb, hl, hm, hmm, rfl, hi⟩
  · exact ⟨[], ⟨none, 0, rfl, Nat.le_refl _, Kd.C_nil d w⟩, by simp⟩
  · have hlm : len ≤ m := by rw [hmm]; split <;> omega
    have hW := hw ((((List.range len).map D).length + ((List.range (m - len)).map fun j => D (len + j)).length) * P.bytesOf e) (by simp [DataW.weights, ht])
    simp only [List.length_map, List.length_range, hB] at hW
    have hlenB : len * B ≤ 140737488351232 := Nat.le_trans (Nat.mul_le_mul_right _ (by omega)) hW
    have hex : ∀ i, i < len → ∃ y, (∃ cs', w.cells? base (a.add (i * P.cellsOf e)) (P.cellsOf e) = some cs' ∧ d.K w y cs') ∧ ok y := by
      intro i hil
      obtain ⟨cs', hcs, htr⟩ := hi i (by omega)
      obtain ⟨y, hy, hok⟩ := he.2 _ _ _ _ _ _ htr (fun q hq => hw q (by
        simp only [DataW.weights, ht, List.mem_cons, List.mem_append]
        exact .inr (.inl (weightsAll_mem (List.mem_map.2 ⟨i, List.mem_range.2 hil, rfl⟩) hq))))
      exact ⟨y, ⟨cs', hcs, hy⟩, hok⟩
    obtain ⟨f, hf⟩ := Go.Deep.choose_lt hex
    refine ⟨(List.range len).map f, ⟨some a, cap, by simp, by simpa using hl, ?_⟩, ?_, by simpa using hlenB⟩
    · refine ⟨rfl, ?_, fun _ => ⟨a, rfl, fun j p hj => ?_⟩⟩
      · simp only [List.length_map, List.length_range]
        have : maxLen = 9223372036854775807 := by decide
        omega
      · have hjl : j < len := by
          have := (List.getElem?_eq_some_iff.1 hj).1
          simpa using this
        have hp : f j = p := by
          have : ((List.range len).map f)[j]? = some (f j) := by simp [hjl]
          rw [this] at hj
          exact Option.some.inj hj
        subst hp
        obtain ⟨⟨cs', hcs, hK⟩, _⟩ := hf j hjl
        obtain ⟨_, hcl, hat⟩ := World.cells?_some hcs
        refine ⟨cs', by rw [hcl]; exact he.1, hK, fun i u hu => ?_⟩
        have hil : i < P.cellsOf e := by
          have := (List.getElem?_eq_some_iff.1 hu).1
          omega
        have hz : P.cellsOf e = d.sz := he.1
        have := hat i hil
        rw [Go.Deep.add_add, hz, hu] at this
        exact this
    · intro y hy
      obtain ⟨i, hir, rfl⟩ := List.mem_map.1 hy
      exact (hf i (List.mem_range.1 hir)).2

theorem opn_field {t : TypeId} {fs : Array Field} (ht : P.underlying t = some (.struct fs)) {base : Nat} {spare : Nat → Bool} {held : Bool} {fuel : Nat} {cs : List Value} {x : DataW H × List MemPlace}
    (h : DataW.trod enc P w base spare held fuel t cs = some x) (hw : ∀ n ∈ x.1.weights P t, n ≤ 140737488351232) (i : Nat) (f : Field) (hi : fs[i]? = some f) {α : Type} {d : Kd α} {ok : α → Prop} (ho : Opn enc P w f.type d ok) :
    ∃ a, d.K w a ((cs.drop f.offset).take d.sz) ∧ ok a := by
  obtain ⟨xs, n, _, rfl, hl, hxl, hf⟩ := DataW.trod_struct ht h
  have hil : i < fs.size := (Array.getElem?_eq_some_iff.1 hi).1
  have hy : xs[i]? = some (xs[i]'(by omega)) := List.getElem?_eq_getElem (by omega)
  have h1 := hf i f hi
  rw [hy] at h1
  have hz : P.cellsOf f.type = d.sz := ho.1
  rw [hz] at h1
  refine ho.2 _ _ _ _ _ _ h1 (fun q hq => hw q ?_)
  simp only [DataW.weights, ht]
  refine DataW.weights_mem_each (j := i) (t := f.type) ?_ ?_ q hq
  · simp [hi]
  · simp [hy]

theorem struct_len {t : TypeId} {fs : Array Field} (ht : P.underlying t = some (.struct fs)) {base : Nat} {spare : Nat → Bool} {held : Bool} {fuel : Nat} {cs : List Value} {x : DataW H × List MemPlace}
    (h : DataW.trod enc P w base spare held fuel t cs = some x) : cs.length = P.cellsOf t := by
  obtain ⟨xs, n, _, rfl, hl, _⟩ := DataW.trod_struct ht h
  exact hl

theorem cut_at (cs : List Value) (o s : Nat) : cs.drop o = (cs.drop o).take s ++ cs.drop (o + s) := by
  rw [← List.drop_drop, List.take_append_drop]
theorem cut_last (cs : List Value) (o s : Nat) (h : cs.length = o + s) : cs.drop o = (cs.drop o).take s := by
  rw [List.take_of_length_le]
  rw [List.length_drop]
  omega

/-- A slice's value, by its own shape. -/
theorem arg_slice {t e : TypeId} {α : Type} {d : Kd α} {ok : List α → Prop} (ho : Opn enc P w t (Kd.slice e d) ok) {base : Nat} {spare : Nat → Bool} {held : Bool} {a : Option Addr} {len cap : Nat} {x : DataW H} {ps : List MemPlace}
    (h : DataW.Trod enc P w base spare held t (.slice a len cap) x ps) (hw : ∀ n ∈ x.weights P t, n ≤ 140737488351232) : ∃ l : List α, l.length = len ∧ len ≤ cap ∧ d.C w a len l ∧ ok l := by
  obtain ⟨fuel, hf⟩ := h
  obtain ⟨l, ⟨A, c, hcs, hl, hC⟩, hok⟩ := ho.2 _ _ _ _ _ _ hf hw
  simp only [Value.cells] at hcs
  have hcs' : [Value.slice a len cap] = [Value.slice A l.length c] := hcs
  simp only [List.cons.injEq, Value.slice.injEq, and_true] at hcs'
  obtain ⟨rfl, rfl, rfl⟩ := hcs'
  exact ⟨l, rfl, hl, hC, hok⟩

theorem weights_each (ts : List TypeId) (ds : List (DataW H)) (hsz : (DataW.weightsEach P ts ds).all (· ≤ reachBytes) = true) {j : Nat} {t : TypeId} {d : DataW H} (ht : ts[j]? = some t) (hd : ds[j]? = some d) :
    ∀ n ∈ d.weights P t, n ≤ 140737488351232 := fun n hn => by
  have := List.all_eq_true.1 hsz _ (DataW.weights_mem_each ht hd n hn)
  exact of_decide_eq_true this
end
theorem wf64 {n : Int} (h : (Lit.int .i64 n).wf = true) : -9223372036854775808 ≤ n ∧ n ≤ 9223372036854775807 := by simpa [Lit.wf, IntKind.min, IntKind.max, IntKind.signed, IntKind.bits] using h
theorem wfu64 {n : Int} (h : (Lit.int .u64 n).wf = true) : 0 ≤ n ∧ n ≤ 18446744073709551615 := by simpa [Lit.wf, IntKind.min, IntKind.max, IntKind.signed, IntKind.bits] using h
theorem wfu8 {n : Int} (h : (Lit.int .u8 n).wf = true) : 0 ≤ n ∧ n ≤ 255 := by simpa [Lit.wf, IntKind.min, IntKind.max, IntKind.signed, IntKind.bits] using h
end Go.Proofs.Ytakbhnfmimnbhaa.Rw
