/- append, as one step of whatever region; rows of whole numbers of one's own, kept while other blocks turn. Conditions: none. -/
import Derived.Test.YtlggjacghemakaaWMore
import Derived.Deep.RegionLaw
namespace Go.Proofs.Ytlggjacghemakaa.Ap
open Go.RowKit Go.Proofs.YtlggjacghemakaaW.PrintWords
section
variable {P : Program} {ops : Array Oper} {o : Oper} {a : Act} {Q : Exit → Act → World → Prop} {K : Act → World → Prop}
end
theorem ReadsInt.one (W : World) (k : IntKind) (x : Int) (e : TypeId) : ReadsInt (W.alloc (.cells #[.int k x] e)) k (some ⟨W.heap.size, 0, none⟩) 1 [x] :=
  ⟨rfl, by omega, fun _ => ⟨_, rfl, fun j hj => by
    obtain rfl : j = 0 := by omega
    have := blk_cell (heap_alloc_new W (.cells #[.int k x] e)) 0
    rw [add_plain]
    exact this⟩⟩
end Go.Proofs.Ytlggjacghemakaa.Ap
