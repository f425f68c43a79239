/- ClaimBack, walked by hand. Conditions: none. -/
import Derived.Test.YtlggjacghemakaaHand1ClaimBack
namespace Go.Proofs.Ytlggjacghemakaa.claimBackW
open Go.RowKit Go.Proofs.Ytlggjacghemakaa.PClaimBack Go.Proofs.YtlggjacghemakaaW.PrintWords Go.Proofs.YtlggjacghemakaaW.PrintLast Go.Proofs.YtlggjacghemakaaW.PrintMore
open ClClaimBack Cm
set_option linter.unusedVariables false
set_option linter.unusedSimpArgs false
set_option maxHeartbeats 8000000 in
set_option maxRecDepth 100000 in
theorem walk (A0_0 : Option Addr) (c0_0 : Nat) (l0_0 : List Int) (A0_1 : Option Addr) (c0_1 : Nat) (l0_1 : List (List Int)) (A0_2 : Option Addr) (c0_2 : Nat) (l0_2 : List (List Int)) (a0_3 : Int) (a0_4 : Int) (A0_5 : Option Addr) (c0_5 : Nat) (l0_5 : List Int) (w : World) (hr0_0 : Kd.C (Kd.int .i64) w A0_0 l0_0.length l0_0) (hc0_0 : l0_0.length ≤ c0_0) (hr0_1 : Kd.C (Kd.slice 3 (Kd.int .i64)) w A0_1 l0_1.length l0_1) (hc0_1 : l0_1.length ≤ c0_1) (hr0_2 : Kd.C (Kd.slice 3 (Kd.int .i64)) w A0_2 l0_2.length l0_2) (hc0_2 : l0_2.length ≤ c0_2) (hr0_5 : Kd.C (Kd.int .i64) w A0_5 l0_5.length l0_5) (hc0_5 : l0_5.length ≤ c0_5) (w0_0 : (fun l => (∀ a ∈ l, (fun x => (Lit.int .i64 x).wf = true) a) ∧ l.length * 8 ≤ 140737488351232) l0_0) (w0_1 : (fun l => (∀ a ∈ l, (fun l => (∀ a ∈ l, (fun x => (Lit.int .i64 x).wf = true) a) ∧ l.length * 8 ≤ 140737488351232) a) ∧ l.length * 24 ≤ 140737488351232) l0_1) (w0_2 : (fun l => (∀ a ∈ l, (fun l => (∀ a ∈ l, (fun x => (Lit.int .i64 x).wf = true) a) ∧ l.length * 8 ≤ 140737488351232) a) ∧ l.length * 24 ≤ 140737488351232) l0_2) (w0_3 : (fun x => (Lit.int .i64 x).wf = true) a0_3) (w0_4 : (fun x => (Lit.int .i64 x).wf = true) a0_4) (w0_5 : (fun l => (∀ a ∈ l, (fun x => (Lit.int .i64 x).wf = true) a) ∧ l.length * 8 ≤ 140737488351232) l0_5) :
    Calls Try.prog 9 #[.agg #[.slice A0_0 l0_0.length c0_0, .slice A0_1 l0_1.length c0_1, .slice A0_2 l0_2.length c0_2, .int .i64 a0_3, .int .i64 a0_4, .slice A0_5 l0_5.length c0_5]] w fun e w' => e = .returned (.bool true) ∧ Below w.heap.size w w' := by
  have hu55 := Try.underlying55
  have hu60 := Try.underlying60
  have hu74 := Try.underlying74
  have HA := Aside0.mk (show At w A0_0 c0_0 l0_0 A0_1 c0_1 l0_1 A0_2 c0_2 l0_2 from ⟨⟨hr0_0, hc0_0⟩, ⟨hr0_1, hc0_1⟩, ⟨hr0_2, hc0_2⟩⟩)
  have HQ := Aside0.mk (show Ro w A0_5 c0_5 l0_5 from ⟨hr0_5, hc0_5⟩)
  have hask : l0_5.length * 8 ≤ 140737488351232 := w0_5.2
  have HK := Aside0.mk hask
  clear hask
  clear hr0_0 hc0_0 hr0_1 hc0_1 hr0_2 hc0_2 hr0_5 hc0_5 w0_0 w0_1 w0_2 w0_3 w0_4 w0_5
  have HB := Aside0.mk (Below.refl w.heap.size w)
  go_enter Try.func9, Try.ntmps9
  go_upto_region 1 with ((with_reducible refine gate_dst (N := 1) rfl ?_); (try (refine gate_guard (by rfl) ?_; dsimp only)); refine box_event ?hg (N := 1) ?hd (cs := #[.slice A0_0 l0_0.length c0_0, .slice A0_1 l0_1.length c0_1, .slice A0_2 l0_2.length c0_2, .int .i64 a0_3, .int .i64 a0_4, .slice A0_5 l0_5.length c0_5]) (t := 74) ?hr ?_; (case hd => rfl); (case hg => rfl); (case hr => first | (go_simp; done) | (go_simp; rfl)); intro g1 hg w3 hbox hb; have HB3 := Aside0.mk hb; have HG3 := Aside0.mk (show w.heap.size ≤ g1 by omega); have BK3 := Aside0.mk hbox; clear hb hbox hg; obtain ⟨z_0, z_1, z_2, z_3, z_4, z_5⟩ : w3.cell? ⟨g1, 0, none⟩ = some (.slice A0_0 l0_0.length c0_0) ∧ w3.cell? ⟨g1, 1, none⟩ = some (.slice A0_1 l0_1.length c0_1) ∧ w3.cell? ⟨g1, 2, none⟩ = some (.slice A0_2 l0_2.length c0_2) ∧ w3.cell? ⟨g1, 3, none⟩ = some (.int .i64 a0_3) ∧ w3.cell? ⟨g1, 4, none⟩ = some (.int .i64 a0_4) ∧ w3.cell? ⟨g1, 5, none⟩ = some (.slice A0_5 l0_5.length c0_5) := ⟨(blk_cell BK3.out 0).trans rfl, (blk_cell BK3.out 1).trans rfl, (blk_cell BK3.out 2).trans rfl, (blk_cell BK3.out 3).trans rfl, (blk_cell BK3.out 4).trans rfl, (blk_cell BK3.out 5).trans rfl⟩)
  go_cut [3, 4, 5, 6] (fun v3 v4 v5 v6 wc => ∃ g3 F H C A0 c0 A1 c1 A2 c2, v3 = .pointer (some ⟨g3, 0, none⟩) ∧ v4 = .int .i64 a0_3 ∧ v5 = .int .i64 a0_4 ∧ v6 = .slice A0_5 l0_5.length c0_5 ∧ Aside0 (F.length ≤ 40 ∧ rv H = H ∧ rv C = C) ∧ Aside0 (St w wc g3 A0 c0 F A1 c1 H A2 c2 C A0_5 c0_5 l0_5))
  case first =>
    have KB : Aside0 (∀ W' W2 : World, W'.cell? ⟨g1, 0, none⟩ = some (.slice A0_0 l0_0.length c0_0) ∧ W'.cell? ⟨g1, 1, none⟩ = some (.slice A0_1 l0_1.length c0_1) ∧ W'.cell? ⟨g1, 2, none⟩ = some (.slice A0_2 l0_2.length c0_2) ∧ W'.cell? ⟨g1, 3, none⟩ = some (.int .i64 a0_3) ∧ W'.cell? ⟨g1, 4, none⟩ = some (.int .i64 a0_4) ∧ W'.cell? ⟨g1, 5, none⟩ = some (.slice A0_5 l0_5.length c0_5) ∧ W'.heap[g1]? = some (.cells #[.slice A0_0 l0_0.length c0_0, .slice A0_1 l0_1.length c0_1, .slice A0_2 l0_2.length c0_2, .int .i64 a0_3, .int .i64 a0_4, .slice A0_5 l0_5.length c0_5] 74 (0, 0)) ∧ Below w.heap.size w W' → Below W'.heap.size W' W2 → W2.cell? ⟨g1, 0, none⟩ = some (.slice A0_0 l0_0.length c0_0) ∧ W2.cell? ⟨g1, 1, none⟩ = some (.slice A0_1 l0_1.length c0_1) ∧ W2.cell? ⟨g1, 2, none⟩ = some (.slice A0_2 l0_2.length c0_2) ∧ W2.cell? ⟨g1, 3, none⟩ = some (.int .i64 a0_3) ∧ W2.cell? ⟨g1, 4, none⟩ = some (.int .i64 a0_4) ∧ W2.cell? ⟨g1, 5, none⟩ = some (.slice A0_5 l0_5.length c0_5) ∧ W2.heap[g1]? = some (.cells #[.slice A0_0 l0_0.length c0_0, .slice A0_1 l0_1.length c0_1, .slice A0_2 l0_2.length c0_2, .int .i64 a0_3, .int .i64 a0_4, .slice A0_5 l0_5.length c0_5] 74 (0, 0)) ∧ Below w.heap.size w W2) := ⟨fun W' W2 h hb => by
      have q := blk_below h.2.2.2.2.2.2.1 hb
      exact ⟨(blk_cell q 0).trans rfl, (blk_cell q 1).trans rfl, (blk_cell q 2).trans rfl, (blk_cell q 3).trans rfl, (blk_cell q 4).trans rfl, (blk_cell q 5).trans rfl, q, below_step h.2.2.2.2.2.2.2 hb⟩⟩
    have KA : Aside0 (∀ (W' : World) (o : Obj), W'.cell? ⟨g1, 0, none⟩ = some (.slice A0_0 l0_0.length c0_0) ∧ W'.cell? ⟨g1, 1, none⟩ = some (.slice A0_1 l0_1.length c0_1) ∧ W'.cell? ⟨g1, 2, none⟩ = some (.slice A0_2 l0_2.length c0_2) ∧ W'.cell? ⟨g1, 3, none⟩ = some (.int .i64 a0_3) ∧ W'.cell? ⟨g1, 4, none⟩ = some (.int .i64 a0_4) ∧ W'.cell? ⟨g1, 5, none⟩ = some (.slice A0_5 l0_5.length c0_5) ∧ W'.heap[g1]? = some (.cells #[.slice A0_0 l0_0.length c0_0, .slice A0_1 l0_1.length c0_1, .slice A0_2 l0_2.length c0_2, .int .i64 a0_3, .int .i64 a0_4, .slice A0_5 l0_5.length c0_5] 74 (0, 0)) ∧ Below w.heap.size w W' → (W'.alloc o).cell? ⟨g1, 0, none⟩ = some (.slice A0_0 l0_0.length c0_0) ∧ (W'.alloc o).cell? ⟨g1, 1, none⟩ = some (.slice A0_1 l0_1.length c0_1) ∧ (W'.alloc o).cell? ⟨g1, 2, none⟩ = some (.slice A0_2 l0_2.length c0_2) ∧ (W'.alloc o).cell? ⟨g1, 3, none⟩ = some (.int .i64 a0_3) ∧ (W'.alloc o).cell? ⟨g1, 4, none⟩ = some (.int .i64 a0_4) ∧ (W'.alloc o).cell? ⟨g1, 5, none⟩ = some (.slice A0_5 l0_5.length c0_5) ∧ (W'.alloc o).heap[g1]? = some (.cells #[.slice A0_0 l0_0.length c0_0, .slice A0_1 l0_1.length c0_1, .slice A0_2 l0_2.length c0_2, .int .i64 a0_3, .int .i64 a0_4, .slice A0_5 l0_5.length c0_5] 74 (0, 0)) ∧ Below w.heap.size w (W'.alloc o)) := ⟨fun W' o h => KB.out _ _ h (below_alloc (Below.refl _ _) o)⟩
    have KD : Aside0 (∀ (W' : World), W'.cell? ⟨g1, 0, none⟩ = some (.slice A0_0 l0_0.length c0_0) ∧ W'.cell? ⟨g1, 1, none⟩ = some (.slice A0_1 l0_1.length c0_1) ∧ W'.cell? ⟨g1, 2, none⟩ = some (.slice A0_2 l0_2.length c0_2) ∧ W'.cell? ⟨g1, 3, none⟩ = some (.int .i64 a0_3) ∧ W'.cell? ⟨g1, 4, none⟩ = some (.int .i64 a0_4) ∧ W'.cell? ⟨g1, 5, none⟩ = some (.slice A0_5 l0_5.length c0_5) ∧ W'.heap[g1]? = some (.cells #[.slice A0_0 l0_0.length c0_0, .slice A0_1 l0_1.length c0_1, .slice A0_2 l0_2.length c0_2, .int .i64 a0_3, .int .i64 a0_4, .slice A0_5 l0_5.length c0_5] 74 (0, 0)) ∧ Below w.heap.size w W' → W'.drew.cell? ⟨g1, 0, none⟩ = some (.slice A0_0 l0_0.length c0_0) ∧ W'.drew.cell? ⟨g1, 1, none⟩ = some (.slice A0_1 l0_1.length c0_1) ∧ W'.drew.cell? ⟨g1, 2, none⟩ = some (.slice A0_2 l0_2.length c0_2) ∧ W'.drew.cell? ⟨g1, 3, none⟩ = some (.int .i64 a0_3) ∧ W'.drew.cell? ⟨g1, 4, none⟩ = some (.int .i64 a0_4) ∧ W'.drew.cell? ⟨g1, 5, none⟩ = some (.slice A0_5 l0_5.length c0_5) ∧ W'.drew.heap[g1]? = some (.cells #[.slice A0_0 l0_0.length c0_0, .slice A0_1 l0_1.length c0_1, .slice A0_2 l0_2.length c0_2, .int .i64 a0_3, .int .i64 a0_4, .slice A0_5 l0_5.length c0_5] 74 (0, 0)) ∧ Below w.heap.size w W'.drew) := ⟨fun W' h => KB.out _ _ h (below_drew (Below.refl _ _))⟩
    have KS : Aside0 (∀ (W' Wg : World) (j : Nat) (v : Value), Wg.cell? ⟨g1, 0, none⟩ = some (.slice A0_0 l0_0.length c0_0) ∧ Wg.cell? ⟨g1, 1, none⟩ = some (.slice A0_1 l0_1.length c0_1) ∧ Wg.cell? ⟨g1, 2, none⟩ = some (.slice A0_2 l0_2.length c0_2) ∧ Wg.cell? ⟨g1, 3, none⟩ = some (.int .i64 a0_3) ∧ Wg.cell? ⟨g1, 4, none⟩ = some (.int .i64 a0_4) ∧ Wg.cell? ⟨g1, 5, none⟩ = some (.slice A0_5 l0_5.length c0_5) ∧ Wg.heap[g1]? = some (.cells #[.slice A0_0 l0_0.length c0_0, .slice A0_1 l0_1.length c0_1, .slice A0_2 l0_2.length c0_2, .int .i64 a0_3, .int .i64 a0_4, .slice A0_5 l0_5.length c0_5] 74 (0, 0)) ∧ Below w.heap.size w Wg → W'.cell? ⟨g1, 0, none⟩ = some (.slice A0_0 l0_0.length c0_0) ∧ W'.cell? ⟨g1, 1, none⟩ = some (.slice A0_1 l0_1.length c0_1) ∧ W'.cell? ⟨g1, 2, none⟩ = some (.slice A0_2 l0_2.length c0_2) ∧ W'.cell? ⟨g1, 3, none⟩ = some (.int .i64 a0_3) ∧ W'.cell? ⟨g1, 4, none⟩ = some (.int .i64 a0_4) ∧ W'.cell? ⟨g1, 5, none⟩ = some (.slice A0_5 l0_5.length c0_5) ∧ W'.heap[g1]? = some (.cells #[.slice A0_0 l0_0.length c0_0, .slice A0_1 l0_1.length c0_1, .slice A0_2 l0_2.length c0_2, .int .i64 a0_3, .int .i64 a0_4, .slice A0_5 l0_5.length c0_5] 74 (0, 0)) ∧ Below w.heap.size w W' → (W'.setCell ⟨Wg.heap.size, j, none⟩ v).cell? ⟨g1, 0, none⟩ = some (.slice A0_0 l0_0.length c0_0) ∧ (W'.setCell ⟨Wg.heap.size, j, none⟩ v).cell? ⟨g1, 1, none⟩ = some (.slice A0_1 l0_1.length c0_1) ∧ (W'.setCell ⟨Wg.heap.size, j, none⟩ v).cell? ⟨g1, 2, none⟩ = some (.slice A0_2 l0_2.length c0_2) ∧ (W'.setCell ⟨Wg.heap.size, j, none⟩ v).cell? ⟨g1, 3, none⟩ = some (.int .i64 a0_3) ∧ (W'.setCell ⟨Wg.heap.size, j, none⟩ v).cell? ⟨g1, 4, none⟩ = some (.int .i64 a0_4) ∧ (W'.setCell ⟨Wg.heap.size, j, none⟩ v).cell? ⟨g1, 5, none⟩ = some (.slice A0_5 l0_5.length c0_5) ∧ (W'.setCell ⟨Wg.heap.size, j, none⟩ v).heap[g1]? = some (.cells #[.slice A0_0 l0_0.length c0_0, .slice A0_1 l0_1.length c0_1, .slice A0_2 l0_2.length c0_2, .int .i64 a0_3, .int .i64 a0_4, .slice A0_5 l0_5.length c0_5] 74 (0, 0)) ∧ Below w.heap.size w (W'.setCell ⟨Wg.heap.size, j, none⟩ v)) := ⟨fun W' Wg j v hg h => by
      have h1 : g1 ≠ Wg.heap.size := Nat.ne_of_lt (blk_lt hg.2.2.2.2.2.2.1)
      have q : (W'.setCell ⟨Wg.heap.size, j, none⟩ v).heap[g1]? = _ := (Below.heap_setCell W' ⟨Wg.heap.size, j, none⟩ v g1 h1).trans h.2.2.2.2.2.2.1
      exact ⟨(blk_cell q 0).trans rfl, (blk_cell q 1).trans rfl, (blk_cell q 2).trans rfl, (blk_cell q 3).trans rfl, (blk_cell q 4).trans rfl, (blk_cell q 5).trans rfl, q, below_set h.2.2.2.2.2.2.2 hg.2.2.2.2.2.2.2.size⟩⟩
    have SC : w3.cell? ⟨g1, 0, none⟩ = some (.slice A0_0 l0_0.length c0_0) ∧ w3.cell? ⟨g1, 1, none⟩ = some (.slice A0_1 l0_1.length c0_1) ∧ w3.cell? ⟨g1, 2, none⟩ = some (.slice A0_2 l0_2.length c0_2) ∧ w3.cell? ⟨g1, 3, none⟩ = some (.int .i64 a0_3) ∧ w3.cell? ⟨g1, 4, none⟩ = some (.int .i64 a0_4) ∧ w3.cell? ⟨g1, 5, none⟩ = some (.slice A0_5 l0_5.length c0_5) ∧ w3.heap[g1]? = some (.cells #[.slice A0_0 l0_0.length c0_0, .slice A0_1 l0_1.length c0_1, .slice A0_2 l0_2.length c0_2, .int .i64 a0_3, .int .i64 a0_4, .slice A0_5 l0_5.length c0_5] 74 (0, 0)) ∧ Below w.heap.size w w3 := ⟨z_0, z_1, z_2, z_3, z_4, z_5, BK3.out, HB3.out⟩
    have D23 : Aside0 (∀ W' : World, W'.cell? ⟨g1, 0, none⟩ = some (.slice A0_0 l0_0.length c0_0) ∧ W'.cell? ⟨g1, 1, none⟩ = some (.slice A0_1 l0_1.length c0_1) ∧ W'.cell? ⟨g1, 2, none⟩ = some (.slice A0_2 l0_2.length c0_2) ∧ W'.cell? ⟨g1, 3, none⟩ = some (.int .i64 a0_3) ∧ W'.cell? ⟨g1, 4, none⟩ = some (.int .i64 a0_4) ∧ W'.cell? ⟨g1, 5, none⟩ = some (.slice A0_5 l0_5.length c0_5) ∧ W'.heap[g1]? = some (.cells #[.slice A0_0 l0_0.length c0_0, .slice A0_1 l0_1.length c0_1, .slice A0_2 l0_2.length c0_2, .int .i64 a0_3, .int .i64 a0_4, .slice A0_5 l0_5.length c0_5] 74 (0, 0)) ∧ Below w.heap.size w W' → Calls Try.prog 23 #[.agg #[.slice A0_0 l0_0.length c0_0, .slice A0_1 l0_1.length c0_1, .slice A0_2 l0_2.length c0_2]] W' fun e W2 => ∃ F H C A0 c0 A1 c1 A2 c2, e = .returned (.agg #[.slice A0 F.length c0, .slice A1 H.length c1, .slice A2 C.length c2]) ∧ (F.length ≤ 40 ∧ rv H = H ∧ rv C = C) ∧ Aside0 (∀ W3 : World, (∀ k, k < w.heap.size ∨ W'.heap.size ≤ k → W3.heap[k]? = W2.heap[k]?) → At W3 A0 c0 F A1 c1 H A2 c2 C) ∧ Aside0 (W2.cell? ⟨g1, 0, none⟩ = some (.slice A0_0 l0_0.length c0_0) ∧ W2.cell? ⟨g1, 1, none⟩ = some (.slice A0_1 l0_1.length c0_1) ∧ W2.cell? ⟨g1, 2, none⟩ = some (.slice A0_2 l0_2.length c0_2) ∧ W2.cell? ⟨g1, 3, none⟩ = some (.int .i64 a0_3) ∧ W2.cell? ⟨g1, 4, none⟩ = some (.int .i64 a0_4) ∧ W2.cell? ⟨g1, 5, none⟩ = some (.slice A0_5 l0_5.length c0_5) ∧ W2.heap[g1]? = some (.cells #[.slice A0_0 l0_0.length c0_0, .slice A0_1 l0_1.length c0_1, .slice A0_2 l0_2.length c0_2, .int .i64 a0_3, .int .i64 a0_4, .slice A0_5 l0_5.length c0_5] 74 (0, 0)) ∧ Below w.heap.size w W2) ∧ Aside0 (Below W'.heap.size W' W2)) := ⟨fun W' h => (cFew HA.out h.2.2.2.2.2.2.2).mono fun e W2 ⟨F, H, C, A0, c0, A1, c1, A2, c2, he, hf, ha, hb⟩ => ⟨F, H, C, A0, c0, A1, c1, A2, c2, he, hf, ha, ⟨KB.out _ _ h hb⟩, ⟨hb⟩⟩⟩
    go_region_held3 (fun W' => W'.cell? ⟨g1, 0, none⟩ = some (.slice A0_0 l0_0.length c0_0) ∧ W'.cell? ⟨g1, 1, none⟩ = some (.slice A0_1 l0_1.length c0_1) ∧ W'.cell? ⟨g1, 2, none⟩ = some (.slice A0_2 l0_2.length c0_2) ∧ W'.cell? ⟨g1, 3, none⟩ = some (.int .i64 a0_3) ∧ W'.cell? ⟨g1, 4, none⟩ = some (.int .i64 a0_4) ∧ W'.cell? ⟨g1, 5, none⟩ = some (.slice A0_5 l0_5.length c0_5) ∧ W'.heap[g1]? = some (.cells #[.slice A0_0 l0_0.length c0_0, .slice A0_1 l0_1.length c0_1, .slice A0_2 l0_2.length c0_2, .int .i64 a0_3, .int .i64 a0_4, .slice A0_5 l0_5.length c0_5] 74 (0, 0)) ∧ Below w.heap.size w W') (with_reducible first | exact KS.out _ _ _ _ (by first | exact SC | exact KD.out _ SC | exact S4.out | exact KD.out _ S4.out) (KS.out _ _ _ _ (by first | exact SC | exact KD.out _ SC | exact S4.out | exact KD.out _ S4.out) (KS.out _ _ _ _ (by first | exact SC | exact KD.out _ SC | exact S4.out | exact KD.out _ S4.out) (by first | exact S4.out | exact KA.out _ _ S4.out | exact KA.out _ _ (KD.out _ S4.out)))) | exact SC | exact KD.out _ SC | exact S4.out | exact KA.out _ _ S4.out | exact KA.out _ _ (KD.out _ SC) | exact KD.out _ (KA.out _ _ SC) | exact KA.out _ _ SC | (exact KA.out _ _ (by assumption)) | (exact KD.out _ (by assumption))) (first | (go_at_call 23; with_reducible refine (D23.out _ (by assumption)).mono ?_; rintro e w4 ⟨F, H, C, A0, c0, A1, c1, A2, c2, rfl, hf, HAT, S4, B4⟩; (first | (have GB := Aside0.mk (blk_below (blk_new _ (.cells #[.slice none 0 0, .slice none 0 0, .slice none 0 0] 55 (0, 0))) B4.out); obtain ⟨gc0, gc1, gc2⟩ := claim_Grants.box3 GB.out; have gf0 := blk_frozen GB.out 0; have gf1 := blk_frozen GB.out 1; have gf2 := blk_frozen GB.out 2) | (have GB := Aside0.mk (blk_below (blk_drew (blk_new _ (.cells #[.slice none 0 0, .slice none 0 0, .slice none 0 0] 55 (0, 0)))) B4.out); obtain ⟨gc0, gc1, gc2⟩ := claim_Grants.box3 GB.out; have gf0 := blk_frozen GB.out 0; have gf1 := blk_frozen GB.out 1; have gf2 := blk_frozen GB.out 2) | skip)))
    all_goals
      first | go_meet | (go_step; go_meet) | (go_step; go_step; go_meet)
      case rel =>
        first
        | exact ⟨_, F, H, C, A0, c0, A1, c1, A2, c2, rfl, rfl, rfl, rfl, ⟨hf⟩, ⟨st_new HAT.out S4.out.2.2.2.2.2.2.2 HQ.out⟩⟩
        | exact ⟨_, F, H, C, A0, c0, A1, c1, A2, c2, rfl, rfl, rfl, rfl, ⟨hf⟩, ⟨st_put HAT.out S4.out.2.2.2.2.2.2.2 HQ.out HB3.out.size (by first | exact blk_lt (blk_drew (blk_new _ _)) | exact blk_lt (blk_new _ _)) GB.out⟩⟩
  case rest =>
    obtain ⟨g3, F, H, C, A0, c0, A1, c1, A2, c2, rfl, rfl, rfl, rfl, HFHC, HS⟩ := hcut
    clear HA HQ HB BK3 HB3 HG3
    obtain ⟨z0, z1, z2⟩ := HS.out.cells
    by_cases c : chk F H C = 0
    case neg =>
      have n3 : (chk F H C != 0) = true := bne_iff_ne.mpr c
      have n4 : (chk F H C == 0) = false := beq_eq_false_iff_ne.mpr c
      go_wp2_with (first
              | (go_at_call 24; with_reducible refine (cChk HS.out.acc).mono ?_; rintro e w5 ⟨rfl, hb⟩; have HS5 := Aside0.mk (HS.out.below hb); clear hb; obtain ⟨z5_0, z5_1, z5_2⟩ := HS5.out.cells)
              | (go_at_call 26; with_reducible refine (cOwn HFHC.out.1 HFHC.out.2.1 HFHC.out.2.2 HS5.out.acc).mono ?_; rintro e w6 ⟨B0, d0, B1, d1, B2, d2, rfl, HO6, hb⟩; have HS6 := Aside0.mk (HS5.out.below hb); clear hb)
              | (go_at_call 28; with_reducible refine (cSafe HO6.out).mono ?_; rintro e w7 ⟨rfl, hb⟩; have HS7 := Aside0.mk (HS6.out.below hb); clear hb; obtain ⟨z7_0, z7_1, z7_2⟩ := HS7.out.cells)
              | (go_at_call 31; with_reducible refine cLives.mono ?_; rintro e w8 ⟨rfl, hb⟩; have HB8 := Aside0.mk (show Below w.heap.size w w8 from by first | exact (HS7.out.below hb).bel | exact (HS5.out.below hb).bel); clear hb))
      go_ret
      exact ⟨rfl, HB8.out⟩
    have n3 : (chk F H C != 0) = false := by rw [c]; rfl
    have n4 : (chk F H C == 0) = true := by rw [c]; rfl
    have ok := chk_ok c
    have HOK := Aside0.mk ok
    clear ok
    by_cases cs : (oo F H C).2 = true
    case neg =>
      replace cs : (oo F H C).2 = false := Bool.eq_false_iff.2 cs
      go_wp2_with (first
              | (go_at_call 24; with_reducible refine (cChk HS.out.acc).mono ?_; rintro e w5 ⟨rfl, hb⟩; have HS5 := Aside0.mk (HS.out.below hb); clear hb; obtain ⟨z5_0, z5_1, z5_2⟩ := HS5.out.cells)
              | (go_at_call 26; with_reducible refine (cOwn HFHC.out.1 HFHC.out.2.1 HFHC.out.2.2 HS5.out.acc).mono ?_; rintro e w6 ⟨B0, d0, B1, d1, B2, d2, rfl, HO6, hb⟩; have HS6 := Aside0.mk (HS5.out.below hb); clear hb)
              | (go_at_call 28; with_reducible refine (cSafe HO6.out).mono ?_; rintro e w7 ⟨rfl, hb⟩; have HS7 := Aside0.mk (HS6.out.below hb); clear hb; obtain ⟨z7_0, z7_1, z7_2⟩ := HS7.out.cells)
              | (go_at_call 31; with_reducible refine cLives.mono ?_; rintro e w8 ⟨rfl, hb⟩; have HB8 := Aside0.mk (show Below w.heap.size w w8 from by first | exact (HS7.out.below hb).bel | exact (HS5.out.below hb).bel); clear hb))
      go_ret
      exact ⟨rfl, HB8.out⟩
    by_cases h5 : a0_3 < 0
    · have n5 : decide (a0_3 < 0) = true := decide_eq_true h5
      go_wp2_with (first
              | (go_at_call 24; with_reducible refine (cChk HS.out.acc).mono ?_; rintro e w5 ⟨rfl, hb⟩; have HS5 := Aside0.mk (HS.out.below hb); clear hb; obtain ⟨z5_0, z5_1, z5_2⟩ := HS5.out.cells)
              | (go_at_call 26; with_reducible refine (cOwn HFHC.out.1 HFHC.out.2.1 HFHC.out.2.2 HS5.out.acc).mono ?_; rintro e w6 ⟨B0, d0, B1, d1, B2, d2, rfl, HO6, hb⟩; have HS6 := Aside0.mk (HS5.out.below hb); clear hb)
              | (go_at_call 28; with_reducible refine (cSafe HO6.out).mono ?_; rintro e w7 ⟨rfl, hb⟩; have HS7 := Aside0.mk (HS6.out.below hb); clear hb; obtain ⟨z7_0, z7_1, z7_2⟩ := HS7.out.cells)
              | (go_at_call 31; with_reducible refine cLives.mono ?_; rintro e w8 ⟨rfl, hb⟩; have HB8 := Aside0.mk (show Below w.heap.size w w8 from by first | exact (HS7.out.below hb).bel | exact (HS5.out.below hb).bel); clear hb))
      go_ret
      exact ⟨rfl, HB8.out⟩
    have n5 : decide (a0_3 < 0) = false := decide_eq_false h5
    by_cases h6 : (H.length : Int) ≤ a0_3
    · have n6 : decide ((H.length : Int) ≤ a0_3) = true := decide_eq_true h6
      go_wp2_with (first
              | (go_at_call 24; with_reducible refine (cChk HS.out.acc).mono ?_; rintro e w5 ⟨rfl, hb⟩; have HS5 := Aside0.mk (HS.out.below hb); clear hb; obtain ⟨z5_0, z5_1, z5_2⟩ := HS5.out.cells)
              | (go_at_call 26; with_reducible refine (cOwn HFHC.out.1 HFHC.out.2.1 HFHC.out.2.2 HS5.out.acc).mono ?_; rintro e w6 ⟨B0, d0, B1, d1, B2, d2, rfl, HO6, hb⟩; have HS6 := Aside0.mk (HS5.out.below hb); clear hb)
              | (go_at_call 28; with_reducible refine (cSafe HO6.out).mono ?_; rintro e w7 ⟨rfl, hb⟩; have HS7 := Aside0.mk (HS6.out.below hb); clear hb; obtain ⟨z7_0, z7_1, z7_2⟩ := HS7.out.cells)
              | (go_at_call 31; with_reducible refine cLives.mono ?_; rintro e w8 ⟨rfl, hb⟩; have HB8 := Aside0.mk (show Below w.heap.size w w8 from by first | exact (HS7.out.below hb).bel | exact (HS5.out.below hb).bel); clear hb))
      go_ret
      exact ⟨rfl, HB8.out⟩
    have n6 : decide ((H.length : Int) ≤ a0_3) = false := decide_eq_false h6
    by_cases h7 : a0_4 < 0
    · have n7 : decide (a0_4 < 0) = true := decide_eq_true h7
      go_wp2_with (first
              | (go_at_call 24; with_reducible refine (cChk HS.out.acc).mono ?_; rintro e w5 ⟨rfl, hb⟩; have HS5 := Aside0.mk (HS.out.below hb); clear hb; obtain ⟨z5_0, z5_1, z5_2⟩ := HS5.out.cells)
              | (go_at_call 26; with_reducible refine (cOwn HFHC.out.1 HFHC.out.2.1 HFHC.out.2.2 HS5.out.acc).mono ?_; rintro e w6 ⟨B0, d0, B1, d1, B2, d2, rfl, HO6, hb⟩; have HS6 := Aside0.mk (HS5.out.below hb); clear hb)
              | (go_at_call 28; with_reducible refine (cSafe HO6.out).mono ?_; rintro e w7 ⟨rfl, hb⟩; have HS7 := Aside0.mk (HS6.out.below hb); clear hb; obtain ⟨z7_0, z7_1, z7_2⟩ := HS7.out.cells)
              | (go_at_call 31; with_reducible refine cLives.mono ?_; rintro e w8 ⟨rfl, hb⟩; have HB8 := Aside0.mk (show Below w.heap.size w w8 from by first | exact (HS7.out.below hb).bel | exact (HS5.out.below hb).bel); clear hb))
      go_ret
      exact ⟨rfl, HB8.out⟩
    have n7 : decide (a0_4 < 0) = false := decide_eq_false h7
    by_cases h8 : (F.length : Int) ≤ a0_4
    · have n8 : decide ((F.length : Int) ≤ a0_4) = true := decide_eq_true h8
      go_wp2_with (first
              | (go_at_call 24; with_reducible refine (cChk HS.out.acc).mono ?_; rintro e w5 ⟨rfl, hb⟩; have HS5 := Aside0.mk (HS.out.below hb); clear hb; obtain ⟨z5_0, z5_1, z5_2⟩ := HS5.out.cells)
              | (go_at_call 26; with_reducible refine (cOwn HFHC.out.1 HFHC.out.2.1 HFHC.out.2.2 HS5.out.acc).mono ?_; rintro e w6 ⟨B0, d0, B1, d1, B2, d2, rfl, HO6, hb⟩; have HS6 := Aside0.mk (HS5.out.below hb); clear hb)
              | (go_at_call 28; with_reducible refine (cSafe HO6.out).mono ?_; rintro e w7 ⟨rfl, hb⟩; have HS7 := Aside0.mk (HS6.out.below hb); clear hb; obtain ⟨z7_0, z7_1, z7_2⟩ := HS7.out.cells)
              | (go_at_call 31; with_reducible refine cLives.mono ?_; rintro e w8 ⟨rfl, hb⟩; have HB8 := Aside0.mk (show Below w.heap.size w w8 from by first | exact (HS7.out.below hb).bel | exact (HS5.out.below hb).bel); clear hb))
      go_ret
      exact ⟨rfl, HB8.out⟩
    have n8 : decide ((F.length : Int) ≤ a0_4) = false := decide_eq_false h8
    go_upto_region 4 with (first
        | (go_at_call 24; with_reducible refine (cChk HS.out.acc).mono ?_; rintro e w5 ⟨rfl, hb⟩; have HS5 := Aside0.mk (HS.out.below hb); clear hb; obtain ⟨z5_0, z5_1, z5_2⟩ := HS5.out.cells)
        | (go_at_call 26; with_reducible refine (cOwn HFHC.out.1 HFHC.out.2.1 HFHC.out.2.2 HS5.out.acc).mono ?_; rintro e w6 ⟨B0, d0, B1, d1, B2, d2, rfl, HO6, hb⟩; have HS6 := Aside0.mk (HS5.out.below hb); clear hb)
        | (go_at_call 28; with_reducible refine (cSafe HO6.out).mono ?_; rintro e w7 ⟨rfl, hb⟩; have HS7 := Aside0.mk (HS6.out.below hb); clear hb; obtain ⟨z7_0, z7_1, z7_2⟩ := HS7.out.cells)
        | (go_at_call 31; with_reducible refine cLives.mono ?_; rintro e w8 ⟨rfl, hb⟩; have HB8 := Aside0.mk (show Below w.heap.size w w8 from by first | exact (HS7.out.below hb).bel | exact (HS5.out.below hb).bel); clear hb))
    obtain ⟨i, rfl⟩ : ∃ i : Nat, a0_3 = (i : Int) := ⟨a0_3.toNat, by omega⟩
    obtain ⟨q, rfl⟩ : ∃ q : Nat, a0_4 = (q : Int) := ⟨a0_4.toNat, by omega⟩
    have HI := Aside0.mk (show i < H.length by omega)
    have HQ2 := Aside0.mk (show q < F.length by omega)
    clear h5 h6 h7 h8 HS5 HS6 HO6
    go_upto_region 5 with (go_at_call 26; with_reducible refine (cOwnM HFHC.out.1 HFHC.out.2.1 HFHC.out.2.2 HS7.out.acc).mono ?_; rintro e w10 ⟨nM, B3, d3, B4, d4, B5, d5, rfl, HM10, hb⟩; have HB10 := Aside0.mk hb; have HS10 := Aside0.mk (HS7.out.below hb); clear hb)
    have BM := below_alloc (Below.refl w10.heap.size w10) (.cells #[.slice B3 F.length d3, .slice B4 H.length d4, .slice B5 C.length d5] 60 (0, 0))
    have HB11 := Aside0.mk (below_alloc HB10.out (.cells #[.slice B3 F.length d3, .slice B4 H.length d4, .slice B5 C.length d5] 60 (0, 0)))
    have hBK := blk_new w10 (.cells #[.slice B3 F.length d3, .slice B4 H.length d4, .slice B5 C.length d5] 60 (0, 0))
    obtain ⟨g0, g4, gr, dr, rfl, rfl, k0, f0, k4, kr, fr, ⟨b0, l0⟩, ⟨br, lr⟩, l4, ne1, ne2, ne3, HCH0⟩ := HM10.out.change BM HI.out HQ2.out (by rw [(HOK.out.2.2.2.2 i HI.out).1]; exact HQ2.out)
    have hlr : (rd_L1 H (i : Int)).length = F.length := (HOK.out.2.2.2.2 i HI.out).1
    rw [hlr] at k4
    have HCH := Aside0.mk HCH0
    have BK11 := Aside0.mk hBK
    have HN := Aside0.mk (show (w7.heap.size ≤ g0 ∧ w7.heap.size ≤ gr ∧ g0 ≠ w10.heap.size ∧ gr ≠ w10.heap.size ∧ g4 ≠ w10.heap.size ∧ gr ≠ g0 ∧ g4 ≠ g0 ∧ g4 ≠ gr ∧ w7.heap.size ≤ w10.heap.size) from ⟨b0, br, by omega, by omega, by omega, ne1, ne2, ne3, HB10.out.size⟩)
    clear HCH0 hBK BM b0 l0 br lr l4 ne1 ne2 ne3 HM10 hlr HB10 HS10
    obtain ⟨t0, t1, t2⟩ := claim_Grants.box3 BK11.out
    generalize w10.alloc (.cells #[.slice (some ⟨g0, 0, none⟩) F.length d3, .slice (some ⟨g4, 0, none⟩) H.length d4, .slice B5 C.length d5] 60 (0, 0)) = w11 at *
    generalize w10.heap.size = g7 at *
    have p1 : (0 : Int) ≤ (i : Int) := by omega
    have p2 : (i : Int) < (H.length : Int) := by have := HI.out; omega
    have p3 : (0 : Int) ≤ (q : Int) := by omega
    have p4 : (q : Int) < (F.length : Int) := by have := HQ2.out; omega
    have p1 := eq_true p1
    have p2 := eq_true p2
    have p3 := eq_true p3
    have p4 := eq_true p4
    go_quiet (fail)
    have okF := HOK.out.2.2.2.1 q HQ2.out
    have okH := (HOK.out.2.2.2.2 i HI.out).2.2 q HQ2.out
    have ew : wrap64 (1000 - rd F (q : Int)) = 1000 - rd F (q : Int) := w0 (by omega) (by omega)
    obtain ⟨nn, en, N0, N1, N2⟩ : ∃ nn : Int, (if wrap64 (1000 - rd F (q : Int)) < hh H i q then wrap64 (1000 - rd F (q : Int)) else hh H i q) = nn ∧ 0 ≤ nn ∧ nn ≤ hh H i q ∧ nn ≤ 1000 - rd F (q : Int) := by
      rw [ew]
      split
      · exact ⟨_, rfl, by omega, by omega, by omega⟩
      · exact ⟨_, rfl, by omega, by omega, by omega⟩
    have HNN := Aside0.mk (show 0 ≤ nn ∧ nn ≤ hh H i q ∧ nn ≤ 1000 - rd F (q : Int) from ⟨N0, N1, N2⟩)
    have s1 : wrap64 (rd F (q : Int) + nn) = rd F (q : Int) + nn := w0 (by omega) (by omega)
    have s2 : wrap64 (hh H i q - nn) = hh H i q - nn := w0 (by omega) (by omega)
    rw [en]
    clear okF okH ew en N0 N1 N2
    obtain ⟨o1, o2, o3, o4, o5, o6, o7, o8, o9⟩ := HN.out
    have o3' := o3.symm
    have o4' := o4.symm
    have o5' := o5.symm
    have o6' := o6.symm
    have o7' := o7.symm
    have o8' := o8.symm
    have s1' : IntKind.i64.wrap (rd F (q : Int) + nn) = rd F (q : Int) + nn := by rw [i64_w]; exact s1
    have s2' : IntKind.i64.wrap (hh H i q - nn) = hh H i q - nn := by rw [i64_w]; exact s2
    go_wp2
    go_cut [8] (fun v8 wc => v8 = .int .i64 nn ∧ Aside0 (∃ m, wc = (w11.setCell ⟨g0, q, none⟩ (.int .i64 (rd F (q : Int) + nn))).drewN m))
    case first =>
      go_region_with (fail)
      all_goals
        first | go_meet | (go_step; go_meet) | (go_step; go_step; go_meet) | (go_step; go_step; go_step; go_meet)
        case rel => exact ⟨rfl, ⟨_, rfl⟩⟩
    case rest =>
      obtain ⟨rfl, ⟨m12, rfl⟩⟩ := hcut
      have BK12 := Aside0.mk (blk_far BK11.out (p := ⟨g0, q, none⟩) o3' (.int .i64 (rd F (q : Int) + nn)))
      have x4 : (w11.setCell ⟨g0, q, none⟩ (.int .i64 (rd F (q : Int) + nn))).cell? ⟨g4, i, none⟩ = some (.slice (some ⟨gr, 0, none⟩) F.length dr) := (cell_far o7 _).trans k4
      have xr : (w11.setCell ⟨g0, q, none⟩ (.int .i64 (rd F (q : Int) + nn))).cell? ⟨gr, q, none⟩ = some (.int .i64 (hh H i q)) := (cell_far o6 _).trans kr
      have xf : (w11.setCell ⟨g0, q, none⟩ (.int .i64 (rd F (q : Int) + nn))).frozen? ⟨gr, q, none⟩ = false := by simpa using fr
      have HB12 := Aside0.mk (below_set (j := q) (v := .int .i64 (rd F (q : Int) + nn)) HB11.out o1)
      have HAT := Aside0.mk (HCH.out (rd F (q : Int) + nn) (hh H i q - nn))
      clear k0 f0 k4 kr fr t0 t1 t2 HCH
      obtain ⟨t0, t1, t2⟩ := claim_Grants.box3 BK12.out
      clear HB11
      generalize w11.setCell ⟨g0, q, none⟩ (.int .i64 (rd F (q : Int) + nn)) = w12 at *
      go_wp2
      go_cut [8] (fun v8 wc => v8 = .int .i64 nn ∧ Aside0 (∃ m, wc = (w12.setCell ⟨gr, q, none⟩ (.int .i64 (hh H i q - nn))).drewN m))
      case first =>
        go_region_with (fail)
        all_goals
          first | go_meet | (go_step; go_meet) | (go_step; go_step; go_meet) | (go_step; go_step; go_step; go_meet)
          case rel => exact ⟨rfl, ⟨_, rfl⟩⟩
      case rest =>
        obtain ⟨rfl, ⟨m13, rfl⟩⟩ := hcut
        have BK13 := Aside0.mk (blk_below (blk_far BK12.out (p := ⟨gr, q, none⟩) o4' (.int .i64 (hh H i q - nn))) (pw_below_drewN (Below.refl _ _) m13))
        have HB13 := Aside0.mk (pw_below_drewN (below_set (j := q) (v := .int .i64 (hh H i q - nn)) HB12.out o2) m13)
        have HA13 : Aside0 (At ((w12.setCell ⟨gr, q, none⟩ (.int .i64 (hh H i q - nn))).drewN m13) (some ⟨g0, 0, none⟩) d3 (bF F q nn) (some ⟨g4, 0, none⟩) d4 (bH H i q nn) B5 d5 C) := ⟨HAT.out.below (pw_below_drewN (Below.refl _ _) m13)⟩
        have HS13 := Aside0.mk (HS7.out.below HB13.out)
        clear HAT HB12 BK12 t0 t1 t2 x4 xr xf HS7 o1 o2 o3 o4 o5 o6 o7 o8 o9 o3' o4' o5' o6' o7' o8' s1 s2 s1' s2' HN p1 p2 p3 p4
        generalize (w12.setCell ⟨gr, q, none⟩ (.int .i64 (hh H i q - nn))).drewN m13 = w13 at *
        have lF : (bF F q nn).length = F.length := by simp [bF]
        have lH : (bH H i q nn).length = H.length := by simp [bH]
        have e8 : (oo (bF F q nn) (bH H i q nn) C).2 = true := (oo_safe (ok_chk (back_ok HOK.out HI.out HQ2.out HNN.out.1 HNN.out.2.1 HNN.out.2.2))).2 (back_safe HOK.out HI.out HQ2.out HNN.out.1 HNN.out.2.1 HNN.out.2.2 ((oo_safe c).1 cs))
        have D28 : Aside0 (Calls Try.prog 28 #[.agg #[.slice (some ⟨g0, 0, none⟩) F.length d3, .slice (some ⟨g4, 0, none⟩) H.length d4, .slice B5 C.length d5]] w13 fun e W2 => e = .returned (.bool true) ∧ Below w13.heap.size w13 W2) := ⟨by
          have h := cSafe HA13.out
          rw [lF, lH, e8] at h
          exact h⟩
        clear lF lH e8 HA13 HNN
        obtain ⟨t0, t1, t2⟩ := claim_Grants.box3 BK13.out
        go_upto_if 102 with (go_at_call 28; with_reducible refine D28.out.mono ?_; rintro e w14 ⟨rfl, hb⟩; have HS14 := Aside0.mk (HS13.out.below hb); clear hb)
        clear D28 HB13 BK13 t0 t1 t2 HS13
        go_cut [6] (fun v6 wc => ∃ (Aq : Option Addr) (cq : Nat) (ask : List Int), v6 = .slice Aq ask.length cq ∧ Aside0 (ask.length * 8 ≤ 140737488351232) ∧ Aside0 (St w wc g3 A0 c0 F A1 c1 H A2 c2 C Aq cq ask))
        case first =>
          have hmax : l0_5.length ≤ 9223372036854775807 := HS14.out.asks.1.2.1
          by_cases hc : (l0_5.length : Int) > 40
          · have hd1 : decide ((40 : Int) < (l0_5.length : Int)) = true := decide_eq_true (by omega)
            have hd2 : decide (40 < l0_5.length) = true := decide_eq_true (by omega)
            obtain ⟨i0, hi0, _, hsz, _⟩ := info_parts info3
            obtain ⟨hcut, hA, hCt⟩ := print_take_of (P := Try.prog) (Value.int .i64) 0 23 3 .i64 Try.underlying23 hi0 hsz A0_5 c0_5 l0_5 40 (by omega) (by omega) HS14.out.asks.2
            have hrd := Kd.C_of_reads (h1 := fun _ => rfl) (hA _ (Kd.reads_of_C HS14.out.asks.1))
            obtain ⟨y, hy⟩ : ∃ y, y = l0_5.take 40 := ⟨_, rfl⟩
            simp only [show (40 : Int).toNat = 40 from rfl, ← hy] at hcut hrd hCt
            have hyl : y.length * 8 ≤ 140737488351232 := by rw [hy, List.length_take]; have := HK.out; omega
            have HY := Aside0.mk (show St w w14 g3 A0 c0 F A1 c1 H A2 c2 C A0_5 c0_5 y from ⟨HS14.out.1, HS14.out.2.1, ⟨hrd, hCt⟩, HS14.out.2.2.2⟩)
            have HYL := Aside0.mk hyl
            have h40 : ((40 : Int) ≤ (l0_5.length : Int)) = True := eq_true (by omega)
            clear hrd hCt hA hy hyl hi0 hsz hmax hc
            rw [hd1]
            go_wp2
            go_meet
            case rel => exact ⟨A0_5, c0_5, y, rfl, HYL, HY⟩
          · have hd1 : decide ((40 : Int) < (l0_5.length : Int)) = false := decide_eq_false (by omega)
            have hd2 : decide (40 < l0_5.length) = false := decide_eq_false (by omega)
            clear hmax hc
            rw [hd1]
            go_wp2
            go_meet
            case rel => exact ⟨A0_5, c0_5, l0_5, rfl, HK, HS14⟩
        case rest =>
          obtain ⟨Aq, cq, ask, rfl, HK2, HS⟩ := hcut
          clear HK HS14
          clear HFHC
          have hrv := rv_ok HOK.out
          have HRV := Aside0.mk hrv
          have hf32 := HOK.out.2.2.1
          have HF40 := Aside0.mk (show F.length ≤ 40 by omega)
          clear hrv hf32
          obtain ⟨y0, y1, y2⟩ := HS.out.cells
          go_upto_if 112 with (first
            | (go_at_call 26; with_reducible refine (cOwn HF40.out HRV.out.1 HRV.out.2 HS.out.acc).mono ?_; rintro e w15 ⟨B6, d6, B7, d7, B8, d8, rfl, HO15, hb⟩; have HS15 := Aside0.mk (HS.out.below hb); clear hb)
            | ((with_reducible refine gate_dst (N := 110) rfl ?_); (try (refine gate_guard (by rfl) ?_; dsimp only)); refine list_app0 (g := w15.heap.size) (A := Aq) (c := cq) (l := ask) rfl (.tmp 108) (.tmp 109) rfl (by first | (simp [Act.eval, Act.put]; done) | fail "HS") (by first | (simp [Act.eval, Act.put]; done) | fail "HX") (HS15.out.asks.below (below_alloc (Below.refl _ _) _)) HK2.out ?_; intro Ar cr w16 hR16 hb16; have HR16 := Aside0.mk hR16; have HB16 := Aside0.mk (show Below w15.heap.size w15 w16 from below_step (below_alloc (Below.refl _ _) _) hb16); clear hR16 hb16)
            | (go_at_call 30; with_reducible refine (cGrants (HO15.out.below HB16.out) (i : Int) HR16.out (by have := HK2.out; omega)).mono ?_; rintro e w17 ⟨rfl, hb⟩; have HS17 := Aside0.mk ((HS15.out.below HB16.out).below hb); clear hb))
          obtain ⟨r0, r1, r2⟩ := HS17.out.cells
          cases hg : grv F H C (i : Int) ask
          · go_wp2_with (go_at_call 31; with_reducible refine cLives.mono ?_; rintro e w18 ⟨rfl, hb⟩; have HB18 := Aside0.mk (HS17.out.below hb).bel; clear hb)
            go_ret
            exact ⟨rfl, HB18.out⟩
          · obtain ⟨hM, hO⟩ := grv_true hg
            have ev := giv_true hM
            have ok2 : OkA (gF F ask) (gH F H i ask) C := given_ok HOK.out HI.out (fun k hk => by have := hM.2.2.2 k hk; rw [Int.toNat_natCast] at this; exact this)
            have lH2 : (gH F H i ask).length = H.length := by simp [gH]
            have e9 : (oo (gF F ask) (gH F H i ask) C).2 = true := (oo_safe (ok_chk ok2)).2 (hO.trans lH2.symm)
            have E9 := Aside0.mk e9
            have HRV2 := Aside0.mk (rv_ok ok2)
            have HF2 := Aside0.mk (show (gF F ask).length ≤ 40 by have := ok2.2.2.1; omega)
            have EV := Aside0.mk ev
            clear hM hO ev ok2 lH2 e9 hg HS15 HO15 HR16 HB16
            go_upto_region 15 with (go_at_call 34; with_reducible refine (cGiven HOK.out HS17.out.acc (i : Int) HS17.out.asks).mono ?_; rintro e w19 ⟨G0, k0, G1, k1, G2, k2, rfl, HG19, hb⟩; have HS19 := Aside0.mk (HS17.out.below hb); clear hb; rw [EV.out] at HG19; have HG19 : Aside0 (At w19 G0 k0 (gF F ask) G1 k1 (gH F H i ask) G2 k2 C) := HG19; rw [EV.out])
            have HS20 := Aside0.mk (HS19.out.below (below_alloc (Below.refl _ _) (.cells #[.slice G0 (gF F ask).length k0, .slice G1 (gH F H i ask).length k1, .slice G2 C.length k2] 55 (0, 0))))
            have HG20 := Aside0.mk (HG19.out.below (below_alloc (Below.refl _ _) (.cells #[.slice G0 (gF F ask).length k0, .slice G1 (gH F H i ask).length k1, .slice G2 C.length k2] 55 (0, 0))))
            obtain ⟨t0, t1, t2⟩ := claim_Grants.box3 (blk_new w19 (.cells #[.slice G0 (gF F ask).length k0, .slice G1 (gH F H i ask).length k1, .slice G2 C.length k2] 55 (0, 0)))
            clear HS19 HG19 HS17
            go_wp2_with (first
              | (go_at_call 26; with_reducible refine (cOwn HF2.out HRV2.out.1 HRV2.out.2 HG20.out).mono ?_; rintro e w21 ⟨D0, m0, D1, m1, D2, m2, rfl, HO21, hb⟩; have HS21 := Aside0.mk (HS20.out.below hb); clear hb)
              | (go_at_call 28; with_reducible refine (cSafe HO21.out).mono ?_; rintro e w22 ⟨rfl, hb⟩; have HS22 := Aside0.mk (HS21.out.below hb); clear hb; rw [E9.out])
              | (go_at_call 31; with_reducible refine cLives.mono ?_; rintro e w23 ⟨rfl, hb⟩; have HB23 := Aside0.mk (HS22.out.below hb).bel; clear hb))
            go_ret
            exact ⟨rfl, HB23.out⟩
end Go.Proofs.Ytlggjacghemakaa.claimBackW
