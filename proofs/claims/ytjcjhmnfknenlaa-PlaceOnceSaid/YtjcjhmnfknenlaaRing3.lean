/- More calls of a row with two ends: what makes one, and what reads it whole. Conditions: the row lies in memory of its own. -/
import Derived.Test.YtjcjhmnfknenlaaRing2
import Derived.Test.YtjcjhmnfknenlaaAp
import Derived.Test.YtjcjhmnfknenlaaWMore
import Derived.Test.YtjcjhmnfknenlaaWLast
namespace Go.Proofs.Ytjcjhmnfknenlaa.Rg
open Go.RowKit Go.Proofs.YtjcjhmnfknenlaaW.PrintWords Go.Proofs.YtjcjhmnfknenlaaW.PrintLast Go.Proofs.YtjcjhmnfknenlaaW.PrintMore Ap
attribute [local go_sem] max2_int min2_int max_two min_two max_three min_three max_four min_four
theorem info3 : (Try.prog.info? 3).map (fun i => (i.zero, i.size, i.bytes)) = some (some (.int .i64 0), 1, 8) := by kernel_rfl

section
variable {W : World} {g b cap p n c : Nat} {xs : List Int} {ex : List Value}

theorem At.reads (h : At W g b c ex cap p n xs) : ReadsInt W .i64 (some ⟨b, 0, none⟩) cap xs :=
  ⟨h.len, by have := h.room; omega, fun _ => ⟨_, rfl, fun j hj => by rw [add_plain]; simpa using h.cb hj⟩⟩

theorem made_at (W : World) (c : Nat) (hc : c ≤ 4096) : At ((W.alloc (.cells (madeCells #[.int .i64 0] c) 3)).alloc (.cells #[.slice (some ⟨W.heap.size, 0, none⟩) c c, .int .i64 0, .int .i64 0] 80)) (W.heap.size + 1) W.heap.size c [] c 0 0 (List.replicate c 0) := by
  have e : madeCells #[Value.int .i64 0] c = ((List.replicate c (0 : Int)).map (Value.int .i64) ++ []).toArray := by
    apply Array.ext'
    apply List.ext_getElem
    · simp [madeCells]
    · intro i h1 h2
      simp [madeCells, Nat.mod_one]
  refine ⟨?_, ?_, by simp, hc, by omega, by omega, Nat.le_refl _⟩
  · have := heap_alloc_new (W.alloc (.cells (madeCells #[.int .i64 0] c) 3)) (.cells #[.slice (some ⟨W.heap.size, 0, none⟩) c c, .int .i64 0, .int .i64 0] 80)
    simpa using this
  · rw [← e]
    exact blk_alloc (heap_alloc_new W _) _

set_option maxRecDepth 100000 in
theorem new_any (W : World) (room : Int) (c : Nat) (hc : (c : Int) = min (max room 0) 4096) :
    Calls Try.prog 26 #[.int .i64 room] W fun e w' => ∃ g b, e = .returned (.pointer (some ⟨g, 0, none⟩)) ∧ Below W.heap.size W w' ∧ At w' g b c [] c 0 0 (List.replicate c 0) ∧ W.heap.size ≤ g ∧ W.heap.size ≤ b := by
  have h1 : c ≤ 4096 := by omega
  have hm := print_make 38 3 .i64 8 Try.underlying38 info3 (by decide) c (by omega)
  have fin : ∃ g b, (Ending.returned (.pointer (some ⟨W.heap.size + 1, 0, none⟩))) = .returned (.pointer (some ⟨g, 0, none⟩)) ∧ Below W.heap.size W ((W.alloc (.cells (madeCells #[.int .i64 0] c) 3)).alloc (.cells #[.slice (some ⟨W.heap.size, 0, none⟩) c c, .int .i64 0, .int .i64 0] 80)) ∧ At ((W.alloc (.cells (madeCells #[.int .i64 0] c) 3)).alloc (.cells #[.slice (some ⟨W.heap.size, 0, none⟩) c c, .int .i64 0, .int .i64 0] 80)) g b c [] c 0 0 (List.replicate c 0) ∧ W.heap.size ≤ g ∧ W.heap.size ≤ b :=
    ⟨_, _, rfl, below_alloc (below_alloc (Below.refl _ _) _) _, made_at W c h1, by simp, by simp⟩
  by_cases r0 : room < 0
  · have e : (c : Int) = 0 := by omega
    rw [e] at hm
    have r1 : (room < 0) = True := eq_true r0
    go_enter Try.func26, Try.ntmps26
    go_wp2
    go_ret
    exact fin
  · have r1 : (room < 0) = False := eq_false r0
    rcases Int.lt_trichotomy room 4096 with r2 | r2 | r2
    · have e : (c : Int) = room := by omega
      rw [e] at hm
      have r3 : (room < 4096) = True := eq_true r2
      have r4 : (4096 < room) = False := eq_false (by omega)
      go_enter Try.func26, Try.ntmps26
      go_wp2
      go_ret
      first | exact fin | (obtain ⟨g, b, f1, f2, f3⟩ := fin; exact ⟨g, f1, f2, b, f3⟩)
    · have e : (c : Int) = 4096 := by omega
      rw [e] at hm
      subst r2
      go_enter Try.func26, Try.ntmps26
      go_wp2
      go_ret
      first | exact fin | (obtain ⟨g, b, f1, f2, f3⟩ := fin; exact ⟨g, f1, f2, b, f3⟩)
    · have e : (c : Int) = 4096 := by omega
      rw [e] at hm
      have r3 : (room < 4096) = False := eq_false (by omega)
      have r4 : (4096 < room) = True := eq_true r2
      go_enter Try.func26, Try.ntmps26
      go_wp2
      go_ret
      first | exact fin | (obtain ⟨g, b, f1, f2, f3⟩ := fin; exact ⟨g, f1, f2, b, f3⟩)

theorem clone_any (h : At W g b c ex cap p n xs) :
    Calls Try.prog 42 #[.pointer (some ⟨g, 0, none⟩)] W fun e w' => ∃ g' b' c' ex', e = .returned (.pointer (some ⟨g', 0, none⟩)) ∧ Below W.heap.size W w' ∧ At w' g' b' c' ex' cap p n xs ∧ W.heap.size ≤ g' ∧ W.heap.size ≤ b' := by
  have c0 := h.c0
  have c1 := h.c1
  have c2 := h.c2
  have hf := blk_frozen h.hg
  have hl := blk_lt h.hg
  have hr := (h.reads.allocS (.cells #[.slice (some ⟨b, 0, none⟩) cap c, .int .i64 (p : Int), .int .i64 (n : Int)] 80)).allocS (.cells #[] 3)
  have hrm := h.room
  generalize hW1 : (W.alloc (.cells #[.slice (some ⟨b, 0, none⟩) cap c, .int .i64 (p : Int), .int .i64 (n : Int)] 80)).alloc (.cells #[] 3) = W1 at hr
  have hB1 : Below W.heap.size W W1 := by rw [← hW1]; exact below_alloc (below_alloc (Below.refl _ _) _) _
  have hs1 : W1.heap.size = W.heap.size + 2 := by rw [← hW1]; simp
  have hO1 : W1.ownsRow W.heap.size 3 1 (.slice (some ⟨W.heap.size + 1, 0, none⟩) 0 0) ([] : List Int).length (nums .i64 []) := by rw [← hW1]; exact own_new_at _ W.heap.size (W.heap.size + 1) 3 .i64 (by simp) (by omega)
  have hG1 : W1.heap[W.heap.size]? = some (.cells #[.slice (some ⟨b, 0, none⟩) cap c, .int .i64 (p : Int), .int .i64 (n : Int)] 80) := by rw [← hW1]; exact blk_alloc (heap_alloc_new W _) _
  have k0 := (h.kept (Chg.of_below hB1 (S := fun _ => False)) id id).c0
  go_enter Try.func42, Try.ntmps42
  go_wp2_with (at_builtin; refine list_app rfl (.tmp 9) (.tmp 13) 38 3 rfl W.heap.size .i64 8 Try.underlying38 info3 (by decide) (.slice (some ⟨W.heap.size + 1, 0, none⟩) 0 0) [] xs (some ⟨b, 0, none⟩) cap c rfl rfl hO1 hr (by omega) (by simp; omega) ?_; intro v1 w1 hown hg hat; obtain ⟨A1, c1, rfl⟩ := own_slice hown; have hG2 := (hg.block _ (blk_lt hG1) (by simp [Value.ownBlock])).trans hG1; have q0 := blk_cell hG2 0; have f0 := blk_frozen hG2 0)
  go_ret
  have hn0 : ([] ++ xs).length = cap := h.len
  have hne : ∃ j, (Value.slice A1 xs.length c1).ownBlock = some j ∧ W.heap.size + 1 ≤ j := by
    rcases hat with q | q
    · exact ⟨_, q, Nat.le_refl _⟩
    · exact ⟨_, q, by omega⟩
  obtain ⟨j, hj, hjl⟩ := hne
  obtain ⟨rfl, hbj, hcj, ex', hbk⟩ := own_block hown hj
  rw [show xs.length = cap from h.len]
  refine ⟨_, j, c1, ex', rfl, ?_, ⟨?_, ?_, h.len, h.room, h.n_le, h.p_lt, ?_⟩, Nat.le_refl _, by omega⟩
  · exact below_set ((hB1.grown hg (by omega) (fun k hk => by have : k = W.heap.size + 1 := by simpa [Value.ownBlock] using hk.symm
                                                              omega))) (Nat.le_refl _)
  · exact blk_put hG2 0 _ rfl
  · exact blk_far hbk (by show j ≠ W.heap.size; omega) _
  · have := h.len
    simp at hcj
    omega
end
end Go.Proofs.Ytjcjhmnfknenlaa.Rg
