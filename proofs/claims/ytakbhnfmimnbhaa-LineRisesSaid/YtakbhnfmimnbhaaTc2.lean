/- Timers: Clone, walked. Conditions: none. -/
import Derived.Test.YtakbhnfmimnbhaaTc1
namespace Go.Proofs.Ytakbhnfmimnbhaa.Tm
open Go.RowKit Go.Proofs.YtakbhnfmimnbhaaW.PrintWords Go.Proofs.YtakbhnfmimnbhaaW.PrintLast
set_option linter.unusedVariables false
set_option linter.unusedSimpArgs false
variable {sh : Shp}
theorem ownP {W : World} {base g : Nat} (h : W.heap[g]? = some (.cells #[] 145 (0, 0))) (hb : base ≤ g) : pk.R 145 W base (fun _ => True) (.slice (some ⟨g, 0, none⟩) 0 0) [] :=
  ⟨fun _ _ => trivial, [], ⟨rfl, .inr ⟨g, 0, #[], rfl, hb, h, Nat.le_refl _, by decide, rfl, rfl⟩⟩, Reps.none _ _⟩
theorem cell_below {W w2 : World} {a : Addr} {v : Value} (hb : Below W.heap.size W w2) (h : W.cell? a = some v) : w2.cell? a = some v := by
  have := hb.block a.block (World.block_lt_of_cell? _ _ h)
  simpa [World.cell?, this] using h
section
variable {W : World} {base g n : Nat} {xs : List (Int × Int)} {p : Int → Option Int} {S : Nat → Prop}
set_option maxHeartbeats 4000000 in
set_option maxRecDepth 100000 in
theorem clone_any (h : TT sh W base g n xs p S) (hl : xs.length ≤ 1000) :
    Calls Try.prog 73 #[.pointer (some ⟨g, sh.o, none⟩)] W fun e w' => ∃ g2, e = .returned (.pointer (some ⟨g2, 0, none⟩)) ∧ Aside0 (∃ S2, TT sh0 w' W.heap.size g2 n xs p S2) ∧ Below W.heap.size W w' := by
  have hu28 := Try.underlying42
  have hu77 := Try.underlying145
  obtain ⟨A, c, ob, c0, c1, hC, D42⟩ : ∃ (A : Option Addr) (c : Nat) (ob : Option Nat), W.cell? ⟨g, sh.o, none⟩ = some (.slice A xs.length c) ∧ W.cell? ⟨g, sh.o + 1, none⟩ = some (.map ob) ∧ Aside0 (pk.C W A xs.length xs) ∧
      Aside0 (∀ w2 : World, Below W.heap.size W w2 → Calls Try.prog 94 #[.map ob] w2 fun e w3 => ∃ ob2, e = .returned (.map ob2) ∧ Aside0 (Below w2.heap.size w2 w3) ∧ Aside0 ((ob2 = none ∧ xs = [] ∧ p = fun _ => none) ∨ ∃ b2, ob2 = some b2 ∧ w2.heap.size ≤ b2 ∧ ∃ D : DU, w3.ownsMap Try.prog 3 (plainElem Try.prog 3) b2 n D ∧ Vw D p)) := by
    rcases h with ⟨v, h, rfl, rfl, _⟩ | ⟨gh, m, c, b, h, _⟩
    · obtain ⟨Av, cv, rfl⟩ := Kd.R_slice h.hr
      exact ⟨Av, cv, none, (blk_cell h.hg sh.o).trans (sh.get0 _ _), (blk_cell h.hg (sh.o + 1)).trans (sh.get1 _ _), ⟨(Kd.R_reads' h.hr).2.2⟩, ⟨fun w2 hb => (clone_nil w2).mono fun e w3 ⟨he, hw⟩ => ⟨none, he, ⟨by rw [hw]; exact Below.refl _ _⟩, ⟨.inl ⟨rfl, rfl, rfl⟩⟩⟩⟩⟩
    · have hm := h.len
      subst hm
      obtain ⟨D, ⟨es, cl, e1, F, hs, hD⟩, hV⟩ := h.hm
      refine ⟨_, c, some b, h.c0, h.c1, ⟨(Kd.R_reads' h.hr).2.2⟩, ⟨fun w2 hb => (clone_map (es := es) (cl := cl) ((hb.block b h.b_lt).trans e1)).mono fun e w3 ⟨he, hw⟩ => ⟨some w2.heap.size, he, ⟨by rw [hw]; exact below_alloc (Below.refl _ _) _⟩, ⟨.inr ⟨_, rfl, Nat.le_refl _, D, ⟨es, cl, by rw [hw]; exact blk_new w2 _, F, hs, hD⟩, hV⟩⟩⟩⟩⟩
  have BK := Aside0.mk (show ∀ w2 : World, Below W.heap.size W w2 → w2.cell? ⟨g, sh.o, none⟩ = some (.slice A xs.length c) ∧ w2.cell? ⟨g, sh.o + 1, none⟩ = some (.map ob) from fun w2 hb => ⟨cell_below hb c0, cell_below hb c1⟩)
  have HL := Aside0.mk hl
  clear h hl
  go_enter Try.func73, Try.ntmps73
  go_upto_region 3 with (fail)
  refine start_ (n := 14) (S := fun w' => w'.cell? ⟨g, sh.o, none⟩ = some (.slice A xs.length c) ∧ w'.cell? ⟨g, sh.o + 1, none⟩ = some (.map ob)) (ds := []) #[false, false, false, false, false, false, false, false, false, false, false, false, false, false] (by kernel_rfl) rfl rfl ⟨c0, c1⟩ (fun hHeld => ?_)
  refine pure_ (i := 1) (N := some 6) (v := ?_) (a' := ?_) #[false, true, false, false, false, false, false, false, false, false, false, false, false, false] rfl rfl (by kernel_rfl) (fun _ _ _ h => h) (Or.inl ⟨by rfl, ?_⟩) ?_ ?_
  rotate_left
  · intro w'
    go_simp
    with_reducible rfl
  rotate_left
  · simp only [Act.put, List.setIfInBounds_toArray, List.set_cons_zero, List.set_cons_succ, i64_w, i32_w]
    rfl
  refine pure_ (i := 2) (N := some 7) (v := ?_) (a' := ?_) #[false, true, true, false, false, false, false, false, false, false, false, false, false, false] rfl rfl (by kernel_rfl) (fun _ _ _ h => h) (Or.inl ⟨by rfl, ?_⟩) ?_ ?_
  rotate_left
  · intro w'
    go_simp
    with_reducible rfl
  rotate_left
  · simp only [Act.put, List.setIfInBounds_toArray, List.set_cons_zero, List.set_cons_succ, i64_w, i32_w]
    rfl
  refine pure_ (i := 3) (N := some 8) (v := ?_) (a' := ?_) #[false, true, true, true, false, false, false, false, false, false, false, false, false, false] rfl rfl (by kernel_rfl) (fun _ _ _ h => h) (Or.inl ⟨by rfl, ?_⟩) ?_ ?_
  rotate_left
  · intro w'
    go_simp
    with_reducible rfl
  rotate_left
  · simp only [Act.put, List.setIfInBounds_toArray, List.set_cons_zero, List.set_cons_succ, i64_w, i32_w]
    rfl
  refine pure_ (i := 6) (N := some 11) (v := ?_) (a' := ?_) #[false, true, true, true, false, false, true, false, false, false, false, false, false, false] rfl rfl (by kernel_rfl) (fun _ _ _ h => h) (Or.inl ⟨by rfl, ?_⟩) ?_ ?_
  rotate_left
  · intro w'
    go_simp
    with_reducible rfl
  rotate_left
  · simp only [Act.put, List.setIfInBounds_toArray, List.set_cons_zero, List.set_cons_succ, i64_w, i32_w]
    rfl
  refine pure_ (i := 7) (N := some 12) (v := ?_) (a' := ?_) #[false, true, true, true, false, false, true, true, false, false, false, false, false, false] rfl rfl (by kernel_rfl) (fun _ _ _ h => h) (Or.inl ⟨by rfl, ?_⟩) ?_ ?_
  rotate_left
  · intro w'
    go_simp
    with_reducible rfl
  rotate_left
  · simp only [Act.put, List.setIfInBounds_toArray, List.set_cons_zero, List.set_cons_succ, i64_w, i32_w]
    rfl
  refine pure_ (i := 8) (N := some 13) (v := ?_) (a' := ?_) #[false, true, true, true, false, false, true, true, true, false, false, false, false, false] rfl rfl (by kernel_rfl) (fun _ _ _ h => h) (Or.inl ⟨by rfl, ?_⟩) ?_ ?_
  rotate_left
  · intro w'
    go_simp
    with_reducible rfl
  rotate_left
  · simp only [Act.put, List.setIfInBounds_toArray, List.set_cons_zero, List.set_cons_succ, i64_w, i32_w]
    rfl
  refine take_ (i := 4) (N := some 9) (v := ?_) (a' := ?_) #[false, true, true, true, true, false, true, true, true, false, false, false, false, false] rfl rfl (by kernel_rfl) (fun _ _ _ h => h) (Or.inl ⟨by rfl, ?_⟩) hHeld ?_ ?_
  rotate_left
  · rintro w' ⟨s0, s1⟩
    go_simp
    with_reducible rfl
  rotate_left
  · simp only [Act.put, List.setIfInBounds_toArray, List.set_cons_zero, List.set_cons_succ, i64_w, i32_w]
    rfl
  refine take_ (i := 9) (N := some 14) (v := ?_) (a' := ?_) #[false, true, true, true, true, false, true, true, true, true, false, false, false, false] rfl rfl (by kernel_rfl) (fun _ _ _ h => h) (Or.inl ⟨by rfl, ?_⟩) hHeld ?_ ?_
  rotate_left
  · rintro w' ⟨s0, s1⟩
    go_simp
    with_reducible rfl
  rotate_left
  · simp only [Act.put, List.setIfInBounds_toArray, List.set_cons_zero, List.set_cons_succ, i64_w, i32_w]
    rfl
  refine one_ (i := 0) (N := some 5) #[true, true, true, true, true, false, true, true, true, true, false, false, false, false] rfl rfl (by kernel_rfl) (by decide) (fun K hK => ?_)
  refine value_ (w1 := ?_) (v := ?_) (by rfl) rfl ?_ ?_
  rotate_left 2
  · go_simp
    constructor
    · rfl
    · rfl
  have B1 := Aside0.mk (below_drew (below_alloc (Below.refl W.heap.size W) (.cells #[] 145 (0, 0))))
  have P1 := Aside0.mk (ownP (base := W.heap.size) (blk_drew (blk_new W (.cells #[] 145 (0, 0)))) (Nat.le_refl _))
  generalize (W.alloc (.cells #[] 145 (0, 0))).drew = w1 at *
  refine hK.out _ _ ⟨(BK.out _ B1.out).1, (BK.out _ B1.out).2⟩ (fun hHeld => ?_)
  clear hK K
  refine norm_ (a' := ?_) ?_ ?_
  rotate_left
  · show Act.put _ (some 5) _ = _
    simp only [Act.put, List.setIfInBounds_toArray, List.set_cons_zero, List.set_cons_succ, i64_w, i32_w]
    rfl
  refine one_ (i := 5) (N := some 10) #[true, true, true, true, true, true, true, true, true, true, false, false, false, false] rfl rfl (by kernel_rfl) (by decide) (fun K hK => ?_)
  refine Kd.R_append_rows_step pk (w0 := w1) W.heap.size (by rfl) (.tmp 5) (.tmp 9) 39 145 (.agg #[.int .i64 0, .int .i64 0]) 16 rfl Try.underlying39 info77 rfl (by decide) (by decide) (.slice (some ⟨W.heap.size, 0, none⟩) 0 0) [] xs A _ c (fun _ => True) (fun _ => False) rfl rfl P1.out (Kd.C_below hC.out B1.out) (fun _ _ h => h) (fun _ h => h.elim) (fun _ _ => trivial) (Below.refl _ _) B1.out.size (by have := HL.out; simp; omega) ?_
  intro v2 w2 hr2 hb2 hg2 hat2
  obtain ⟨A2, c2, rfl⟩ := Kd.R_slice hr2
  have P2 := Aside0.mk hr2
  have AT2 := Aside0.mk hat2
  have B2 := Aside0.mk (show Below W.heap.size W w2 from Below.grown B1.out hg2 B1.out.size (fun k hk => by have := Kd.R_base P1.out k hk; omega))
  clear hr2 hb2 hg2 hat2
  refine hK.out _ _ ⟨(BK.out _ B2.out).1, (BK.out _ B2.out).2⟩ (fun hHeld => ?_)
  clear hK K
  refine norm_ (a' := ?_) ?_ ?_
  rotate_left
  · show Act.put _ (some 10) _ = _
    simp only [Act.put, List.setIfInBounds_toArray, List.set_cons_zero, List.set_cons_succ, i64_w, i32_w]
    rfl
  refine one_ (i := 10) (N := some 15) #[true, true, true, true, true, true, true, true, true, true, true, false, false, false] rfl rfl (by kernel_rfl) (by decide) (fun K hK => ?_)
  refine goes_ Try.func94 (by kernel_rfl) rfl #[.map ob] (by rfl) rfl rfl (by simp only [List.map_toArray, List.map_cons, List.map_nil]; rfl) ?_
  with_reducible refine (D42.out w2 B2.out).mono ?_
  rintro e w3 ⟨ob2, rfl, hb3, hq3⟩
  refine ⟨_, rfl, ?_⟩
  have B3 := Aside0.mk (below_step B2.out hb3.out)
  refine hK.out _ _ ⟨(BK.out _ B3.out).1, (BK.out _ B3.out).2⟩ (fun hHeld => ?_)
  clear hK K
  refine norm_ (a' := ?_) ?_ ?_
  rotate_left
  · show Act.put _ (some 15) _ = _
    simp only [Act.put, List.setIfInBounds_toArray, List.set_cons_zero, List.set_cons_succ, i64_w, i32_w]
    rfl
  refine pure_ (i := 11) (N := some 16) (v := ?_) (a' := ?_) #[true, true, true, true, true, true, true, true, true, true, true, true, false, false] rfl rfl (by kernel_rfl) (fun _ _ _ h => h) (Or.inl ⟨by rfl, ?_⟩) ?_ ?_
  rotate_left
  · intro w'
    go_simp
    with_reducible rfl
  rotate_left
  · simp only [Act.put, List.setIfInBounds_toArray, List.set_cons_zero, List.set_cons_succ, i64_w, i32_w]
    rfl
  refine one_ (i := 12) (N := some 17) #[true, true, true, true, true, true, true, true, true, true, true, true, true, false] rfl rfl (by kernel_rfl) (by decide) (fun K hK => ?_)
  refine value_ (w1 := ?_) (v := ?_) (by rfl) rfl ?_ ?_
  rotate_left 2
  · go_simp
    constructor
    · rfl
    · rfl
  have B4 := Aside0.mk (below_alloc B3.out (.cells #[.slice A2 ([] ++ xs).length c2, .map ob2] 42 (0, 0)))
  refine hK.out _ _ ⟨(BK.out _ B4.out).1, (BK.out _ B4.out).2⟩ (fun hHeld => ?_)
  clear hK K
  refine norm_ (a' := ?_) ?_ ?_
  rotate_left
  · show Act.put _ (some 17) _ = _
    simp only [Act.put, List.setIfInBounds_toArray, List.set_cons_zero, List.set_cons_succ, i64_w, i32_w]
    rfl
  refine pure_ (i := 13) (N := some 2) (v := ?_) (a' := ?_) #[true, true, true, true, true, true, true, true, true, true, true, true, true, true] rfl rfl (by kernel_rfl) (fun _ _ _ h => h) (Or.inl ⟨by rfl, ?_⟩) ?_ ?_
  rotate_left
  · intro w'
    go_simp
    with_reducible rfl
  rotate_left
  · simp only [Act.put, List.setIfInBounds_toArray, List.set_cons_zero, List.set_cons_succ, i64_w, i32_w]
    rfl
  refine done_ (by kernel_rfl) ?_
  go_wp2
  go_ret
  have P2' : pk.R 145 w2 W.heap.size (fun _ => True) (.slice A2 xs.length c2) xs := P2.out
  have P4 := Kd.R_below (Kd.R_tight rfl P2') (below_alloc hb3.out (.cells (sh0.C (.slice A2 xs.length c2) (.map ob2)) sh0.ty (0, 0)))
  have hg4 := blk_new w3 (.cells (sh0.C (.slice A2 xs.length c2) (.map ob2)) sh0.ty (0, 0))
  have hW := B3.out.size
  refine ⟨w3.heap.size, rfl, ⟨?_⟩, B4.out⟩
  rcases hq3.out with ⟨rfl, rfl, rfl⟩ | ⟨b2, rfl, hb2, D, hD, hV⟩
  · exact ⟨_, .inl ⟨_, ⟨hg4, P4, hW⟩, rfl, rfl, rfl⟩⟩
  · obtain ⟨ad, rfl⟩ : ∃ ad, A2 = some ad := by
      cases A2 with
      | some ad => exact ⟨ad, rfl⟩
      | none =>
        rcases AT2.out with e | ⟨_, e, _⟩
        · simp [Value.ownBlock] at e
        · simp [Value.ownBlock] at e
    obtain ⟨g4, rfl⟩ := Kd.R_head P2'
    exact ⟨_, .inr ⟨g4, _, c2, b2, ⟨hg4, P4, ⟨D, hD.alloc _, hV⟩, hW, Nat.le_trans B2.out.size hb2⟩, rfl⟩⟩
end
theorem clone_r {W : World} {base g n : Nat} {m : List (Int × Int)} {S : Nat → Prop} (h : TR sh W base g n m S) (hm : m.length ≤ 200) :
    Calls Try.prog 73 #[.pointer (some ⟨g, sh.o, none⟩)] W fun e w' => ∃ g2, e = .returned (.pointer (some ⟨g2, 0, none⟩)) ∧ Aside0 (∃ S2, TR sh0 w' W.heap.size g2 n m S2) ∧ Below W.heap.size W w' := by
  obtain ⟨xs, p, h1, h2, h3⟩ := h
  have hl := h2.len
  exact (clone_any h1 (by omega)).mono fun e w' ⟨g2, he, ⟨⟨S2, t⟩⟩, hb⟩ => ⟨g2, he, ⟨⟨S2, _, _, t, h2, h3⟩⟩, hb⟩
end Go.Proofs.Ytakbhnfmimnbhaa.Tm
