/- The page's call of a list. Conditions: the list's row is one of its own, and at most 8192 long. -/
import Derived.Test.YtbnkanlfepdlkaaRing6
namespace Go.Proofs.Ytbnkanlfepdlkaa.Rg
open Go.RowKit Go.Proofs.YtbnkanlfepdlkaaW.PrintWords Go.Proofs.YtbnkanlfepdlkaaW.PrintLast Go.Proofs.YtbnkanlfepdlkaaW.PrintMore Ap
set_option linter.unusedSimpArgs false
set_option linter.unusedVariables false

/-- A list that lies in a row of its own. -/
def Own (W : World) (v : Value) (l : List Int) : Prop := W.ownsRow 0 3 1 v l.length (nums .i64 l)
theorem Own.below {W W' : World} {v : Value} {l : List Int} (h : Own W v l) (hb : Below W.heap.size W W') : Own W' v l := pw_own_below h hb
theorem Own.drewN {W : World} {v : Value} {l : List Int} (h : Own W v l) (k : Nat) : Own (W.drewN k) v l := h
theorem Own.kept {W W' : World} {v : Value} {l : List Int} (h : Own W v l) {S : Nat → Prop} (hc : Chg S W W') (hs : ∀ k, v.ownBlock = some k → ¬ S k) : Own W' v l := by
  refine ⟨h.1, ?_⟩
  rcases h.2 with h2 | ⟨g, cap, cur, rfl, hb, hh, r⟩
  · exact .inl h2
  · exact .inr ⟨g, cap, cur, rfl, hb, (hc.block g (Array.getElem?_eq_some_iff.1 hh).1 (hs g rfl)).trans hh, r⟩
theorem own_zero {W : World} {v : Value} {xs l : List Int} {base : Nat} (h : W.ownsRow base 3 1 v xs.length (nums .i64 xs)) (e : xs = l) : Own W v l := by
  subst e
  exact own_weaken h (Nat.zero_le _)
theorem reads_drew {w : World} {k : IntKind} {A : Option Addr} {n : Nat} {xs : List Int} (h : ReadsInt w k A n xs) : ReadsInt w.drew k A n xs := h
theorem add_z (ad : Addr) : ad.add 0 = ad := by simp [Addr.add]
theorem take_nums (l : List Int) (n : Nat) : (l.take n).length ≤ l.length := by simp; omega

/-- What the page's call hands back. -/
def DoPost (W : World) (v : Value) (l : List Int) (r : List Int × Int × Bool) (e : Ending) (w' : World) : Prop :=
  ∃ v', e = .returned (.tuple #[v', .int .i64 r.2.1, .bool r.2.2]) ∧ Below W.heap.size W w' ∧ Own w' v' r.1 ∧ (v' = v ∨ ∀ k, v'.ownBlock = some k → W.heap.size ≤ k)

section
variable {W : World} {v : Value} {l : List Int}
set_option maxHeartbeats 400000 in
set_option maxRecDepth 100000 in
theorem refdo_any (h : Own W v l) (hl : l.length ≤ 8192) (room kd x : Int) :
    Calls Try.prog 32 #[v, .int .i64 room, .agg #[.int .i64 kd, .int .i64 x]] W (DoPost W v l (refDo l room kd x)) := by
  obtain ⟨A, c, rfl, hR⟩ := own_reads h
  have hR2 := (hR.allocS (.cells #[.int .i64 kd, .int .i64 x] 48)).allocS (.cells #[] 3)
  have hB2 : Below W.heap.size W ((W.alloc (.cells #[.int .i64 kd, .int .i64 x] 48)).alloc (.cells #[] 3)) := below_alloc (below_alloc (Below.refl _ _) _) _
  have hO2 : ((W.alloc (.cells #[.int .i64 kd, .int .i64 x] 48)).alloc (.cells #[] 3)).ownsRow W.heap.size 3 1 (.slice (some ⟨W.heap.size + 1, 0, none⟩) 0 0) ([] : List Int).length (nums .i64 []) := own_new_at _ W.heap.size (W.heap.size + 1) 3 .i64 (by simp) (by omega)
  have hs2 : ((W.alloc (.cells #[.int .i64 kd, .int .i64 x] 48)).alloc (.cells #[] 3)).heap.size = W.heap.size + 2 := by simp
  have hX2 : ((W.alloc (.cells #[.int .i64 kd, .int .i64 x] 48)).alloc (.cells #[] 3)).heap[W.heap.size]? = some (.cells #[.int .i64 kd, .int .i64 x] 48 (0, 0)) := blk_alloc (heap_alloc_new W _) _
  have hOw2 := h.below hB2
  generalize hW2 : (W.alloc (.cells #[.int .i64 kd, .int .i64 x] 48)).alloc (.cells #[] 3) = W2 at hR2 hB2 hO2 hs2 hX2 hOw2
  have y0 : W2.cell? ⟨W.heap.size, 0, none⟩ = some (.int .i64 kd) := (blk_cell hX2 0).trans rfl
  have y1 : W2.cell? ⟨W.heap.size, 1, none⟩ = some (.int .i64 x) := (blk_cell hX2 1).trans rfl
  have hcap : l.length ≤ c := by
    rcases h.2 with ⟨hv, h0⟩ | ⟨g, cap, cur, hv, _, _, hn, _⟩
    · omega
    · injection hv with _ _ h3
      rw [h3]; exact hn
  obtain ⟨i0, i0eq, i0z⟩ := Option.map_eq_some_iff.1 info3
  have i0s : i0.size = 1 := by simpa using congrArg (fun z => z.2.1) i0z
  have e0 : kd ≠ 0 → (kd == 0) = false := fun q => beq_eq_false_iff_ne.2 q
  have e1 : kd ≠ 1 → (kd == 1) = false := fun q => beq_eq_false_iff_ne.2 q
  have e2 : kd ≠ 2 → (kd == 2) = false := fun q => beq_eq_false_iff_ne.2 q
  have e3 : kd ≠ 3 → (kd == 3) = false := fun q => beq_eq_false_iff_ne.2 q
  have same : ∀ k, DoPost W (.slice A l.length c) l (l, 0, false) (.returned (.tuple #[.slice A l.length c, .int .i64 0, .bool false])) (W2.drewN k) := fun k => ⟨_, rfl, pw_below_drewN hB2 k, hOw2, .inl rfl⟩
  by_cases k0 : kd = 0
  · subst k0
    by_cases hc : room ≤ (l.length : Int)
    · have d : decide (room ≤ (l.length : Int)) = true := decide_eq_true hc
      have q : refDo l room 0 x = (l, 0, false) := by simp [refDo, hc]
      rw [q]
      go_enter Try.func32, Try.ntmps32
      go_wp2
      go_ret3
      exact same 0
    · have d : decide (room ≤ (l.length : Int)) = false := decide_eq_false hc
      have q : refDo l room 0 x = (l ++ [x], 0, true) := by simp [refDo, hc]
      rw [q]
      go_enter Try.func32, Try.ntmps32
      go_wp2
      clear hW2
      go_region_law (first
        | (refine step_app rfl (.tmp 22) (.tmp 23) 39 3 rfl W.heap.size .i64 8 Try.underlying39 info3 (by decide) (.slice (some ⟨W.heap.size + 1, 0, none⟩) 0 0) [] l A l.length c rfl rfl (by first | exact own_drewN hO2 _ | exact (own_drewN hO2 _).alloc _) (by first | exact hR2.drewN _ | exact (hR2.drewN _).allocS _) (by simp [hs2]; try omega) (by simp; omega) ?_; intro v1 w1 hown hg hat; have z1 : w1.cell? ⟨W.heap.size, 1, none⟩ = some (.int .i64 x) := (blk_cell ((hg.block _ (by simp [hs2]; try omega) (by simp [Value.ownBlock])).trans (by first | exact hX2 | exact blk_alloc hX2 _)) 1).trans rfl; have hB3 : Below W.heap.size W w1 := Below.grown (by first | exact below_drew1 hB2 | exact below_drew1 (below_alloc hB2 _)) hg (by simp [hs2]; try omega) (by intro k hk; simp [Value.ownBlock] at hk; omega))
        | (refine step_app rfl (.tmp 24) (.tmp 27) 39 3 rfl W.heap.size .i64 8 Try.underlying39 info3 (by decide) v1 ([] ++ l) [x] (some ⟨w1.heap.size, 0, none⟩) 1 1 rfl rfl (by exact hown.alloc _) (by exact ReadsInt.one_at _ _ _ _ _ (by simp)) (by have := hg.size; simp [hs2] at this ⊢; omega) (by simp; omega) ?_; intro v2 w2 hown2 hg2 hat2; have hB4 : Below W.heap.size W w2 := Below.grown (by first | exact hB3 | exact below_alloc hB3 _) hg2 (by have := hB3.size; simp; try omega) (own_base hown))
        | (refine step_app rfl (.tmp 24) (.tmp 27) 39 3 rfl W.heap.size .i64 8 Try.underlying39 info3 (by decide) v1 ([] ++ l) [x] (some ⟨W.heap.size + 2, 0, none⟩) 1 1 rfl rfl (by exact hown) (by exact reads_grown (reads_drew (ReadsInt.one_at W2 .i64 x 3 (W.heap.size + 2) hs2)) hg (by simp [Value.ownBlock])) (by have := hg.size; simp [hs2] at this ⊢; omega) (by simp; omega) ?_; intro v2 w2 hown2 hg2 hat2; have hB4 : Below W.heap.size W w2 := Below.grown (by first | exact hB3 | exact below_alloc hB3 _) hg2 (by have := hB3.size; simp; try omega) (own_base hown)))
      all_goals go_wp2
      all_goals go_ret3
      all_goals exact ⟨v2, rfl, hB4, own_zero hown2 (by simp), .inr (own_base hown2)⟩
  have f0 := e0 k0
  by_cases k1 : kd = 1
  · subst k1
    by_cases hc : room ≤ (l.length : Int)
    · have d : decide (room ≤ (l.length : Int)) = true := decide_eq_true hc
      have q : refDo l room 1 x = (l, 0, false) := by simp [refDo, hc]
      rw [q]
      go_enter Try.func32, Try.ntmps32
      go_wp2
      go_ret3
      exact same 0
    · have d : decide (room ≤ (l.length : Int)) = false := decide_eq_false hc
      have q : refDo l room 1 x = (x :: l, 0, true) := by simp [refDo, hc]
      rw [q]
      go_enter Try.func32, Try.ntmps32
      go_wp2_with (first
        | (at_builtin; refine list_app rfl (.tmp 36) (.tmp 39) 39 3 rfl W.heap.size .i64 8 Try.underlying39 info3 (by decide) (.slice (some ⟨W.heap.size + 1, 0, none⟩) 0 0) [] [x] (some ⟨W.heap.size + 2, 0, none⟩) 1 1 rfl rfl (by exact hO2.alloc _) (by exact ReadsInt.one_at _ _ _ _ _ (by simp [hs2])) (by simp [hs2]; try omega) (by simp) ?_; intro v1 w1 hown hg hat; have hB3 : Below W.heap.size W w1 := Below.grown (by exact below_alloc hB2 _) hg (by simp [hs2]; try omega) (by intro k hk; simp [Value.ownBlock] at hk; omega); have hR3 := hR.below hB3)
        | (at_builtin; refine list_app rfl (.tmp 40) (.tmp 41) 39 3 rfl W.heap.size .i64 8 Try.underlying39 info3 (by decide) v1 ([] ++ [x]) l A l.length c rfl rfl (by exact hown) (by exact hR3) (by have := hB3.size; omega) (by simp; omega) ?_; intro v2 w2 hown2 hg2 hat2; have hB4 : Below W.heap.size W w2 := Below.grown hB3 hg2 (by have := hB3.size; simp; try omega) (own_base hown)))
      all_goals go_ret3
      all_goals exact ⟨v2, rfl, hB4, own_zero hown2 (by simp), .inr (own_base hown2)⟩
  have f1 := e1 k1
  by_cases k2 : kd = 2
  · subst k2
    by_cases hc : l.length = 0
    · have q : refDo l room 2 x = (l, 0, false) := by simp [refDo, hc]
      rw [q]
      have d : ((l.length : Int) == 0) = true := by rw [hc]; rfl
      go_enter Try.func32, Try.ntmps32
      go_wp2
      go_ret3
      exact same 0
    · have q : refDo l room 2 x = (l.take (l.length - 1), l.getD (l.length - 1) 0, true) := by simp [refDo, hc]
      rw [q]
      have d : ((l.length : Int) == 0) = false := beq_eq_false_iff_ne.2 (by omega)
      obtain ⟨hsl, hrd, hlc⟩ := print_take_int (k := .i64) 39 3 Try.underlying39 i0eq i0s A c l ((l.length : Int) - 1) (by omega) (by omega) hcap
      have ht : ((l.length : Int) - 1).toNat = l.length - 1 := by omega
      rw [ht] at hsl hrd hlc
      obtain ⟨ad, rfl, hcell⟩ := hR2.2.2 (by omega)
      have z0 := hcell (l.length - 1) (by omega)
      have p1 : (0 ≤ (l.length : Int) - 1) = True := eq_true (by omega)
      have p2 : ((l.length : Int) - 1 < (l.length : Int)) = True := eq_true (by omega)
      have hw : IntKind.i64.wrap ((l.length : Int) - 1) = (l.length : Int) - 1 := by rw [i64_w]; unfold wrap64; omega
      have p3 : ((l.length : Int) - 1 ≤ (c : Int)) = True := eq_true (by omega)
      have p4 : (1 ≤ (l.length : Int)) = True := eq_true (by omega)
      have hlt : (l.take (l.length - 1)).length = l.length - 1 := by simp
      have hR3 := hrd W2 hR2
      rw [hlt] at hsl hR3 hlc
      go_enter Try.func32, Try.ntmps32
      go_wp2
      clear hW2
      go_region_law (first
        | (refine step_app rfl (.tmp 49) (.tmp 53) 39 3 rfl W.heap.size .i64 8 Try.underlying39 info3 (by decide) (.slice (some ⟨W.heap.size + 1, 0, none⟩) 0 0) [] (l.take (l.length - 1)) (some ad) (l.length - 1) c (by simp [Act.eval, Act.put]) (by simp [Act.eval, Act.put]) (by exact own_drewN hO2 _) (by exact hR3.drewN _) (by simp [hs2]; try omega) (by simp; omega) ?_; intro v1 w1 hown hg hat; have hB3 : Below W.heap.size W w1 := Below.grown (by first | exact below_drew1 hB2 | exact below_drew1 (below_alloc hB2 _)) hg (by simp [hs2]; try omega) (by intro k hk; simp [Value.ownBlock] at hk; omega); obtain ⟨ad3, ea3, hc3⟩ := (hR.below hB3).2.2 (by omega); cases ea3; have z3 := hc3 (l.length - 1) (by omega)))
      all_goals go_wp2
      all_goals go_ret3
      all_goals exact ⟨v1, by simp [Act.put], hB3, own_zero hown (by simp), .inr (own_base hown)⟩
  have f2 := e2 k2
  by_cases k3 : kd = 3
  · subst k3
    by_cases hc : l.length = 0
    · have q : refDo l room 3 x = (l, 0, false) := by simp [refDo, hc]
      rw [q]
      have d : ((l.length : Int) == 0) = true := by rw [hc]; rfl
      go_enter Try.func32, Try.ntmps32
      go_wp2
      go_ret3
      exact same 0
    · have q : refDo l room 3 x = (l.drop 1, l.getD 0 0, true) := by simp [refDo, hc]
      rw [q]
      have d : ((l.length : Int) == 0) = false := beq_eq_false_iff_ne.2 (by omega)
      obtain ⟨A', hsl, hrd, hlc⟩ := print_cut_int (k := .i64) 39 3 Try.underlying39 i0eq i0s A c l 1 (by omega) (by omega) hcap
      rw [show (1 : Int).toNat = 1 from rfl] at hsl hrd hlc
      obtain ⟨ad, rfl, hcell⟩ := hR2.2.2 (by omega)
      have z0 := hcell 0 (by omega)
      have z0' : W2.cell? ad = some (.int .i64 (l.getD 0 0)) := by rw [add_z] at z0; exact z0
      have p1 : (1 ≤ (l.length : Int)) = True := eq_true (by omega)
      have p2 : (0 < (l.length : Int)) = True := eq_true (by omega)
      have p4 : (0 < l.length) = True := eq_true (by omega)
      have p5 : (1 ≤ (c : Int)) = True := eq_true (by omega)
      have hlt : (l.drop 1).length = l.length - 1 := by simp
      have hR3 := hrd W2 hR2
      rw [hlt] at hsl hR3 hlc
      go_enter Try.func32, Try.ntmps32
      go_wp2
      clear hW2
      go_region_law (first
        | (refine step_app rfl (.tmp 65) (.tmp 67) 39 3 rfl W.heap.size .i64 8 Try.underlying39 info3 (by decide) (.slice (some ⟨W.heap.size + 1, 0, none⟩) 0 0) [] (l.drop 1) A' (l.length - 1) (c - 1) (by simp [Act.eval, Act.put]) (by simp [Act.eval, Act.put]) (by exact own_drewN hO2 _) (by exact hR3.drewN _) (by simp [hs2]; try omega) (by simp; omega) ?_; intro v1 w1 hown hg hat; have hB3 : Below W.heap.size W w1 := Below.grown (by first | exact below_drew1 hB2 | exact below_drew1 (below_alloc hB2 _)) hg (by simp [hs2]; try omega) (by intro k hk; simp [Value.ownBlock] at hk; omega); obtain ⟨ad3, ea3, hc3⟩ := (hR.below hB3).2.2 (by omega); cases ea3; have z3 : w1.cell? ad = some (.int .i64 (l.getD 0 0)) := by have z5 := hc3 0 (by omega); rw [add_z] at z5; exact z5))
      all_goals go_wp2
      all_goals go_ret3
      all_goals exact ⟨v1, by simp [Act.put, List.getElem?_eq_getElem (show 0 < l.length by omega)], hB3, own_zero hown (by simp), .inr (own_base hown)⟩
  have f3 := e3 k3
  have q0 : refDo l room kd x = if x < 0 ∨ (l.length : Int) ≤ x then (l, 0, false) else (l, l.getD x.toNat 0, true) := by simp [refDo, k0, k1, k2, k3]
  rw [q0]
  by_cases hx : x < 0
  · rw [if_pos (.inl hx)]
    have d : decide (x < 0) = true := decide_eq_true hx
    go_enter Try.func32, Try.ntmps32
    go_wp2
    all_goals go_ret3
    all_goals exact same 0
  have d0 : decide (x < 0) = false := decide_eq_false hx
  by_cases hy : (l.length : Int) ≤ x
  · rw [if_pos (.inr hy)]
    have d : decide ((l.length : Int) ≤ x) = true := decide_eq_true hy
    go_enter Try.func32, Try.ntmps32
    go_wp2
    all_goals go_ret3
    all_goals exact same 0
  rw [if_neg (by omega)]
  have d : decide ((l.length : Int) ≤ x) = false := decide_eq_false hy
  obtain ⟨ad, rfl, hcell⟩ := hR2.at_ x (by omega) (by omega)
  have p1 : (0 ≤ x) = True := eq_true (by omega)
  have p2 : (x < (l.length : Int)) = True := eq_true (by omega)
  go_enter Try.func32, Try.ntmps32
  go_wp2
  clear hW2
  go_quiet (fail)
  go_wp2
  go_ret3
  exact ⟨_, by simp [rd], pw_below_drewN hB2 _, hOw2, .inl rfl⟩
end
end Go.Proofs.Ytbnkanlfepdlkaa.Rg
