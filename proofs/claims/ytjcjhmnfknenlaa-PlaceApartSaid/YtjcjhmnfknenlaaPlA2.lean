/- Places: Clone. Conditions: none. -/
import Derived.Test.YtjcjhmnfknenlaaPl9
import Derived.Lib.SliceRun
namespace Go.Proofs.Ytjcjhmnfknenlaa.Pl
open Go.RowKit Go.Proofs.YtjcjhmnfknenlaaW.PrintWords Go.Proofs.YtjcjhmnfknenlaaW.PrintLast Go.Proofs.YtjcjhmnfknenlaaW.PrintMore
open Rg (Chg Row row_back row_popback row_popfront row_all row_new row_clone two refDo)
set_option linter.unusedVariables false
set_option linter.unusedSimpArgs false

theorem list_run {P : Program} {ops : Array Oper} {o : Oper} {a : Act} {Q : Exit → Act → World → Prop} {W w1 : World} {rest : List Oper} (hgd : o.guard = none) (s x : Operand) (t e : TypeId) (ho : o.op = .call { callee := .builtin .append, args := #[s, x], argTypes := #[t, t] }) (v y v1 : Value) (hs : a.eval s = v) (hx : a.eval x = y)
    (hr : (Builtin.append_ #[t, t] o.type #[v, y]).run P W = .ok v1 w1) (h : wpList P ops Q rest (a.put o.dst v1) w1) : wpList P ops Q (o :: rest) a W := by
  refine wpList_plain hgd fun K hK => ?_
  unfold Oper.wp execOp
  simp only [ho, resolve, invoke, builtin, Sem.run_bind, Sem.run_pure, Result.andThen_ok, List.map_toArray, List.map_cons, List.map_nil, hs, hx, hr]
  exact hK _ _ h
section
variable {S : Nat → Prop} {W : World} {gp bl cl : Nat} {A : Pa} {ex : List Value} {r : Nat → Rk} {q : Rk}
theorem wcells_len : (wcells A r).length = A.n * 3 := by simp [wcells]
theorem wcells_one : ∀ u ∈ wcells A r, u.oneCell' = true := by
  intro u hu
  unfold wcells at hu
  obtain ⟨k, _, rfl⟩ := List.mem_map.1 hu
  unfold wcell
  split
  · rfl
  · split <;> rfl
theorem wclone (h : At S W gp A bl cl ex r q) : Calls Try.prog 41 #[.slice (some ⟨bl, 0, none⟩) A.n cl] W fun e w' => ∃ v, e = .returned v ∧ w'.ownsRow W.heap.size 59 3 v A.n (wcells A r) ∧ Below W.heap.size W w' := by
  have hu54 := Try.underlying54
  have hi := info59
  obtain ⟨i0, hi, hzz⟩ := Option.map_eq_some_iff.1 hi
  simp only [Prod.mk.injEq] at hzz
  obtain ⟨hz0, hz1, hz2⟩ := hzz
  have hn := h.n_le
  obtain ⟨v1, w1, hr, hown, hg, _, hat⟩ := run_append_own_at (P := Try.prog) (w := W.alloc (.cells #[] 59)) W.heap.size 54 54 59 i0 (.agg #[.int .i64 0, .int .i64 0, .pointer none]) 3 24 Try.underlying54 hi hz0 hz1 hz2 rfl (by decide)
    (.slice (some ⟨W.heap.size, 0, none⟩) 0 0) 0 [] ⟨rfl, .inr ⟨W.heap.size, 0, #[], rfl, Nat.le_refl _, blk_new W _, Nat.le_refl _, by decide, rfl, rfl⟩⟩ ⟨bl, 0, none⟩ A.n cl (wcells A r) wcells_len (fun j u hu => by
      rw [add_plain]
      refine (blk_cell (blk_alloc h.hl _) j).trans ?_
      rw [List.getElem?_toArray, List.getElem?_append_left (List.getElem?_eq_some_iff.1 hu).1]
      exact hu) wcells_one (by simp only [maxLen]; omega) (by omega) (Nat.le_succ_of_le (Nat.le_refl _) |> fun z => by show W.heap.size ≤ (W.heap.push _).size; rw [Array.size_push]; exact z)
  have HO := Aside0.mk hown
  have HB := Aside0.mk (show Below W.heap.size W w1 from (below_alloc (Below.refl _ _) _).grown hg (by show W.heap.size ≤ (W.heap.push _).size; rw [Array.size_push]; omega) (fun k hk => by
    have : W.heap.size = k := by simpa [Value.ownBlock] using hk
    omega))
  clear hown hg hat hi hz0 hz1 hz2 hn h
  have hq := Lib.run_eql_slice_nil (P := Try.prog) W 54 59 (some ⟨bl, 0, none⟩) A.n cl 0 0 Try.underlying54
  go_enter Try.func41, Try.ntmps41
  go_wp2_with (at_builtin; refine list_run rfl (.tmp 5) (.tmp 6) 54 59 rfl _ _ v1 rfl rfl hr ?_)
  go_ret
  exact ⟨v1, rfl, by simpa using HO.out, HB.out⟩
theorem info57n : (Try.prog.info? 57).map (·.size) = some 66 := by kernel_rfl
theorem pc_info (bl cl : Nat) (q : Rk) : (Try.prog.info? 57).map (·.size) = some (pcells A bl cl q).toArray.size := by
  have h : (pcells A bl cl q).toArray.size = 66 := by simp [pcells]
  rw [h]
  exact info57n
theorem pc_one (bl cl : Nat) (q : Rk) : (pcells A bl cl q).toArray.all (·.oneCell') = true := by
  rw [List.all_toArray]
  simp only [pcells, List.all_cons, List.all_map, Bool.and_eq_true, List.all_eq_true]
  exact ⟨rfl, rfl, fun _ _ => rfl⟩
def zcells : List Value := .slice none 0 0 :: .pointer none :: (List.range 64).map fun _ => .int .u8 0
def mix (r r' : Nat → Rk) (j : Nat) : Nat → Rk := fun i => if i < j then r' i else r i
end
/-- A clone on its way. -/
structure Cl (W w' : World) (A : Pa) (gc gl cl' : Nat) (ex' : List Value) (r r' : Nat → Rk) (q' : Rk) (j : Nat) : Prop where
  hb : Below W.heap.size W w'
  hg : w'.heap[gc]? = some (.cells (pcells A gl cl' q').toArray 57 (0, 0))
  hl : w'.heap[gl]? = some (.cells (wcells A (mix r r' j) ++ ex').toArray 59 (0, 0))
  own : ∀ i, i < j → Row w' (r' i).g (r' i).b (r' i).c (r' i).ex 16 (A.own i)
  glob : Row w' q'.g q'.b q'.c q'.ex 64 A.gl
  ge : W.heap.size ≤ gc ∧ W.heap.size ≤ gl ∧ W.heap.size ≤ q'.g ∧ W.heap.size ≤ q'.b ∧ ∀ i, i < j → W.heap.size ≤ (r' i).g ∧ W.heap.size ≤ (r' i).b
  sep : ∀ i k, i < j → k < j → i ≠ k → (r' i).g ≠ (r' k).g ∧ (r' i).b ≠ (r' k).b
  sepq : ∀ i, i < j → (r' i).g ≠ q'.g ∧ (r' i).b ≠ q'.b
  cl_le : A.n ≤ cl'
section
variable {S : Nat → Prop} {W w' w2 : World} {gp bl cl gc gl cl' j : Nat} {A : Pa} {ex ex' : List Value} {r r' : Nat → Rk} {q q' : Rk}
theorem Cl.below (h : Cl W w' A gc gl cl' ex' r r' q' j) (hb : Below w'.heap.size w' w2) : Cl W w2 A gc gl cl' ex' r r' q' j :=
  ⟨below_step h.hb hb, blk_below h.hg hb, blk_below h.hl hb, fun i hi => (h.own i hi).below hb, h.glob.below hb, h.ge, h.sep, h.sepq, h.cl_le⟩
theorem Cl.c0 (h : Cl W w' A gc gl cl' ex' r r' q' j) : w'.cell? ⟨gc, 0, none⟩ = some (.slice (some ⟨gl, 0, none⟩) A.n cl') := (blk_cell h.hg 0).trans rfl
theorem Cl.cell2 (h : Cl W w' A gc gl cl' ex' r r' q' j) (hj : j < A.n) : w'.cell? ⟨gl, j * 3 + 2, none⟩ = some (.pointer (some ⟨(r j).g, 0, none⟩)) := by
  refine (blk_cell h.hl (j * 3 + 2)).trans ((wcells_get (j := 2) hj (by decide)).trans ?_)
  unfold wcell mix
  rw [if_neg (by omega), if_neg (by omega), show (j * 3 + 2) / 3 = j by omega, if_neg (by omega)]
theorem Cl.step (h : Cl W w' A gc gl cl' ex' r r' q' j) (hj : j < A.n) {g b c s : Nat} {e : List Value} (hr : Row w' g b c e 16 (A.own j)) (hs : W.heap.size ≤ s) (hg : s ≤ g ∧ s ≤ b) (hlt : ∀ i, i < j → (r' i).g < s ∧ (r' i).b < s) (hlq : q'.g < s ∧ q'.b < s) :
    Cl W (w'.setCell ⟨gl, j * 3 + 2, none⟩ (.pointer (some ⟨g, 0, none⟩))) A gc gl cl' ex' r (up r' j ⟨g, b, c, e⟩) q' (j + 1) := by
  have hrow : ∀ {g' b' c' cap : Nat} {ex : List Value} {l : List Int}, Row w' g' b' c' ex cap l → Row (w'.setCell ⟨gl, j * 3 + 2, none⟩ (.pointer (some ⟨g, 0, none⟩))) g' b' c' ex cap l := by
    intro g' b' c' cap ex l hr
    obtain ⟨x, hx⟩ := (row_tags hr).1
    obtain ⟨y, hy⟩ := (row_tags hr).2
    refine hr.kept (S := fun k => k = gl) ((Chg.refl (fun k => k = gl) w').set_ (Or.inl rfl) _) (fun e => ?_) (fun e => ?_)
    · exact tag_ne hx h.hl (by decide) e
    · exact tag_ne hy h.hl (by decide) e
  refine ⟨below_set h.hb h.ge.2.1, blk_far h.hg (fun e => tag_ne h.hg h.hl (by decide) e) _, blk_put h.hl _ _ ?_, fun i hi => ?_, hrow h.glob, ⟨h.ge.1, h.ge.2.1, h.ge.2.2.1, h.ge.2.2.2.1, fun i hi => ?_⟩, fun i k hi hk hne => ?_, fun i hi => ?_, h.cl_le⟩
  · have hw := wset A A (mix r r' j) (mix r (up r' j ⟨g, b, c, e⟩) (j + 1)) ex' (i := j) (j := 2) rfl hj (by decide) (fun k hk => by
      unfold wcell
      by_cases e0 : k % 3 = 0
      · rw [if_pos e0, if_pos e0]
      · rw [if_neg e0, if_neg e0]
        by_cases e1 : k % 3 = 1
        · rw [if_pos e1, if_pos e1]
        · rw [if_neg e1, if_neg e1]
          have e2 : k / 3 ≠ j := by omega
          have e3 : mix r (up r' j ⟨g, b, c, e⟩) (j + 1) (k / 3) = mix r r' j (k / 3) := by
            unfold mix
            by_cases e4 : k / 3 < j
            · rw [if_pos (by omega), if_pos e4, up_ne _ _ e2]
            · rw [if_neg (by omega), if_neg e4]
          rw [e3])
    have hv : wcell A (mix r (up r' j ⟨g, b, c, e⟩) (j + 1)) (j * 3 + 2) = .pointer (some ⟨g, 0, none⟩) := by
      unfold wcell mix
      rw [if_neg (by omega), if_neg (by omega), show (j * 3 + 2) / 3 = j by omega, if_pos (by omega), up_same]
    rw [hv] at hw
    exact hw
  · by_cases e0 : i = j
    · subst e0; rw [up_same]; exact hrow hr
    · rw [up_ne _ _ e0]; exact hrow (h.own i (by omega))
  · by_cases e0 : i = j
    · subst e0; rw [up_same]; exact ⟨by show _ ≤ g; omega, by show _ ≤ b; omega⟩
    · rw [up_ne _ _ e0]; exact h.ge.2.2.2.2 i (by omega)
  · by_cases e0 : i = j
    · subst e0
      rw [up_same, up_ne _ _ (fun z => hne z.symm)]
      have := hlt k (by omega)
      exact ⟨by show g ≠ _; omega, by show b ≠ _; omega⟩
    · rw [up_ne _ _ e0]
      by_cases e2 : k = j
      · subst e2
        rw [up_same]
        have := hlt i (by omega)
        exact ⟨by show _ ≠ g; omega, by show _ ≠ b; omega⟩
      · rw [up_ne _ _ e2]
        exact h.sep i k (by omega) (by omega) hne
  · by_cases e0 : i = j
    · subst e0
      rw [up_same]
      exact ⟨by show g ≠ _; omega, by show b ≠ _; omega⟩
    · rw [up_ne _ _ e0]
      exact h.sepq i (by omega)
theorem Cl.done (h : Cl W w' A gc gl cl' ex' r r' q' A.n) (h0 : 0 < A.n) (h8 : A.n ≤ 8) : At (fun k => W.heap.size ≤ k) w' gc A gl cl' ex' r' q' := by
  refine ⟨h.hg, ?_, h.own, h.glob, h.ge, h.sep, h.sepq, h0, h8, h.cl_le⟩
  have e : wcells A (mix r r' A.n) = wcells A r' := by
    unfold wcells
    refine List.map_congr_left fun k hk => ?_
    have hk := List.mem_range.1 hk
    unfold wcell mix
    rw [if_pos (show k / 3 < A.n by omega)]
  rw [← e]
  exact h.hl
theorem Cl.lt (h : Cl W w' A gc gl cl' ex' r r' q' j) : (∀ i, i < j → (r' i).g < w'.heap.size ∧ (r' i).b < w'.heap.size) ∧ q'.g < w'.heap.size ∧ q'.b < w'.heap.size := ⟨fun i hi => (h.own i hi).lt', h.glob.lt'⟩
set_option maxHeartbeats 8000000 in
set_option maxRecDepth 100000 in
theorem pclone_any (h : At S W gp A bl cl ex r q) : Calls Try.prog 21 #[.pointer (some ⟨gp, 0, none⟩)] W fun e w' => ∃ gc gl cl' ex' r' q', e = .returned (.pointer (some ⟨gc, 0, none⟩)) ∧ At (fun k => W.heap.size ≤ k) w' gc A gl cl' ex' r' q' ∧ Below W.heap.size W w' := by
  have hu57 := Try.underlying57
  have hu54 := Try.underlying54
  have hu59 := Try.underlying59
  have HA := Aside0.mk h
  have HN := Aside0.mk (show 0 < A.n ∧ A.n ≤ 8 from ⟨h.n_pos, h.n_le⟩)
  clear h
  go_enter Try.func21, Try.ntmps21
  go_upto_region 4 with (first
    | (refine wpList_load_row rfl 57 (.tmp 8) rfl gp rfl 57 _ (0, 0) _ HA.out.hg Try.underlying57 rfl (pc_info bl cl q) ?_)
    | ((with_reducible refine gate_dst (N := 3) rfl ?_); refine box_event ?hg (N := 3) ?hd (cs := zcells.toArray) (t := 57) ?hr ?_; (case hd => rfl); (case hg => rfl); (case hr => first | (go_simp; done) | (go_simp; rfl)); intro gc hg w3 hbox hb; have B3 := Aside0.mk hb; have G3 := Aside0.mk hg; have X3 := Aside0.mk hbox; clear hbox hb hg)
    | (refine wpList_store_row rfl 57 (.tmp 3) (.tmp 9) rfl gc _ rfl rfl 57 _ X3.out (pc_info bl cl q) (by simp [zcells, pcells]) (pc_one bl cl q) ?_))
  have GC := Aside0.mk (show W.heap.size ≤ gc from by rw [G3.out]; exact Nat.le_refl _)
  have BD := Aside0.mk (show Below W.heap.size W (w3.setRow gc (pcells A bl cl q).toArray).drew from below_drew (B3.out.trans ⟨rfl, rfl, rfl, by simp [World.setRow], fun k hk => setRow_other w3 gc k _ (by have := GC.out; omega)⟩))
  have XD := Aside0.mk (show (w3.setRow gc (pcells A bl cl q).toArray).drew.heap[gc]? = some (.cells (pcells A bl cl q).toArray 57 (0, 0)) from setRow_heap _ _ _ _ _ _ X3.out)
  have HDS := Aside0.mk (show W.heap.size ≤ (w3.setRow gc (pcells A bl cl q).toArray).drew.heap.size from BD.out.size)
  clear B3 X3 G3
  generalize w3.setRow gc (pcells A bl cl q).toArray = w3' at *
  refine start_ (n := 14) (S := fun w' => w'.cell? ⟨gp, 0, none⟩ = some (.slice (some ⟨bl, 0, none⟩) A.n cl) ∧ w'.cell? ⟨gp, 1, none⟩ = some (.pointer (some ⟨q.g, 0, none⟩))) (ds := [11, 13]) #[false, false, false, false, false, false, false, false, false, false, false, false, false, false] (by kernel_rfl) rfl rfl ⟨(HA.out.below BD.out).c0, (HA.out.below BD.out).c1⟩ (fun hHeld => ?_)
  refine pure_ (i := 0) (N := some 10) (v := ?_) (a' := ?_) #[true, false, false, false, false, false, false, false, false, false, false, false, false, false] rfl rfl (by kernel_rfl) (fun _ _ _ h => h) (Or.inl ⟨by rfl, ?_⟩) ?_ ?_
  rotate_left
  · intro w'
    go_simp
    with_reducible rfl
  rotate_left
  · simp only [Act.put, List.setIfInBounds_toArray, List.set_cons_zero, List.set_cons_succ, i64_w, i32_w]
    rfl
  refine pure_ (i := 1) (N := some 11) (v := ?_) (a' := ?_) #[true, true, false, false, false, false, false, false, false, false, false, false, false, false] rfl rfl (by kernel_rfl) (fun _ _ _ h => h) (Or.inl ⟨by rfl, ?_⟩) ?_ ?_
  rotate_left
  · intro w'
    go_simp
    with_reducible rfl
  rotate_left
  · simp only [Act.put, List.setIfInBounds_toArray, List.set_cons_zero, List.set_cons_succ, i64_w, i32_w]
    rfl
  refine pure_ (i := 2) (N := some 12) (v := ?_) (a' := ?_) #[true, true, true, false, false, false, false, false, false, false, false, false, false, false] rfl rfl (by kernel_rfl) (fun _ _ _ h => h) (Or.inl ⟨by rfl, ?_⟩) ?_ ?_
  rotate_left
  · intro w'
    go_simp
    with_reducible rfl
  rotate_left
  · simp only [Act.put, List.setIfInBounds_toArray, List.set_cons_zero, List.set_cons_succ, i64_w, i32_w]
    rfl
  refine pure_ (i := 5) (N := some 15) (v := ?_) (a' := ?_) #[true, true, true, false, false, true, false, false, false, false, false, false, false, false] rfl rfl (by kernel_rfl) (fun _ _ _ h => h) (Or.inl ⟨by rfl, ?_⟩) ?_ ?_
  rotate_left
  · intro w'
    go_simp
    with_reducible rfl
  rotate_left
  · simp only [Act.put, List.setIfInBounds_toArray, List.set_cons_zero, List.set_cons_succ, i64_w, i32_w]
    rfl
  refine pure_ (i := 6) (N := some 16) (v := ?_) (a' := ?_) #[true, true, true, false, false, true, true, false, false, false, false, false, false, false] rfl rfl (by kernel_rfl) (fun _ _ _ h => h) (Or.inl ⟨by rfl, ?_⟩) ?_ ?_
  rotate_left
  · intro w'
    go_simp
    with_reducible rfl
  rotate_left
  · simp only [Act.put, List.setIfInBounds_toArray, List.set_cons_zero, List.set_cons_succ, i64_w, i32_w]
    rfl
  refine pure_ (i := 7) (N := some 17) (v := ?_) (a' := ?_) #[true, true, true, false, false, true, true, true, false, false, false, false, false, false] rfl rfl (by kernel_rfl) (fun _ _ _ h => h) (Or.inl ⟨by rfl, ?_⟩) ?_ ?_
  rotate_left
  · intro w'
    go_simp
    with_reducible rfl
  rotate_left
  · simp only [Act.put, List.setIfInBounds_toArray, List.set_cons_zero, List.set_cons_succ, i64_w, i32_w]
    rfl
  refine take_ (i := 3) (N := some 13) (v := ?_) (a' := ?_) #[true, true, true, true, false, true, true, true, false, false, false, false, false, false] rfl rfl (by kernel_rfl) (fun _ _ _ h => h) (Or.inl ⟨by rfl, ?_⟩) hHeld ?_ ?_
  rotate_left
  · rintro w' ⟨s0, s1⟩
    go_simp
    with_reducible rfl
  rotate_left
  · simp only [Act.put, List.setIfInBounds_toArray, List.set_cons_zero, List.set_cons_succ, i64_w, i32_w]
    rfl
  refine take_ (i := 8) (N := some 18) (v := ?_) (a' := ?_) #[true, true, true, true, false, true, true, true, true, false, false, false, false, false] rfl rfl (by kernel_rfl) (fun _ _ _ h => h) (Or.inl ⟨by rfl, ?_⟩) hHeld ?_ ?_
  rotate_left
  · rintro w' ⟨s0, s1⟩
    go_simp
    with_reducible rfl
  rotate_left
  · simp only [Act.put, List.setIfInBounds_toArray, List.set_cons_zero, List.set_cons_succ, i64_w, i32_w]
    rfl
  refine one_ (i := 4) (N := some 14) #[true, true, true, true, true, true, true, true, true, false, false, false, false, false] rfl rfl (by kernel_rfl) (by decide) (fun K hK => ?_)
  refine goes_ Try.func41 (by kernel_rfl) rfl #[.slice (some ⟨bl, 0, none⟩) A.n cl] (by rfl) rfl rfl (by simp only [List.map_toArray, List.map_cons, List.map_nil]; rfl) ?_
  with_reducible refine (wclone (HA.out.below BD.out)).mono ?_
  rintro e w4 ⟨v4, rfl, ho, hb⟩
  refine ⟨_, rfl, ?_⟩
  obtain ⟨A4, c4, rfl⟩ := own_slice ho
  have HO4 := Aside0.mk ho
  have B4 := Aside0.mk (below_step BD.out hb)
  have X4 := Aside0.mk (blk_below XD.out hb)
  clear ho hb
  refine hK.out _ _ ⟨(HA.out.below B4.out).c0, (HA.out.below B4.out).c1⟩ (fun hHeld => ?_)
  clear hK K
  refine norm_ (a' := ?_) ?_ ?_
  rotate_left
  · show Act.put _ (some 14) _ = _
    simp only [Act.put, List.setIfInBounds_toArray, List.set_cons_zero, List.set_cons_succ, i64_w, i32_w]
    rfl
  refine one_ (i := 9) (N := some 19) #[true, true, true, true, true, true, true, true, true, true, false, false, false, false] rfl rfl (by kernel_rfl) (by decide) (fun K hK => ?_)
  refine goes_ Try.func42 (by kernel_rfl) rfl #[.pointer (some ⟨q.g, 0, none⟩)] (by rfl) rfl rfl (by simp only [List.map_toArray, List.map_cons, List.map_nil]; rfl) ?_
  with_reducible refine (row_clone (HA.out.below B4.out).glob).mono ?_
  rintro e w5 ⟨g5, b5, c5, e5, rfl, hb, hr, h1, h2⟩
  refine ⟨_, rfl, ?_⟩
  have B5 := Aside0.mk (below_step B4.out hb)
  have X5 := Aside0.mk (blk_below X4.out hb)
  have HO5 := Aside0.mk (pw_own_below HO4.out hb)
  have HR5 := Aside0.mk hr
  have G5 := Aside0.mk (show W.heap.size ≤ g5 ∧ W.heap.size ≤ b5 from by have := B4.out.size; omega)
  clear hb hr h1 h2
  refine hK.out _ _ ⟨(HA.out.below B5.out).c0, (HA.out.below B5.out).c1⟩ (fun hHeld => ?_)
  clear hK K
  refine norm_ (a' := ?_) ?_ ?_
  rotate_left
  · show Act.put _ (some 19) _ = _
    simp only [Act.put, List.setIfInBounds_toArray, List.set_cons_zero, List.set_cons_succ, i64_w, i32_w]
    rfl
  refine pure_ (i := 10) (N := some 20) (v := ?_) (a' := ?_) #[true, true, true, true, true, true, true, true, true, true, true, false, false, false] rfl rfl (by kernel_rfl) (fun _ _ _ h => h) (Or.inl ⟨by rfl, ?_⟩) ?_ ?_
  rotate_left
  · intro w'
    go_simp
    with_reducible rfl
  rotate_left
  · simp only [Act.put, List.setIfInBounds_toArray, List.set_cons_zero, List.set_cons_succ, i64_w, i32_w]
    rfl
  refine last_ (i := 11) (N := none) #[true, true, true, true, true, true, true, true, true, true, true, true, false, false] rfl rfl (by kernel_rfl) (by decide) (fun K hK => ?_)
  have fz := blk_frozen X5.out 0
  have cz : w5.cell? ⟨gc, 0, none⟩ = some (.slice (some ⟨bl, 0, none⟩) A.n cl) := (blk_cell X5.out 0).trans rfl
  refine skip_ (w1 := ?_) (by rfl) rfl ?_ ?_
  rotate_left
  · go_simp
    rfl
  clear fz cz
  have fz := blk_frozen (blk_put X5.out 0 (.slice A4 A.n c4) rfl) 1
  have cz : (w5.setCell ⟨gc, 0, none⟩ (.slice A4 A.n c4)).cell? ⟨gc, 1, none⟩ = some (.pointer (some ⟨q.g, 0, none⟩)) := (blk_cell (blk_put X5.out 0 (.slice A4 A.n c4) rfl) 1).trans rfl
  refine hK.out _ _ ?_
  clear hK K
  refine pure_ (i := 12) (N := some 21) (v := ?_) (a' := ?_) #[true, true, true, true, true, true, true, true, true, true, true, true, true, false] rfl rfl (by kernel_rfl) (fun _ _ _ h => h) (Or.inl ⟨by rfl, ?_⟩) ?_ ?_
  rotate_left
  · intro w'
    go_simp
    with_reducible rfl
  rotate_left
  · simp only [Act.put, List.setIfInBounds_toArray, List.set_cons_zero, List.set_cons_succ, i64_w, i32_w]
    rfl
  refine last_ (i := 13) (N := none) #[true, true, true, true, true, true, true, true, true, true, true, true, true, true] rfl rfl (by kernel_rfl) (by decide) (fun K hK => ?_)
  refine skip_ (w1 := ?_) (by rfl) rfl ?_ ?_
  rotate_left
  · go_simp
    rfl
  refine hK.out _ _ ?_
  clear hK K
  refine done_ (by kernel_rfl) ?_
  have HC0 := Aside0.mk (show ∃ gl, A4 = some ⟨gl, 0, none⟩ ∧ ∃ ex', Cl W ((w5.setCell ⟨gc, 0, none⟩ (.slice A4 A.n c4)).setCell ⟨gc, 1, none⟩ (.pointer (some ⟨g5, 0, none⟩))) A gc gl c4 ex' r r ⟨g5, b5, c5, e5⟩ 0 from by
    have ho := HO5.out
    have hx1 := blk_put X5.out 0 (.slice A4 A.n c4) rfl
    have hx2 := blk_put hx1 1 (.pointer (some ⟨g5, 0, none⟩)) rfl
    have hb := below_set (below_set B5.out GC.out (j := 0) (v := .slice A4 A.n c4)) GC.out (j := 1) (v := .pointer (some ⟨g5, 0, none⟩))
    have ho1 := own_setCell ho (p := ⟨gc, 0, none⟩) (own_ne ho X5.out (by decide)) (.slice A4 A.n c4)
    have ho2 := own_setCell ho1 (p := ⟨gc, 1, none⟩) (own_ne ho1 hx1 (by decide)) (.pointer (some ⟨g5, 0, none⟩))
    have hrr : Row ((w5.setCell ⟨gc, 0, none⟩ (.slice A4 A.n c4)).setCell ⟨gc, 1, none⟩ (.pointer (some ⟨g5, 0, none⟩))) g5 b5 c5 e5 64 A.gl := by
      obtain ⟨x, hx⟩ := (row_tags HR5.out).1
      obtain ⟨y, hy⟩ := (row_tags HR5.out).2
      exact HR5.out.kept (S := fun k => k = gc) (((Chg.refl (fun k => k = gc) w5).set_ (Or.inl rfl) _).set_ (Or.inl rfl) _) (fun e => tag_ne hx X5.out (by decide) e) (fun e => tag_ne hy X5.out (by decide) e)
    rcases ho2.2 with ⟨_, hn⟩ | ⟨g, cap, cur, he, hbb, hh, hn, _, hs, ht⟩
    · have := HN.out; omega
    · injection he with e1 e2 e3
      refine ⟨g, e1, cur.toList.drop (A.n * 3), hb, ?_, ?_, fun i hi => by omega, hrr, ⟨GC.out, Nat.le_trans HDS.out hbb, G5.out.1, G5.out.2, fun i hi => by omega⟩, fun i k hi => by omega, fun i hi => by omega, by rw [e3]; exact hn⟩
      · rw [e1] at hx2 ⊢
        exact hx2
      · have e : wcells A (mix r r 0) = wcells A r := by
          have : mix r r 0 = r := by funext k; unfold mix; split <;> rfl
          rw [this]
        rw [e, ← ht, List.take_append_drop]
        exact hh)
  obtain ⟨gl, hA4, ex', hcl⟩ := HC0.out
  subst hA4
  have HC := Aside0.mk hcl
  clear hcl HC0 HO4 B4 X4 B5 X5 HO5 HR5 G5 BD XD fz cz
  try clear hHeld
  generalize (w5.setCell ⟨gc, 0, none⟩ (.slice (some ⟨gl, 0, none⟩) A.n c4)).setCell ⟨gc, 1, none⟩ (.pointer (some ⟨g5, 0, none⟩)) = w6 at *
  obtain ⟨q', hq'⟩ : ∃ q' : Rk, q' = ⟨g5, b5, c5, e5⟩ := ⟨_, rfl⟩
  rw [← hq'] at HC
  clear hq'
  have y0 := HC.out.c0
  go_upto_block 0 with (fail)
  clear y0
  go_wp2
  go_loopg [25] A.n (fun kq v25 w' => ∃ (j : Nat) (r' : Nat → Rk), v25 = .int .i64 (j : Int) ∧ Aside0 (j + kq = A.n) ∧ Aside0 (Cl W w' A gc gl c4 ex' r r' q' j))
  case atStart => exact ⟨0, r, rfl, ⟨by omega⟩, HC⟩
  case round =>
    clear HC
    obtain ⟨j, r', rfl, HJK, HC⟩ := hrel
    rcases gk with _ | k1
    · have HE := Aside0.mk (show j = A.n from by have := HJK.out; omega)
      have e1 : decide ((j : Int) < (A.n : Int)) = false := decide_eq_false (by have := HE.out; omega)
      have e2 : decide (j < A.n) = false := decide_eq_false (by have := HE.out; omega)
      go_wp2
      go_ret
      exact ⟨gc, gl, c4, ex', r', q', rfl, (show Cl W wr A gc gl c4 ex' r r' q' A.n from HE.out ▸ HC.out).done HN.out.1 HN.out.2, HC.out.hb⟩
    · have HJN := Aside0.mk (show j < A.n from by have := HJK.out; omega)
      have e1 : decide ((j : Int) < (A.n : Int)) = true := decide_eq_true (by have := HJN.out; omega)
      have e2 : decide (j < A.n) = true := decide_eq_true HJN.out
      have p4 : (0 ≤ (j : Int)) = True := eq_true (by omega)
      have p5 : ((j : Int) < (A.n : Int)) = True := eq_true (by have := HJN.out; omega)
      have p6 : (j < A.n) = True := eq_true HJN.out
      have ew : Aside0 (wrap64 ((j : Int) + 1) = (j : Int) + 1) := ⟨by have h2 := HJN.out; have h3 := HN.out.2; unfold wrap64; omega⟩
      go_upto_region 8 with (fail)
      have HCD := Aside0.mk (show Cl W wr.drew A gc gl c4 ex' r r' q' j from HC.out.below (below_drew (Below.refl _ _)))
      obtain ⟨HSZ, hsz⟩ : ∃ s, s = wr.drew.heap.size := ⟨_, rfl⟩
      have HZ := Aside0.mk hsz
      clear hsz
      refine start_ (n := 15) (S := fun w' => w'.cell? ⟨gc, 0, none⟩ = some (.slice (some ⟨gl, 0, none⟩) A.n c4) ∧ w'.cell? ⟨gp, 0, none⟩ = some (.slice (some ⟨bl, 0, none⟩) A.n cl) ∧ w'.cell? ⟨bl, j * 3 + 2, none⟩ = some (.pointer (some ⟨(r j).g, 0, none⟩))) (ds := [14]) #[false, false, false, false, false, false, false, false, false, false, false, false, false, false, false] (by kernel_rfl) rfl rfl ⟨HCD.out.c0, (HA.out.below HCD.out.hb).c0, (HA.out.below HCD.out.hb).w2 HJN.out⟩ (fun hHeld => ?_)
      refine pure_ (i := 0) (N := some 28) (v := ?_) (a' := ?_) #[true, false, false, false, false, false, false, false, false, false, false, false, false, false, false] rfl rfl (by kernel_rfl) (fun _ _ _ h => h) (Or.inl ⟨by rfl, ?_⟩) ?_ ?_
      rotate_left
      · intro w'
        go_simp
        with_reducible rfl
      rotate_left
      · simp only [Act.put, List.setIfInBounds_toArray, List.set_cons_zero, List.set_cons_succ, i64_w, i32_w]
        rfl
      refine pure_ (i := 2) (N := some 30) (v := ?_) (a' := ?_) #[true, false, true, false, false, false, false, false, false, false, false, false, false, false, false] rfl rfl (by kernel_rfl) (fun _ _ _ h => h) (Or.inl ⟨by rfl, ?_⟩) ?_ ?_
      rotate_left
      · intro w'
        go_simp
        with_reducible rfl
      rotate_left
      · simp only [Act.put, List.setIfInBounds_toArray, List.set_cons_zero, List.set_cons_succ, i64_w, i32_w]
        rfl
      refine pure_ (i := 3) (N := some 31) (v := ?_) (a' := ?_) #[true, false, true, true, false, false, false, false, false, false, false, false, false, false, false] rfl rfl (by kernel_rfl) (fun _ _ _ h => h) (Or.inl ⟨by rfl, ?_⟩) ?_ ?_
      rotate_left
      · intro w'
        go_simp
        with_reducible rfl
      rotate_left
      · simp only [Act.put, List.setIfInBounds_toArray, List.set_cons_zero, List.set_cons_succ, i64_w, i32_w]
        rfl
      refine pure_ (i := 4) (N := some 32) (v := ?_) (a' := ?_) #[true, false, true, true, true, false, false, false, false, false, false, false, false, false, false] rfl rfl (by kernel_rfl) (fun _ _ _ h => h) (Or.inl ⟨by rfl, ?_⟩) ?_ ?_
      rotate_left
      · intro w'
        go_simp
        with_reducible rfl
      rotate_left
      · simp only [Act.put, List.setIfInBounds_toArray, List.set_cons_zero, List.set_cons_succ, i64_w, i32_w]
        rfl
      refine pure_ (i := 5) (N := some 33) (v := ?_) (a' := ?_) #[true, false, true, true, true, true, false, false, false, false, false, false, false, false, false] rfl rfl (by kernel_rfl) (fun _ _ _ h => h) (Or.inl ⟨by rfl, ?_⟩) ?_ ?_
      rotate_left
      · intro w'
        go_simp
        with_reducible rfl
      rotate_left
      · simp only [Act.put, List.setIfInBounds_toArray, List.set_cons_zero, List.set_cons_succ, i64_w, i32_w]
        rfl
      refine pure_ (i := 7) (N := some 35) (v := ?_) (a' := ?_) #[true, false, true, true, true, true, false, true, false, false, false, false, false, false, false] rfl rfl (by kernel_rfl) (fun _ _ _ h => h) (Or.inl ⟨by rfl, ?_⟩) ?_ ?_
      rotate_left
      · intro w'
        go_simp
        with_reducible rfl
      rotate_left
      · simp only [Act.put, List.setIfInBounds_toArray, List.set_cons_zero, List.set_cons_succ, i64_w, i32_w]
        rfl
      refine take_ (i := 1) (N := some 29) (v := ?_) (a' := ?_) #[true, true, true, true, true, true, false, true, false, false, false, false, false, false, false] rfl rfl (by kernel_rfl) (fun _ _ _ h => h) (Or.inl ⟨by rfl, ?_⟩) hHeld ?_ ?_
      rotate_left
      · rintro w' ⟨s0, s1, s2⟩
        go_simp
        with_reducible rfl
      rotate_left
      · simp only [Act.put, List.setIfInBounds_toArray, List.set_cons_zero, List.set_cons_succ, i64_w, i32_w]
        rfl
      refine take_ (i := 6) (N := some 34) (v := ?_) (a' := ?_) #[true, true, true, true, true, true, true, true, false, false, false, false, false, false, false] rfl rfl (by kernel_rfl) (fun _ _ _ h => h) (Or.inl ⟨by rfl, ?_⟩) hHeld ?_ ?_
      rotate_left
      · rintro w' ⟨s0, s1, s2⟩
        go_simp
        with_reducible rfl
      rotate_left
      · simp only [Act.put, List.setIfInBounds_toArray, List.set_cons_zero, List.set_cons_succ, i64_w, i32_w]
        rfl
      refine pure_ (i := 8) (N := some 36) (v := ?_) (a' := ?_) #[true, true, true, true, true, true, true, true, true, false, false, false, false, false, false] rfl rfl (by kernel_rfl) (fun _ _ _ h => h) (Or.inl ⟨by rfl, ?_⟩) ?_ ?_
      rotate_left
      · intro w'
        go_simp
        with_reducible rfl
      rotate_left
      · simp only [Act.put, List.setIfInBounds_toArray, List.set_cons_zero, List.set_cons_succ, i64_w, i32_w]
        rfl
      refine pure_ (i := 9) (N := some 37) (v := ?_) (a' := ?_) #[true, true, true, true, true, true, true, true, true, true, false, false, false, false, false] rfl rfl (by kernel_rfl) (fun _ _ _ h => h) (Or.inl ⟨by rfl, ?_⟩) ?_ ?_
      rotate_left
      · intro w'
        go_simp
        with_reducible rfl
      rotate_left
      · simp only [Act.put, List.setIfInBounds_toArray, List.set_cons_zero, List.set_cons_succ, i64_w, i32_w]
        rfl
      refine take_ (i := 10) (N := some 38) (v := ?_) (a' := ?_) #[true, true, true, true, true, true, true, true, true, true, true, false, false, false, false] rfl rfl (by kernel_rfl) (fun _ _ _ h => h) (Or.inl ⟨by rfl, ?_⟩) hHeld ?_ ?_
      rotate_left
      · rintro w' ⟨s0, s1, s2⟩
        go_simp
        with_reducible rfl
      rotate_left
      · simp only [Act.put, List.setIfInBounds_toArray, List.set_cons_zero, List.set_cons_succ, i64_w, i32_w]
        rfl
      refine one_ (i := 11) (N := some 39) #[true, true, true, true, true, true, true, true, true, true, true, true, false, false, false] rfl rfl (by kernel_rfl) (by decide) (fun K hK => ?_)
      refine goes_ Try.func42 (by kernel_rfl) rfl #[.pointer (some ⟨(r j).g, 0, none⟩)] (by rfl) rfl rfl (by simp only [List.map_toArray, List.map_cons, List.map_nil]; rfl) ?_
      with_reducible refine (row_clone ((HA.out.below HCD.out.hb).own j HJN.out)).mono ?_
      rintro e w5 ⟨g5, b5, c5, e5, rfl, hb, hr, h1, h2⟩
      refine ⟨_, rfl, ?_⟩
      have HC5 := Aside0.mk (HCD.out.below hb)
      have HR5 := Aside0.mk hr
      have G5 := Aside0.mk (show HSZ ≤ g5 ∧ HSZ ≤ b5 from by rw [HZ.out]; exact ⟨h1, h2⟩)
      clear hb hr h1 h2
      refine hK.out _ _ ⟨HC5.out.c0, (HA.out.below HC5.out.hb).c0, (HA.out.below HC5.out.hb).w2 HJN.out⟩ (fun hHeld => ?_)
      clear hK K
      refine norm_ (a' := ?_) ?_ ?_
      rotate_left
      · show Act.put _ (some 39) _ = _
        simp only [Act.put, List.setIfInBounds_toArray, List.set_cons_zero, List.set_cons_succ, i64_w, i32_w]
        rfl
      refine pure_ (i := 12) (N := some 40) (v := ?_) (a' := ?_) #[true, true, true, true, true, true, true, true, true, true, true, true, true, false, false] rfl rfl (by kernel_rfl) (fun _ _ _ h => h) (Or.inl ⟨by rfl, ?_⟩) ?_ ?_
      rotate_left
      · intro w'
        go_simp
        with_reducible rfl
      rotate_left
      · simp only [Act.put, List.setIfInBounds_toArray, List.set_cons_zero, List.set_cons_succ, i64_w, i32_w]
        rfl
      refine pure_ (i := 13) (N := some 41) (v := ?_) (a' := ?_) #[true, true, true, true, true, true, true, true, true, true, true, true, true, true, false] rfl rfl (by kernel_rfl) (fun _ _ _ h => h) (Or.inl ⟨by rfl, ?_⟩) ?_ ?_
      rotate_left
      · intro w'
        go_simp
        with_reducible rfl
      rotate_left
      · simp only [Act.put, List.setIfInBounds_toArray, List.set_cons_zero, List.set_cons_succ, i64_w, i32_w]
        rfl
      refine last_ (i := 14) (N := none) #[true, true, true, true, true, true, true, true, true, true, true, true, true, true, true] rfl rfl (by kernel_rfl) (by decide) (fun K hK => ?_)
      have fz := blk_frozen HC5.out.hl (j * 3 + 2)
      have cz := HC5.out.cell2 HJN.out
      refine skip_ (w1 := ?_) (by rfl) rfl ?_ ?_
      rotate_left
      · go_simp
        rfl
      refine hK.out _ _ ?_
      clear hK K
      refine done_ (by kernel_rfl) ?_
      have HC6 := Aside0.mk (HC5.out.step HJN.out HR5.out (s := HSZ) (by rw [HZ.out]; exact HCD.out.hb.size) G5.out (by rw [HZ.out]; exact HCD.out.lt.1) (by rw [HZ.out]; exact HCD.out.lt.2))
      go_wp2
      go_roundg k1
      case measure => omega
      case rel => exact ⟨j + 1, _, by rw [ew.out]; simp, ⟨by have := HJK.out; omega⟩, HC6⟩
end
end Go.Proofs.Ytjcjhmnfknenlaa.Pl
namespace Go.Proofs.Ytjcjhmnfknenlaa.Pl
open Go.RowKit Go.Proofs.YtjcjhmnfknenlaaW.PrintWords Go.Proofs.YtjcjhmnfknenlaaW.PrintLast
set_option linter.unusedVariables false
set_option linter.unusedSimpArgs false

theorem nil_on (w : World) : Calls Try.prog 11 #[.pointer none, .int .i64 0] w fun e w' => e = .returned (.int .i64 (-1)) ∧ w' = w := by
  go_enter Try.func11, Try.ntmps11
  go_wp2
  go_ret
  simp
theorem nil_where (w : World) (t : Int) : Calls Try.prog 20 #[.pointer none, .int .i64 t] w fun e w' => e = .returned (.int .i64 0) ∧ w' = w := by
  go_enter Try.func20, Try.ntmps20
  go_wp2
  go_ret
  simp
theorem nil_ready (w : World) : Calls Try.prog 22 #[.pointer none, .int .i64 0, .int .i64 0] w fun e w' => e = .returned (.bool false) ∧ w' = w := by
  go_enter Try.func22, Try.ntmps22
  go_wp2
  go_ret
  simp
theorem nil_fetch (w : World) : Calls Try.prog 13 #[.pointer none, .int .i64 0, .int .i64 0] w fun e w' => e = .returned (.tuple #[.int .i64 (-1), .int .i64 0]) ∧ w' = w := by
  go_enter Try.func13, Try.ntmps13
  go_wp2
  go_ret2
  simp
theorem nil_put (w : World) : Calls Try.prog 23 #[.pointer none, .int .i64 0] w fun e w' => e = .returned (.bool false) ∧ w' = w := by
  go_enter Try.func23, Try.ntmps23
  go_wp2_with (go_at_call 11; refine (nil_on _).mono ?_; rintro e w' ⟨rfl, rfl⟩)
  go_ret
  simp
theorem nil_leave (w : World) : Calls Try.prog 12 #[.pointer none, .int .i64 0] w fun e w' => e = .returned (.bool false) ∧ w' = w := by
  go_enter Try.func12, Try.ntmps12
  go_wp2_with (go_at_call 11; refine (nil_on _).mono ?_; rintro e w' ⟨rfl, rfl⟩)
  go_ret
  simp
theorem nil_drop (w : World) : Calls Try.prog 24 #[.pointer none, .int .i64 0] w fun e w' => e = .returned (.bool false) ∧ w' = w := by
  go_enter Try.func24, Try.ntmps24
  go_wp2_with (go_at_call 20; refine (nil_where _ _).mono ?_; rintro e w' ⟨rfl, rfl⟩)
  go_ret
  simp
theorem nil_work (w : World) : Calls Try.prog 25 #[.pointer none, .int .i64 0] w fun e w' => e = .returned (.int .i64 0) ∧ w' = w := by
  go_enter Try.func25, Try.ntmps25
  go_wp2_with (go_at_call 11; refine (nil_on _).mono ?_; rintro e w' ⟨rfl, rfl⟩)
  go_ret
  simp
theorem nil_own (w : World) : Calls Try.prog 19 #[.pointer none, .int .i64 0] w fun e w' => e = .returned (.slice none 0 0) ∧ w' = w := by
  go_enter Try.func19, Try.ntmps19
  go_wp2
  go_ret
  simp
theorem nil_global (w : World) : Calls Try.prog 18 #[.pointer none] w fun e w' => e = .returned (.slice none 0 0) ∧ w' = w := by
  go_enter Try.func18, Try.ntmps18
  go_wp2
  go_ret
  simp
theorem nil_workers (w : World) : Calls Try.prog 10 #[.pointer none] w fun e w' => e = .returned (.int .i64 0) ∧ w' = w := by
  go_enter Try.func10, Try.ntmps10
  go_wp2
  go_ret
  simp
theorem nil_clone (w : World) : Calls Try.prog 21 #[.pointer none] w fun e w' => e = .returned (.pointer none) ∧ w' = w := by
  go_enter Try.func21, Try.ntmps21
  go_wp2
  go_ret
  simp
set_option maxHeartbeats 4000000 in
set_option maxRecDepth 100000 in
theorem nil_all (W : World) : Calls Try.prog 9 #[.pointer none] W fun e w' => e = .returned (.int .u64 0) ∧ w' = W := by
  go_enter Try.func9, Try.ntmps9
  go_wp2
  go_loopg [3, 5] 64 (fun kq v3 v5 w' => ∃ (i : Nat), v3 = .int .u64 0 ∧ v5 = .int .i64 (i : Int) ∧ Aside0 (i + kq = 64) ∧ Aside0 (w' = W))
  case atStart => exact ⟨0, rfl, rfl, ⟨by omega⟩, ⟨rfl⟩⟩
  case round =>
    obtain ⟨i, rfl, rfl, HK, HW⟩ := hrel
    rcases gk with _ | k1
    · have d1 : decide ((i : Int) < 64) = false := decide_eq_false (by have := HK.out; omega)
      have d2 : decide (i < 64) = false := decide_eq_false (by have := HK.out; omega)
      go_wp2
      go_ret
      exact ⟨rfl, HW.out⟩
    · have d1 : decide ((i : Int) < 64) = true := decide_eq_true (by have := HK.out; omega)
      have d2 : decide (i < 64) = true := decide_eq_true (by have := HK.out; omega)
      have HI64 := Aside0.mk (show i < 64 from by have := HK.out; omega)
      have ew : Aside0 (wrap64 ((i : Int) + 1) = (i : Int) + 1) := ⟨by have h2 := HI64.out; unfold wrap64; omega⟩
      go_wp2_with (go_at_call 20; (refine (nil_where _ _).mono ?_); rintro e w1 ⟨rfl, rfl⟩)
      go_roundg k1
      case measure => omega
      case rel => exact ⟨i + 1, rfl, by rw [ew.out]; simp, ⟨by have := HK.out; omega⟩, HW⟩
end Go.Proofs.Ytjcjhmnfknenlaa.Pl
