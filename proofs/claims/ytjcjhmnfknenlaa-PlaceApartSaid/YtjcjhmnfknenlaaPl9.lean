/- Places: New. Conditions: none. -/
import Derived.Test.YtjcjhmnfknenlaaPl8
namespace Go.Proofs.Ytjcjhmnfknenlaa.Pl
open Go.RowKit Go.Proofs.YtjcjhmnfknenlaaW.PrintWords Go.Proofs.YtjcjhmnfknenlaaW.PrintLast Go.Proofs.YtjcjhmnfknenlaaW.PrintMore
open Rg (Chg Row row_back row_popback row_popfront row_all row_new row_clone two refDo)
set_option linter.unusedVariables false
set_option linter.unusedSimpArgs false
attribute [local go_sem] max2_int min2_int max_two min_two max_three min_three max_four min_four

theorem info59 : (Try.prog.info? 59).map (fun i => (i.zero, i.size, i.bytes)) = some (some (.agg #[.int .i64 0, .int .i64 0, .pointer none]), 3, 24) := by kernel_rfl
/-- Nobody stands anywhere. -/
def A0 (n : Nat) : Pa := ⟨n, fun _ => 0, fun _ => 0, fun _ => [], [], fun _ => 0⟩
def npcells (v : Value) (q : Rk) : List Value := v :: .pointer (some ⟨q.g, 0, none⟩) :: (List.range 64).map fun _ => .int .u8 0
def nwcells (i : Nat) (r : Nat → Rk) : List Value := (List.range (i * 3)).map (wcell (A0 i) r)
theorem wcell_n (n m : Nat) (r : Nat → Rk) (k : Nat) : wcell (A0 n) r k = wcell (A0 m) r k := rfl
theorem nwcells_snoc (i : Nat) (r : Nat → Rk) (x : Rk) : nwcells (i + 1) (up r i x) = nwcells i r ++ [.int .i64 0, .int .i64 0, .pointer (some ⟨x.g, 0, none⟩)] := by
  unfold nwcells
  rw [show (i + 1) * 3 = i * 3 + 1 + 1 + 1 by omega, List.range_succ, List.range_succ, List.range_succ, List.map_append, List.map_append, List.map_append, List.append_assoc, List.append_assoc]
  congr 1
  · apply List.map_congr_left
    intro k hk
    rw [List.mem_range] at hk
    unfold wcell
    rw [up_ne _ _ (by omega)]
    rfl
  · show [wcell (A0 (i + 1)) (up r i x) (i * 3)] ++ ([wcell (A0 (i + 1)) (up r i x) (i * 3 + 1)] ++ [wcell (A0 (i + 1)) (up r i x) (i * 3 + 1 + 1)]) = _
    unfold wcell
    rw [if_pos (by omega), if_neg (by omega), if_pos (by omega), if_neg (by omega), if_neg (by omega), show (i * 3 + 1 + 1) / 3 = i by omega, up_same]
    rfl
theorem built57 (g b : Nat) : Try.prog.built 57 [(1, .pointer (some ⟨g, 0, none⟩))] = some (npcells (.slice none 0 0) ⟨g, b, 64, []⟩).toArray := by kernel_rfl
theorem wpl_build57 {ops : Array Oper} {rest : List Oper} {o : Oper} {a : Act} {w : World} {Q : Exit → Act → World → Prop} (hg : o.guard = none) {y : Operand} (ho : o.op = .build 57 #[(1, y)]) {g b : Nat} (hx : a.eval y = .pointer (some ⟨g, 0, none⟩))
    (h : wpList Try.prog ops Q rest (a.put o.dst (.agg (npcells (.slice none 0 0) ⟨g, b, 64, []⟩).toArray)) w) : wpList Try.prog ops Q (o :: rest) a w := by
  have hc : Try.prog.built 57 ((#[(1, y)] : Array (Nat × Operand)).map fun (i, x) => (i, a.eval x)).toList = some (npcells (.slice none 0 0) ⟨g, b, 64, []⟩).toArray := by
    simp only [List.map_toArray, List.map_cons, List.map_nil, hx]
    exact built57 g b
  refine wpList_build hg 57 #[(1, y)] ho (by rw [hc]; rfl) ?_
  rw [hc]
  exact h
/-- Places on their way. -/
structure Nw (w w' : World) (gp : Nat) (v : Value) (i : Nat) (r : Nat → Rk) (q : Rk) : Prop where
  hb : Below w.heap.size w w'
  hg : w'.heap[gp]? = some (.cells (npcells v q).toArray 57 (0, 0))
  ho : w'.ownsRow w.heap.size 59 3 v i (nwcells i r)
  own : ∀ j, j < i → Row w' (r j).g (r j).b (r j).c (r j).ex 16 []
  glob : Row w' q.g q.b q.c q.ex 64 []
  ge : w.heap.size ≤ gp ∧ w.heap.size ≤ q.g ∧ w.heap.size ≤ q.b ∧ ∀ j, j < i → w.heap.size ≤ (r j).g ∧ w.heap.size ≤ (r j).b
  sep : ∀ j k, j < i → k < i → j ≠ k → (r j).g ≠ (r k).g ∧ (r j).b ≠ (r k).b
  sepq : ∀ j, j < i → (r j).g ≠ q.g ∧ (r j).b ≠ q.b
section
variable {w w' w2 W0 : World} {gp i : Nat} {v : Value} {r : Nat → Rk} {q : Rk}
theorem Nw.below (h : Nw w w' gp v i r q) (hb : Below w'.heap.size w' w2) : Nw w w2 gp v i r q :=
  ⟨below_step h.hb hb, blk_below h.hg hb, pw_own_below h.ho hb, fun j hj => (h.own j hj).below hb, h.glob.below hb, h.ge, h.sep, h.sepq⟩
theorem Nw.c0 (h : Nw w w' gp v i r q) : w'.cell? ⟨gp, 0, none⟩ = some v := (blk_cell h.hg 0).trans rfl
theorem Nw.c0_alloc (h : Nw w w' gp v i r q) (o : Obj) : (w'.alloc o).cell? ⟨gp, 0, none⟩ = some v := (h.below (below_alloc (Below.refl _ _) o)).c0
theorem Nw.gp_ne (h : Nw w w' gp v i r q) : some gp ≠ v.ownBlock := own_ne h.ho h.hg (by decide)
theorem Nw.gp_grown (h : Nw w w' gp v i r q) (hg : w'.grownBy w2 v.ownBlock) : w2.cell? ⟨gp, 0, none⟩ = some v ∧ w2.frozen? ⟨gp, 0, none⟩ = false := by
  have hq : w2.heap[gp]? = some (.cells (npcells v q).toArray 57 (0, 0)) := (hg.block gp (blk_lt h.hg) h.gp_ne).trans h.hg
  exact ⟨(blk_cell hq 0).trans rfl, blk_frozen hq 0⟩
theorem chg_grown {a b : World} {row : Option Nat} (hg : a.grownBy b row) : Chg (fun k => row = some k) a b :=
  ⟨hg.os, hg.tape, hg.output, hg.size, fun k hk hs => hg.block k hk (fun e => hs e.symm)⟩
theorem Nw.step (h : Nw w w' gp v i r q) {g b : Nat} (hr : Row w' g b 16 [] 16 []) {s : Nat} (hg : s ≤ g) (hb : s ≤ b) (hs : s = s) {v1 : Value} {w1 : World}
    (ho : w1.ownsRow w.heap.size 59 3 v1 (i + 1) (nwcells i r ++ [.int .i64 0, .int .i64 0, .pointer (some ⟨g, 0, none⟩)])) (hB : Below w.heap.size w w1) (hG : w'.grownBy w1 v.ownBlock) (hat : v1.ownBlock = v.ownBlock ∨ ∃ b, v1.ownBlock = some b ∧ w'.heap.size ≤ b)
    (hlt : w.heap.size ≤ g ∧ w.heap.size ≤ b) (hlj : ∀ j, j < i → (r j).g < g ∧ (r j).b < b) (hlq : q.g < g ∧ q.b < b) :
    Nw w (w1.setCell ⟨gp, 0, none⟩ v1) gp v1 (i + 1) (up r i ⟨g, b, 16, []⟩) q := by
  have hrow : ∀ {g b c cap : Nat} {ex : List Value} {l : List Int}, Row w' g b c ex cap l → Row (w1.setCell ⟨gp, 0, none⟩ v1) g b c ex cap l := by
    intro g b c cap ex l hr
    obtain ⟨x, hx⟩ := (row_tags hr).1
    obtain ⟨y, hy⟩ := (row_tags hr).2
    have h1 : Row w1 g b c ex cap l := hr.kept (chg_grown hG) (fun e => own_ne h.ho hx (by decide) e.symm) (fun e => own_ne h.ho hy (by decide) e.symm)
    refine h1.kept (S := fun k => k = gp) ((Chg.refl (fun k => k = gp) w1).set_ (Or.inl rfl) _) (fun e => ?_) (fun e => ?_)
    · exact tag_ne hx h.hg (by decide) e
    · exact tag_ne hy h.hg (by decide) e
  have hq : w1.heap[gp]? = some (.cells (npcells v q).toArray 57 (0, 0)) := (hG.block gp (blk_lt h.hg) h.gp_ne).trans h.hg
  refine ⟨below_set hB h.ge.1, blk_put hq 0 _ ?_, ?_, fun j hj => ?_, hrow h.glob, ⟨h.ge.1, h.ge.2.1, h.ge.2.2.1, fun j hj => ?_⟩, fun j k hj hk hne => ?_, fun j hj => ?_⟩
  · rw [List.setIfInBounds_toArray]
    rfl
  · rw [nwcells_snoc]
    exact own_setCell ho (own_ne ho hq (by decide)) _
  · by_cases e : j = i
    · subst e; rw [up_same]; exact hrow hr
    · rw [up_ne _ _ e]; exact hrow (h.own j (by omega))
  · by_cases e : j = i
    · subst e; rw [up_same]; exact hlt
    · rw [up_ne _ _ e]; exact h.ge.2.2.2 j (by omega)
  · by_cases e : j = i
    · subst e
      rw [up_same, up_ne _ _ (fun z => hne z.symm)]
      have := hlj k (by omega)
      exact ⟨by show g ≠ _; omega, by show b ≠ _; omega⟩
    · rw [up_ne _ _ e]
      by_cases e2 : k = i
      · subst e2
        rw [up_same]
        have := hlj j (by omega)
        exact ⟨by show _ ≠ g; omega, by show _ ≠ b; omega⟩
      · rw [up_ne _ _ e2]
        exact h.sep j k (by omega) (by omega) hne
  · by_cases e : j = i
    · subst e
      rw [up_same]
      exact ⟨by show g ≠ _; omega, by show b ≠ _; omega⟩
    · rw [up_ne _ _ e]
      exact h.sepq j (by omega)
theorem Nw.done {n : Nat} (h : Nw w w' gp v n r q) (h0 : 0 < n) (h8 : n ≤ 8) : ∃ bl cl ex, At (fun k => w.heap.size ≤ k) w' gp (A0 n) bl cl ex r q := by
  rcases h.ho.2 with ⟨_, hn⟩ | ⟨g, cap, cur, rfl, hb, hh, hn, _, hs, ht⟩
  · omega
  · refine ⟨g, cap, cur.toList.drop (n * 3), ?_, ?_, h.own, h.glob, ⟨h.ge.1, hb, h.ge.2.1, h.ge.2.2.1, h.ge.2.2.2⟩, h.sep, h.sepq, h0, h8, hn⟩
    · exact h.hg
    · have e : wcells (A0 n) r = nwcells n r := rfl
      rw [e, ← ht, List.take_append_drop]
      exact hh
theorem nw0 {w3 : World} (hg : w3.heap[gp]? = some (.cells (npcells (.slice none 0 0) q).toArray 57 (0, 0))) (hr : Row w3 q.g q.b q.c q.ex 64 []) (hq : w.heap.size ≤ q.g ∧ w.heap.size ≤ q.b) (hp : w.heap.size ≤ gp) (hb : Below w.heap.size w w3) : Nw w w3 gp (.slice none 0 0) 0 (fun _ => q) q :=
  ⟨hb, hg, ⟨by simp [nwcells], .inl ⟨rfl, rfl⟩⟩, fun j hj => by omega, hr, ⟨hp, hq.1, hq.2, fun j hj => by omega⟩, fun j k hj => by omega, fun j hj => by omega⟩
end
set_option maxHeartbeats 8000000 in
set_option maxRecDepth 100000 in
theorem new_any (w : World) (x : Int) (n : Nat) (hn : (n : Int) = min (max x 1) 8) :
    Calls Try.prog 7 #[.int .i64 x] w fun e w' => ∃ gp, e = .returned (.pointer (some ⟨gp, 0, none⟩)) ∧ (∃ bl cl ex r q, At (fun k => w.heap.size ≤ k) w' gp (A0 n) bl cl ex r q) ∧ Below w.heap.size w w' := by
  have hu57 := Try.underlying57
  have hu54 := Try.underlying54
  have hu59 := Try.underlying59
  have HP := Aside0.mk (show 0 < n ∧ n ≤ 8 from by omega)
  have HNEW := Aside0.mk (row_new w 64 64 (by decide))
  by_cases r0 : x < 1
  · have hn1 : n = 1 := by omega
    subst hn1
    have r1 : (x < 1) = True := eq_true r0
    clear hn r0
    go_enter Try.func7, Try.ntmps7
    go_upto_region 2 with (first
      | (go_at_call 26; (refine HNEW.out.mono ?_); rintro e w1 ⟨g1, b1, rfl, hb, hr, h1, h2⟩; have HB1 := Aside0.mk hb; have HR1 := Aside0.mk hr; have HGQ := Aside0.mk (And.intro h1 h2); clear hb hr h1 h2)
      | (refine wpl_build57 rfl (y := .tmp 4) rfl (g := g1) (b := b1) rfl ?_)
      | ((with_reducible refine gate_dst (N := 6) rfl ?_); refine box_event ?hg (N := 6) ?hd (cs := (npcells (.slice none 0 0) ⟨g1, b1, 64, []⟩).toArray) (t := 57) ?hr ?_; (case hd => rfl); (case hg => rfl); (case hr => first | (go_simp; done) | (go_simp; rfl)); intro gp hg w3 hbox hb; have HBX := Aside0.mk hbox; have HBW := Aside0.mk (below_step HB1.out hb); have HGP := Aside0.mk (show w.heap.size ≤ gp from by have h1 := HB1.out.size; omega); replace HR1 := Aside0.mk (HR1.out.below hb); clear hbox hb hg))
    obtain ⟨q, hq⟩ : ∃ q : Rk, q = ⟨g1, b1, 64, []⟩ := ⟨_, rfl⟩
    rw [← hq] at HBX
    replace HR1 := Aside0.mk (show Row w3 q.g q.b q.c q.ex 64 [] from by rw [hq]; exact HR1.out)
    replace HGQ := Aside0.mk (show w.heap.size ≤ q.g ∧ w.heap.size ≤ q.b from by rw [hq]; exact HGQ.out)
    clear hq HB1 HNEW
    have HN0 := Aside0.mk (show Nw w w3 gp (.slice none 0 0) 0 (fun _ => q) q from nw0 HBX.out HR1.out HGQ.out HGP.out HBW.out)
    clear HBX HR1 HGQ HGP HBW
    go_wp2
    go_loopg [10] 1 (fun kq v10 w' => ∃ (i : Nat) (v : Value) (r : Nat → Rk), v10 = .int .i64 (i : Int) ∧ Aside0 (i + kq = 1) ∧ Aside0 (Nw w w' gp v i r q))
    case atStart => exact ⟨0, _, _, rfl, ⟨by omega⟩, HN0⟩
    case round =>
      clear HN0
      obtain ⟨i, v, r, rfl, HK, HN⟩ := hrel
      rcases gk with _ | k1
      · have d1 : decide ((i : Int) < 1) = false := decide_eq_false (by have := HK.out; omega)
        have d2 : decide (i < 1) = false := decide_eq_false (by have := HK.out; omega)
        go_wp2
        go_ret
        obtain ⟨bl, cl, ex, hAt⟩ := HN.out.done (by have h1 := HK.out; have h2 := HP.out; omega) (by have h1 := HK.out; have h2 := HP.out; omega)
        exact ⟨gp, rfl, ⟨bl, cl, ex, r, q, by rw [show i = 1 by have := HK.out; omega] at hAt; exact hAt⟩, HN.out.hb⟩
      · have d1 : decide ((i : Int) < 1) = true := decide_eq_true (by have := HK.out; omega)
        have d2 : decide (i < 1) = true := decide_eq_true (by have := HK.out; omega)
        have HI8 := Aside0.mk (show i < 8 from by have h1 := HK.out; have h2 := HP.out; omega)
        have ew : Aside0 (wrap64 ((i : Int) + 1) = (i : Int) + 1) := ⟨by have h2 := HI8.out; unfold wrap64; omega⟩
        have HN3 := Aside0.mk (show Nw w wr.drew gp v i r q from HN.out.below (below_drew (Below.refl _ _)))
        have HSZ := Aside0.mk (rfl : wr.drew.heap.size = wr.drew.heap.size)
        go_upto_region 4 with (fail)
        refine start_ (n := 12) (S := fun w' => w'.cell? ⟨gp, 0, none⟩ = some v) (ds := [11]) #[false, false, false, false, false, false, false, false, false, false, false, false] (by kernel_rfl) rfl rfl (HN3.out.c0) (fun hHeld => ?_)
        refine pure_ (i := 0) (N := some 12) (v := ?_) (a' := ?_) #[true, false, false, false, false, false, false, false, false, false, false, false] rfl rfl (by kernel_rfl) (fun _ _ _ h => h) (Or.inl ⟨by rfl, ?_⟩) ?_ ?_
        rotate_left
        · intro w'
          go_simp
          with_reducible rfl
        rotate_left
        · simp only [Act.put, List.setIfInBounds_toArray, List.set_cons_zero, List.set_cons_succ, i64_w, i32_w]
          rfl
        refine pure_ (i := 1) (N := some 13) (v := ?_) (a' := ?_) #[true, true, false, false, false, false, false, false, false, false, false, false] rfl rfl (by kernel_rfl) (fun _ _ _ h => h) (Or.inl ⟨by rfl, ?_⟩) ?_ ?_
        rotate_left
        · intro w'
          go_simp
          with_reducible rfl
        rotate_left
        · simp only [Act.put, List.setIfInBounds_toArray, List.set_cons_zero, List.set_cons_succ, i64_w, i32_w]
          rfl
        refine pure_ (i := 2) (N := some 14) (v := ?_) (a' := ?_) #[true, true, true, false, false, false, false, false, false, false, false, false] rfl rfl (by kernel_rfl) (fun _ _ _ h => h) (Or.inl ⟨by rfl, ?_⟩) ?_ ?_
        rotate_left
        · intro w'
          go_simp
          with_reducible rfl
        rotate_left
        · simp only [Act.put, List.setIfInBounds_toArray, List.set_cons_zero, List.set_cons_succ, i64_w, i32_w]
          rfl
        refine pure_ (i := 3) (N := some 15) (v := ?_) (a' := ?_) #[true, true, true, true, false, false, false, false, false, false, false, false] rfl rfl (by kernel_rfl) (fun _ _ _ h => h) (Or.inl ⟨by rfl, ?_⟩) ?_ ?_
        rotate_left
        · intro w'
          go_simp
          with_reducible rfl
        rotate_left
        · simp only [Act.put, List.setIfInBounds_toArray, List.set_cons_zero, List.set_cons_succ, i64_w, i32_w]
          rfl
        refine take_ (i := 4) (N := some 16) (v := ?_) (a' := ?_) #[true, true, true, true, true, false, false, false, false, false, false, false] rfl rfl (by kernel_rfl) (fun _ _ _ h => h) (Or.inl ⟨by rfl, ?_⟩) hHeld ?_ ?_
        rotate_left
        · intro w' s0
          go_simp
          with_reducible rfl
        rotate_left
        · simp only [Act.put, List.setIfInBounds_toArray, List.set_cons_zero, List.set_cons_succ, i64_w, i32_w]
          rfl
        refine one_ (i := 5) (N := some 17) #[true, true, true, true, true, true, false, false, false, false, false, false] rfl rfl (by kernel_rfl) (by decide) (fun K hK => ?_)
        refine goes_ Try.func26 (by kernel_rfl) rfl #[.int .i64 16] (by rfl) rfl rfl (by simp only [List.map_toArray, List.map_cons, List.map_nil]; rfl) ?_
        with_reducible refine (row_new _ 16 16 (by decide)).mono ?_
        rintro e w4 ⟨g4, b4, rfl, hb, hr, h1, h2⟩
        refine ⟨_, rfl, ?_⟩
        have HN4 := Aside0.mk (HN3.out.below hb)
        have HR4 := Aside0.mk hr
        have HG4 := Aside0.mk h1
        have HB4 := Aside0.mk h2
        clear hb hr h1 h2
        refine hK.out _ _ (HN4.out.c0) (fun hHeld => ?_)
        clear hK K
        refine norm_ (a' := ?_) ?_ ?_
        rotate_left
        · show Act.put _ (some 17) _ = _
          simp only [Act.put, List.setIfInBounds_toArray, List.set_cons_zero, List.set_cons_succ, i64_w, i32_w]
          rfl
        refine pure_ (i := 6) (N := some 18) (v := ?_) (a' := ?_) #[true, true, true, true, true, true, true, false, false, false, false, false] rfl rfl (by kernel_rfl) (fun _ _ _ h => h) (Or.inl ⟨by rfl, ?_⟩) ?_ ?_
        rotate_left
        · intro w'
          go_simp
          with_reducible rfl
        rotate_left
        · simp only [Act.put, List.setIfInBounds_toArray, List.set_cons_zero, List.set_cons_succ, i64_w, i32_w]
          rfl
        refine one_ (i := 7) (N := some 19) #[true, true, true, true, true, true, true, true, false, false, false, false] rfl rfl (by kernel_rfl) (by decide) (fun K hK => ?_)
        refine value_ (w1 := ?_) (v := ?_) (by rfl) rfl ?_ ?_
        rotate_left 2
        · go_simp
          constructor
          · rfl
          · rfl
        refine hK.out _ _ (HN4.out.c0_alloc _) (fun hHeld => ?_)
        clear hK K
        refine norm_ (a' := ?_) ?_ ?_
        rotate_left
        · show Act.put _ (some 19) _ = _
          simp only [Act.put, List.setIfInBounds_toArray, List.set_cons_zero, List.set_cons_succ, i64_w, i32_w]
          rfl
        refine one_ (i := 8) (N := some 20) #[true, true, true, true, true, true, true, true, true, false, false, false] rfl rfl (by kernel_rfl) (by decide) (fun K hK => ?_)
        refine step_append_cells (w0 := w) w.heap.size (by rfl) (.tmp 16) (.tmp 19) 54 59 (.agg #[.int .i64 0, .int .i64 0, .pointer none]) 3 24 rfl Try.underlying54 info59 rfl (by decide) (by decide) v i (nwcells i r) [.int .i64 0, .int .i64 0, .pointer (some ⟨g4, 0, none⟩)] rfl rfl rfl (by intro u hu; simp only [List.mem_cons, List.not_mem_nil, or_false] at hu; rcases hu with rfl | rfl | rfl <;> rfl) HN4.out.ho HN4.out.hb HN4.out.hb.size (by have := HI8.out; omega) ?_
        intro v5 w5 ho hb hg hat
        obtain ⟨A5, c5, rfl⟩ := own_slice ho
        have HN5 := Aside0.mk (HN4.out.step HR4.out HG4.out HB4.out HSZ.out ho hb hg hat ⟨by have h1 := HN3.out.hb.size; have h2 := HG4.out; omega, by have h1 := HN3.out.hb.size; have h2 := HB4.out; omega⟩ (fun j hj => by have h1 := (HN3.out.own j hj).lt'; have h2 := HG4.out; have h3 := HB4.out; omega) (by have h1 := HN3.out.glob.lt'; have h2 := HG4.out; have h3 := HB4.out; omega))
        have HG5 := Aside0.mk (HN4.out.gp_grown hg)
        clear ho hb hg hat
        have z0 : w5.cell? ⟨gp, 0, none⟩ = some v := HG5.out.1
        have fz0 : w5.frozen? ⟨gp, 0, none⟩ = false := HG5.out.2
        refine hK.out _ _ (HG5.out.1) (fun hHeld => ?_)
        clear hK K
        refine norm_ (a' := ?_) ?_ ?_
        rotate_left
        · show Act.put _ (some 20) _ = _
          simp only [Act.put, List.setIfInBounds_toArray, List.set_cons_zero, List.set_cons_succ, i64_w, i32_w]
          rfl
        refine pure_ (i := 9) (N := some 21) (v := ?_) (a' := ?_) #[true, true, true, true, true, true, true, true, true, true, false, false] rfl rfl (by kernel_rfl) (fun _ _ _ h => h) (Or.inl ⟨by rfl, ?_⟩) ?_ ?_
        rotate_left
        · intro w'
          go_simp
          with_reducible rfl
        rotate_left
        · simp only [Act.put, List.setIfInBounds_toArray, List.set_cons_zero, List.set_cons_succ, i64_w, i32_w]
          rfl
        refine pure_ (i := 10) (N := some 22) (v := ?_) (a' := ?_) #[true, true, true, true, true, true, true, true, true, true, true, false] rfl rfl (by kernel_rfl) (fun _ _ _ h => h) (Or.inl ⟨by rfl, ?_⟩) ?_ ?_
        rotate_left
        · intro w'
          go_simp
          with_reducible rfl
        rotate_left
        · simp only [Act.put, List.setIfInBounds_toArray, List.set_cons_zero, List.set_cons_succ, i64_w, i32_w]
          rfl
        refine last_ (i := 11) (N := none) #[true, true, true, true, true, true, true, true, true, true, true, true] rfl rfl (by kernel_rfl) (by decide) (fun K hK => ?_)
        refine skip_ (w1 := ?_) (by rfl) rfl ?_ ?_
        rotate_left
        · go_simp
          rfl
        refine hK.out _ _ ?_
        clear hK K
        refine done_ (by kernel_rfl) ?_
        have HN6 := Aside0.mk HN5.out
        go_wp2
        go_roundg k1
        case measure => omega
        case rel => exact ⟨i + 1, _, _, by rw [ew.out]; simp, ⟨by have := HK.out; omega⟩, HN6⟩
  · have r1 : (x < 1) = False := eq_false r0
    by_cases r2 : x < 8
    · obtain rfl : x = (n : Int) := by omega
      have r3 : ((n : Int) < 8) = True := eq_true r2
      have r4 : (8 < (n : Int)) = False := eq_false (by omega)
      clear hn r0 r2
      go_enter Try.func7, Try.ntmps7
      go_upto_region 2 with (first
        | (go_at_call 26; (refine HNEW.out.mono ?_); rintro e w1 ⟨g1, b1, rfl, hb, hr, h1, h2⟩; have HB1 := Aside0.mk hb; have HR1 := Aside0.mk hr; have HGQ := Aside0.mk (And.intro h1 h2); clear hb hr h1 h2)
        | (refine wpl_build57 rfl (y := .tmp 4) rfl (g := g1) (b := b1) rfl ?_)
        | ((with_reducible refine gate_dst (N := 6) rfl ?_); refine box_event ?hg (N := 6) ?hd (cs := (npcells (.slice none 0 0) ⟨g1, b1, 64, []⟩).toArray) (t := 57) ?hr ?_; (case hd => rfl); (case hg => rfl); (case hr => first | (go_simp; done) | (go_simp; rfl)); intro gp hg w3 hbox hb; have HBX := Aside0.mk hbox; have HBW := Aside0.mk (below_step HB1.out hb); have HGP := Aside0.mk (show w.heap.size ≤ gp from by have h1 := HB1.out.size; omega); replace HR1 := Aside0.mk (HR1.out.below hb); clear hbox hb hg))
      obtain ⟨q, hq⟩ : ∃ q : Rk, q = ⟨g1, b1, 64, []⟩ := ⟨_, rfl⟩
      rw [← hq] at HBX
      replace HR1 := Aside0.mk (show Row w3 q.g q.b q.c q.ex 64 [] from by rw [hq]; exact HR1.out)
      replace HGQ := Aside0.mk (show w.heap.size ≤ q.g ∧ w.heap.size ≤ q.b from by rw [hq]; exact HGQ.out)
      clear hq HB1 HNEW
      have HN0 := Aside0.mk (show Nw w w3 gp (.slice none 0 0) 0 (fun _ => q) q from nw0 HBX.out HR1.out HGQ.out HGP.out HBW.out)
      clear HBX HR1 HGQ HGP HBW
      go_wp2
      go_loopg [10] n (fun kq v10 w' => ∃ (i : Nat) (v : Value) (r : Nat → Rk), v10 = .int .i64 (i : Int) ∧ Aside0 (i + kq = n) ∧ Aside0 (Nw w w' gp v i r q))
      case atStart => exact ⟨0, _, _, rfl, ⟨by omega⟩, HN0⟩
      case round =>
        clear HN0
        obtain ⟨i, v, r, rfl, HK, HN⟩ := hrel
        rcases gk with _ | k1
        · have d1 : decide ((i : Int) < (n : Int)) = false := decide_eq_false (by have := HK.out; omega)
          have d2 : decide (i < n) = false := decide_eq_false (by have := HK.out; omega)
          go_wp2
          go_ret
          obtain ⟨bl, cl, ex, hAt⟩ := HN.out.done (by have h1 := HK.out; have h2 := HP.out; omega) (by have h1 := HK.out; have h2 := HP.out; omega)
          exact ⟨gp, rfl, ⟨bl, cl, ex, r, q, by rw [show i = n by have := HK.out; omega] at hAt; exact hAt⟩, HN.out.hb⟩
        · have d1 : decide ((i : Int) < (n : Int)) = true := decide_eq_true (by have := HK.out; omega)
          have d2 : decide (i < n) = true := decide_eq_true (by have := HK.out; omega)
          have HI8 := Aside0.mk (show i < 8 from by have h1 := HK.out; have h2 := HP.out; omega)
          have ew : Aside0 (wrap64 ((i : Int) + 1) = (i : Int) + 1) := ⟨by have h2 := HI8.out; unfold wrap64; omega⟩
          have HN3 := Aside0.mk (show Nw w wr.drew gp v i r q from HN.out.below (below_drew (Below.refl _ _)))
          have HSZ := Aside0.mk (rfl : wr.drew.heap.size = wr.drew.heap.size)
          go_upto_region 4 with (fail)
          refine start_ (n := 12) (S := fun w' => w'.cell? ⟨gp, 0, none⟩ = some v) (ds := [11]) #[false, false, false, false, false, false, false, false, false, false, false, false] (by kernel_rfl) rfl rfl (HN3.out.c0) (fun hHeld => ?_)
          refine pure_ (i := 0) (N := some 12) (v := ?_) (a' := ?_) #[true, false, false, false, false, false, false, false, false, false, false, false] rfl rfl (by kernel_rfl) (fun _ _ _ h => h) (Or.inl ⟨by rfl, ?_⟩) ?_ ?_
          rotate_left
          · intro w'
            go_simp
            with_reducible rfl
          rotate_left
          · simp only [Act.put, List.setIfInBounds_toArray, List.set_cons_zero, List.set_cons_succ, i64_w, i32_w]
            rfl
          refine pure_ (i := 1) (N := some 13) (v := ?_) (a' := ?_) #[true, true, false, false, false, false, false, false, false, false, false, false] rfl rfl (by kernel_rfl) (fun _ _ _ h => h) (Or.inl ⟨by rfl, ?_⟩) ?_ ?_
          rotate_left
          · intro w'
            go_simp
            with_reducible rfl
          rotate_left
          · simp only [Act.put, List.setIfInBounds_toArray, List.set_cons_zero, List.set_cons_succ, i64_w, i32_w]
            rfl
          refine pure_ (i := 2) (N := some 14) (v := ?_) (a' := ?_) #[true, true, true, false, false, false, false, false, false, false, false, false] rfl rfl (by kernel_rfl) (fun _ _ _ h => h) (Or.inl ⟨by rfl, ?_⟩) ?_ ?_
          rotate_left
          · intro w'
            go_simp
            with_reducible rfl
          rotate_left
          · simp only [Act.put, List.setIfInBounds_toArray, List.set_cons_zero, List.set_cons_succ, i64_w, i32_w]
            rfl
          refine pure_ (i := 3) (N := some 15) (v := ?_) (a' := ?_) #[true, true, true, true, false, false, false, false, false, false, false, false] rfl rfl (by kernel_rfl) (fun _ _ _ h => h) (Or.inl ⟨by rfl, ?_⟩) ?_ ?_
          rotate_left
          · intro w'
            go_simp
            with_reducible rfl
          rotate_left
          · simp only [Act.put, List.setIfInBounds_toArray, List.set_cons_zero, List.set_cons_succ, i64_w, i32_w]
            rfl
          refine take_ (i := 4) (N := some 16) (v := ?_) (a' := ?_) #[true, true, true, true, true, false, false, false, false, false, false, false] rfl rfl (by kernel_rfl) (fun _ _ _ h => h) (Or.inl ⟨by rfl, ?_⟩) hHeld ?_ ?_
          rotate_left
          · intro w' s0
            go_simp
            with_reducible rfl
          rotate_left
          · simp only [Act.put, List.setIfInBounds_toArray, List.set_cons_zero, List.set_cons_succ, i64_w, i32_w]
            rfl
          refine one_ (i := 5) (N := some 17) #[true, true, true, true, true, true, false, false, false, false, false, false] rfl rfl (by kernel_rfl) (by decide) (fun K hK => ?_)
          refine goes_ Try.func26 (by kernel_rfl) rfl #[.int .i64 16] (by rfl) rfl rfl (by simp only [List.map_toArray, List.map_cons, List.map_nil]; rfl) ?_
          with_reducible refine (row_new _ 16 16 (by decide)).mono ?_
          rintro e w4 ⟨g4, b4, rfl, hb, hr, h1, h2⟩
          refine ⟨_, rfl, ?_⟩
          have HN4 := Aside0.mk (HN3.out.below hb)
          have HR4 := Aside0.mk hr
          have HG4 := Aside0.mk h1
          have HB4 := Aside0.mk h2
          clear hb hr h1 h2
          refine hK.out _ _ (HN4.out.c0) (fun hHeld => ?_)
          clear hK K
          refine norm_ (a' := ?_) ?_ ?_
          rotate_left
          · show Act.put _ (some 17) _ = _
            simp only [Act.put, List.setIfInBounds_toArray, List.set_cons_zero, List.set_cons_succ, i64_w, i32_w]
            rfl
          refine pure_ (i := 6) (N := some 18) (v := ?_) (a' := ?_) #[true, true, true, true, true, true, true, false, false, false, false, false] rfl rfl (by kernel_rfl) (fun _ _ _ h => h) (Or.inl ⟨by rfl, ?_⟩) ?_ ?_
          rotate_left
          · intro w'
            go_simp
            with_reducible rfl
          rotate_left
          · simp only [Act.put, List.setIfInBounds_toArray, List.set_cons_zero, List.set_cons_succ, i64_w, i32_w]
            rfl
          refine one_ (i := 7) (N := some 19) #[true, true, true, true, true, true, true, true, false, false, false, false] rfl rfl (by kernel_rfl) (by decide) (fun K hK => ?_)
          refine value_ (w1 := ?_) (v := ?_) (by rfl) rfl ?_ ?_
          rotate_left 2
          · go_simp
            constructor
            · rfl
            · rfl
          refine hK.out _ _ (HN4.out.c0_alloc _) (fun hHeld => ?_)
          clear hK K
          refine norm_ (a' := ?_) ?_ ?_
          rotate_left
          · show Act.put _ (some 19) _ = _
            simp only [Act.put, List.setIfInBounds_toArray, List.set_cons_zero, List.set_cons_succ, i64_w, i32_w]
            rfl
          refine one_ (i := 8) (N := some 20) #[true, true, true, true, true, true, true, true, true, false, false, false] rfl rfl (by kernel_rfl) (by decide) (fun K hK => ?_)
          refine step_append_cells (w0 := w) w.heap.size (by rfl) (.tmp 16) (.tmp 19) 54 59 (.agg #[.int .i64 0, .int .i64 0, .pointer none]) 3 24 rfl Try.underlying54 info59 rfl (by decide) (by decide) v i (nwcells i r) [.int .i64 0, .int .i64 0, .pointer (some ⟨g4, 0, none⟩)] rfl rfl rfl (by intro u hu; simp only [List.mem_cons, List.not_mem_nil, or_false] at hu; rcases hu with rfl | rfl | rfl <;> rfl) HN4.out.ho HN4.out.hb HN4.out.hb.size (by have := HI8.out; omega) ?_
          intro v5 w5 ho hb hg hat
          obtain ⟨A5, c5, rfl⟩ := own_slice ho
          have HN5 := Aside0.mk (HN4.out.step HR4.out HG4.out HB4.out HSZ.out ho hb hg hat ⟨by have h1 := HN3.out.hb.size; have h2 := HG4.out; omega, by have h1 := HN3.out.hb.size; have h2 := HB4.out; omega⟩ (fun j hj => by have h1 := (HN3.out.own j hj).lt'; have h2 := HG4.out; have h3 := HB4.out; omega) (by have h1 := HN3.out.glob.lt'; have h2 := HG4.out; have h3 := HB4.out; omega))
          have HG5 := Aside0.mk (HN4.out.gp_grown hg)
          clear ho hb hg hat
          have z0 : w5.cell? ⟨gp, 0, none⟩ = some v := HG5.out.1
          have fz0 : w5.frozen? ⟨gp, 0, none⟩ = false := HG5.out.2
          refine hK.out _ _ (HG5.out.1) (fun hHeld => ?_)
          clear hK K
          refine norm_ (a' := ?_) ?_ ?_
          rotate_left
          · show Act.put _ (some 20) _ = _
            simp only [Act.put, List.setIfInBounds_toArray, List.set_cons_zero, List.set_cons_succ, i64_w, i32_w]
            rfl
          refine pure_ (i := 9) (N := some 21) (v := ?_) (a' := ?_) #[true, true, true, true, true, true, true, true, true, true, false, false] rfl rfl (by kernel_rfl) (fun _ _ _ h => h) (Or.inl ⟨by rfl, ?_⟩) ?_ ?_
          rotate_left
          · intro w'
            go_simp
            with_reducible rfl
          rotate_left
          · simp only [Act.put, List.setIfInBounds_toArray, List.set_cons_zero, List.set_cons_succ, i64_w, i32_w]
            rfl
          refine pure_ (i := 10) (N := some 22) (v := ?_) (a' := ?_) #[true, true, true, true, true, true, true, true, true, true, true, false] rfl rfl (by kernel_rfl) (fun _ _ _ h => h) (Or.inl ⟨by rfl, ?_⟩) ?_ ?_
          rotate_left
          · intro w'
            go_simp
            with_reducible rfl
          rotate_left
          · simp only [Act.put, List.setIfInBounds_toArray, List.set_cons_zero, List.set_cons_succ, i64_w, i32_w]
            rfl
          refine last_ (i := 11) (N := none) #[true, true, true, true, true, true, true, true, true, true, true, true] rfl rfl (by kernel_rfl) (by decide) (fun K hK => ?_)
          refine skip_ (w1 := ?_) (by rfl) rfl ?_ ?_
          rotate_left
          · go_simp
            rfl
          refine hK.out _ _ ?_
          clear hK K
          refine done_ (by kernel_rfl) ?_
          have HN6 := Aside0.mk HN5.out
          go_wp2
          go_roundg k1
          case measure => omega
          case rel => exact ⟨i + 1, _, _, by rw [ew.out]; simp, ⟨by have := HK.out; omega⟩, HN6⟩
    · have hn8 : n = 8 := by omega
      subst hn8
      by_cases r5 : x = 8
      · subst r5
        clear hn r0 r2 r1
        go_enter Try.func7, Try.ntmps7
        go_upto_region 2 with (first
          | (go_at_call 26; (refine HNEW.out.mono ?_); rintro e w1 ⟨g1, b1, rfl, hb, hr, h1, h2⟩; have HB1 := Aside0.mk hb; have HR1 := Aside0.mk hr; have HGQ := Aside0.mk (And.intro h1 h2); clear hb hr h1 h2)
          | (refine wpl_build57 rfl (y := .tmp 4) rfl (g := g1) (b := b1) rfl ?_)
          | ((with_reducible refine gate_dst (N := 6) rfl ?_); refine box_event ?hg (N := 6) ?hd (cs := (npcells (.slice none 0 0) ⟨g1, b1, 64, []⟩).toArray) (t := 57) ?hr ?_; (case hd => rfl); (case hg => rfl); (case hr => first | (go_simp; done) | (go_simp; rfl)); intro gp hg w3 hbox hb; have HBX := Aside0.mk hbox; have HBW := Aside0.mk (below_step HB1.out hb); have HGP := Aside0.mk (show w.heap.size ≤ gp from by have h1 := HB1.out.size; omega); replace HR1 := Aside0.mk (HR1.out.below hb); clear hbox hb hg))
        obtain ⟨q, hq⟩ : ∃ q : Rk, q = ⟨g1, b1, 64, []⟩ := ⟨_, rfl⟩
        rw [← hq] at HBX
        replace HR1 := Aside0.mk (show Row w3 q.g q.b q.c q.ex 64 [] from by rw [hq]; exact HR1.out)
        replace HGQ := Aside0.mk (show w.heap.size ≤ q.g ∧ w.heap.size ≤ q.b from by rw [hq]; exact HGQ.out)
        clear hq HB1 HNEW
        have HN0 := Aside0.mk (show Nw w w3 gp (.slice none 0 0) 0 (fun _ => q) q from nw0 HBX.out HR1.out HGQ.out HGP.out HBW.out)
        clear HBX HR1 HGQ HGP HBW
        go_wp2
        go_loopg [10] 8 (fun kq v10 w' => ∃ (i : Nat) (v : Value) (r : Nat → Rk), v10 = .int .i64 (i : Int) ∧ Aside0 (i + kq = 8) ∧ Aside0 (Nw w w' gp v i r q))
        case atStart => exact ⟨0, _, _, rfl, ⟨by omega⟩, HN0⟩
        case round =>
          clear HN0
          obtain ⟨i, v, r, rfl, HK, HN⟩ := hrel
          rcases gk with _ | k1
          · have d1 : decide ((i : Int) < 8) = false := decide_eq_false (by have := HK.out; omega)
            have d2 : decide (i < 8) = false := decide_eq_false (by have := HK.out; omega)
            go_wp2
            go_ret
            obtain ⟨bl, cl, ex, hAt⟩ := HN.out.done (by have h1 := HK.out; have h2 := HP.out; omega) (by have h1 := HK.out; have h2 := HP.out; omega)
            exact ⟨gp, rfl, ⟨bl, cl, ex, r, q, by rw [show i = 8 by have := HK.out; omega] at hAt; exact hAt⟩, HN.out.hb⟩
          · have d1 : decide ((i : Int) < 8) = true := decide_eq_true (by have := HK.out; omega)
            have d2 : decide (i < 8) = true := decide_eq_true (by have := HK.out; omega)
            have HI8 := Aside0.mk (show i < 8 from by have h1 := HK.out; have h2 := HP.out; omega)
            have ew : Aside0 (wrap64 ((i : Int) + 1) = (i : Int) + 1) := ⟨by have h2 := HI8.out; unfold wrap64; omega⟩
            have HN3 := Aside0.mk (show Nw w wr.drew gp v i r q from HN.out.below (below_drew (Below.refl _ _)))
            have HSZ := Aside0.mk (rfl : wr.drew.heap.size = wr.drew.heap.size)
            go_upto_region 4 with (fail)
            refine start_ (n := 12) (S := fun w' => w'.cell? ⟨gp, 0, none⟩ = some v) (ds := [11]) #[false, false, false, false, false, false, false, false, false, false, false, false] (by kernel_rfl) rfl rfl (HN3.out.c0) (fun hHeld => ?_)
            refine pure_ (i := 0) (N := some 12) (v := ?_) (a' := ?_) #[true, false, false, false, false, false, false, false, false, false, false, false] rfl rfl (by kernel_rfl) (fun _ _ _ h => h) (Or.inl ⟨by rfl, ?_⟩) ?_ ?_
            rotate_left
            · intro w'
              go_simp
              with_reducible rfl
            rotate_left
            · simp only [Act.put, List.setIfInBounds_toArray, List.set_cons_zero, List.set_cons_succ, i64_w, i32_w]
              rfl
            refine pure_ (i := 1) (N := some 13) (v := ?_) (a' := ?_) #[true, true, false, false, false, false, false, false, false, false, false, false] rfl rfl (by kernel_rfl) (fun _ _ _ h => h) (Or.inl ⟨by rfl, ?_⟩) ?_ ?_
            rotate_left
            · intro w'
              go_simp
              with_reducible rfl
            rotate_left
            · simp only [Act.put, List.setIfInBounds_toArray, List.set_cons_zero, List.set_cons_succ, i64_w, i32_w]
              rfl
            refine pure_ (i := 2) (N := some 14) (v := ?_) (a' := ?_) #[true, true, true, false, false, false, false, false, false, false, false, false] rfl rfl (by kernel_rfl) (fun _ _ _ h => h) (Or.inl ⟨by rfl, ?_⟩) ?_ ?_
            rotate_left
            · intro w'
              go_simp
              with_reducible rfl
            rotate_left
            · simp only [Act.put, List.setIfInBounds_toArray, List.set_cons_zero, List.set_cons_succ, i64_w, i32_w]
              rfl
            refine pure_ (i := 3) (N := some 15) (v := ?_) (a' := ?_) #[true, true, true, true, false, false, false, false, false, false, false, false] rfl rfl (by kernel_rfl) (fun _ _ _ h => h) (Or.inl ⟨by rfl, ?_⟩) ?_ ?_
            rotate_left
            · intro w'
              go_simp
              with_reducible rfl
            rotate_left
            · simp only [Act.put, List.setIfInBounds_toArray, List.set_cons_zero, List.set_cons_succ, i64_w, i32_w]
              rfl
            refine take_ (i := 4) (N := some 16) (v := ?_) (a' := ?_) #[true, true, true, true, true, false, false, false, false, false, false, false] rfl rfl (by kernel_rfl) (fun _ _ _ h => h) (Or.inl ⟨by rfl, ?_⟩) hHeld ?_ ?_
            rotate_left
            · intro w' s0
              go_simp
              with_reducible rfl
            rotate_left
            · simp only [Act.put, List.setIfInBounds_toArray, List.set_cons_zero, List.set_cons_succ, i64_w, i32_w]
              rfl
            refine one_ (i := 5) (N := some 17) #[true, true, true, true, true, true, false, false, false, false, false, false] rfl rfl (by kernel_rfl) (by decide) (fun K hK => ?_)
            refine goes_ Try.func26 (by kernel_rfl) rfl #[.int .i64 16] (by rfl) rfl rfl (by simp only [List.map_toArray, List.map_cons, List.map_nil]; rfl) ?_
            with_reducible refine (row_new _ 16 16 (by decide)).mono ?_
            rintro e w4 ⟨g4, b4, rfl, hb, hr, h1, h2⟩
            refine ⟨_, rfl, ?_⟩
            have HN4 := Aside0.mk (HN3.out.below hb)
            have HR4 := Aside0.mk hr
            have HG4 := Aside0.mk h1
            have HB4 := Aside0.mk h2
            clear hb hr h1 h2
            refine hK.out _ _ (HN4.out.c0) (fun hHeld => ?_)
            clear hK K
            refine norm_ (a' := ?_) ?_ ?_
            rotate_left
            · show Act.put _ (some 17) _ = _
              simp only [Act.put, List.setIfInBounds_toArray, List.set_cons_zero, List.set_cons_succ, i64_w, i32_w]
              rfl
            refine pure_ (i := 6) (N := some 18) (v := ?_) (a' := ?_) #[true, true, true, true, true, true, true, false, false, false, false, false] rfl rfl (by kernel_rfl) (fun _ _ _ h => h) (Or.inl ⟨by rfl, ?_⟩) ?_ ?_
            rotate_left
            · intro w'
              go_simp
              with_reducible rfl
            rotate_left
            · simp only [Act.put, List.setIfInBounds_toArray, List.set_cons_zero, List.set_cons_succ, i64_w, i32_w]
              rfl
            refine one_ (i := 7) (N := some 19) #[true, true, true, true, true, true, true, true, false, false, false, false] rfl rfl (by kernel_rfl) (by decide) (fun K hK => ?_)
            refine value_ (w1 := ?_) (v := ?_) (by rfl) rfl ?_ ?_
            rotate_left 2
            · go_simp
              constructor
              · rfl
              · rfl
            refine hK.out _ _ (HN4.out.c0_alloc _) (fun hHeld => ?_)
            clear hK K
            refine norm_ (a' := ?_) ?_ ?_
            rotate_left
            · show Act.put _ (some 19) _ = _
              simp only [Act.put, List.setIfInBounds_toArray, List.set_cons_zero, List.set_cons_succ, i64_w, i32_w]
              rfl
            refine one_ (i := 8) (N := some 20) #[true, true, true, true, true, true, true, true, true, false, false, false] rfl rfl (by kernel_rfl) (by decide) (fun K hK => ?_)
            refine step_append_cells (w0 := w) w.heap.size (by rfl) (.tmp 16) (.tmp 19) 54 59 (.agg #[.int .i64 0, .int .i64 0, .pointer none]) 3 24 rfl Try.underlying54 info59 rfl (by decide) (by decide) v i (nwcells i r) [.int .i64 0, .int .i64 0, .pointer (some ⟨g4, 0, none⟩)] rfl rfl rfl (by intro u hu; simp only [List.mem_cons, List.not_mem_nil, or_false] at hu; rcases hu with rfl | rfl | rfl <;> rfl) HN4.out.ho HN4.out.hb HN4.out.hb.size (by have := HI8.out; omega) ?_
            intro v5 w5 ho hb hg hat
            obtain ⟨A5, c5, rfl⟩ := own_slice ho
            have HN5 := Aside0.mk (HN4.out.step HR4.out HG4.out HB4.out HSZ.out ho hb hg hat ⟨by have h1 := HN3.out.hb.size; have h2 := HG4.out; omega, by have h1 := HN3.out.hb.size; have h2 := HB4.out; omega⟩ (fun j hj => by have h1 := (HN3.out.own j hj).lt'; have h2 := HG4.out; have h3 := HB4.out; omega) (by have h1 := HN3.out.glob.lt'; have h2 := HG4.out; have h3 := HB4.out; omega))
            have HG5 := Aside0.mk (HN4.out.gp_grown hg)
            clear ho hb hg hat
            have z0 : w5.cell? ⟨gp, 0, none⟩ = some v := HG5.out.1
            have fz0 : w5.frozen? ⟨gp, 0, none⟩ = false := HG5.out.2
            refine hK.out _ _ (HG5.out.1) (fun hHeld => ?_)
            clear hK K
            refine norm_ (a' := ?_) ?_ ?_
            rotate_left
            · show Act.put _ (some 20) _ = _
              simp only [Act.put, List.setIfInBounds_toArray, List.set_cons_zero, List.set_cons_succ, i64_w, i32_w]
              rfl
            refine pure_ (i := 9) (N := some 21) (v := ?_) (a' := ?_) #[true, true, true, true, true, true, true, true, true, true, false, false] rfl rfl (by kernel_rfl) (fun _ _ _ h => h) (Or.inl ⟨by rfl, ?_⟩) ?_ ?_
            rotate_left
            · intro w'
              go_simp
              with_reducible rfl
            rotate_left
            · simp only [Act.put, List.setIfInBounds_toArray, List.set_cons_zero, List.set_cons_succ, i64_w, i32_w]
              rfl
            refine pure_ (i := 10) (N := some 22) (v := ?_) (a' := ?_) #[true, true, true, true, true, true, true, true, true, true, true, false] rfl rfl (by kernel_rfl) (fun _ _ _ h => h) (Or.inl ⟨by rfl, ?_⟩) ?_ ?_
            rotate_left
            · intro w'
              go_simp
              with_reducible rfl
            rotate_left
            · simp only [Act.put, List.setIfInBounds_toArray, List.set_cons_zero, List.set_cons_succ, i64_w, i32_w]
              rfl
            refine last_ (i := 11) (N := none) #[true, true, true, true, true, true, true, true, true, true, true, true] rfl rfl (by kernel_rfl) (by decide) (fun K hK => ?_)
            refine skip_ (w1 := ?_) (by rfl) rfl ?_ ?_
            rotate_left
            · go_simp
              rfl
            refine hK.out _ _ ?_
            clear hK K
            refine done_ (by kernel_rfl) ?_
            have HN6 := Aside0.mk HN5.out
            go_wp2
            go_roundg k1
            case measure => omega
            case rel => exact ⟨i + 1, _, _, by rw [ew.out]; simp, ⟨by have := HK.out; omega⟩, HN6⟩
      · have r3 : (x < 8) = False := eq_false r2
        have r4 : (8 < x) = True := eq_true (by omega)
        clear hn r0 r2 r5
        go_enter Try.func7, Try.ntmps7
        go_upto_region 2 with (first
          | (go_at_call 26; (refine HNEW.out.mono ?_); rintro e w1 ⟨g1, b1, rfl, hb, hr, h1, h2⟩; have HB1 := Aside0.mk hb; have HR1 := Aside0.mk hr; have HGQ := Aside0.mk (And.intro h1 h2); clear hb hr h1 h2)
          | (refine wpl_build57 rfl (y := .tmp 4) rfl (g := g1) (b := b1) rfl ?_)
          | ((with_reducible refine gate_dst (N := 6) rfl ?_); refine box_event ?hg (N := 6) ?hd (cs := (npcells (.slice none 0 0) ⟨g1, b1, 64, []⟩).toArray) (t := 57) ?hr ?_; (case hd => rfl); (case hg => rfl); (case hr => first | (go_simp; done) | (go_simp; rfl)); intro gp hg w3 hbox hb; have HBX := Aside0.mk hbox; have HBW := Aside0.mk (below_step HB1.out hb); have HGP := Aside0.mk (show w.heap.size ≤ gp from by have h1 := HB1.out.size; omega); replace HR1 := Aside0.mk (HR1.out.below hb); clear hbox hb hg))
        obtain ⟨q, hq⟩ : ∃ q : Rk, q = ⟨g1, b1, 64, []⟩ := ⟨_, rfl⟩
        rw [← hq] at HBX
        replace HR1 := Aside0.mk (show Row w3 q.g q.b q.c q.ex 64 [] from by rw [hq]; exact HR1.out)
        replace HGQ := Aside0.mk (show w.heap.size ≤ q.g ∧ w.heap.size ≤ q.b from by rw [hq]; exact HGQ.out)
        clear hq HB1 HNEW
        have HN0 := Aside0.mk (show Nw w w3 gp (.slice none 0 0) 0 (fun _ => q) q from nw0 HBX.out HR1.out HGQ.out HGP.out HBW.out)
        clear HBX HR1 HGQ HGP HBW
        go_wp2
        go_loopg [10] 8 (fun kq v10 w' => ∃ (i : Nat) (v : Value) (r : Nat → Rk), v10 = .int .i64 (i : Int) ∧ Aside0 (i + kq = 8) ∧ Aside0 (Nw w w' gp v i r q))
        case atStart => exact ⟨0, _, _, rfl, ⟨by omega⟩, HN0⟩
        case round =>
          clear HN0
          obtain ⟨i, v, r, rfl, HK, HN⟩ := hrel
          rcases gk with _ | k1
          · have d1 : decide ((i : Int) < 8) = false := decide_eq_false (by have := HK.out; omega)
            have d2 : decide (i < 8) = false := decide_eq_false (by have := HK.out; omega)
            go_wp2
            go_ret
            obtain ⟨bl, cl, ex, hAt⟩ := HN.out.done (by have h1 := HK.out; have h2 := HP.out; omega) (by have h1 := HK.out; have h2 := HP.out; omega)
            exact ⟨gp, rfl, ⟨bl, cl, ex, r, q, by rw [show i = 8 by have := HK.out; omega] at hAt; exact hAt⟩, HN.out.hb⟩
          · have d1 : decide ((i : Int) < 8) = true := decide_eq_true (by have := HK.out; omega)
            have d2 : decide (i < 8) = true := decide_eq_true (by have := HK.out; omega)
            have HI8 := Aside0.mk (show i < 8 from by have h1 := HK.out; have h2 := HP.out; omega)
            have ew : Aside0 (wrap64 ((i : Int) + 1) = (i : Int) + 1) := ⟨by have h2 := HI8.out; unfold wrap64; omega⟩
            have HN3 := Aside0.mk (show Nw w wr.drew gp v i r q from HN.out.below (below_drew (Below.refl _ _)))
            have HSZ := Aside0.mk (rfl : wr.drew.heap.size = wr.drew.heap.size)
            go_upto_region 4 with (fail)
            refine start_ (n := 12) (S := fun w' => w'.cell? ⟨gp, 0, none⟩ = some v) (ds := [11]) #[false, false, false, false, false, false, false, false, false, false, false, false] (by kernel_rfl) rfl rfl (HN3.out.c0) (fun hHeld => ?_)
            refine pure_ (i := 0) (N := some 12) (v := ?_) (a' := ?_) #[true, false, false, false, false, false, false, false, false, false, false, false] rfl rfl (by kernel_rfl) (fun _ _ _ h => h) (Or.inl ⟨by rfl, ?_⟩) ?_ ?_
            rotate_left
            · intro w'
              go_simp
              with_reducible rfl
            rotate_left
            · simp only [Act.put, List.setIfInBounds_toArray, List.set_cons_zero, List.set_cons_succ, i64_w, i32_w]
              rfl
            refine pure_ (i := 1) (N := some 13) (v := ?_) (a' := ?_) #[true, true, false, false, false, false, false, false, false, false, false, false] rfl rfl (by kernel_rfl) (fun _ _ _ h => h) (Or.inl ⟨by rfl, ?_⟩) ?_ ?_
            rotate_left
            · intro w'
              go_simp
              with_reducible rfl
            rotate_left
            · simp only [Act.put, List.setIfInBounds_toArray, List.set_cons_zero, List.set_cons_succ, i64_w, i32_w]
              rfl
            refine pure_ (i := 2) (N := some 14) (v := ?_) (a' := ?_) #[true, true, true, false, false, false, false, false, false, false, false, false] rfl rfl (by kernel_rfl) (fun _ _ _ h => h) (Or.inl ⟨by rfl, ?_⟩) ?_ ?_
            rotate_left
            · intro w'
              go_simp
              with_reducible rfl
            rotate_left
            · simp only [Act.put, List.setIfInBounds_toArray, List.set_cons_zero, List.set_cons_succ, i64_w, i32_w]
              rfl
            refine pure_ (i := 3) (N := some 15) (v := ?_) (a' := ?_) #[true, true, true, true, false, false, false, false, false, false, false, false] rfl rfl (by kernel_rfl) (fun _ _ _ h => h) (Or.inl ⟨by rfl, ?_⟩) ?_ ?_
            rotate_left
            · intro w'
              go_simp
              with_reducible rfl
            rotate_left
            · simp only [Act.put, List.setIfInBounds_toArray, List.set_cons_zero, List.set_cons_succ, i64_w, i32_w]
              rfl
            refine take_ (i := 4) (N := some 16) (v := ?_) (a' := ?_) #[true, true, true, true, true, false, false, false, false, false, false, false] rfl rfl (by kernel_rfl) (fun _ _ _ h => h) (Or.inl ⟨by rfl, ?_⟩) hHeld ?_ ?_
            rotate_left
            · intro w' s0
              go_simp
              with_reducible rfl
            rotate_left
            · simp only [Act.put, List.setIfInBounds_toArray, List.set_cons_zero, List.set_cons_succ, i64_w, i32_w]
              rfl
            refine one_ (i := 5) (N := some 17) #[true, true, true, true, true, true, false, false, false, false, false, false] rfl rfl (by kernel_rfl) (by decide) (fun K hK => ?_)
            refine goes_ Try.func26 (by kernel_rfl) rfl #[.int .i64 16] (by rfl) rfl rfl (by simp only [List.map_toArray, List.map_cons, List.map_nil]; rfl) ?_
            with_reducible refine (row_new _ 16 16 (by decide)).mono ?_
            rintro e w4 ⟨g4, b4, rfl, hb, hr, h1, h2⟩
            refine ⟨_, rfl, ?_⟩
            have HN4 := Aside0.mk (HN3.out.below hb)
            have HR4 := Aside0.mk hr
            have HG4 := Aside0.mk h1
            have HB4 := Aside0.mk h2
            clear hb hr h1 h2
            refine hK.out _ _ (HN4.out.c0) (fun hHeld => ?_)
            clear hK K
            refine norm_ (a' := ?_) ?_ ?_
            rotate_left
            · show Act.put _ (some 17) _ = _
              simp only [Act.put, List.setIfInBounds_toArray, List.set_cons_zero, List.set_cons_succ, i64_w, i32_w]
              rfl
            refine pure_ (i := 6) (N := some 18) (v := ?_) (a' := ?_) #[true, true, true, true, true, true, true, false, false, false, false, false] rfl rfl (by kernel_rfl) (fun _ _ _ h => h) (Or.inl ⟨by rfl, ?_⟩) ?_ ?_
            rotate_left
            · intro w'
              go_simp
              with_reducible rfl
            rotate_left
            · simp only [Act.put, List.setIfInBounds_toArray, List.set_cons_zero, List.set_cons_succ, i64_w, i32_w]
              rfl
            refine one_ (i := 7) (N := some 19) #[true, true, true, true, true, true, true, true, false, false, false, false] rfl rfl (by kernel_rfl) (by decide) (fun K hK => ?_)
            refine value_ (w1 := ?_) (v := ?_) (by rfl) rfl ?_ ?_
            rotate_left 2
            · go_simp
              constructor
              · rfl
              · rfl
            refine hK.out _ _ (HN4.out.c0_alloc _) (fun hHeld => ?_)
            clear hK K
            refine norm_ (a' := ?_) ?_ ?_
            rotate_left
            · show Act.put _ (some 19) _ = _
              simp only [Act.put, List.setIfInBounds_toArray, List.set_cons_zero, List.set_cons_succ, i64_w, i32_w]
              rfl
            refine one_ (i := 8) (N := some 20) #[true, true, true, true, true, true, true, true, true, false, false, false] rfl rfl (by kernel_rfl) (by decide) (fun K hK => ?_)
            refine step_append_cells (w0 := w) w.heap.size (by rfl) (.tmp 16) (.tmp 19) 54 59 (.agg #[.int .i64 0, .int .i64 0, .pointer none]) 3 24 rfl Try.underlying54 info59 rfl (by decide) (by decide) v i (nwcells i r) [.int .i64 0, .int .i64 0, .pointer (some ⟨g4, 0, none⟩)] rfl rfl rfl (by intro u hu; simp only [List.mem_cons, List.not_mem_nil, or_false] at hu; rcases hu with rfl | rfl | rfl <;> rfl) HN4.out.ho HN4.out.hb HN4.out.hb.size (by have := HI8.out; omega) ?_
            intro v5 w5 ho hb hg hat
            obtain ⟨A5, c5, rfl⟩ := own_slice ho
            have HN5 := Aside0.mk (HN4.out.step HR4.out HG4.out HB4.out HSZ.out ho hb hg hat ⟨by have h1 := HN3.out.hb.size; have h2 := HG4.out; omega, by have h1 := HN3.out.hb.size; have h2 := HB4.out; omega⟩ (fun j hj => by have h1 := (HN3.out.own j hj).lt'; have h2 := HG4.out; have h3 := HB4.out; omega) (by have h1 := HN3.out.glob.lt'; have h2 := HG4.out; have h3 := HB4.out; omega))
            have HG5 := Aside0.mk (HN4.out.gp_grown hg)
            clear ho hb hg hat
            have z0 : w5.cell? ⟨gp, 0, none⟩ = some v := HG5.out.1
            have fz0 : w5.frozen? ⟨gp, 0, none⟩ = false := HG5.out.2
            refine hK.out _ _ (HG5.out.1) (fun hHeld => ?_)
            clear hK K
            refine norm_ (a' := ?_) ?_ ?_
            rotate_left
            · show Act.put _ (some 20) _ = _
              simp only [Act.put, List.setIfInBounds_toArray, List.set_cons_zero, List.set_cons_succ, i64_w, i32_w]
              rfl
            refine pure_ (i := 9) (N := some 21) (v := ?_) (a' := ?_) #[true, true, true, true, true, true, true, true, true, true, false, false] rfl rfl (by kernel_rfl) (fun _ _ _ h => h) (Or.inl ⟨by rfl, ?_⟩) ?_ ?_
            rotate_left
            · intro w'
              go_simp
              with_reducible rfl
            rotate_left
            · simp only [Act.put, List.setIfInBounds_toArray, List.set_cons_zero, List.set_cons_succ, i64_w, i32_w]
              rfl
            refine pure_ (i := 10) (N := some 22) (v := ?_) (a' := ?_) #[true, true, true, true, true, true, true, true, true, true, true, false] rfl rfl (by kernel_rfl) (fun _ _ _ h => h) (Or.inl ⟨by rfl, ?_⟩) ?_ ?_
            rotate_left
            · intro w'
              go_simp
              with_reducible rfl
            rotate_left
            · simp only [Act.put, List.setIfInBounds_toArray, List.set_cons_zero, List.set_cons_succ, i64_w, i32_w]
              rfl
            refine last_ (i := 11) (N := none) #[true, true, true, true, true, true, true, true, true, true, true, true] rfl rfl (by kernel_rfl) (by decide) (fun K hK => ?_)
            refine skip_ (w1 := ?_) (by rfl) rfl ?_ ?_
            rotate_left
            · go_simp
              rfl
            refine hK.out _ _ ?_
            clear hK K
            refine done_ (by kernel_rfl) ?_
            have HN6 := Aside0.mk HN5.out
            go_wp2
            go_roundg k1
            case measure => omega
            case rel => exact ⟨i + 1, _, _, by rw [ew.out]; simp, ⟨by have := HK.out; omega⟩, HN6⟩
end Go.Proofs.Ytjcjhmnfknenlaa.Pl
