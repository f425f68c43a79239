/- Places: Drop. Conditions: none. -/
import Derived.Test.YtjcjhmnfknenlaaPl7
namespace Go.Proofs.Ytjcjhmnfknenlaa.Pl
open Go.RowKit Go.Proofs.YtjcjhmnfknenlaaW.PrintWords Go.Proofs.YtjcjhmnfknenlaaW.PrintLast Go.Proofs.YtjcjhmnfknenlaaW.PrintMore
open Rg (Chg Row row_back row_popback row_popfront row_all row_new row_clone two refDo)
set_option linter.unusedVariables false
set_option linter.unusedSimpArgs false

def drop1 (A : Pa) (t : Int) (i : Nat) : Pa := { A with runs := fun w => if w < i ∧ A.runs w = t + 1 then 0 else A.runs w }
def drop2 (A : Pa) (t : Int) (i : Nat) : Pa := { A with own := fun w => if w < i then wo (A.own w) t else A.own w }
def drop3 (A : Pa) (t : Int) : Pa := { A with gl := wo A.gl t }
def noWh (A : Pa) (t : Int) : Pa := { A with wh := up A.wh t.toNat 0 }
def dropA (A : Pa) (t : Int) : Pa :=
  if wher A t = 0 then A else if wher A t = 1 then noWh (drop1 A t A.n) t else if wher A t = 2 then noWh (drop2 A t A.n) t else noWh (drop3 A t) t
theorem drop1_zero (A : Pa) (t : Int) : drop1 A t 0 = A := by
  unfold drop1
  have : (fun w => if w < 0 ∧ A.runs w = t + 1 then 0 else A.runs w) = A.runs := by
    funext w
    rw [if_neg (by omega)]
  rw [this]
theorem drop2_zero (A : Pa) (t : Int) : drop2 A t 0 = A := by
  unfold drop2
  have : (fun w => if w < 0 then wo (A.own w) t else A.own w) = A.own := by
    funext w
    rw [if_neg (by omega)]
  rw [this]
theorem drop1_hit (A : Pa) (t : Int) (i : Nat) (h : A.runs i = t + 1) : { drop1 A t i with runs := up (drop1 A t i).runs i 0 } = drop1 A t (i + 1) := by
  unfold drop1
  have : up (fun w => if w < i ∧ A.runs w = t + 1 then 0 else A.runs w) i 0 = fun w => if w < i + 1 ∧ A.runs w = t + 1 then 0 else A.runs w := by
    funext w
    unfold up
    by_cases e : w = i
    · subst e
      rw [if_pos rfl, if_pos ⟨by omega, h⟩]
    · rw [if_neg e]
      by_cases c : w < i ∧ A.runs w = t + 1
      · show (if w < i ∧ A.runs w = t + 1 then 0 else A.runs w) = _
        rw [if_pos c, if_pos ⟨by omega, c.2⟩]
      · show (if w < i ∧ A.runs w = t + 1 then 0 else A.runs w) = _
        rw [if_neg c, if_neg (fun z => c ⟨by omega, z.2⟩)]
  show Pa.mk _ _ _ _ _ _ = Pa.mk _ _ _ _ _ _
  rw [← this]
theorem drop1_miss (A : Pa) (t : Int) (i : Nat) (h : A.runs i ≠ t + 1) : drop1 A t i = drop1 A t (i + 1) := by
  unfold drop1
  have : (fun w => if w < i ∧ A.runs w = t + 1 then 0 else A.runs w) = fun w => if w < i + 1 ∧ A.runs w = t + 1 then 0 else A.runs w := by
    funext w
    by_cases e : w = i
    · subst e
      rw [if_neg (fun z => h z.2), if_neg (fun z => h z.2)]
    · by_cases c : w < i ∧ A.runs w = t + 1
      · rw [if_pos c, if_pos ⟨by omega, c.2⟩]
      · rw [if_neg c, if_neg (fun z => c ⟨by omega, z.2⟩)]
  rw [this]
theorem drop2_step (A : Pa) (t : Int) (i : Nat) : { drop2 A t i with own := up (drop2 A t i).own i (wo (A.own i) t) } = drop2 A t (i + 1) := by
  unfold drop2
  have : up (fun w => if w < i then wo (A.own w) t else A.own w) i (wo (A.own i) t) = fun w => if w < i + 1 then wo (A.own w) t else A.own w := by
    funext w
    unfold up
    by_cases e : w = i
    · subst e
      rw [if_pos rfl, if_pos (by omega)]
    · rw [if_neg e]
      by_cases c : w < i
      · show (if w < i then wo (A.own w) t else A.own w) = _
        rw [if_pos c, if_pos (by omega)]
      · show (if w < i then wo (A.own w) t else A.own w) = _
        rw [if_neg c, if_neg (by omega)]
  show Pa.mk _ _ _ _ _ _ = Pa.mk _ _ _ _ _ _
  rw [← this]
section
variable {S : Nat → Prop} {W W' : World} {gp bl cl : Nat} {A : Pa} {ex : List Value} {r : Nat → Rk} {q : Rk}
theorem wr2 (A : Pa) (r : Nat → Rk) (i : Nat) (v : Rk) (l : List Int) (k : Nat) (hk : k ≠ i * 3 + 2) : wcell { A with own := up A.own i l } (up r i v) k = wcell A r k := by
  unfold wcell
  by_cases e : k % 3 = 0
  · rw [if_pos e, if_pos e]
  · rw [if_neg e, if_neg e]
    by_cases e1 : k % 3 = 1
    · rw [if_pos e1, if_pos e1]
    · rw [if_neg e1, if_neg e1, up_ne _ _ (by omega)]
/-- A worker has another row. -/
theorem At.newOwn (h : At S W gp A bl cl ex r q) {i : Nat} (hi : i < A.n) {W0 : World} {g b : Nat} {l : List Int} (hs : S g ∧ S b) (hr : Row W g b 16 [] 16 l) (hg : W0.heap.size ≤ g) (hb : W0.heap.size ≤ b) (hlt : ∀ j, j < A.n → (r j).g < W0.heap.size ∧ (r j).b < W0.heap.size) (hlq : q.g < W0.heap.size ∧ q.b < W0.heap.size) :
    At S (W.setCell ⟨bl, i * 3 + 2, none⟩ (.pointer (some ⟨g, 0, none⟩))) gp { A with own := up A.own i l } bl cl ex (up r i ⟨g, b, 16, []⟩) q := by
  have hrow : ∀ {g' b c cap : Nat} {ex : List Value} {l : List Int}, Row W g' b c ex cap l → Row (W.setCell ⟨bl, i * 3 + 2, none⟩ (.pointer (some ⟨g, 0, none⟩))) g' b c ex cap l := fun hr =>
    hr.kept (S := fun k => k = bl) ((Chg.refl (fun k => k = bl) W).set_ (Or.inl rfl) _) (tag_ne (row_tags hr).1.choose_spec h.hl (by decide)) (tag_ne (row_tags hr).2.choose_spec h.hl (by decide))
  refine ⟨blk_far h.hg h.bl_ne.symm _, blk_put h.hl (i * 3 + 2) _ ?_, fun j hj => ?_, hrow h.glob, ⟨h.s.1, h.s.2.1, h.s.2.2.1, h.s.2.2.2.1, fun j hj => ?_⟩, fun j k hj hk hne => ?_, fun j hj => ?_, h.n_pos, h.n_le, h.cl_le⟩
  · have e := wset A { A with own := up A.own i l } r (up r i ⟨g, b, 16, []⟩) ex (i := i) (j := 2) rfl hi (by decide) (wr2 A r i ⟨g, b, 16, []⟩ l)
    rw [← e]
    congr 1
    unfold wcell
    rw [if_neg (by omega), if_neg (by omega), show (i * 3 + 2) / 3 = i by omega, up_same]
  · show Row _ (up r i ⟨g, b, 16, []⟩ j).g (up r i ⟨g, b, 16, []⟩ j).b (up r i ⟨g, b, 16, []⟩ j).c (up r i ⟨g, b, 16, []⟩ j).ex 16 (up A.own i l j)
    by_cases e : j = i
    · subst e
      rw [up_same, up_same]
      exact hrow hr
    · rw [up_ne _ _ e, up_ne _ _ e]
      exact hrow (h.own j hj)
  · by_cases e : j = i
    · subst e; rw [up_same]; exact hs
    · rw [up_ne _ _ e]; exact h.s.2.2.2.2 j hj
  · by_cases e : j = i
    · subst e
      rw [up_same, up_ne _ _ (fun z => hne z.symm)]
      have := hlt k hk
      exact ⟨by show g ≠ _; omega, by show b ≠ _; omega⟩
    · rw [up_ne _ _ e]
      by_cases e2 : k = i
      · subst e2
        rw [up_same]
        have := hlt j hj
        exact ⟨by show _ ≠ g; omega, by show _ ≠ b; omega⟩
      · rw [up_ne _ _ e2]
        exact h.sep j k hj hk hne
  · by_cases e : j = i
    · subst e
      rw [up_same]
      exact ⟨by show g ≠ _; omega, by show b ≠ _; omega⟩
    · rw [up_ne _ _ e]
      exact h.sepq j hj
/-- There is another row of all. -/
theorem At.newGl (h : At S W gp A bl cl ex r q) {W0 : World} {g b : Nat} {l : List Int} (hs : S g ∧ S b) (hr : Row W g b 64 [] 64 l) (hg : W0.heap.size ≤ g) (hb : W0.heap.size ≤ b) (hlt : ∀ j, j < A.n → (r j).g < W0.heap.size ∧ (r j).b < W0.heap.size) :
    At S (W.setCell ⟨gp, 1, none⟩ (.pointer (some ⟨g, 0, none⟩))) gp { A with gl := l } bl cl ex r ⟨g, b, 64, []⟩ := by
  have hrow : ∀ {g' b c cap : Nat} {ex : List Value} {l : List Int}, Row W g' b c ex cap l → Row (W.setCell ⟨gp, 1, none⟩ (.pointer (some ⟨g, 0, none⟩))) g' b c ex cap l := fun hr =>
    hr.kept (S := fun k => k = gp) ((Chg.refl (fun k => k = gp) W).set_ (Or.inl rfl) _) (tag_ne (row_tags hr).1.choose_spec h.hg (by decide)) (tag_ne (row_tags hr).2.choose_spec h.hg (by decide))
  refine ⟨blk_put h.hg 1 _ ?_, blk_far h.hl h.bl_ne _, fun j hj => hrow (h.own j hj), hrow hr, ⟨h.s.1, h.s.2.1, hs.1, hs.2, h.s.2.2.2.2⟩, h.sep, fun j hj => ?_, h.n_pos, h.n_le, h.cl_le⟩
  · rw [List.setIfInBounds_toArray]
    rfl
  · have := hlt j hj
    exact ⟨by show _ ≠ g; omega, by show _ ≠ b; omega⟩
theorem At.lts (h : At S W gp A bl cl ex r q) : (∀ j, j < A.n → (r j).g < W.heap.size ∧ (r j).b < W.heap.size) ∧ q.g < W.heap.size ∧ q.b < W.heap.size :=
  ⟨fun j hj => (h.own j hj).lt', h.glob.lt'⟩
set_option maxHeartbeats 8000000 in
set_option maxRecDepth 100000 in
theorem drop_any (h : At S W gp A bl cl ex r q) (hk : Ok A) (t : Int) (wt : -9223372036854775808 ≤ t ∧ t ≤ 9223372036854775807) :
    Calls Try.prog 24 #[.pointer (some ⟨gp, 0, none⟩), .int .i64 t] W fun e w' => e = .returned (.bool (decide (wher A t ≠ 0))) ∧ (∃ r' q', At (fun k => S k ∨ W.heap.size ≤ k) w' gp (dropA A t) bl cl ex r' q') ∧ Chg S W w' := by
  have hu57 := Try.underlying57
  have hu54 := Try.underlying54
  have hu59 := Try.underlying59
  have HA := Aside0.mk h
  have HWH := Aside0.mk (where_any h hk.wh t)
  by_cases e0 : wher A t = 0
  · have HV := Aside0.mk (show dropA A t = A from if_pos e0)
    rw [HV.out, decide_eq_false (fun z => z e0)]
    rw [e0] at HWH
    clear h hk HV e0
    go_enter Try.func24, Try.ntmps24
    go_wp2_with (go_at_call 20; (refine HWH.out.mono ?_); rintro e w1 ⟨rfl, rfl⟩)
    go_ret
    exact ⟨rfl, ⟨r, q, HA.out.mono (fun k hk => .inl hk)⟩, Chg.refl _ _⟩
  · have ht : 0 ≤ t ∧ t < 64 := Classical.byContradiction fun z => e0 (by unfold wher; rw [if_neg z])
    obtain ⟨u, rfl⟩ : ∃ u : Nat, t = (u : Int) := ⟨t.toNat, by omega⟩
    have HU := Aside0.mk (show u < 64 from by omega)
    have p3 : (0 ≤ (u : Int)) = True := eq_true ht.1
    have p4 : ((u : Int) < 64) = True := eq_true ht.2
    rw [decide_eq_true e0]
    have HAN := Aside0.mk h.n_pos
    have HA8 := Aside0.mk h.n_le
    have HOKR := Aside0.mk hk.runs
    by_cases e1 : wher A (u : Int) = 1
    · have HV := Aside0.mk (show dropA A (u : Int) = noWh (drop1 A (u : Int) A.n) (u : Int) from by unfold dropA; rw [if_neg e0, if_pos e1])
      rw [HV.out]
      rw [e1] at HWH
      have c0 := h.c0
      clear h hk HV e0 e1 ht
      go_enter Try.func24, Try.ntmps24
      have HA0 := Aside0.mk (show At S W gp (drop1 A (u : Int) 0) bl cl ex r q from by rw [drop1_zero]; exact HA.out)
      go_wp2_with (go_at_call 20; (refine HWH.out.mono ?_); rintro e w1 ⟨rfl, rfl⟩)
      go_loopg [28] A.n (fun kq v28 w' => ∃ (i : Nat), v28 = .int .i64 (i : Int) ∧ Aside0 (i + kq = A.n) ∧ Aside0 (At S w' gp (drop1 A (u : Int) i) bl cl ex r q) ∧ Aside0 (Chg S _ w'))
      case atStart => exact ⟨0, rfl, ⟨by omega⟩, HA0, ⟨Chg.refl _ _⟩⟩
      case round =>
        clear HA0
        obtain ⟨i, rfl, HK, HAI, HCI⟩ := hrel
        rcases gk with _ | k1
        · have d1 : decide ((i : Int) < (A.n : Int)) = false := decide_eq_false (by have := HK.out; omega)
          have d2 : decide (i < A.n) = false := decide_eq_false (by have := HK.out; omega)
          have HE := Aside0.mk (show At S wr gp (drop1 A (u : Int) A.n) bl cl ex r q from by
            have e : i = A.n := by have := HK.out; omega
            have h1 := HAI.out
            rwa [e] at h1)
          have cw := HE.out.cw HU.out
          have fz := blk_frozen HE.out.hg (2 + u)
          go_wp2
          go_ret
          exact ⟨rfl, ⟨r, q, (HE.out.setWh HU.out 0).mono (fun k hk => .inl hk)⟩, HCI.out.set_ (Or.inl HA.out.s.1) _⟩
        · have HIN := Aside0.mk (show i < A.n from by have := HK.out; omega)
          have d1 : decide ((i : Int) < (A.n : Int)) = true := decide_eq_true (by have := HIN.out; omega)
          have d2 : decide (i < A.n) = true := decide_eq_true HIN.out
          have p1 : (0 ≤ (i : Int)) = True := eq_true (by omega)
          have p2 : ((i : Int) < (A.n : Int)) = True := eq_true (by have := HIN.out; omega)
          have ew : Aside0 (wrap64 ((i : Int) + 1) = (i : Int) + 1) := ⟨by have h1 := HIN.out; have h2 := HA8.out; unfold wrap64; omega⟩
          have HON := Aside0.mk (on_any HAI.out (fun j hj => by
            show Rg64 (if j < i ∧ A.runs j = (u : Int) + 1 then 0 else A.runs j)
            split
            · exact ⟨by decide, by decide⟩
            · exact HOKR.out j hj) (i : Int))
          have HOV := Aside0.mk (show on (drop1 A (u : Int) i) (i : Int) = A.runs i - 1 from by
            unfold on
            rw [if_pos (show 0 ≤ (i : Int) ∧ (i : Int) < ((drop1 A (u : Int) i).n : Int) from ⟨by omega, by show (i : Int) < (A.n : Int); have := HIN.out; omega⟩), Int.toNat_natCast]
            show (if i < i ∧ A.runs i = (u : Int) + 1 then 0 else A.runs i) - 1 = _
            rw [if_neg (by omega)])
          rw [HOV.out] at HON
          by_cases hy : A.runs i = (u : Int) + 1
          · have HD := Aside0.mk (drop1_hit A (u : Int) i hy)
            rw [hy, show (u : Int) + 1 - 1 = (u : Int) by omega] at HON
            have c0 := HAI.out.c0
            have w0 := HAI.out.w0 (i := i) HIN.out
            have fz := blk_frozen HAI.out.hl (i * 3)
            clear hy HOV
            have c0' : wr.cell? ⟨gp, 0, none⟩ = some (.slice (some ⟨bl, 0, none⟩) A.n cl) := c0
            clear c0
            go_wp2_with (go_at_call 11; (refine HON.out.mono ?_); rintro e w1 ⟨rfl, rfl⟩)
            go_roundg k1
            case measure => omega
            case rel => exact ⟨i + 1, by rw [ew.out]; simp, ⟨by have := HK.out; omega⟩, ⟨by rw [← HD.out]; exact HAI.out.setRuns (i := i) HIN.out 0⟩, ⟨HCI.out.set_ (Or.inl HA.out.s.2.1) _⟩⟩
          · have HD := Aside0.mk (drop1_miss A (u : Int) i hy)
            have d3 : ((A.runs i - 1 : Int) == (u : Int)) = false := beq_eq_false_iff_ne.2 (fun z => hy (by omega))
            clear hy HOV
            generalize A.runs i - 1 = v at *
            go_wp2_with (go_at_call 11; (refine HON.out.mono ?_); rintro e w1 ⟨rfl, rfl⟩)
            go_roundg k1
            case measure => omega
            case rel => exact ⟨i + 1, by rw [ew.out]; simp, ⟨by have := HK.out; omega⟩, ⟨by rw [← HD.out]; exact HAI.out⟩, HCI⟩
    · by_cases e2 : wher A (u : Int) = 2
      · have HV := Aside0.mk (show dropA A (u : Int) = noWh (drop2 A (u : Int) A.n) (u : Int) from by unfold dropA; rw [if_neg e0, if_neg e1, if_pos e2])
        rw [HV.out]
        rw [e2] at HWH
        have c0 := h.c0
        clear h hk HV e0 e1 e2 ht
        have HA0 := Aside0.mk (show At (fun k => S k ∨ W.heap.size ≤ k) W gp (drop2 A (u : Int) 0) bl cl ex r q from by rw [drop2_zero]; exact HA.out.mono (fun k hk => .inl hk))
        go_enter Try.func24, Try.ntmps24
        go_wp2_with (go_at_call 20; (refine HWH.out.mono ?_); rintro e w1 ⟨rfl, hw⟩; subst hw)
        go_loopg [51] A.n (fun kq v51 w' => ∃ (i : Nat) (r' : Nat → Rk), v51 = .int .i64 (i : Int) ∧ Aside0 (i + kq = A.n) ∧ Aside0 (At (fun k => S k ∨ w1.heap.size ≤ k) w' gp (drop2 A (u : Int) i) bl cl ex r' q) ∧ Aside0 (Chg S w1 w'))
        case atStart => exact ⟨0, r, rfl, ⟨by omega⟩, HA0, ⟨Chg.refl _ _⟩⟩
        case round =>
          clear HA0 c0 HWH
          obtain ⟨i, r', rfl, HK, HA3, HC3⟩ := hrel
          rcases gk with _ | k1
          · have d1 : decide ((i : Int) < (A.n : Int)) = false := decide_eq_false (by have := HK.out; omega)
            have d2 : decide (i < A.n) = false := decide_eq_false (by have := HK.out; omega)
            have HE := Aside0.mk (show At (fun k => S k ∨ w1.heap.size ≤ k) wr gp (drop2 A (u : Int) A.n) bl cl ex r' q from by
              have e : i = A.n := by have := HK.out; omega
              have h1 := HA3.out
              rwa [e] at h1)
            have cw := HE.out.cw HU.out
            have fz := blk_frozen HE.out.hg (2 + u)
            go_wp2
            go_ret
            exact ⟨rfl, ⟨r', q, HE.out.setWh HU.out 0⟩, HC3.out.set_ (Or.inl HA.out.s.1) _⟩
          · have HIN := Aside0.mk (show i < A.n from by have := HK.out; omega)
            have d1 : decide ((i : Int) < (A.n : Int)) = true := decide_eq_true (by have := HIN.out; omega)
            have d2 : decide (i < A.n) = true := decide_eq_true HIN.out
            have p1 : (0 ≤ (i : Int)) = True := eq_true (by omega)
            have p2 : ((i : Int) < (A.n : Int)) = True := eq_true (by have := HIN.out; omega)
            have ew : Aside0 (wrap64 ((i : Int) + 1) = (i : Int) + 1) := ⟨by have h1 := HIN.out; have h2 := HA8.out; unfold wrap64; omega⟩
            have HOI := Aside0.mk (show (drop2 A (u : Int) i).own i = A.own i from by show (if i < i then wo (A.own i) (u : Int) else A.own i) = _; rw [if_neg (by omega)])
            have HLE := Aside0.mk (show (A.own i).length ≤ 16 from by have h1 := (HA3.out.own i HIN.out).le; rwa [HOI.out] at h1)
            replace HA3 := Aside0.mk (show At (fun k => S k ∨ w1.heap.size ≤ k) wr.drew gp (drop2 A (u : Int) i) bl cl ex r' q from HA3.out.below (below_drew (Below.refl _ _)))
            replace HC3 := Aside0.mk (Chg.drew HC3.out)
            have HWO := Aside0.mk (show Calls Try.prog 44 #[.pointer (some ⟨(r' i).g, 0, none⟩), .int .i64 16, .int .i64 (u : Int)] wr.drew _ from without_any (HA3.out.own i HIN.out) 16 (by rw [HOI.out]; exact HLE.out) (by decide) (u : Int))
            rw [HOI.out] at HWO
            have HLT := Aside0.mk HA3.out.lts
            have HD := Aside0.mk (drop2_step A (u : Int) i)
            go_upto_region 16 with (fail)
            refine start_ (n := 18) (S := fun w' => w'.cell? ⟨gp, 0, none⟩ = some (.slice (some ⟨bl, 0, none⟩) A.n cl) ∧ w'.cell? ⟨bl, i * 3 + 2, none⟩ = some (.pointer (some ⟨(r' i).g, 0, none⟩))) (ds := [17]) #[false, false, false, false, false, false, false, false, false, false, false, false, false, false, false, false, false, false] (by kernel_rfl) rfl rfl ⟨HA3.out.c0, HA3.out.w2 (i := i) HIN.out⟩ (fun hHeld => ?_)
            refine pure_ (i := 0) (N := some 54) (v := ?_) (a' := ?_) #[true, false, false, false, false, false, false, false, false, false, false, false, false, false, false, false, false, false] rfl rfl (by kernel_rfl) (fun _ _ _ h => h) (Or.inl ⟨by rfl, ?_⟩) ?_ ?_
            rotate_left
            · intro w'
              go_simp
              with_reducible rfl
            rotate_left
            · simp only [Act.put, List.setIfInBounds_toArray, List.set_cons_zero, List.set_cons_succ, i64_w, i32_w]
              rfl
            refine pure_ (i := 1) (N := some 55) (v := ?_) (a' := ?_) #[true, true, false, false, false, false, false, false, false, false, false, false, false, false, false, false, false, false] rfl rfl (by kernel_rfl) (fun _ _ _ h => h) (Or.inl ⟨by rfl, ?_⟩) ?_ ?_
            rotate_left
            · intro w'
              go_simp
              with_reducible rfl
            rotate_left
            · simp only [Act.put, List.setIfInBounds_toArray, List.set_cons_zero, List.set_cons_succ, i64_w, i32_w]
              rfl
            refine pure_ (i := 2) (N := some 56) (v := ?_) (a' := ?_) #[true, true, true, false, false, false, false, false, false, false, false, false, false, false, false, false, false, false] rfl rfl (by kernel_rfl) (fun _ _ _ h => h) (Or.inl ⟨by rfl, ?_⟩) ?_ ?_
            rotate_left
            · intro w'
              go_simp
              with_reducible rfl
            rotate_left
            · simp only [Act.put, List.setIfInBounds_toArray, List.set_cons_zero, List.set_cons_succ, i64_w, i32_w]
              rfl
            refine pure_ (i := 4) (N := some 58) (v := ?_) (a' := ?_) #[true, true, true, false, true, false, false, false, false, false, false, false, false, false, false, false, false, false] rfl rfl (by kernel_rfl) (fun _ _ _ h => h) (Or.inl ⟨by rfl, ?_⟩) ?_ ?_
            rotate_left
            · intro w'
              go_simp
              with_reducible rfl
            rotate_left
            · simp only [Act.put, List.setIfInBounds_toArray, List.set_cons_zero, List.set_cons_succ, i64_w, i32_w]
              rfl
            refine pure_ (i := 5) (N := some 59) (v := ?_) (a' := ?_) #[true, true, true, false, true, true, false, false, false, false, false, false, false, false, false, false, false, false] rfl rfl (by kernel_rfl) (fun _ _ _ h => h) (Or.inl ⟨by rfl, ?_⟩) ?_ ?_
            rotate_left
            · intro w'
              go_simp
              with_reducible rfl
            rotate_left
            · simp only [Act.put, List.setIfInBounds_toArray, List.set_cons_zero, List.set_cons_succ, i64_w, i32_w]
              rfl
            refine pure_ (i := 6) (N := some 60) (v := ?_) (a' := ?_) #[true, true, true, false, true, true, true, false, false, false, false, false, false, false, false, false, false, false] rfl rfl (by kernel_rfl) (fun _ _ _ h => h) (Or.inl ⟨by rfl, ?_⟩) ?_ ?_
            rotate_left
            · intro w'
              go_simp
              with_reducible rfl
            rotate_left
            · simp only [Act.put, List.setIfInBounds_toArray, List.set_cons_zero, List.set_cons_succ, i64_w, i32_w]
              rfl
            refine pure_ (i := 7) (N := some 61) (v := ?_) (a' := ?_) #[true, true, true, false, true, true, true, true, false, false, false, false, false, false, false, false, false, false] rfl rfl (by kernel_rfl) (fun _ _ _ h => h) (Or.inl ⟨by rfl, ?_⟩) ?_ ?_
            rotate_left
            · intro w'
              go_simp
              with_reducible rfl
            rotate_left
            · simp only [Act.put, List.setIfInBounds_toArray, List.set_cons_zero, List.set_cons_succ, i64_w, i32_w]
              rfl
            refine pure_ (i := 9) (N := some 63) (v := ?_) (a' := ?_) #[true, true, true, false, true, true, true, true, false, true, false, false, false, false, false, false, false, false] rfl rfl (by kernel_rfl) (fun _ _ _ h => h) (Or.inl ⟨by rfl, ?_⟩) ?_ ?_
            rotate_left
            · intro w'
              go_simp
              with_reducible rfl
            rotate_left
            · simp only [Act.put, List.setIfInBounds_toArray, List.set_cons_zero, List.set_cons_succ, i64_w, i32_w]
              rfl
            refine pure_ (i := 13) (N := some 67) (v := ?_) (a' := ?_) #[true, true, true, false, true, true, true, true, false, true, false, false, false, true, false, false, false, false] rfl rfl (by kernel_rfl) (fun _ _ _ h => h) (Or.inl ⟨by rfl, ?_⟩) ?_ ?_
            rotate_left
            · intro w'
              go_simp
              with_reducible rfl
            rotate_left
            · simp only [Act.put, List.setIfInBounds_toArray, List.set_cons_zero, List.set_cons_succ, i64_w, i32_w]
              rfl
            refine take_ (i := 3) (N := some 57) (v := ?_) (a' := ?_) #[true, true, true, true, true, true, true, true, false, true, false, false, false, true, false, false, false, false] rfl rfl (by kernel_rfl) (fun _ _ _ h => h) (Or.inl ⟨by rfl, ?_⟩) hHeld ?_ ?_
            rotate_left
            · rintro w' ⟨s0, s1⟩
              go_simp
              with_reducible rfl
            rotate_left
            · simp only [Act.put, List.setIfInBounds_toArray, List.set_cons_zero, List.set_cons_succ, i64_w, i32_w]
              rfl
            refine take_ (i := 8) (N := some 62) (v := ?_) (a' := ?_) #[true, true, true, true, true, true, true, true, true, true, false, false, false, true, false, false, false, false] rfl rfl (by kernel_rfl) (fun _ _ _ h => h) (Or.inl ⟨by rfl, ?_⟩) hHeld ?_ ?_
            rotate_left
            · rintro w' ⟨s0, s1⟩
              go_simp
              with_reducible rfl
            rotate_left
            · simp only [Act.put, List.setIfInBounds_toArray, List.set_cons_zero, List.set_cons_succ, i64_w, i32_w]
              rfl
            refine pure_ (i := 10) (N := some 64) (v := ?_) (a' := ?_) #[true, true, true, true, true, true, true, true, true, true, true, false, false, true, false, false, false, false] rfl rfl (by kernel_rfl) (fun _ _ _ h => h) (Or.inl ⟨by rfl, ?_⟩) ?_ ?_
            rotate_left
            · intro w'
              go_simp
              with_reducible rfl
            rotate_left
            · simp only [Act.put, List.setIfInBounds_toArray, List.set_cons_zero, List.set_cons_succ, i64_w, i32_w]
              rfl
            refine pure_ (i := 11) (N := some 65) (v := ?_) (a' := ?_) #[true, true, true, true, true, true, true, true, true, true, true, true, false, true, false, false, false, false] rfl rfl (by kernel_rfl) (fun _ _ _ h => h) (Or.inl ⟨by rfl, ?_⟩) ?_ ?_
            rotate_left
            · intro w'
              go_simp
              with_reducible rfl
            rotate_left
            · simp only [Act.put, List.setIfInBounds_toArray, List.set_cons_zero, List.set_cons_succ, i64_w, i32_w]
              rfl
            refine take_ (i := 12) (N := some 66) (v := ?_) (a' := ?_) #[true, true, true, true, true, true, true, true, true, true, true, true, true, true, false, false, false, false] rfl rfl (by kernel_rfl) (fun _ _ _ h => h) (Or.inl ⟨by rfl, ?_⟩) hHeld ?_ ?_
            rotate_left
            · rintro w' ⟨s0, s1⟩
              go_simp
              with_reducible rfl
            rotate_left
            · simp only [Act.put, List.setIfInBounds_toArray, List.set_cons_zero, List.set_cons_succ, i64_w, i32_w]
              rfl
            refine one_ (i := 14) (N := some 68) #[true, true, true, true, true, true, true, true, true, true, true, true, true, true, true, false, false, false] rfl rfl (by kernel_rfl) (by decide) (fun K hK => ?_)
            refine goes_ Try.func44 (by kernel_rfl) rfl #[.pointer (some ⟨(r' i).g, 0, none⟩), .int .i64 16, .int .i64 (u : Int)] (by rfl) rfl rfl (by simp only [List.map_toArray, List.map_cons, List.map_nil]; rfl) ?_
            with_reducible refine (HWO.out).mono ?_
            rintro e w4 ⟨g4, b4, rfl, hr, h1, h2, hb⟩
            refine ⟨_, rfl, ?_⟩
            have HA4 := Aside0.mk (HA3.out.below hb)
            have HR4 := Aside0.mk hr
            have HG4 := Aside0.mk h1
            have HB4 := Aside0.mk h2
            have HC4 := Aside0.mk (HC3.out.trans (Chg.of_below hb))
            have HBB4 := Aside0.mk hb
            clear hr h1 h2 hb
            have s2 := HA4.out.w2 (i := i) HIN.out
            have fz2 := blk_frozen HA4.out.hl (i * 3 + 2)
            refine hK.out _ _ ⟨HA4.out.c0, HA4.out.w2 (i := i) HIN.out⟩ (fun hHeld => ?_)
            clear hK K
            refine norm_ (a' := ?_) ?_ ?_
            rotate_left
            · show Act.put _ (some 68) _ = _
              simp only [Act.put, List.setIfInBounds_toArray, List.set_cons_zero, List.set_cons_succ, i64_w, i32_w]
              rfl
            refine pure_ (i := 15) (N := some 69) (v := ?_) (a' := ?_) #[true, true, true, true, true, true, true, true, true, true, true, true, true, true, true, true, false, false] rfl rfl (by kernel_rfl) (fun _ _ _ h => h) (Or.inl ⟨by rfl, ?_⟩) ?_ ?_
            rotate_left
            · intro w'
              go_simp
              with_reducible rfl
            rotate_left
            · simp only [Act.put, List.setIfInBounds_toArray, List.set_cons_zero, List.set_cons_succ, i64_w, i32_w]
              rfl
            refine pure_ (i := 16) (N := some 70) (v := ?_) (a' := ?_) #[true, true, true, true, true, true, true, true, true, true, true, true, true, true, true, true, true, false] rfl rfl (by kernel_rfl) (fun _ _ _ h => h) (Or.inl ⟨by rfl, ?_⟩) ?_ ?_
            rotate_left
            · intro w'
              go_simp
              with_reducible rfl
            rotate_left
            · simp only [Act.put, List.setIfInBounds_toArray, List.set_cons_zero, List.set_cons_succ, i64_w, i32_w]
              rfl
            refine last_ (i := 17) (N := none) #[true, true, true, true, true, true, true, true, true, true, true, true, true, true, true, true, true, true] rfl rfl (by kernel_rfl) (by decide) (fun K hK => ?_)
            refine skip_ (w1 := ?_) (by rfl) rfl ?_ ?_
            rotate_left
            · go_simp
              rfl
            refine hK.out _ _ ?_
            clear hK K
            refine done_ (by kernel_rfl) ?_
            have HA5 := Aside0.mk (HA4.out.newOwn (i := i) HIN.out ⟨Or.inr (by have h1 := HC3.out.size; have h2 := HG4.out; omega), Or.inr (by have h1 := HC3.out.size; have h2 := HB4.out; omega)⟩ HR4.out HG4.out HB4.out HLT.out.1 HLT.out.2)
            have HC5 := Aside0.mk (HC4.out.set_ (p := ⟨bl, i * 3 + 2, none⟩) (Or.inl HA.out.s.2.1) (.pointer (some ⟨g4, 0, none⟩)))
            rw [HD.out] at HA5
            go_wp2
            go_roundg k1
            case measure => omega
            case rel => exact ⟨i + 1, _, by rw [ew.out]; simp, ⟨by have := HK.out; omega⟩, HA5, HC5⟩
      · have HV := Aside0.mk (show dropA A (u : Int) = noWh (drop3 A (u : Int)) (u : Int) from by unfold dropA; rw [if_neg e0, if_neg e1, if_neg e2])
        rw [HV.out]
        have d0 : (wher A (u : Int) == 0) = false := beq_eq_false_iff_ne.2 e0
        have d1 : (wher A (u : Int) == 1) = false := beq_eq_false_iff_ne.2 e1
        have d2 : (wher A (u : Int) == 2) = false := beq_eq_false_iff_ne.2 e2
        have c0 := h.c0
        have c1 := h.c1
        have HWO := Aside0.mk (show Calls Try.prog 44 #[.pointer (some ⟨q.g, 0, none⟩), .int .i64 64, .int .i64 (u : Int)] W _ from without_any h.glob 64 h.glob.le (by decide) (u : Int))
        clear h hk HV e0 e1 e2 ht
        generalize wher A (u : Int) = wv at *
        have HLT := Aside0.mk HA.out.lts
        go_enter Try.func24, Try.ntmps24
        go_upto_region 18 with (first
          | (go_at_call 20; (refine HWH.out.mono ?_); rintro e w1 ⟨rfl, hw⟩; subst hw)
          | (go_at_call 44; (refine HWO.out.mono ?_); rintro e w4 ⟨g4, b4, rfl, hr, h1, h2, hb⟩; have HA4 := Aside0.mk ((HA.out.below hb).mono (fun k hk => (Or.inl hk : S k ∨ w1.heap.size ≤ k))); have HR4 := Aside0.mk hr; have HG4 := Aside0.mk h1; have HB4 := Aside0.mk h2; have HC4 := Aside0.mk (Chg.of_below (S := S) hb); clear hr h1 h2 hb; have z1 := HA4.out.c1; have fz1 := blk_frozen HA4.out.hg 1))
        have HA5 := Aside0.mk (HA4.out.newGl ⟨Or.inr HG4.out, Or.inr HB4.out⟩ HR4.out HG4.out HB4.out HLT.out.1)
        have HC5 := Aside0.mk (HC4.out.set_ (p := ⟨gp, 1, none⟩) (Or.inl HA.out.s.1) (.pointer (some ⟨g4, 0, none⟩)))
        clear z1 fz1 c0 c1
        generalize w4.setCell ⟨gp, 1, none⟩ (.pointer (some ⟨g4, 0, none⟩)) = w5 at *
        have cw := HA5.out.cw HU.out
        have fz := blk_frozen HA5.out.hg (2 + u)
        go_wp2
        go_ret
        exact ⟨rfl, ⟨r, _, HA5.out.setWh HU.out 0⟩, HC5.out.set_ (Or.inl HA.out.s.1) _⟩
end
end Go.Proofs.Ytjcjhmnfknenlaa.Pl
