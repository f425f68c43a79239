/- Go functions as plain Lean functions, and that the calls come to them. Conditions: none. (Written by a program of this session.) -/
import Derived.Test.YtbfbegleffkafaaDoorPCycleAgreesx0
import Derived.Test.YtbfbegleffkafaaDoorPCycleAgreesx3
namespace Go.Proofs.YtbfbegleffkafaaDoor.PCycleAgrees
open Go.RowKit Go.Proofs.YtbfbegleffkafaaDoorW.PrintWords Go.Proofs.YtbfbegleffkafaaDoorW.PrintLast Go.Proofs.YtbfbegleffkafaaDoorW.PrintMore
attribute [local go_sem] max2_int min2_int max_two min_two max_three min_three max_four min_four   -- for this text's walks alone
set_option linter.unusedVariables false
set_option linter.unusedSimpArgs false

/-! ### cycle_Doomed: function 13 -/
-- by hand
open Ch (Chg)
namespace Cy
/-! ### sets as numbers -/
theorem one_f {t : Nat} (ht : t < 64) : bits_one.f (t : Int) = some ((2 ^ t : Nat) : Int) := by
  unfold bits_one.f
  rw [if_neg (by omega), if_neg (by omega), if_pos (by omega), Bt.shl_one ht]
theorem has_f {s t : Nat} (hs : s < Bt.top) (ht : t < 64) : bits_Set_Has.f (s : Int) (t : Int) = some (s.testBit t) := by
  unfold bits_Set_Has.f
  rw [one_f ht, Option.bind_some, Bt.has_int hs ht]
theorem with_f {s t : Nat} (hs : s < Bt.top) (ht : t < 64) : bits_Set_With.f (s : Int) (t : Int) = some ((s ||| 2 ^ t : Nat) : Int) := by
  unfold bits_Set_With.f
  rw [one_f ht, Option.bind_some, Bt.or_nat hs (Bt.lt_pow ht)]
theorem without_f {s t : Nat} (hs : s < Bt.top) (ht : t < 64) : bits_Set_Without.f (s : Int) (t : Int) = some ((Bt.sub s (2 ^ t) : Nat) : Int) := by
  unfold bits_Set_Without.f
  rw [one_f ht, Option.bind_some, Bt.andNot_nat hs (Bt.lt_pow ht)]
theorem has_any {s t : Nat} (hs : s < Bt.top) (ht : t < 64) (W : World) : Calls Tryd.prog 49 #[.int .u64 (s : Int), .int .i64 (t : Int)] W fun e w' => e = .returned (.bool (s.testBit t)) ∧ ∃ n, w' = W.drewN n :=
  (bits_Set_Has.calls _ _ _ W (has_f hs ht)).mono fun e w' ⟨h, h2⟩ => ⟨h, h2.out⟩
theorem with_any {s t : Nat} (hs : s < Bt.top) (ht : t < 64) (W : World) : Calls Tryd.prog 52 #[.int .u64 (s : Int), .int .i64 (t : Int)] W fun e w' => e = .returned (.int .u64 ((s ||| 2 ^ t : Nat) : Int)) ∧ ∃ n, w' = W.drewN n :=
  (bits_Set_With.calls _ _ _ W (with_f hs ht)).mono fun e w' ⟨h, h2⟩ => ⟨h, h2.out⟩
theorem without_any {s t : Nat} (hs : s < Bt.top) (ht : t < 64) (W : World) : Calls Tryd.prog 69 #[.int .u64 (s : Int), .int .i64 (t : Int)] W fun e w' => e = .returned (.int .u64 ((Bt.sub s (2 ^ t) : Nat) : Int)) ∧ ∃ n, w' = W.drewN n :=
  (bits_Set_Without.calls _ _ _ W (without_f hs ht)).mono fun e w' ⟨h, h2⟩ => ⟨h, h2.out⟩

/-! ### the walk through a graph, on plain numbers -/
structure St where
  o : Nat
  d : Nat
  b : Nat
structure St.ok (s : St) : Prop where
  o : s.o < Bt.top
  d : s.d < Bt.top
  b : s.b < Bt.top
def loop (v : Nat → St → St × Bool) (t : Nat) : List Nat → St → St
  | [], s => s
  | u :: l, s => if (v u s).2 = true then { (v u s).1 with b := (v u s).1.b ||| 2 ^ t } else loop v t l (v u s).1
def visit (G : List (List Nat)) : Nat → Nat → St → St × Bool
  | 0, _, s => (s, false)
  | k + 1, t, s =>
    if s.o.testBit t = true then (s, true) else if s.d.testBit t = true then (s, s.b.testBit t) else
      let s2 := loop (visit G k) t (G.getD t []) { s with o := s.o ||| 2 ^ t }
      ({ s2 with o := Bt.sub s2.o (2 ^ t), d := s2.d ||| 2 ^ t }, s2.b.testBit t)
/-- How many are not open. -/
def left (o : Nat) : Nat := (List.range 64).countP fun i => !o.testBit i
theorem countP_lt {p q : Nat → Bool} (h : ∀ x, p x = true → q x = true) {t : Nat} (h1 : q t = true) (h2 : p t = false) : ∀ l : List Nat, t ∈ l → l.countP p < l.countP q := by
  intro l
  induction l with
  | nil => intro h; cases h
  | cons a l ih =>
    intro hm
    have hle : l.countP p ≤ l.countP q := List.countP_mono_left (fun x _ => h x)
    simp only [List.countP_cons]
    by_cases e : a = t
    · subst e
      rw [h1, h2]
      simp
      omega
    · have hm' : t ∈ l := by
        rcases List.mem_cons.1 hm with q | q
        · exact absurd q.symm e
        · exact q
      have h3 := ih hm'
      have h4 := h a
      cases c1 : p a
      · cases c2 : q a <;> simp <;> omega
      · rw [h4 c1]
        simp
        omega
theorem left_with {o t : Nat} (ht : t < 64) (h : o.testBit t = false) : left (o ||| 2 ^ t) < left o := by
  unfold left
  refine countP_lt (t := t) (fun x => ?_) (by rw [h]; rfl) (by rw [Bt.tb_or, Bt.tb_pow]; simp) _ (by simpa using ht)
  rw [Bt.tb_or]
  cases o.testBit x <;> simp
theorem left_le (o : Nat) : left o ≤ 64 := by
  unfold left
  exact Nat.le_trans List.countP_le_length (by simp)
theorem sub_with {o t : Nat} (ho : o < Bt.top) (ht : t < 64) (h : o.testBit t = false) : Bt.sub (o ||| 2 ^ t) (2 ^ t) = o := by
  apply Bt.ext (Bt.lt_sub (Bt.lt_or ho (Bt.lt_pow ht))) ho
  intro i hi
  rw [Bt.tb_sub (Bt.lt_pow ht) i hi, Bt.tb_or, Bt.tb_pow]
  by_cases e : t = i
  · subst e; simp [h]
  · simp [e]
def In (G : List (List Nat)) : Prop := ∀ l ∈ G, ∀ u ∈ l, u < 64
theorem In.at {G : List (List Nat)} (h : In G) (t : Nat) : ∀ u ∈ G.getD t [], u < 64 := by
  intro u hu
  rw [List.getD_eq_getElem?_getD] at hu
  rcases Nat.lt_or_ge t G.length with ht | ht
  · rw [List.getElem?_eq_getElem ht, Option.getD_some] at hu
    exact h _ (List.getElem_mem ht) u hu
  · rw [List.getElem?_eq_none ht, Option.getD_none] at hu
    cases hu
theorem loop_ok {v : Nat → St → St × Bool} {t : Nat} (ht : t < 64) (hv : ∀ u s, u < 64 → s.ok → (v u s).1.ok ∧ (v u s).1.o = s.o) : ∀ (l : List Nat) (s : St), (∀ u ∈ l, u < 64) → s.ok → (loop v t l s).ok ∧ (loop v t l s).o = s.o := by
  intro l
  induction l with
  | nil => intro s _ h; exact ⟨h, rfl⟩
  | cons u l ih =>
    intro s hl h
    have h1 := hv u s (hl u (by simp)) h
    simp only [loop]
    split
    · exact ⟨⟨h1.1.o, h1.1.d, Bt.lt_or h1.1.b (Bt.lt_pow ht)⟩, h1.2⟩
    · have := ih (v u s).1 (fun x hx => hl x (by simp [hx])) h1.1
      exact ⟨this.1, this.2.trans h1.2⟩
theorem visit_ok {G : List (List Nat)} (hG : In G) : ∀ (k t : Nat) (s : St), t < 64 → s.ok → (visit G k t s).1.ok ∧ (visit G k t s).1.o = s.o := by
  intro k
  induction k with
  | zero => intro t s _ h; exact ⟨h, rfl⟩
  | succ k ih =>
    intro t s ht h
    simp only [visit]
    split
    · exact ⟨h, rfl⟩
    · rename_i c1
      split
      · exact ⟨h, rfl⟩
      · have h2 := loop_ok (v := visit G k) ht (fun u s hu hs => ih u s hu hs) (G.getD t []) { s with o := s.o ||| 2 ^ t } (hG.at t) ⟨Bt.lt_or h.o (Bt.lt_pow ht), h.d, h.b⟩
        refine ⟨⟨Bt.lt_sub h2.1.o, Bt.lt_or h2.1.d (Bt.lt_pow ht), h2.1.b⟩, ?_⟩
        show Bt.sub _ _ = _
        rw [h2.2]
        exact sub_with h.o ht (by simpa using c1)
end Cy
namespace Cy
def ints (l : List Nat) : List Int := l.map fun (n : Nat) => (n : Int)
theorem ints_len (l : List Nat) : (ints l).length = l.length := by simp [ints]
theorem rd_ints (l : List Nat) (i : Nat) : rd (ints l) (i : Int) = ((l.getD i 0 : Nat) : Int) := by
  unfold rd ints
  simp only [List.getD_eq_getElem?_getD, Int.toNat_natCast, List.getElem?_map]
  cases l[i]? <;> rfl
/-- The walk's block g: the row of rows v (nx) and three sets. -/
structure At (W : World) (base g : Nat) (v : Value) (nx : List (List Int)) (s : St) : Prop where
  hg : W.heap[g]? = some (.cells #[v, .int .u64 (s.o : Int), .int .u64 (s.d : Int), .int .u64 (s.b : Int)] 73 (0, 0))
  hr : (Kd.slice 3 (Kd.int .i64)).R 28 W base (fun k => k ≠ g) v nx
section
variable {W W' : World} {base g : Nat} {v : Value} {nx : List (List Int)} {s : St}
theorem At.drewN (h : At W base g v nx s) (n : Nat) : At (W.drewN n) base g v nx s := ⟨h.hg, Kd.R_drewN h.hr n⟩
theorem At.drew (h : At W base g v nx s) : At W.drew base g v nx s := ⟨h.hg, Kd.R_drew h.hr⟩
theorem At.setO (h : At W base g v nx s) (x : Nat) : At (W.setCell ⟨g, 1, none⟩ (.int .u64 (x : Int))) base g v nx { s with o := x } :=
  ⟨blk_put h.hg 1 _ rfl, Kd.R_far h.hr (fun _ hk => hk) _⟩
theorem At.setD (h : At W base g v nx s) (x : Nat) : At (W.setCell ⟨g, 2, none⟩ (.int .u64 (x : Int))) base g v nx { s with d := x } :=
  ⟨blk_put h.hg 2 _ rfl, Kd.R_far h.hr (fun _ hk => hk) _⟩
theorem At.setB (h : At W base g v nx s) (x : Nat) : At (W.setCell ⟨g, 3, none⟩ (.int .u64 (x : Int))) base g v nx { s with b := x } :=
  ⟨blk_put h.hg 3 _ rfl, Kd.R_far h.hr (fun _ hk => hk) _⟩
theorem At.c0 (h : At W base g v nx s) : W.cell? ⟨g, 0, none⟩ = some v := (blk_cell h.hg 0).trans rfl
theorem At.c1 (h : At W base g v nx s) : W.cell? ⟨g, 1, none⟩ = some (.int .u64 (s.o : Int)) := (blk_cell h.hg 1).trans rfl
theorem At.c2 (h : At W base g v nx s) : W.cell? ⟨g, 2, none⟩ = some (.int .u64 (s.d : Int)) := (blk_cell h.hg 2).trans rfl
theorem At.c3 (h : At W base g v nx s) : W.cell? ⟨g, 3, none⟩ = some (.int .u64 (s.b : Int)) := (blk_cell h.hg 3).trans rfl
theorem At.form (h : At W base g v nx s) (hp : 0 < nx.length) : ∃ gv c, v = .slice (some ⟨gv, 0, none⟩) nx.length c := by
  obtain ⟨gv, c, e, _⟩ := Kd.R_form h.hr hp
  exact ⟨gv, c, e⟩
theorem At.row {gv c : Nat} (h : At W base g (.slice (some ⟨gv, 0, none⟩) nx.length c) nx s) {t : Nat} (ht : t < nx.length) :
    ∃ A0 c0, W.cell? ⟨gv, t, none⟩ = some (.slice A0 (nx.getD t []).length c0) ∧ (Kd.int .i64).R 3 W base (fun k => k ≠ g) (.slice A0 (nx.getD t []).length c0) (nx.getD t []) := by
  obtain ⟨cs, hl, ⟨v0, rfl, hM⟩, hc, _⟩ := Kd.R_elem h.hr ([] : List Int) (t : Int) (by omega) (by omega)
  have hx : W.cell? ⟨gv, (t : Int).toNat * 1 + 0, none⟩ = some v0 := hc 0 v0 rfl
  have hM' : (Kd.int .i64).R 3 W base (fun k => k ≠ g ∧ k ≠ gv) v0 (nx.getD t []) := hM
  obtain ⟨A0, c0, rfl⟩ := Kd.R_slice hM'
  rw [Int.toNat_natCast, Nat.mul_one, Nat.add_zero] at hx
  exact ⟨A0, c0, hx, Kd.R_mono hM' (fun k hk => hk.1)⟩
end

set_option maxHeartbeats 4000000 in
set_option maxRecDepth 100000 in
theorem visit_any {G : List (List Nat)} (hG : ∀ l ∈ G, ∀ u ∈ l, u < G.length) (hn : G.length ≤ 64) {base g gv c : Nat} : ∀ (k t : Nat) (s : St) (W : World), t < G.length → left s.o < k → s.ok →
    At W base g (.slice (some ⟨gv, 0, none⟩) (G.map ints).length c) (G.map ints) s →
    Calls Tryd.prog 45 #[.pointer (some ⟨g, 0, none⟩), .int .i64 (t : Int)] W fun e w' => e = .returned (.bool (visit G k t s).2) ∧ Aside0 (At w' base g (.slice (some ⟨gv, 0, none⟩) (G.map ints).length c) (G.map ints) (visit G k t s).1) ∧ Aside0 (Chg (· = g) W w') := by
  have hIn : In G := fun l hl u hu => by have := hG l hl u hu; omega
  intro k
  induction k with
  | zero => intro t s W _ h; omega
  | succ k ih =>
    intro t s W ht hk hs HA
    have HG := Aside0.mk hG
    have HN := Aside0.mk hn
    have HI := Aside0.mk hIn
    have IH := Aside0.mk ih
    have HT := Aside0.mk ht
    have HK := Aside0.mk hk
    have HS := Aside0.mk hs
    have HA0 := Aside0.mk HA
    have c1 := HA.c1
    have c2 := HA.c2
    have c3 := HA.c3
    clear hG hn hIn ih ht hk hs HA
    cases q1 : s.o.testBit t with
    | true =>
      have e1 : visit G (k + 1) t s = (s, true) := by simp only [visit]; rw [if_pos q1]
      have E1 := Aside0.mk e1
      clear e1
      go_enter Tryd.func45, Tryd.ntmps45
      go_wp2_with (go_at_call 49; refine (has_any HS.out.o (by have := HT.out; have := HN.out; omega) _).mono ?_; rintro e w' ⟨rfl, n, rfl⟩)
      go_ret
      rw [E1.out]
      exact ⟨rfl, ⟨HA0.out.drewN n⟩, ⟨(Chg.refl _ _).drewN n⟩⟩
    | false =>
      cases q2 : s.d.testBit t with
      | true =>
        have E1 := Aside0.mk (show visit G (k + 1) t s = (s, s.b.testBit t) from by simp only [visit]; rw [if_neg (by rw [q1]; decide), if_pos q2])
        go_enter Tryd.func45, Tryd.ntmps45
        go_wp2_with (first
          | (go_at_call 49; (with_reducible refine (has_any (s := s.o) HS.out.o (by have := HT.out; have := HN.out; omega) _).mono ?_); rintro e w' ⟨rfl, n, rfl⟩)
          | (go_at_call 49; (with_reducible refine (has_any (s := s.d) HS.out.d (by have := HT.out; have := HN.out; omega) _).mono ?_); rintro e w' ⟨rfl, n2, rfl⟩)
          | (go_at_call 49; (with_reducible refine (has_any (s := s.b) HS.out.b (by have := HT.out; have := HN.out; omega) _).mono ?_); rintro e w' ⟨rfl, n3, rfl⟩))
        go_ret
        rw [E1.out]
        exact ⟨rfl, ⟨HA0.out.drewN _⟩, ⟨(Chg.refl _ _).drewN _⟩⟩
      | false =>
        have E1 := Aside0.mk (show visit G (k + 1) t s = (let s2 := loop (visit G k) t (G.getD t []) { s with o := s.o ||| 2 ^ t }
          ({ s2 with o := Bt.sub s2.o (2 ^ t), d := s2.d ||| 2 ^ t }, s2.b.testBit t)) from by simp only [visit]; rw [if_neg (by rw [q1]; decide), if_neg (by rw [q2]; decide)])
        have HLF := Aside0.mk (left_with (o := s.o) (show t < 64 by have := HT.out; have := HN.out; omega) q1)
        have fz := blk_frozen HA0.out.hg 1
        go_enter Tryd.func45, Tryd.ntmps45
        go_upto_region 6 with (first
          | (go_at_call 49; (with_reducible refine (has_any (s := s.o) HS.out.o (by have := HT.out; have := HN.out; omega) _).mono ?_); rintro e w' ⟨rfl, n, rfl⟩)
          | (go_at_call 49; (with_reducible refine (has_any (s := s.d) HS.out.d (by have := HT.out; have := HN.out; omega) _).mono ?_); rintro e w' ⟨rfl, n2, rfl⟩)
          | (go_at_call 52; (with_reducible refine (with_any (s := s.o) HS.out.o (by have := HT.out; have := HN.out; omega) _).mono ?_); rintro e w' ⟨rfl, n3, rfl⟩))
        have HA1 := Aside0.mk ((HA0.out.drewN (n + n2 + n3)).setO (s.o ||| 2 ^ t))
        have HC1 := Aside0.mk (((Chg.refl (· = g) W).drewN (n + n2 + n3)).set_ (p := ⟨g, 1, none⟩) (.inl rfl) (.int .u64 ((s.o ||| 2 ^ t : Nat) : Int)))
        generalize (W.drewN (n + n2 + n3)).setCell ⟨g, 1, none⟩ (.int .u64 ((s.o ||| 2 ^ t : Nat) : Int)) = w1 at *
        have HS1 := Aside0.mk (show ({ s with o := s.o ||| 2 ^ t } : St).ok from ⟨Bt.lt_or HS.out.o (Bt.lt_pow (by have := HT.out; have := HN.out; omega)), HS.out.d, HS.out.b⟩)
        clear c1 c2 c3 fz HA0 q1 q2
        obtain ⟨s1, hs1⟩ : ∃ s1 : St, s1 = { s with o := s.o ||| 2 ^ t } := ⟨_, rfl⟩
        have HL1 := Aside0.mk (show left s1.o < k from by rw [hs1]; have := HLF.out; have := HK.out; show left (s.o ||| 2 ^ t) < k; omega)
        have E1 := Aside0.mk (show visit G (k + 1) t s = (let s2 := loop (visit G k) t (G.getD t []) s1
          ({ s2 with o := Bt.sub s2.o (2 ^ t), d := s2.d ||| 2 ^ t }, s2.b.testBit t)) from by rw [hs1]; exact E1.out)
        rw [← hs1] at HS1 HA1
        clear hs1
        have c0 := HA1.out.c0
        have hlen : (G.map ints).length = G.length := by simp
        obtain ⟨A0, cr, hrow, hir⟩ := HA1.out.row (t := t) (by rw [hlen]; exact HT.out)
        have hgr : (G.map ints).getD t [] = ints (G.getD t []) := by
          rw [List.getD_eq_getElem?_getD, List.getD_eq_getElem?_getD, List.getElem?_map]
          cases G[t]? <;> rfl
        rw [hgr] at hrow hir
        have HIR := Aside0.mk hir
        have p1 : (0 ≤ (t : Int)) = True := eq_true (by omega)
        have p2 : ((t : Int) < ((G.map ints).length : Int)) = True := eq_true (by rw [hlen]; have := HT.out; omega)
        clear hlen hgr hir
        obtain ⟨L, hL⟩ : ∃ L, L = G.getD t [] := ⟨_, rfl⟩
        rw [← hL] at E1 hrow HIR
        have HLB := Aside0.mk (show ∀ u ∈ L, u < G.length from by
          intro u hu
          rw [hL, List.getD_eq_getElem?_getD, List.getElem?_eq_getElem HT.out] at hu
          exact HG.out _ (List.getElem_mem HT.out) u hu)
        clear hL
        obtain ⟨nG, hnG⟩ : ∃ m, m = (G.map ints).length := ⟨_, rfl⟩
        rw [← hnG] at c0 p2 HA1
        have HNG := Aside0.mk hnG
        clear hnG
        go_upto_block 0 with (fail)
        have H0 := Aside0.mk (show loop (visit G k) t (L.drop 0) s1 = loop (visit G k) t L s1 from by rw [List.drop_zero])
        obtain ⟨s2, hs2⟩ : ∃ s2, s2 = loop (visit G k) t L s1 := ⟨_, rfl⟩
        rw [← hs2] at H0 E1
        have HO2 := Aside0.mk (show s2.ok ∧ s2.o = s1.o from by
          rw [hs2]
          exact loop_ok (by have := HT.out; have := HN.out; omega) (fun u s hu hs => visit_ok HI.out k u s hu hs) L s1 (fun u hu => by have := HLB.out u hu; have := HN.out; omega) HS1.out)
        clear hs2
        obtain ⟨nL, hnL⟩ : ∃ m, m = (ints L).length := ⟨_, rfl⟩
        rw [← hnL] at hrow HIR
        try rw [← hnL]
        have HNL := Aside0.mk hnL
        clear hnL
        go_cut [42] (fun v42 wc => Aside0 (At wc base g (.slice (some ⟨gv, 0, none⟩) nG c) (G.map ints) s2) ∧ Aside0 (Chg (· = g) W wc))
        case first =>
          clear hrow c0
          go_wp2
          go_loopg [42] L.length (fun kq v42 w' => ∃ (i : Nat) (si : St), v42 = .int .i64 (i : Int) ∧ Aside0 (i + kq = L.length) ∧ Aside0 (loop (visit G k) t (L.drop i) si = s2) ∧ Aside0 (si.ok ∧ left si.o < k) ∧ Aside0 (At w' base g (.slice (some ⟨gv, 0, none⟩) nG c) (G.map ints) si) ∧ Aside0 (Chg (· = g) W w') ∧ Aside0 ((Kd.int .i64).R 3 w' base (fun k => k ≠ g) (.slice A0 nL cr) (ints L)))
          case atStart => exact ⟨0, s1, rfl, ⟨by omega⟩, H0, ⟨HS1.out, HL1.out⟩, HA1, HC1, HIR⟩
          case round =>
            clear HA1 HC1 HIR H0 HS1
            obtain ⟨i, si, rfl, HI1, HE, HSI, HA, HC, HR⟩ := hrel
            rcases gk with _ | k1
            · have hi := HI1.out
              have d1 : decide ((i : Int) < (nL : Int)) = false := decide_eq_false (by rw [HNL.out, ints_len]; omega)
              have d2 : decide (i < nL) = false := decide_eq_false (by rw [HNL.out, ints_len]; omega)
              have HE2 := Aside0.mk (show si = s2 from by rw [← HE.out, List.drop_of_length_le (by omega)]; rfl)
              clear hi
              go_wp2
              first | go_meet | (go_step; go_meet) | (go_step; go_step; go_meet)
              case rel => exact ⟨by rw [← HE2.out]; exact HA, HC⟩
            · have hi := HI1.out
              have hil : i < L.length := by omega
              have d1 : decide ((i : Int) < (nL : Int)) = true := decide_eq_true (by rw [HNL.out, ints_len]; omega)
              have d2 : decide (i < nL) = true := decide_eq_true (by rw [HNL.out, ints_len]; omega)
              obtain ⟨ad, ead, hx⟩ := Kd.at_int (Kd.R_reads' HR.out).2.2 (i : Int) (by omega) (by rw [ints_len]; omega)
              subst ead
              have HMX := Aside0.mk (show L.length ≤ 9223372036854775807 from by have := Kd.C_max (Kd.R_reads' HR.out).2.2; rwa [ints_len] at this)
              rw [rd_ints, Int.toNat_natCast] at hx
              have q1 : (0 ≤ (i : Int)) = True := eq_true (by omega)
              have q2 : ((i : Int) < (nL : Int)) = True := eq_true (by rw [HNL.out, ints_len]; omega)
              have HU := Aside0.mk (HLB.out (L.getD i 0) (by rw [List.getD_eq_getElem?_getD, List.getElem?_eq_getElem hil]; exact List.getElem_mem hil))
              have HD := Aside0.mk (show L.drop i = L.getD i 0 :: L.drop (i + 1) from by rw [List.drop_eq_getElem_cons hil, List.getD_eq_getElem?_getD, List.getElem?_eq_getElem hil]; rfl)
              obtain ⟨u, hu⟩ : ∃ u, u = L.getD i 0 := ⟨_, rfl⟩
              rw [← hu] at hx HU HD
              clear hu hi hil
              have HE2 := Aside0.mk (show (if (visit G k u si).2 = true then { (visit G k u si).1 with b := (visit G k u si).1.b ||| 2 ^ t } else loop (visit G k) t (L.drop (i + 1)) (visit G k u si).1) = s2 from by rw [← HE.out, HD.out]; rfl)
              have HV := Aside0.mk (visit_ok HI.out k u si (by have := HU.out; have := HN.out; omega) HSI.out.1)
              have HW := Aside0.mk (fun W' hA => IH.out u si W' HU.out HSI.out.2 HSI.out.1 hA)
              have HAc := Aside0.mk (show At wr base g (.slice (some ⟨gv, 0, none⟩) (G.map ints).length c) (G.map ints) si from by rw [← HNG.out]; exact HA.out)
              clear HE HD HA
              obtain ⟨r, hr⟩ : ∃ r, r = visit G k u si := ⟨_, rfl⟩
              rw [← hr] at HE2 HV HW
              clear hr
              obtain ⟨sv, b⟩ := r
              cases b with
              | true =>
                go_upto_region 10 with (go_at_call 45; refine (HW.out _ HAc.out).mono ?_; rintro e w2 ⟨rfl, HA2, HC2⟩)
                have c3 := HA2.out.c3
                have fz := blk_frozen HA2.out.hg 3
                go_wp2_with (go_at_call 52; (with_reducible refine (with_any (s := sv.b) HV.out.1.b (by have := HT.out; have := HN.out; omega) _).mono ?_); rintro e w' ⟨rfl, n4, rfl⟩)
                first | go_meet | (go_step; go_meet) | (go_step; go_step; go_meet)
                case rel =>
                  have e2 : ({ sv with b := sv.b ||| 2 ^ t } : St) = s2 := by simpa using HE2.out
                  refine ⟨?_, ⟨((HC.out.trans HC2.out).drewN n4).set_ (.inl rfl) _⟩⟩
                  rw [← e2, HNG.out]
                  exact ⟨(HA2.out.drewN n4).setB _⟩
              | false =>
                go_wp2_with (go_at_call 45; refine (HW.out _ HAc.out).mono ?_; rintro e w2 ⟨rfl, HA2, HC2⟩)
                go_roundg k1
                case measure => omega
                case rel =>
                  have e2 : loop (visit G k) t (L.drop (i + 1)) sv = s2 := by simpa using HE2.out
                  exact ⟨i + 1, sv, by have h1 := HMX.out; have h2 := HI1.out; rw [show wrap64 ((i : Int) + 1) = (i : Int) + 1 from by unfold wrap64; omega]; simp, ⟨by have := HI1.out; omega⟩, ⟨e2⟩, ⟨HV.out.1, by rw [HV.out.2]; exact HSI.out.2⟩, by rw [HNG.out]; exact HA2, ⟨HC.out.trans HC2.out⟩, ⟨Kd.R_step HR.out (fun q hq hlt => HC2.out.block q hlt hq)⟩⟩
        case rest =>
          obtain ⟨HA3, HC3⟩ := hcut
          have HH : Aside0 (At wc base g (.slice (some ⟨gv, 0, none⟩) (G.map ints).length c) (G.map ints) s2) := by rw [← HNG.out]; exact HA3
          clear HA1 HC1 HIR HA3 hrow c0 H0
          have c1 := HH.out.c1
          have c2 := HH.out.c2
          have fz1 := blk_frozen HH.out.hg 1
          have fz2 := blk_frozen HH.out.hg 2
          go_upto_region 12 with (fail)
          go_cut [4] (fun v4 wd => v4 = .bool false ∧ Aside0 (At wd base g (.slice (some ⟨gv, 0, none⟩) (G.map ints).length c) (G.map ints) { s2 with o := Bt.sub s2.o (2 ^ t), d := s2.d ||| 2 ^ t }) ∧ Aside0 (Chg (· = g) W wd))
          case first =>
            go_region_with (first
              | (go_at_call 69; (with_reducible refine (without_any (s := s2.o) HO2.out.1.o (by have := HT.out; have := HN.out; omega) _).mono ?_); rintro e w' ⟨rfl, n5, rfl⟩)
              | (go_at_call 52; (with_reducible refine (with_any (s := s2.d) HO2.out.1.d (by have := HT.out; have := HN.out; omega) _).mono ?_); rintro e w' ⟨rfl, n6, rfl⟩))
            all_goals
              first | go_meet | (go_step; go_meet) | (go_step; go_step; go_meet)
              case rel => exact ⟨rfl, ⟨((HH.out.drewN _).setO _).setD _⟩, ⟨((HC3.out.drewN _).set_ (.inl rfl) _).set_ (.inl rfl) _⟩⟩
          case rest =>
            obtain ⟨rfl, HA4, HC4⟩ := hcut
            clear c1 c2 fz1 fz2 HH
            have c3 := HA4.out.c3
            go_wp2_with (go_at_call 49; (with_reducible refine (has_any (s := s2.b) HO2.out.1.b (by have := HT.out; have := HN.out; omega) _).mono ?_); rintro e w' ⟨rfl, n7, rfl⟩)
            go_ret
            rw [E1.out]
            exact ⟨rfl, ⟨HA4.out.drewN _⟩, ⟨HC4.out.drewN _⟩⟩
end Cy
namespace Cy
theorem info28 : (Tryd.prog.info? 28).map (fun i => (i.zero, i.size, i.bytes)) = some (some (.slice none 0 0), 1, 24) := by kernel_rfl
theorem below_mono {B B' : Nat} {w w' : World} (h : Below B w w') (hb : B' ≤ B) : Below B' w w' := ⟨h.os, h.tape, h.output, h.size, fun k hk => h.block k (by omega)⟩
theorem At.below {W W' : World} {base g : Nat} {v : Value} {nx : List (List Int)} {s : St} (h : At W base g v nx s) (hb : Below W.heap.size W W') : At W' base g v nx s :=
  ⟨blk_below h.hg hb, Kd.R_below h.hr hb⟩
def nexts (k : Nat) : List S44 → Option (List (List Int))
  | [] => some []
  | n :: l => (cycle_next.f k n.f0 n.f1).bind fun r => (nexts k l).bind fun rs => some (r :: rs)
theorem nexts_mono (l : List S44) (k : Nat) : LeO (nexts k l) (nexts (k + 1) l) := by
  induction l with
  | nil => exact LeO.refl _
  | cons n l ih => exact LeO.bind (cycle_next.mono _ _ _) (fun _ => LeO.bind ih (fun _ => LeO.refl _))
theorem nexts_len {k : Nat} : ∀ {l : List S44} {nx : List (List Int)}, nexts k l = some nx → nx.length = l.length := by
  intro l
  induction l with
  | nil => intro nx h; injection h with h; subst h; rfl
  | cons n l ih =>
    intro nx h
    obtain ⟨r, h1, h⟩ := Option.bind_eq_some_iff.1 h
    obtain ⟨rs, h2, h⟩ := Option.bind_eq_some_iff.1 h
    injection h with h
    subst h
    simp [ih h2]
def nats (nx : List (List Int)) : List (List Nat) := nx.map fun r => r.map Int.toNat
def okG (nx : List (List Int)) : Prop := nx.length ≤ 64 ∧ ∀ r ∈ nx, ∀ x ∈ r, 0 ≤ x ∧ x < nx.length
instance (nx : List (List Int)) : Decidable (okG nx) := by unfold okG; infer_instance
theorem ints_nats {nx : List (List Int)} (h : okG nx) : (nats nx).map ints = nx := by
  unfold nats
  rw [List.map_map]
  conv => rhs; rw [← List.map_id nx]
  apply List.map_congr_left
  intro r hr
  simp only [Function.comp, ints, List.map_map, id]
  conv => rhs; rw [← List.map_id r]
  apply List.map_congr_left
  intro x hx
  have := h.2 r hr x hx
  simp only [Function.comp, id]
  omega
theorem nats_lt {nx : List (List Int)} (h : okG nx) : ∀ l ∈ nats nx, ∀ u ∈ l, u < (nats nx).length := by
  intro l hl u hu
  unfold nats at hl
  obtain ⟨r, hr, rfl⟩ := List.mem_map.1 hl
  obtain ⟨x, hx, rfl⟩ := List.mem_map.1 hu
  have := h.2 r hr x hx
  simp [nats]
  omega
def upto (G : List (List Nat)) (j : Nat) : St := (List.range j).foldl (fun s t => (visit G 65 t s).1) ⟨0, 0, 0⟩
theorem upto_succ (G : List (List Nat)) (j : Nat) : upto G (j + 1) = (visit G 65 j (upto G j)).1 := by
  unfold upto
  rw [List.range_succ, List.foldl_append]
  rfl
theorem upto_ok {G : List (List Nat)} (hG : In G) : ∀ j, j ≤ 64 → (upto G j).ok ∧ (upto G j).o = 0 := by
  intro j
  induction j with
  | zero => intro _; exact ⟨⟨show 0 < Bt.top by decide, show 0 < Bt.top by decide, show 0 < Bt.top by decide⟩, rfl⟩
  | succ j ih =>
    intro hj
    rw [upto_succ]
    have h := ih (by omega)
    have h2 := visit_ok hG 65 j (upto G j) (by omega) h.1
    exact ⟨h2.1, h2.2.trans h.2⟩
end Cy
open Cy
def cycle_Doomed.f (k : Nat) (l0 : List S44) : Option (Int × Bool) := (cycle_Pure.f k l0).bind fun p => if p = true then (nexts k l0).bind fun nx => if okG nx then some (((upto (nats nx) nx.length).b : Int), true) else none else some (0, false)
theorem cycle_Doomed.mono : ∀ a0 k, LeO (cycle_Doomed.f k a0) (cycle_Doomed.f (k + 1) a0) := by
  intro a0 k
  unfold cycle_Doomed.f
  refine LeO.bind (cycle_Pure.mono _ _) (fun p => ?_)
  refine LeO.ite ?_ (LeO.refl _)
  exact LeO.bind (nexts_mono _ _) (fun _ => LeO.refl _)
set_option maxHeartbeats 8000000 in
set_option maxRecDepth 100000 in
theorem cycle_Doomed.calls (k : Nat) (A0 : Option Addr) (c0 : Nat) (l0 : List S44) (r1 : Int) (r2 : Bool) (w : World) (hr0 : Kd.C k44 w A0 l0.length l0) (hc0 : l0.length ≤ c0) (h : cycle_Doomed.f k l0 = some (r1, r2)) :
    Calls Tryd.prog 13 #[.slice A0 l0.length c0] w fun e w' => e = .returned (.tuple #[.int .u64 r1, .bool r2]) ∧ Below w.heap.size w w' := by
  have hu44 := Tryd.underlying44
  have hu73 := Tryd.underlying73
  have HR0 := Aside0.mk hr0
  have HC0 := Aside0.mk hc0
  clear hr0 hc0
  unfold cycle_Doomed.f at h
  obtain ⟨p, hp, h⟩ := Option.bind_eq_some_iff.1 h
  have HP := Aside0.mk hp
  clear hp
  cases p with
  | false =>
    simp only [Bool.false_eq_true, if_false, Option.some.injEq, Prod.mk.injEq] at h
    obtain ⟨rfl, rfl⟩ := h
    go_enter Tryd.func13, Tryd.ntmps13
    go_wp2_with (go_at_call 16; (with_reducible refine (cycle_Pure.calls k _ _ l0 false _ HR0.out HC0.out HP.out).mono ?_); rintro e w1 ⟨rfl, hb⟩; have HB := Aside0.mk hb; clear hb)
    go_ret2
    exact ⟨rfl, HB.out⟩
  | true =>
    simp only [if_true] at h
    obtain ⟨nx, hnx, h⟩ := Option.bind_eq_some_iff.1 h
    have HNX := Aside0.mk hnx
    clear hnx
    by_cases ho : okG nx
    case neg => rw [if_neg ho] at h; cases h
    rw [if_pos ho] at h
    injection h with h
    injection h with h1 h2
    subst h1 h2
    have HOK := Aside0.mk ho
    clear ho
    have HLN := Aside0.mk (nexts_len HNX.out)
    go_enter Tryd.func13, Tryd.ntmps13
    go_wp2_with (first
      | (go_at_call 16; (with_reducible refine (cycle_Pure.calls k _ _ l0 true _ HR0.out HC0.out HP.out).mono ?_); rintro e w1 ⟨rfl, hb⟩; have HB1 := Aside0.mk hb; clear hb)
      | ((with_reducible refine gate_dst (N := 12) rfl ?_); refine box_event ?hg (N := 12) ?hd (cs := #[.slice none 0 0, .int .u64 0, .int .u64 0, .int .u64 0]) (t := 73) ?hr ?_; (case hd => rfl); (case hg => rfl); (case hr => first | (go_simp; done) | (go_simp; rfl)); intro g hg w3 hbox hb; have HGE := Aside0.mk (show w.heap.size ≤ g from by rw [hg]; exact HB1.out.size); have BX := Aside0.mk hbox; have HB3 := Aside0.mk (below_step HB1.out hb); clear hg hbox hb))
    have HA3 := Aside0.mk (show At w3 w.heap.size g (.slice none 0 0) [] ⟨0, 0, 0⟩ from ⟨BX.out, Kd.R_nil _ _ _ _ _⟩)
    clear BX
    go_loopg [15] l0.length (fun kq v15 w' => ∃ (i : Nat) (v : Value) (ys zs : List (List Int)), v15 = .int .i64 (i : Int) ∧ Aside0 (i + kq = l0.length) ∧ Aside0 (nexts k (l0.drop i) = some zs ∧ ys ++ zs = nx ∧ ys.length = i) ∧ Aside0 (At w' w.heap.size g v ys ⟨0, 0, 0⟩) ∧ Aside0 (Below w.heap.size w w'))
    case atStart => exact ⟨0, _, [], nx, rfl, ⟨by omega⟩, ⟨by rw [List.drop_zero]; exact HNX.out, rfl, rfl⟩, HA3, HB3⟩
    case round =>
      clear HA3 HB3
      obtain ⟨i, v, ys, zs, rfl, HI, HZ, HA, HBw⟩ := hrel
      rcases gk with _ | k1
      · have HA1 : Aside0 (At wr w.heap.size g v nx ⟨0, 0, 0⟩) := by
          have h1 := HZ.out
          rw [List.drop_of_length_le (by have := HI.out; omega)] at h1
          obtain ⟨h2, h3, _⟩ := h1
          injection h2 with h2
          subst h2
          rw [List.append_nil] at h3
          rw [← h3]
          exact HA
        have d1 : decide ((i : Int) < (l0.length : Int)) = false := decide_eq_false (by have := HI.out; omega)
        have d2 : decide (i < l0.length) = false := decide_eq_false (by have := HI.out; omega)
        clear HZ HA
        obtain ⟨G, hG⟩ : ∃ G, G = nats nx := ⟨_, rfl⟩
        have HGN := Aside0.mk (show nx = G.map ints from by rw [hG, ints_nats HOK.out])
        have HGI := Aside0.mk (show ∀ l ∈ G, ∀ u ∈ l, u < G.length from by rw [hG]; exact nats_lt HOK.out)
        have HGL := Aside0.mk (show G.length = l0.length ∧ G.length ≤ 64 from by rw [hG]; unfold nats; rw [List.length_map]; exact ⟨HLN.out, HOK.out.1⟩)
        have HLN2 := Aside0.mk (show nx.length = G.length from by rw [hG]; unfold nats; rw [List.length_map])
        have HGQ := Aside0.mk hG
        clear hG
        go_wp2
        go_loopg [33] l0.length (fun kq v33 w' => ∃ (j : Nat), v33 = .int .i64 (j : Int) ∧ Aside0 (j + kq = l0.length) ∧ Aside0 (At w' w.heap.size g v (G.map ints) (upto G j)) ∧ Aside0 (Below w.heap.size w w'))
        case atStart => exact ⟨0, rfl, ⟨by omega⟩, ⟨by rw [← HGN.out]; exact HA1.out⟩, HBw⟩
        case round =>
          clear HA1 HBw
          obtain ⟨j, rfl, HJ, HA, HBw⟩ := hrel
          rcases gk with _ | k1
          · have e1 : decide ((j : Int) < (l0.length : Int)) = false := decide_eq_false (by have := HJ.out; omega)
            have e2 : decide (j < l0.length) = false := decide_eq_false (by have := HJ.out; omega)
            have HJ2 := Aside0.mk (show j = nx.length from by have h1 := HJ.out; have h2 := HLN.out; omega)
            have c3 := HA.out.c3
            go_wp2
            go_ret2
            exact ⟨by rw [HJ2.out, HGQ.out]; rfl, HBw.out⟩
          · have e1 : decide ((j : Int) < (l0.length : Int)) = true := decide_eq_true (by have := HJ.out; omega)
            have e2 : decide (j < l0.length) = true := decide_eq_true (by have := HJ.out; omega)
            obtain ⟨gv, cv, ev⟩ := HA.out.form (by rw [List.length_map]; have h1 := HJ.out; have h2 := HGL.out; omega)
            subst ev
            have HV := Aside0.mk (visit_any HGI.out HGL.out.2 65 j (upto G j) wr (by have h1 := HJ.out; have h2 := HGL.out; omega) (Nat.lt_succ_of_le (left_le _)) (upto_ok (fun l hl u hu => by have h1 := HGI.out l hl u hu; have h2 := HGL.out; omega) j (by have h1 := HJ.out; have h2 := HGL.out; omega)).1 HA.out)
            go_wp2_with (go_at_call 45; refine HV.out.mono ?_; rintro e w2 ⟨rfl, HA2, HC2⟩)
            go_roundg k1
            case measure => omega
            case rel => exact ⟨j + 1, by have h1 := HJ.out; have h2 := HGL.out; rw [show wrap64 ((j : Int) + 1) = (j : Int) + 1 from by unfold wrap64; omega]; simp, ⟨by have := HJ.out; omega⟩, by rw [upto_succ]; exact HA2, ⟨Chg.below HBw.out HC2.out HBw.out.size (fun q hq => by subst hq; exact HGE.out)⟩⟩
      · have hi := HI.out
        have hil : i < l0.length := by omega
        have HZ2 := HZ.out
        rw [List.drop_eq_getElem_cons hil] at HZ2
        obtain ⟨HZ3, HZ4, HZ5⟩ := HZ2
        obtain ⟨y, hy, HZ3⟩ := Option.bind_eq_some_iff.1 HZ3
        obtain ⟨zs', hzs, HZ3⟩ := Option.bind_eq_some_iff.1 HZ3
        injection HZ3 with HZ3
        have HZN := Aside0.mk (show nexts k (l0.drop (i + 1)) = some zs' ∧ (ys ++ [y]) ++ zs' = nx ∧ (ys ++ [y]).length = i + 1 from ⟨hzs, by rw [← HZ4, ← HZ3]; simp, by simp [HZ5]⟩)
        obtain ⟨ad, A1, c1, ea, hx0, hx1, hl1, hi1⟩ := at_T44 HR0.out (i : Int) (by omega) (by omega)
        subst ea
        have e44 : rd_T44 l0 (i : Int) = l0[i] := by unfold rd_T44; simp [List.getD_eq_getElem?_getD, hil]
        rw [e44] at hx0 hx1 hl1 hi1
        replace hx0 := (HBw.out.cell (World.block_lt_of_cell? w _ hx0)).trans hx0
        replace hx1 := (HBw.out.cell (World.block_lt_of_cell? w _ hx1)).trans hx1
        have HYL := Aside0.mk (show ys.length < 64 from by have h1 := HOK.out.1; have h2 := HLN.out; omega)
        obtain ⟨nd, hnd⟩ : ∃ nd, nd = l0[i] := ⟨_, rfl⟩
        rw [← hnd] at hx0 hx1 hl1 hi1 hy
        have HC1 := Aside0.mk (Kd.C_below hi1 HBw.out)
        have HL1 := Aside0.mk hl1
        have HY := Aside0.mk hy
        have p1 : (0 ≤ (i : Int)) = True := eq_true (by omega)
        have p2 : ((i : Int) < (l0.length : Int)) = True := eq_true (by omega)
        have d1 : decide ((i : Int) < (l0.length : Int)) = true := decide_eq_true (by omega)
        have d2 : decide (i < l0.length) = true := decide_eq_true hil
        clear hnd e44 HZ3 HZ4 HZ5 hzs hi1 hl1 hy HZ hi
        rw [Int.toNat_natCast] at hx0 hx1
        go_upto_region 7 with ((with_reducible refine gate_dst (N := 6) rfl ?_); refine box_event ?hg (N := 6) ?hd (cs := #[.bool false, .slice none 0 0]) (t := 44) ?hr ?_; (case hd => rfl); (case hg => rfl); (case hr => first | (go_simp; done) | (go_simp; rfl)); intro gb hg w2 hbox hb; have HGB := Aside0.mk (show gb = wr.heap.size from hg); have BX2 := Aside0.mk hbox; have HW2 := Aside0.mk hb; clear hg hbox hb; replace hx0 := (HW2.out.cell (World.block_lt_of_cell? _ _ hx0)).trans hx0; replace hx1 := (HW2.out.cell (World.block_lt_of_cell? _ _ hx1)).trans hx1; have y0 : w2.cell? ⟨gb, 0, none⟩ = some (.bool false) := (blk_cell BX2.out 0).trans rfl; have y1 : w2.cell? ⟨gb, 1, none⟩ = some (.slice none 0 0) := (blk_cell BX2.out 1).trans rfl; have fz0 := blk_frozen BX2.out 0; have fz1 := blk_frozen BX2.out 1)
        have HX2 := Aside0.mk (show ((w2.setCell ⟨gb, 0, none⟩ (.bool nd.f0)).setCell ⟨gb, 1, none⟩ (.slice A1 nd.f1.length c1)).heap[gb]? = some (.cells #[.bool nd.f0, .slice A1 nd.f1.length c1] 44 (0, 0)) from blk_put (blk_put BX2.out 0 _ rfl) 1 _ rfl)
        have HWX := Aside0.mk (show Below wr.heap.size wr ((w2.setCell ⟨gb, 0, none⟩ (.bool nd.f0)).setCell ⟨gb, 1, none⟩ (.slice A1 nd.f1.length c1)) from below_set (below_set HW2.out (by have := HGB.out; omega)) (by have := HGB.out; omega))
        clear HW2 BX2 fz0 fz1 y0 y1 hx0 hx1
        generalize (w2.setCell ⟨gb, 0, none⟩ (.bool nd.f0)).setCell ⟨gb, 1, none⟩ (.slice A1 nd.f1.length c1) = w7 at *
        have HA2 := Aside0.mk (HA.out.below HWX.out)
        have HG2 := Aside0.mk (blk_lt HA2.out.hg)
        have HNE := Aside0.mk (show g ≠ gb from by have h1 := blk_lt HA.out.hg; have h2 := HGB.out; omega)
        have c0' := HA2.out.c0
        have x0 : w7.cell? ⟨gb, 0, none⟩ = some (.bool nd.f0) := (blk_cell HX2.out 0).trans rfl
        have x1 : w7.cell? ⟨gb, 1, none⟩ = some (.slice A1 nd.f1.length c1) := (blk_cell HX2.out 1).trans rfl
        clear HA p1 p2 d1 d2
        refine start_ (n := 12) (S := fun w' => w'.cell? ⟨g, 0, none⟩ = some v ∧ w'.cell? ⟨gb, 0, none⟩ = some (.bool nd.f0) ∧ w'.cell? ⟨gb, 1, none⟩ = some (.slice A1 nd.f1.length c1)) (ds := [11]) #[false, false, false, false, false, false, false, false, false, false, false, false] (by kernel_rfl) rfl rfl ⟨c0', x0, x1⟩ (fun hHeld => ?_)
        refine pure_ (i := 0) (N := some 19) (v := ?_) (a' := ?_) #[true, false, false, false, false, false, false, false, false, false, false, false] rfl rfl (by kernel_rfl) (fun _ _ _ h => h) (Or.inl ⟨by rfl, ?_⟩) ?_ ?_
        rotate_left
        · intro w'
          go_simp
          with_reducible rfl
        rotate_left
        · simp only [Act.put, List.setIfInBounds_toArray, List.set_cons_zero, List.set_cons_succ, i64_w, i32_w]
          rfl
        refine pure_ (i := 1) (N := some 20) (v := ?_) (a' := ?_) #[true, true, false, false, false, false, false, false, false, false, false, false] rfl rfl (by kernel_rfl) (fun _ _ _ h => h) (Or.inl ⟨by rfl, ?_⟩) ?_ ?_
        rotate_left
        · intro w'
          go_simp
          with_reducible rfl
        rotate_left
        · simp only [Act.put, List.setIfInBounds_toArray, List.set_cons_zero, List.set_cons_succ, i64_w, i32_w]
          rfl
        refine pure_ (i := 2) (N := some 21) (v := ?_) (a' := ?_) #[true, true, true, false, false, false, false, false, false, false, false, false] rfl rfl (by kernel_rfl) (fun _ _ _ h => h) (Or.inl ⟨by rfl, ?_⟩) ?_ ?_
        rotate_left
        · intro w'
          go_simp
          with_reducible rfl
        rotate_left
        · simp only [Act.put, List.setIfInBounds_toArray, List.set_cons_zero, List.set_cons_succ, i64_w, i32_w]
          rfl
        refine pure_ (i := 3) (N := some 22) (v := ?_) (a' := ?_) #[true, true, true, true, false, false, false, false, false, false, false, false] rfl rfl (by kernel_rfl) (fun _ _ _ h => h) (Or.inl ⟨by rfl, ?_⟩) ?_ ?_
        rotate_left
        · intro w'
          go_simp
          with_reducible rfl
        rotate_left
        · simp only [Act.put, List.setIfInBounds_toArray, List.set_cons_zero, List.set_cons_succ, i64_w, i32_w]
          rfl
        refine take_ (i := 4) (N := some 23) (v := ?_) (a' := ?_) #[true, true, true, true, true, false, false, false, false, false, false, false] rfl rfl (by kernel_rfl) (fun _ _ _ h => h) (Or.inl ⟨by rfl, ?_⟩) hHeld ?_ ?_
        rotate_left
        · rintro w' ⟨s0, s1, s2⟩
          go_simp
          with_reducible rfl
        rotate_left
        · simp only [Act.put, List.setIfInBounds_toArray, List.set_cons_zero, List.set_cons_succ, i64_w, i32_w]
          rfl
        refine take_ (i := 5) (N := some 24) (v := ?_) (a' := ?_) #[true, true, true, true, true, true, false, false, false, false, false, false] rfl rfl (by kernel_rfl) (fun _ _ _ h => h) (Or.inl ⟨by rfl, ?_⟩) hHeld ?_ ?_
        rotate_left
        · rintro w' ⟨s0, s1, s2⟩
          go_simp
          with_reducible rfl
        rotate_left
        · simp only [Act.put, List.setIfInBounds_toArray, List.set_cons_zero, List.set_cons_succ, i64_w, i32_w]
          rfl
        refine one_ (i := 6) (N := some 25) #[true, true, true, true, true, true, true, false, false, false, false, false] rfl rfl (by kernel_rfl) (by decide) (fun K hK => ?_)
        refine goes_ Tryd.func44 (by kernel_rfl) rfl #[.agg #[.bool nd.f0, .slice A1 nd.f1.length c1]] (by rfl) rfl rfl (by simp only [List.map_toArray, List.map_cons, List.map_nil]; rfl) ?_
        with_reducible refine (cycle_next.calls k nd.f0 _ _ nd.f1 y _ (Kd.C_drew (Kd.C_below HC1.out HWX.out)) HL1.out HY.out).mono ?_
        rintro e w4 ⟨v0, rfl, ho, hb⟩
        refine ⟨_, rfl, ?_⟩
        have HB4 := Aside0.mk (show Below w7.heap.size w7 w4 from ⟨hb.os, hb.tape, hb.output, hb.size, hb.block⟩)
        have HV0 := Aside0.mk ho
        have HA4 := Aside0.mk (show At w4 w.heap.size g v ys ⟨0, 0, 0⟩ from HA2.out.below HB4.out)
        have BX4 := Aside0.mk (blk_below HX2.out HB4.out)
        clear hb ho
        obtain ⟨A0, c0, e0⟩ := Kd.R_slice HV0.out
        subst e0
        refine hK.out _ _ ⟨HA4.out.c0, (blk_cell BX4.out 0).trans rfl, (blk_cell BX4.out 1).trans rfl⟩ (fun hHeld => ?_)
        clear hK K
        refine norm_ (a' := ?_) ?_ ?_
        rotate_left
        · show Act.put _ (some 25) _ = _
          simp only [Act.put, List.setIfInBounds_toArray, List.set_cons_zero, List.set_cons_succ, i64_w, i32_w]
          rfl
        refine one_ (i := 7) (N := some 26) #[true, true, true, true, true, true, true, true, false, false, false, false] rfl rfl (by kernel_rfl) (by decide) (fun K hK => ?_)
        refine value_ (w1 := ?_) (v := ?_) (by rfl) rfl ?_ ?_
        rotate_left 2
        · go_simp
          constructor
          · rfl
          · rfl
        refine hK.out _ _ ⟨(HA4.out.below (below_alloc (Below.refl _ _) _)).c0, (blk_cell (blk_alloc BX4.out _) 0).trans rfl, (blk_cell (blk_alloc BX4.out _) 1).trans rfl⟩ (fun hHeld => ?_)
        clear hK K
        refine norm_ (a' := ?_) ?_ ?_
        rotate_left
        · show Act.put _ (some 26) _ = _
          simp only [Act.put, List.setIfInBounds_toArray, List.set_cons_zero, List.set_cons_succ, i64_w, i32_w]
          rfl
        refine one_ (i := 8) (N := some 27) #[true, true, true, true, true, true, true, true, true, false, false, false] rfl rfl (by kernel_rfl) (by decide) (fun K hK => ?_)
        refine Kd.R_append_step (Kd.slice 3 (Kd.int .i64)) (w0 := w) w.heap.size (by rfl) (.tmp 23) (.tmp 26) 70 28 (.slice none 0 0) 24 rfl Tryd.underlying70 info28 rfl (by decide) (by omega) v ys y [.slice A0 y.length c0] (fun k => k ≠ g) (fun k => w7.heap.size ≤ k) rfl rfl ?aP ?aK ?aF ?aO ?aB ?aS ?aL ?_
        (case aP => exact Kd.M_row (Kd.R_mono (Kd.R_lower (Kd.R_bound HV0.out) (below_step HBw.out HWX.out).size) (fun k hk => hk.2.1)))
        (case aK => intro k hk; exact ⟨fun e => by have := HG2.out; omega, fun e => by have := Kd.R_lt HA2.out.hr k e.symm; omega⟩)
        (case aF => intro k hk e; have h1 := HG2.out; have h2 := HB4.out.size; omega)
        (case aO => exact HA4.out.hr)
        (case aB => exact below_step (below_step HBw.out HWX.out) HB4.out)
        (case aS => exact (below_step (below_step HBw.out HWX.out) HB4.out).size)
        (case aL => have := HYL.out; omega)
        intro v5 w5 ho hb hg hat
        have HB5 := Aside0.mk hb
        have HV5 := Aside0.mk ho
        have BG5 := Aside0.mk (blk_grown HA4.out.hg hg (Kd.R_ne HA4.out.hr HA4.out.hg (by decide)))
        have BX5 := Aside0.mk (blk_grown BX4.out hg (Kd.R_ne HA4.out.hr BX4.out (by decide)))
        clear ho hb hg hat
        obtain ⟨A5, c5, e5⟩ := Kd.R_slice HV5.out
        subst e5
        have z5 := (blk_cell BG5.out 0).trans (show _ = some v from rfl)
        have fz5 := blk_frozen BG5.out 0
        refine hK.out _ _ ⟨(blk_cell BG5.out 0).trans rfl, (blk_cell BX5.out 0).trans rfl, (blk_cell BX5.out 1).trans rfl⟩ (fun hHeld => ?_)
        clear hK K
        refine norm_ (a' := ?_) ?_ ?_
        rotate_left
        · show Act.put _ (some 27) _ = _
          simp only [Act.put, List.setIfInBounds_toArray, List.set_cons_zero, List.set_cons_succ, i64_w, i32_w]
          rfl
        refine pure_ (i := 9) (N := some 28) (v := ?_) (a' := ?_) #[true, true, true, true, true, true, true, true, true, true, false, false] rfl rfl (by kernel_rfl) (fun _ _ _ h => h) (Or.inl ⟨by rfl, ?_⟩) ?_ ?_
        rotate_left
        · intro w'
          go_simp
          with_reducible rfl
        rotate_left
        · simp only [Act.put, List.setIfInBounds_toArray, List.set_cons_zero, List.set_cons_succ, i64_w, i32_w]
          rfl
        refine pure_ (i := 10) (N := some 29) (v := ?_) (a' := ?_) #[true, true, true, true, true, true, true, true, true, true, true, false] rfl rfl (by kernel_rfl) (fun _ _ _ h => h) (Or.inl ⟨by rfl, ?_⟩) ?_ ?_
        rotate_left
        · intro w'
          go_simp
          with_reducible rfl
        rotate_left
        · simp only [Act.put, List.setIfInBounds_toArray, List.set_cons_zero, List.set_cons_succ, i64_w, i32_w]
          rfl
        refine last_ (i := 11) (N := none) #[true, true, true, true, true, true, true, true, true, true, true, true] rfl rfl (by kernel_rfl) (by decide) (fun K hK => ?_)
        refine skip_ (w1 := ?_) (by rfl) rfl ?_ ?_
        rotate_left
        · go_simp
          rfl
        refine hK.out _ _ ?_
        clear hK K
        refine done_ (by kernel_rfl) ?_
        clear z5 fz5
        have hlen : (ys ++ [y]).length = ys.length + 1 := by simp
        rw [hlen] at HV5
        clear hlen
        have HA6 := Aside0.mk (show At (w5.setCell ⟨g, 0, none⟩ (.slice A5 (ys.length + 1) c5)) w.heap.size g (.slice A5 (ys.length + 1) c5) (ys ++ [y]) ⟨0, 0, 0⟩ from ⟨blk_put BG5.out 0 _ rfl, Kd.R_far HV5.out (fun _ hk => hk) _⟩)
        have HB6 := Aside0.mk (below_set (g := g) (j := 0) (v := .slice A5 (ys.length + 1) c5) HB5.out HGE.out)
        go_wp2
        go_roundg k1
        case measure => omega
        case rel => exact ⟨i + 1, _, ys ++ [y], zs', by have h1 := HYL.out; have h2 := HZN.out.2.2; rw [show wrap64 ((i : Int) + 1) = (i : Int) + 1 from by simp at h2; unfold wrap64; omega]; simp, ⟨by have := HI.out; omega⟩, HZN, HA6, HB6⟩


/-! ### bits_TrailingZeros64: function 73 -/
-- by hand
def bits_TrailingZeros64.f (a0 : Int) : Option Int := if 0 ≤ a0 then if a0 < 18446744073709551616 then some (Lib.ctz 64 a0.toNat : Int) else none else none
theorem bits_TrailingZeros64.calls (a0 : Int) (r : Int) (w : World) (hT : Tb.Tab w) (h : bits_TrailingZeros64.f a0 = some r) :
    Calls Tryd.prog 73 #[.int .u64 a0] w fun e w' => e = .returned (.int .i64 r) ∧ Drawn0 w w' := by
  unfold bits_TrailingZeros64.f at h
  split at h
  case isFalse => cases h
  rename_i h0
  split at h
  case isFalse => cases h
  rename_i h1
  injection h with h
  subst h
  obtain ⟨n, rfl⟩ : ∃ n : Nat, a0 = (n : Int) := ⟨a0.toNat, by omega⟩
  rw [Int.toNat_natCast]
  exact (Tb.tz_any n (by omega) w hT).mono fun e w' ⟨h, h2⟩ => ⟨h, by rw [h2]; exact Drawn0.refl _⟩


/-! ### bits_Set_First: function 46 -/
def bits_Set_First.f (a0 : Int) : Option (Int) := if a0 = 0 then (some (-1)) else ((bits_TrailingZeros64.f a0).bind fun t194 => (some t194))
set_option maxHeartbeats 8000000 in
set_option maxRecDepth 100000 in
theorem bits_Set_First.calls (a0 : Int) (r : Int) (w : World) (hT : Tb.Tab w) (h : bits_Set_First.f a0 = some r) :
    Calls Tryd.prog 46 #[.int .u64 a0] w fun e w'=>e = .returned (.int .i64 r) ∧ Drawn0 w w':=by
  have HT:=A0_ hT;clear hT;have H : (if a0 = 0 then (some (-1)) else ((bits_TrailingZeros64.f a0).bind fun t194=>(some t194))) = some r:=h;clear h;by_cases c2 : a0 = 0
  · rw [if_pos c2] at H
    have c2b0 : (a0 == 0) = true:=beq_iff_eq.mpr c2;have c2b1 : (a0 != 0) = false:=bne_eq_false_iff_eq.mpr c2;clear c2;obtain rfl:=Option.some.inj H;go_enter Tryd.func46,Tryd.ntmps46;go_wp2;go_ret;exact ⟨by first|rfl|(simp;done)|(simp [*];done),by repeat (first|exact Drawn0.refl _|apply Drawn0.step)⟩
  rw [if_neg c2] at H;have c2b0 : (a0 == 0) = false:=beq_eq_false_iff_ne.mpr c2;have c2b1 : (a0 != 0) = true:=bne_iff_ne.mpr c2;replace H:=bm_ H;obtain ⟨t194,A30,H⟩:=H;replace H : (some t194) = some r:=H;have A3:=A0_ A30;clear A30;obtain rfl:=Option.some.inj H;go_enter Tryd.func46,Tryd.ntmps46;go_wp2_with (first|((with_reducible refine gate_callee (f:=73) rfl ?_);refine goesL_ (some 6) rfl rfl Tryd.func73 (by kernel_rfl) rfl #[.int .u64 a0] rfl (by first|(simp only [List.map_toArray,List.map_cons,List.map_nil] <;> rfl)|rfl|(simp only [List.length_drop,List.length_take];rfl)) ?_;(with_reducible refine (bits_TrailingZeros64.calls a0 t194 _ ?side1 A3.out).mono ?_);(case side1=>first|exact HT.out|(repeat (first|(with_reducible first|exact HT.out|apply Tb.alloc|apply Tb.drewN|apply Tb.drew)|exact HT.out));done|exact Tb.below HT.out (by exact Below.refl _ _));rintro e w' ⟨rfl,⟨nd,rfl⟩⟩;refine ⟨_,rfl,?_⟩));go_ret;exact ⟨by first|rfl|(simp;done)|(simp [*];done),by repeat (first|exact Drawn0.refl _|apply Drawn0.step)⟩

/-! ### bits_Of: function 47 -/
def bits_Of.l0 : Nat → Int → List Int → Int → Int → Option (Int)
  | 0,_,_,_,_=>none
  | k + 1,x3,x6,x7,x8=>if x8 < x7 then (if 0 ≤ x8 then (if x8 < (x6.length : Int) then ((bits_one.f (rd x6 x8)).bind fun t196=>(bits_Of.l0 k (Go.bits .or .u64 x3 t196) x6 x7 (wrap64 (x8 + 1)))) else (none)) else (none)) else (some x3)
def bits_Of.f (k : Nat) (l0 : List Int) : Option (Int) := bits_Of.l0 k 0 l0 (l0.length : Int) 0
theorem bits_Of.mono_l : ∀ k, (∀ y0 y1 y2 y3, LeO (bits_Of.l0 k y0 y1 y2 y3) (bits_Of.l0 (k + 1) y0 y1 y2 y3))
  | 0=>fun _ _ _ _ r h=>by simp [bits_Of.l0] at h
  | k + 1=>by
    have ih0:=bits_Of.mono_l k
    · intro y0 y1 y2 y3
      unfold bits_Of.l0
      repeat' first
      | (with_reducible exact ih0 _ _ _ _)
      | (with_reducible exact LeO.refl _)
      | (with_reducible exact LeO.none _)
      | (with_reducible refine LeO.ite ?_ ?_)
      | (with_reducible refine LeO.bind ?_ (fun _=>?_))
      | exact ih0 _ _ _ _
      | exact LeO.none _
      | refine LeO.ite ?_ ?_
      | refine LeO.bind ?_ (fun _=>?_)
theorem bits_Of.mono : ∀ a0 k, LeO (bits_Of.f k a0) (bits_Of.f (k + 1) a0) := by
  intro a0 k
  have ih0:=bits_Of.mono_l k;unfold bits_Of.f
  repeat' first
      | (with_reducible exact ih0 _ _ _ _)
      | (with_reducible exact LeO.refl _)
      | (with_reducible exact LeO.none _)
      | (with_reducible refine LeO.ite ?_ ?_)
      | (with_reducible refine LeO.bind ?_ (fun _=>?_))
      | exact ih0 _ _ _ _
      | exact LeO.none _
      | refine LeO.ite ?_ ?_
      | refine LeO.bind ?_ (fun _=>?_)
set_option maxHeartbeats 8000000 in
set_option maxRecDepth 100000 in
theorem bits_Of.calls (k : Nat) (A0 : Option Addr) (c0 : Nat) (l0 : List Int) (r : Int) (w : World) (hr0 : Kd.C (Kd.int .i64) w A0 l0.length l0) (hc0 : l0.length ≤ c0) (h : bits_Of.f k l0 = some r) :
    Calls Tryd.prog 47 #[.slice A0 l0.length c0] w fun e w'=>e = .returned (.int .u64 r) ∧ Drawn0 w w':=by
  have HR0:=A0_ hr0;have HC0:=A0_ hc0;clear hr0 hc0;have H : (bits_Of.l0 k 0 l0 (l0.length : Int) 0) = some r:=h;clear h;have H':=A0_ H;clear H;go_enter Tryd.func47,Tryd.ntmps47;go_wp2
  go_loopg [3,8] k (fun kq v3 v8 w'=>∃ (x3_1 : Int) (x8_1 : Int),v3 = .int .u64 x3_1 ∧ v8 = .int .i64 x8_1 ∧ Aside0 (bits_Of.l0 kq x3_1 l0 (l0.length : Int) x8_1 = some r) ∧ Aside0 (kq ≤ k) ∧ Drawn0 w w')
  case atStart=>exact ⟨(0),(0),(by first|rfl|(simp;done)|(simp [*];done)),(by first|rfl|(simp;done)|(simp [*];done)),H',⟨Nat.le_refl _⟩,by repeat (first|exact Drawn0.refl _|apply Drawn0.step)⟩
  case round =>
    clear H';obtain ⟨x3_1,x8_1,rfl,rfl,HA,HK1,⟨m1,rfl⟩⟩:=hrel
    cases gk with
    | zero=>exact absurd HA.out (by simp [bits_Of.l0])
    | succ k1 =>
      have H:=HA.out;clear HA;simp only [bits_Of.l0] at H;by_cases c2 : x8_1 < (l0.length : Int);rotate_left
      · rw [if_neg c2] at H
        have c2b0 : decide (x8_1 < (l0.length : Int)) = false:=decide_eq_false c2;clear c2;obtain rfl:=Option.some.inj H;go_wp2;go_ret;exact ⟨by first|rfl|(simp;done)|(simp [*];done),by repeat (first|exact Drawn0.refl _|apply Drawn0.step)⟩

      rw [if_pos c2] at H;have c2b0 : decide (x8_1 < (l0.length : Int)) = true:=decide_eq_true c2;clear c2;by_cases c3 : 0 ≤ x8_1;rotate_left
      · rw [if_neg c3] at H
        exact absurd H (by simp)
      rw [if_pos c3] at H;have c3b0 : decide (0 ≤ x8_1) = true:=decide_eq_true c3;clear c3;by_cases c4 : x8_1 < (l0.length : Int);rotate_left
      · rw [if_neg c4] at H
        exact absurd H (by simp)
      rw [if_pos c4] at H;have c4b0 : decide (x8_1 < (l0.length : Int)) = true:=decide_eq_true c4;clear c4;replace H:=bm_ H;obtain ⟨t196,A50,H⟩:=H;replace H : (bits_Of.l0 k1 (Go.bits .or .u64 x3_1 t196) l0 (l0.length : Int) (wrap64 (x8_1 + 1))) = some r:=H;have A5:=A0_ A50;clear A50;have H':=A0_ H;clear H;have p195 : 0 ≤ (x8_1 : Int):=of_decide_eq_true (by first|(with_reducible assumption)|assumption);have q195 : x8_1 < (l0.length : Int):=of_decide_eq_true (by first|(with_reducible assumption)|assumption);obtain ⟨ad195,e195,hx195_0⟩:=Kd.at_int HR0.out x8_1 p195 q195;cases e195;replace p195:=eq_true p195;replace q195:=eq_true q195;go_wp2_with (first|((with_reducible refine gate_callee (f:=74) rfl ?_);refine goesL_ (some 14) rfl rfl Tryd.func74 (by kernel_rfl) rfl #[.int .i64 (rd l0 x8_1)] rfl (by first|(simp only [List.map_toArray,List.map_cons,List.map_nil] <;> rfl)|rfl|(simp only [List.length_drop,List.length_take];rfl)) ?_;(with_reducible refine (bits_one.calls (rd l0 x8_1) t196 _ A5.out).mono ?_);rintro e w' ⟨rfl,⟨nd,rfl⟩⟩;refine ⟨_,rfl,?_⟩))
      go_roundg k1
      case measure=>have:=HK1.out;omega
      case rel=>exact ⟨(Go.bits .or .u64 x3_1 t196),(wrap64 (x8_1 + 1)),(by first|rfl|(simp;done)|(simp [*];done)),(by first|rfl|(simp;done)|(simp [*];done)),H',⟨by have:=HK1.out;omega⟩,by repeat (first|exact Drawn0.refl _|apply Drawn0.step)⟩
-- NOT PRINTED: function 48 (slices_IndexFunc_int_int)

/-! ### slices_Clone_int_int: function 50 -/
def slices_Clone_int_int.f (l0 : List Int) : Option (List Int) := (some (([] : List Int) : List Int)).bind fun y197 => (if y197.length + l0.length < 17592186044416 then (some (y197 ++ l0)) else (none))
set_option maxHeartbeats 8000000 in
set_option maxRecDepth 100000 in
theorem slices_Clone_int_int.calls (A0 : Option Addr) (c0 : Nat) (l0 : List Int) (r : List Int) (w : World) (hr0 : Kd.C (Kd.int .i64) w A0 l0.length l0) (hc0 : l0.length ≤ c0) (h : slices_Clone_int_int.f l0 = some r) :
    Calls Tryd.prog 50 #[.slice A0 l0.length c0] w fun e w'=>∃ v0_ : Value,e = .returned (v0_) ∧ Kd.R (Kd.int .i64) 3 w' w.heap.size (fun _=>True) v0_ r ∧ Below w.heap.size w w':=by
  by_cases hnA_ : A0 = none
  · subst hnA_
    have hl_ : l0 = []:=List.eq_nil_of_length_eq_zero (by
      rcases Nat.eq_zero_or_pos l0.length with q | q
      · exact q
      · obtain ⟨ad_,e_,_⟩:=(hr0).2.2 q
        cases e_)
    subst hl_;have hf_ : slices_Clone_int_int.f [] = some []:=by simp [slices_Clone_int_int.f]
    rw [hf_] at h;injection h with h
    subst h;have hq_:=fun W=>Lib.run_eql_slice_nil (P:=Tryd.prog) W 28 3 none 0 c0 0 0 Tryd.underlying28
    go_enter Tryd.func50,Tryd.ntmps50;go_wp2;go_ret;exact ⟨.slice none 0 0,rfl,Kd.R_nil _ _ _ _ _,Below.refl _ _⟩
  have hq_ : ∀ W,(binOp .eql 28 (.slice A0 l0.length c0) (.slice none 0 0)).run Tryd.prog W = .ok (.bool false) W:=fun W=>by
    rw [Lib.run_eql_slice_nil W 28 3 A0 l0.length c0 0 0 Tryd.underlying28]
    cases A0 with
    | none=>exact absurd rfl hnA_
    | some _=>rfl
  clear hnA_;have HR0:=A0_ hr0;have HC0:=A0_ hc0;clear hr0 hc0;have HB:=A0_ (Below.refl w.heap.size w);have H : ((some (([] : List Int) : List Int)).bind fun y197=>(if y197.length + l0.length < 17592186044416 then (some (y197 ++ l0)) else (none))) = some r:=h;clear h;obtain ⟨y197,hy197⟩ : ∃ y_ : List Int,y_ = (([] : List Int)):=⟨_,rfl⟩;replace H : (if y197.length + l0.length < 17592186044416 then (some (y197 ++ l0)) else (none)) = some r:=by first|(rw [hy197];with_reducible exact H)|(have H2_:=(Option.bind_some _ _).symm.trans H;rw [hy197];with_reducible exact H2_)|(have H2_:=(Option.bind_some _ _).symm.trans H;with_reducible exact H2_)|with_reducible exact H|(rw [hy197];exact H)|exact H
  have Ny197:=A0_ hy197;clear hy197;by_cases c2 : y197.length + l0.length < 17592186044416;rotate_left
  · rw [if_neg c2] at H
    exact absurd H (by simp)

  rw [if_pos c2] at H;have LMc2:=A0_ c2;clear c2;obtain ⟨y200,hy200⟩ : ∃ y_ : List Int,y_ = (y197 ++ l0):=⟨_,rfl⟩;replace H : (some y200) = some r:=by first|(rw [hy200];with_reducible exact H)|(have H2_:=(Option.bind_some _ _).symm.trans H;rw [hy200];with_reducible exact H2_)|(have H2_:=(Option.bind_some _ _).symm.trans H;with_reducible exact H2_)|with_reducible exact H|(rw [hy200];exact H)|exact H
  have Ny200:=A0_ hy200;clear hy200;obtain rfl:=Option.some.inj H;go_enter Tryd.func50,Tryd.ntmps50;go_wp2_with (first|((with_reducible refine gate_dst (N:=5) rfl ?_);refine Kd.R_lit (Kd.int .i64) _ 3 ?hg (N:=5) ?hd (xs:=([] : List Int)) (inner:=[]) (ok:=fun _=>True) (okp:=fun _=>True) ?hr ?hp (fun _ hk=>hk) trivial (Below.refl _ _) (Nat.le_refl _) (by simp) ?_;(case hd=>rfl);(case hg=>rfl);(case hr=>first|(go_simp;done)|(go_simp;rfl));(case hp=>exact (Reps.none _ _));intro v198 w3 ho4 hb hg_ hnew_;clear hg_ hnew_;(first|rw [← Ny197.out] at ho4|(simp only [Int.reduceToNat] at ho4;rw [← Ny197.out] at ho4));have n0_:=A0_ (Kd.R_lower ho4 (below_size (by repeat (first|(with_reducible first|exact HB.out|apply ba_|apply pN_|apply b1_)|exact HB.out))));have n1_:=A0_ (below_step (by repeat (first|(with_reducible first|exact HB.out|apply ba_|apply pN_|apply b1_)|exact HB.out)) hb);clear HB;have HO199:=n0_;have HB:=n1_;clear n0_ n1_;clear hb ho4)|((with_reducible refine gate_builtin (b:=.append) (xs:=#[.tmp 5,.tmp 6]) rfl ?_);at_builtin;refine Kd.R_append_rows (Kd.int .i64) (w0:=w) w.heap.size rfl (.tmp 5) (.tmp 6) 28 3 (.int .i64 0) 8 rfl Tryd.underlying28 info3 rfl (by decide) (by omega) v198 y197 l0 _ _ _ (fun _=>True) (fun _=>False) rfl rfl ?aO ?aR (fun _ _ h=>h) (fun _ h=>h.elim) ?aF ?aB ?aS ?aL ?_;(case aR=>repeat (first|exact (Kd.C_below HR0.out HB.out)|(with_reducible first|refine Ca_ ?_ _|refine Cn_ ?_ _|refine Cd_ ?_)));(case aB=>exact (by repeat (first|(with_reducible first|exact HB.out|apply ba_|apply pN_|apply b1_)|exact HB.out)));(case aF=>exact (fun _ _=>trivial));(case aO=>exact (by (with_reducible repeat first|apply Ra_|apply Rn_|apply Rd_);exact HO199.out));(case aS=>exact (below_size (by repeat (first|(with_reducible first|exact HB.out|apply ba_|apply pN_|apply b1_)|exact HB.out))));(case aL=>have:=LMc2.out;omega);intro v201 w5 ho hb hg hat;rw [← Ny200.out] at ho;have n0_:=A0_ (hb);have n1_:=A0_ (ho);clear HB;clear HO199;have HB:=n0_;have HO202:=n1_;clear n0_ n1_;clear ho hb hg hat));go_ret;exact ⟨_,by first|rfl|(simp [errW_none,errW_some] <;> rfl)|(simp [*,errW_none,errW_some] <;> rfl),by (with_reducible repeat first|apply Ra_|apply Rn_|apply Rd_);exact HO202.out,by repeat (first|(with_reducible first|exact HB.out|apply ba_|apply pN_|apply b1_)|exact HB.out)⟩
end Go.Proofs.YtbfbegleffkafaaDoor.PCycleAgrees
