/- What was got: Got. Conditions: none. -/
import Derived.Test.YtakbhnfmimnbhaaRn8
namespace Go.Proofs.Ytakbhnfmimnbhaa.Rn
open Go.RowKit Go.Proofs.YtakbhnfmimnbhaaW.PrintWords Go.Proofs.YtakbhnfmimnbhaaW.PrintLast Go.Proofs.YtakbhnfmimnbhaaW.PrintMore
set_option linter.unusedVariables false
set_option linter.unusedSimpArgs false

theorem insert_any {W : World} {v : Value} {l : List (Int × Int)} {b0 i : Nat} (hr : PR W b0 v l) (hb0 : b0 ≤ W.heap.size) (hi : i ≤ l.length) (hl : l.length ≤ 1000) {gv : Nat} {x y : Int} (hv : W.heap[gv]? = some (.cells #[.int .i64 x, .int .i64 y] 33 (0, 0))) (hne : v.ownBlock ≠ some gv) :
    Calls Try.prog 67 #[v, .int .i64 (i : Int), .slice (some ⟨gv, 0, none⟩) 1 1] W fun e w' => ∃ v', e = .returned v' ∧ PR w' b0 v' (l.take i ++ (x, y) :: l.drop i) ∧ Chg (fun k => v.ownBlock = some k) W w' ∧ (v'.ownBlock = v.ownBlock ∨ v'.ownBlock = some W.heap.size) := by
  by_cases c : i = l.length
  · subst c
    refine (insert_end hr hb0 hl hv).mono ?_
    rintro e w' ⟨v', rfl, h1, h2, h3⟩
    refine ⟨v', rfl, ?_, Chg.grown (Chg.refl _ _) h2 (fun k hk => .inl hk), h3⟩
    rw [List.take_length, List.drop_length]
    exact h1
  · obtain ⟨A, cp, rfl, ho⟩ := hr.open
    obtain ⟨g, rfl⟩ : ∃ g, A = some ⟨g, 0, none⟩ := by
      rcases ho with ⟨_, _, h⟩ | ⟨g, h, _⟩
      · rw [h] at c hi; simp at c hi; omega
      · exact ⟨g, h⟩
    have hgg : gv ≠ g := fun q => hne (by rw [q]; rfl)
    by_cases room : l.length + 1 ≤ cp
    · refine (insert_room hr (by omega) hl room hv hgg).mono ?_
      rintro e w' ⟨rfl, h1, h2⟩
      have hlen : (l.take i ++ (x, y) :: l.drop i).length = l.length + 1 := by simp; omega
      refine ⟨_, rfl, by rw [← hlen] at h1; rw [← hlen]; exact h1, ⟨h2.os, h2.tape, h2.output, h2.size, fun k hk hn => h2.block k hk (fun q => hn (by rw [q]; rfl))⟩, .inl rfl⟩
    · refine (insert_grow hr hb0 (by omega) hl (by omega) hv).mono ?_
      rintro e w' ⟨G, rfl, h1, h2⟩
      have hlen : (l.take i ++ (x, y) :: l.drop i).length = l.length + 1 := by simp; omega
      exact ⟨_, rfl, by rw [← hlen] at h1; rw [← hlen]; exact h1, Chg.of_below h2, .inr rfl⟩
/-- What is got, with so many more of an object. -/
def gotR : List (Int × Int) → Int → Int → List (Int × Int)
  | [], o, n => [(o, n)]
  | p :: l, o, n => if p.1 < o then p :: gotR l o n else if p.1 = o then (p.1, p.2 + n) :: l else (o, n) :: p :: l
theorem Lb.tail {p : Int × Int} {l : List (Int × Int)} {o : Int} {i : Nat} (h : Lb (p :: l) o (i + 1)) : Lb l o i :=
  ⟨by have := h.le; simpa using this, fun k hk => by have := h.lo (k + 1) (by omega); simpa using this, fun k h1 h2 => by have := h.hi (k + 1) (by omega) (by simpa using h2); simpa using this⟩
theorem got_new : ∀ {l : List (Int × Int)} {o n : Int} {i : Nat}, Lb l o i → ¬ (i < l.length ∧ (l.getD i (0, 0)).1 = o) → gotR l o n = l.take i ++ (o, n) :: l.drop i
  | [], o, n, i, h, _ => by
    have := h.le
    simp at this
    subst this
    rfl
  | p :: l, o, n, 0, h, hne => by
    have h1 := h.hi 0 (Nat.le_refl _) (by simp)
    have h2 : p.1 ≠ o := fun q => hne ⟨by simp, by simpa using q⟩
    simp only [List.getD_cons_zero] at h1
    rw [gotR, if_neg (by omega), if_neg h2]
    rfl
  | p :: l, o, n, i + 1, h, hne => by
    have h1 := h.lo 0 (by omega)
    simp only [List.getD_cons_zero] at h1
    rw [gotR, if_pos h1, got_new (n := n) h.tail (fun z => hne ⟨by simpa using z.1, by simpa using z.2⟩)]
    rfl
theorem got_old : ∀ {l : List (Int × Int)} {o n : Int} {i : Nat}, Lb l o i → i < l.length → (l.getD i (0, 0)).1 = o → gotR l o n = l.set i (o, (l.getD i (0, 0)).2 + n)
  | [], o, n, i, h, hi, _ => by simp at hi
  | p :: l, o, n, 0, h, _, he => by
    simp only [List.getD_cons_zero] at he
    rw [gotR, if_neg (by omega), if_pos he, ← he]
    rfl
  | p :: l, o, n, i + 1, h, hi, he => by
    have h1 := h.lo 0 (by omega)
    simp only [List.getD_cons_zero] at h1
    rw [gotR, if_pos h1, got_old (n := n) h.tail (by simpa using hi) (by simpa using he)]
    rfl
theorem getD_mid (l : List (Int × Int)) (i : Nat) (p : Int × Int) (hi : i ≤ l.length) : (l.take i ++ p :: l.drop i).getD i (0, 0) = p := by
  rw [List.getD_eq_getElem?_getD, List.getElem?_append_right (by rw [List.length_take]; omega), List.length_take, Nat.min_eq_left hi, Nat.sub_self]
  rfl
theorem set_mid (l : List (Int × Int)) (i : Nat) (p q : Int × Int) (hi : i ≤ l.length) : (l.take i ++ p :: l.drop i).set i q = l.take i ++ q :: l.drop i := by
  rw [List.set_append_right _ _ (by rw [List.length_take]; omega), List.length_take, Nat.min_eq_left hi, Nat.sub_self]
  rfl
theorem pcs_set2 (l : List (Int × Int)) : ∀ (j : Nat) (y : Int), j < l.length → (pcs l).set (j * 2 + 1) (.int .i64 y) = pcs (l.set j ((l.getD j (0, 0)).1, y)) := by
  induction l with
  | nil => intro j y hj; simp at hj
  | cons p l ih =>
    intro j y hj
    cases j with
    | zero => rfl
    | succ j =>
      have h := ih j y (by simpa using hj)
      rw [pcs_cons, show (j + 1) * 2 + 1 = (j * 2 + 1) + 1 + 1 by omega, List.set_cons_succ, List.set_cons_succ, h]
      rfl
theorem PR.set2 {W : World} {b g c n : Nat} {l : List (Int × Int)} (h : PR W b (.slice (some ⟨g, 0, none⟩) n c) l) {j : Nat} (hj : j < l.length) (y : Int) : PR (W.setCell ⟨g, j * 2 + 1, none⟩ (.int .i64 y)) b (.slice (some ⟨g, 0, none⟩) n c) (l.set j ((l.getD j (0, 0)).1, y)) := by
  obtain rfl := h.n
  obtain ⟨s2, _⟩ := h.stored (j * 2 + 1) (.int .i64 y)
  rw [pcs_set2 l j y hj] at s2
  unfold PR
  rw [List.length_set]
  exact s2
theorem Chg.join {S T : Nat → Prop} {a b c : World} (h : Chg S a b) (k : Chg T b c) (hT : ∀ i, T i → S i ∨ a.heap.size ≤ i) : Chg S a c :=
  ⟨k.os.trans h.os, k.tape.trans h.tape, k.output.trans h.output, Nat.le_trans h.size k.size, fun i hi hs => (k.block i (Nat.lt_of_lt_of_le hi h.size) (fun z => by
    rcases hT i z with q | q
    · exact hs q
    · omega)).trans (h.block i hi hs)⟩
/-- A log whose row of what was got lies anew. -/
theorem Lg.setGo {S T : Nat → Prop} {W W' : World} {g : Nat} {vf vu vg vg' : Value} {A : La} {go : List (Int × Int)} (h : Lg S W g vf vu vg A) (hc : Chg T W W') (hT : ∀ k, T k → vg.ownBlock = some k) (hp : PR W' 0 vg' go) (hat : vg'.ownBlock = vg.ownBlock ∨ ∀ k, vg'.ownBlock = some k → W.heap.size ≤ k) :
    Lg (fun k => S k ∨ W.heap.size ≤ k) (W'.setCell ⟨g, 4, none⟩ vg') g vf vu vg' { A with go := go } ∧ Chg S W (W'.setCell ⟨g, 4, none⟩ vg') := by
  have n1 : ¬ T g := fun z => h.ne.2.1 (hT g z).symm
  have hx : W'.heap[g]? = some (.cells #[vf, .int .i64 A.nm, .int .i64 A.ab, vu, vg] 104 (0, 0)) := (hc.block g (blk_lt h.hg) n1).trans h.hg
  have hf : W'.ownsRow 0 110 27 vf A.n A.fx := own_chg h.fr hc (fun k hk z => by
    obtain ⟨a, ha⟩ := own_typed h.fr k hk
    obtain ⟨b, hb⟩ := own_typed h.gt k (hT k z)
    rw [ha] at hb
    injection hb with hb
    injection hb with _ hb
    exact absurd hb (by decide))
  have hu : PR W' 0 vu A.u := own_chg h.un hc (fun k hk z => h.ap k hk (hT k z))
  refine ⟨⟨blk_put hx 4 _ rfl, own_setCell hf (own_ne hf hx (by decide)) _, h.f1, own_setCell hu (own_ne hu hx (by decide)) _, own_setCell hp (own_ne hp hx (by decide)) _, fun k hk hv => ?_, .inl h.s.1, fun k hk => .inl (h.s.2.1 k hk), fun k hk => ?_, fun k hk => .inl (h.s.2.2.2 k hk)⟩, ?_⟩
  · rcases hat with q | q
    · exact h.ap k hk (q ▸ hv)
    · have h1 := own_lt h.un k hk
      have h2 := q k hv
      omega
  · rcases hat with q | q
    · exact .inl (h.s.2.2.1 k (q ▸ hk))
    · exact .inr (q k hk)
  · exact (show Chg S W W' from ⟨hc.os, hc.tape, hc.output, hc.size, fun k hk hn => hc.block k hk (fun z => hn (h.s.2.2.1 k (hT k z)))⟩).set_ (.inl h.s.1) _
/-- .. and that stands where it stood. -/
theorem Lg.inGo {S : Nat → Prop} {W : World} {g gb c n : Nat} {vf vu : Value} {A : La} (h : Lg S W g vf vu (.slice (some ⟨gb, 0, none⟩) n c) A) {j : Nat} (hj : j < A.go.length) (y : Int) :
    Lg S (W.setCell ⟨gb, j * 2 + 1, none⟩ (.int .i64 y)) g vf vu (.slice (some ⟨gb, 0, none⟩) n c) { A with go := A.go.set j ((A.go.getD j (0, 0)).1, y) } ∧ Chg S W (W.setCell ⟨gb, j * 2 + 1, none⟩ (.int .i64 y)) := by
  have hs : S gb := h.s.2.2.1 gb rfl
  obtain ⟨cs, hcs⟩ := own_typed h.gt gb rfl
  refine ⟨⟨blk_far h.hg (fun q => h.ne.2.1 (by rw [q]; rfl)) _, own_setCell h.fr (fun q => ?_) _, h.f1, own_setCell h.un (fun q => h.ap gb q.symm rfl) _, h.gt.set2 hj y, h.ap, h.s⟩, (Chg.refl S W).set_ (.inl hs) _⟩
  obtain ⟨a, ha⟩ := own_typed h.fr gb q.symm
  rw [ha] at hcs
  injection hcs with hcs
  injection hcs with _ hcs
  exact absurd hcs (by decide)
section
variable {S : Nat → Prop} {W : World} {g : Nat} {vf vu vg : Value} {A : La}
theorem got_less (h : Lg S W g vf vu vg A) (o : Int) {n : Int} (hn : n < 1) : Calls Try.prog 27 #[.pointer (some ⟨g, 0, none⟩), .int .i64 o, .int .i64 n] W fun e w' => e = .returned (.tuple #[]) ∧ w' = W := by
  have d1 : decide (n < 1) = true := decide_eq_true hn
  clear h hn
  go_enter Try.func27, Try.ntmps27
  go_wp2
  refine bodyPost_ret (results_none rfl _ _ _) rfl ?_
  exact ⟨rfl, rfl⟩
set_option maxHeartbeats 8000000 in
set_option maxRecDepth 100000 in
theorem got_any (h : Lg S W g vf vu vg A) (hl : A.go.length ≤ 999) (hs : Srt A.go) (hb : Bnd A.go) {o n : Int} (ho : -1099511627776 ≤ o ∧ o ≤ 1099511627776) (hn : 1 ≤ n ∧ n ≤ 1099511627776) (hv : ∀ k, k < A.go.length → 0 ≤ (A.go.getD k (0, 0)).2 ∧ (A.go.getD k (0, 0)).2 ≤ 1000000000000000000) :
    Calls Try.prog 27 #[.pointer (some ⟨g, 0, none⟩), .int .i64 o, .int .i64 n] W fun e w' => e = .returned (.tuple #[]) ∧ Log (fun k => S k ∨ W.heap.size ≤ k) w' g { A with go := gotR A.go o n } ∧ Chg S W w' := by
  have hu33 := Try.underlying33
  have hu30 := Try.underlying30
  have d1 : decide (n < 1) = false := decide_eq_false (by omega)
  have HA := Aside0.mk h
  have HL := Aside0.mk hl
  have HO := Aside0.mk ho
  have HV := Aside0.mk hv
  have HN := Aside0.mk hn
  have HBS := Aside0.mk (bsearch_any h.gt (by omega) hs hb ho)
  have y4 : W.cell? ⟨g, 4, none⟩ = some vg := (blk_cell h.hg 4).trans rfl
  clear h hl hs hb ho hv hn
  go_enter Try.func27, Try.ntmps27
  go_upto_region 2 with (go_at_call 65; (refine HBS.out.mono ?_); rintro e w1 ⟨i, hi, rfl, hb⟩; obtain ⟨bb, hbb⟩ : ∃ bb, bb = decide (i < A.go.length ∧ (A.go.getD i (0, 0)).1 = o) := ⟨_, rfl⟩; rw [← hbb]; have HBB := Aside0.mk hbb; clear hbb; have HI := Aside0.mk hi; have HB := Aside0.mk hb; clear hi hb)
  have HA1 := Aside0.mk (HA.out.below HB.out)
  clear y4 HBS d1
  have HSZ := Aside0.mk HB.out.size
  by_cases hf : i < A.go.length ∧ (A.go.getD i (0, 0)).1 = o
  · have HF := Aside0.mk hf
    have HG := Aside0.mk (got_old (n := n) HI.out hf.1 hf.2)
    obtain rfl : bb = true := by rw [HBB.out]; exact decide_eq_true hf
    clear hf HBB
    obtain ⟨A9, c9, rfl, hA9⟩ := HA1.out.gt.open
    obtain ⟨gb, hgb⟩ : ∃ gb, A9 = some ⟨gb, 0, none⟩ := by
      rcases hA9 with ⟨_, _, h0⟩ | ⟨gb, h0, _⟩
      · have := HF.out.1; rw [h0] at this; simp at this
      · exact ⟨gb, h0⟩
    subst hgb
    clear hA9
    have hat := HA1.out.gt.at HF.out.1
    have y4 : w1.cell? ⟨g, 4, none⟩ = some (.slice (some ⟨gb, 0, none⟩) A.go.length c9) := (blk_cell HA1.out.hg 4).trans rfl
    have y5 := hat.2
    have f5 := HA1.out.gt.frozen (i * 2 + 1)
    have p1 : (0 ≤ (i : Int)) = True := eq_true (by omega)
    have p2 : ((i : Int) < (A.go.length : Int)) = True := eq_true (by have := HF.out.1; omega)
    have ew : Aside0 (wrap64 ((A.go.getD i (0, 0)).2 + n) = (A.go.getD i (0, 0)).2 + n) := ⟨by have h1 := HV.out i HF.out.1; have h2 := HN.out; unfold wrap64; omega⟩
    have HLG := Aside0.mk (HA1.out.inGo HF.out.1 ((A.go.getD i (0, 0)).2 + n))
    clear hat
    generalize (A.go.getD i (0, 0)).2 = z at *
    obtain ⟨N, hN⟩ : ∃ N, N = A.go.length := ⟨_, rfl⟩
    rw [← hN] at y4 p2
    clear hN
    go_wp2
    refine bodyPost_end (results_none rfl _ _ _) rfl ?_
    have hlg := HLG.out
    rw [HF.out.2] at hlg
    rw [ew.out]
    exact ⟨rfl, by rw [HG.out]; exact ⟨_, _, _, hlg.1.mono (fun k hk => Or.inl hk)⟩, (Chg.of_below HB.out).trans hlg.2⟩
  · have HG := Aside0.mk (got_new (n := n) HI.out hf)
    have HM := Aside0.mk (getD_mid A.go i (o, 0) HI.out.le)
    have HSM := Aside0.mk (set_mid A.go i (o, 0) (o, n) HI.out.le)
    obtain rfl : bb = false := by rw [HBB.out]; exact decide_eq_false hf
    clear hf HBB
    have y4 : w1.cell? ⟨g, 4, none⟩ = some vg := (blk_cell HA1.out.hg 4).trans rfl
    have fz := blk_frozen HA1.out.hg 4
    have HA2 := Aside0.mk (HA1.out.below (below_alloc (Below.refl _ _) (.cells #[.int .i64 o, .int .i64 0] 33)))
    have HIN := Aside0.mk (insert_any (W := w1.alloc (.cells #[.int .i64 o, .int .i64 0] 33)) (i := i) (gv := w1.heap.size) (x := o) (y := 0) HA2.out.gt (Nat.zero_le _) HI.out.le (by have := HL.out; omega) (blk_new _ _) (fun q => by have := own_lt HA1.out.gt _ q; omega))
    go_upto_region 4 with (go_at_call 67; (refine HIN.out.mono ?_); rintro e w2 ⟨v2, rfl, hp, hc, hat⟩; obtain ⟨go, hgo⟩ : ∃ go, go = A.go.take i ++ (o, 0) :: A.go.drop i := ⟨_, rfl⟩; rw [← hgo] at hp; have HGO := Aside0.mk hgo; clear hgo; have HP := Aside0.mk hp; have HC := Aside0.mk hc; have HAT := Aside0.mk hat; have hx := (hc.block g (blk_lt HA2.out.hg) (fun z => HA2.out.ne.2.1 z.symm)).trans HA2.out.hg; have cz : w2.cell? ⟨g, 4, none⟩ = some vg := (blk_cell hx 4).trans rfl; have fz2 := blk_frozen hx 4; obtain ⟨A9, c9, rfl, hA9⟩ := hp.open; clear hp hc hat hx)
    have HLG := Aside0.mk (HA2.out.setGo HC.out (fun k hk => hk) HP.out (HAT.out.imp id (fun q k hk => by rw [q] at hk; injection hk with hk; omega)))
    have HSZ2 := Aside0.mk (alloc_le w1 (.cells #[.int .i64 o, .int .i64 0] 33))
    have HCH := Aside0.mk (((Chg.of_below HB.out).alloc (S := S) (.cells #[.int .i64 o, .int .i64 0] 33)).trans HLG.out.2)
    clear y4 fz cz fz2 HIN HC HAT
    generalize w2.setCell ⟨g, 4, none⟩ (.slice A9 go.length c9) = w3 at *
    rw [← HGO.out] at HM HSM
    have HLEN := Aside0.mk (show i < go.length from by rw [HGO.out]; have := HI.out.le; simp; omega)
    clear HP
    obtain ⟨gb, hgb⟩ : ∃ gb, A9 = some ⟨gb, 0, none⟩ := by
      rcases hA9 with ⟨_, _, h0⟩ | ⟨gb, h0, _⟩
      · have := HLEN.out; rw [h0] at this; simp at this
      · exact ⟨gb, h0⟩
    subst hgb
    clear hA9
    have hat := HLG.out.1.gt.at HLEN.out
    have y4 : w3.cell? ⟨g, 4, none⟩ = some (.slice (some ⟨gb, 0, none⟩) go.length c9) := (blk_cell HLG.out.1.hg 4).trans rfl
    have y5 := hat.2
    have f5 := HLG.out.1.gt.frozen (i * 2 + 1)
    rw [HM.out] at y5
    have p1 : (0 ≤ (i : Int)) = True := eq_true (by omega)
    have p2 : ((i : Int) < (go.length : Int)) = True := eq_true (by have := HLEN.out; omega)
    have ew : Aside0 (wrap64 n = n) := ⟨by have h2 := HN.out; unfold wrap64; omega⟩
    have HL2 := Aside0.mk (HLG.out.1.inGo HLEN.out n)
    obtain ⟨N, hN⟩ : ∃ N, N = go.length := ⟨_, rfl⟩
    rw [← hN] at y4 p2
    clear hat hN
    go_wp2
    refine bodyPost_end (results_none rfl _ _ _) rfl ?_
    have hlg := HL2.out
    simp only [HM.out] at hlg
    rw [HSM.out] at hlg
    have e0 : wrap64 (0 + n) = n := by rw [Int.zero_add]; exact ew.out
    first | rw [ew.out] | rw [e0] | skip
    exact ⟨rfl, by rw [HG.out]; exact ⟨_, _, _, hlg.1.mono (fun k hk => by
      rcases hk with z | z
      · exact Or.inl z
      · exact Or.inr (by have := HSZ.out; have := HSZ2.out; omega))⟩, HCH.out.join hlg.2 (fun k hk => by
      rcases hk with z | z
      · exact Or.inl z
      · exact Or.inr (by have := HSZ.out; have := HSZ2.out; omega))⟩
end
end Go.Proofs.Ytakbhnfmimnbhaa.Rn
