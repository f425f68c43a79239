/- The page's places: Copy. Conditions: none. -/
import Derived.Test.YtjcjhmnfknenlaaPx1
namespace Go.Proofs.Ytjcjhmnfknenlaa.Px
open Go.RowKit Go.Proofs.Ytjcjhmnfknenlaa.PPlaceApart Go.Proofs.YtjcjhmnfknenlaaW.PrintWords Go.Proofs.YtjcjhmnfknenlaaW.PrintLast Go.Proofs.YtjcjhmnfknenlaaW.PrintMore
set_option linter.unusedVariables false
set_option linter.unusedSimpArgs false

theorem nums_one (l : List Int) : ∀ u ∈ nums .i64 l, u.oneCell' = true := by
  intro u hu
  simp only [nums, List.mem_map] at hu
  obtain ⟨q, _, rfl⟩ := hu
  rfl
theorem info41 : (Try.prog.info? 41).map (·.size) = some 4 := by kernel_rfl
theorem own_one {W : World} {b n : Nat} {e : TypeId} {v : Value} {xs : List Value} (h : W.ownsRow b e 1 v n xs) : v.oneCell' = true := by
  obtain ⟨A, c, rfl⟩ := own_slice h
  rfl
theorem ex_store41 {oi : Oper} {a : Act} {w : World} {g b : Nat} {x y : Operand} {u0 u1 u2 u3 : Value} {n0 n1 n2 n3 : Nat} {l0 l1 l2 l3 : List Value} (ho : oi.op = .store 41 x y) (hx : a.eval x = .pointer (some ⟨g, 0, none⟩)) (hy : a.eval y = .agg #[u0, u1, u2, u3]) (hg : w.heap[g]? = some (.cells #[.slice none 0 0, .slice none 0 0, .slice none 0 0, .slice none 0 0] 41 (0, 0)))
    (h : w.ownsRow b 3 1 u0 n0 l0 ∧ w.ownsRow b 3 1 u1 n1 l1 ∧ w.ownsRow b 38 1 u2 n2 l2 ∧ w.ownsRow b 3 1 u3 n3 l3) : (execOp a.eval oi).run Try.prog w = .ok .skip (w.setRow g #[u0, u1, u2, u3]) := by
  unfold execOp
  simp only [ho, hx, hy, Instr.storeAt, Instr.sureAddr, Sem.run_bind, Sem.run_pure, Result.andThen_ok, run_storeVar_row w g 41 41 _ #[u0, u1, u2, u3] hg info41 rfl (by simp [own_one h.1, own_one h.2.1, own_one h.2.2.1, own_one h.2.2.2])]
theorem built41 (A0 A1 A2 A3 : Option Addr) (n0 n1 n2 n3 c0 c1 c2 c3 : Nat) : Try.prog.built 41 [(0, .slice A0 n0 c0), (1, .slice A1 n1 c1), (2, .slice A2 n2 c2), (3, .slice A3 n3 c3)] = some #[.slice A0 n0 c0, .slice A1 n1 c1, .slice A2 n2 c2, .slice A3 n3 c3] := by kernel_rfl
theorem ex_build41 {oi : Oper} {a : Act} {w : World} {b : Nat} {x0 x1 x2 x3 : Operand} {u0 u1 u2 u3 : Value} {n0 n1 n2 n3 : Nat} {l0 l1 l2 l3 : List Value} (ho : oi.op = .build 41 #[(0, x0), (1, x1), (2, x2), (3, x3)]) (h0 : a.eval x0 = u0) (h1 : a.eval x1 = u1) (h2 : a.eval x2 = u2) (h3 : a.eval x3 = u3)
    (h : w.ownsRow b 3 1 u0 n0 l0 ∧ w.ownsRow b 3 1 u1 n1 l1 ∧ w.ownsRow b 38 1 u2 n2 l2 ∧ w.ownsRow b 3 1 u3 n3 l3) : (execOp a.eval oi).run Try.prog w = .ok (.value (.agg #[u0, u1, u2, u3])) w := by
  obtain ⟨A0, c0, rfl⟩ := own_slice h.1
  obtain ⟨A1, c1, rfl⟩ := own_slice h.2.1
  obtain ⟨A2, c2, rfl⟩ := own_slice h.2.2.1
  obtain ⟨A3, c3, rfl⟩ := own_slice h.2.2.2
  unfold execOp
  simp only [ho, List.map_toArray, List.map_cons, List.map_nil, h0, h1, h2, h3, Sem.run_bind, run_build w 41 _ _ (built41 A0 A1 A2 A3 n0 n1 n2 n3 c0 c1 c2 c3), Result.andThen_ok]
  rfl
theorem below_row41 {b g : Nat} {w0 w : World} (hb : Below b w0 w) (hg : b ≤ g) (cs : Array Value) : Below b w0 (w.setRow g cs) :=
  hb.trans ⟨rfl, rfl, rfl, by simp [World.setRow], fun k hk => setRow_other w g k cs (by omega)⟩
theorem own_row41 {W : World} {base g n : Nat} {e : TypeId} {v : Value} {xs : List Value} {x cs : Array Value} (h : W.ownsRow base e 1 v n xs) (hg : W.heap[g]? = some (.cells x 41 (0, 0))) (he : e ≠ 41) : (W.setRow g cs).ownsRow base e 1 v n xs :=
  own_move h (fun k hk => setRow_other W g k cs (fun q => own_ne h hg he (by rw [hk, q])))
theorem own_blk_some {W : World} {b n : Nat} {e : TypeId} {v : Value} {xs : List Value} (h : W.ownsRow b e 1 v n xs) (hs : v ≠ .slice none 0 0) : v.ownBlock ≠ none := by
  rcases h.2 with ⟨rfl, _⟩ | ⟨g, cap, cur, rfl, _⟩
  · exact absurd rfl hs
  · intro q; cases q
def copyT1 : Bool × List (List Nat × List Nat) := (true, [([], []), ([], []), ([1], [1]), ([0, 2], [0, 2]), ([], []), ([], []), ([5], [5]), ([4, 6, 3], [4, 6]), ([], []), ([], []), ([9], [9]), ([8, 10, 7], [8, 10]), ([], []), ([], []), ([13], [13]), ([12, 14, 11], [12, 14]), ([3, 7, 11, 15], [3, 7, 11, 15]), ([16, 15, 0, 1, 2, 3, 4, 5, 6, 7, 8, 9, 10, 11, 12, 13, 14, 15, 16], [16])])
def copyB1 : List Nat := [0, 0, 2, 7, 0, 0, 32, 127, 0, 0, 512, 2047, 0, 0, 8192, 32767, 65535, 131071]
theorem copyT : rtab .any (opsOf Try.f50 1) = copyT1 := by kernel_rfl
theorem copyB : waitsOk copyT1.2 copyB1 = true := by kernel_rfl
set_option maxHeartbeats 8000000 in
set_option maxRecDepth 100000 in
theorem copy_any {W : World} {A0 A1 A2 A3 : Option Addr} {c0 c1 c2 c3 : Nat} {l0 l1 l3 : List Int} {vs : List Value} (h0 : W.ownsRow 0 3 1 (.slice A0 l0.length c0) l0.length (nums .i64 l0)) (h1 : W.ownsRow 0 3 1 (.slice A1 l1.length c1) l1.length (nums .i64 l1))
    (h2 : W.ownsRow 0 38 1 (.slice A2 vs.length c2) vs.length vs) (h3 : W.ownsRow 0 3 1 (.slice A3 l3.length c3) l3.length (nums .i64 l3)) (hone : ∀ u ∈ vs, u.oneCell' = true) (hl : l0.length ≤ 1000 ∧ l1.length ≤ 1000 ∧ vs.length ≤ 1000 ∧ l3.length ≤ 1000) :
    Calls Try.prog 50 #[.agg #[.slice A0 l0.length c0, .slice A1 l1.length c1, .slice A2 vs.length c2, .slice A3 l3.length c3]] W fun e w' => ∃ u0 u1 u2 u3, e = .returned (.agg #[u0, u1, u2, u3]) ∧ Below W.heap.size W w' ∧
      w'.ownsRow W.heap.size 3 1 u0 l0.length (nums .i64 l0) ∧ w'.ownsRow W.heap.size 3 1 u1 l1.length (nums .i64 l1) ∧ w'.ownsRow W.heap.size 38 1 u2 vs.length vs ∧ w'.ownsRow W.heap.size 3 1 u3 l3.length (nums .i64 l3) ∧
      u0.ownBlock ≠ u1.ownBlock ∧ u0.ownBlock ≠ u3.ownBlock ∧ u1.ownBlock ≠ u3.ownBlock := by
  have hu41 := Try.underlying41
  have H0 := Aside0.mk h0
  have H1 := Aside0.mk h1
  have H2 := Aside0.mk h2
  have H3 := Aside0.mk h3
  have ONE := Aside0.mk hone
  have HL := Aside0.mk hl
  clear h0 h1 h2 h3 hone hl
  go_enter Try.func50, Try.ntmps50
  go_upto_region 1 with (first
    | ((with_reducible refine gate_dst (N := 1) rfl ?_); refine box_event ?hg (N := 1) ?hd (cs := #[.slice A0 l0.length c0, .slice A1 l1.length c1, .slice A2 vs.length c2, .slice A3 l3.length c3]) (t := 41) ?hr ?_; (case hd => rfl); (case hg => rfl); (case hr => first | (go_simp; done) | (go_simp; rfl)); intro g1 hg w1 hbox hb; have B1 := Aside0.mk hb; have X1 := Aside0.mk hbox; have G1 := Aside0.mk hg; clear hbox hb hg)
    | ((with_reducible refine gate_dst (N := 2) rfl ?_); refine box_event ?hg (N := 2) ?hd (cs := #[.slice none 0 0, .slice none 0 0, .slice none 0 0, .slice none 0 0]) (t := 41) ?hr ?_; (case hd => rfl); (case hg => rfl); (case hr => first | (go_simp; done) | (go_simp; rfl)); intro g2 hg w2 hbox hb; have B2 := Aside0.mk hb; have X2 := Aside0.mk hbox; have G2 := Aside0.mk hg; clear hbox hb hg))
  have HB := Aside0.mk (show Below W.heap.size W w2.drew from below_drew (below_step B1.out B2.out))
  have C1 := Aside0.mk (show w2.drew.heap[g1]? = some (.cells #[.slice A0 l0.length c0, .slice A1 l1.length c1, .slice A2 vs.length c2, .slice A3 l3.length c3] 41 (0, 0)) from (show w2.heap[g1]? = _ from blk_below X1.out B2.out))
  have C2 := Aside0.mk (show w2.drew.heap[g2]? = some (.cells #[.slice none 0 0, .slice none 0 0, .slice none 0 0, .slice none 0 0] 41 (0, 0)) from X2.out)
  have GE2 := Aside0.mk (show W.heap.size ≤ g2 from by have h1 := B1.out.size; have h2 := G2.out; omega)
  have NE := Aside0.mk (show g1 ≠ g2 from by have h1 := blk_lt X1.out; have h2 := G2.out; omega)
  clear B1 B2 X1 X2 G1 G2
  refine start_ (n := 18) (S := fun w' => True) (ds := []) #[false, false, false, false, false, false, false, false, false, false, false, false, false, false, false, false, false, false] (by kernel_rfl) rfl rfl trivial (fun hHeld => ?_)
  refine with_tabW copyT copyB (fun HT_ HW_ => ?_)
  refine pure_ (i := 1) (N := some 4) (v := ?_) (a' := ?_) #[false, true, false, false, false, false, false, false, false, false, false, false, false, false, false, false, false, false] rfl rfl (by kernel_rfl) (fun _ _ _ h => h) (Or.inl ⟨by rfl, ?_⟩) ?_ ?_
  rotate_left
  · intro w'
    go_simp
    with_reducible rfl
  rotate_left
  · simp only [Act.put, List.setIfInBounds_toArray, List.set_cons_zero, List.set_cons_succ, i64_w, i32_w]
    rfl
  refine pure_ (i := 5) (N := some 8) (v := ?_) (a' := ?_) #[false, true, false, false, false, true, false, false, false, false, false, false, false, false, false, false, false, false] rfl rfl (by kernel_rfl) (fun _ _ _ h => h) (Or.inl ⟨by rfl, ?_⟩) ?_ ?_
  rotate_left
  · intro w'
    go_simp
    with_reducible rfl
  rotate_left
  · simp only [Act.put, List.setIfInBounds_toArray, List.set_cons_zero, List.set_cons_succ, i64_w, i32_w]
    rfl
  refine pure_ (i := 9) (N := some 12) (v := ?_) (a' := ?_) #[false, true, false, false, false, true, false, false, false, true, false, false, false, false, false, false, false, false] rfl rfl (by kernel_rfl) (fun _ _ _ h => h) (Or.inl ⟨by rfl, ?_⟩) ?_ ?_
  rotate_left
  · intro w'
    go_simp
    with_reducible rfl
  rotate_left
  · simp only [Act.put, List.setIfInBounds_toArray, List.set_cons_zero, List.set_cons_succ, i64_w, i32_w]
    rfl
  refine pure_ (i := 13) (N := some 16) (v := ?_) (a' := ?_) #[false, true, false, false, false, true, false, false, false, true, false, false, false, true, false, false, false, false] rfl rfl (by kernel_rfl) (fun _ _ _ h => h) (Or.inl ⟨by rfl, ?_⟩) ?_ ?_
  rotate_left
  · intro w'
    go_simp
    with_reducible rfl
  rotate_left
  · simp only [Act.put, List.setIfInBounds_toArray, List.set_cons_zero, List.set_cons_succ, i64_w, i32_w]
    rfl
  refine inv_at [0, 2, 3, 4, 6, 7, 8, 10, 11, 12, 14, 15, 16, 17] (fun a0_ b a w' => ∃ (s0 : Value) (s1 : Value) (s2 : Value) (s3 : Value) (u0 : Value) (u1 : Value) (u2 : Value) (u3 : Value) (m16_ : Value), a = putSel a0_ b [(0, 3, s0), (2, 5, .slice A0 l0.length c0), (3, 6, u0), (4, 7, s1), (6, 9, .slice A1 l1.length c1), (7, 10, u1), (8, 11, s2), (10, 13, .slice A2 vs.length c2), (11, 14, u2), (12, 15, s3), (14, 17, .slice A3 l3.length c3), (15, 18, u3), (16, 19, m16_)] ∧ (Below W.heap.size W w') ∧ (w'.heap[g1]? = some (.cells #[.slice A0 l0.length c0, .slice A1 l1.length c1, .slice A2 vs.length c2, .slice A3 l3.length c3] 41 (0, 0))) ∧ (b 17 = false → w'.heap[g2]? = some (.cells #[.slice none 0 0, .slice none 0 0, .slice none 0 0, .slice none 0 0] 41 (0, 0))) ∧ (b 17 = true → w'.heap[g2]? = some (.cells #[u0, u1, u2, u3] 41 (0, 0))) ∧ (b 0 = true → (s0 : Value).ownBlock ≠ none) ∧ (b 0 = true → b 3 = false → w'.ownsRow W.heap.size 3 1 s0 0 []) ∧ (b 3 = true → w'.ownsRow W.heap.size 3 1 u0 l0.length (nums .i64 l0)) ∧ (b 4 = true → (s1 : Value).ownBlock ≠ none) ∧ (b 4 = true → b 7 = false → w'.ownsRow W.heap.size 3 1 s1 0 []) ∧ (b 7 = true → w'.ownsRow W.heap.size 3 1 u1 l1.length (nums .i64 l1)) ∧ (b 8 = true → (s2 : Value).ownBlock ≠ none) ∧ (b 8 = true → b 11 = false → w'.ownsRow W.heap.size 38 1 s2 0 []) ∧ (b 11 = true → w'.ownsRow W.heap.size 38 1 u2 vs.length vs) ∧ (b 12 = true → (s3 : Value).ownBlock ≠ none) ∧ (b 12 = true → b 15 = false → w'.ownsRow W.heap.size 3 1 s3 0 []) ∧ (b 15 = true → w'.ownsRow W.heap.size 3 1 u3 l3.length (nums .i64 l3)) ∧ (b 0 = true → b 4 = true → b 3 = false → b 7 = false → (s0 : Value).ownBlock ≠ (s1 : Value).ownBlock) ∧ (b 3 = true → b 4 = true → b 7 = false → (u0 : Value).ownBlock ≠ (s1 : Value).ownBlock) ∧ (b 3 = true → b 7 = true → (u0 : Value).ownBlock ≠ (u1 : Value).ownBlock) ∧ (b 0 = true → b 12 = true → b 3 = false → b 15 = false → (s0 : Value).ownBlock ≠ (s3 : Value).ownBlock) ∧ (b 3 = true → b 12 = true → b 15 = false → (u0 : Value).ownBlock ≠ (s3 : Value).ownBlock) ∧ (b 3 = true → b 15 = true → (u0 : Value).ownBlock ≠ (u3 : Value).ownBlock) ∧ (b 4 = true → b 12 = true → b 7 = false → b 15 = false → (s1 : Value).ownBlock ≠ (s3 : Value).ownBlock) ∧ (b 7 = true → b 12 = true → b 15 = false → (u1 : Value).ownBlock ≠ (s3 : Value).ownBlock) ∧ (b 7 = true → b 15 = true → (u1 : Value).ownBlock ≠ (u3 : Value).ownBlock) ∧ (b 16 = true → (m16_ : Value) = .agg #[u0, u1, u2, u3])) HT_.out HW_.out (by kernel_rfl) (by kernel_rfl) ?_ ?_ ?_
  · exact ⟨.bool false, .bool false, .bool false, .bool false, .bool false, .bool false, .bool false, .bool false, .bool false, by simp only [putSel, Bool.false_eq_true, if_false], HB.out, C1.out, fun _ => C2.out, fun h_ => absurd h_ (by decide), fun h_ => absurd h_ (by decide), fun h_ => absurd h_ (by decide), fun h_ => absurd h_ (by decide), fun h_ => absurd h_ (by decide), fun h_ => absurd h_ (by decide), fun h_ => absurd h_ (by decide), fun h_ => absurd h_ (by decide), fun h_ => absurd h_ (by decide), fun h_ => absurd h_ (by decide), fun h_ => absurd h_ (by decide), fun h_ => absurd h_ (by decide), fun h_ => absurd h_ (by decide), fun h_ => absurd h_ (by decide), fun h_ => absurd h_ (by decide), fun h_ => absurd h_ (by decide), fun h_ => absurd h_ (by decide), fun h_ => absurd h_ (by decide), fun h_ => absurd h_ (by decide), fun h_ => absurd h_ (by decide), fun h_ => absurd h_ (by decide), fun h_ => absurd h_ (by decide), fun h_ => absurd h_ (by decide)⟩
  · skip
    clear C1 C2 HB
    refine steps_cons ?_ ?_
    · rintro b a w' ⟨s0, s1, s2, s3, u0, u1, u2, u3, m16_, ha, Q_HB, Q_C1, Q_C2, Q_C2e, Q_N0, Q_E0, Q_R0, Q_N1, Q_E1, Q_R1, Q_N2, Q_E2, Q_R2, Q_N3, Q_E3, Q_R3, Q_Ee01, Q_M01, Q_U01, Q_Ee03, Q_M03, Q_U03, Q_Ee13, Q_M13, Q_U13, Q_X16_⟩ hb_ hon hoff
      refine ⟨_, rfl, fun K hK => ?_⟩
      replace ha := Aside0.mk ha
      have HB := Aside0.mk Q_HB
      have C1 := Aside0.mk Q_C1
      have C2 := Aside0.mk (Q_C2 (hoff 17 (by kernel_rfl)))
      refine value_ (w1 := w'.alloc (.cells #[] 3)) (v := (.slice (some ⟨w'.heap.size, 0, none⟩) 0 0)) (by rfl) rfl ?_ ?_
      · first | (go_simp; done) | (go_simp; rfl)
      refine hK.out _ _ ⟨(.slice (some ⟨w'.heap.size, 0, none⟩) 0 0), s1, s2, s3, u0, u1, u2, u3, m16_, (by rw [ha.out]; exact putSel_upk 0 hb_ rfl rfl rfl), below_alloc HB.out _, blk_alloc C1.out _, fun _ => blk_alloc C2.out _, fun h0_ => absurd ((hoff 17 (by kernel_rfl)).symm.trans h0_) (by decide), fun _ => (fun q => by cases q), fun _ _ => own_fresh w' HB.out.size 3, fun h0_ => absurd ((hoff 3 (by kernel_rfl)).symm.trans h0_) (by decide), fun h0_ => (Q_N1 h0_), fun h0_ h1_ => (Q_E1 h0_ h1_).alloc _, fun h0_ => absurd ((hoff 7 (by kernel_rfl)).symm.trans h0_) (by decide), fun h0_ => (Q_N2 h0_), fun h0_ h1_ => (Q_E2 h0_ h1_).alloc _, fun h0_ => absurd ((hoff 11 (by kernel_rfl)).symm.trans h0_) (by decide), fun h0_ => (Q_N3 h0_), fun h0_ h1_ => (Q_E3 h0_ h1_).alloc _, fun h0_ => absurd ((hoff 15 (by kernel_rfl)).symm.trans h0_) (by decide), fun h0_ h1_ h2_ h3_ => (new_ne (Q_E1 h1_ h3_)).symm, fun h0_ _ _ => absurd ((hoff 3 (by kernel_rfl)).symm.trans h0_) (by decide), fun h0_ _ => absurd ((hoff 3 (by kernel_rfl)).symm.trans h0_) (by decide), fun h0_ h1_ h2_ h3_ => (new_ne (Q_E3 h1_ h3_)).symm, fun h0_ _ _ => absurd ((hoff 3 (by kernel_rfl)).symm.trans h0_) (by decide), fun h0_ _ => absurd ((hoff 3 (by kernel_rfl)).symm.trans h0_) (by decide), Q_Ee13, fun h0_ _ _ => absurd ((hoff 7 (by kernel_rfl)).symm.trans h0_) (by decide), fun h0_ _ => absurd ((hoff 7 (by kernel_rfl)).symm.trans h0_) (by decide), fun h0_ => absurd ((hoff 16 (by kernel_rfl)).symm.trans h0_) (by decide)⟩
    refine steps_cons ?_ ?_
    · rintro b a w' ⟨s0, s1, s2, s3, u0, u1, u2, u3, m16_, ha, Q_HB, Q_C1, Q_C2, Q_C2e, Q_N0, Q_E0, Q_R0, Q_N1, Q_E1, Q_R1, Q_N2, Q_E2, Q_R2, Q_N3, Q_E3, Q_R3, Q_Ee01, Q_M01, Q_U01, Q_Ee03, Q_M03, Q_U03, Q_Ee13, Q_M13, Q_U13, Q_X16_⟩ hb_ hon hoff
      refine ⟨_, rfl, fun K hK => ?_⟩
      have e4 : a.tmps[4]? = some (.pointer (some ⟨g1, 0, none⟩)) := by rw [ha]; exact (putSel_off rfl).trans rfl
      replace ha := Aside0.mk ha
      have HB := Aside0.mk Q_HB
      have C1 := Aside0.mk Q_C1
      have C2 := Aside0.mk (Q_C2 (hoff 17 (by kernel_rfl)))
      have hc0_ : w'.cell? ⟨g1, 0, none⟩ = some (.slice A0 l0.length c0) := (blk_cell C1.out 0).trans rfl
      have hc1_ : w'.cell? ⟨g1, 1, none⟩ = some (.slice A1 l1.length c1) := (blk_cell C1.out 1).trans rfl
      have hc2_ : w'.cell? ⟨g1, 2, none⟩ = some (.slice A2 vs.length c2) := (blk_cell C1.out 2).trans rfl
      have hc3_ : w'.cell? ⟨g1, 3, none⟩ = some (.slice A3 l3.length c3) := (blk_cell C1.out 3).trans rfl
      refine value_ (w1 := w') (v := .slice A0 l0.length c0) (by rfl) rfl ?_ ?_
      · go_simp
        (try simp only [i64_w])
        try rfl
      refine hK.out _ _ ⟨s0, s1, s2, s3, u0, u1, u2, u3, m16_, (by rw [ha.out]; exact putSel_upk 1 hb_ rfl rfl rfl), Q_HB, Q_C1, Q_C2, fun h0_ => absurd ((hoff 17 (by kernel_rfl)).symm.trans h0_) (by decide), Q_N0, Q_E0, fun h0_ => absurd ((hoff 3 (by kernel_rfl)).symm.trans h0_) (by decide), Q_N1, Q_E1, fun h0_ => absurd ((hoff 7 (by kernel_rfl)).symm.trans h0_) (by decide), Q_N2, Q_E2, fun h0_ => absurd ((hoff 11 (by kernel_rfl)).symm.trans h0_) (by decide), Q_N3, Q_E3, fun h0_ => absurd ((hoff 15 (by kernel_rfl)).symm.trans h0_) (by decide), Q_Ee01, fun h0_ _ _ => absurd ((hoff 3 (by kernel_rfl)).symm.trans h0_) (by decide), fun h0_ _ => absurd ((hoff 3 (by kernel_rfl)).symm.trans h0_) (by decide), Q_Ee03, fun h0_ _ _ => absurd ((hoff 3 (by kernel_rfl)).symm.trans h0_) (by decide), fun h0_ _ => absurd ((hoff 3 (by kernel_rfl)).symm.trans h0_) (by decide), Q_Ee13, fun h0_ _ _ => absurd ((hoff 7 (by kernel_rfl)).symm.trans h0_) (by decide), fun h0_ _ => absurd ((hoff 7 (by kernel_rfl)).symm.trans h0_) (by decide), fun h0_ => absurd ((hoff 16 (by kernel_rfl)).symm.trans h0_) (by decide)⟩
    refine steps_cons ?_ ?_
    · rintro b a w' ⟨s0, s1, s2, s3, u0, u1, u2, u3, m16_, ha, Q_HB, Q_C1, Q_C2, Q_C2e, Q_N0, Q_E0, Q_R0, Q_N1, Q_E1, Q_R1, Q_N2, Q_E2, Q_R2, Q_N3, Q_E3, Q_R3, Q_Ee01, Q_M01, Q_U01, Q_Ee03, Q_M03, Q_U03, Q_Ee13, Q_M13, Q_U13, Q_X16_⟩ hb_ hon hoff
      refine ⟨_, rfl, fun K hK => ?_⟩
      have e3 : a.tmps[3]? = some (s0) := by rw [ha]; exact putSel_on (e := (0, 3, s0)) 0 rfl rfl (hon 0 (by kernel_rfl)) rfl
      have e5 : a.tmps[5]? = some (.slice A0 l0.length c0) := by rw [ha]; exact putSel_on (e := (2, 5, .slice A0 l0.length c0)) 1 rfl rfl (hon 2 (by kernel_rfl)) rfl
      replace ha := Aside0.mk ha
      have HB := Aside0.mk Q_HB
      have C1 := Aside0.mk Q_C1
      have C2 := Aside0.mk (Q_C2 (hoff 17 (by kernel_rfl)))
      have N0 := Aside0.mk (Q_N0 (hon 0 (by kernel_rfl)))
      have E0 := Aside0.mk (Q_E0 (hon 0 (by kernel_rfl)) hb_)
      have HIN := Aside0.mk (pw_own_below (H0.out) HB.out)
      refine step_appc rfl (.tmp 3) (.tmp 5) 38 3 rfl (.int .i64 0) 8 Try.underlying38 Rg.info3 rfl W.heap.size s0 0 [] (nums .i64 l0) A0 l0.length c0 0 (by simp [Act.eval, e3]) (by simp [Act.eval, e5]) E0.out HIN.out (nums_one _) HB.out.size (by have := HL.out; omega) (by have := HL.out; omega) ?_
      intro z0 w9 ho_ hg_ hat_
      rw [Nat.zero_add, List.nil_append] at ho_
      have EB_ := Aside0.mk (fun k hk => own_base E0.out k hk)
      have EL_ := Aside0.mk (fun k hk => own_lt E0.out k hk)
      have HBn := Aside0.mk (HB.out.grown hg_ HB.out.size (fun k hk => EB_.out k hk))
      refine hK.out _ _ ⟨s0, s1, s2, s3, z0, u1, u2, u3, m16_, (by rw [ha.out]; exact putSel_upk 2 hb_ rfl rfl rfl), HBn.out, (hg_.block g1 (blk_lt C1.out) (own_ne E0.out C1.out (by decide))).trans C1.out, fun _ => (hg_.block g2 (blk_lt C2.out) (own_ne E0.out C2.out (by decide))).trans C2.out, fun h0_ => absurd ((hoff 17 (by kernel_rfl)).symm.trans h0_) (by decide), fun _ => N0.out, fun _ h1_ => absurd ((up_self b 3).symm.trans h1_) (by decide), fun _ => ho_, fun h0_ => (Q_N1 h0_), fun h0_ h1_ => row_grown (b2 := 0) (m := 0) (e2 := 3) (ys := []) (Q_E1 h0_ h1_) hg_ (Q_Ee01 (hon 0 (by kernel_rfl)) h0_ hb_ h1_).symm, fun h0_ => absurd ((hoff 7 (by kernel_rfl)).symm.trans h0_) (by decide), fun h0_ => (Q_N2 h0_), fun h0_ h1_ => row_grown (b2 := 0) (m := 0) (e2 := 3) (ys := []) (Q_E2 h0_ h1_) hg_ (tag_ne_row (Q_E2 h0_ h1_) E0.out N0.out (by decide)), fun h0_ => absurd ((hoff 11 (by kernel_rfl)).symm.trans h0_) (by decide), fun h0_ => (Q_N3 h0_), fun h0_ h1_ => row_grown (b2 := 0) (m := 0) (e2 := 3) (ys := []) (Q_E3 h0_ h1_) hg_ (Q_Ee03 (hon 0 (by kernel_rfl)) h0_ hb_ h1_).symm, fun h0_ => absurd ((hoff 15 (by kernel_rfl)).symm.trans h0_) (by decide), fun _ _ h2_ _ => absurd ((up_self b 3).symm.trans h2_) (by decide), fun h0_ h1_ h2_ => app_ne (Q_E1 h1_ h2_) (Q_Ee01 (hon 0 (by kernel_rfl)) h1_ hb_ h2_) hat_, fun _ h1_ => absurd ((hoff 7 (by kernel_rfl)).symm.trans h1_) (by decide), fun _ _ h2_ _ => absurd ((up_self b 3).symm.trans h2_) (by decide), fun h0_ h1_ h2_ => app_ne (Q_E3 h1_ h2_) (Q_Ee03 (hon 0 (by kernel_rfl)) h1_ hb_ h2_) hat_, fun _ h1_ => absurd ((hoff 15 (by kernel_rfl)).symm.trans h1_) (by decide), Q_Ee13, fun h0_ _ _ => absurd ((hoff 7 (by kernel_rfl)).symm.trans h0_) (by decide), fun h0_ _ => absurd ((hoff 7 (by kernel_rfl)).symm.trans h0_) (by decide), fun h0_ => absurd ((hoff 16 (by kernel_rfl)).symm.trans h0_) (by decide)⟩
    refine steps_cons ?_ ?_
    · rintro b a w' ⟨s0, s1, s2, s3, u0, u1, u2, u3, m16_, ha, Q_HB, Q_C1, Q_C2, Q_C2e, Q_N0, Q_E0, Q_R0, Q_N1, Q_E1, Q_R1, Q_N2, Q_E2, Q_R2, Q_N3, Q_E3, Q_R3, Q_Ee01, Q_M01, Q_U01, Q_Ee03, Q_M03, Q_U03, Q_Ee13, Q_M13, Q_U13, Q_X16_⟩ hb_ hon hoff
      refine ⟨_, rfl, fun K hK => ?_⟩
      replace ha := Aside0.mk ha
      have HB := Aside0.mk Q_HB
      have C1 := Aside0.mk Q_C1
      have C2 := Aside0.mk (Q_C2 (hoff 17 (by kernel_rfl)))
      refine value_ (w1 := w'.alloc (.cells #[] 3)) (v := (.slice (some ⟨w'.heap.size, 0, none⟩) 0 0)) (by rfl) rfl ?_ ?_
      · first | (go_simp; done) | (go_simp; rfl)
      refine hK.out _ _ ⟨s0, (.slice (some ⟨w'.heap.size, 0, none⟩) 0 0), s2, s3, u0, u1, u2, u3, m16_, (by rw [ha.out]; exact putSel_upk 3 hb_ rfl rfl rfl), below_alloc HB.out _, blk_alloc C1.out _, fun _ => blk_alloc C2.out _, fun h0_ => absurd ((hoff 17 (by kernel_rfl)).symm.trans h0_) (by decide), fun h0_ => (Q_N0 h0_), fun h0_ h1_ => (Q_E0 h0_ h1_).alloc _, fun h0_ => (Q_R0 h0_).alloc _, fun _ => (fun q => by cases q), fun _ _ => own_fresh w' HB.out.size 3, fun h0_ => absurd ((hoff 7 (by kernel_rfl)).symm.trans h0_) (by decide), fun h0_ => (Q_N2 h0_), fun h0_ h1_ => (Q_E2 h0_ h1_).alloc _, fun h0_ => absurd ((hoff 11 (by kernel_rfl)).symm.trans h0_) (by decide), fun h0_ => (Q_N3 h0_), fun h0_ h1_ => (Q_E3 h0_ h1_).alloc _, fun h0_ => absurd ((hoff 15 (by kernel_rfl)).symm.trans h0_) (by decide), fun h0_ h1_ h2_ h3_ => new_ne (Q_E0 h0_ h2_), fun h0_ h1_ h2_ => new_ne (Q_R0 h0_), fun _ h1_ => absurd ((hoff 7 (by kernel_rfl)).symm.trans h1_) (by decide), Q_Ee03, Q_M03, fun _ h1_ => absurd ((hoff 15 (by kernel_rfl)).symm.trans h1_) (by decide), fun h0_ h1_ h2_ h3_ => (new_ne (Q_E3 h1_ h3_)).symm, fun h0_ _ _ => absurd ((hoff 7 (by kernel_rfl)).symm.trans h0_) (by decide), fun h0_ _ => absurd ((hoff 7 (by kernel_rfl)).symm.trans h0_) (by decide), fun h0_ => absurd ((hoff 16 (by kernel_rfl)).symm.trans h0_) (by decide)⟩
    refine steps_cons ?_ ?_
    · rintro b a w' ⟨s0, s1, s2, s3, u0, u1, u2, u3, m16_, ha, Q_HB, Q_C1, Q_C2, Q_C2e, Q_N0, Q_E0, Q_R0, Q_N1, Q_E1, Q_R1, Q_N2, Q_E2, Q_R2, Q_N3, Q_E3, Q_R3, Q_Ee01, Q_M01, Q_U01, Q_Ee03, Q_M03, Q_U03, Q_Ee13, Q_M13, Q_U13, Q_X16_⟩ hb_ hon hoff
      refine ⟨_, rfl, fun K hK => ?_⟩
      have e8 : a.tmps[8]? = some (.pointer (some ⟨g1, 1, none⟩)) := by rw [ha]; exact (putSel_off rfl).trans rfl
      replace ha := Aside0.mk ha
      have HB := Aside0.mk Q_HB
      have C1 := Aside0.mk Q_C1
      have C2 := Aside0.mk (Q_C2 (hoff 17 (by kernel_rfl)))
      have hc0_ : w'.cell? ⟨g1, 0, none⟩ = some (.slice A0 l0.length c0) := (blk_cell C1.out 0).trans rfl
      have hc1_ : w'.cell? ⟨g1, 1, none⟩ = some (.slice A1 l1.length c1) := (blk_cell C1.out 1).trans rfl
      have hc2_ : w'.cell? ⟨g1, 2, none⟩ = some (.slice A2 vs.length c2) := (blk_cell C1.out 2).trans rfl
      have hc3_ : w'.cell? ⟨g1, 3, none⟩ = some (.slice A3 l3.length c3) := (blk_cell C1.out 3).trans rfl
      refine value_ (w1 := w') (v := .slice A1 l1.length c1) (by rfl) rfl ?_ ?_
      · go_simp
        (try simp only [i64_w])
        try rfl
      refine hK.out _ _ ⟨s0, s1, s2, s3, u0, u1, u2, u3, m16_, (by rw [ha.out]; exact putSel_upk 4 hb_ rfl rfl rfl), Q_HB, Q_C1, Q_C2, fun h0_ => absurd ((hoff 17 (by kernel_rfl)).symm.trans h0_) (by decide), Q_N0, Q_E0, Q_R0, Q_N1, Q_E1, fun h0_ => absurd ((hoff 7 (by kernel_rfl)).symm.trans h0_) (by decide), Q_N2, Q_E2, fun h0_ => absurd ((hoff 11 (by kernel_rfl)).symm.trans h0_) (by decide), Q_N3, Q_E3, fun h0_ => absurd ((hoff 15 (by kernel_rfl)).symm.trans h0_) (by decide), Q_Ee01, Q_M01, fun _ h1_ => absurd ((hoff 7 (by kernel_rfl)).symm.trans h1_) (by decide), Q_Ee03, Q_M03, fun _ h1_ => absurd ((hoff 15 (by kernel_rfl)).symm.trans h1_) (by decide), Q_Ee13, fun h0_ _ _ => absurd ((hoff 7 (by kernel_rfl)).symm.trans h0_) (by decide), fun h0_ _ => absurd ((hoff 7 (by kernel_rfl)).symm.trans h0_) (by decide), fun h0_ => absurd ((hoff 16 (by kernel_rfl)).symm.trans h0_) (by decide)⟩
    refine steps_cons ?_ ?_
    · rintro b a w' ⟨s0, s1, s2, s3, u0, u1, u2, u3, m16_, ha, Q_HB, Q_C1, Q_C2, Q_C2e, Q_N0, Q_E0, Q_R0, Q_N1, Q_E1, Q_R1, Q_N2, Q_E2, Q_R2, Q_N3, Q_E3, Q_R3, Q_Ee01, Q_M01, Q_U01, Q_Ee03, Q_M03, Q_U03, Q_Ee13, Q_M13, Q_U13, Q_X16_⟩ hb_ hon hoff
      refine ⟨_, rfl, fun K hK => ?_⟩
      have e7 : a.tmps[7]? = some (s1) := by rw [ha]; exact putSel_on (e := (4, 7, s1)) 3 rfl rfl (hon 4 (by kernel_rfl)) rfl
      have e9 : a.tmps[9]? = some (.slice A1 l1.length c1) := by rw [ha]; exact putSel_on (e := (6, 9, .slice A1 l1.length c1)) 4 rfl rfl (hon 6 (by kernel_rfl)) rfl
      replace ha := Aside0.mk ha
      have HB := Aside0.mk Q_HB
      have C1 := Aside0.mk Q_C1
      have C2 := Aside0.mk (Q_C2 (hoff 17 (by kernel_rfl)))
      have N0 := Aside0.mk (Q_N0 (hon 0 (by kernel_rfl)))
      have R0 := Aside0.mk (Q_R0 (hon 3 (by kernel_rfl)))
      have N1 := Aside0.mk (Q_N1 (hon 4 (by kernel_rfl)))
      have E1 := Aside0.mk (Q_E1 (hon 4 (by kernel_rfl)) hb_)
      have M01 := Aside0.mk (Q_M01 (hon 3 (by kernel_rfl)) (hon 4 (by kernel_rfl)) hb_)
      have HIN := Aside0.mk (pw_own_below (H1.out) HB.out)
      refine step_appc rfl (.tmp 7) (.tmp 9) 38 3 rfl (.int .i64 0) 8 Try.underlying38 Rg.info3 rfl W.heap.size s1 0 [] (nums .i64 l1) A1 l1.length c1 0 (by simp [Act.eval, e7]) (by simp [Act.eval, e9]) E1.out HIN.out (nums_one _) HB.out.size (by have := HL.out; omega) (by have := HL.out; omega) ?_
      intro z1 w9 ho_ hg_ hat_
      rw [Nat.zero_add, List.nil_append] at ho_
      have EB_ := Aside0.mk (fun k hk => own_base E1.out k hk)
      have EL_ := Aside0.mk (fun k hk => own_lt E1.out k hk)
      have HBn := Aside0.mk (HB.out.grown hg_ HB.out.size (fun k hk => EB_.out k hk))
      refine hK.out _ _ ⟨s0, s1, s2, s3, u0, z1, u2, u3, m16_, (by rw [ha.out]; exact putSel_upk 5 hb_ rfl rfl rfl), HBn.out, (hg_.block g1 (blk_lt C1.out) (own_ne E1.out C1.out (by decide))).trans C1.out, fun _ => (hg_.block g2 (blk_lt C2.out) (own_ne E1.out C2.out (by decide))).trans C2.out, fun h0_ => absurd ((hoff 17 (by kernel_rfl)).symm.trans h0_) (by decide), fun _ => N0.out, fun _ h1_ => absurd ((hon 3 (by kernel_rfl)).symm.trans h1_) (by decide), fun h0_ => row_grown (b2 := 0) (m := 0) (e2 := 3) (ys := []) (Q_R0 h0_) hg_ (Q_M01 h0_ (hon 4 (by kernel_rfl)) hb_), fun _ => N1.out, fun _ h1_ => absurd ((up_self b 7).symm.trans h1_) (by decide), fun _ => ho_, fun h0_ => (Q_N2 h0_), fun h0_ h1_ => row_grown (b2 := 0) (m := 0) (e2 := 3) (ys := []) (Q_E2 h0_ h1_) hg_ (tag_ne_row (Q_E2 h0_ h1_) E1.out N1.out (by decide)), fun h0_ => absurd ((hoff 11 (by kernel_rfl)).symm.trans h0_) (by decide), fun h0_ => (Q_N3 h0_), fun h0_ h1_ => row_grown (b2 := 0) (m := 0) (e2 := 3) (ys := []) (Q_E3 h0_ h1_) hg_ (Q_Ee13 (hon 4 (by kernel_rfl)) h0_ hb_ h1_).symm, fun h0_ => absurd ((hoff 15 (by kernel_rfl)).symm.trans h0_) (by decide), fun _ _ _ h3_ => absurd ((up_self b 7).symm.trans h3_) (by decide), fun _ _ h2_ => absurd ((up_self b 7).symm.trans h2_) (by decide), fun h0_ h1_ => (app_ne (Q_R0 h0_) (Q_M01 h0_ (hon 4 (by kernel_rfl)) hb_).symm hat_).symm, fun _ _ h2_ _ => absurd ((hon 3 (by kernel_rfl)).symm.trans h2_) (by decide), Q_M03, fun _ h1_ => absurd ((hoff 15 (by kernel_rfl)).symm.trans h1_) (by decide), fun _ _ h2_ _ => absurd ((up_self b 7).symm.trans h2_) (by decide), fun h0_ h1_ h2_ => app_ne (Q_E3 h1_ h2_) (Q_Ee13 (hon 4 (by kernel_rfl)) h1_ hb_ h2_) hat_, fun _ h1_ => absurd ((hoff 15 (by kernel_rfl)).symm.trans h1_) (by decide), fun h0_ => absurd ((hoff 16 (by kernel_rfl)).symm.trans h0_) (by decide)⟩
    refine steps_cons ?_ ?_
    · rintro b a w' ⟨s0, s1, s2, s3, u0, u1, u2, u3, m16_, ha, Q_HB, Q_C1, Q_C2, Q_C2e, Q_N0, Q_E0, Q_R0, Q_N1, Q_E1, Q_R1, Q_N2, Q_E2, Q_R2, Q_N3, Q_E3, Q_R3, Q_Ee01, Q_M01, Q_U01, Q_Ee03, Q_M03, Q_U03, Q_Ee13, Q_M13, Q_U13, Q_X16_⟩ hb_ hon hoff
      refine ⟨_, rfl, fun K hK => ?_⟩
      replace ha := Aside0.mk ha
      have HB := Aside0.mk Q_HB
      have C1 := Aside0.mk Q_C1
      have C2 := Aside0.mk (Q_C2 (hoff 17 (by kernel_rfl)))
      refine value_ (w1 := w'.alloc (.cells #[] 38)) (v := (.slice (some ⟨w'.heap.size, 0, none⟩) 0 0)) (by rfl) rfl ?_ ?_
      · first | (go_simp; done) | (go_simp; rfl)
      refine hK.out _ _ ⟨s0, s1, (.slice (some ⟨w'.heap.size, 0, none⟩) 0 0), s3, u0, u1, u2, u3, m16_, (by rw [ha.out]; exact putSel_upk 6 hb_ rfl rfl rfl), below_alloc HB.out _, blk_alloc C1.out _, fun _ => blk_alloc C2.out _, fun h0_ => absurd ((hoff 17 (by kernel_rfl)).symm.trans h0_) (by decide), fun h0_ => (Q_N0 h0_), fun h0_ h1_ => (Q_E0 h0_ h1_).alloc _, fun h0_ => (Q_R0 h0_).alloc _, fun h0_ => (Q_N1 h0_), fun h0_ h1_ => (Q_E1 h0_ h1_).alloc _, fun h0_ => (Q_R1 h0_).alloc _, fun _ => (fun q => by cases q), fun _ _ => own_fresh w' HB.out.size 38, fun h0_ => absurd ((hoff 11 (by kernel_rfl)).symm.trans h0_) (by decide), fun h0_ => (Q_N3 h0_), fun h0_ h1_ => (Q_E3 h0_ h1_).alloc _, fun h0_ => absurd ((hoff 15 (by kernel_rfl)).symm.trans h0_) (by decide), Q_Ee01, Q_M01, Q_U01, Q_Ee03, Q_M03, fun _ h1_ => absurd ((hoff 15 (by kernel_rfl)).symm.trans h1_) (by decide), Q_Ee13, Q_M13, fun _ h1_ => absurd ((hoff 15 (by kernel_rfl)).symm.trans h1_) (by decide), fun h0_ => absurd ((hoff 16 (by kernel_rfl)).symm.trans h0_) (by decide)⟩
    refine steps_cons ?_ ?_
    · rintro b a w' ⟨s0, s1, s2, s3, u0, u1, u2, u3, m16_, ha, Q_HB, Q_C1, Q_C2, Q_C2e, Q_N0, Q_E0, Q_R0, Q_N1, Q_E1, Q_R1, Q_N2, Q_E2, Q_R2, Q_N3, Q_E3, Q_R3, Q_Ee01, Q_M01, Q_U01, Q_Ee03, Q_M03, Q_U03, Q_Ee13, Q_M13, Q_U13, Q_X16_⟩ hb_ hon hoff
      refine ⟨_, rfl, fun K hK => ?_⟩
      have e12 : a.tmps[12]? = some (.pointer (some ⟨g1, 2, none⟩)) := by rw [ha]; exact (putSel_off rfl).trans rfl
      replace ha := Aside0.mk ha
      have HB := Aside0.mk Q_HB
      have C1 := Aside0.mk Q_C1
      have C2 := Aside0.mk (Q_C2 (hoff 17 (by kernel_rfl)))
      have hc0_ : w'.cell? ⟨g1, 0, none⟩ = some (.slice A0 l0.length c0) := (blk_cell C1.out 0).trans rfl
      have hc1_ : w'.cell? ⟨g1, 1, none⟩ = some (.slice A1 l1.length c1) := (blk_cell C1.out 1).trans rfl
      have hc2_ : w'.cell? ⟨g1, 2, none⟩ = some (.slice A2 vs.length c2) := (blk_cell C1.out 2).trans rfl
      have hc3_ : w'.cell? ⟨g1, 3, none⟩ = some (.slice A3 l3.length c3) := (blk_cell C1.out 3).trans rfl
      refine value_ (w1 := w') (v := .slice A2 vs.length c2) (by rfl) rfl ?_ ?_
      · go_simp
        (try simp only [i64_w])
        try rfl
      refine hK.out _ _ ⟨s0, s1, s2, s3, u0, u1, u2, u3, m16_, (by rw [ha.out]; exact putSel_upk 7 hb_ rfl rfl rfl), Q_HB, Q_C1, Q_C2, fun h0_ => absurd ((hoff 17 (by kernel_rfl)).symm.trans h0_) (by decide), Q_N0, Q_E0, Q_R0, Q_N1, Q_E1, Q_R1, Q_N2, Q_E2, fun h0_ => absurd ((hoff 11 (by kernel_rfl)).symm.trans h0_) (by decide), Q_N3, Q_E3, fun h0_ => absurd ((hoff 15 (by kernel_rfl)).symm.trans h0_) (by decide), Q_Ee01, Q_M01, Q_U01, Q_Ee03, Q_M03, fun _ h1_ => absurd ((hoff 15 (by kernel_rfl)).symm.trans h1_) (by decide), Q_Ee13, Q_M13, fun _ h1_ => absurd ((hoff 15 (by kernel_rfl)).symm.trans h1_) (by decide), fun h0_ => absurd ((hoff 16 (by kernel_rfl)).symm.trans h0_) (by decide)⟩
    refine steps_cons ?_ ?_
    · rintro b a w' ⟨s0, s1, s2, s3, u0, u1, u2, u3, m16_, ha, Q_HB, Q_C1, Q_C2, Q_C2e, Q_N0, Q_E0, Q_R0, Q_N1, Q_E1, Q_R1, Q_N2, Q_E2, Q_R2, Q_N3, Q_E3, Q_R3, Q_Ee01, Q_M01, Q_U01, Q_Ee03, Q_M03, Q_U03, Q_Ee13, Q_M13, Q_U13, Q_X16_⟩ hb_ hon hoff
      refine ⟨_, rfl, fun K hK => ?_⟩
      have e11 : a.tmps[11]? = some (s2) := by rw [ha]; exact putSel_on (e := (8, 11, s2)) 6 rfl rfl (hon 8 (by kernel_rfl)) rfl
      have e13 : a.tmps[13]? = some (.slice A2 vs.length c2) := by rw [ha]; exact putSel_on (e := (10, 13, .slice A2 vs.length c2)) 7 rfl rfl (hon 10 (by kernel_rfl)) rfl
      replace ha := Aside0.mk ha
      have HB := Aside0.mk Q_HB
      have C1 := Aside0.mk Q_C1
      have C2 := Aside0.mk (Q_C2 (hoff 17 (by kernel_rfl)))
      have N0 := Aside0.mk (Q_N0 (hon 0 (by kernel_rfl)))
      have R0 := Aside0.mk (Q_R0 (hon 3 (by kernel_rfl)))
      have N1 := Aside0.mk (Q_N1 (hon 4 (by kernel_rfl)))
      have R1 := Aside0.mk (Q_R1 (hon 7 (by kernel_rfl)))
      have N2 := Aside0.mk (Q_N2 (hon 8 (by kernel_rfl)))
      have E2 := Aside0.mk (Q_E2 (hon 8 (by kernel_rfl)) hb_)
      have U01 := Aside0.mk (Q_U01 (hon 3 (by kernel_rfl)) (hon 7 (by kernel_rfl)))
      have HIN := Aside0.mk (pw_own_below (H2.out) HB.out)
      refine step_appc rfl (.tmp 11) (.tmp 13) 39 38 rfl (.slice none 0 0) 24 Try.underlying39 info38 rfl W.heap.size s2 0 [] vs A2 vs.length c2 0 (by simp [Act.eval, e11]) (by simp [Act.eval, e13]) E2.out HIN.out (ONE.out) HB.out.size (by have := HL.out; omega) (by have := HL.out; omega) ?_
      intro z2 w9 ho_ hg_ hat_
      rw [Nat.zero_add, List.nil_append] at ho_
      have EB_ := Aside0.mk (fun k hk => own_base E2.out k hk)
      have EL_ := Aside0.mk (fun k hk => own_lt E2.out k hk)
      have HBn := Aside0.mk (HB.out.grown hg_ HB.out.size (fun k hk => EB_.out k hk))
      refine hK.out _ _ ⟨s0, s1, s2, s3, u0, u1, z2, u3, m16_, (by rw [ha.out]; exact putSel_upk 8 hb_ rfl rfl rfl), HBn.out, (hg_.block g1 (blk_lt C1.out) (own_ne E2.out C1.out (by decide))).trans C1.out, fun _ => (hg_.block g2 (blk_lt C2.out) (own_ne E2.out C2.out (by decide))).trans C2.out, fun h0_ => absurd ((hoff 17 (by kernel_rfl)).symm.trans h0_) (by decide), fun _ => N0.out, fun _ h1_ => absurd ((hon 3 (by kernel_rfl)).symm.trans h1_) (by decide), fun h0_ => row_grown (b2 := 0) (m := 0) (e2 := 3) (ys := []) (Q_R0 h0_) hg_ (tag_ne_row (Q_R0 h0_) E2.out N2.out (by decide)), fun _ => N1.out, fun _ h1_ => absurd ((hon 7 (by kernel_rfl)).symm.trans h1_) (by decide), fun h0_ => row_grown (b2 := 0) (m := 0) (e2 := 3) (ys := []) (Q_R1 h0_) hg_ (tag_ne_row (Q_R1 h0_) E2.out N2.out (by decide)), fun _ => N2.out, fun _ h1_ => absurd ((up_self b 11).symm.trans h1_) (by decide), fun _ => ho_, fun h0_ => (Q_N3 h0_), fun h0_ h1_ => row_grown (b2 := 0) (m := 0) (e2 := 3) (ys := []) (Q_E3 h0_ h1_) hg_ (tag_ne_row (Q_E3 h0_ h1_) E2.out N2.out (by decide)), fun h0_ => absurd ((hoff 15 (by kernel_rfl)).symm.trans h0_) (by decide), fun _ _ h2_ _ => absurd ((hon 3 (by kernel_rfl)).symm.trans h2_) (by decide), fun _ _ h2_ => absurd ((hon 7 (by kernel_rfl)).symm.trans h2_) (by decide), Q_U01, fun _ _ h2_ _ => absurd ((hon 3 (by kernel_rfl)).symm.trans h2_) (by decide), Q_M03, fun _ h1_ => absurd ((hoff 15 (by kernel_rfl)).symm.trans h1_) (by decide), fun _ _ h2_ _ => absurd ((hon 7 (by kernel_rfl)).symm.trans h2_) (by decide), Q_M13, fun _ h1_ => absurd ((hoff 15 (by kernel_rfl)).symm.trans h1_) (by decide), fun h0_ => absurd ((hoff 16 (by kernel_rfl)).symm.trans h0_) (by decide)⟩
    refine steps_cons ?_ ?_
    · rintro b a w' ⟨s0, s1, s2, s3, u0, u1, u2, u3, m16_, ha, Q_HB, Q_C1, Q_C2, Q_C2e, Q_N0, Q_E0, Q_R0, Q_N1, Q_E1, Q_R1, Q_N2, Q_E2, Q_R2, Q_N3, Q_E3, Q_R3, Q_Ee01, Q_M01, Q_U01, Q_Ee03, Q_M03, Q_U03, Q_Ee13, Q_M13, Q_U13, Q_X16_⟩ hb_ hon hoff
      refine ⟨_, rfl, fun K hK => ?_⟩
      replace ha := Aside0.mk ha
      have HB := Aside0.mk Q_HB
      have C1 := Aside0.mk Q_C1
      have C2 := Aside0.mk (Q_C2 (hoff 17 (by kernel_rfl)))
      refine value_ (w1 := w'.alloc (.cells #[] 3)) (v := (.slice (some ⟨w'.heap.size, 0, none⟩) 0 0)) (by rfl) rfl ?_ ?_
      · first | (go_simp; done) | (go_simp; rfl)
      refine hK.out _ _ ⟨s0, s1, s2, (.slice (some ⟨w'.heap.size, 0, none⟩) 0 0), u0, u1, u2, u3, m16_, (by rw [ha.out]; exact putSel_upk 9 hb_ rfl rfl rfl), below_alloc HB.out _, blk_alloc C1.out _, fun _ => blk_alloc C2.out _, fun h0_ => absurd ((hoff 17 (by kernel_rfl)).symm.trans h0_) (by decide), fun h0_ => (Q_N0 h0_), fun h0_ h1_ => (Q_E0 h0_ h1_).alloc _, fun h0_ => (Q_R0 h0_).alloc _, fun h0_ => (Q_N1 h0_), fun h0_ h1_ => (Q_E1 h0_ h1_).alloc _, fun h0_ => (Q_R1 h0_).alloc _, fun h0_ => (Q_N2 h0_), fun h0_ h1_ => (Q_E2 h0_ h1_).alloc _, fun h0_ => (Q_R2 h0_).alloc _, fun _ => (fun q => by cases q), fun _ _ => own_fresh w' HB.out.size 3, fun h0_ => absurd ((hoff 15 (by kernel_rfl)).symm.trans h0_) (by decide), Q_Ee01, Q_M01, Q_U01, fun h0_ h1_ h2_ h3_ => new_ne (Q_E0 h0_ h2_), fun h0_ h1_ h2_ => new_ne (Q_R0 h0_), fun _ h1_ => absurd ((hoff 15 (by kernel_rfl)).symm.trans h1_) (by decide), fun h0_ h1_ h2_ h3_ => new_ne (Q_E1 h0_ h2_), fun h0_ h1_ h2_ => new_ne (Q_R1 h0_), fun _ h1_ => absurd ((hoff 15 (by kernel_rfl)).symm.trans h1_) (by decide), fun h0_ => absurd ((hoff 16 (by kernel_rfl)).symm.trans h0_) (by decide)⟩
    refine steps_cons ?_ ?_
    · rintro b a w' ⟨s0, s1, s2, s3, u0, u1, u2, u3, m16_, ha, Q_HB, Q_C1, Q_C2, Q_C2e, Q_N0, Q_E0, Q_R0, Q_N1, Q_E1, Q_R1, Q_N2, Q_E2, Q_R2, Q_N3, Q_E3, Q_R3, Q_Ee01, Q_M01, Q_U01, Q_Ee03, Q_M03, Q_U03, Q_Ee13, Q_M13, Q_U13, Q_X16_⟩ hb_ hon hoff
      refine ⟨_, rfl, fun K hK => ?_⟩
      have e16 : a.tmps[16]? = some (.pointer (some ⟨g1, 3, none⟩)) := by rw [ha]; exact (putSel_off rfl).trans rfl
      replace ha := Aside0.mk ha
      have HB := Aside0.mk Q_HB
      have C1 := Aside0.mk Q_C1
      have C2 := Aside0.mk (Q_C2 (hoff 17 (by kernel_rfl)))
      have hc0_ : w'.cell? ⟨g1, 0, none⟩ = some (.slice A0 l0.length c0) := (blk_cell C1.out 0).trans rfl
      have hc1_ : w'.cell? ⟨g1, 1, none⟩ = some (.slice A1 l1.length c1) := (blk_cell C1.out 1).trans rfl
      have hc2_ : w'.cell? ⟨g1, 2, none⟩ = some (.slice A2 vs.length c2) := (blk_cell C1.out 2).trans rfl
      have hc3_ : w'.cell? ⟨g1, 3, none⟩ = some (.slice A3 l3.length c3) := (blk_cell C1.out 3).trans rfl
      refine value_ (w1 := w') (v := .slice A3 l3.length c3) (by rfl) rfl ?_ ?_
      · go_simp
        (try simp only [i64_w])
        try rfl
      refine hK.out _ _ ⟨s0, s1, s2, s3, u0, u1, u2, u3, m16_, (by rw [ha.out]; exact putSel_upk 10 hb_ rfl rfl rfl), Q_HB, Q_C1, Q_C2, fun h0_ => absurd ((hoff 17 (by kernel_rfl)).symm.trans h0_) (by decide), Q_N0, Q_E0, Q_R0, Q_N1, Q_E1, Q_R1, Q_N2, Q_E2, Q_R2, Q_N3, Q_E3, fun h0_ => absurd ((hoff 15 (by kernel_rfl)).symm.trans h0_) (by decide), Q_Ee01, Q_M01, Q_U01, Q_Ee03, Q_M03, fun _ h1_ => absurd ((hoff 15 (by kernel_rfl)).symm.trans h1_) (by decide), Q_Ee13, Q_M13, fun _ h1_ => absurd ((hoff 15 (by kernel_rfl)).symm.trans h1_) (by decide), fun h0_ => absurd ((hoff 16 (by kernel_rfl)).symm.trans h0_) (by decide)⟩
    refine steps_cons ?_ ?_
    · rintro b a w' ⟨s0, s1, s2, s3, u0, u1, u2, u3, m16_, ha, Q_HB, Q_C1, Q_C2, Q_C2e, Q_N0, Q_E0, Q_R0, Q_N1, Q_E1, Q_R1, Q_N2, Q_E2, Q_R2, Q_N3, Q_E3, Q_R3, Q_Ee01, Q_M01, Q_U01, Q_Ee03, Q_M03, Q_U03, Q_Ee13, Q_M13, Q_U13, Q_X16_⟩ hb_ hon hoff
      refine ⟨_, rfl, fun K hK => ?_⟩
      have e15 : a.tmps[15]? = some (s3) := by rw [ha]; exact putSel_on (e := (12, 15, s3)) 9 rfl rfl (hon 12 (by kernel_rfl)) rfl
      have e17 : a.tmps[17]? = some (.slice A3 l3.length c3) := by rw [ha]; exact putSel_on (e := (14, 17, .slice A3 l3.length c3)) 10 rfl rfl (hon 14 (by kernel_rfl)) rfl
      replace ha := Aside0.mk ha
      have HB := Aside0.mk Q_HB
      have C1 := Aside0.mk Q_C1
      have C2 := Aside0.mk (Q_C2 (hoff 17 (by kernel_rfl)))
      have N0 := Aside0.mk (Q_N0 (hon 0 (by kernel_rfl)))
      have R0 := Aside0.mk (Q_R0 (hon 3 (by kernel_rfl)))
      have N1 := Aside0.mk (Q_N1 (hon 4 (by kernel_rfl)))
      have R1 := Aside0.mk (Q_R1 (hon 7 (by kernel_rfl)))
      have N2 := Aside0.mk (Q_N2 (hon 8 (by kernel_rfl)))
      have R2 := Aside0.mk (Q_R2 (hon 11 (by kernel_rfl)))
      have N3 := Aside0.mk (Q_N3 (hon 12 (by kernel_rfl)))
      have E3 := Aside0.mk (Q_E3 (hon 12 (by kernel_rfl)) hb_)
      have U01 := Aside0.mk (Q_U01 (hon 3 (by kernel_rfl)) (hon 7 (by kernel_rfl)))
      have M03 := Aside0.mk (Q_M03 (hon 3 (by kernel_rfl)) (hon 12 (by kernel_rfl)) hb_)
      have M13 := Aside0.mk (Q_M13 (hon 7 (by kernel_rfl)) (hon 12 (by kernel_rfl)) hb_)
      have HIN := Aside0.mk (pw_own_below (H3.out) HB.out)
      refine step_appc rfl (.tmp 15) (.tmp 17) 38 3 rfl (.int .i64 0) 8 Try.underlying38 Rg.info3 rfl W.heap.size s3 0 [] (nums .i64 l3) A3 l3.length c3 0 (by simp [Act.eval, e15]) (by simp [Act.eval, e17]) E3.out HIN.out (nums_one _) HB.out.size (by have := HL.out; omega) (by have := HL.out; omega) ?_
      intro z3 w9 ho_ hg_ hat_
      rw [Nat.zero_add, List.nil_append] at ho_
      have EB_ := Aside0.mk (fun k hk => own_base E3.out k hk)
      have EL_ := Aside0.mk (fun k hk => own_lt E3.out k hk)
      have HBn := Aside0.mk (HB.out.grown hg_ HB.out.size (fun k hk => EB_.out k hk))
      refine hK.out _ _ ⟨s0, s1, s2, s3, u0, u1, u2, z3, m16_, (by rw [ha.out]; exact putSel_upk 11 hb_ rfl rfl rfl), HBn.out, (hg_.block g1 (blk_lt C1.out) (own_ne E3.out C1.out (by decide))).trans C1.out, fun _ => (hg_.block g2 (blk_lt C2.out) (own_ne E3.out C2.out (by decide))).trans C2.out, fun h0_ => absurd ((hoff 17 (by kernel_rfl)).symm.trans h0_) (by decide), fun _ => N0.out, fun _ h1_ => absurd ((hon 3 (by kernel_rfl)).symm.trans h1_) (by decide), fun h0_ => row_grown (b2 := 0) (m := 0) (e2 := 3) (ys := []) (Q_R0 h0_) hg_ (Q_M03 h0_ (hon 12 (by kernel_rfl)) hb_), fun _ => N1.out, fun _ h1_ => absurd ((hon 7 (by kernel_rfl)).symm.trans h1_) (by decide), fun h0_ => row_grown (b2 := 0) (m := 0) (e2 := 3) (ys := []) (Q_R1 h0_) hg_ (Q_M13 h0_ (hon 12 (by kernel_rfl)) hb_), fun _ => N2.out, fun _ h1_ => absurd ((hon 11 (by kernel_rfl)).symm.trans h1_) (by decide), fun h0_ => row_grown (b2 := 0) (m := 0) (e2 := 3) (ys := []) (Q_R2 h0_) hg_ (tag_ne_row (Q_R2 h0_) E3.out N3.out (by decide)), fun _ => N3.out, fun _ h1_ => absurd ((up_self b 15).symm.trans h1_) (by decide), fun _ => ho_, fun _ _ h2_ _ => absurd ((hon 3 (by kernel_rfl)).symm.trans h2_) (by decide), fun _ _ h2_ => absurd ((hon 7 (by kernel_rfl)).symm.trans h2_) (by decide), Q_U01, fun _ _ _ h3_ => absurd ((up_self b 15).symm.trans h3_) (by decide), fun _ _ h2_ => absurd ((up_self b 15).symm.trans h2_) (by decide), fun h0_ h1_ => (app_ne (Q_R0 h0_) (Q_M03 h0_ (hon 12 (by kernel_rfl)) hb_).symm hat_).symm, fun _ _ _ h3_ => absurd ((up_self b 15).symm.trans h3_) (by decide), fun _ _ h2_ => absurd ((up_self b 15).symm.trans h2_) (by decide), fun h0_ h1_ => (app_ne (Q_R1 h0_) (Q_M13 h0_ (hon 12 (by kernel_rfl)) hb_).symm hat_).symm, fun h0_ => absurd ((hoff 16 (by kernel_rfl)).symm.trans h0_) (by decide)⟩
    refine steps_cons ?_ ?_
    · rintro b a w' ⟨s0, s1, s2, s3, u0, u1, u2, u3, m16_, ha, Q_HB, Q_C1, Q_C2, Q_C2e, Q_N0, Q_E0, Q_R0, Q_N1, Q_E1, Q_R1, Q_N2, Q_E2, Q_R2, Q_N3, Q_E3, Q_R3, Q_Ee01, Q_M01, Q_U01, Q_Ee03, Q_M03, Q_U03, Q_Ee13, Q_M13, Q_U13, Q_X16_⟩ hb_ hon hoff
      refine ⟨_, rfl, fun K hK => ?_⟩
      have e6 : a.tmps[6]? = some (u0) := by rw [ha]; exact putSel_on (e := (3, 6, u0)) 2 rfl rfl (hon 3 (by kernel_rfl)) rfl
      have e10 : a.tmps[10]? = some (u1) := by rw [ha]; exact putSel_on (e := (7, 10, u1)) 5 rfl rfl (hon 7 (by kernel_rfl)) rfl
      have e14 : a.tmps[14]? = some (u2) := by rw [ha]; exact putSel_on (e := (11, 14, u2)) 8 rfl rfl (hon 11 (by kernel_rfl)) rfl
      have e18 : a.tmps[18]? = some (u3) := by rw [ha]; exact putSel_on (e := (15, 18, u3)) 11 rfl rfl (hon 15 (by kernel_rfl)) rfl
      replace ha := Aside0.mk ha
      have HB := Aside0.mk Q_HB
      have C1 := Aside0.mk Q_C1
      have C2 := Aside0.mk (Q_C2 (hoff 17 (by kernel_rfl)))
      have N0 := Aside0.mk (Q_N0 (hon 0 (by kernel_rfl)))
      have R0 := Aside0.mk (Q_R0 (hon 3 (by kernel_rfl)))
      have N1 := Aside0.mk (Q_N1 (hon 4 (by kernel_rfl)))
      have R1 := Aside0.mk (Q_R1 (hon 7 (by kernel_rfl)))
      have N2 := Aside0.mk (Q_N2 (hon 8 (by kernel_rfl)))
      have R2 := Aside0.mk (Q_R2 (hon 11 (by kernel_rfl)))
      have N3 := Aside0.mk (Q_N3 (hon 12 (by kernel_rfl)))
      have R3 := Aside0.mk (Q_R3 (hon 15 (by kernel_rfl)))
      have U01 := Aside0.mk (Q_U01 (hon 3 (by kernel_rfl)) (hon 7 (by kernel_rfl)))
      have U03 := Aside0.mk (Q_U03 (hon 3 (by kernel_rfl)) (hon 15 (by kernel_rfl)))
      have U13 := Aside0.mk (Q_U13 (hon 7 (by kernel_rfl)) (hon 15 (by kernel_rfl)))
      refine value_ (w1 := w') (v := .agg #[u0, u1, u2, u3]) (by rfl) rfl (ex_build41 rfl (by simp [Act.eval, e6]) (by simp [Act.eval, e10]) (by simp [Act.eval, e14]) (by simp [Act.eval, e18]) ⟨R0.out, R1.out, R2.out, R3.out⟩) ?_
      refine hK.out _ _ ⟨s0, s1, s2, s3, u0, u1, u2, u3, (.agg #[u0, u1, u2, u3]), (by rw [ha.out]; exact putSel_upk 12 hb_ rfl rfl rfl), Q_HB, Q_C1, Q_C2, fun h0_ => absurd ((hoff 17 (by kernel_rfl)).symm.trans h0_) (by decide), Q_N0, fun _ h1_ => absurd ((hon 3 (by kernel_rfl)).symm.trans h1_) (by decide), Q_R0, Q_N1, fun _ h1_ => absurd ((hon 7 (by kernel_rfl)).symm.trans h1_) (by decide), Q_R1, Q_N2, fun _ h1_ => absurd ((hon 11 (by kernel_rfl)).symm.trans h1_) (by decide), Q_R2, Q_N3, fun _ h1_ => absurd ((hon 15 (by kernel_rfl)).symm.trans h1_) (by decide), Q_R3, fun _ _ h2_ _ => absurd ((hon 3 (by kernel_rfl)).symm.trans h2_) (by decide), fun _ _ h2_ => absurd ((hon 7 (by kernel_rfl)).symm.trans h2_) (by decide), Q_U01, fun _ _ h2_ _ => absurd ((hon 3 (by kernel_rfl)).symm.trans h2_) (by decide), fun _ _ h2_ => absurd ((hon 15 (by kernel_rfl)).symm.trans h2_) (by decide), Q_U03, fun _ _ h2_ _ => absurd ((hon 7 (by kernel_rfl)).symm.trans h2_) (by decide), fun _ _ h2_ => absurd ((hon 15 (by kernel_rfl)).symm.trans h2_) (by decide), Q_U13, fun _ => rfl⟩
    refine steps_cons ?_ ?_
    · rintro b a w' ⟨s0, s1, s2, s3, u0, u1, u2, u3, m16_, ha, Q_HB, Q_C1, Q_C2, Q_C2e, Q_N0, Q_E0, Q_R0, Q_N1, Q_E1, Q_R1, Q_N2, Q_E2, Q_R2, Q_N3, Q_E3, Q_R3, Q_Ee01, Q_M01, Q_U01, Q_Ee03, Q_M03, Q_U03, Q_Ee13, Q_M13, Q_U13, Q_X16_⟩ hb_ hon hoff
      refine ⟨_, rfl, fun K hK => ?_⟩
      have e2 : a.tmps[2]? = some (.pointer (some ⟨g2, 0, none⟩)) := by rw [ha]; exact (putSel_off rfl).trans rfl
      have e19 : a.tmps[19]? = some (m16_) := by rw [ha]; exact putSel_on (e := (16, 19, m16_)) 12 rfl rfl (hon 16 (by kernel_rfl)) rfl
      rw [Q_X16_ (hon 16 (by kernel_rfl))] at e19
      replace ha := Aside0.mk ha
      have HB := Aside0.mk Q_HB
      have C1 := Aside0.mk Q_C1
      have C2 := Aside0.mk (Q_C2 hb_)
      have N0 := Aside0.mk (Q_N0 (hon 0 (by kernel_rfl)))
      have R0 := Aside0.mk (Q_R0 (hon 3 (by kernel_rfl)))
      have N1 := Aside0.mk (Q_N1 (hon 4 (by kernel_rfl)))
      have R1 := Aside0.mk (Q_R1 (hon 7 (by kernel_rfl)))
      have N2 := Aside0.mk (Q_N2 (hon 8 (by kernel_rfl)))
      have R2 := Aside0.mk (Q_R2 (hon 11 (by kernel_rfl)))
      have N3 := Aside0.mk (Q_N3 (hon 12 (by kernel_rfl)))
      have R3 := Aside0.mk (Q_R3 (hon 15 (by kernel_rfl)))
      have U01 := Aside0.mk (Q_U01 (hon 3 (by kernel_rfl)) (hon 7 (by kernel_rfl)))
      have U03 := Aside0.mk (Q_U03 (hon 3 (by kernel_rfl)) (hon 15 (by kernel_rfl)))
      have U13 := Aside0.mk (Q_U13 (hon 7 (by kernel_rfl)) (hon 15 (by kernel_rfl)))
      refine skip_ (w1 := w'.setRow g2 #[u0, u1, u2, u3]) (by rfl) rfl (ex_store41 rfl (by simp [Act.eval, e2]) (by simp [Act.eval, e19]) C2.out ⟨R0.out, R1.out, R2.out, R3.out⟩) ?_
      refine hK.out _ _ ⟨s0, s1, s2, s3, u0, u1, u2, u3, m16_, (by rw [ha.out]; exact putSel_none (v := undef) rfl), below_row41 HB.out GE2.out _, (setRow_other w' g2 g1 _ NE.out).trans C1.out, fun h0_ => absurd ((up_self b 17).symm.trans h0_) (by decide), fun _ => setRow_heap _ _ _ _ _ _ C2.out, Q_N0, fun _ h1_ => absurd ((hon 3 (by kernel_rfl)).symm.trans h1_) (by decide), fun _ => own_row41 R0.out C2.out (by decide), Q_N1, fun _ h1_ => absurd ((hon 7 (by kernel_rfl)).symm.trans h1_) (by decide), fun _ => own_row41 R1.out C2.out (by decide), Q_N2, fun _ h1_ => absurd ((hon 11 (by kernel_rfl)).symm.trans h1_) (by decide), fun _ => own_row41 R2.out C2.out (by decide), Q_N3, fun _ h1_ => absurd ((hon 15 (by kernel_rfl)).symm.trans h1_) (by decide), fun _ => own_row41 R3.out C2.out (by decide), fun _ _ h2_ _ => absurd ((hon 3 (by kernel_rfl)).symm.trans h2_) (by decide), fun _ _ h2_ => absurd ((hon 7 (by kernel_rfl)).symm.trans h2_) (by decide), Q_U01, fun _ _ h2_ _ => absurd ((hon 3 (by kernel_rfl)).symm.trans h2_) (by decide), fun _ _ h2_ => absurd ((hon 15 (by kernel_rfl)).symm.trans h2_) (by decide), Q_U03, fun _ _ h2_ _ => absurd ((hon 7 (by kernel_rfl)).symm.trans h2_) (by decide), fun _ _ h2_ => absurd ((hon 15 (by kernel_rfl)).symm.trans h2_) (by decide), Q_U13, Q_X16_⟩
    exact steps_nil
  · rintro b a w' hall ⟨s0, s1, s2, s3, u0, u1, u2, u3, m16_, ha, Q_HB, Q_C1, Q_C2, Q_C2e, Q_N0, Q_E0, Q_R0, Q_N1, Q_E1, Q_R1, Q_N2, Q_E2, Q_R2, Q_N3, Q_E3, Q_R3, Q_Ee01, Q_M01, Q_U01, Q_Ee03, Q_M03, Q_U03, Q_Ee13, Q_M13, Q_U13, Q_X16_⟩
    clear C1 C2 HB
    have hb0_ := hall 0 (by kernel_rfl)
    have hb2_ := hall 2 (by kernel_rfl)
    have hb3_ := hall 3 (by kernel_rfl)
    have hb4_ := hall 4 (by kernel_rfl)
    have hb6_ := hall 6 (by kernel_rfl)
    have hb7_ := hall 7 (by kernel_rfl)
    have hb8_ := hall 8 (by kernel_rfl)
    have hb10_ := hall 10 (by kernel_rfl)
    have hb11_ := hall 11 (by kernel_rfl)
    have hb12_ := hall 12 (by kernel_rfl)
    have hb14_ := hall 14 (by kernel_rfl)
    have hb15_ := hall 15 (by kernel_rfl)
    have hb16_ := hall 16 (by kernel_rfl)
    have hb17_ := hall 17 (by kernel_rfl)
    subst ha
    obtain rfl := Q_X16_ hb16_
    simp only [putSel, hb0_, hb2_, hb3_, hb4_, hb6_, hb7_, hb8_, hb10_, hb11_, hb12_, hb14_, hb15_, hb16_, hb17_, if_true, Act.put, List.setIfInBounds_toArray, List.set_cons_zero, List.set_cons_succ]
    have HB := Aside0.mk Q_HB
    clear Q_HB
    have C1 := Aside0.mk Q_C1
    clear Q_C1
    clear Q_C2
    have C2e := Aside0.mk (Q_C2e hb17_)
    clear Q_C2e
    have N0 := Aside0.mk (Q_N0 hb0_)
    clear Q_N0
    clear Q_E0
    have R0 := Aside0.mk (Q_R0 hb3_)
    clear Q_R0
    have N1 := Aside0.mk (Q_N1 hb4_)
    clear Q_N1
    clear Q_E1
    have R1 := Aside0.mk (Q_R1 hb7_)
    clear Q_R1
    have N2 := Aside0.mk (Q_N2 hb8_)
    clear Q_N2
    clear Q_E2
    have R2 := Aside0.mk (Q_R2 hb11_)
    clear Q_R2
    have N3 := Aside0.mk (Q_N3 hb12_)
    clear Q_N3
    clear Q_E3
    have R3 := Aside0.mk (Q_R3 hb15_)
    clear Q_R3
    clear Q_Ee01
    clear Q_M01
    have U01 := Aside0.mk (Q_U01 hb3_ hb7_)
    clear Q_U01
    clear Q_Ee03
    clear Q_M03
    have U03 := Aside0.mk (Q_U03 hb3_ hb15_)
    clear Q_U03
    clear Q_Ee13
    clear Q_M13
    have U13 := Aside0.mk (Q_U13 hb7_ hb15_)
    clear Q_U13
    clear hall hb0_ hb2_ hb3_ hb4_ hb6_ hb7_ hb8_ hb10_ hb11_ hb12_ hb14_ hb15_ hb16_ hb17_
    obtain ⟨Z0, k0, q0⟩ := own_slice R0.out
    obtain ⟨Z1, k1, q1⟩ := own_slice R1.out
    obtain ⟨Z2, k2, q2⟩ := own_slice R2.out
    obtain ⟨Z3, k3, q3⟩ := own_slice R3.out
    subst q0 q1 q2 q3
    try go_wp2
    refine bodyPost_ret (results_cell_row rfl _ _ g2 41 #[.slice Z0 l0.length k0, .slice Z1 l1.length k1, .slice Z2 vs.length k2, .slice Z3 l3.length k3] (0, 0) _ rfl C2e.out Try.underlying41 rfl (by kernel_rfl)) rfl ?_
    exact ⟨_, _, _, _, rfl, HB.out, R0.out, R1.out, R2.out, R3.out, U01.out, U03.out, U13.out⟩
end Go.Proofs.Ytjcjhmnfknenlaa.Px
