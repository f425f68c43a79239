/- The page's places: New. Conditions: none. -/
import Derived.Test.YtjcjhmnfknenlaaPx12
namespace Go.Proofs.Ytjcjhmnfknenlaa.Px
open Go.RowKit Go.Proofs.Ytjcjhmnfknenlaa.PPlaceApart Go.Proofs.YtjcjhmnfknenlaaW.PrintWords Go.Proofs.YtjcjhmnfknenlaaW.PrintLast Go.Proofs.YtjcjhmnfknenlaaW.PrintMore
open Pl (Pa Inv Ok wher on readyA readyB putA leaveA dropA workA workN fetchA allS inB doA flagI wo A0 rg sumN)
set_option linter.unusedVariables false
set_option linter.unusedSimpArgs false

theorem alloc_le (W : World) (o : Obj) : W.heap.size ≤ (W.alloc o).heap.size := by
  show _ ≤ (W.heap.push o).size
  rw [Array.size_push]
  omega
theorem own_fresh0 (W : World) {base : Nat} (hb : base ≤ W.heap.size) (e : TypeId) : (W.alloc (.cells #[] e)).ownsRow base e 1 (.slice (some ⟨W.heap.size, 0, none⟩) 0 0) 0 [] := own_fresh W hb e
theorem own_fresh1 (W : World) {base : Nat} (hb : base ≤ W.heap.size) (e : TypeId) (v : Value) : (W.alloc (.cells #[v] e)).ownsRow base e 1 (.slice (some ⟨W.heap.size, 0, none⟩) 1 1) 1 [v] :=
  ⟨rfl, .inr ⟨W.heap.size, 1, #[v], rfl, hb, heap_alloc_new W _, Nat.le_refl _, by decide, rfl, rfl⟩⟩
/-- Two rows lie apart. -/
def Apt (u v : Value) : Prop := ∀ k, u.ownBlock = some k → v.ownBlock ≠ some k
theorem Apt.symm {u v : Value} (h : Apt u v) : Apt v u := fun k hk q => h k q hk
def NewOr (hh : Nat) (u z : Value) : Prop := u.ownBlock = z.ownBlock ∨ ∀ k, u.ownBlock = some k → hh ≤ k
def Elder (hh : Nat) (z : Value) : Prop := ∀ k, z.ownBlock = some k → k < hh
theorem own_apt {w w1 : World} {b n : Nat} {e : TypeId} {u v : Value} {xs : List Value} (h : w.ownsRow b e 1 u n xs) (hg : w.grownBy w1 v.ownBlock) (hne : Apt u v) : w1.ownsRow b e 1 u n xs := by
  refine own_other h hg ?_
  cases hu : u.ownBlock with
  | none => exact .inl rfl
  | some k => exact .inr (fun q => hne k hu q.symm)
theorem own_tyx {w w1 : World} {b b2 n m : Nat} {e e2 : TypeId} {u v : Value} {xs ys : List Value} (h : w.ownsRow b e 1 u n xs) (h2 : w.ownsRow b2 e2 1 v m ys) (hg : w.grownBy w1 v.ownBlock) (he : e ≠ e2) : w1.ownsRow b e 1 u n xs :=
  own_other h hg (own_type_ne h h2 he)
theorem newor {hh n : Nat} {u z : Value} (h : u.ownBlock = z.ownBlock ∨ u.ownBlock = some n) (hn : hh ≤ n) : NewOr hh u z := h.imp id (fun q k hk => by rw [q] at hk; injection hk; omega)
theorem newor_apt {hh : Nat} {u z y : Value} (h : NewOr hh u z) (hz : Apt z y) (hy : Elder hh y) : Apt u y := fun k hk q => by
  rcases h with e | e
  · exact hz k (e ▸ hk) q
  · have h1 := e k hk
    have h2 := hy k q
    omega
theorem base_apt {w : World} {hh n : Nat} {e : TypeId} {s z : Value} {xs : List Value} (h : w.ownsRow hh e 1 s n xs) (hz : Elder hh z) : Apt s z := fun k hk q => by
  have h1 := own_base h k hk
  have h2 := hz k q
  omega
theorem apt_new {w : World} {b n c m : Nat} {e : TypeId} {u : Value} {xs : List Value} (h : w.ownsRow b e 1 u n xs) : Apt (.slice (some ⟨w.heap.size, 0, none⟩) c m) u := fun k hk q => by
  have h1 := own_lt h k q
  have h2 : w.heap.size = k := by simpa [Value.ownBlock] using hk
  omega
theorem apt_hat2 {w : World} {b n : Nat} {e : TypeId} {u z v : Value} {xs : List Value} (h : w.ownsRow b e 1 u n xs) (hat : v.ownBlock = z.ownBlock ∨ v.ownBlock = some w.heap.size) (hz : Apt u z) : Apt u v := fun k hk q => by
  rcases hat with e | e
  · exact hz k hk (e ▸ q)
  · rw [e] at q
    injection q with q
    have := own_lt h k hk
    omega
theorem apt_hat {w : World} {hh n : Nat} {e : TypeId} {s z v : Value} {xs : List Value} (h : w.ownsRow hh e 1 s n xs) (hat : v.ownBlock = z.ownBlock ∨ v.ownBlock = some w.heap.size) (hz : Elder hh z) : Apt s v := apt_hat2 h hat (base_apt h hz)
theorem own_sl {w : World} {b n : Nat} {e : TypeId} {u : Value} {xs : List Value} (h : w.ownsRow b e 1 u n xs) : ∃ A n c, u = .slice A n c := by
  obtain ⟨A, c, h⟩ := own_slice h
  exact ⟨A, n, c, h⟩
theorem ex_store1 {oi : Oper} {a : Act} {w : World} {g i t : Nat} {x y : Operand} {v : Value} {cs : Array Value} (ho : oi.op = .store t x y) (hx : a.eval x = .pointer (some ⟨g, i, none⟩)) (hy : a.eval y = v) (hg : w.heap[g]? = some (.cells cs 41 (0, 0))) (hi : i < cs.size) (h1 : ∃ A n c, v = .slice A n c) (ht : t = 38 ∨ t = 39) :
    (execOp a.eval oi).run Try.prog w = .ok .skip (w.setCell ⟨g, i, none⟩ v) := by
  have hc := blk_cell hg i
  have hf := blk_frozen hg i
  rw [Array.getElem?_eq_getElem hi] at hc
  unfold execOp
  simp only [ho, hx, hy]
  obtain ⟨A, n, c, rfl⟩ := h1
  rcases ht with rfl | rfl
  · go_simp
  · go_simp
def newT1 : Bool × List (List Nat × List Nat) := (true, [([], []), ([0], [0]), ([], []), ([1, 2], [1, 2]), ([], []), ([4], [4]), ([], []), ([5, 6, 3], [5, 6]), ([], []), ([8], [8]), ([], []), ([10], [10]), ([9, 11, 7], [9, 11]), ([0, 1, 2, 3, 4, 5, 8, 9], []), ([13, 3, 12, 0, 1, 2, 3, 4, 5, 8, 9], [3, 13]), ([0, 1, 2, 3, 4, 5, 6, 7, 8, 9, 13, 14], []), ([15, 7, 14, 0, 1, 2, 3, 4, 5, 6, 7, 8, 9, 13, 14], [7, 15]), ([0, 1, 2, 3, 4, 5, 6, 7, 8, 9, 10, 11, 12, 13, 14, 15, 16], []), ([17, 12, 16, 0, 1, 2, 3, 4, 5, 6, 7, 8, 9, 10, 11, 12, 13, 14, 15, 16], [12, 17])])
def newB1 : List Nat := [0, 1, 0, 7, 0, 16, 0, 127, 0, 256, 0, 1024, 4095, 831, 16383, 32767, 65535, 131071, 262143]
theorem newT : rtab .any (opsOf Try.f15 5) = newT1 := by kernel_rfl
theorem newB : waitsOk newT1.2 newB1 = true := by kernel_rfl
structure Mk (R : Nat → Prop) (b : Nat) (w : World) (i : Nat) (z0 z1 z2 : Value) (vs : Nat → Value) : Prop where
  r0 : w.ownsRow b 3 1 z0 i (nums .i64 (List.replicate i (-1)))
  r1 : w.ownsRow b 3 1 z1 i (nums .i64 (List.replicate i 0))
  r2 : w.ownsRow b 38 1 z2 i ((List.range i).map vs)
  n01 : Apt z0 z1
  rows : ∀ j, j < i → Rw w (vs j) []
  fr : ∀ j, j < i → Fa R z0 z1 (vs j)
  up : ∀ k, b ≤ k → R k
theorem Mk.next {R : Nat → Prop} {b hh i : Nat} {w w0 : World} {z0 z1 z2 u0 u1 u2 s3 : Value} {vs : Nat → Value} (h : Mk R b w0 i z0 z1 z2 vs) (hs : hh = w0.heap.size) (hbh : b ≤ hh) (r0 : w.ownsRow b 3 1 u0 (i + 1) (nums .i64 (List.replicate i (-1)) ++ [.int .i64 (-1)])) (r1 : w.ownsRow b 3 1 u1 (i + 1) (nums .i64 (List.replicate i 0) ++ [.int .i64 0]))
    (r2 : w.ownsRow b 38 1 u2 (i + 1) ((List.range i).map vs ++ [s3])) (r3 : w.ownsRow hh 3 1 s3 0 []) (ro : ∀ j, j < i → Rw w (vs j) []) (n0 : NewOr hh u0 z0) (n1 : NewOr hh u1 z1) (u01 : Apt u0 u1) (f0 : Apt s3 u0) (f1 : Apt s3 u1) : Mk R b w (i + 1) u0 u1 u2 (Pl.up vs i s3) := by
  have hl : ∀ j, j < i → Elder hh (vs j) := fun j hj k hk => by rw [hs]; exact own_lt (h.rows j hj) k hk
  refine ⟨?_, ?_, ?_, u01, fun j hj => ?_, fun j hj k hk => ?_, h.up⟩
  · have e : nums .i64 (List.replicate i (-1)) ++ [.int .i64 (-1)] = nums .i64 (List.replicate (i + 1) (-1)) := by rw [List.replicate_succ']; simp [nums]
    rwa [e] at r0
  · have e : nums .i64 (List.replicate i 0) ++ [.int .i64 0] = nums .i64 (List.replicate (i + 1) 0) := by rw [List.replicate_succ']; simp [nums]
    rwa [e] at r1
  · have e : (List.range i).map vs ++ [s3] = (List.range (i + 1)).map (Pl.up vs i s3) := by
      rw [List.range_succ, List.map_append, List.map_cons, List.map_nil, Pl.up_same]
      congr 1
      exact List.map_congr_left fun j hj => (Pl.up_ne _ _ (by have := List.mem_range.1 hj; omega)).symm
    rwa [e] at r2
  · by_cases e : j = i
    · subst e
      rw [Pl.up_same]
      exact own_weaken r3 (Nat.zero_le _)
    · rw [Pl.up_ne _ _ e]
      exact ro j (by omega)
  · by_cases e : j = i
    · subst e
      rw [Pl.up_same] at hk
      exact ⟨f0 k hk, f1 k hk, h.up k (by have := own_base r3 k hk; omega)⟩
    · rw [Pl.up_ne _ _ e] at hk
      have hf := h.fr j (by omega) k hk
      have hlt := hl j (by omega) k hk
      refine ⟨fun q => ?_, fun q => ?_, hf.2.2⟩
      · rcases n0 with z | z
        · exact hf.1 (z ▸ q)
        · have := z k q
          omega
      · rcases n1 with z | z
        · exact hf.2.1 (z ▸ q)
        · have := z k q
          omega
theorem Mk.below {R : Nat → Prop} {b i : Nat} {w w' : World} {z0 z1 z2 : Value} {vs : Nat → Value} (h : Mk R b w i z0 z1 z2 vs) (hb : Below w.heap.size w w') : Mk R b w' i z0 z1 z2 vs :=
  ⟨pw_own_below h.r0 hb, pw_own_below h.r1 hb, pw_own_below h.r2 hb, h.n01, fun j hj => (h.rows j hj).below hb, h.fr, h.up⟩
theorem Mk.pg {R : Nat → Prop} {b i g : Nat} {w : World} {z0 z1 z2 : Value} {x cs : Array Value} {vs : Nat → Value} (h : Mk R b w i z0 z1 z2 vs) (hg : w.heap[g]? = some (.cells x 41 (0, 0))) (hbs : b ≤ w.heap.size) : Pg R (w.setRow g cs) (Pl.A0 i) z0 z1 z2 (.slice none 0 0) vs := by
  have e0 : onL (Pl.A0 i) = List.replicate i (-1) := by
    unfold onL
    rw [List.eq_replicate_iff]
    exact ⟨by rw [List.length_map, List.length_range]; rfl, fun v hv => by obtain ⟨j, _, rfl⟩ := List.mem_map.1 hv; rfl⟩
  have e1 : cnL (Pl.A0 i) = List.replicate i 0 := by
    unfold cnL
    rw [List.eq_replicate_iff]
    exact ⟨by rw [List.length_map, List.length_range]; rfl, fun v hv => by obtain ⟨j, _, rfl⟩ := List.mem_map.1 hv; rfl⟩
  exact ⟨by rw [e0]; exact own_boxr (own_weaken h.r0 (Nat.zero_le _)) hg (by decide), by rw [e1]; exact own_boxr (own_weaken h.r1 (Nat.zero_le _)) hg (by decide), own_boxr (own_weaken h.r2 (Nat.zero_le _)) hg (by decide), ⟨rfl, .inl ⟨rfl, rfl⟩⟩, fun j hj => own_boxr (h.rows j hj) hg (by decide), fun k hk => h.up k (Nat.le_trans hbs (by simpa [World.setRow] using hk)), fun k hk => h.up k (own_base h.r0 k hk), fun k hk => h.up k (own_base h.r1 k hk), fun k hk => h.up k (own_base h.r2 k hk), (fun k hk => by cases hk), fun j hj k hk => (h.fr j hj k hk).2.2⟩
set_option maxHeartbeats 16000000 in
set_option maxRecDepth 100000 in
attribute [local go_sem] max_two min_two in
theorem ref_new {R : Nat → Prop} (W : World) (hR : ∀ k, W.heap.size ≤ k → R k) (x : Int) (n : Nat) (hn : (n : Int) = min (max x 1) 8) : Calls Try.prog 15 #[.int .i64 x] W fun e w' => ∃ q0 q1 q2 q3 qs, e = .returned (.agg #[q0, q1, q2, q3]) ∧ Below W.heap.size W w' ∧ Pg R w' (Pl.A0 n) q0 q1 q2 q3 qs := by
  have hu41 := Try.underlying41
  obtain ⟨m, hm⟩ : ∃ m, m = max x 1 := ⟨_, rfl⟩
  have em : ∀ k', Builtin.max2 (.int .i64 x) (.int k' 1) = pure (.int .i64 m) := fun k' => by
    rw [max2_int, hm]
    by_cases c : x < 1
    · rw [if_pos c, Int.max_eq_right (by omega)]
    · rw [if_neg c, Int.max_eq_left (by omega)]
  have en : ∀ k', Builtin.min2 (.int .i64 m) (.int k' 8) = pure (.int .i64 (n : Int)) := fun k' => by
    rw [min2_int, hn, ← hm]
    by_cases c : 8 < m
    · rw [if_pos c, Int.min_eq_right (by omega)]
    · rw [if_neg c, Int.min_eq_left (by omega)]
  have HN8 := Aside0.mk (show n ≤ 8 from by omega)
  have HR := Aside0.mk hR
  clear hn hm hR
  go_enter Try.func15, Try.ntmps15
  go_upto_region 2 with (first
    | ((with_reducible refine gate_dst (N := 2) rfl ?_); refine box_event ?hg (N := 2) ?hd (cs := #[.slice none 0 0, .slice none 0 0, .slice none 0 0, .slice none 0 0]) (t := 41) ?hr ?_; (case hd => rfl); (case hg => rfl); (case hr => first | (go_simp; done) | (go_simp; rfl)); intro g2 hg w1 hbox hb; have B1 := Aside0.mk hb; have G1 := Aside0.mk hg; have X1 := Aside0.mk hbox; clear hbox hb hg)
    | ((with_reducible refine gate_dst (N := 3) rfl ?_); refine box_event ?hg (N := 3) ?hd (cs := #[.slice none 0 0, .slice none 0 0, .slice none 0 0, .slice none 0 0]) (t := 41) ?hr ?_; (case hd => rfl); (case hg => rfl); (case hr => first | (go_simp; done) | (go_simp; rfl)); intro g3 hg w2 hbox hb; have B2 := Aside0.mk hb; have G2 := Aside0.mk hg; have X2 := Aside0.mk hbox; clear hbox hb hg)
    | (refine wpList_store_row rfl 41 (.tmp 3) (.tmp 5) rfl g3 _ rfl rfl 41 _ X2.out info41 rfl (by simp [Value.oneCell']) ?_))
  have GE2 := Aside0.mk (show W.heap.size ≤ g2 from by have h2 := G1.out; omega)
  have GE3 := Aside0.mk (show W.heap.size ≤ g3 from by have h1 := B1.out.size; have h2 := G2.out; omega)
  have NE := Aside0.mk (show g2 ≠ g3 from by have h1 := blk_lt X1.out; have h2 := G2.out; omega)
  have HB0 := Aside0.mk (below_row41 (below_step B1.out B2.out) GE3.out #[.slice none 0 0, .slice none 0 0, .slice none 0 0, .slice none 0 0])
  have X20 := Aside0.mk ((setRow_other w2 g3 g2 #[.slice none 0 0, .slice none 0 0, .slice none 0 0, .slice none 0 0] NE.out).trans (blk_below X1.out B2.out))
  have X30 := Aside0.mk (setRow_heap w2 g3 _ #[.slice none 0 0, .slice none 0 0, .slice none 0 0, .slice none 0 0] _ _ X2.out)
  clear B1 B2 X1 X2 G1 G2
  generalize w2.setRow g3 #[.slice none 0 0, .slice none 0 0, .slice none 0 0, .slice none 0 0] = w3 at *
  go_upto_block 0 with (fail)
  go_wp2
  go_loopg [4] n (fun kq v4 w' => ∃ (i : Nat) (z0 z1 z2 : Value) (vs : Nat → Value), v4 = .int .i64 (i : Int) ∧ Aside0 (i + kq = n) ∧ Aside0 (Below W.heap.size W w') ∧ Aside0 (w'.heap[g2]? = some (.cells #[.slice none 0 0, .slice none 0 0, .slice none 0 0, .slice none 0 0] 41 (0, 0))) ∧ Aside0 (w'.heap[g3]? = some (.cells #[z0, z1, z2, .slice none 0 0] 41 (0, 0))) ∧ Aside0 (Mk R W.heap.size w' i z0 z1 z2 vs))
  case atStart => exact ⟨0, .slice none 0 0, .slice none 0 0, .slice none 0 0, fun _ => .slice none 0 0, rfl, ⟨by omega⟩, HB0, X20, X30, ⟨⟨⟨rfl, .inl ⟨rfl, rfl⟩⟩, ⟨rfl, .inl ⟨rfl, rfl⟩⟩, ⟨rfl, .inl ⟨rfl, rfl⟩⟩, (fun k hk => by cases hk), (fun j hj => absurd hj (Nat.not_lt_zero _)), (fun j hj => absurd hj (Nat.not_lt_zero _)), HR.out⟩⟩⟩
  case round =>
    clear HB0 X20 X30
    obtain ⟨i, z0, z1, z2, vs, rfl, HJK, HB, C2, C3, HMK⟩ := hrel
    rcases gk with _ | k1
    · have HE := Aside0.mk (show i = n from by have := HJK.out; omega)
      have e1 : decide ((i : Int) < (n : Int)) = false := decide_eq_false (by have := HE.out; omega)
      have e2 : decide (i < n) = false := decide_eq_false (by have := HE.out; omega)
      go_wp2_with (first
        | (refine wpList_load_row rfl 41 (.tmp 3) rfl g3 rfl 41 _ (0, 0) _ C3.out Try.underlying41 rfl info41 ?_)
        | (refine wpList_store_row rfl 41 (.tmp 2) (.tmp 29) rfl g2 _ rfl rfl 41 _ C2.out info41 rfl (by simp [own_one HMK.out.r0, own_one HMK.out.r1, own_one HMK.out.r2, slice_one]) ?_))
      refine bodyPost_ret (results_cell_row rfl _ _ g2 41 #[z0, z1, z2, .slice none 0 0] (0, 0) _ rfl (setRow_heap _ _ _ _ _ _ C2.out) Try.underlying41 rfl info41) rfl ?_
      exact ⟨_, _, _, _, _, rfl, below_row41 HB.out GE2.out _, by rw [← HE.out]; exact HMK.out.pg C2.out HB.out.size⟩
    · have HI8 := Aside0.mk (show i < 8 from by have h1 := HJK.out; have h2 := HN8.out; omega)
      have e1 : decide ((i : Int) < (n : Int)) = true := decide_eq_true (by have := HJK.out; omega)
      have e2 : decide (i < n) = true := decide_eq_true (by have := HJK.out; omega)
      have ew : Aside0 (wrap64 ((i : Int) + 1) = (i : Int) + 1) := ⟨by have h2 := HI8.out; unfold wrap64; omega⟩
      go_upto_region 5 with (fail)
      clear e1 e2 em en
      replace HB := Aside0.mk (show Below W.heap.size W wr.drew from below_drew HB.out)
      have HMD := Aside0.mk (show Mk R W.heap.size wr.drew i z0 z1 z2 vs from HMK.out.below (below_drew (Below.refl _ _)))
      replace C2 := Aside0.mk (show wr.drew.heap[g2]? = _ from C2.out)
      replace C3 := Aside0.mk (show wr.drew.heap[g3]? = _ from C3.out)
      obtain ⟨hh, hhh⟩ : ∃ hh, hh = wr.drew.heap.size := ⟨_, rfl⟩
      have HHH := Aside0.mk hhh
      have HB0 := Aside0.mk HB.out
      have HS := Aside0.mk (Nat.le_of_eq hhh)
      have Z01 := Aside0.mk HMD.out.n01
      have ZL := Aside0.mk (show Elder hh z0 ∧ Elder hh z1 from ⟨fun k hk => by rw [hhh]; exact own_lt HMD.out.r0 k hk, fun k hk => by rw [hhh]; exact own_lt HMD.out.r1 k hk⟩)
      have FR := Aside0.mk HMD.out.fr
      have E0 := Aside0.mk HMD.out.r0
      have E1 := Aside0.mk HMD.out.r1
      have E2 := Aside0.mk HMD.out.r2
      have RO := Aside0.mk HMD.out.rows
      clear hhh HMK
      refine start_ (n := 19) (S := fun w' => True) (ds := []) #[false, false, false, false, false, false, false, false, false, false, false, false, false, false, false, false, false, false, false] (by kernel_rfl) rfl rfl trivial (fun hHeld => ?_)
      refine with_tabW newT newB (fun HT_ HW_ => ?_)
      refine pure_ (i := 0) (N := some 13) (v := ?_) (a' := ?_) #[true, false, false, false, false, false, false, false, false, false, false, false, false, false, false, false, false, false, false] rfl rfl (by kernel_rfl) (fun _ _ _ h => h) (Or.inl ⟨by rfl, ?_⟩) ?_ ?_
      rotate_left
      · intro w'
        go_simp
        with_reducible rfl
      rotate_left
      · simp only [Act.put, List.setIfInBounds_toArray, List.set_cons_zero, List.set_cons_succ, i64_w, i32_w]
        rfl
      refine pure_ (i := 4) (N := some 17) (v := ?_) (a' := ?_) #[true, false, false, false, true, false, false, false, false, false, false, false, false, false, false, false, false, false, false] rfl rfl (by kernel_rfl) (fun _ _ _ h => h) (Or.inl ⟨by rfl, ?_⟩) ?_ ?_
      rotate_left
      · intro w'
        go_simp
        with_reducible rfl
      rotate_left
      · simp only [Act.put, List.setIfInBounds_toArray, List.set_cons_zero, List.set_cons_succ, i64_w, i32_w]
        rfl
      refine pure_ (i := 8) (N := some 21) (v := ?_) (a' := ?_) #[true, false, false, false, true, false, false, false, true, false, false, false, false, false, false, false, false, false, false] rfl rfl (by kernel_rfl) (fun _ _ _ h => h) (Or.inl ⟨by rfl, ?_⟩) ?_ ?_
      rotate_left
      · intro w'
        go_simp
        with_reducible rfl
      rotate_left
      · simp only [Act.put, List.setIfInBounds_toArray, List.set_cons_zero, List.set_cons_succ, i64_w, i32_w]
        rfl
      refine inv_at [1, 2, 3, 5, 6, 7, 9, 10, 11, 12, 13, 14, 15, 16, 17, 18] (fun a0_ b a w' => ∃ (s0 : Value) (s1 : Value) (s2 : Value) (s3 : Value) (u0 : Value) (u1 : Value) (u2 : Value), a = putSel a0_ b [(1, 14, z0), (2, 15, s0), (3, 16, u0), (5, 18, z1), (6, 19, s1), (7, 20, u1), (9, 22, z2), (10, 23, s3), (11, 24, s2), (12, 25, u2), (13, 26, .pointer (some ⟨g3, 0, none⟩)), (15, 27, .pointer (some ⟨g3, 1, none⟩)), (17, 28, .pointer (some ⟨g3, 2, none⟩))] ∧ (Below W.heap.size W w') ∧ (hh ≤ w'.heap.size) ∧ (w'.heap[g2]? = some (.cells #[.slice none 0 0, .slice none 0 0, .slice none 0 0, .slice none 0 0] 41 (0, 0))) ∧ (b 14 = false → w'.heap[g3]? = some (.cells #[z0, z1, z2, .slice none 0 0] 41 (0, 0))) ∧ (b 14 = true → b 16 = false → w'.heap[g3]? = some (.cells #[u0, z1, z2, .slice none 0 0] 41 (0, 0))) ∧ (b 16 = true → b 18 = false → w'.heap[g3]? = some (.cells #[u0, u1, z2, .slice none 0 0] 41 (0, 0))) ∧ (b 18 = true → w'.heap[g3]? = some (.cells #[u0, u1, u2, .slice none 0 0] 41 (0, 0))) ∧ (b 3 = false → w'.ownsRow W.heap.size 3 1 z0 i (nums .i64 (List.replicate i (-1)))) ∧ (b 3 = true → w'.ownsRow W.heap.size 3 1 u0 (i + 1) ((nums .i64 (List.replicate i (-1))) ++ [.int .i64 (-1)])) ∧ (b 2 = true → b 3 = false → w'.ownsRow hh 3 1 s0 1 [.int .i64 (-1)]) ∧ (b 7 = false → w'.ownsRow W.heap.size 3 1 z1 i (nums .i64 (List.replicate i 0))) ∧ (b 7 = true → w'.ownsRow W.heap.size 3 1 u1 (i + 1) ((nums .i64 (List.replicate i 0)) ++ [.int .i64 0])) ∧ (b 6 = true → b 7 = false → w'.ownsRow hh 3 1 s1 1 [.int .i64 0]) ∧ (b 12 = false → w'.ownsRow W.heap.size 38 1 z2 i ((List.range i).map vs)) ∧ (b 12 = true → w'.ownsRow W.heap.size 38 1 u2 (i + 1) (((List.range i).map vs) ++ [s3])) ∧ (b 11 = true → b 12 = false → w'.ownsRow hh 38 1 s2 1 [s3]) ∧ (b 10 = true → w'.ownsRow hh 3 1 s3 0 []) ∧ (∀ j, j < i → Rw w' (vs j) []) ∧ (b 3 = true → NewOr hh u0 z0) ∧ (b 7 = true → NewOr hh u1 z1) ∧ (b 3 = true → b 7 = true → Apt u0 u1) ∧ (b 3 = true → b 10 = true → Apt s3 u0) ∧ (b 7 = true → b 10 = true → Apt s3 u1)) HT_.out HW_.out (by kernel_rfl) (by kernel_rfl) ?_ ?_ ?_
      · exact ⟨.bool false, .bool false, .bool false, .bool false, .bool false, .bool false, .bool false, by simp only [putSel, Bool.false_eq_true, if_false], HB.out, HS.out, C2.out, fun _ => C3.out, fun h_ => absurd h_ (by decide), fun h_ => absurd h_ (by decide), fun h_ => absurd h_ (by decide), fun _ => E0.out, fun h_ => absurd h_ (by decide), fun h_ => absurd h_ (by decide), fun _ => E1.out, fun h_ => absurd h_ (by decide), fun h_ => absurd h_ (by decide), fun _ => E2.out, fun h_ => absurd h_ (by decide), fun h_ => absurd h_ (by decide), fun h_ => absurd h_ (by decide), RO.out, fun h_ => absurd h_ (by decide), fun h_ => absurd h_ (by decide), fun h_ => absurd h_ (by decide), fun h_ => absurd h_ (by decide), fun h_ => absurd h_ (by decide)⟩
      · skip
        clear C2 C3 E0 E1 E2 HB HS RO
        refine steps_cons ?_ ?_
        · rintro b a w' ⟨s0, s1, s2, s3, u0, u1, u2, ha, Q_HB, Q_HS, Q_C2, Q_C3, Q_C3a, Q_C3b, Q_C3c, Q_E0, Q_R0, Q_S0, Q_E1, Q_R1, Q_S1, Q_E2, Q_R2, Q_S2, Q_S3, Q_RO, Q_N0, Q_N1, Q_U01, Q_F03, Q_F13⟩ hb_ hon hoff
          refine ⟨_, rfl, fun K hK => ?_⟩
          have e13 : a.tmps[13]? = some (.pointer (some ⟨g3, 0, none⟩)) := by rw [ha]; exact (putSel_off rfl).trans rfl
          replace ha := Aside0.mk ha
          have HB := Aside0.mk Q_HB
          have HS := Aside0.mk Q_HS
          have C2 := Aside0.mk Q_C2
          have C3 := Aside0.mk (Q_C3 (hoff 14 (by kernel_rfl)))
          have E0 := Aside0.mk (Q_E0 (hoff 3 (by kernel_rfl)))
          have E1 := Aside0.mk (Q_E1 (hoff 7 (by kernel_rfl)))
          have E2 := Aside0.mk (Q_E2 (hoff 12 (by kernel_rfl)))
          have RO := Aside0.mk Q_RO
          have hc_ : w'.cell? ⟨g3, 0, none⟩ = some z0 := (blk_cell C3.out 0).trans rfl
          refine value_ (w1 := w') (v := z0) (by rfl) rfl ?_ ?_
          · go_simp
            (try simp only [i64_w])
            try rfl
          refine hK.out _ _ ⟨s0, s1, s2, s3, u0, u1, u2, (by rw [ha.out]; exact putSel_upk 0 hb_ rfl rfl rfl), Q_HB, Q_HS, Q_C2, Q_C3, fun h0_ _ => absurd ((hoff 14 (by kernel_rfl)).symm.trans h0_) (by decide), fun h0_ _ => absurd ((hoff 16 (by kernel_rfl)).symm.trans h0_) (by decide), fun h0_ => absurd ((hoff 18 (by kernel_rfl)).symm.trans h0_) (by decide), Q_E0, fun h0_ => absurd ((hoff 3 (by kernel_rfl)).symm.trans h0_) (by decide), Q_S0, Q_E1, fun h0_ => absurd ((hoff 7 (by kernel_rfl)).symm.trans h0_) (by decide), Q_S1, Q_E2, fun h0_ => absurd ((hoff 12 (by kernel_rfl)).symm.trans h0_) (by decide), Q_S2, Q_S3, Q_RO, fun h0_ => absurd ((hoff 3 (by kernel_rfl)).symm.trans h0_) (by decide), fun h0_ => absurd ((hoff 7 (by kernel_rfl)).symm.trans h0_) (by decide), fun h0_ _ => absurd ((hoff 3 (by kernel_rfl)).symm.trans h0_) (by decide), fun h0_ _ => absurd ((hoff 3 (by kernel_rfl)).symm.trans h0_) (by decide), fun h0_ _ => absurd ((hoff 7 (by kernel_rfl)).symm.trans h0_) (by decide)⟩
        refine steps_cons ?_ ?_
        · rintro b a w' ⟨s0, s1, s2, s3, u0, u1, u2, ha, Q_HB, Q_HS, Q_C2, Q_C3, Q_C3a, Q_C3b, Q_C3c, Q_E0, Q_R0, Q_S0, Q_E1, Q_R1, Q_S1, Q_E2, Q_R2, Q_S2, Q_S3, Q_RO, Q_N0, Q_N1, Q_U01, Q_F03, Q_F13⟩ hb_ hon hoff
          refine ⟨_, rfl, fun K hK => ?_⟩
          replace ha := Aside0.mk ha
          have HB := Aside0.mk Q_HB
          have HS := Aside0.mk Q_HS
          have C2 := Aside0.mk Q_C2
          have C3 := Aside0.mk (Q_C3 (hoff 14 (by kernel_rfl)))
          have E0 := Aside0.mk (Q_E0 (hoff 3 (by kernel_rfl)))
          have E1 := Aside0.mk (Q_E1 (hoff 7 (by kernel_rfl)))
          have E2 := Aside0.mk (Q_E2 (hoff 12 (by kernel_rfl)))
          have RO := Aside0.mk Q_RO
          refine value_ (w1 := w'.alloc (.cells #[.int .i64 (-1)] 3)) (v := Value.slice (some ⟨w'.heap.size, 0, none⟩) 1 1) (by rfl) rfl ?_ ?_
          · first | (go_simp; done) | (go_simp; rfl)
          refine hK.out _ _ ⟨(Value.slice (some ⟨w'.heap.size, 0, none⟩) 1 1), s1, s2, s3, u0, u1, u2, (by rw [ha.out]; exact putSel_upk 1 hb_ rfl rfl rfl), below_alloc HB.out _, Nat.le_trans HS.out (alloc_le _ _), blk_alloc C2.out _, fun _ => blk_alloc C3.out _, fun h0_ _ => absurd ((hoff 14 (by kernel_rfl)).symm.trans h0_) (by decide), fun h0_ _ => absurd ((hoff 16 (by kernel_rfl)).symm.trans h0_) (by decide), fun h0_ => absurd ((hoff 18 (by kernel_rfl)).symm.trans h0_) (by decide), fun _ => E0.out.alloc _, fun h0_ => absurd ((hoff 3 (by kernel_rfl)).symm.trans h0_) (by decide), fun _ _ => own_fresh1 w' HS.out 3 _, fun _ => E1.out.alloc _, fun h0_ => absurd ((hoff 7 (by kernel_rfl)).symm.trans h0_) (by decide), fun h0_ h1_ => (Q_S1 h0_ h1_).alloc _, fun _ => E2.out.alloc _, fun h0_ => absurd ((hoff 12 (by kernel_rfl)).symm.trans h0_) (by decide), fun h0_ h1_ => (Q_S2 h0_ h1_).alloc _, fun h0_ => (Q_S3 h0_).alloc _, fun j hj => (RO.out j hj).below (below_alloc (Below.refl _ _) _), fun h0_ => absurd ((hoff 3 (by kernel_rfl)).symm.trans h0_) (by decide), fun h0_ => absurd ((hoff 7 (by kernel_rfl)).symm.trans h0_) (by decide), fun h0_ _ => absurd ((hoff 3 (by kernel_rfl)).symm.trans h0_) (by decide), fun h0_ _ => absurd ((hoff 3 (by kernel_rfl)).symm.trans h0_) (by decide), fun h0_ _ => absurd ((hoff 7 (by kernel_rfl)).symm.trans h0_) (by decide)⟩
        refine steps_cons ?_ ?_
        · rintro b a w' ⟨s0, s1, s2, s3, u0, u1, u2, ha, Q_HB, Q_HS, Q_C2, Q_C3, Q_C3a, Q_C3b, Q_C3c, Q_E0, Q_R0, Q_S0, Q_E1, Q_R1, Q_S1, Q_E2, Q_R2, Q_S2, Q_S3, Q_RO, Q_N0, Q_N1, Q_U01, Q_F03, Q_F13⟩ hb_ hon hoff
          refine ⟨_, rfl, fun K hK => ?_⟩
          have e14 : a.tmps[14]? = some (z0) := by rw [ha]; exact putSel_on (e := (1, 14, z0)) 0 rfl rfl (hon 1 (by kernel_rfl)) rfl
          have e15 : a.tmps[15]? = some (s0) := by rw [ha]; exact putSel_on (e := (2, 15, s0)) 1 rfl rfl (hon 2 (by kernel_rfl)) rfl
          replace ha := Aside0.mk ha
          have HB := Aside0.mk Q_HB
          have HS := Aside0.mk Q_HS
          have C2 := Aside0.mk Q_C2
          have C3 := Aside0.mk (Q_C3 (hoff 14 (by kernel_rfl)))
          have E0 := Aside0.mk (Q_E0 hb_)
          have S0 := Aside0.mk (Q_S0 (hon 2 (by kernel_rfl)) hb_)
          have E1 := Aside0.mk (Q_E1 (hoff 7 (by kernel_rfl)))
          have E2 := Aside0.mk (Q_E2 (hoff 12 (by kernel_rfl)))
          have RO := Aside0.mk Q_RO
          obtain ⟨AS_, cS_, hS_⟩ := own_slice S0.out
          refine step_appc rfl (.tmp 14) (.tmp 15) 38 3 rfl (.int .i64 0) 8 Try.underlying38 Rg.info3 rfl W.heap.size z0 i (nums .i64 (List.replicate i (-1))) [.int .i64 (-1)] AS_ 1 cS_ hh (by simp [Act.eval, e14]) (by simp [Act.eval, e15, hS_]) E0.out (hS_ ▸ S0.out) (by intro u hu; simp only [List.mem_singleton] at hu; subst hu; rfl) HB.out.size (by have := HI8.out; omega) (by have := HI8.out; omega) ?_
          intro z9 w9 ho_ hg_ hat_
          have EB_ := Aside0.mk (fun k hk => own_base E0.out k hk)
          refine hK.out _ _ ⟨s0, s1, s2, s3, z9, u1, u2, (by rw [ha.out]; exact putSel_upk 2 hb_ rfl rfl rfl), HB.out.grown hg_ HB.out.size (fun k hk => EB_.out k hk), Nat.le_trans HS.out hg_.size, (hg_.block _ (blk_lt C2.out) (own_ne E0.out C2.out (by decide))).trans C2.out, fun _ => (hg_.block _ (blk_lt C3.out) (own_ne E0.out C3.out (by decide))).trans C3.out, fun h0_ _ => absurd ((hoff 14 (by kernel_rfl)).symm.trans h0_) (by decide), fun h0_ _ => absurd ((hoff 16 (by kernel_rfl)).symm.trans h0_) (by decide), fun h0_ => absurd ((hoff 18 (by kernel_rfl)).symm.trans h0_) (by decide), fun h0_ => absurd ((up_self b 3).symm.trans h0_) (by decide), fun _ => ho_, fun _ h1_ => absurd ((up_self b 3).symm.trans h1_) (by decide), fun _ => own_apt E1.out hg_ Z01.out.symm, fun h0_ => absurd ((hoff 7 (by kernel_rfl)).symm.trans h0_) (by decide), fun h0_ h1_ => own_apt (Q_S1 h0_ h1_) hg_ (base_apt (Q_S1 h0_ h1_) ZL.out.1), fun _ => own_tyx E2.out E0.out hg_ (by decide), fun h0_ => absurd ((hoff 12 (by kernel_rfl)).symm.trans h0_) (by decide), fun h0_ h1_ => own_tyx (Q_S2 h0_ h1_) E0.out hg_ (by decide), fun h0_ => own_apt (Q_S3 h0_) hg_ (base_apt (Q_S3 h0_) ZL.out.1), fun j hj => own_apt (RO.out j hj) hg_ (fun k hk => (FR.out j hj k hk).1), fun _ => newor hat_ HS.out, fun h0_ => absurd ((hoff 7 (by kernel_rfl)).symm.trans h0_) (by decide), fun _ h1_ => absurd ((hoff 7 (by kernel_rfl)).symm.trans h1_) (by decide), fun h0_ h1_ => apt_hat (Q_S3 h1_) hat_ ZL.out.1, fun h0_ _ => absurd ((hoff 7 (by kernel_rfl)).symm.trans h0_) (by decide)⟩
        refine steps_cons ?_ ?_
        · rintro b a w' ⟨s0, s1, s2, s3, u0, u1, u2, ha, Q_HB, Q_HS, Q_C2, Q_C3, Q_C3a, Q_C3b, Q_C3c, Q_E0, Q_R0, Q_S0, Q_E1, Q_R1, Q_S1, Q_E2, Q_R2, Q_S2, Q_S3, Q_RO, Q_N0, Q_N1, Q_U01, Q_F03, Q_F13⟩ hb_ hon hoff
          refine ⟨_, rfl, fun K hK => ?_⟩
          have e17 : a.tmps[17]? = some (.pointer (some ⟨g3, 1, none⟩)) := by rw [ha]; exact (putSel_off rfl).trans rfl
          replace ha := Aside0.mk ha
          have HB := Aside0.mk Q_HB
          have HS := Aside0.mk Q_HS
          have C2 := Aside0.mk Q_C2
          have C3 := Aside0.mk (Q_C3 (hoff 14 (by kernel_rfl)))
          have E1 := Aside0.mk (Q_E1 (hoff 7 (by kernel_rfl)))
          have E2 := Aside0.mk (Q_E2 (hoff 12 (by kernel_rfl)))
          have RO := Aside0.mk Q_RO
          have hc_ : w'.cell? ⟨g3, 1, none⟩ = some z1 := (blk_cell C3.out 1).trans rfl
          refine value_ (w1 := w') (v := z1) (by rfl) rfl ?_ ?_
          · go_simp
            (try simp only [i64_w])
            try rfl
          refine hK.out _ _ ⟨s0, s1, s2, s3, u0, u1, u2, (by rw [ha.out]; exact putSel_upk 3 hb_ rfl rfl rfl), Q_HB, Q_HS, Q_C2, Q_C3, fun h0_ _ => absurd ((hoff 14 (by kernel_rfl)).symm.trans h0_) (by decide), fun h0_ _ => absurd ((hoff 16 (by kernel_rfl)).symm.trans h0_) (by decide), fun h0_ => absurd ((hoff 18 (by kernel_rfl)).symm.trans h0_) (by decide), Q_E0, Q_R0, Q_S0, Q_E1, fun h0_ => absurd ((hoff 7 (by kernel_rfl)).symm.trans h0_) (by decide), Q_S1, Q_E2, fun h0_ => absurd ((hoff 12 (by kernel_rfl)).symm.trans h0_) (by decide), Q_S2, Q_S3, Q_RO, Q_N0, fun h0_ => absurd ((hoff 7 (by kernel_rfl)).symm.trans h0_) (by decide), fun _ h1_ => absurd ((hoff 7 (by kernel_rfl)).symm.trans h1_) (by decide), Q_F03, fun h0_ _ => absurd ((hoff 7 (by kernel_rfl)).symm.trans h0_) (by decide)⟩
        refine steps_cons ?_ ?_
        · rintro b a w' ⟨s0, s1, s2, s3, u0, u1, u2, ha, Q_HB, Q_HS, Q_C2, Q_C3, Q_C3a, Q_C3b, Q_C3c, Q_E0, Q_R0, Q_S0, Q_E1, Q_R1, Q_S1, Q_E2, Q_R2, Q_S2, Q_S3, Q_RO, Q_N0, Q_N1, Q_U01, Q_F03, Q_F13⟩ hb_ hon hoff
          refine ⟨_, rfl, fun K hK => ?_⟩
          replace ha := Aside0.mk ha
          have HB := Aside0.mk Q_HB
          have HS := Aside0.mk Q_HS
          have C2 := Aside0.mk Q_C2
          have C3 := Aside0.mk (Q_C3 (hoff 14 (by kernel_rfl)))
          have E1 := Aside0.mk (Q_E1 (hoff 7 (by kernel_rfl)))
          have E2 := Aside0.mk (Q_E2 (hoff 12 (by kernel_rfl)))
          have RO := Aside0.mk Q_RO
          refine value_ (w1 := w'.alloc (.cells #[.int .i64 0] 3)) (v := Value.slice (some ⟨w'.heap.size, 0, none⟩) 1 1) (by rfl) rfl ?_ ?_
          · first | (go_simp; done) | (go_simp; rfl)
          refine hK.out _ _ ⟨s0, (Value.slice (some ⟨w'.heap.size, 0, none⟩) 1 1), s2, s3, u0, u1, u2, (by rw [ha.out]; exact putSel_upk 4 hb_ rfl rfl rfl), below_alloc HB.out _, Nat.le_trans HS.out (alloc_le _ _), blk_alloc C2.out _, fun _ => blk_alloc C3.out _, fun h0_ _ => absurd ((hoff 14 (by kernel_rfl)).symm.trans h0_) (by decide), fun h0_ _ => absurd ((hoff 16 (by kernel_rfl)).symm.trans h0_) (by decide), fun h0_ => absurd ((hoff 18 (by kernel_rfl)).symm.trans h0_) (by decide), fun h0_ => (Q_E0 h0_).alloc _, fun h0_ => (Q_R0 h0_).alloc _, fun h0_ h1_ => (Q_S0 h0_ h1_).alloc _, fun _ => E1.out.alloc _, fun h0_ => absurd ((hoff 7 (by kernel_rfl)).symm.trans h0_) (by decide), fun _ _ => own_fresh1 w' HS.out 3 _, fun _ => E2.out.alloc _, fun h0_ => absurd ((hoff 12 (by kernel_rfl)).symm.trans h0_) (by decide), fun h0_ h1_ => (Q_S2 h0_ h1_).alloc _, fun h0_ => (Q_S3 h0_).alloc _, fun j hj => (RO.out j hj).below (below_alloc (Below.refl _ _) _), Q_N0, fun h0_ => absurd ((hoff 7 (by kernel_rfl)).symm.trans h0_) (by decide), fun _ h1_ => absurd ((hoff 7 (by kernel_rfl)).symm.trans h1_) (by decide), Q_F03, fun h0_ _ => absurd ((hoff 7 (by kernel_rfl)).symm.trans h0_) (by decide)⟩
        refine steps_cons ?_ ?_
        · rintro b a w' ⟨s0, s1, s2, s3, u0, u1, u2, ha, Q_HB, Q_HS, Q_C2, Q_C3, Q_C3a, Q_C3b, Q_C3c, Q_E0, Q_R0, Q_S0, Q_E1, Q_R1, Q_S1, Q_E2, Q_R2, Q_S2, Q_S3, Q_RO, Q_N0, Q_N1, Q_U01, Q_F03, Q_F13⟩ hb_ hon hoff
          refine ⟨_, rfl, fun K hK => ?_⟩
          have e18 : a.tmps[18]? = some (z1) := by rw [ha]; exact putSel_on (e := (5, 18, z1)) 3 rfl rfl (hon 5 (by kernel_rfl)) rfl
          have e19 : a.tmps[19]? = some (s1) := by rw [ha]; exact putSel_on (e := (6, 19, s1)) 4 rfl rfl (hon 6 (by kernel_rfl)) rfl
          replace ha := Aside0.mk ha
          have HB := Aside0.mk Q_HB
          have HS := Aside0.mk Q_HS
          have C2 := Aside0.mk Q_C2
          have C3 := Aside0.mk (Q_C3 (hoff 14 (by kernel_rfl)))
          have R0 := Aside0.mk (Q_R0 (hon 3 (by kernel_rfl)))
          have E1 := Aside0.mk (Q_E1 hb_)
          have S1 := Aside0.mk (Q_S1 (hon 6 (by kernel_rfl)) hb_)
          have E2 := Aside0.mk (Q_E2 (hoff 12 (by kernel_rfl)))
          have RO := Aside0.mk Q_RO
          have N0 := Aside0.mk (Q_N0 (hon 3 (by kernel_rfl)))
          obtain ⟨AS_, cS_, hS_⟩ := own_slice S1.out
          refine step_appc rfl (.tmp 18) (.tmp 19) 38 3 rfl (.int .i64 0) 8 Try.underlying38 Rg.info3 rfl W.heap.size z1 i (nums .i64 (List.replicate i 0)) [.int .i64 0] AS_ 1 cS_ hh (by simp [Act.eval, e18]) (by simp [Act.eval, e19, hS_]) E1.out (hS_ ▸ S1.out) (by intro u hu; simp only [List.mem_singleton] at hu; subst hu; rfl) HB.out.size (by have := HI8.out; omega) (by have := HI8.out; omega) ?_
          intro z9 w9 ho_ hg_ hat_
          have EB_ := Aside0.mk (fun k hk => own_base E1.out k hk)
          refine hK.out _ _ ⟨s0, s1, s2, s3, u0, z9, u2, (by rw [ha.out]; exact putSel_upk 5 hb_ rfl rfl rfl), HB.out.grown hg_ HB.out.size (fun k hk => EB_.out k hk), Nat.le_trans HS.out hg_.size, (hg_.block _ (blk_lt C2.out) (own_ne E1.out C2.out (by decide))).trans C2.out, fun _ => (hg_.block _ (blk_lt C3.out) (own_ne E1.out C3.out (by decide))).trans C3.out, fun h0_ _ => absurd ((hoff 14 (by kernel_rfl)).symm.trans h0_) (by decide), fun h0_ _ => absurd ((hoff 16 (by kernel_rfl)).symm.trans h0_) (by decide), fun h0_ => absurd ((hoff 18 (by kernel_rfl)).symm.trans h0_) (by decide), fun h0_ => absurd ((hon 3 (by kernel_rfl)).symm.trans h0_) (by decide), fun _ => own_apt R0.out hg_ (newor_apt (Q_N0 (hon 3 (by kernel_rfl))) Z01.out ZL.out.2), fun _ h1_ => absurd ((hon 3 (by kernel_rfl)).symm.trans h1_) (by decide), fun h0_ => absurd ((up_self b 7).symm.trans h0_) (by decide), fun _ => ho_, fun _ h1_ => absurd ((up_self b 7).symm.trans h1_) (by decide), fun _ => own_tyx E2.out E1.out hg_ (by decide), fun h0_ => absurd ((hoff 12 (by kernel_rfl)).symm.trans h0_) (by decide), fun h0_ h1_ => own_tyx (Q_S2 h0_ h1_) E1.out hg_ (by decide), fun h0_ => own_apt (Q_S3 h0_) hg_ (base_apt (Q_S3 h0_) ZL.out.2), fun j hj => own_apt (RO.out j hj) hg_ (fun k hk => (FR.out j hj k hk).2.1), Q_N0, fun _ => newor hat_ HS.out, fun h0_ h1_ => apt_hat2 (Q_R0 h0_) hat_ (newor_apt (Q_N0 (hon 3 (by kernel_rfl))) Z01.out ZL.out.2), Q_F03, fun h0_ h1_ => apt_hat (Q_S3 h1_) hat_ ZL.out.2⟩
        refine steps_cons ?_ ?_
        · rintro b a w' ⟨s0, s1, s2, s3, u0, u1, u2, ha, Q_HB, Q_HS, Q_C2, Q_C3, Q_C3a, Q_C3b, Q_C3c, Q_E0, Q_R0, Q_S0, Q_E1, Q_R1, Q_S1, Q_E2, Q_R2, Q_S2, Q_S3, Q_RO, Q_N0, Q_N1, Q_U01, Q_F03, Q_F13⟩ hb_ hon hoff
          refine ⟨_, rfl, fun K hK => ?_⟩
          have e21 : a.tmps[21]? = some (.pointer (some ⟨g3, 2, none⟩)) := by rw [ha]; exact (putSel_off rfl).trans rfl
          replace ha := Aside0.mk ha
          have HB := Aside0.mk Q_HB
          have HS := Aside0.mk Q_HS
          have C2 := Aside0.mk Q_C2
          have C3 := Aside0.mk (Q_C3 (hoff 14 (by kernel_rfl)))
          have E2 := Aside0.mk (Q_E2 (hoff 12 (by kernel_rfl)))
          have RO := Aside0.mk Q_RO
          have hc_ : w'.cell? ⟨g3, 2, none⟩ = some z2 := (blk_cell C3.out 2).trans rfl
          refine value_ (w1 := w') (v := z2) (by rfl) rfl ?_ ?_
          · go_simp
            (try simp only [i64_w])
            try rfl
          refine hK.out _ _ ⟨s0, s1, s2, s3, u0, u1, u2, (by rw [ha.out]; exact putSel_upk 6 hb_ rfl rfl rfl), Q_HB, Q_HS, Q_C2, Q_C3, fun h0_ _ => absurd ((hoff 14 (by kernel_rfl)).symm.trans h0_) (by decide), fun h0_ _ => absurd ((hoff 16 (by kernel_rfl)).symm.trans h0_) (by decide), fun h0_ => absurd ((hoff 18 (by kernel_rfl)).symm.trans h0_) (by decide), Q_E0, Q_R0, Q_S0, Q_E1, Q_R1, Q_S1, Q_E2, fun h0_ => absurd ((hoff 12 (by kernel_rfl)).symm.trans h0_) (by decide), Q_S2, Q_S3, Q_RO, Q_N0, Q_N1, Q_U01, Q_F03, Q_F13⟩
        refine steps_cons ?_ ?_
        · rintro b a w' ⟨s0, s1, s2, s3, u0, u1, u2, ha, Q_HB, Q_HS, Q_C2, Q_C3, Q_C3a, Q_C3b, Q_C3c, Q_E0, Q_R0, Q_S0, Q_E1, Q_R1, Q_S1, Q_E2, Q_R2, Q_S2, Q_S3, Q_RO, Q_N0, Q_N1, Q_U01, Q_F03, Q_F13⟩ hb_ hon hoff
          refine ⟨_, rfl, fun K hK => ?_⟩
          replace ha := Aside0.mk ha
          have HB := Aside0.mk Q_HB
          have HS := Aside0.mk Q_HS
          have C2 := Aside0.mk Q_C2
          have C3 := Aside0.mk (Q_C3 (hoff 14 (by kernel_rfl)))
          have E2 := Aside0.mk (Q_E2 (hoff 12 (by kernel_rfl)))
          have RO := Aside0.mk Q_RO
          refine value_ (w1 := w'.alloc (.cells #[] 3)) (v := Value.slice (some ⟨w'.heap.size, 0, none⟩) 0 0) (by rfl) rfl ?_ ?_
          · first | (go_simp; done) | (go_simp; rfl)
          refine hK.out _ _ ⟨s0, s1, s2, (Value.slice (some ⟨w'.heap.size, 0, none⟩) 0 0), u0, u1, u2, (by rw [ha.out]; exact putSel_upk 7 hb_ rfl rfl rfl), below_alloc HB.out _, Nat.le_trans HS.out (alloc_le _ _), blk_alloc C2.out _, fun _ => blk_alloc C3.out _, fun h0_ _ => absurd ((hoff 14 (by kernel_rfl)).symm.trans h0_) (by decide), fun h0_ _ => absurd ((hoff 16 (by kernel_rfl)).symm.trans h0_) (by decide), fun h0_ => absurd ((hoff 18 (by kernel_rfl)).symm.trans h0_) (by decide), fun h0_ => (Q_E0 h0_).alloc _, fun h0_ => (Q_R0 h0_).alloc _, fun h0_ h1_ => (Q_S0 h0_ h1_).alloc _, fun h0_ => (Q_E1 h0_).alloc _, fun h0_ => (Q_R1 h0_).alloc _, fun h0_ h1_ => (Q_S1 h0_ h1_).alloc _, fun _ => E2.out.alloc _, fun h0_ => absurd ((hoff 12 (by kernel_rfl)).symm.trans h0_) (by decide), fun h0_ _ => absurd ((hoff 11 (by kernel_rfl)).symm.trans h0_) (by decide), fun _ => own_fresh0 w' HS.out 3, fun j hj => (RO.out j hj).below (below_alloc (Below.refl _ _) _), Q_N0, Q_N1, Q_U01, fun h0_ h1_ => apt_new (Q_R0 h0_), fun h0_ h1_ => apt_new (Q_R1 h0_)⟩
        refine steps_cons ?_ ?_
        · rintro b a w' ⟨s0, s1, s2, s3, u0, u1, u2, ha, Q_HB, Q_HS, Q_C2, Q_C3, Q_C3a, Q_C3b, Q_C3c, Q_E0, Q_R0, Q_S0, Q_E1, Q_R1, Q_S1, Q_E2, Q_R2, Q_S2, Q_S3, Q_RO, Q_N0, Q_N1, Q_U01, Q_F03, Q_F13⟩ hb_ hon hoff
          refine ⟨_, rfl, fun K hK => ?_⟩
          have e23 : a.tmps[23]? = some (s3) := by rw [ha]; exact putSel_on (e := (10, 23, s3)) 7 rfl rfl (hon 10 (by kernel_rfl)) rfl
          replace ha := Aside0.mk ha
          have HB := Aside0.mk Q_HB
          have HS := Aside0.mk Q_HS
          have C2 := Aside0.mk Q_C2
          have C3 := Aside0.mk (Q_C3 (hoff 14 (by kernel_rfl)))
          have E2 := Aside0.mk (Q_E2 (hoff 12 (by kernel_rfl)))
          have S3 := Aside0.mk (Q_S3 (hon 10 (by kernel_rfl)))
          have RO := Aside0.mk Q_RO
          refine value_ (w1 := w'.alloc (.cells #[s3] 38)) (v := Value.slice (some ⟨w'.heap.size, 0, none⟩) 1 1) (by rfl) rfl ?_ ?_
          · obtain ⟨A3_, c3_, h3_⟩ := own_slice S3.out; subst h3_; first | (go_simp; done) | (go_simp; rfl)
          refine hK.out _ _ ⟨s0, s1, (Value.slice (some ⟨w'.heap.size, 0, none⟩) 1 1), s3, u0, u1, u2, (by rw [ha.out]; exact putSel_upk 8 hb_ rfl rfl rfl), below_alloc HB.out _, Nat.le_trans HS.out (alloc_le _ _), blk_alloc C2.out _, fun _ => blk_alloc C3.out _, fun h0_ _ => absurd ((hoff 14 (by kernel_rfl)).symm.trans h0_) (by decide), fun h0_ _ => absurd ((hoff 16 (by kernel_rfl)).symm.trans h0_) (by decide), fun h0_ => absurd ((hoff 18 (by kernel_rfl)).symm.trans h0_) (by decide), fun h0_ => (Q_E0 h0_).alloc _, fun h0_ => (Q_R0 h0_).alloc _, fun h0_ h1_ => (Q_S0 h0_ h1_).alloc _, fun h0_ => (Q_E1 h0_).alloc _, fun h0_ => (Q_R1 h0_).alloc _, fun h0_ h1_ => (Q_S1 h0_ h1_).alloc _, fun _ => E2.out.alloc _, fun h0_ => absurd ((hoff 12 (by kernel_rfl)).symm.trans h0_) (by decide), fun _ _ => own_fresh1 w' HS.out 38 _, fun _ => S3.out.alloc _, fun j hj => (RO.out j hj).below (below_alloc (Below.refl _ _) _), Q_N0, Q_N1, Q_U01, Q_F03, Q_F13⟩
        refine steps_cons ?_ ?_
        · rintro b a w' ⟨s0, s1, s2, s3, u0, u1, u2, ha, Q_HB, Q_HS, Q_C2, Q_C3, Q_C3a, Q_C3b, Q_C3c, Q_E0, Q_R0, Q_S0, Q_E1, Q_R1, Q_S1, Q_E2, Q_R2, Q_S2, Q_S3, Q_RO, Q_N0, Q_N1, Q_U01, Q_F03, Q_F13⟩ hb_ hon hoff
          refine ⟨_, rfl, fun K hK => ?_⟩
          have e22 : a.tmps[22]? = some (z2) := by rw [ha]; exact putSel_on (e := (9, 22, z2)) 6 rfl rfl (hon 9 (by kernel_rfl)) rfl
          have e24 : a.tmps[24]? = some (s2) := by rw [ha]; exact putSel_on (e := (11, 24, s2)) 8 rfl rfl (hon 11 (by kernel_rfl)) rfl
          replace ha := Aside0.mk ha
          have HB := Aside0.mk Q_HB
          have HS := Aside0.mk Q_HS
          have C2 := Aside0.mk Q_C2
          have C3 := Aside0.mk (Q_C3 (hoff 14 (by kernel_rfl)))
          have R0 := Aside0.mk (Q_R0 (hon 3 (by kernel_rfl)))
          have R1 := Aside0.mk (Q_R1 (hon 7 (by kernel_rfl)))
          have E2 := Aside0.mk (Q_E2 hb_)
          have S2 := Aside0.mk (Q_S2 (hon 11 (by kernel_rfl)) hb_)
          have S3 := Aside0.mk (Q_S3 (hon 10 (by kernel_rfl)))
          have RO := Aside0.mk Q_RO
          have N0 := Aside0.mk (Q_N0 (hon 3 (by kernel_rfl)))
          have N1 := Aside0.mk (Q_N1 (hon 7 (by kernel_rfl)))
          have U01 := Aside0.mk (Q_U01 (hon 3 (by kernel_rfl)) (hon 7 (by kernel_rfl)))
          have F03 := Aside0.mk (Q_F03 (hon 3 (by kernel_rfl)) (hon 10 (by kernel_rfl)))
          have F13 := Aside0.mk (Q_F13 (hon 7 (by kernel_rfl)) (hon 10 (by kernel_rfl)))
          obtain ⟨AS_, cS_, hS_⟩ := own_slice S2.out
          refine step_appc rfl (.tmp 22) (.tmp 24) 39 38 rfl (.slice none 0 0) 24 Try.underlying39 info38 rfl W.heap.size z2 i ((List.range i).map vs) [s3] AS_ 1 cS_ hh (by simp [Act.eval, e22]) (by simp [Act.eval, e24, hS_]) E2.out (hS_ ▸ S2.out) (by intro u hu; simp only [List.mem_singleton] at hu; subst hu; exact own_one S3.out) HB.out.size (by have := HI8.out; omega) (by have := HI8.out; omega) ?_
          intro z9 w9 ho_ hg_ hat_
          have EB_ := Aside0.mk (fun k hk => own_base E2.out k hk)
          refine hK.out _ _ ⟨s0, s1, s2, s3, u0, u1, z9, (by rw [ha.out]; exact putSel_upk 9 hb_ rfl rfl rfl), HB.out.grown hg_ HB.out.size (fun k hk => EB_.out k hk), Nat.le_trans HS.out hg_.size, (hg_.block _ (blk_lt C2.out) (own_ne E2.out C2.out (by decide))).trans C2.out, fun _ => (hg_.block _ (blk_lt C3.out) (own_ne E2.out C3.out (by decide))).trans C3.out, fun h0_ _ => absurd ((hoff 14 (by kernel_rfl)).symm.trans h0_) (by decide), fun h0_ _ => absurd ((hoff 16 (by kernel_rfl)).symm.trans h0_) (by decide), fun h0_ => absurd ((hoff 18 (by kernel_rfl)).symm.trans h0_) (by decide), fun h0_ => absurd ((hon 3 (by kernel_rfl)).symm.trans h0_) (by decide), fun _ => own_tyx R0.out E2.out hg_ (by decide), fun _ h1_ => absurd ((hon 3 (by kernel_rfl)).symm.trans h1_) (by decide), fun h0_ => absurd ((hon 7 (by kernel_rfl)).symm.trans h0_) (by decide), fun _ => own_tyx R1.out E2.out hg_ (by decide), fun _ h1_ => absurd ((hon 7 (by kernel_rfl)).symm.trans h1_) (by decide), fun h0_ => absurd ((up_self b 12).symm.trans h0_) (by decide), fun _ => ho_, fun _ h1_ => absurd ((up_self b 12).symm.trans h1_) (by decide), fun _ => own_tyx S3.out E2.out hg_ (by decide), fun j hj => own_tyx (RO.out j hj) E2.out hg_ (by decide), Q_N0, Q_N1, Q_U01, Q_F03, Q_F13⟩
        refine steps_cons ?_ ?_
        · rintro b a w' ⟨s0, s1, s2, s3, u0, u1, u2, ha, Q_HB, Q_HS, Q_C2, Q_C3, Q_C3a, Q_C3b, Q_C3c, Q_E0, Q_R0, Q_S0, Q_E1, Q_R1, Q_S1, Q_E2, Q_R2, Q_S2, Q_S3, Q_RO, Q_N0, Q_N1, Q_U01, Q_F03, Q_F13⟩ hb_ hon hoff
          refine ⟨_, rfl, fun K hK => ?_⟩
          have e3 : a.tmps[3]? = some (.pointer (some ⟨g3, 0, none⟩)) := by rw [ha]; exact (putSel_off rfl).trans rfl
          replace ha := Aside0.mk ha
          have HB := Aside0.mk Q_HB
          have HS := Aside0.mk Q_HS
          have C2 := Aside0.mk Q_C2
          have C3 := Aside0.mk (Q_C3 (hoff 14 (by kernel_rfl)))
          have R0 := Aside0.mk (Q_R0 (hon 3 (by kernel_rfl)))
          have RO := Aside0.mk Q_RO
          have N0 := Aside0.mk (Q_N0 (hon 3 (by kernel_rfl)))
          refine value_ (w1 := w') (v := .pointer (some ⟨g3, 0, none⟩)) (by rfl) rfl ?_ ?_
          · go_simp
            (try simp only [i64_w])
            try rfl
          refine hK.out _ _ ⟨s0, s1, s2, s3, u0, u1, u2, (by rw [ha.out]; exact putSel_upk 10 hb_ rfl rfl rfl), Q_HB, Q_HS, Q_C2, Q_C3, fun h0_ _ => absurd ((hoff 14 (by kernel_rfl)).symm.trans h0_) (by decide), fun h0_ _ => absurd ((hoff 16 (by kernel_rfl)).symm.trans h0_) (by decide), fun h0_ => absurd ((hoff 18 (by kernel_rfl)).symm.trans h0_) (by decide), fun h0_ => absurd ((hon 3 (by kernel_rfl)).symm.trans h0_) (by decide), Q_R0, fun _ h1_ => absurd ((hon 3 (by kernel_rfl)).symm.trans h1_) (by decide), Q_E1, Q_R1, Q_S1, Q_E2, Q_R2, Q_S2, Q_S3, Q_RO, Q_N0, Q_N1, Q_U01, Q_F03, Q_F13⟩
        refine steps_cons ?_ ?_
        · rintro b a w' ⟨s0, s1, s2, s3, u0, u1, u2, ha, Q_HB, Q_HS, Q_C2, Q_C3, Q_C3a, Q_C3b, Q_C3c, Q_E0, Q_R0, Q_S0, Q_E1, Q_R1, Q_S1, Q_E2, Q_R2, Q_S2, Q_S3, Q_RO, Q_N0, Q_N1, Q_U01, Q_F03, Q_F13⟩ hb_ hon hoff
          refine ⟨_, rfl, fun K hK => ?_⟩
          have e26 : a.tmps[26]? = some (.pointer (some ⟨g3, 0, none⟩)) := by rw [ha]; exact putSel_on (e := (13, 26, .pointer (some ⟨g3, 0, none⟩))) 10 rfl rfl (hon 13 (by kernel_rfl)) rfl
          have e16 : a.tmps[16]? = some (u0) := by rw [ha]; exact putSel_on (e := (3, 16, u0)) 2 rfl rfl (hon 3 (by kernel_rfl)) rfl
          replace ha := Aside0.mk ha
          have HB := Aside0.mk Q_HB
          have HS := Aside0.mk Q_HS
          have C2 := Aside0.mk Q_C2
          have C3 := Aside0.mk (Q_C3 hb_)
          have R0 := Aside0.mk (Q_R0 (hon 3 (by kernel_rfl)))
          have R1 := Aside0.mk (Q_R1 (hon 7 (by kernel_rfl)))
          have R2 := Aside0.mk (Q_R2 (hon 12 (by kernel_rfl)))
          have S3 := Aside0.mk (Q_S3 (hon 10 (by kernel_rfl)))
          have RO := Aside0.mk Q_RO
          have N0 := Aside0.mk (Q_N0 (hon 3 (by kernel_rfl)))
          have N1 := Aside0.mk (Q_N1 (hon 7 (by kernel_rfl)))
          have U01 := Aside0.mk (Q_U01 (hon 3 (by kernel_rfl)) (hon 7 (by kernel_rfl)))
          have F03 := Aside0.mk (Q_F03 (hon 3 (by kernel_rfl)) (hon 10 (by kernel_rfl)))
          have F13 := Aside0.mk (Q_F13 (hon 7 (by kernel_rfl)) (hon 10 (by kernel_rfl)))
          refine skip_ (w1 := w'.setCell ⟨g3, 0, none⟩ u0) (by rfl) rfl (ex_store1 (x := .tmp 26) (y := .tmp 16) rfl (by simp [Act.eval, e26]) (by simp [Act.eval, e16]) C3.out (show 0 < 4 by decide) (own_sl R0.out) (by decide)) ?_
          refine hK.out _ _ ⟨s0, s1, s2, s3, u0, u1, u2, (by rw [ha.out]; exact putSel_none (v := undef) rfl), below_set HB.out GE3.out _, Nat.le_trans HS.out (by simp [World.setCell]), blk_far C2.out NE.out _, fun h0_ => absurd ((up_self b 14).symm.trans h0_) (by decide), fun _ _ => blk_put C3.out 0 _ rfl, fun h0_ _ => absurd ((hoff 16 (by kernel_rfl)).symm.trans h0_) (by decide), fun h0_ => absurd ((hoff 18 (by kernel_rfl)).symm.trans h0_) (by decide), fun h0_ => absurd ((hon 3 (by kernel_rfl)).symm.trans h0_) (by decide), fun _ => own_box R0.out C3.out (by decide), fun _ h1_ => absurd ((hon 3 (by kernel_rfl)).symm.trans h1_) (by decide), fun h0_ => absurd ((hon 7 (by kernel_rfl)).symm.trans h0_) (by decide), fun _ => own_box R1.out C3.out (by decide), fun _ h1_ => absurd ((hon 7 (by kernel_rfl)).symm.trans h1_) (by decide), fun h0_ => absurd ((hon 12 (by kernel_rfl)).symm.trans h0_) (by decide), fun _ => own_box R2.out C3.out (by decide), fun _ h1_ => absurd ((hon 12 (by kernel_rfl)).symm.trans h1_) (by decide), fun _ => own_box S3.out C3.out (by decide), fun j hj => own_box (RO.out j hj) C3.out (by decide), Q_N0, Q_N1, Q_U01, Q_F03, Q_F13⟩
        refine steps_cons ?_ ?_
        · rintro b a w' ⟨s0, s1, s2, s3, u0, u1, u2, ha, Q_HB, Q_HS, Q_C2, Q_C3, Q_C3a, Q_C3b, Q_C3c, Q_E0, Q_R0, Q_S0, Q_E1, Q_R1, Q_S1, Q_E2, Q_R2, Q_S2, Q_S3, Q_RO, Q_N0, Q_N1, Q_U01, Q_F03, Q_F13⟩ hb_ hon hoff
          refine ⟨_, rfl, fun K hK => ?_⟩
          have e3 : a.tmps[3]? = some (.pointer (some ⟨g3, 0, none⟩)) := by rw [ha]; exact (putSel_off rfl).trans rfl
          replace ha := Aside0.mk ha
          have HB := Aside0.mk Q_HB
          have HS := Aside0.mk Q_HS
          have C2 := Aside0.mk Q_C2
          have C3a := Aside0.mk (Q_C3a (hon 14 (by kernel_rfl)) (hoff 16 (by kernel_rfl)))
          have R0 := Aside0.mk (Q_R0 (hon 3 (by kernel_rfl)))
          have R1 := Aside0.mk (Q_R1 (hon 7 (by kernel_rfl)))
          have R2 := Aside0.mk (Q_R2 (hon 12 (by kernel_rfl)))
          have S3 := Aside0.mk (Q_S3 (hon 10 (by kernel_rfl)))
          have RO := Aside0.mk Q_RO
          have N0 := Aside0.mk (Q_N0 (hon 3 (by kernel_rfl)))
          have N1 := Aside0.mk (Q_N1 (hon 7 (by kernel_rfl)))
          have U01 := Aside0.mk (Q_U01 (hon 3 (by kernel_rfl)) (hon 7 (by kernel_rfl)))
          have F03 := Aside0.mk (Q_F03 (hon 3 (by kernel_rfl)) (hon 10 (by kernel_rfl)))
          have F13 := Aside0.mk (Q_F13 (hon 7 (by kernel_rfl)) (hon 10 (by kernel_rfl)))
          refine value_ (w1 := w') (v := .pointer (some ⟨g3, 1, none⟩)) (by rfl) rfl ?_ ?_
          · go_simp
            (try simp only [i64_w])
            try rfl
          refine hK.out _ _ ⟨s0, s1, s2, s3, u0, u1, u2, (by rw [ha.out]; exact putSel_upk 11 hb_ rfl rfl rfl), Q_HB, Q_HS, Q_C2, fun h0_ => absurd ((hon 14 (by kernel_rfl)).symm.trans h0_) (by decide), Q_C3a, fun h0_ _ => absurd ((hoff 16 (by kernel_rfl)).symm.trans h0_) (by decide), fun h0_ => absurd ((hoff 18 (by kernel_rfl)).symm.trans h0_) (by decide), fun h0_ => absurd ((hon 3 (by kernel_rfl)).symm.trans h0_) (by decide), Q_R0, fun _ h1_ => absurd ((hon 3 (by kernel_rfl)).symm.trans h1_) (by decide), fun h0_ => absurd ((hon 7 (by kernel_rfl)).symm.trans h0_) (by decide), Q_R1, fun _ h1_ => absurd ((hon 7 (by kernel_rfl)).symm.trans h1_) (by decide), fun h0_ => absurd ((hon 12 (by kernel_rfl)).symm.trans h0_) (by decide), Q_R2, fun _ h1_ => absurd ((hon 12 (by kernel_rfl)).symm.trans h1_) (by decide), Q_S3, Q_RO, Q_N0, Q_N1, Q_U01, Q_F03, Q_F13⟩
        refine steps_cons ?_ ?_
        · rintro b a w' ⟨s0, s1, s2, s3, u0, u1, u2, ha, Q_HB, Q_HS, Q_C2, Q_C3, Q_C3a, Q_C3b, Q_C3c, Q_E0, Q_R0, Q_S0, Q_E1, Q_R1, Q_S1, Q_E2, Q_R2, Q_S2, Q_S3, Q_RO, Q_N0, Q_N1, Q_U01, Q_F03, Q_F13⟩ hb_ hon hoff
          refine ⟨_, rfl, fun K hK => ?_⟩
          have e27 : a.tmps[27]? = some (.pointer (some ⟨g3, 1, none⟩)) := by rw [ha]; exact putSel_on (e := (15, 27, .pointer (some ⟨g3, 1, none⟩))) 11 rfl rfl (hon 15 (by kernel_rfl)) rfl
          have e20 : a.tmps[20]? = some (u1) := by rw [ha]; exact putSel_on (e := (7, 20, u1)) 5 rfl rfl (hon 7 (by kernel_rfl)) rfl
          replace ha := Aside0.mk ha
          have HB := Aside0.mk Q_HB
          have HS := Aside0.mk Q_HS
          have C2 := Aside0.mk Q_C2
          have C3a := Aside0.mk (Q_C3a (hon 14 (by kernel_rfl)) hb_)
          have R0 := Aside0.mk (Q_R0 (hon 3 (by kernel_rfl)))
          have R1 := Aside0.mk (Q_R1 (hon 7 (by kernel_rfl)))
          have R2 := Aside0.mk (Q_R2 (hon 12 (by kernel_rfl)))
          have S3 := Aside0.mk (Q_S3 (hon 10 (by kernel_rfl)))
          have RO := Aside0.mk Q_RO
          have N0 := Aside0.mk (Q_N0 (hon 3 (by kernel_rfl)))
          have N1 := Aside0.mk (Q_N1 (hon 7 (by kernel_rfl)))
          have U01 := Aside0.mk (Q_U01 (hon 3 (by kernel_rfl)) (hon 7 (by kernel_rfl)))
          have F03 := Aside0.mk (Q_F03 (hon 3 (by kernel_rfl)) (hon 10 (by kernel_rfl)))
          have F13 := Aside0.mk (Q_F13 (hon 7 (by kernel_rfl)) (hon 10 (by kernel_rfl)))
          refine skip_ (w1 := w'.setCell ⟨g3, 1, none⟩ u1) (by rfl) rfl (ex_store1 (x := .tmp 27) (y := .tmp 20) rfl (by simp [Act.eval, e27]) (by simp [Act.eval, e20]) C3a.out (show 1 < 4 by decide) (own_sl R1.out) (by decide)) ?_
          refine hK.out _ _ ⟨s0, s1, s2, s3, u0, u1, u2, (by rw [ha.out]; exact putSel_none (v := undef) rfl), below_set HB.out GE3.out _, Nat.le_trans HS.out (by simp [World.setCell]), blk_far C2.out NE.out _, fun h0_ => absurd ((hon 14 (by kernel_rfl)).symm.trans h0_) (by decide), fun _ h1_ => absurd ((up_self b 16).symm.trans h1_) (by decide), fun _ _ => blk_put C3a.out 1 _ rfl, fun h0_ => absurd ((hoff 18 (by kernel_rfl)).symm.trans h0_) (by decide), fun h0_ => absurd ((hon 3 (by kernel_rfl)).symm.trans h0_) (by decide), fun _ => own_box R0.out C3a.out (by decide), fun _ h1_ => absurd ((hon 3 (by kernel_rfl)).symm.trans h1_) (by decide), fun h0_ => absurd ((hon 7 (by kernel_rfl)).symm.trans h0_) (by decide), fun _ => own_box R1.out C3a.out (by decide), fun _ h1_ => absurd ((hon 7 (by kernel_rfl)).symm.trans h1_) (by decide), fun h0_ => absurd ((hon 12 (by kernel_rfl)).symm.trans h0_) (by decide), fun _ => own_box R2.out C3a.out (by decide), fun _ h1_ => absurd ((hon 12 (by kernel_rfl)).symm.trans h1_) (by decide), fun _ => own_box S3.out C3a.out (by decide), fun j hj => own_box (RO.out j hj) C3a.out (by decide), Q_N0, Q_N1, Q_U01, Q_F03, Q_F13⟩
        refine steps_cons ?_ ?_
        · rintro b a w' ⟨s0, s1, s2, s3, u0, u1, u2, ha, Q_HB, Q_HS, Q_C2, Q_C3, Q_C3a, Q_C3b, Q_C3c, Q_E0, Q_R0, Q_S0, Q_E1, Q_R1, Q_S1, Q_E2, Q_R2, Q_S2, Q_S3, Q_RO, Q_N0, Q_N1, Q_U01, Q_F03, Q_F13⟩ hb_ hon hoff
          refine ⟨_, rfl, fun K hK => ?_⟩
          have e3 : a.tmps[3]? = some (.pointer (some ⟨g3, 0, none⟩)) := by rw [ha]; exact (putSel_off rfl).trans rfl
          replace ha := Aside0.mk ha
          have HB := Aside0.mk Q_HB
          have HS := Aside0.mk Q_HS
          have C2 := Aside0.mk Q_C2
          have C3b := Aside0.mk (Q_C3b (hon 16 (by kernel_rfl)) (hoff 18 (by kernel_rfl)))
          have R0 := Aside0.mk (Q_R0 (hon 3 (by kernel_rfl)))
          have R1 := Aside0.mk (Q_R1 (hon 7 (by kernel_rfl)))
          have R2 := Aside0.mk (Q_R2 (hon 12 (by kernel_rfl)))
          have S3 := Aside0.mk (Q_S3 (hon 10 (by kernel_rfl)))
          have RO := Aside0.mk Q_RO
          have N0 := Aside0.mk (Q_N0 (hon 3 (by kernel_rfl)))
          have N1 := Aside0.mk (Q_N1 (hon 7 (by kernel_rfl)))
          have U01 := Aside0.mk (Q_U01 (hon 3 (by kernel_rfl)) (hon 7 (by kernel_rfl)))
          have F03 := Aside0.mk (Q_F03 (hon 3 (by kernel_rfl)) (hon 10 (by kernel_rfl)))
          have F13 := Aside0.mk (Q_F13 (hon 7 (by kernel_rfl)) (hon 10 (by kernel_rfl)))
          refine value_ (w1 := w') (v := .pointer (some ⟨g3, 2, none⟩)) (by rfl) rfl ?_ ?_
          · go_simp
            (try simp only [i64_w])
            try rfl
          refine hK.out _ _ ⟨s0, s1, s2, s3, u0, u1, u2, (by rw [ha.out]; exact putSel_upk 12 hb_ rfl rfl rfl), Q_HB, Q_HS, Q_C2, fun h0_ => absurd ((hon 14 (by kernel_rfl)).symm.trans h0_) (by decide), fun _ h1_ => absurd ((hon 16 (by kernel_rfl)).symm.trans h1_) (by decide), Q_C3b, fun h0_ => absurd ((hoff 18 (by kernel_rfl)).symm.trans h0_) (by decide), fun h0_ => absurd ((hon 3 (by kernel_rfl)).symm.trans h0_) (by decide), Q_R0, fun _ h1_ => absurd ((hon 3 (by kernel_rfl)).symm.trans h1_) (by decide), fun h0_ => absurd ((hon 7 (by kernel_rfl)).symm.trans h0_) (by decide), Q_R1, fun _ h1_ => absurd ((hon 7 (by kernel_rfl)).symm.trans h1_) (by decide), fun h0_ => absurd ((hon 12 (by kernel_rfl)).symm.trans h0_) (by decide), Q_R2, fun _ h1_ => absurd ((hon 12 (by kernel_rfl)).symm.trans h1_) (by decide), Q_S3, Q_RO, Q_N0, Q_N1, Q_U01, Q_F03, Q_F13⟩
        refine steps_cons ?_ ?_
        · rintro b a w' ⟨s0, s1, s2, s3, u0, u1, u2, ha, Q_HB, Q_HS, Q_C2, Q_C3, Q_C3a, Q_C3b, Q_C3c, Q_E0, Q_R0, Q_S0, Q_E1, Q_R1, Q_S1, Q_E2, Q_R2, Q_S2, Q_S3, Q_RO, Q_N0, Q_N1, Q_U01, Q_F03, Q_F13⟩ hb_ hon hoff
          refine ⟨_, rfl, fun K hK => ?_⟩
          have e28 : a.tmps[28]? = some (.pointer (some ⟨g3, 2, none⟩)) := by rw [ha]; exact putSel_on (e := (17, 28, .pointer (some ⟨g3, 2, none⟩))) 12 rfl rfl (hon 17 (by kernel_rfl)) rfl
          have e25 : a.tmps[25]? = some (u2) := by rw [ha]; exact putSel_on (e := (12, 25, u2)) 9 rfl rfl (hon 12 (by kernel_rfl)) rfl
          replace ha := Aside0.mk ha
          have HB := Aside0.mk Q_HB
          have HS := Aside0.mk Q_HS
          have C2 := Aside0.mk Q_C2
          have C3b := Aside0.mk (Q_C3b (hon 16 (by kernel_rfl)) hb_)
          have R0 := Aside0.mk (Q_R0 (hon 3 (by kernel_rfl)))
          have R1 := Aside0.mk (Q_R1 (hon 7 (by kernel_rfl)))
          have R2 := Aside0.mk (Q_R2 (hon 12 (by kernel_rfl)))
          have S3 := Aside0.mk (Q_S3 (hon 10 (by kernel_rfl)))
          have RO := Aside0.mk Q_RO
          have N0 := Aside0.mk (Q_N0 (hon 3 (by kernel_rfl)))
          have N1 := Aside0.mk (Q_N1 (hon 7 (by kernel_rfl)))
          have U01 := Aside0.mk (Q_U01 (hon 3 (by kernel_rfl)) (hon 7 (by kernel_rfl)))
          have F03 := Aside0.mk (Q_F03 (hon 3 (by kernel_rfl)) (hon 10 (by kernel_rfl)))
          have F13 := Aside0.mk (Q_F13 (hon 7 (by kernel_rfl)) (hon 10 (by kernel_rfl)))
          refine skip_ (w1 := w'.setCell ⟨g3, 2, none⟩ u2) (by rfl) rfl (ex_store1 (x := .tmp 28) (y := .tmp 25) rfl (by simp [Act.eval, e28]) (by simp [Act.eval, e25]) C3b.out (show 2 < 4 by decide) (own_sl R2.out) (by decide)) ?_
          refine hK.out _ _ ⟨s0, s1, s2, s3, u0, u1, u2, (by rw [ha.out]; exact putSel_none (v := undef) rfl), below_set HB.out GE3.out _, Nat.le_trans HS.out (by simp [World.setCell]), blk_far C2.out NE.out _, fun h0_ => absurd ((hon 14 (by kernel_rfl)).symm.trans h0_) (by decide), fun _ h1_ => absurd ((hon 16 (by kernel_rfl)).symm.trans h1_) (by decide), fun _ h1_ => absurd ((up_self b 18).symm.trans h1_) (by decide), fun _ => blk_put C3b.out 2 _ rfl, fun h0_ => absurd ((hon 3 (by kernel_rfl)).symm.trans h0_) (by decide), fun _ => own_box R0.out C3b.out (by decide), fun _ h1_ => absurd ((hon 3 (by kernel_rfl)).symm.trans h1_) (by decide), fun h0_ => absurd ((hon 7 (by kernel_rfl)).symm.trans h0_) (by decide), fun _ => own_box R1.out C3b.out (by decide), fun _ h1_ => absurd ((hon 7 (by kernel_rfl)).symm.trans h1_) (by decide), fun h0_ => absurd ((hon 12 (by kernel_rfl)).symm.trans h0_) (by decide), fun _ => own_box R2.out C3b.out (by decide), fun _ h1_ => absurd ((hon 12 (by kernel_rfl)).symm.trans h1_) (by decide), fun _ => own_box S3.out C3b.out (by decide), fun j hj => own_box (RO.out j hj) C3b.out (by decide), Q_N0, Q_N1, Q_U01, Q_F03, Q_F13⟩
        exact steps_nil
      · rintro b a w' hall ⟨s0, s1, s2, s3, u0, u1, u2, ha, Q_HB, Q_HS, Q_C2, Q_C3, Q_C3a, Q_C3b, Q_C3c, Q_E0, Q_R0, Q_S0, Q_E1, Q_R1, Q_S1, Q_E2, Q_R2, Q_S2, Q_S3, Q_RO, Q_N0, Q_N1, Q_U01, Q_F03, Q_F13⟩
        clear C2 C3 E0 E1 E2 HB HS RO
        have hb1_ := hall 1 (by kernel_rfl)
        have hb2_ := hall 2 (by kernel_rfl)
        have hb3_ := hall 3 (by kernel_rfl)
        have hb5_ := hall 5 (by kernel_rfl)
        have hb6_ := hall 6 (by kernel_rfl)
        have hb7_ := hall 7 (by kernel_rfl)
        have hb9_ := hall 9 (by kernel_rfl)
        have hb10_ := hall 10 (by kernel_rfl)
        have hb11_ := hall 11 (by kernel_rfl)
        have hb12_ := hall 12 (by kernel_rfl)
        have hb13_ := hall 13 (by kernel_rfl)
        have hb14_ := hall 14 (by kernel_rfl)
        have hb15_ := hall 15 (by kernel_rfl)
        have hb16_ := hall 16 (by kernel_rfl)
        have hb17_ := hall 17 (by kernel_rfl)
        have hb18_ := hall 18 (by kernel_rfl)
        subst ha
        simp only [putSel, hb1_, hb2_, hb3_, hb5_, hb6_, hb7_, hb9_, hb10_, hb11_, hb12_, hb13_, hb14_, hb15_, hb16_, hb17_, hb18_, if_true, Act.put, List.setIfInBounds_toArray, List.set_cons_zero, List.set_cons_succ]
        have HB := Aside0.mk Q_HB
        clear Q_HB
        have HS := Aside0.mk Q_HS
        clear Q_HS
        have C2 := Aside0.mk Q_C2
        clear Q_C2
        clear Q_C3
        clear Q_C3a
        clear Q_C3b
        have C3c := Aside0.mk (Q_C3c hb18_)
        clear Q_C3c
        clear Q_E0
        have R0 := Aside0.mk (Q_R0 hb3_)
        clear Q_R0
        clear Q_S0
        clear Q_E1
        have R1 := Aside0.mk (Q_R1 hb7_)
        clear Q_R1
        clear Q_S1
        clear Q_E2
        have R2 := Aside0.mk (Q_R2 hb12_)
        clear Q_R2
        clear Q_S2
        have S3 := Aside0.mk (Q_S3 hb10_)
        clear Q_S3
        have RO := Aside0.mk Q_RO
        clear Q_RO
        have N0 := Aside0.mk (Q_N0 hb3_)
        clear Q_N0
        have N1 := Aside0.mk (Q_N1 hb7_)
        clear Q_N1
        have U01 := Aside0.mk (Q_U01 hb3_ hb7_)
        clear Q_U01
        have F03 := Aside0.mk (Q_F03 hb3_ hb10_)
        clear Q_F03
        have F13 := Aside0.mk (Q_F13 hb7_ hb10_)
        clear Q_F13
        clear hall hb1_ hb2_ hb3_ hb5_ hb6_ hb7_ hb9_ hb10_ hb11_ hb12_ hb13_ hb14_ hb15_ hb16_ hb17_ hb18_
        have HM2 := Aside0.mk (HMD.out.next HHH.out (by rw [HHH.out]; exact HB0.out.size) R0.out R1.out R2.out S3.out RO.out N0.out N1.out U01.out F03.out F13.out)
        try go_wp2
        go_roundg k1
        case measure => omega
        case rel => exact ⟨i + 1, u0, u1, u2, _, by rw [ew.out]; simp, ⟨by have := HJK.out; omega⟩, HB, C2, C3c, HM2⟩
end Go.Proofs.Ytjcjhmnfknenlaa.Px
