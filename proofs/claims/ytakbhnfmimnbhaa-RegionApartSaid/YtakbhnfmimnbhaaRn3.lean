/- Rows of pairs of whole numbers in memory; append of any cells. Conditions: none. -/
import Derived.Test.YtakbhnfmimnbhaaWMore
import Derived.Test.YtakbhnfmimnbhaaWLast
import Derived.Deep.RegionLaw
import Derived.Maps.AppendAt
import Derived.WalkKit
import Derived.Lib.SliceRun
import Derived.Test.YtakbhnfmimnbhaaProg
import Derived.Deep.LoopGhost
import Derived.Shelf.Abstract
namespace Go.Proofs.Ytakbhnfmimnbhaa.Rn
open Go.RowKit Go.Proofs.YtakbhnfmimnbhaaW.PrintWords Go.Proofs.YtakbhnfmimnbhaaW.PrintLast Go.Proofs.YtakbhnfmimnbhaaW.PrintMore
set_option linter.unusedVariables false
set_option linter.unusedSimpArgs false

/-- m elements of k cells that can be read from A on. -/
def RdC (W : World) (A : Option Addr) (m k : Nat) (ys : List Value) : Prop := ys.length = m * k ∧ (0 < m → ∃ ad, A = some ad ∧ ∀ j u, ys[j]? = some u → W.cell? (ad.add j) = some u)
section
variable {P : Program} {ops : Array Oper} {o : Oper} {a : Act} {Q : Exit → Act → World → Prop} {W w1 : World} {rest : List Oper}
/-- append(v, ys...) for any cells. -/
theorem app_any (base t ty e size bytes : Nat) (z : Value) (ht : P.underlying t = some (.slice e)) (hinfo : (P.info? e).map (fun i => (i.zero, i.size, i.bytes)) = some (some z, size, bytes)) (hz : z.cells.size = size) (hs0 : 0 < size) (hb0 : 0 < bytes)
    (v : Value) (n : Nat) (xs ys : List Value) (A : Option Addr) (m c : Nat) (HO : W.ownsRow base e size v n xs) (HR : RdC W A m size ys) (h1 : ∀ u ∈ ys, u.oneCell' = true) (hbase : base ≤ W.heap.size) (hl : (n + m) * bytes ≤ 140737488355328) (hA : A = none → c = c) :
    ∃ v1 w1, (Builtin.append_ #[t, t] ty #[v, .slice A m c]).run P W = .ok v1 w1 ∧ w1.ownsRow base e size v1 (n + m) (xs ++ ys) ∧ W.grownBy w1 v.ownBlock ∧ (v1.ownBlock = v.ownBlock ∨ v1.ownBlock = some W.heap.size) := by
  obtain ⟨i0, hi, hzz⟩ := Option.map_eq_some_iff.1 hinfo
  simp only [Prod.mk.injEq] at hzz
  obtain ⟨hz0, hz1, hz2⟩ := hzz
  have hlen : n + m ≤ 140737488355328 := Nat.le_trans (Nat.le_mul_of_pos_right _ hb0) hl
  rcases A with _ | ad
  · have h0 : m = 0 := by
      rcases Nat.eq_zero_or_pos m with h0 | h0
      · exact h0
      · obtain ⟨ad, h, _⟩ := HR.2 h0
        cases h
    subst h0
    obtain rfl : ys = [] := List.eq_nil_of_length_eq_zero (by have := HR.1; omega)
    refine ⟨v, W, ?_, by simpa using HO, World.grownBy.refl W _, .inl rfl⟩
    rcases HO.2 with ⟨rfl, hn⟩ | ⟨g, cap, cur, rfl, _, _, hnc, _⟩
    · simp [Builtin.append_, run_underlying ht, sizeOf, typeInfo, hi, Builtin.lenOf, Builtin.firstCells]
    · simp [Builtin.append_, run_underlying ht, sizeOf, typeInfo, hi, Builtin.lenOf, Builtin.firstCells, hnc, storeCells]
  · obtain ⟨v1, w1, hr, hown, hg2, _, hat⟩ := run_append_own_at (P := P) (w := W) base t ty e i0 z size bytes ht hi hz0 hz1 hz2 hz hs0 v n xs HO ad m c ys HR.1 (fun j u hj => by
      rcases Nat.eq_zero_or_pos m with h0 | h0
      · obtain rfl : ys = [] := List.eq_nil_of_length_eq_zero (by rw [HR.1, h0, Nat.zero_mul])
        simp at hj
      · obtain ⟨ad', h, hc⟩ := HR.2 h0
        injection h with h
        subst h
        exact hc j u hj) h1 (by simp only [maxLen]; omega) hl hbase
    exact ⟨v1, w1, hr, hown, hg2, hat⟩
/-- .. its run given, in a region whose order is the text's. -/
theorem list_run (hgd : o.guard = none) (s x : Operand) (t t' : TypeId) (ho : o.op = .call { callee := .builtin .append, args := #[s, x], argTypes := #[t, t'] }) (v y v1 : Value) (hs : a.eval s = v) (hx : a.eval x = y)
    (hr : (Builtin.append_ #[t, t'] o.type #[v, y]).run P W = .ok v1 w1) (h : wpList P ops Q rest (a.put o.dst v1) w1) : wpList P ops Q (o :: rest) a W := by
  refine wpList_plain hgd fun K hK => ?_
  unfold Oper.wp execOp
  simp only [ho, resolve, invoke, builtin, Sem.run_bind, Sem.run_pure, Result.andThen_ok, List.map_toArray, List.map_cons, List.map_nil, hs, hx, hr]
  exact hK _ _ h
/-- .. as one step of a region that draws. -/
theorem step_run {K : Act → World → Prop} (hg : o.guard = none) (s x : Operand) (t t' : TypeId) (ho : o.op = .call { callee := .builtin .append, args := #[s, x], argTypes := #[t, t'] }) (v y v1 : Value) (hs : a.eval s = v) (hx : a.eval x = y)
    (hr : (Builtin.append_ #[t, t'] o.type #[v, y]).run P W = .ok v1 w1) (h : K (a.put o.dst v1) w1) {E : Prop} : if Region.wanted o (yielded ops a.tmps) = true then Oper.wp P o a W K Q else E := by
  have hw : Region.wanted o (yielded ops a.tmps) = true := by simp [Region.wanted, hg]
  rw [if_pos hw]
  unfold Oper.wp execOp
  simp only [ho, resolve, invoke, builtin, Sem.run_bind, Sem.run_pure, Result.andThen_ok, List.map_toArray, List.map_cons, List.map_nil, hs, hx, hr]
  exact h
end
theorem alloc_le (W : World) (o : Obj) : W.heap.size ≤ (W.alloc o).heap.size := by
  show _ ≤ (W.heap.push o).size
  rw [Array.size_push]
  omega
theorem own_fresh (W : World) {base : Nat} (hb : base ≤ W.heap.size) (e k : Nat) (hk : 0 < k) : (W.alloc (.cells #[] e)).ownsRow base e k (.slice (some ⟨W.heap.size, 0, none⟩) 0 0) 0 [] :=
  ⟨by simp, .inr ⟨W.heap.size, 0, #[], rfl, hb, blk_new W _, Nat.le_refl _, by decide, by simp, by simp⟩⟩
theorem own_nil (W : World) (base e k : Nat) : W.ownsRow base e k (.slice none 0 0) 0 [] := ⟨by simp, .inl ⟨rfl, rfl⟩⟩
/-! ### pairs -/
def pcs (l : List (Int × Int)) : List Value := l.flatMap fun p => [.int .i64 p.1, .int .i64 p.2]
theorem pcs_nil : pcs [] = [] := rfl
theorem pcs_cons (p : Int × Int) (l : List (Int × Int)) : pcs (p :: l) = .int .i64 p.1 :: .int .i64 p.2 :: pcs l := rfl
theorem pcs_app (a b : List (Int × Int)) : pcs (a ++ b) = pcs a ++ pcs b := List.flatMap_append
theorem pcs_len (l : List (Int × Int)) : (pcs l).length = l.length * 2 := by
  induction l with
  | nil => rfl
  | cons p l ih => rw [pcs_cons, List.length_cons, List.length_cons, List.length_cons, ih]; omega
theorem pcs_one (l : List (Int × Int)) : ∀ u ∈ pcs l, u.oneCell' = true := by
  intro u hu
  unfold pcs at hu
  obtain ⟨p, _, hu⟩ := List.mem_flatMap.1 hu
  simp only [List.mem_cons, List.not_mem_nil, or_false] at hu
  rcases hu with rfl | rfl <;> rfl
theorem pcs_get (l : List (Int × Int)) : ∀ j, j < l.length → (pcs l)[j * 2]? = some (.int .i64 (l.getD j (0, 0)).1) ∧ (pcs l)[j * 2 + 1]? = some (.int .i64 (l.getD j (0, 0)).2) := by
  induction l with
  | nil => intro j hj; simp at hj
  | cons p l ih =>
    intro j hj
    rw [pcs_cons]
    cases j with
    | zero => exact ⟨rfl, rfl⟩
    | succ j =>
      have h := ih j (by simpa using hj)
      rw [show (j + 1) * 2 = j * 2 + 1 + 1 by omega]
      exact ⟨by simpa using h.1, by simpa using h.2⟩
/-- A row of pairs of one's own (at base b or behind it). -/
def PR (W : World) (b : Nat) (v : Value) (l : List (Int × Int)) : Prop := W.ownsRow b 33 2 v l.length (pcs l)
section
variable {W W' : World} {b : Nat} {v : Value} {l : List (Int × Int)}
theorem PR.below (h : PR W b v l) (hb : Below W.heap.size W W') : PR W' b v l := pw_own_below h hb
theorem PR.weaken {b' : Nat} (h : PR W b v l) (hb : b' ≤ b) : PR W b' v l := own_weaken h hb
theorem PR.nil (W : World) (b : Nat) : PR W b (.slice none 0 0) [] := own_nil W b _ _
theorem PR.open (h : PR W b v l) : ∃ A c, v = .slice A l.length c ∧ ((A = none ∧ c = 0 ∧ l = []) ∨ ∃ g, A = some ⟨g, 0, none⟩ ∧ l.length ≤ c) := by
  rcases h.2 with ⟨rfl, hn⟩ | ⟨g, cap, cur, rfl, _, hh, hn, _⟩
  · exact ⟨none, 0, by rw [hn], .inl ⟨rfl, rfl, List.eq_nil_of_length_eq_zero hn⟩⟩
  · exact ⟨_, _, rfl, .inr ⟨g, rfl, hn⟩⟩
theorem PR.at {g c : Nat} (h : PR W b (.slice (some ⟨g, 0, none⟩) l.length c) l) {j : Nat} (hj : j < l.length) : W.cell? ⟨g, j * 2, none⟩ = some (.int .i64 (l.getD j (0, 0)).1) ∧ W.cell? ⟨g, j * 2 + 1, none⟩ = some (.int .i64 (l.getD j (0, 0)).2) := by
  have hg := pcs_get l j hj
  have h1 := h.cells (g := g) rfl (j * 2) _ hg.1
  have h2 := h.cells (g := g) rfl (j * 2 + 1) _ hg.2
  rw [add_plain] at h1 h2
  exact ⟨h1, h2⟩
theorem PR.frozen {g c n : Nat} (h : PR W b (.slice (some ⟨g, 0, none⟩) n c) l) (i : Nat) : W.frozen? ⟨g, i, none⟩ = false := by
  rcases h.2 with ⟨h', _⟩ | ⟨g', cap', cur, h', _, hh, _⟩
  · cases h'
  · injection h' with h1
    injection h1 with h1
    injection h1 with h1
    subst h1
    exact blk_frozen hh i
theorem PR.rd {A : Option Addr} {n c : Nat} (h : PR W b (.slice A n c) l) : RdC W A l.length 2 (pcs l) := by
  refine ⟨pcs_len l, fun hn => ?_⟩
  rcases h.2 with ⟨h', hz⟩ | ⟨g, cap, cur, h', _⟩
  · omega
  · injection h' with h1 h2 h3
    subst h1
    subst h2
    subst h3
    exact ⟨_, rfl, fun j u hu => by
      have h1 := h.cells (g := g) rfl j u hu
      exact h1⟩
theorem PR.n {A : Option Addr} {n c : Nat} (h : PR W b (.slice A n c) l) : n = l.length := by
  obtain ⟨A', c', h', _⟩ := h.open
  injection h'
end
/-- Where an object stands first. -/
def fnd (l : List (Int × Int)) (o : Int) : Option Nat := l.findIdx? fun p => p.1 == o
def plc : Option Nat → Int
  | none => -1
  | some i => (i : Int)
theorem fnd_none {l : List (Int × Int)} {o : Int} (h : ∀ j, j < l.length → (l.getD j (0, 0)).1 ≠ o) : fnd l o = none := by
  unfold fnd
  rw [List.findIdx?_eq_none_iff]
  intro p hp
  obtain ⟨j, hj, rfl⟩ := List.mem_iff_getElem.1 hp
  have := h j hj
  rw [List.getD_eq_getElem?_getD, List.getElem?_eq_getElem hj] at this
  simpa using this
theorem fnd_some {l : List (Int × Int)} {o : Int} {i : Nat} (hi : i < l.length) (he : (l.getD i (0, 0)).1 = o) (h : ∀ j, j < i → (l.getD j (0, 0)).1 ≠ o) : fnd l o = some i := by
  unfold fnd
  rw [List.findIdx?_eq_some_iff_getElem]
  refine ⟨hi, ?_, fun j hj => ?_⟩
  · rw [List.getD_eq_getElem?_getD, List.getElem?_eq_getElem hi] at he
    simpa using he
  · have := h j hj
    rw [List.getD_eq_getElem?_getD, List.getElem?_eq_getElem (by omega)] at this
    simpa using this
theorem fnd_lt {l : List (Int × Int)} {o : Int} {i : Nat} (h : fnd l o = some i) : i < l.length ∧ (l.getD i (0, 0)).1 = o := by
  unfold fnd at h
  rw [List.findIdx?_eq_some_iff_getElem] at h
  obtain ⟨hi, h1, _⟩ := h
  refine ⟨hi, ?_⟩
  rw [List.getD_eq_getElem?_getD, List.getElem?_eq_getElem hi]
  simpa using h1
end Go.Proofs.Ytakbhnfmimnbhaa.Rn
namespace Go.Proofs.Ytakbhnfmimnbhaa.Rn
open Go.RowKit Go.Proofs.YtakbhnfmimnbhaaW.PrintWords Go.Proofs.YtakbhnfmimnbhaaW.PrintLast Go.Proofs.YtakbhnfmimnbhaaW.PrintMore
set_option linter.unusedVariables false
set_option linter.unusedSimpArgs false

theorem pred_any (W : World) (b : Nat) (x y o : Int) (hc : W.cell? ⟨b, 0, none⟩ = some (.int .i64 o)) : Calls Try.prog 82 #[.agg #[.int .i64 x, .int .i64 y], .pointer (some ⟨b, 0, none⟩)] W fun e w' => e = .returned (.bool (x == o)) ∧ Below W.heap.size W w' := by
  have hu33 := Try.underlying33
  go_enter Try.func82, Try.ntmps82
  go_upto_region 1 with (((with_reducible refine gate_dst (N := 2) rfl ?_); refine box_event ?hg (N := 2) ?hd (cs := #[.int .i64 x, .int .i64 y]) (t := 33) ?hr ?_; (case hd => rfl); (case hg => rfl); (case hr => first | (go_simp; done) | (go_simp; rfl)); intro g hg w1 hbox hb; have HB := Aside0.mk hb; have X := Aside0.mk hbox; clear hbox hb hg))
  have z0 : w1.cell? ⟨g, 0, none⟩ = some (.int .i64 x) := (blk_cell X.out 0).trans rfl
  have z1 : w1.cell? ⟨b, 0, none⟩ = some (.int .i64 o) := (HB.out.cell (World.block_lt_of_cell? _ _ hc)).trans hc
  clear hc
  go_wp2
  go_ret
  exact ⟨rfl, HB.out⟩
set_option maxHeartbeats 4000000 in
theorem idx_any {W : World} {v : Value} {l : List (Int × Int)} {b0 b : Nat} {o : Int} (hr : PR W b0 v l) (hl : l.length ≤ 1000000) (hc : W.cell? ⟨b, 0, none⟩ = some (.int .i64 o)) : Calls Try.prog 81 #[v, .func (.func 82) #[] #[.pointer (some ⟨b, 0, none⟩)]] W fun e w' => e = .returned (.int .i64 (plc (fnd l o))) ∧ Below W.heap.size W w' := by
  have eg := enters_of Try.func82 (by kernel_rfl) rfl
  have hu33 := Try.underlying33
  have hu30 := Try.underlying30
  have HR := Aside0.mk hr
  obtain ⟨A, c, rfl, ho⟩ := hr.open
  have HO := Aside0.mk ho
  have HC := Aside0.mk hc
  obtain ⟨n, hn⟩ : ∃ n, n = l.length := ⟨_, rfl⟩
  rw [← hn] at HR ⊢
  have HN := Aside0.mk hn
  have HL := Aside0.mk hl
  clear hr ho hc hn hl
  go_enter Try.func81, Try.ntmps81
  go_wp2
  go_loopg [5, 8] n (fun kq _ v8 w' => ∃ (i : Nat), v8 = .int .i64 (i : Int) ∧ Aside0 (i + kq = n) ∧ Aside0 (Below W.heap.size W w') ∧ Aside0 (∀ j, j < i → (l.getD j (0, 0)).1 ≠ o))
  case atStart => exact ⟨0, rfl, ⟨by omega⟩, ⟨Below.refl _ _⟩, ⟨fun j hj => by omega⟩⟩
  case round =>
    obtain ⟨i, rfl, HI, HB, HF⟩ := hrel
    rcases gk with _ | k1
    · have d1 : decide ((i : Int) < (n : Int)) = false := decide_eq_false (by have := HI.out; omega)
      have d2 : decide (i < n) = false := decide_eq_false (by have := HI.out; omega)
      go_wp2
      go_ret
      refine ⟨?_, HB.out⟩
      rw [fnd_none (fun j hj => HF.out j (by have := HI.out; have := HN.out; omega))]
      rfl
    · have hil : i < n := by have := HI.out; omega
      have HIL := Aside0.mk (show i < l.length from by rw [← HN.out]; exact hil)
      have d1 : decide ((i : Int) < (n : Int)) = true := decide_eq_true (by omega)
      have d2 : decide (i < n) = true := decide_eq_true hil
      have q1 : (0 ≤ (i : Int)) = True := eq_true (by omega)
      have q2 : ((i : Int) < (n : Int)) = True := eq_true (by omega)
      clear hil
      obtain ⟨g, hg⟩ : ∃ g, A = some ⟨g, 0, none⟩ := by
        rcases HO.out with ⟨_, _, h⟩ | ⟨g, h, _⟩
        · have := HIL.out; rw [h] at this; simp at this
        · exact ⟨g, h⟩
      subst hg
      have hat := (show PR wr b0 (.slice (some ⟨g, 0, none⟩) l.length c) l from by rw [← HN.out]; exact HR.out.below HB.out).at HIL.out
      have y0 := hat.1
      have y1 := hat.2
      have HCW := Aside0.mk (show wr.cell? ⟨b, 0, none⟩ = some (.int .i64 o) from (HB.out.cell (World.block_lt_of_cell? _ _ HC.out)).trans HC.out)
      clear hat
      have ew : Aside0 (wrap64 ((i : Int) + 1) = (i : Int) + 1) := ⟨by have h2 := HIL.out; have h3 := HL.out; unfold wrap64; omega⟩
      by_cases he : (l.getD i (0, 0)).1 = o
      · have HE := Aside0.mk (fnd_some HIL.out he HF.out)
        have d3 : ((l.getD i (0, 0)).1 == o) = true := beq_iff_eq.2 he
        clear he
        generalize (l.getD i (0, 0)).1 = x at *
        generalize (l.getD i (0, 0)).2 = y at *
        go_wp2_with (fail)
        refine (pred_any _ b x y o HCW.out).mono ?_
        rw [d3]
        rintro e w2 ⟨rfl, hb⟩
        have HB2 := Aside0.mk (below_step HB.out hb)
        clear hb
        go_wp2
        go_ret
        exact ⟨by rw [HE.out]; rfl, HB2.out⟩
      · have HF2 := Aside0.mk (show ∀ j, j < i + 1 → (l.getD j (0, 0)).1 ≠ o from fun j hj => by
          by_cases e : j = i
          · rw [e]; exact he
          · exact HF.out j (by omega))
        have d3 : ((l.getD i (0, 0)).1 == o) = false := beq_eq_false_iff_ne.2 he
        clear he HF
        generalize (l.getD i (0, 0)).1 = x at y0 y1 d3
        generalize (l.getD i (0, 0)).2 = y at y0 y1
        go_wp2_with (fail)
        refine (pred_any _ b x y o HCW.out).mono ?_
        rw [d3]
        rintro e w2 ⟨rfl, hb⟩
        have HB2 := Aside0.mk (below_step HB.out hb)
        clear hb
        go_wp2
        go_roundg k1
        case measure => omega
        case rel => exact ⟨i + 1, by rw [ew.out]; simp, ⟨by have := HI.out; omega⟩, HB2, HF2⟩
theorem find_any {W : World} {v : Value} {l : List (Int × Int)} {b0 : Nat} {o : Int} (hr : PR W b0 v l) (hl : l.length ≤ 1000000) : Calls Try.prog 49 #[v, .int .i64 o] W fun e w' => e = .returned (.int .i64 (plc (fnd l o))) ∧ Below W.heap.size W w' := by
  have HR := Aside0.mk hr
  have HL := Aside0.mk hl
  clear hr hl
  go_enter Try.func49, Try.ntmps49
  go_upto_region 1 with (((with_reducible refine gate_dst (N := 3) rfl ?_); refine box_event ?hg (N := 3) ?hd (cs := #[.int .i64 o]) (t := 3) ?hr ?_; (case hd => rfl); (case hg => rfl); (case hr => first | (go_simp; done) | (go_simp; rfl)); intro g hg w1 hbox hb; have HB := Aside0.mk hb; have X := Aside0.mk hbox; clear hbox hb hg))
  go_wp2_with (go_at_call 81; (refine (idx_any (HR.out.below HB.out) HL.out ((blk_cell X.out 0).trans rfl)).mono ?_); rintro e w2 ⟨rfl, hb⟩; have HB2 := Aside0.mk (below_step HB.out hb); clear hb)
  go_ret
  exact ⟨rfl, HB2.out⟩
end Go.Proofs.Ytakbhnfmimnbhaa.Rn
namespace Go.Proofs.Ytakbhnfmimnbhaa.Rn
open Go.RowKit Go.Proofs.YtakbhnfmimnbhaaW.PrintWords Go.Proofs.YtakbhnfmimnbhaaW.PrintLast Go.Proofs.YtakbhnfmimnbhaaW.PrintMore
set_option linter.unusedVariables false
set_option linter.unusedSimpArgs false

/-- Only blocks of S, and new ones, have turned. -/
structure Chg (S : Nat → Prop) (w w' : World) : Prop where
  os : w'.os = w.os
  tape : w'.tape = w.tape
  output : w'.output = w.output
  size : w.heap.size ≤ w'.heap.size
  block : ∀ k, k < w.heap.size → ¬ S k → w'.heap[k]? = w.heap[k]?
theorem Chg.refl (S : Nat → Prop) (w : World) : Chg S w w := ⟨rfl, rfl, rfl, Nat.le_refl _, fun _ _ _ => rfl⟩
theorem Chg.set_ {S : Nat → Prop} {w w' : World} (h : Chg S w w') {p : Addr} (hp : S p.block ∨ w.heap.size ≤ p.block) (u : Value) : Chg S w (w'.setCell p u) :=
  ⟨h.os, h.tape, h.output, by simpa [World.setCell] using h.size, fun k hk hs => (Below.heap_setCell w' p u k (by
    rintro rfl
    rcases hp with hp | hp
    · exact hs hp
    · omega)).trans (h.block k hk hs)⟩
theorem Chg.trans {S : Nat → Prop} {a b c : World} (h : Chg S a b) (k : Chg S b c) : Chg S a c :=
  ⟨k.os.trans h.os, k.tape.trans h.tape, k.output.trans h.output, Nat.le_trans h.size k.size, fun i hi hs => (k.block i (Nat.lt_of_lt_of_le hi h.size) hs).trans (h.block i hi hs)⟩
theorem Chg.of_below {S : Nat → Prop} {w w' : World} (h : Below w.heap.size w w') : Chg S w w' := ⟨h.os, h.tape, h.output, h.size, fun k hk _ => h.block k hk⟩
theorem Chg.below {S : Nat → Prop} {B : Nat} {w0 w w' : World} (hb : Below B w0 w) (h : Chg S w w') (hB : B ≤ w.heap.size) (hs : ∀ k, S k → B ≤ k) : Below B w0 w' :=
  hb.trans ⟨h.os, h.tape, h.output, h.size, fun k hk => h.block k (by omega) (fun q => by have := hs k q; omega)⟩
theorem Chg.grown {S : Nat → Prop} {a b c : World} {row : Option Nat} (h : Chg S a b) (hg : b.grownBy c row) (hs : ∀ k, row = some k → S k ∨ a.heap.size ≤ k) : Chg S a c :=
  ⟨hg.os.trans h.os, hg.tape.trans h.tape, hg.output.trans h.output, Nat.le_trans h.size hg.size, fun k hk hn => (hg.block k (Nat.lt_of_lt_of_le hk h.size) (fun q => by
    rcases hs k q.symm with z | z
    · exact hn z
    · omega)).trans (h.block k hk hn)⟩
theorem Chg.alloc {S : Nat → Prop} {w w' : World} (h : Chg S w w') (o : Obj) : Chg S w (w'.alloc o) :=
  ⟨h.os, h.tape, h.output, Nat.le_trans h.size (by simp), fun k hk hs => (Below.heap_alloc w' o k (Nat.lt_of_lt_of_le hk h.size)).trans (h.block k hk hs)⟩
def Ow (S : Nat → Prop) (v : Value) : Prop := ∀ k, v.ownBlock = some k → S k
theorem own_chg {S : Nat → Prop} {W W' : World} {b n e k : Nat} {v : Value} {xs : List Value} (h : W.ownsRow b e k v n xs) (hc : Chg S W W') (hv : ∀ k, v.ownBlock = some k → ¬ S k) : W'.ownsRow b e k v n xs :=
  own_move h (fun q hq => hc.block q (own_lt h q hq) (hv q hq))
/-- What a log tells: its frames (n of them, their cells), number, aborts, what cells were, what was got. -/
structure La where
  n : Nat
  fx : List Value
  nm : Int
  ab : Int
  u : List (Int × Int)
  go : List (Int × Int)
structure Lg (S : Nat → Prop) (W : World) (g : Nat) (vf vu vg : Value) (A : La) : Prop where
  hg : W.heap[g]? = some (.cells #[vf, .int .i64 A.nm, .int .i64 A.ab, vu, vg] 104 (0, 0))
  fr : W.ownsRow 0 110 27 vf A.n A.fx
  f1 : ∀ x ∈ A.fx, x.oneCell' = true
  un : PR W 0 vu A.u
  gt : PR W 0 vg A.go
  ap : ∀ k, vu.ownBlock = some k → vg.ownBlock ≠ some k
  s : S g ∧ Ow S vu ∧ Ow S vg ∧ Ow S vf
def Log (S : Nat → Prop) (W : World) (g : Nat) (A : La) : Prop := ∃ vf vu vg, Lg S W g vf vu vg A
section
variable {S T : Nat → Prop} {W W' : World} {g : Nat} {vf vu vg : Value} {A : La}
theorem Lg.below (h : Lg S W g vf vu vg A) (hb : Below W.heap.size W W') : Lg S W' g vf vu vg A :=
  ⟨blk_below h.hg hb, pw_own_below h.fr hb, h.f1, h.un.below hb, h.gt.below hb, h.ap, h.s⟩
theorem Lg.mono (h : Lg S W g vf vu vg A) (hs : ∀ k, S k → T k) : Lg T W g vf vu vg A :=
  ⟨h.hg, h.fr, h.f1, h.un, h.gt, h.ap, hs _ h.s.1, fun k hk => hs _ (h.s.2.1 k hk), fun k hk => hs _ (h.s.2.2.1 k hk), fun k hk => hs _ (h.s.2.2.2 k hk)⟩
theorem Lg.kept (h : Lg S W g vf vu vg A) (hc : Chg T W W') (hT : ∀ k, T k → ¬ S k) : Lg S W' g vf vu vg A :=
  ⟨(hc.block g (blk_lt h.hg) (fun z => hT _ z h.s.1)).trans h.hg, own_chg h.fr hc (fun k hk z => hT _ z (h.s.2.2.2 k hk)), h.f1, own_chg h.un hc (fun k hk z => hT _ z (h.s.2.1 k hk)), own_chg h.gt hc (fun k hk z => hT _ z (h.s.2.2.1 k hk)), h.ap, h.s⟩
theorem Lg.ne (h : Lg S W g vf vu vg A) : some g ≠ vu.ownBlock ∧ some g ≠ vg.ownBlock ∧ some g ≠ vf.ownBlock := ⟨own_ne h.un h.hg (by decide), own_ne h.gt h.hg (by decide), own_ne h.fr h.hg (by decide)⟩
theorem Lg.cut (h : Lg S W g vf vu vg A) : Lg (fun k => S k ∧ k < W.heap.size) W g vf vu vg A :=
  ⟨h.hg, h.fr, h.f1, h.un, h.gt, h.ap, ⟨h.s.1, blk_lt h.hg⟩, fun k hk => ⟨h.s.2.1 k hk, own_lt h.un k hk⟩, fun k hk => ⟨h.s.2.2.1 k hk, own_lt h.gt k hk⟩, fun k hk => ⟨h.s.2.2.2 k hk, own_lt h.fr k hk⟩⟩
end
theorem info33 : (Try.prog.info? 33).map (fun i => (i.zero, i.size, i.bytes)) = some (some (.agg #[.int .i64 0, .int .i64 0]), 2, 16) := by kernel_rfl
theorem info110 : (Try.prog.info? 110).map (fun i => (i.size, i.bytes)) = some (27, 216) := by kernel_rfl
def z110 : Value := .agg #[.int .i64 0, .int .i64 0, .int .i64 0, .int .i64 0, .int .i64 0, .int .i64 0, .int .i64 0, .int .i64 0, .int .i64 0, .int .i64 0, .int .i64 0, .int .i64 0, .int .i64 0, .int .i64 0, .int .i64 0, .int .i64 0, .int .i64 0, .int .i64 0, .int .i64 0, .int .i64 0, .int .i64 0, .int .i64 0, .int .i64 0, .int .i64 0, .int .i64 0, .int .i64 0, .int .i64 0]
theorem info110z : (Try.prog.info? 110).map (fun i => (i.zero, i.size, i.bytes)) = some (some z110, 27, 216) := by kernel_rfl
def wrA (A : La) (c x : Int) : La := { A with u := if (fnd A.u c).isNone = true then A.u ++ [(c, x)] else A.u }
section
variable {S : Nat → Prop} {W : World} {g : Nat} {vf vu vg : Value} {A : La}
set_option maxHeartbeats 4000000 in
theorem wrote_any (h : Lg S W g vf vu vg A) (hl : A.u.length ≤ 1000) (c x : Int) : Calls Try.prog 10 #[.pointer (some ⟨g, 0, none⟩), .int .i64 c, .int .i64 x] W fun e w' => e = .returned (.tuple #[]) ∧ Log (fun k => S k ∨ W.heap.size ≤ k) w' g (wrA A c x) ∧ Chg S W w' := by
  have hu33 := Try.underlying33
  have hu30 := Try.underlying30
  have HA := Aside0.mk h
  have HL := Aside0.mk hl
  clear h hl
  have y3 : W.cell? ⟨g, 3, none⟩ = some vu := (blk_cell HA.out.hg 3).trans rfl
  cases hf : fnd A.u c with
  | some i =>
    have d3 : decide (plc (some i) < 0) = false := decide_eq_false (by simp [plc])
    have HW := Aside0.mk (show wrA A c x = A from by unfold wrA; rw [hf]; rfl)
    rw [HW.out]
    have HF := Aside0.mk hf
    clear hf
    generalize hp : plc (some i) = p at d3
    have HP := Aside0.mk hp
    clear hp
    go_enter Try.func10, Try.ntmps10
    go_wp2_with (go_at_call 49; (refine (find_any HA.out.un (Nat.le_trans HL.out (by decide))).mono ?_); rw [HF.out, HP.out]; rintro e w1 ⟨rfl, hb⟩; have HB := Aside0.mk hb; clear hb)
    refine bodyPost_end (results_none rfl _ _ _) rfl ?_
    exact ⟨rfl, ⟨vf, vu, vg, (HA.out.below HB.out).mono (fun k hk => .inl hk)⟩, Chg.of_below HB.out⟩
  | none =>
    have d3 : decide (plc none < 0) = true := decide_eq_true (by decide)
    have HF := Aside0.mk hf
    have HW := Aside0.mk (show wrA A c x = { A with u := A.u ++ [(c, x)] } from by unfold wrA; rw [hf]; rfl)
    rw [HW.out]
    clear hf
    generalize hp : plc none = p at d3
    have HP := Aside0.mk hp
    clear hp
    go_enter Try.func10, Try.ntmps10
    go_upto_region 1 with (go_at_call 49; (refine (find_any HA.out.un (Nat.le_trans HL.out (by decide))).mono ?_); rw [HF.out, HP.out]; rintro e w1 ⟨rfl, hb⟩; have HB := Aside0.mk hb; clear hb)
    have HA1 := Aside0.mk (HA.out.below HB.out)
    clear y3 d3
    have y3 : w1.cell? ⟨g, 3, none⟩ = some vu := (blk_cell HA1.out.hg 3).trans rfl
    obtain ⟨v1, w9, hr, hown, hg9, hat⟩ := app_any (P := Try.prog) (W := w1.alloc (.cells #[.int .i64 c, .int .i64 x] 33)) 0 30 30 33 2 16 (.agg #[.int .i64 0, .int .i64 0]) Try.underlying30 info33 rfl (by decide) (by decide) vu A.u.length (pcs A.u) (pcs [(c, x)]) (some ⟨w1.heap.size, 0, none⟩) 1 1 (own_alloc HA1.out.un _)
      ⟨rfl, fun _ => ⟨_, rfl, fun j q hj => by rw [add_plain]; exact (blk_cell (blk_new w1 _) j).trans (by rw [List.getElem?_toArray]; exact hj)⟩⟩ (pcs_one _) (Nat.zero_le _) (by have := HL.out; omega) (fun _ => rfl)
    obtain ⟨A9, c9, rfl⟩ := own_slice hown
    have HO := Aside0.mk hown
    have HG := Aside0.mk hg9
    have HT := Aside0.mk hat
    have HA2 := Aside0.mk (HA1.out.below (below_alloc (Below.refl _ _) (.cells #[.int .i64 c, .int .i64 x] 33)))
    have HX := Aside0.mk (show w9.heap[g]? = some (.cells #[vf, .int .i64 A.nm, .int .i64 A.ab, vu, vg] 104 (0, 0)) from (hg9.block g (blk_lt HA2.out.hg) HA2.out.ne.1).trans HA2.out.hg)
    have cz : w9.cell? ⟨g, 3, none⟩ = some vu := (blk_cell HX.out 3).trans rfl
    have fz := blk_frozen HX.out 3
    clear hown hg9 hat
    go_wp2_with (at_builtin; refine list_run rfl (.tmp 21) (.tmp 25) 30 30 rfl _ _ (.slice A9 (A.u.length + 1) c9) rfl rfl hr ?_)
    refine bodyPost_end (results_none rfl _ _ _) rfl ?_
    have hsz : W.heap.size ≤ w1.heap.size := HB.out.size
    have hlt := HA2.out
    have hnew : ∀ k, (Value.slice A9 (A.u.length + 1) c9).ownBlock = some k → S k ∨ W.heap.size ≤ k := fun k hk => by
      rcases HT.out with q | q
      · exact .inl (HA.out.s.2.1 k (q ▸ hk))
      · rw [q] at hk
        injection hk with hk
        have := alloc_le w1 (.cells #[.int .i64 c, .int .i64 x] 33)
        exact .inr (by omega)
    have hne : some g ≠ (Value.slice A9 (A.u.length + 1) c9).ownBlock := own_ne HO.out HX.out (by decide)
    have hb0 : W.heap.size ≤ w9.heap.size := Nat.le_trans hsz (Nat.le_trans (alloc_le _ _) HG.out.size)
    refine ⟨rfl, ⟨vf, .slice A9 (A.u.length + 1) c9, vg, blk_put HX.out 3 _ rfl, ?_, HA.out.f1, ?_, ?_, fun k hk => ?_, .inl HA.out.s.1, hnew, fun k hk => .inl (HA.out.s.2.2.1 k hk), fun k hk => .inl (HA.out.s.2.2.2 k hk)⟩, ?_⟩
    · exact own_setCell (own_other hlt.fr HG.out (own_type_ne hlt.fr hlt.un (by decide))) (own_ne (own_other hlt.fr HG.out (own_type_ne hlt.fr hlt.un (by decide))) HX.out (by decide)) _
    · have e : pcs (A.u ++ [(c, x)]) = pcs A.u ++ pcs [(c, x)] := pcs_app _ _
      unfold PR
      rw [e, List.length_append]
      exact own_setCell HO.out hne _
    · have h1 : PR w9 0 vg A.go := own_other hlt.gt HG.out (by
        cases hv : vg.ownBlock with
        | none => exact .inl rfl
        | some k => exact .inr (fun q => hlt.ap k q.symm hv))
      exact own_setCell h1 (own_ne h1 HX.out (by decide)) _
    · rcases HT.out with q | q
      · exact HA.out.ap k (q ▸ hk)
      · intro hv
        rw [q] at hk
        injection hk with hk
        have := own_lt hlt.gt k hv
        omega
    · exact ((((Chg.of_below HB.out).alloc _).grown HG.out (fun k hk => .inl (HA.out.s.2.1 k hk))).set_ (.inl HA.out.s.1) _)
end
end Go.Proofs.Ytakbhnfmimnbhaa.Rn
