/- A heap of timers with the places of its ids: what lies where, and put. Conditions: none. -/
import Derived.Test.YtakbhnfmimnbhaaProg
import Derived.Test.YtakbhnfmimnbhaaWMore
import Derived.Test.YtakbhnfmimnbhaaWLast
import Derived.WalkKit
import Derived.KernelRfl
import Derived.Deep.Draws
import Derived.Deep.OwnRows
import Derived.Deep.QuietTactic
import Derived.BigQuiet
import Derived.Deep.RegionWith
import Derived.Deep.RegionLaw
import Derived.StillTailTactics
import Derived.Deep.LoopGhost
import Derived.Maps.OwnSet
import Derived.Maps.OwnOps
namespace Go.Proofs.Ytakbhnfmimnbhaa.Tm
open Go.RowKit Go.Proofs.YtakbhnfmimnbhaaW.PrintWords
open Go.Maps (int_keyed keyOf_int_mk)
set_option linter.unusedVariables false
set_option linter.unusedSimpArgs false

/-- Where timers' two cells lie in a block. -/
structure Shp where
  o : Nat
  ty : TypeId
  C : Value → Value → Array Value
  get0 : ∀ v m, (C v m)[o]? = some v
  get1 : ∀ v m, (C v m)[o + 1]? = some m
  set0 : ∀ v m u, (C v m).setIfInBounds o u = C u m
  set1 : ∀ v m u, (C v m).setIfInBounds (o + 1) u = C v u
  ne : ty ≠ 145
def sh0 : Shp where
  o := 0
  ty := 42
  C := fun v m => #[v, m]
  get0 := fun _ _ => rfl
  get1 := fun _ _ => rfl
  set0 := fun _ _ _ => rfl
  set1 := fun _ _ _ => rfl
  ne := by decide
variable {sh : Shp}
/-- Only blocks of S, and new ones, have turned. -/
structure Chg (S : Nat → Prop) (w w' : World) : Prop where
  os : w'.os = w.os
  tape : w'.tape = w.tape
  output : w'.output = w.output
  size : w.heap.size ≤ w'.heap.size
  block : ∀ k, k < w.heap.size → ¬ S k → w'.heap[k]? = w.heap[k]?
section
variable {S : Nat → Prop} {a b c w w' : World}
theorem Chg.refl (S : Nat → Prop) (w : World) : Chg S w w := ⟨rfl, rfl, rfl, Nat.le_refl _, fun _ _ _ => rfl⟩
theorem Chg.drewN (h : Chg S w w') (n : Nat) : Chg S w (w'.drewN n) := ⟨h.os, h.tape, h.output, h.size, h.block⟩
theorem Chg.drew (h : Chg S w w') : Chg S w w'.drew := ⟨h.os, h.tape, h.output, h.size, h.block⟩
theorem Chg.set_ (h : Chg S w w') {p : Addr} (hp : S p.block ∨ w.heap.size ≤ p.block) (u : Value) : Chg S w (w'.setCell p u) :=
  ⟨h.os, h.tape, h.output, by simpa [World.setCell] using h.size, fun k hk hs => (Below.heap_setCell w' p u k (by
    rintro rfl
    rcases hp with hp | hp
    · exact hs hp
    · omega)).trans (h.block k hk hs)⟩
theorem Chg.trans (h : Chg S a b) (k : Chg S b c) : Chg S a c :=
  ⟨k.os.trans h.os, k.tape.trans h.tape, k.output.trans h.output, Nat.le_trans h.size k.size, fun i hi hs => (k.block i (Nat.lt_of_lt_of_le hi h.size) hs).trans (h.block i hi hs)⟩
theorem Chg.of_below (h : Below w.heap.size w w') : Chg S w w' := ⟨h.os, h.tape, h.output, h.size, fun k hk _ => h.block k hk⟩
theorem Chg.below {B : Nat} {w0 : World} (hb : Below B w0 w) (h : Chg S w w') (hB : B ≤ w.heap.size) (hs : ∀ k, S k → B ≤ k) : Below B w0 w' :=
  hb.trans ⟨h.os, h.tape, h.output, h.size, fun k hk => h.block k (by omega) (fun q => by have := hs k q; omega)⟩
theorem Chg.alloc (h : Chg S w w') (o : Obj) : Chg S w (w'.alloc o) :=
  ⟨h.os, h.tape, h.output, Nat.le_trans h.size (by simp), fun k hk hs => (Below.heap_alloc w' o k (Nat.lt_of_lt_of_le hk h.size)).trans (h.block k hk hs)⟩
theorem Chg.grown {row : Option Nat} (h : w.grownBy w' row) (hs : ∀ k, row = some k → S k) : Chg S w w' :=
  ⟨h.os, h.tape, h.output, h.size, fun k hk hn => h.block k hk (fun e => hn (hs k e.symm))⟩
theorem Chg.mono {S' : Nat → Prop} (h : Chg S w w') (hs : ∀ k, S k → S' k) : Chg S' w w' := ⟨h.os, h.tape, h.output, h.size, fun k hk hn => h.block k hk (fun q => hn (hs k q))⟩
end

/-! ### the places of ids -/
abbrev DU := DataW Unit
def zl : DU := .lit (.int .i64 0)
/-- The datum tells p. -/
def Vw (D : DU) (p : Int → Option Int) : Prop :=
  Maps.IsMap D ∧ ∀ k : Int, Maps.has D (.int .i64 k) = (p k).isSome ∧ D.atKey (.int .i64 k) zl = .lit (.int .i64 ((p k).getD 0))
def upd (p : Int → Option Int) (k i : Int) : Int → Option Int := fun j => if j = k then some i else p j
def del (p : Int → Option Int) (k : Int) : Int → Option Int := fun j => if j = k then none else p j
theorem ne_lit {a b : Int} (h : a ≠ b) : (Lit.int .i64 a) ≠ .int .i64 b := fun e => h (by injection e)
theorem Vw.put {D : DU} {p : Int → Option Int} (h : Vw D p) (k i : Int) : Vw (D.put (.int .i64 k) (.lit (.int .i64 i))) (upd p k i) := by
  refine ⟨h.1.put _ _, fun j => ?_⟩
  unfold upd
  by_cases e : j = k
  · subst e
    rw [if_pos rfl, Maps.has_put_same (k := .int .i64 j) h.1 trivial, Maps.atKey_put_same (k := .int .i64 j) h.1 trivial]
    exact ⟨rfl, rfl⟩
  · rw [if_neg e, Maps.has_put_other (ne_lit e), Maps.atKey_put_other (ne_lit e)]
    exact h.2 j
theorem Vw.del {D : DU} {p : Int → Option Int} (h : Vw D p) (k : Int) : Vw (D.del (.int .i64 k)) (Tm.del p k) := by
  refine ⟨h.1.del _, fun j => ?_⟩
  unfold Tm.del
  by_cases e : j = k
  · subst e
    rw [if_pos rfl, Maps.has_del_same, Maps.atKey_del_same]
    exact ⟨rfl, rfl⟩
  · rw [if_neg e, Maps.has_del_other (ne_lit e), Maps.atKey_del_other (ne_lit e)]
    exact h.2 j
theorem Vw.nil : Vw (.map []) (fun _ => none) := by
  refine ⟨Maps.isMap_empty, fun k => ⟨rfl, rfl⟩⟩

theorem wf_iff {x : Int} : (Lit.int .i64 x).wf = true ↔ -9223372036854775808 ≤ x ∧ x ≤ 9223372036854775807 := by
  simp [Lit.wf, IntKind.min, IntKind.max, IntKind.bits, IntKind.signed]
theorem wf_nat {i : Nat} (h : i < 1000000000000) : (Lit.int .i64 (i : Int)).wf = true := wf_iff.2 (by omega)
/-! ### what lies where -/
abbrev pk : Kd (Int × Int) := Kd.pair (Kd.int .i64) (Kd.int .i64)
/-- Block g holds the heap xs (its row v) and the map in block b, which tells p; n: a bound for the map's size. -/
structure T (sh : Shp) (W : World) (base g : Nat) (v : Value) (b n : Nat) (xs : List (Int × Int)) (p : Int → Option Int) : Prop where
  hg : W.heap[g]? = some (.cells (sh.C v (.map (some b))) sh.ty (0, 0))
  hr : pk.R 145 W base (fun k => some k = v.ownBlock) v xs
  hm : ∃ D : DU, W.ownsMap Try.prog 3 (plainElem Try.prog 3) b n D ∧ Vw D p
  gb : base ≤ g
  bb : base ≤ b
/-- The blocks of one. -/
def St (g b : Nat) (v : Value) (k : Nat) : Prop := k = g ∨ k = b ∨ some k = v.ownBlock
section
variable {W W' : World} {base g b n : Nat} {v : Value} {xs : List (Int × Int)} {p : Int → Option Int}
theorem T.b_lt (h : T sh W base g v b n xs p) : b < W.heap.size := by obtain ⟨D, h1, _⟩ := h.hm; exact h1.lt
theorem T.g_lt (h : T sh W base g v b n xs p) : g < W.heap.size := blk_lt h.hg
theorem T.v_lt (h : T sh W base g v b n xs p) : ∀ k, some k = v.ownBlock → k < W.heap.size := fun k hk => Kd.R_lt h.hr k hk.symm
theorem T.v_base (h : T sh W base g v b n xs p) : ∀ k, some k = v.ownBlock → base ≤ k := fun k hk => Kd.R_base h.hr k hk.symm
theorem T.kept {S : Nat → Prop} (h : T sh W base g v b n xs p) (hc : Chg S W W') (hs : ∀ k, St g b v k → ¬ S k) : T sh W' base g v b n xs p := by
  refine ⟨(hc.block g h.g_lt (hs g (.inl rfl))).trans h.hg, Kd.R_step h.hr (fun k hk hlt => hc.block k hlt (hs k (.inr (.inr hk)))), ?_, h.gb, h.bb⟩
  obtain ⟨D, ⟨es, cl, e1, e2⟩, h2⟩ := h.hm
  exact ⟨D, ⟨es, cl, (hc.block b h.b_lt (hs b (.inr (.inl rfl)))).trans e1, e2⟩, h2⟩
theorem T.below (h : T sh W base g v b n xs p) (hb : Below W.heap.size W W') : T sh W' base g v b n xs p := h.kept (S := fun _ => False) (.of_below hb) (fun _ _ q => q)
theorem T.gne (h : T sh W base g v b n xs p) : g ≠ b := by
  intro e
  obtain ⟨D, ⟨es, cl, e1, _⟩, _⟩ := h.hm
  have := h.hg
  rw [e, e1] at this
  cases this
theorem T.vne_b (h : T sh W base g v b n xs p) : ∀ k, some k = v.ownBlock → k ≠ b := by
  rintro k hk rfl
  obtain ⟨D, ⟨es, cl, e1, _⟩, _⟩ := h.hm
  obtain ⟨cells, hc⟩ := Kd.R_typed h.hr k hk.symm
  rw [e1] at hc
  cases hc
theorem T.vne_g (h : T sh W base g v b n xs p) : ∀ k, some k = v.ownBlock → k ≠ g := by
  rintro k hk rfl
  obtain ⟨cells, hc⟩ := Kd.R_typed h.hr k hk.symm
  rw [h.hg] at hc
  injection hc with hc
  injection hc with _ hc
  exact absurd hc sh.ne
theorem T.c0 (h : T sh W base g v b n xs p) : W.cell? ⟨g, sh.o, none⟩ = some v := (blk_cell h.hg sh.o).trans (sh.get0 _ _)
theorem T.c1 (h : T sh W base g v b n xs p) : W.cell? ⟨g, sh.o + 1, none⟩ = some (.map (some b)) := (blk_cell h.hg (sh.o + 1)).trans (sh.get1 _ _)
theorem T.form (h : T sh W base g v b n xs p) : ∃ A c, v = .slice A xs.length c := Kd.R_slice h.hr
theorem T.head (h : T sh W base g v b n xs p) (hp : 0 < xs.length) : ∃ gh c, v = .slice (some ⟨gh, 0, none⟩) xs.length c := by
  obtain ⟨gh, c, e, _⟩ := Kd.R_form h.hr hp
  exact ⟨gh, c, e⟩
/-- Element i. -/
theorem T.len {A : Option Addr} {m c : Nat} (h : T sh W base g (.slice A m c) b n xs p) : m = xs.length := (Kd.R_reads' h.hr).1
theorem T.at {gh c m : Nat} (h : T sh W base g (.slice (some ⟨gh, 0, none⟩) m c) b n xs p) {i : Nat} (hi : i < xs.length) :
    W.cell? ⟨gh, i * 2, none⟩ = some (.int .i64 (xs.getD i (0, 0)).1) ∧ W.cell? ⟨gh, i * 2 + 1, none⟩ = some (.int .i64 (xs.getD i (0, 0)).2) ∧ W.frozen? ⟨gh, i * 2, none⟩ = false ∧ W.frozen? ⟨gh, i * 2 + 1, none⟩ = false := by
  obtain ⟨cs, hcl, ⟨c0, c1, rfl, h0, h1⟩, hcc, hf⟩ := Kd.R_elem h.hr (0, 0) (i : Int) (by omega) (by have := h.len; omega)
  rw [Int.toNat_natCast] at h0 h1 hcc hf
  have h0 : c0 = [.int .i64 (xs.getD i (0, 0)).1] := h0
  have h1 : c1 = [.int .i64 (xs.getD i (0, 0)).2] := h1
  subst h0 h1
  exact ⟨hcc 0 _ rfl, hcc 1 _ rfl, hf 0, hf 1⟩
/-- Element i written. -/
theorem T.set_ {gh c m : Nat} (h : T sh W base g (.slice (some ⟨gh, 0, none⟩) m c) b n xs p) {i : Nat} (hi : i < xs.length) (x y : Int) :
    T sh ((W.setCell ⟨gh, i * 2, none⟩ (.int .i64 x)).setCell ⟨gh, i * 2 + 1, none⟩ (.int .i64 y)) base g (.slice (some ⟨gh, 0, none⟩) m c) b n (xs.set i (x, y)) p := by
  obtain ⟨cs, hcl, hM, hcc, hf⟩ := Kd.R_elem h.hr (0, 0) (i : Int) (by omega) (by have := h.len; omega)
  have hne1 := h.vne_b gh (by simp [Value.ownBlock])
  have hne2 := h.vne_g gh (by simp [Value.ownBlock])
  have q := (Kd.R_seg h.hr (i : Int) (by omega) (by have := h.len; omega) (seg := [.int .i64 x, .int .i64 y]) (j := 0) (x' := (x, y)) (okp := fun _ => False) hcl hcc (Nat.le_refl 2)
    ⟨[.int .i64 x], [.int .i64 y], by
      have hcl : cs.length = 2 := hcl
      simp [List.drop_of_length_le (show cs.length ≤ 2 by omega)], rfl, rfl⟩ (fun _ hk => hk.elim)).1
  rw [Int.toNat_natCast] at q
  have hm := h.hm
  obtain ⟨D, h1, h2⟩ := hm
  refine ⟨blk_far (blk_far h.hg hne2.symm _) hne2.symm _, q, ⟨D, (h1.setCell hne1.symm _).setCell hne1.symm _, h2⟩, h.gb, h.bb⟩
/-- m[k] = i. -/
theorem T.mapUp (h : T sh W base g v b n xs p) {k i : Int} (wk : (Lit.int .i64 k).wf = true) (wi : (Lit.int .i64 i).wf = true) (hn : n < 1000000000000) :
    ∃ w', (Instr.mapUpdate 40 (.map (some b)) (.int .i64 k) (.int .i64 i)).run Try.prog W = .ok () w' ∧ T sh w' base g v b (n + 1) xs (upd p k i) ∧ W.grownBy w' (some b) := by
  obtain ⟨D, h1, h2⟩ := h.hm
  obtain ⟨w', hrun, r1, r2⟩ := h1.update (int_keyed Try.underlying3) Try.underlying40 (by simp only [maxLen]; omega) (keyOf_int_mk Try.underlying3 wk) (plainElem_int Try.underlying3 wi)
  exact ⟨w', hrun, ⟨(r2.block g h.g_lt (by simpa using h.gne)).trans h.hg, Kd.R_grown h.hr r2 (fun k hk e => h.vne_b k hk (by injection e)), ⟨_, r1, h2.put k i⟩, h.gb, h.bb⟩, r2⟩
/-- put. -/
theorem put_any {gh c m : Nat} (h : T sh W base g (.slice (some ⟨gh, 0, none⟩) m c) b n xs p) {i : Nat} (hi : i < xs.length) {at_ id : Int} (wk : (Lit.int .i64 id).wf = true) (hn : n < 1000000000000) (hl : xs.length < 1000000000000) :
    Calls Try.prog 99 #[.pointer (some ⟨g, sh.o, none⟩), .int .i64 (i : Int), .agg #[.int .i64 at_, .int .i64 id]] W fun e w' => e = .returned (.tuple #[]) ∧
      Aside0 (T sh w' base g (.slice (some ⟨gh, 0, none⟩) m c) b (n + 1) (xs.set i (at_, id)) (upd p id (i : Int))) ∧ Chg (St g b (.slice (some ⟨gh, 0, none⟩) m c)) W w' := by
  have hu28 := Try.underlying42
  have hu77 := Try.underlying145
  have HT := Aside0.mk h
  clear h
  go_enter Try.func99, Try.ntmps99
  go_upto_region 1 with ((with_reducible refine gate_dst (N := 5) rfl ?_); refine box_event ?hg (N := 5) ?hd (cs := #[.int .i64 at_, .int .i64 id]) (t := 145) ?hr ?_; (case hd => rfl); (case hg => rfl); (case hr => first | (go_simp; done) | (go_simp; rfl)); intro gx hg w1 hbox hb; have GX := Aside0.mk (show gx = W.heap.size from hg); have HB1 := Aside0.mk hb; have BX := Aside0.mk hbox; clear hb hbox hg)
  have HT1 := Aside0.mk (HT.out.below HB1.out)
  have c0 := HT1.out.c0
  have c1 := HT1.out.c1
  obtain ⟨a0, a1, f0, f1⟩ := HT1.out.at hi
  have x0 : w1.cell? ⟨gx, 0, none⟩ = some (.int .i64 at_) := (blk_cell BX.out 0).trans rfl
  have x1 : w1.cell? ⟨gx, 1, none⟩ = some (.int .i64 id) := (blk_cell BX.out 1).trans rfl
  have e1 : gh ≠ gx := by have := HT.out.v_lt gh (by simp [Value.ownBlock]); have := GX.out; omega
  have e2 : g ≠ gx := by have := HT.out.g_lt; have := GX.out; omega
  have e3 : gh ≠ g := HT.out.vne_g gh (by simp [Value.ownBlock])
  have e1' := e1.symm
  have e2' := e2.symm
  have e3' := e3.symm
  have p1 : ((0 : Int) ≤ (i : Int)) = True := eq_true (by omega)
  have p2 : ((i : Int) < (m : Int)) = True := eq_true (by have := HT1.out.len; omega)
  have CH := Aside0.mk (show Chg (St g b (.slice (some ⟨gh, 0, none⟩) m c)) W w1 from .of_below HB1.out)
  clear HT HB1
  simp only [Act.put, List.setIfInBounds_toArray, List.set_cons_zero, List.set_cons_succ]
  go_cut [5] (fun v5 wc => v5 = .pointer (some ⟨gx, 0, none⟩) ∧ ∃ m', wc = ((w1.setCell ⟨gh, i * 2, none⟩ (.int .i64 at_)).setCell ⟨gh, i * 2 + 1, none⟩ (.int .i64 id)).drewN m')
  case first =>
    go_region_with (fail)
    all_goals
      first | go_meet | (go_step; go_meet) | (go_step; go_step; go_meet)
      case rel => exact ⟨rfl, _, rfl⟩
  case rest =>
    obtain ⟨rfl, m', rfl⟩ := hcut
    have HT2 := Aside0.mk ((HT1.out.set_ hi at_ id).below (pw_below_drewN (Below.refl _ _) m'))
    have CH2 := Aside0.mk (((CH.out.set_ (p := ⟨gh, i * 2, none⟩) (.inl (.inr (.inr (by simp [Value.ownBlock])))) (.int .i64 at_)).set_ (p := ⟨gh, i * 2 + 1, none⟩) (.inl (.inr (.inr (by simp [Value.ownBlock])))) (.int .i64 id)).drewN m')
    have BX2 := Aside0.mk (blk_below (blk_far (blk_far BX.out (p := ⟨gh, i * 2, none⟩) e1' (.int .i64 at_)) (p := ⟨gh, i * 2 + 1, none⟩) e1' (.int .i64 id)) (pw_below_drewN (Below.refl _ _) m'))
    clear HT1 CH BX a0 a1 f0 f1 c0 c1 x0 x1
    generalize ((w1.setCell ⟨gh, i * 2, none⟩ (.int .i64 at_)).setCell ⟨gh, i * 2 + 1, none⟩ (.int .i64 id)).drewN m' = w2 at HT2 CH2 BX2 ⊢
    have c1 := HT2.out.c1
    have x1 : w2.cell? ⟨gx, 1, none⟩ = some (.int .i64 id) := (blk_cell BX2.out 1).trans rfl
    have wi : (Lit.int .i64 (i : Int)).wf = true := wf_nat (by omega)
    obtain ⟨w3, hrun, r1, r2⟩ := (HT2.out.below (below_drew (Below.refl _ _))).mapUp (k := id) (i := (i : Int)) wk wi hn
    have HT3 := Aside0.mk r1
    have CH3 := Aside0.mk (CH2.out.drew.trans (.grown r2 (fun k hk => .inr (.inl (Option.some.inj hk).symm))))
    clear r1 r2 HT2 CH2 BX2
    go_wp2
    go_region_with (fail)
    all_goals
      go_wp2
      refine bodyPost_end (results_none rfl _ _ _) rfl ?_
      exact ⟨rfl, HT3, CH3.out⟩
end
end Go.Proofs.Ytakbhnfmimnbhaa.Tm
