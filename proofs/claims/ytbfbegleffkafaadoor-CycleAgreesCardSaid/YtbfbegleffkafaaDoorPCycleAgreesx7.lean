/- Go functions as plain Lean functions, and that the calls come to them. Conditions: none. (Written by a program of this session.) -/
import Derived.Test.YtbfbegleffkafaaDoorPCycleAgreesx0
import Derived.Test.YtbfbegleffkafaaDoorPCycleAgreesx6
namespace Go.Proofs.YtbfbegleffkafaaDoor.PCycleAgrees
open Go.RowKit Go.Proofs.YtbfbegleffkafaaDoorW.PrintWords Go.Proofs.YtbfbegleffkafaaDoorW.PrintLast Go.Proofs.YtbfbegleffkafaaDoorW.PrintMore
attribute [local go_sem] max2_int min2_int max_two min_two max_three min_three max_four min_four   -- for this text's walks alone
set_option linter.unusedVariables false
set_option linter.unusedSimpArgs false

/-! ### graph_met: function 64 -/
-- by hand
open Ch (Chg)
namespace Gm
/-- A term comes. -/
def c (k : Nat) (free : Int) (m : S66) : Bool := graph_comes.f k m.f0 m.f1 free == some true
def D (k : Nat) (free : Int) (m : S66) : Bool := (graph_comes.f k m.f0 m.f1 free).isSome
theorem c_f {k : Nat} {free : Int} {m : S66} (h : D k free m = true) : graph_comes.f k m.f0 m.f1 free = some (c k free m) := by
  unfold D at h
  unfold c
  cases e : graph_comes.f k m.f0 m.f1 free with
  | none => rw [e] at h; cases h
  | some b => cases b <;> rfl
def place : Option Nat → Int
  | none => -1
  | some i => (i : Int)
theorem place_ge (o : Option Nat) : decide (place o ≥ 0) = o.isSome := by
  cases o with
  | none => rfl
  | some i => exact decide_eq_true (by show (0 : Int) ≤ (i : Int); omega)
/-- The first that fails. -/
def fst {α : Type} (p : α → Bool) : List α → Option Nat
  | [] => none
  | u :: l => if p u = true then some 0 else (fst p l).map (· + 1)
theorem fst_some {α : Type} (p : α → Bool) (l : List α) : (fst p l).isSome = l.any p := by
  induction l with
  | nil => rfl
  | cons a l ih =>
    simp only [fst, List.any_cons]
    cases e : p a
    · simp [ih]
    · simp
theorem fst_drop {α : Type} (p : α → Bool) (z : α) (l : List α) (i : Nat) (h : ∀ j, j < i → p (l.getD j z) = false) (hi : i ≤ l.length) : fst p l = (fst p (l.drop i)).map (· + i) := by
  induction l generalizing i with
  | nil => cases i <;> simp [fst]
  | cons u l ih =>
    cases i with
    | zero => simp
    | succ i =>
      have h0 := h 0 (by omega)
      have h0' : p u = false := by simpa using h0
      simp only [fst, h0', List.drop_succ_cons]
      rw [if_neg (by decide), ih i (fun j hj => by have := h (j + 1) (by omega); simpa using this) (by simpa using hi), Option.map_map]
      congr 1
theorem fst_hit {α : Type} {p : α → Bool} {z : α} {l : List α} {i : Nat} (h : ∀ j, j < i → p (l.getD j z) = false) (hi : i < l.length) (c : p (l.getD i z) = true) : fst p l = some i := by
  rw [fst_drop p z l i h (by omega), List.drop_eq_getElem_cons hi]
  have : l[i] = l.getD i z := by rw [List.getD_eq_getElem?_getD, List.getElem?_eq_getElem hi]; rfl
  simp only [fst, this, c, if_true, Option.map_some, Nat.zero_add]
theorem fst_miss {α : Type} {p : α → Bool} {z : α} {l : List α} {i : Nat} (h : ∀ j, j < i → p (l.getD j z) = false) (hi : l.length ≤ i) : fst p l = none := by
  induction l generalizing i with
  | nil => rfl
  | cons u l ih =>
    have h0 : p u = false := by have := h 0 (by simp at hi; omega); simpa using this
    simp only [fst, h0]
    rw [if_neg (by decide), ih (i := i - 1) (fun j hj => by have := h (j + 1) (by omega); simpa using this) (by simp at hi; omega)]
    rfl
theorem next_miss {α : Type} {p : α → Bool} {z : α} {l : List α} {i : Nat} (h : ∀ j, j < i → p (l.getD j z) = false) (c : p (l.getD i z) = false) : ∀ j, j < i + 1 → p (l.getD j z) = false := by
  intro j hj
  by_cases e : j = i
  · rw [e]; exact c
  · exact h j (by omega)

set_option maxHeartbeats 2000000 in
theorem lacks_any {k : Nat} {free : Int} {m : S66} (hD : D k free m = true) {A : Option Addr} {c0 : Nat} {w : World} {gf : Nat} (hf : w.cell? ⟨gf, 0, none⟩ = some (.int .u64 free)) (hr : Kd.C k68 w A m.f1.length m.f1) (hc : m.f1.length ≤ c0) :
    Calls Tryd.prog 80 #[.agg #[.int .i64 m.f0, .slice A m.f1.length c0], .pointer (some ⟨gf, 0, none⟩)] w fun e w' => e = .returned (.bool (!c k free m)) ∧ Below w.heap.size w w' := by
  have HR := Aside0.mk hr
  have HC := Aside0.mk hc
  have HD := Aside0.mk (c_f hD)
  have HF := Aside0.mk hf
  clear hr hc hD hf
  have hu66 := Tryd.underlying66
  generalize c k free m = r at *
  go_enter Tryd.func80, Tryd.ntmps80
  go_wp2_with (first
    | ((with_reducible refine gate_dst (N := 2) rfl ?_); refine box_event ?hg (N := 2) ?hd (cs := #[.int .i64 m.f0, .slice A m.f1.length c0]) (t := 66) ?hr ?_; (case hd => rfl); (case hg => rfl); (case hr => first | (go_simp; done) | (go_simp; rfl)); intro gb hg w3 hbox hb; have HB := Aside0.mk hb; have BX := Aside0.mk hbox; have y0 := (blk_cell hbox 0).trans rfl; have y1 := (blk_cell hbox 1).trans rfl; have y2 := (hb.cell (World.block_lt_of_cell? _ _ HF.out)).trans HF.out; clear hb hbox hg)
    | (go_at_call 81; (with_reducible refine (graph_comes.calls k m.f0 _ _ m.f1 free r _ (Kd.C_below HR.out HB.out) HC.out HD.out).mono ?_); rintro e w4 ⟨rfl, hb4⟩; have HB4 := Aside0.mk (below_step HB.out hb4); clear hb4))
  go_ret
  exact ⟨rfl, by repeat (first | exact HB4.out | apply below_drew)⟩

/-- IndexFunc over terms, and its closure. -/
def lacks (k : Nat) (free : Int) (m : S66) : Bool := !c k free m
set_option maxHeartbeats 4000000 in
set_option maxRecDepth 100000 in
theorem index88 {k : Nat} {free : Int} {l : List S66} (hD : ∀ i, i < l.length → D k free (l.getD i z66) = true) {A : Option Addr} {cc : Nat} {w : World} {gf : Nat} (hf : w.cell? ⟨gf, 0, none⟩ = some (.int .u64 free)) (hr : Kd.C k66 w A l.length l) :
    Calls Tryd.prog 88 #[.slice A l.length cc, .func (.func 80) #[] #[.pointer (some ⟨gf, 0, none⟩)]] w fun e w' => e = .returned (.int .i64 (place (fst (lacks k free) l))) ∧ Below w.heap.size w w' := by
  have eg := enters_of Tryd.func80 (by kernel_rfl) rfl
  have hu66 := Tryd.underlying66
  have HR := Aside0.mk hr
  have HD := Aside0.mk hD
  have HM := Aside0.mk (Kd.C_max hr)
  have HF := Aside0.mk hf
  clear hr hD hf
  obtain ⟨n, hn⟩ : ∃ n, n = l.length := ⟨_, rfl⟩
  have HN := Aside0.mk hn
  rw [← hn] at HR HM
  rw [← hn]
  clear hn
  have HB := Aside0.mk (Below.refl w.heap.size w)
  go_enter Tryd.func88, Tryd.ntmps88
  go_wp2
  go_loopg [5, 8] n (fun kq _ v8 w' => ∃ (i : Nat), v8 = .int .i64 (i : Int) ∧ Aside0 (i + kq = n) ∧ Aside0 (∀ j, j < i → lacks k free (l.getD j z66) = false) ∧ Aside0 (Below w.heap.size w w'))
  case atStart => exact ⟨0, rfl, ⟨by omega⟩, ⟨fun j hj => by omega⟩, HB⟩
  case round =>
    clear HB
    obtain ⟨i, rfl, HI, HF2, HB⟩ := hrel
    rcases gk with _ | k1
    · have d1 : decide ((i : Int) < (n : Int)) = false := decide_eq_false (by have := HI.out; omega)
      have d2 : decide (i < n) = false := decide_eq_false (by have := HI.out; omega)
      go_wp2
      go_ret
      refine ⟨?_, by repeat (first | exact HB.out | apply below_drew | apply pw_below_drewN)⟩
      rw [fst_miss HF2.out (by have := HI.out; have := HN.out; omega)]
      rfl
    · have hi := HI.out
      have hil : i < l.length := by have := HN.out; omega
      have d1 : decide ((i : Int) < (n : Int)) = true := decide_eq_true (by omega)
      have d2 : decide (i < n) = true := decide_eq_true (by omega)
      have HRi := Aside0.mk (Kd.C_below HR.out HB.out)
      obtain ⟨ad, A1, c1, ead, x0, x1, hl1, hi1⟩ := at_T66 HRi.out (i : Int) (by omega) (by omega)
      subst ead
      have HL1 := Aside0.mk hl1
      have HI1 := Aside0.mk hi1
      have q1 : (0 ≤ (i : Int)) = True := eq_true (by omega)
      have q2 : ((i : Int) < (n : Int)) = True := eq_true (by omega)
      have HDi := Aside0.mk (HD.out i hil)
      have HNX := Aside0.mk (fun q => next_miss HF2.out (i := i) q)
      have HHT := Aside0.mk (fun q => fst_hit HF2.out hil q)
      have e : rd_T66 l (i : Int) = l.getD i z66 := by unfold rd_T66; rw [Int.toNat_natCast]
      rw [e] at x0 x1 HL1 HI1
      simp only [Int.toNat_natCast] at x0 x1
      generalize l.getD i z66 = m at *
      clear e hl1 hi1 hi hil HF2
      have fz := HF.out
      have y2 := (HB.out.cell (World.block_lt_of_cell? _ _ HF.out)).trans HF.out
      clear fz
      cases c : lacks k free m with
      | true =>
        go_wp2_with (fail)
        refine (lacks_any HDi.out y2 HI1.out HL1.out).mono ?_
        rintro e w4 ⟨rfl, hb4⟩
        have HB4 := Aside0.mk (below_step HB.out hb4)
        rw [show (!Gm.c k free m) = true from c]
        clear hb4
        go_wp2
        go_ret
        refine ⟨?_, by repeat (first | exact HB4.out | apply below_drew | apply pw_below_drewN)⟩
        rw [HHT.out c]
        rfl
      | false =>
        go_wp2_with (fail)
        refine (lacks_any HDi.out y2 HI1.out HL1.out).mono ?_
        rintro e w4 ⟨rfl, hb4⟩
        have HB4 := Aside0.mk (below_step HB.out hb4)
        rw [show (!Gm.c k free m) = false from c]
        clear hb4
        go_wp2
        go_roundg k1
        case measure => omega
        case rel => exact ⟨i + 1, by have h1 := HI.out; have h2 := HM.out; rw [show wrap64 ((i : Int) + 1) = (i : Int) + 1 from by unfold wrap64; omega]; simp, ⟨by have := HI.out; omega⟩, ⟨HNX.out c⟩, HB4⟩

set_option maxHeartbeats 4000000 in
set_option maxRecDepth 100000 in
theorem contains83 {k : Nat} {free : Int} {l : List S66} (hD : ∀ i, i < l.length → D k free (l.getD i z66) = true) {A : Option Addr} {cc : Nat} {w : World} {gf : Nat} (hf : w.cell? ⟨gf, 0, none⟩ = some (.int .u64 free)) (hr : Kd.C k66 w A l.length l) :
    Calls Tryd.prog 83 #[.slice A l.length cc, .func (.func 80) #[] #[.pointer (some ⟨gf, 0, none⟩)]] w fun e w' => e = .returned (.bool (l.any (lacks k free))) ∧ Below w.heap.size w w' := by
  have HX := Aside0.mk (index88 (cc := cc) hD hf hr)
  have HP := Aside0.mk ((place_ge (fst (lacks k free) l)).trans (fst_some (lacks k free) l))
  clear hD hf hr
  generalize l.any (lacks k free) = r at *
  generalize place (fst (lacks k free) l) = p at *
  go_enter Tryd.func83, Tryd.ntmps83
  go_wp2_with (go_at_call 88; (refine HX.out.mono ?_); rintro e w4 ⟨rfl, hb4⟩; have HB4 := Aside0.mk hb4; clear hb4)
  go_ret
  refine ⟨?_, by repeat (first | exact HB4.out | apply below_drew)⟩
  rw [← HP.out]
  first | rfl | simp
/-- A way goes. -/
def goes (k : Nat) (free : Int) (l : List S66) : Bool := !l.any (lacks k free)
set_option maxHeartbeats 4000000 in
set_option maxRecDepth 100000 in
theorem goes_any {k : Nat} {free : Int} {l : List S66} (hD : l.all (D k free) = true) {A : Option Addr} {cc : Nat} {w : World} {gf gl : Nat} (hf : w.cell? ⟨gf, 0, none⟩ = some (.int .u64 free)) (hg : w.cell? ⟨gl, 0, none⟩ = some (.func (.func 80) #[] #[.pointer (some ⟨gf, 0, none⟩)])) (hr : Kd.C k66 w A l.length l) (hc : l.length ≤ cc) :
    Calls Tryd.prog 82 #[.slice A l.length cc, .pointer (some ⟨gl, 0, none⟩)] w fun e w' => e = .returned (.bool (goes k free l)) ∧ Below w.heap.size w w' := by
  have HX := Aside0.mk (contains83 (cc := cc) (fun i hi => by rw [List.all_eq_true] at hD; refine hD _ ?_; rw [List.getD_eq_getElem?_getD, List.getElem?_eq_getElem hi]; exact List.getElem_mem hi) hf hr)
  clear hD hf hr
  unfold goes
  generalize l.any (lacks k free) = r at *
  go_enter Tryd.func82, Tryd.ntmps82
  go_wp2_with (go_at_call 83; (refine HX.out.mono ?_); rintro e w4 ⟨rfl, hb4⟩; have HB4 := Aside0.mk hb4; clear hb4)
  go_ret
  exact ⟨rfl, by repeat (first | exact HB4.out | apply below_drew)⟩
set_option maxHeartbeats 4000000 in
set_option maxRecDepth 100000 in
theorem index89 {k : Nat} {free : Int} {l : List (List S66)} (hD : ∀ i, i < l.length → (l.getD i []).all (D k free) = true) {A : Option Addr} {cc : Nat} {w : World} {gf gl : Nat} (hf : w.cell? ⟨gf, 0, none⟩ = some (.int .u64 free)) (hg : w.cell? ⟨gl, 0, none⟩ = some (.func (.func 80) #[] #[.pointer (some ⟨gf, 0, none⟩)])) (hr : Kd.C (Kd.slice 66 k66) w A l.length l) :
    Calls Tryd.prog 89 #[.slice A l.length cc, .func (.func 82) #[] #[.pointer (some ⟨gl, 0, none⟩)]] w fun e w' => e = .returned (.int .i64 (place (fst (goes k free) l))) ∧ Below w.heap.size w w' := by
  have eg := enters_of Tryd.func82 (by kernel_rfl) rfl
  have hu66 := Tryd.underlying66
  have HR := Aside0.mk hr
  have HD := Aside0.mk hD
  have HM := Aside0.mk (Kd.C_max hr)
  have HF := Aside0.mk hf
  have HG := Aside0.mk hg
  clear hr hD hf hg
  obtain ⟨n, hn⟩ : ∃ n, n = l.length := ⟨_, rfl⟩
  have HN := Aside0.mk hn
  rw [← hn] at HR HM
  rw [← hn]
  clear hn
  have HB := Aside0.mk (Below.refl w.heap.size w)
  go_enter Tryd.func89, Tryd.ntmps89
  go_wp2
  go_loopg [5, 8] n (fun kq _ v8 w' => ∃ (i : Nat), v8 = .int .i64 (i : Int) ∧ Aside0 (i + kq = n) ∧ Aside0 (∀ j, j < i → goes k free (l.getD j ([] : List S66)) = false) ∧ Aside0 (Below w.heap.size w w'))
  case atStart => exact ⟨0, rfl, ⟨by omega⟩, ⟨fun j hj => by omega⟩, HB⟩
  case round =>
    clear HB
    obtain ⟨i, rfl, HI, HF2, HB⟩ := hrel
    rcases gk with _ | k1
    · have d1 : decide ((i : Int) < (n : Int)) = false := decide_eq_false (by have := HI.out; omega)
      have d2 : decide (i < n) = false := decide_eq_false (by have := HI.out; omega)
      go_wp2
      go_ret
      refine ⟨?_, by repeat (first | exact HB.out | apply below_drew | apply pw_below_drewN)⟩
      rw [fst_miss HF2.out (by have := HI.out; have := HN.out; omega)]
      rfl
    · have hi := HI.out
      have hil : i < l.length := by have := HN.out; omega
      have d1 : decide ((i : Int) < (n : Int)) = true := decide_eq_true (by omega)
      have d2 : decide (i < n) = true := decide_eq_true (by omega)
      have HRi := Aside0.mk (Kd.C_below HR.out HB.out)
      obtain ⟨ad, A1, c1, ead, x0, hl1, hi1⟩ := at_L5 HRi.out (i : Int) (by omega) (by omega)
      subst ead
      have HL1 := Aside0.mk hl1
      have HI1 := Aside0.mk hi1
      have q1 : (0 ≤ (i : Int)) = True := eq_true (by omega)
      have q2 : ((i : Int) < (n : Int)) = True := eq_true (by omega)
      have HDi := Aside0.mk (HD.out i hil)
      have HNX := Aside0.mk (fun q => next_miss HF2.out (i := i) q)
      have HHT := Aside0.mk (fun q => fst_hit HF2.out hil q)
      have e : rd_L5 l (i : Int) = l.getD i ([] : List S66) := by unfold rd_L5; rw [Int.toNat_natCast]
      rw [e] at x0 HL1 HI1
      simp only [Int.toNat_natCast] at x0
      generalize l.getD i ([] : List S66) = m at *
      clear e hl1 hi1 hi hil HF2
      have fz := HF.out
      have y2 := (HB.out.cell (World.block_lt_of_cell? _ _ HF.out)).trans HF.out
      clear fz
      have y3 := (HB.out.cell (World.block_lt_of_cell? _ _ HG.out)).trans HG.out
      cases c : goes k free m with
      | true =>
        go_wp2_with (fail)
        refine (goes_any HDi.out y2 y3 HI1.out HL1.out).mono ?_
        rintro e w4 ⟨rfl, hb4⟩
        have HB4 := Aside0.mk (below_step HB.out hb4)
        rw [c]
        clear hb4
        go_wp2
        go_ret
        refine ⟨?_, by repeat (first | exact HB4.out | apply below_drew | apply pw_below_drewN)⟩
        rw [HHT.out c]
        rfl
      | false =>
        go_wp2_with (fail)
        refine (goes_any HDi.out y2 y3 HI1.out HL1.out).mono ?_
        rintro e w4 ⟨rfl, hb4⟩
        have HB4 := Aside0.mk (below_step HB.out hb4)
        rw [c]
        clear hb4
        go_wp2
        go_roundg k1
        case measure => omega
        case rel => exact ⟨i + 1, by have h1 := HI.out; have h2 := HM.out; rw [show wrap64 ((i : Int) + 1) = (i : Int) + 1 from by unfold wrap64; omega]; simp, ⟨by have := HI.out; omega⟩, ⟨HNX.out c⟩, HB4⟩

set_option maxHeartbeats 4000000 in
set_option maxRecDepth 100000 in
theorem contains84 {k : Nat} {free : Int} {l : List (List S66)} (hD : l.all (fun x => x.all (D k free)) = true) {A : Option Addr} {cc : Nat} {w : World} {gf gl : Nat} (hf : w.cell? ⟨gf, 0, none⟩ = some (.int .u64 free)) (hg : w.cell? ⟨gl, 0, none⟩ = some (.func (.func 80) #[] #[.pointer (some ⟨gf, 0, none⟩)])) (hr : Kd.C (Kd.slice 66 k66) w A l.length l) :
    Calls Tryd.prog 84 #[.slice A l.length cc, .func (.func 82) #[] #[.pointer (some ⟨gl, 0, none⟩)]] w fun e w' => e = .returned (.bool (l.any (goes k free))) ∧ Below w.heap.size w w' := by
  have HX := Aside0.mk (index89 (cc := cc) (fun i hi => by rw [List.all_eq_true] at hD; refine hD _ ?_; rw [List.getD_eq_getElem?_getD, List.getElem?_eq_getElem hi]; exact List.getElem_mem hi) hf hg hr)
  have HP := Aside0.mk ((place_ge (fst (goes k free) l)).trans (fst_some (goes k free) l))
  clear hD hf hg hr
  generalize l.any (goes k free) = r at *
  generalize place (fst (goes k free) l) = p at *
  go_enter Tryd.func84, Tryd.ntmps84
  go_wp2_with (go_at_call 89; (refine HX.out.mono ?_); rintro e w4 ⟨rfl, hb4⟩; have HB4 := Aside0.mk hb4; clear hb4)
  go_ret
  refine ⟨?_, by repeat (first | exact HB4.out | apply below_drew)⟩
  rw [← HP.out]
  first | rfl | simp
end Gm
def graph_met.f (k : Nat) (a0_0 : Bool) (l0_1 : List (List S66)) (a1 : Int) : Option Bool := if l0_1.all (fun x => x.all (Gm.D k a1)) = true then some (!a0_0 || l0_1.any (Gm.goes k a1)) else none
namespace Gm
theorem D_mono {k : Nat} {free : Int} {m : S66} (h : D k free m = true) : D (k + 1) free m = true ∧ c (k + 1) free m = c k free m := by
  have h1 := graph_comes.mono m.f0 m.f1 free k _ (c_f h)
  refine ⟨by unfold D; rw [h1]; rfl, ?_⟩
  show (graph_comes.f (k + 1) m.f0 m.f1 free == some true) = _
  rw [h1]
  cases c k free m <;> rfl
theorem goes_mono {k : Nat} {free : Int} {l : List S66} (h : l.all (D k free) = true) : l.all (D (k + 1) free) = true ∧ goes (k + 1) free l = goes k free l := by
  induction l with
  | nil => exact ⟨rfl, rfl⟩
  | cons a l ih =>
    rw [List.all_cons, Bool.and_eq_true] at h
    have h1 := D_mono h.1
    have h2 := ih h.2
    refine ⟨by rw [List.all_cons, h1.1, h2.1]; rfl, ?_⟩
    have h3 := h2.2
    unfold goes at h3 ⊢
    rw [List.any_cons, List.any_cons]
    have e : lacks (k + 1) free a = lacks k free a := by unfold lacks; rw [h1.2]
    have h4 : l.any (lacks (k + 1) free) = l.any (lacks k free) := by
      cases x : l.any (lacks (k + 1) free) <;> cases y : l.any (lacks k free) <;> simp_all
    rw [e, h4]
theorem any_mono {k : Nat} {free : Int} {l : List (List S66)} (h : l.all (fun x => x.all (D k free)) = true) : l.all (fun x => x.all (D (k + 1) free)) = true ∧ l.any (goes (k + 1) free) = l.any (goes k free) := by
  induction l with
  | nil => exact ⟨rfl, rfl⟩
  | cons a l ih =>
    rw [List.all_cons, Bool.and_eq_true] at h
    have h1 := goes_mono h.1
    have h2 := ih h.2
    exact ⟨by rw [List.all_cons, h1.1, h2.1]; rfl, by rw [List.any_cons, List.any_cons, h1.2, h2.2]⟩
end Gm
theorem graph_met.mono : ∀ a0 a1 a2 k, LeO (graph_met.f k a0 a1 a2) (graph_met.f (k + 1) a0 a1 a2) := by
  intro a0 a1 a2 k r h
  unfold graph_met.f at h ⊢
  split at h
  · rename_i c
    have h1 := Gm.any_mono c
    rw [if_pos h1.1, h1.2]
    exact h
  · cases h
set_option maxHeartbeats 8000000 in
set_option maxRecDepth 100000 in
theorem graph_met.calls (k : Nat) (a0_0 : Bool) (A0_1 : Option Addr) (c0_1 : Nat) (l0_1 : List (List (S66))) (a1 : Int) (r : Bool) (w : World) (hr0_1 : Kd.C (Kd.slice 66 k66) w A0_1 l0_1.length l0_1) (hc0_1 : l0_1.length ≤ c0_1) (h : graph_met.f k a0_0 l0_1 a1 = some r) :
    Calls Tryd.prog 64 #[.agg #[.bool a0_0, .slice A0_1 l0_1.length c0_1], .int .u64 a1] w fun e w' => e = .returned (.bool r) ∧ Below w.heap.size w w' := by
  have HR := Aside0.mk hr0_1
  have HC := Aside0.mk hc0_1
  have HH := Aside0.mk h
  clear hr0_1 hc0_1 h
  have hu44 := Tryd.underlying44
  have hst : ∀ (w : World) (a : Addr) (f : Fn) (b d : Array Value) (m : Mode), (store a (.func f b d) m).run Tryd.prog w = stored Tryd.prog w a (.func f b d) m := fun w a f b d m => run_store Tryd.prog w a _ m rfl
  have hmf : ∀ (fn : Fn) (first cap : Array Value) (w : World), (Instr.makeFunc fn first cap).run Tryd.prog w = .ok (.func fn first cap) w := fun _ _ _ _ => rfl
  have HD := Aside0.mk (show l0_1.all (fun x => x.all (Gm.D k a1)) = true from by
    have h := HH.out
    unfold graph_met.f at h
    split at h
    · assumption
    · cases h)
  have HE := Aside0.mk (show (!a0_0 || l0_1.any (Gm.goes k a1)) = r from by
    have h := HH.out
    unfold graph_met.f at h
    rw [if_pos HD.out] at h
    exact Option.some.inj h)
  clear HH
  cases a0_0 with
  | false =>
    go_enter Tryd.func64, Tryd.ntmps64
    go_upto_region 2 with (first
      | ((with_reducible refine gate_dst (N := 2) rfl ?_); refine box_event ?hg (N := 2) ?hd (cs := #[.bool false, .slice A0_1 l0_1.length c0_1]) (t := 44) ?hr ?_; (case hd => rfl); (case hg => rfl); (case hr => first | (go_simp; done) | (go_simp; rfl)); intro gn hg w1 hbox hb; have HB1 := Aside0.mk hb; have BX1 := Aside0.mk hbox; clear hb hbox hg)
      | ((with_reducible refine gate_dst (N := 3) rfl ?_); refine box_event ?hg (N := 3) ?hd (cs := #[.int .u64 a1]) (t := 71) ?hr ?_; (case hd => rfl); (case hg => rfl); (case hr => first | (go_simp; done) | (go_simp; rfl)); intro gf hg w2 hbox hb; have HB2 := Aside0.mk hb; have BX2 := Aside0.mk hbox; clear hb hbox hg)
      | ((with_reducible refine gate_dst (N := 5) rfl ?_); refine box_event ?hg (N := 5) ?hd (cs := #[.nilFunc]) (t := 103) ?hr ?_; (case hd => rfl); (case hg => rfl); (case hr => first | (go_simp; done) | (go_simp; rfl)); intro gl hg w3 hbox hb; have HB3 := Aside0.mk hb; have BX3 := Aside0.mk hbox; have HG3 := Aside0.mk (show gl = w2.heap.size from hg); have y0 : w3.cell? ⟨gl, 0, none⟩ = some .nilFunc := (blk_cell hbox 0).trans rfl; have fz := blk_frozen hbox 0; clear hb hbox hg))
    have BN := Aside0.mk (blk_below (blk_below BX1.out HB2.out) HB3.out)
    have BF := Aside0.mk (blk_below BX2.out HB3.out)
    have HB := Aside0.mk (below_set (g := gl) (j := 0) (v := .func (.func 80) #[] #[.pointer (some ⟨gf, 0, none⟩)]) (below_step (below_step HB1.out HB2.out) HB3.out) (by have h1 := HG3.out; have h2 := HB2.out.size; have h3 := HB1.out.size; omega))
    have BL := Aside0.mk (blk_put BX3.out 0 (.func (.func 80) #[] #[.pointer (some ⟨gf, 0, none⟩)]) rfl)
    have e1 : gn ≠ gl := by have h1 := HG3.out; have h2 := blk_lt (blk_below BX1.out HB2.out); omega
    have e2 : gf ≠ gl := by have h1 := HG3.out; have h2 := blk_lt BX2.out; omega
    have HBN := Aside0.mk (blk_far BN.out (p := ⟨gl, 0, none⟩) e1 (.func (.func 80) #[] #[.pointer (some ⟨gf, 0, none⟩)]))
    have HBF := Aside0.mk (blk_far BF.out (p := ⟨gl, 0, none⟩) e2 (.func (.func 80) #[] #[.pointer (some ⟨gf, 0, none⟩)]))
    clear BN BF BX1 BX2 BX3 HB1 HB2 HB3 HG3 e1 e2 fz y0
    generalize w3.setCell _ _ = w4 at *
    have c0 : w4.cell? ⟨gn, 0, none⟩ = some (.bool false) := (blk_cell HBN.out 0).trans rfl
    have c1 : w4.cell? ⟨gn, 1, none⟩ = some (.slice A0_1 l0_1.length c0_1) := (blk_cell HBN.out 1).trans rfl
    have HCF := Aside0.mk (show w4.cell? ⟨gf, 0, none⟩ = some (.int .u64 a1) from (blk_cell HBF.out 0).trans rfl)
    have HCL := Aside0.mk (show w4.cell? ⟨gl, 0, none⟩ = some (.func (.func 80) #[] #[.pointer (some ⟨gf, 0, none⟩)]) from (blk_cell BL.out 0).trans rfl)
    have HX := Aside0.mk (Gm.contains84 (cc := c0_1) HD.out HCF.out HCL.out (Kd.C_below HR.out HB.out))
    clear HX HBN HBF BL HCF HCL
    go_wp2
    go_ret
    exact ⟨by rw [← HE.out]; rfl, by repeat (first | exact HB.out | apply below_drew | apply pw_below_drewN)⟩
  | true =>
    go_enter Tryd.func64, Tryd.ntmps64
    go_upto_region 2 with (first
      | ((with_reducible refine gate_dst (N := 2) rfl ?_); refine box_event ?hg (N := 2) ?hd (cs := #[.bool true, .slice A0_1 l0_1.length c0_1]) (t := 44) ?hr ?_; (case hd => rfl); (case hg => rfl); (case hr => first | (go_simp; done) | (go_simp; rfl)); intro gn hg w1 hbox hb; have HB1 := Aside0.mk hb; have BX1 := Aside0.mk hbox; clear hb hbox hg)
      | ((with_reducible refine gate_dst (N := 3) rfl ?_); refine box_event ?hg (N := 3) ?hd (cs := #[.int .u64 a1]) (t := 71) ?hr ?_; (case hd => rfl); (case hg => rfl); (case hr => first | (go_simp; done) | (go_simp; rfl)); intro gf hg w2 hbox hb; have HB2 := Aside0.mk hb; have BX2 := Aside0.mk hbox; clear hb hbox hg)
      | ((with_reducible refine gate_dst (N := 5) rfl ?_); refine box_event ?hg (N := 5) ?hd (cs := #[.nilFunc]) (t := 103) ?hr ?_; (case hd => rfl); (case hg => rfl); (case hr => first | (go_simp; done) | (go_simp; rfl)); intro gl hg w3 hbox hb; have HB3 := Aside0.mk hb; have BX3 := Aside0.mk hbox; have HG3 := Aside0.mk (show gl = w2.heap.size from hg); have y0 : w3.cell? ⟨gl, 0, none⟩ = some .nilFunc := (blk_cell hbox 0).trans rfl; have fz := blk_frozen hbox 0; clear hb hbox hg))
    have BN := Aside0.mk (blk_below (blk_below BX1.out HB2.out) HB3.out)
    have BF := Aside0.mk (blk_below BX2.out HB3.out)
    have HB := Aside0.mk (below_set (g := gl) (j := 0) (v := .func (.func 80) #[] #[.pointer (some ⟨gf, 0, none⟩)]) (below_step (below_step HB1.out HB2.out) HB3.out) (by have h1 := HG3.out; have h2 := HB2.out.size; have h3 := HB1.out.size; omega))
    have BL := Aside0.mk (blk_put BX3.out 0 (.func (.func 80) #[] #[.pointer (some ⟨gf, 0, none⟩)]) rfl)
    have e1 : gn ≠ gl := by have h1 := HG3.out; have h2 := blk_lt (blk_below BX1.out HB2.out); omega
    have e2 : gf ≠ gl := by have h1 := HG3.out; have h2 := blk_lt BX2.out; omega
    have HBN := Aside0.mk (blk_far BN.out (p := ⟨gl, 0, none⟩) e1 (.func (.func 80) #[] #[.pointer (some ⟨gf, 0, none⟩)]))
    have HBF := Aside0.mk (blk_far BF.out (p := ⟨gl, 0, none⟩) e2 (.func (.func 80) #[] #[.pointer (some ⟨gf, 0, none⟩)]))
    clear BN BF BX1 BX2 BX3 HB1 HB2 HB3 HG3 e1 e2 fz y0
    generalize w3.setCell _ _ = w4 at *
    have c0 : w4.cell? ⟨gn, 0, none⟩ = some (.bool true) := (blk_cell HBN.out 0).trans rfl
    have c1 : w4.cell? ⟨gn, 1, none⟩ = some (.slice A0_1 l0_1.length c0_1) := (blk_cell HBN.out 1).trans rfl
    have HCF := Aside0.mk (show w4.cell? ⟨gf, 0, none⟩ = some (.int .u64 a1) from (blk_cell HBF.out 0).trans rfl)
    have HCL := Aside0.mk (show w4.cell? ⟨gl, 0, none⟩ = some (.func (.func 80) #[] #[.pointer (some ⟨gf, 0, none⟩)]) from (blk_cell BL.out 0).trans rfl)
    have HX := Aside0.mk (Gm.contains84 (cc := c0_1) HD.out HCF.out HCL.out (Kd.C_below HR.out HB.out))
    go_wp2_with (go_at_call 84; (with_reducible refine HX.out.mono ?_); rintro e w5 ⟨rfl, hb5⟩; have HB5 := Aside0.mk (below_step HB.out hb5); clear hb5)
    go_ret
    exact ⟨by rw [← HE.out]; first | rfl | simp, by repeat (first | exact HB5.out | apply below_drew | apply pw_below_drewN)⟩


-- NOT PRINTED: function 78 (graph_asks)

end Go.Proofs.YtbfbegleffkafaaDoor.PCycleAgrees
