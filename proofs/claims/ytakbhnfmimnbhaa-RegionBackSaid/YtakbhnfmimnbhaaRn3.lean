/- A region's log in memory: begun, and written to. Conditions: none. -/
import Derived.Test.YtakbhnfmimnbhaaRn2
namespace Go.Proofs.Ytakbhnfmimnbhaa.Rn
open Go.RowKit Go.Proofs.YtakbhnfmimnbhaaW.PrintWords Go.Proofs.YtakbhnfmimnbhaaW.PrintLast Go.Proofs.YtakbhnfmimnbhaaW.PrintMore
set_option linter.unusedVariables false
set_option linter.unusedSimpArgs false

/-- Only blocks of S, and new ones, have turned. -/
structure Chg (S : Nat → Prop) (w w' : World) : Prop where
  os : w'.os = w.os
  tape : w'.tape = w.tape
  output : w'.output = w.output
  size : w.heap.size ≤ w'.heap.size
  block : ∀ k, k < w.heap.size → ¬ S k → w'.heap[k]? = w.heap[k]?
theorem Chg.refl (S : Nat → Prop) (w : World) : Chg S w w := ⟨rfl, rfl, rfl, Nat.le_refl _, fun _ _ _ => rfl⟩
theorem Chg.set_ {S : Nat → Prop} {w w' : World} (h : Chg S w w') {p : Addr} (hp : S p.block ∨ w.heap.size ≤ p.block) (u : Value) : Chg S w (w'.setCell p u) :=
  ⟨h.os, h.tape, h.output, by simpa [World.setCell] using h.size, fun k hk hs => (Below.heap_setCell w' p u k (by
    rintro rfl
    rcases hp with hp | hp
    · exact hs hp
    · omega)).trans (h.block k hk hs)⟩
theorem Chg.trans {S : Nat → Prop} {a b c : World} (h : Chg S a b) (k : Chg S b c) : Chg S a c :=
  ⟨k.os.trans h.os, k.tape.trans h.tape, k.output.trans h.output, Nat.le_trans h.size k.size, fun i hi hs => (k.block i (Nat.lt_of_lt_of_le hi h.size) hs).trans (h.block i hi hs)⟩
theorem Chg.of_below {S : Nat → Prop} {w w' : World} (h : Below w.heap.size w w') : Chg S w w' := ⟨h.os, h.tape, h.output, h.size, fun k hk _ => h.block k hk⟩
theorem Chg.below {S : Nat → Prop} {B : Nat} {w0 w w' : World} (hb : Below B w0 w) (h : Chg S w w') (hB : B ≤ w.heap.size) (hs : ∀ k, S k → B ≤ k) : Below B w0 w' :=
  hb.trans ⟨h.os, h.tape, h.output, h.size, fun k hk => h.block k (by omega) (fun q => by have := hs k q; omega)⟩
theorem Chg.grown {S : Nat → Prop} {a b c : World} {row : Option Nat} (h : Chg S a b) (hg : b.grownBy c row) (hs : ∀ k, row = some k → S k ∨ a.heap.size ≤ k) : Chg S a c :=
  ⟨hg.os.trans h.os, hg.tape.trans h.tape, hg.output.trans h.output, Nat.le_trans h.size hg.size, fun k hk hn => (hg.block k (Nat.lt_of_lt_of_le hk h.size) (fun q => by
    rcases hs k q.symm with z | z
    · exact hn z
    · omega)).trans (h.block k hk hn)⟩
theorem Chg.alloc {S : Nat → Prop} {w w' : World} (h : Chg S w w') (o : Obj) : Chg S w (w'.alloc o) :=
  ⟨h.os, h.tape, h.output, Nat.le_trans h.size (by simp), fun k hk hs => (Below.heap_alloc w' o k (Nat.lt_of_lt_of_le hk h.size)).trans (h.block k hk hs)⟩
def Ow (S : Nat → Prop) (v : Value) : Prop := ∀ k, v.ownBlock = some k → S k
theorem own_chg {S : Nat → Prop} {W W' : World} {b n e k : Nat} {v : Value} {xs : List Value} (h : W.ownsRow b e k v n xs) (hc : Chg S W W') (hv : ∀ k, v.ownBlock = some k → ¬ S k) : W'.ownsRow b e k v n xs :=
  own_move h (fun q hq => hc.block q (own_lt h q hq) (hv q hq))
/-- What a log tells: its frames (n of them, their cells), number, aborts, what cells were, what was got. -/
structure La where
  n : Nat
  fx : List Value
  nm : Int
  ab : Int
  u : List (Int × Int)
  go : List (Int × Int)
structure Lg (S : Nat → Prop) (W : World) (g : Nat) (vf vu vg : Value) (A : La) : Prop where
  hg : W.heap[g]? = some (.cells #[vf, .int .i64 A.nm, .int .i64 A.ab, vu, vg] 104 (0, 0))
  fr : W.ownsRow 0 110 27 vf A.n A.fx
  f1 : ∀ x ∈ A.fx, x.oneCell' = true
  un : PR W 0 vu A.u
  gt : PR W 0 vg A.go
  ap : ∀ k, vu.ownBlock = some k → vg.ownBlock ≠ some k
  s : S g ∧ Ow S vu ∧ Ow S vg ∧ Ow S vf
def Log (S : Nat → Prop) (W : World) (g : Nat) (A : La) : Prop := ∃ vf vu vg, Lg S W g vf vu vg A
section
variable {S T : Nat → Prop} {W W' : World} {g : Nat} {vf vu vg : Value} {A : La}
theorem Lg.below (h : Lg S W g vf vu vg A) (hb : Below W.heap.size W W') : Lg S W' g vf vu vg A :=
  ⟨blk_below h.hg hb, pw_own_below h.fr hb, h.f1, h.un.below hb, h.gt.below hb, h.ap, h.s⟩
theorem Lg.mono (h : Lg S W g vf vu vg A) (hs : ∀ k, S k → T k) : Lg T W g vf vu vg A :=
  ⟨h.hg, h.fr, h.f1, h.un, h.gt, h.ap, hs _ h.s.1, fun k hk => hs _ (h.s.2.1 k hk), fun k hk => hs _ (h.s.2.2.1 k hk), fun k hk => hs _ (h.s.2.2.2 k hk)⟩
theorem Lg.kept (h : Lg S W g vf vu vg A) (hc : Chg T W W') (hT : ∀ k, T k → ¬ S k) : Lg S W' g vf vu vg A :=
  ⟨(hc.block g (blk_lt h.hg) (fun z => hT _ z h.s.1)).trans h.hg, own_chg h.fr hc (fun k hk z => hT _ z (h.s.2.2.2 k hk)), h.f1, own_chg h.un hc (fun k hk z => hT _ z (h.s.2.1 k hk)), own_chg h.gt hc (fun k hk z => hT _ z (h.s.2.2.1 k hk)), h.ap, h.s⟩
theorem Lg.ne (h : Lg S W g vf vu vg A) : some g ≠ vu.ownBlock ∧ some g ≠ vg.ownBlock ∧ some g ≠ vf.ownBlock := ⟨own_ne h.un h.hg (by decide), own_ne h.gt h.hg (by decide), own_ne h.fr h.hg (by decide)⟩
theorem Lg.cut (h : Lg S W g vf vu vg A) : Lg (fun k => S k ∧ k < W.heap.size) W g vf vu vg A :=
  ⟨h.hg, h.fr, h.f1, h.un, h.gt, h.ap, ⟨h.s.1, blk_lt h.hg⟩, fun k hk => ⟨h.s.2.1 k hk, own_lt h.un k hk⟩, fun k hk => ⟨h.s.2.2.1 k hk, own_lt h.gt k hk⟩, fun k hk => ⟨h.s.2.2.2 k hk, own_lt h.fr k hk⟩⟩
end
theorem info33 : (Try.prog.info? 33).map (fun i => (i.zero, i.size, i.bytes)) = some (some (.agg #[.int .i64 0, .int .i64 0]), 2, 16) := by kernel_rfl
theorem info110 : (Try.prog.info? 110).map (fun i => (i.size, i.bytes)) = some (27, 216) := by kernel_rfl
def z110 : Value := .agg #[.int .i64 0, .int .i64 0, .int .i64 0, .int .i64 0, .int .i64 0, .int .i64 0, .int .i64 0, .int .i64 0, .int .i64 0, .int .i64 0, .int .i64 0, .int .i64 0, .int .i64 0, .int .i64 0, .int .i64 0, .int .i64 0, .int .i64 0, .int .i64 0, .int .i64 0, .int .i64 0, .int .i64 0, .int .i64 0, .int .i64 0, .int .i64 0, .int .i64 0, .int .i64 0, .int .i64 0]
theorem info110z : (Try.prog.info? 110).map (fun i => (i.zero, i.size, i.bytes)) = some (some z110, 27, 216) := by kernel_rfl
def wrA (A : La) (c x : Int) : La := { A with u := if (fnd A.u c).isNone = true then A.u ++ [(c, x)] else A.u }
section
variable {S : Nat → Prop} {W : World} {g : Nat} {vf vu vg : Value} {A : La}
set_option maxHeartbeats 4000000 in
theorem wrote_any (h : Lg S W g vf vu vg A) (hl : A.u.length ≤ 1000) (c x : Int) : Calls Try.prog 10 #[.pointer (some ⟨g, 0, none⟩), .int .i64 c, .int .i64 x] W fun e w' => e = .returned (.tuple #[]) ∧ Log (fun k => S k ∨ W.heap.size ≤ k) w' g (wrA A c x) ∧ Chg S W w' := by
  have hu33 := Try.underlying33
  have hu30 := Try.underlying30
  have HA := Aside0.mk h
  have HL := Aside0.mk hl
  clear h hl
  have y3 : W.cell? ⟨g, 3, none⟩ = some vu := (blk_cell HA.out.hg 3).trans rfl
  cases hf : fnd A.u c with
  | some i =>
    have d3 : decide (plc (some i) < 0) = false := decide_eq_false (by simp [plc])
    have HW := Aside0.mk (show wrA A c x = A from by unfold wrA; rw [hf]; rfl)
    rw [HW.out]
    have HF := Aside0.mk hf
    clear hf
    generalize hp : plc (some i) = p at d3
    have HP := Aside0.mk hp
    clear hp
    go_enter Try.func10, Try.ntmps10
    go_wp2_with (go_at_call 49; (refine (find_any HA.out.un (Nat.le_trans HL.out (by decide))).mono ?_); rw [HF.out, HP.out]; rintro e w1 ⟨rfl, hb⟩; have HB := Aside0.mk hb; clear hb)
    refine bodyPost_end (results_none rfl _ _ _) rfl ?_
    exact ⟨rfl, ⟨vf, vu, vg, (HA.out.below HB.out).mono (fun k hk => .inl hk)⟩, Chg.of_below HB.out⟩
  | none =>
    have d3 : decide (plc none < 0) = true := decide_eq_true (by decide)
    have HF := Aside0.mk hf
    have HW := Aside0.mk (show wrA A c x = { A with u := A.u ++ [(c, x)] } from by unfold wrA; rw [hf]; rfl)
    rw [HW.out]
    clear hf
    generalize hp : plc none = p at d3
    have HP := Aside0.mk hp
    clear hp
    go_enter Try.func10, Try.ntmps10
    go_upto_region 1 with (go_at_call 49; (refine (find_any HA.out.un (Nat.le_trans HL.out (by decide))).mono ?_); rw [HF.out, HP.out]; rintro e w1 ⟨rfl, hb⟩; have HB := Aside0.mk hb; clear hb)
    have HA1 := Aside0.mk (HA.out.below HB.out)
    clear y3 d3
    have y3 : w1.cell? ⟨g, 3, none⟩ = some vu := (blk_cell HA1.out.hg 3).trans rfl
    obtain ⟨v1, w9, hr, hown, hg9, hat⟩ := app_any (P := Try.prog) (W := w1.alloc (.cells #[.int .i64 c, .int .i64 x] 33)) 0 30 30 33 2 16 (.agg #[.int .i64 0, .int .i64 0]) Try.underlying30 info33 rfl (by decide) (by decide) vu A.u.length (pcs A.u) (pcs [(c, x)]) (some ⟨w1.heap.size, 0, none⟩) 1 1 (own_alloc HA1.out.un _)
      ⟨rfl, fun _ => ⟨_, rfl, fun j q hj => by rw [add_plain]; exact (blk_cell (blk_new w1 _) j).trans (by rw [List.getElem?_toArray]; exact hj)⟩⟩ (pcs_one _) (Nat.zero_le _) (by have := HL.out; omega) (fun _ => rfl)
    obtain ⟨A9, c9, rfl⟩ := own_slice hown
    have HO := Aside0.mk hown
    have HG := Aside0.mk hg9
    have HT := Aside0.mk hat
    have HA2 := Aside0.mk (HA1.out.below (below_alloc (Below.refl _ _) (.cells #[.int .i64 c, .int .i64 x] 33)))
    have HX := Aside0.mk (show w9.heap[g]? = some (.cells #[vf, .int .i64 A.nm, .int .i64 A.ab, vu, vg] 104 (0, 0)) from (hg9.block g (blk_lt HA2.out.hg) HA2.out.ne.1).trans HA2.out.hg)
    have cz : w9.cell? ⟨g, 3, none⟩ = some vu := (blk_cell HX.out 3).trans rfl
    have fz := blk_frozen HX.out 3
    clear hown hg9 hat
    go_wp2_with (at_builtin; refine list_run rfl (.tmp 21) (.tmp 25) 30 30 rfl _ _ (.slice A9 (A.u.length + 1) c9) rfl rfl hr ?_)
    refine bodyPost_end (results_none rfl _ _ _) rfl ?_
    have hsz : W.heap.size ≤ w1.heap.size := HB.out.size
    have hlt := HA2.out
    have hnew : ∀ k, (Value.slice A9 (A.u.length + 1) c9).ownBlock = some k → S k ∨ W.heap.size ≤ k := fun k hk => by
      rcases HT.out with q | q
      · exact .inl (HA.out.s.2.1 k (q ▸ hk))
      · rw [q] at hk
        injection hk with hk
        have := alloc_le w1 (.cells #[.int .i64 c, .int .i64 x] 33)
        exact .inr (by omega)
    have hne : some g ≠ (Value.slice A9 (A.u.length + 1) c9).ownBlock := own_ne HO.out HX.out (by decide)
    have hb0 : W.heap.size ≤ w9.heap.size := Nat.le_trans hsz (Nat.le_trans (alloc_le _ _) HG.out.size)
    refine ⟨rfl, ⟨vf, .slice A9 (A.u.length + 1) c9, vg, blk_put HX.out 3 _ rfl, ?_, HA.out.f1, ?_, ?_, fun k hk => ?_, .inl HA.out.s.1, hnew, fun k hk => .inl (HA.out.s.2.2.1 k hk), fun k hk => .inl (HA.out.s.2.2.2 k hk)⟩, ?_⟩
    · exact own_setCell (own_other hlt.fr HG.out (own_type_ne hlt.fr hlt.un (by decide))) (own_ne (own_other hlt.fr HG.out (own_type_ne hlt.fr hlt.un (by decide))) HX.out (by decide)) _
    · have e : pcs (A.u ++ [(c, x)]) = pcs A.u ++ pcs [(c, x)] := pcs_app _ _
      unfold PR
      rw [e, List.length_append]
      exact own_setCell HO.out hne _
    · have h1 : PR w9 0 vg A.go := own_other hlt.gt HG.out (by
        cases hv : vg.ownBlock with
        | none => exact .inl rfl
        | some k => exact .inr (fun q => hlt.ap k q.symm hv))
      exact own_setCell h1 (own_ne h1 HX.out (by decide)) _
    · rcases HT.out with q | q
      · exact HA.out.ap k (q ▸ hk)
      · intro hv
        rw [q] at hk
        injection hk with hk
        have := own_lt hlt.gt k hv
        omega
    · exact ((((Chg.of_below HB.out).alloc _).grown HG.out (fun k hk => .inl (HA.out.s.2.1 k hk))).set_ (.inl HA.out.s.1) _)
end
end Go.Proofs.Ytakbhnfmimnbhaa.Rn
