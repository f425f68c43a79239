/- lives. Conditions: none. -/
import Derived.Test.YtakbhnfmimnbhaaLn10
namespace Go.Proofs.Ytakbhnfmimnbhaa.Ln
open Go.RowKit Go.Proofs.Ytakbhnfmimnbhaa.PLineRises Go.Proofs.YtakbhnfmimnbhaaW.PrintWords Go.Proofs.YtakbhnfmimnbhaaW.PrintLast Go.Proofs.YtakbhnfmimnbhaaW.PrintMore
open Tm (Chg TR Shp sh0 rSet rDrop rDue)
set_option linter.unusedVariables false
set_option linter.unusedSimpArgs false

/-- A Line in the world W, made since w; all of its blocks came since then. -/
def Li (w W : World) (g : Nat) (last : Int) (ws : List S48) (n : Nat) (m : List (Int × Int)) : Prop := ∃ vl S ok, Lm W w.heap.size g vl last ws n m S ok ∧ Below w.heap.size w W ∧ ∀ k, ok k → w.heap.size ≤ k
section
variable {w W W' : World} {g n : Nat} {last : Int} {ws : List S48} {m : List (Int × Int)}
theorem Li.below (h : Li w W g last ws n m) (hb : Below W.heap.size W W') : Li w W' g last ws n m := by
  obtain ⟨vl, S, ok, h1, h2, h3⟩ := h
  exact ⟨vl, S, ok, h1.below hb, h2.trans (hb.mono h2.size), h3⟩
theorem Li.bel (h : Li w W g last ws n m) : Below w.heap.size w W := by
  obtain ⟨vl, S, ok, h1, h2, h3⟩ := h
  exact h2
theorem li_new (hb : Below w.heap.size w W) (hg : w.heap.size ≤ g) (hx : W.heap[g]? = some (.cells #[.slice none 0 0, .slice none 0 0, .map none, .int .i64 0] 44 (0, 0))) : Li w W g 0 [] 0 [] :=
  ⟨.slice none 0 0, _, fun _ => False, ⟨TR.new (sh := shL (.slice none 0 0) 0) hx hg, Kd.R_nil _ _ _ _ _, fun k hk => hk.elim⟩, hb, fun k hk => hk.elim⟩
theorem li_next {vl' : Value} {S S' ok ok' : Nat → Prop} {last' : Int} {ws' : List S48} {n' : Nat} {m' : List (Int × Int)} {vl : Value} (h : Lm W w.heap.size g vl last ws n m S ok) (hb : Below w.heap.size w W) (ho : ∀ k, ok k → w.heap.size ≤ k) (h' : Lm W' w.heap.size g vl' last' ws' n' m' S' ok') (hs : ∀ k, S' k → S k ∨ W.heap.size ≤ k) (hk : ∀ k, ok' k → ok k ∨ W.heap.size ≤ k) (hc : Chg (fun k => S k ∨ ok k) W W') : Li w W' g last' ws' n' m' :=
  ⟨vl', S', ok', h', hc.below hb hb.size (fun k q => q.elim (h.tr.base_le k) (ho k)), fun k q => (hk k q).elim (ho k) (fun z => Nat.le_trans hb.size z)⟩
theorem li_add {i : Nat} {av : Value} {okx : Nat → Prop} {b2 : Nat} (h : Li w W g last ws n m) (hp : Pl i ws last m n) (x : S48) (hx : kW.R 99 W b2 okx av x.f4) (hxg : ∀ k, okx k → k ≠ g) (hxo : okA x.f4) (hyes : accB ws x.f0 = true) : Calls Try.prog 14 #[.pointer (some ⟨g, 0, none⟩), wv x av] W fun e w' => e = .returned (.int .i64 (last + 1)) ∧ Li w w' g (last + 1) (ws ++ [{ x with f2 := last + 1 }]) (n + 1000000) (if 0 ≤ x.f3 then rSet m (last + 1) x.f3 else m) := by
  obtain ⟨vl, S, ok, h1, h2, h3⟩ := h
  have i60 := hp.i60
  have hl := hp.len
  have hml := hp.ml
  have hla := hp.la
  have hnn : n ≤ 60 * 1000000 := Nat.le_trans hp.nn (Nat.mul_le_mul_right _ i60)
  refine (add_yes h1 (by omega) x hx hxg hxo hyes (by omega) (by omega) (by omega) h2.size).mono ?_
  rintro e w' ⟨he, ⟨vl', S', ok', h', hs, hk⟩, hc⟩
  exact ⟨he, li_next h1 h2 h3 h' hs hk hc⟩
theorem li_drop {i : Nat} (h : Li w W g last ws n m) (hp : Pl i ws last m n) (t : Int) : Calls Try.prog 16 #[.pointer (some ⟨g, 0, none⟩), .int .i64 t] W fun e w' => e = .returned (.bool (fnd ws t).isSome) ∧ Li w w' g last (without ws t) (n + 1000000) (if (fnd ws t).isSome = true then rDrop m (tick ws t) else m) := by
  obtain ⟨vl, S, ok, h1, h2, h3⟩ := h
  have i60 := hp.i60
  have hl := hp.len
  have hml := hp.ml
  have hnn : n ≤ 60 * 1000000 := Nat.le_trans hp.nn (Nat.mul_le_mul_right _ i60)
  refine (drop_any h1 (by omega) (by omega) (by omega) (fun j hj => hp.bk j hj) t).mono ?_
  rintro e w' ⟨he, ⟨vl', S', ok', h', hs, hk⟩, hc⟩
  exact ⟨he, li_next h1 h2 h3 h' hs hk hc⟩
theorem li_turn {i : Nat} (h : Li w W g last ws n m) (hp : Pl i ws last m n) (hi : i + 1 ≤ 60) (t r : Int) : Calls Try.prog 17 #[.pointer (some ⟨g, 0, none⟩), .int .i64 t, .int .i64 r] W fun e w' => e = .returned (.bool (turnB ws t)) ∧ ∃ ws' n' m', Li w w' g last ws' n' m' ∧ Pl (i + 1) ws' last m' n' ∧ (turnB ws t = true → ws' = turnW ws t r ∧ m' = rDrop m (tick ws t)) ∧ (turnB ws t = false → ws' = ws ∧ m' = m) := by
  have i60 := hp.i60
  have hl := hp.len
  have hml := hp.ml
  have hnn : n ≤ 60 * 1000000 := Nat.le_trans hp.nn (Nat.mul_le_mul_right _ i60)
  obtain ⟨vl, S, ok, h1, h2, h3⟩ := h
  cases ht : turnB ws t with
  | true =>
    refine (turn_yes h1 (by omega) (by omega) (by omega) (fun j hj => hp.bk j hj) t r ht).mono ?_
    rintro e w' ⟨he, ⟨S', ok', h', hs, hk⟩, hc⟩
    exact ⟨he, _, _, _, li_next h1 h2 h3 h' hs hk hc, hp.turn hi t r, fun _ => ⟨rfl, rfl⟩, fun q => Bool.noConfusion q⟩
  | false =>
    refine (turn_no h1 (by omega) t r ht).mono ?_
    rintro e w' ⟨he, hb⟩
    exact ⟨he, _, _, _, Li.below ⟨vl, S, ok, h1, h2, h3⟩ hb, hp.up hi, fun q => Bool.noConfusion q, fun _ => ⟨rfl, rfl⟩⟩
end
def x3 : S48 := ⟨3, 0, 0, 9, [], 0, 0, 0, 0, 0⟩
def x1 : S48 := ⟨1, 0, 0, 5, [], 0, 0, 0, 0, 0⟩
def x2 : S48 := ⟨2, 0, 0, -1, [], 0, 0, 0, 0, 0⟩
def W1 : List S48 := [{ x3 with f2 := 1 }]
def W2 : List S48 := [{ x3 with f2 := 1 }, { x1 with f2 := 2 }]
def W3 : List S48 := [{ x3 with f2 := 1 }, { x1 with f2 := 2 }, { x2 with f2 := 3 }]
def M3 : List (Int × Int) := [(9, 1), (5, 2)]
theorem kR_nil (W : World) (b : Nat) : kW.R 99 W b (fun _ => False) (.slice none 0 0) ([] : List (List S100)) := Kd.R_nil _ _ _ _ _
theorem okA_nil : okA ([] : List (List S100)) := ⟨by decide, fun w hw => by cases hw⟩
theorem pl1 : Pl 1 W1 1 [(9, 1)] 1000000 := Pl.add Pl.new (by decide) x3 okA_nil (by decide)
theorem pl2 : Pl 2 W2 2 M3 2000000 := Pl.add pl1 (by decide) x1 okA_nil (by decide)
theorem pl3 : Pl 3 W3 3 M3 3000000 := Pl.add pl2 (by decide) x2 okA_nil (by decide)
theorem due3 : dueL W3 (rDue M3.length 9 M3 []).1 = [1, 3] := by decide +kernel
section
variable {w W : World} {g : Nat}
theorem live1 (h : Li w W g 0 [] 0 []) : Calls Try.prog 14 #[.pointer (some ⟨g, 0, none⟩), .agg #[.int .i64 3, .int .i64 0, .int .i64 0, .int .i64 9, .slice none 0 0, .int .i64 0, .int .i64 0, .int .i64 0, .int .i64 0, .int .u64 0]] W fun e w' => e = .returned (.int .i64 1) ∧ Li w w' g 1 W1 1000000 [(9, 1)] := li_add h Pl.new x3 (kR_nil _ 0) (fun k hk => hk.elim) okA_nil (by decide)
theorem live2 (h : Li w W g 1 W1 1000000 [(9, 1)]) : Calls Try.prog 14 #[.pointer (some ⟨g, 0, none⟩), .agg #[.int .i64 1, .int .i64 0, .int .i64 0, .int .i64 5, .slice none 0 0, .int .i64 0, .int .i64 0, .int .i64 0, .int .i64 0, .int .u64 0]] W fun e w' => e = .returned (.int .i64 2) ∧ Li w w' g 2 W2 2000000 M3 := li_add h pl1 x1 (kR_nil _ 0) (fun k hk => hk.elim) okA_nil (by decide)
theorem live3 (h : Li w W g 2 W2 2000000 M3) : Calls Try.prog 14 #[.pointer (some ⟨g, 0, none⟩), .agg #[.int .i64 2, .int .i64 0, .int .i64 0, .int .i64 (-1), .slice none 0 0, .int .i64 0, .int .i64 0, .int .i64 0, .int .i64 0, .int .u64 0]] W fun e w' => e = .returned (.int .i64 3) ∧ Li w w' g 3 W3 3000000 M3 := li_add h pl2 x2 (kR_nil _ 0) (fun k hk => hk.elim) okA_nil (by decide)
theorem liveD (h : Li w W g 3 W3 3000000 M3) : Calls Try.prog 37 #[.pointer (some ⟨g, 0, none⟩), .int .i64 9] W fun e w' => ∃ A c, e = .returned (.slice A 2 c) ∧ 2 ≤ c ∧ Kd.C (Kd.int .i64) w' A 2 [1, 3] ∧ Below W.heap.size W w' := by
  obtain ⟨vl, S, ok, h1, _, _⟩ := h
  have := due_any h1 (by decide) (by decide) (by decide) pl3.mb pl3.srt (fun j hj => pl3.bk j hj) 9
  rw [due3] at this
  exact this
theorem liveO (h : Li w W g 3 W3 3000000 M3) : Calls Try.prog 13 #[.pointer (some ⟨g, 0, none⟩), .int .i64 1] W fun e w' => ∃ A c, e = .returned (.tuple #[.agg #[.int .i64 1, .int .i64 0, .int .i64 2, .int .i64 5, .slice A 0 c, .int .i64 0, .int .i64 0, .int .i64 0, .int .i64 0, .int .u64 0], .bool true]) ∧ Below W.heap.size W w' := by
  obtain ⟨vl, S, ok, h1, _, _⟩ := h
  refine (of_yes h1 (by decide) (fun j hj => pl3.oks j hj) 1 (i := 1) (by decide)).mono ?_
  rintro e w' ⟨v4, he, hr, hb⟩
  obtain ⟨A, c, rfl⟩ := Kd.R_slice hr
  exact ⟨A, c, he, hb⟩
theorem liveA (h : Li w W g 3 W3 3000000 M3) : Calls Try.prog 18 #[.pointer (some ⟨g, 0, none⟩)] W fun e w' => ∃ A c, e = .returned (.slice A 3 c) ∧ Below W.heap.size W w' := by
  obtain ⟨vl, S, ok, h1, _, _⟩ := h
  refine (all_any h1 (by decide) (fun j hj => pl3.oks j hj)).mono ?_
  rintro e w' ⟨v, rfl, hr, hb⟩
  obtain ⟨A, c, rfl⟩ := Kd.R_slice hr
  exact ⟨A, c, rfl, hb⟩
theorem liveS {A : Option Addr} {c : Nat} (hr : Kd.C (Kd.int .i64) W A 2 [1, 3]) (hc : 2 ≤ c) : Calls Try.prog 36 #[.slice A 2 c, .slice (some ⟨W.heap.size, 0, none⟩) 2 2] (W.alloc (.cells #[.int .i64 1, .int .i64 3] 3)) fun e w' => e = .returned (.bool true) ∧ Below W.heap.size W w' := by
  have h1 : Kd.C (Kd.int .i64) (W.alloc (.cells #[.int .i64 1, .int .i64 3] 3)) (some ⟨W.heap.size, 0, none⟩) 2 [1, 3] := by
    refine ⟨rfl, by decide, fun _ => ⟨_, rfl, fun j p hj => ⟨[.int .i64 p], rfl, rfl, fun i u hu => ?_⟩⟩⟩
    have hb := blk_new W (.cells #[.int .i64 1, .int .i64 3] 3)
    rw [add_plain, blk_cell hb]
    rcases j with _ | _ | j
    · rcases i with _ | i
      · simp at hj hu
        subst hj
        subst hu
        rfl
      · simp at hu
    · rcases i with _ | i
      · simp at hj hu
        subst hj
        subst hu
        rfl
      · simp at hu
    · simp at hj
  refine (logjamlaw29_same.calls 10 A c [1, 3] _ 2 [1, 3] true _ (Kd.C_alloc hr _) hc h1 (Nat.le_refl 2) (by decide +kernel)).mono ?_
  rintro e w' ⟨he, hd⟩
  exact ⟨he, (below_alloc (Below.refl _ _) _).trans (hd.below.mono (below_alloc (Below.refl _ _) _).size)⟩
end
set_option maxHeartbeats 16000000 in
set_option maxRecDepth 100000 in
theorem lives_any (W : World) : Calls Try.prog 19 #[] W fun e w' => e = .returned (.bool true) ∧ Below W.heap.size W w' := by
  have hu44 := Try.underlying44
  have hu48 := Try.underlying48
  have hu85 := Try.underlying85
  have hu37 := Try.underlying37
  have hu38 := Try.underlying38
  go_enter Try.func19, Try.ntmps19
  go_upto_region 2 with ((with_reducible refine gate_dst (N := 9) rfl ?_); refine box_event ?hg (N := 9) ?hd (cs := #[.slice none 0 0, .slice none 0 0, .map none, .int .i64 0]) (t := 44) ?hr ?_; (case hd => rfl); (case hg => rfl); (case hr => first | (go_simp; done) | (go_simp; rfl)); intro g hgx w1 hbox hb; have B1 := Aside0.mk hb; have X1 := Aside0.mk hbox; have G1 := Aside0.mk hgx; clear hbox hb hgx)
  have L1 := Aside0.mk (show Li W w1 g 0 [] 0 [] from li_new B1.out (by rw [G1.out]; exact Nat.le_refl _) X1.out)
  clear B1 X1 G1
  have A1 := Aside0.mk (live1 L1.out)
  have A2 := Aside0.mk (fun (w2 : World) (h : Li W w2 g 1 W1 1000000 [(9, 1)]) => live2 h)
  have A3 := Aside0.mk (fun (w2 : World) (h : Li W w2 g 2 W2 2000000 M3) => live3 h)
  go_upto_region 3 with (first
    | (go_at_call 14; (with_reducible refine A1.out.mono ?_); rintro e w2 ⟨rfl, h⟩; have L2 := Aside0.mk h; clear h)
    | (go_at_call 14; (with_reducible refine (A2.out _ L2.out).mono ?_); rintro e w3 ⟨rfl, h⟩; have L3 := Aside0.mk h; clear h)
    | (go_at_call 14; (with_reducible refine (A3.out _ L3.out).mono ?_); rintro e w4 ⟨rfl, h⟩; have L4 := Aside0.mk h; clear h))
  clear A1 A2 A3 L1
  have D4 := Aside0.mk (liveD L4.out)
  go_upto_region 4 with (go_at_call 37; (refine D4.out.mono ?_); rintro e w5 ⟨Ad, cd, rfl, hcd, hr, hb⟩; have HCD := Aside0.mk hcd; have R5 := Aside0.mk hr; have B5 := Aside0.mk hb; clear hcd hr hb)
  have L5 := Aside0.mk (L4.out.below B5.out)
  have O5 := Aside0.mk (liveO L5.out)
  go_upto_region 5 with (first
    | (go_at_call 13; (refine O5.out.mono ?_); rintro e w6 ⟨A6, c6, rfl, hb⟩; have B6 := Aside0.mk hb; clear hb)
    | ((with_reducible refine gate_dst (N := 6) rfl ?_); refine box_event ?hg (N := 6) ?hd (cs := #[.int .i64 0, .int .i64 0, .int .i64 0, .int .i64 0, .slice none 0 0, .int .i64 0, .int .i64 0, .int .i64 0, .int .i64 0, .int .u64 0]) (t := 48) ?hr ?_; (case hd => rfl); (case hg => rfl); (case hr => first | (go_simp; done) | (go_simp; rfl)); intro gx hgx w7 hbox hb; have B7 := Aside0.mk hb; have X7 := Aside0.mk hbox; have G7 := Aside0.mk hgx; clear hbox hb hgx)
    | (refine wpList_store_row rfl 48 (.tmp 6) (.tmp 24) rfl gx _ rfl rfl 48 _ X7.out info48s rfl (by simp [Value.oneCell']) ?_))
  have B8 := Aside0.mk (show Below w6.heap.size w6 (w7.setRow gx #[.int .i64 1, .int .i64 0, .int .i64 2, .int .i64 5, .slice A6 0 c6, .int .i64 0, .int .i64 0, .int .i64 0, .int .i64 0, .int .u64 0]) from rowb B7.out (by rw [G7.out]; exact Nat.le_refl _) _)
  have X8 := Aside0.mk (setRow_heap w7 gx _ #[.int .i64 1, .int .i64 0, .int .i64 2, .int .i64 5, .slice A6 0 c6, .int .i64 0, .int .i64 0, .int .i64 0, .int .i64 0, .int .u64 0] _ _ X7.out)
  clear X7 B7 G7
  generalize w7.setRow gx #[.int .i64 1, .int .i64 0, .int .i64 2, .int .i64 5, .slice A6 0 c6, .int .i64 0, .int .i64 0, .int .i64 0, .int .i64 0, .int .u64 0] = w8 at *
  have L8 := Aside0.mk ((L5.out.below B6.out).below B8.out)
  have R8 := Aside0.mk (Kd.C_below (Kd.C_below R5.out B6.out) B8.out)
  have S8 := Aside0.mk (liveS R8.out HCD.out)
  have c2 := (blk_cell X8.out 2).trans rfl
  go_wp2_with (first
    | (go_at_call 36; (refine S8.out.mono ?_); rintro e w9 ⟨rfl, hb⟩; have B9 := Aside0.mk hb; have L9 := Aside0.mk (L8.out.below hb); have c9 := (blk_cell (blk_below X8.out hb) 2).trans rfl; clear hb)
    | (go_at_call 18; (refine (liveA L9.out).mono ?_); rintro e w10 ⟨A10, c10, rfl, hb⟩; have L10 := Aside0.mk (L9.out.below hb); clear hb))
  go_ret
  exact ⟨rfl, L10.out.bel⟩
end Go.Proofs.Ytakbhnfmimnbhaa.Ln
