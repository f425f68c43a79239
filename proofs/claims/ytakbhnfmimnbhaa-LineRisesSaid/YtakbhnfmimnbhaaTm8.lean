/- Timers: Set. Conditions: none. -/
import Derived.Test.YtakbhnfmimnbhaaTm7
import Derived.WalkSpells
namespace Go.Proofs.Ytakbhnfmimnbhaa.Tm
open Go.RowKit Go.Proofs.YtakbhnfmimnbhaaW.PrintWords Go.Proofs.YtakbhnfmimnbhaaW.PrintLast
open Go.Maps (int_keyed keyOf_int_mk)
set_option linter.unusedVariables false
set_option linter.unusedSimpArgs false
variable {sh : Shp}
def setF (id at_ : Int) (xs : List (Int × Int)) (p : Int → Option Int) : List (Int × Int) × (Int → Option Int) :=
  upF (dropF id xs p).1.length (at_, id) (dropF id xs p).1.length ((dropF id xs p).1 ++ [(at_, id)]) (dropF id xs p).2
section
variable {W W' : World} {base g n : Nat} {xs : List (Int × Int)} {p : Int → Option Int} {S S2 : Nat → Prop}
theorem T.made {v : Value} (h : T0 sh W base g v) (hb : base ≤ W.heap.size) (n : Nat) : T sh ((W.alloc (.map #[] 0)).setCell ⟨g, sh.o + 1, none⟩ (.map (some W.heap.size))) base g v W.heap.size n [] (fun _ => none) := by
  have hne : W.heap.size ≠ g := fun e => by have := blk_lt h.hg; omega
  refine ⟨blk_put (blk_below h.hg (below_alloc (Below.refl _ _) _)) (sh.o + 1) _ (sh.set1 _ _ _), Kd.R_far (p := ⟨g, sh.o + 1, none⟩) (Kd.R_below h.hr (below_alloc (Below.refl _ _) _)) (fun k hk => h.vne k hk) _, ⟨.map [], ?_, Vw.nil⟩, h.gb, hb⟩
  exact ((World.ownsMap_made W Try.prog 3 (plainElem Try.prog 3)).setCell (a := ⟨g, sh.o + 1, none⟩) hne _).mono (Nat.zero_le _)
theorem T.appended {w4 : World} {b : Nat} {v v4 : Value} {x : Int × Int} (h : T sh W base g v b n xs p) (hr : pk.R 145 w4 base (fun _ => True) v4 (xs ++ [x])) (hg : W.grownBy w4 v.ownBlock) (hat : v4.ownBlock = v.ownBlock ∨ ∃ b, v4.ownBlock = some b ∧ W.heap.size ≤ b) :
    T sh (w4.setCell ⟨g, sh.o, none⟩ v4) base g v4 b n (xs ++ [x]) p := by
  obtain ⟨D, h1, h2⟩ := h.hm
  have hne : ∀ k, some k = v4.ownBlock → k ≠ g := fun k hk => by
    rcases hat with e | ⟨b2, e, h3⟩
    · exact h.vne_g k (hk.trans e)
    · rw [e] at hk
      injection hk with hk
      have := h.g_lt
      omega
  have hgb : w4.heap[g]? = _ := (hg.block g h.g_lt (fun e => h.vne_g g e rfl)).trans h.hg
  refine ⟨blk_put hgb sh.o _ (sh.set0 _ _ _), Kd.R_far (p := ⟨g, sh.o, none⟩) (Kd.R_tight rfl hr) hne v4, ⟨D, (h1.kept hg (fun e => h.vne_b b e rfl)).setCell h.gne.symm _, h2⟩, h.gb, h.bb⟩
theorem Chg.narrow {w w' : World} (h : Chg (fun k => S k ∨ w.heap.size ≤ k) w w') : Chg S w w' := ⟨h.os, h.tape, h.output, h.size, fun k hk hn => h.block k hk (fun q => q.elim hn (fun q => by omega))⟩
theorem Wx.snoc {x : Int × Int} (hw : Wx xs) (hx : (Lit.int .i64 x.2).wf = true) : Wx (xs ++ [x]) := fun j => by
  rw [List.getD_eq_getElem?_getD]
  by_cases h : j < xs.length
  · rw [List.getElem?_append_left h, ← List.getD_eq_getElem?_getD]
    exact hw j
  · by_cases e : j = xs.length
    · subst e
      simpa using hx
    · rw [List.getElem?_eq_none (by simp; omega)]
      decide
set_option maxHeartbeats 4000000 in
set_option maxRecDepth 100000 in
theorem set_any (h : TT sh W base g n xs p S) (hw : Wx xs) (hp : PB xs p) {id at_ : Int} (wid : (Lit.int .i64 id).wf = true) (hn : n + 5 * xs.length < 40000000000) (hwd : Wx (dropF id xs p).1) (hld : (dropF id xs p).1.length ≤ xs.length) (hbase : base ≤ W.heap.size) :
    Calls Try.prog 54 #[.pointer (some ⟨g, sh.o, none⟩), .int .i64 id, .int .i64 at_] W fun e w' => e = .returned (.tuple #[]) ∧
      Aside0 (∃ S', TT sh w' base g (n + 4 * xs.length + 10) (setF id at_ xs p).1 (setF id at_ xs p).2 S' ∧ ∀ k, S' k → S k ∨ W.heap.size ≤ k) ∧ Chg S W w' := by
  have hu28 := Try.underlying42
  have hu77 := Try.underlying145
  have hmm := @run_makeMap Try.prog
  have HD := Aside0.mk (drop_any h hw hp wid (by omega))
  have HN := Aside0.mk (show n + 5 * xs.length < 40000000000 ∧ (dropF id xs p).1.length ≤ xs.length ∧ base ≤ W.heap.size from ⟨hn, hld, hbase⟩)
  have HWD := Aside0.mk hwd
  have WID := Aside0.mk wid
  obtain ⟨ys, hys⟩ : ∃ ys, ys = (dropF id xs p).1 := ⟨_, rfl⟩
  obtain ⟨q, hq⟩ : ∃ q, q = (dropF id xs p).2 := ⟨_, rfl⟩
  have HE := Aside0.mk (show setF id at_ xs p = upF ys.length (at_, id) ys.length (ys ++ [(at_, id)]) q from by unfold setF; rw [← hys, ← hq])
  rw [← hys, ← hq] at HD
  rw [← hys] at HN HWD
  clear h hw hp wid hn hwd hld hbase hys hq
  go_enter Try.func54, Try.ntmps54
  go_upto_region 2 with (go_at_call 56; refine HD.out.mono ?_; rintro e w2 ⟨rfl, HT2, hC2⟩; have HC2 := Aside0.mk hC2; clear hC2)
  obtain ⟨S2, HT2, HS2⟩ := HT2.out
  have HS2 := Aside0.mk HS2
  obtain ⟨ob, c1⟩ : ∃ ob : Option Nat, w2.cell? ⟨g, sh.o + 1, none⟩ = some (.map ob) := by
    rcases HT2 with ⟨v, h, _⟩ | ⟨gh, m, c, b, h, _⟩
    · exact ⟨none, (blk_cell h.hg (sh.o + 1)).trans (sh.get1 _ _)⟩
    · exact ⟨some b, h.c1⟩
  have HT2 := Aside0.mk HT2
  have heq : ∀ X : World, (binOp .eql 40 (.map ob) (.map none)).run Try.prog X = .ok (.bool ob.isNone) X := fun X => run_eql_map_nil X 40 3 3 ob Try.underlying40
  go_upto_if 15 with (fail)
  go_cut [15] (fun v15 w3 => Aside0 (∃ v b, T sh w3 base g v b (n + 3 * xs.length + 4) ys q ∧ (∀ k, St g b v k → S k ∨ W.heap.size ≤ k)) ∧ Aside0 (Chg S W w3))
  case first =>
    rcases HT2.out with ⟨v, h, rfl, rfl, rfl⟩ | ⟨gh, m, c, b, h, rfl⟩
    · have e := (blk_cell h.hg (sh.o + 1)).trans (sh.get1 _ _)
      have e : w2.cell? ⟨g, sh.o + 1, none⟩ = some (.map none) := e
      rw [c1] at e
      obtain rfl : ob = none := by injection e with e; injection e
      have hq := blk_below h.hg (below_alloc (Below.refl _ _) (.map #[] 0))
      have cX : (w2.alloc (.map #[] 0)).cell? ⟨g, sh.o + 1, none⟩ = some (.map none) := (blk_cell hq (sh.o + 1)).trans (sh.get1 _ _)
      have fX : (w2.alloc (.map #[] 0)).frozen? ⟨g, sh.o + 1, none⟩ = false := blk_frozen hq (sh.o + 1)
      have HM := Aside0.mk (T.made h (by have := HC2.out.size; have := HN.out; omega) (n + 3 * xs.length + 4))
      have HCM := Aside0.mk ((HC2.out.alloc (.map #[] 0)).set_ (p := ⟨g, sh.o + 1, none⟩) (HS2.out g (.inl rfl)) (.map (some w2.heap.size)))
      have HSM := Aside0.mk (show ∀ k, St g w2.heap.size v k → S k ∨ W.heap.size ≤ k from fun k hk => by
        rcases hk with rfl | rfl | hk
        · exact HS2.out k (.inl rfl)
        · exact .inr HC2.out.size
        · exact HS2.out k (.inr hk))
      clear h e hq
      go_wp2
      first | go_meet | (go_step; go_meet) | (go_step; go_step; go_meet)
      case rel => exact ⟨⟨_, _, HM.out, HSM.out⟩, HCM⟩
    · have e := h.c1
      rw [c1] at e
      obtain rfl : ob = some b := by injection e with e; injection e
      have HM := Aside0.mk h
      clear h e
      go_wp2
      first | go_meet | (go_step; go_meet) | (go_step; go_step; go_meet)
      case rel => exact ⟨⟨_, _, HM.out, fun k hk => HS2.out k (St_SB.1 hk)⟩, HC2⟩
  case rest =>
  obtain ⟨⟨v, b, hT, hS⟩, HC3⟩ := hcut
  clear HT2 HC2 c1 HS2
  obtain ⟨Av, cv, rfl⟩ := hT.form
  have HT3 := Aside0.mk hT
  have HS3 := Aside0.mk hS
  clear hT hS
  have c0 := HT3.out.c0
  have fg : wc.frozen? ⟨g, sh.o, none⟩ = false := blk_frozen HT3.out.hg sh.o
  have HR3 := Aside0.mk (Kd.R_mono HT3.out.hr (ok' := fun _ => True) (fun _ _ => trivial))
  have hyl : ys.length * 16 ≤ 640000000000 := by have := HN.out; omega
  have HYL := Aside0.mk hyl
  have HBW := Aside0.mk (show base ≤ wc.heap.size from by have := HC3.out.size; have := HN.out; omega)
  clear hyl
  go_upto_region 5 with ((with_reducible refine gate_dst (N := 29) rfl ?_); refine Kd.R_append pk (w0 := wc) base rfl (.tmp 24) (.tmp 28) 39 145 (.agg #[.int .i64 0, .int .i64 0]) 16 rfl Try.underlying39 info77 rfl (by decide) (by decide) (.slice Av ys.length cv) ys (at_, id) [.int .i64 at_, .int .i64 id] (fun _ => True) (fun _ => False) rfl rfl ⟨[.int .i64 at_], [.int .i64 id], rfl, rfl, rfl⟩ (fun _ hk => hk.elim) (fun _ _ => trivial) HR3.out (Below.refl _ _) HBW.out (by have := HYL.out; omega) ?_; intro v4 w4 hr4 hb4 hg4 hat4; obtain ⟨A4, c4, rfl⟩ := Kd.R_slice hr4; have HR4 := Aside0.mk hr4; have HG4 := Aside0.mk hg4; have HAT4 := Aside0.mk hat4; have k0 : w4.cell? ⟨g, sh.o, none⟩ = some (.slice Av ys.length cv) := (blk_cell ((hg4.block g HT3.out.g_lt (fun e => HT3.out.vne_g g e rfl)).trans HT3.out.hg) sh.o).trans (sh.get0 _ _); have kf : w4.frozen? ⟨g, sh.o, none⟩ = false := blk_frozen ((hg4.block g HT3.out.g_lt (fun e => HT3.out.vne_g g e rfl)).trans HT3.out.hg) sh.o; clear hr4 hb4 hg4 hat4)
  have HT5 := Aside0.mk (HT3.out.appended HR4.out HG4.out HAT4.out)
  have HB4 := Aside0.mk (show ∀ k, some k = (Value.slice A4 (ys ++ [(at_, id)]).length c4).ownBlock → S k ∨ W.heap.size ≤ k from fun k hk => by
    rcases HAT4.out with h | ⟨b2, h1, h2⟩
    · exact HS3.out k (.inr (.inr (hk.trans h)))
    · rw [h1] at hk
      have := HC3.out.size
      injection hk with hk
      exact .inr (by omega))
  have HC5 := Aside0.mk (Chg.narrow (Chg.trans (S := fun k => S k ∨ W.heap.size ≤ k) (HC3.out.mono (fun k hk => .inl hk)) (Chg.trans (S := fun k => S k ∨ W.heap.size ≤ k) (.grown HG4.out (fun k hk => HS3.out k (.inr (.inr hk.symm)))) ((Chg.refl _ _).set_ (p := ⟨g, sh.o, none⟩) (.inl (HS3.out g (.inl rfl))) (.slice A4 (ys ++ [(at_, id)]).length c4)))))
  obtain ⟨g4, c4', e4, _⟩ := Kd.R_form HR4.out (by simp)
  obtain ⟨rfl, _, rfl⟩ : A4 = some ⟨g4, 0, none⟩ ∧ True ∧ c4 = c4' := by injection e4 with a b c; exact ⟨a, trivial, c⟩
  clear e4 HT3 HR3 HR4 HG4 HAT4 HC3 c0 fg k0 kf
  have hlen : (ys ++ [(at_, id)]).length = ys.length + 1 := by simp
  have HLEN := Aside0.mk hlen
  rw [hlen] at HT5 HC5 HB4
  clear hlen
  obtain ⟨k4, hk4⟩ : ∃ k4, k4 = ys.length + 1 := ⟨_, rfl⟩
  obtain ⟨k5, hk5⟩ : ∃ k5, k5 = ys.length := ⟨_, rfl⟩
  rw [← hk4] at HT5 HC5 HB4 ⊢
  have HK := Aside0.mk (show k4 = ys.length + 1 ∧ k5 = ys.length from ⟨hk4, hk5⟩)
  have e1 : IntKind.i64.wrap ((k4 : Int) - 1) = (k5 : Int) := by have := HYL.out; rw [i64_w]; unfold wrap64; omega
  clear hk4 hk5
  generalize w4.setCell ⟨g, sh.o, none⟩ (.slice (some ⟨g4, 0, none⟩) k4 c4) = w5 at *
  have c0 := HT5.out.c0
  have HWS := Aside0.mk (HWD.out.snoc (x := (at_, id)) WID.out)
  have HG := Aside0.mk (show (ys ++ [(at_, id)]).getD k5 (0, 0) = (at_, id) from by rw [HK.out.2]; simp)
  have HN2 := Aside0.mk (show k5 < (ys ++ [(at_, id)]).length ∧ n + 3 * xs.length + 4 + k5 < 100000000000 ∧ (ys ++ [(at_, id)]).length < 100000000000 from by have := HK.out; have := HN.out; have := HLEN.out; have := HYL.out; omega)
  go_wp2_with (go_at_call 86; refine (up_any HT5.out HWS.out (i := k5) HN2.out.1 HN2.out.2.1 HN2.out.2.2).mono ?_; rintro e w6 ⟨rfl, HT6, hC6⟩; have HC6 := Aside0.mk hC6; clear hC6)
  refine bodyPost_end (results_none rfl _ _ _) rfl ?_
  rw [HG.out, HK.out.2, ← HE.out] at HT6
  refine ⟨rfl, ⟨_, .inr ⟨g4, k4, c4, b, HT6.out.mono (by have := HN.out; omega), rfl⟩, fun k hk => ?_⟩, ?_⟩
  · rcases hk with rfl | rfl | rfl
    · exact HS3.out k (.inl rfl)
    · exact HS3.out k (.inr (.inl rfl))
    · exact HB4.out k (by simp [Value.ownBlock])
  · refine Chg.narrow (Chg.trans (S := fun k => S k ∨ W.heap.size ≤ k) (HC5.out.mono (fun k hk => .inl hk)) (HC6.out.mono (fun k hk => ?_)))
    rcases hk with rfl | rfl | hk
    · exact HS3.out k (.inl rfl)
    · exact HS3.out k (.inr (.inl rfl))
    · exact HB4.out k hk
end
end Go.Proofs.Ytakbhnfmimnbhaa.Tm
