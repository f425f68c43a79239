/- Rights: add. Conditions: none. -/
import Derived.Test.YtjcjhmnfknenlaaDoorRt2
import Derived.Carry
import Derived.WalkSpells
namespace Go.Proofs.YtjcjhmnfknenlaaDoor.Rt
open Go.RowKit Go.Proofs.YtjcjhmnfknenlaaDoor.PRightNil Go.Proofs.YtjcjhmnfknenlaaDoorW.PrintWords Go.Proofs.YtjcjhmnfknenlaaDoorW.PrintLast
open Ch (Chg)
set_option linter.unusedVariables false
set_option linter.unusedSimpArgs false

def mayB (t o : Int) : Bool := decide (t ≥ 0) && (decide (t < 64) && (decide (o ≥ 0) && decide (o < 32)))
theorem may_f (t o : Int) : right_may.f t o = some (mayB t o) := by
  unfold right_may.f mayB
  by_cases h1 : t ≥ 0
  · by_cases h2 : t < 64
    · by_cases h3 : o ≥ 0
      · rw [if_pos h1, if_pos h2, if_pos h3, decide_eq_true h1, decide_eq_true h2, decide_eq_true h3]; rfl
      · rw [if_pos h1, if_pos h2, if_neg h3, decide_eq_true h1, decide_eq_true h2, decide_eq_false h3]; rfl
    · rw [if_pos h1, if_neg h2, decide_eq_true h1, decide_eq_false h2]; rfl
  · rw [if_neg h1, decide_eq_false h1]; rfl
def add1 (p : Int → Int → Bool) (t o : Int) : Int → Int → Bool := if mayB t o = true then upd p t o else p
def adds (p : Int → Int → Bool) (t : Int) (L : List Nat) : Int → Int → Bool := L.foldl (fun p (o : Nat) => add1 p t (o : Int)) p
theorem adds_snoc (p : Int → Int → Bool) (t : Int) (L : List Nat) (o : Nat) : adds p t (L ++ [o]) = add1 (adds p t L) t (o : Int) := by
  unfold adds
  rw [List.foldl_append]
  rfl
theorem low_64 (s : Nat) : (Gr.low s 64).length ≤ 64 := Bl.low_len s

set_option maxHeartbeats 4000000 in
set_option maxRecDepth 100000 in
theorem add_any {W : World} {g N : Nat} {m : Option Nat} {p : Int → Int → Bool} {t : Int} (wt : Wf t) {s : Nat} (hs : s < Bt.top) (hN : N ≤ 1000000) (hg0 : g ≠ 0) (hT : Tb.Tab W) (hA : At W g m N p) :
    Calls Tryd.prog 28 #[.pointer (some ⟨g, 0, none⟩), .int .i64 t, .int .u64 (s : Int)] W fun e w' => e = .returned (.tuple #[]) ∧ ∃ m', At w' g m' (N + 64) (adds p t (Gr.low s 64)) ∧ Chg (fun k => k = g ∨ m = some k) W w' ∧ (∀ b, m' = some b → m = some b ∨ W.heap.size ≤ b) := by
  have HT := Aside0.mk hT
  have HA := Aside0.mk hA
  have HLI := Aside0.mk (list_f hs)
  have HU := Aside0.mk (fun i => low_lt (s := s) (i := i))
  have HU64 := Aside0.mk (low_64 s)
  have WT := Aside0.mk wt
  have HNB := Aside0.mk hN
  have HG0 := Aside0.mk hg0
  clear hT hA hs wt hN hg0
  generalize Gr.low s 64 = U at *
  have c0 := HA.out.c0
  have fz := blk_frozen HA.out.hg 0
  have heq : ∀ (r : Option Nat) (X : World), (binOp .eql 38 (.map r) (.map none)).run Tryd.prog X = .ok (.bool r.isNone) X := fun r X => run_eql_map_nil X 38 52 55 r Tryd.underlying38
  cases m with
  | none =>
    have hmm := @run_makeMap Tryd.prog
    have HP := Aside0.mk (show p = fun _ _ => false from by
      rcases HA.out.hm with ⟨_, h⟩ | ⟨b, D, h, _⟩
      · exact h
      · cases h)
    have c1 : (W.alloc (.map #[] 0)).cell? ⟨g, 0, none⟩ = some (.map none) := (blk_cell (blk_alloc HA.out.hg (.map #[] 0)) 0).trans rfl
    have fz1 := blk_frozen (blk_alloc HA.out.hg (.map #[] 0)) 0
    go_enter Tryd.func28, Tryd.ntmps28
    go_upto_region 2 with (fail)
    obtain ⟨b, hb⟩ : ∃ b, b = W.heap.size := ⟨_, rfl⟩
    rw [← hb]
    have HGL := Aside0.mk (show g < b from by rw [hb]; exact blk_lt HA.out.hg)
    have HBX := Aside0.mk (show (W.alloc (.map #[] 0)).heap[b]? = some (.map #[] 0) from by rw [hb]; exact blk_new W _)
    have HA1 := Aside0.mk (show At ((W.alloc (.map #[] 0)).setCell ⟨g, 0, none⟩ (.map (some b))) g (some b) N p from ⟨blk_put (blk_alloc HA.out.hg _) 0 _ rfl, .inr ⟨b, .map [], rfl, by
      have h1 := World.ownsMap_made W Tryd.prog 52 (unitElem (H := Unit))
      rw [← hb] at h1
      exact (h1.setCell (a := ⟨g, 0, none⟩) (by show b ≠ g; have := HGL.out; omega) _).mono (Nat.zero_le _), by rw [HP.out]; exact Vw.nil⟩⟩)
    have HC1 := Aside0.mk (show Chg (fun k => k = g ∨ (none : Option Nat) = some k) W ((W.alloc (.map #[] 0)).setCell ⟨g, 0, none⟩ (.map (some b))) from ((Chg.refl _ W).alloc _).set_ (.inl (.inl rfl)) _)
    have HBN := Aside0.mk (show ∀ b', some b = some b' → (none : Option Nat) = some b' ∨ W.heap.size ≤ b' from fun b' h => .inr (by injection h with h; omega))
    have HCG := Aside0.mk (show ∀ w1 w2 : World, Chg (fun k => k = g ∨ (none : Option Nat) = some k) W w1 → w1.grownBy w2 (some b) → Chg (fun k => k = g ∨ (none : Option Nat) = some k) W w2 from fun w1 w2 h1 h2 => ⟨h2.os.trans h1.os, h2.tape.trans h1.tape, h2.output.trans h1.output, Nat.le_trans h1.size h2.size, fun k hk hn => (h2.block k (Nat.lt_of_lt_of_le hk h1.size) (fun e => by injection e with e; omega)).trans (h1.block k hk hn)⟩)
    have HSZ := Aside0.mk (show b < ((W.alloc (.map #[] 0)).setCell ⟨g, 0, none⟩ (.map (some b))).heap.size from by
      have h1 := HA1.out.hg
      rw [hb]
      simp [World.setCell])
    have HTW := Aside0.mk (show Tb.Tab ((W.alloc (.map #[] 0)).setCell ⟨g, 0, none⟩ (.map (some b))) from ⟨by have := HT.out.1; simp [World.setCell], fun j hj => by
      rw [World.cell?_setCell_far _ _ _ _ (by show g ≠ 0; exact HG0.out)]
      exact (Tb.alloc HT.out _).2 j hj⟩)
    clear hb c0 fz c1 fz1 hmm
    generalize (W.alloc (.map #[] 0)).setCell ⟨g, 0, none⟩ (.map (some b)) = w1 at *
    obtain ⟨B0, hB0⟩ : ∃ B0, B0 = w1.heap.size := ⟨_, rfl⟩
    have HB0 := Aside0.mk (show B0 ≤ w1.heap.size from by omega)
    have HBB := Aside0.mk (show b < B0 from by rw [hB0]; exact HSZ.out)
    clear hB0
    go_upto_block 0 with (go_at_call 30; (with_reducible refine (bits_Set_List.calls _ _ _ HTW.out HLI.out).mono ?_); rintro e w8 ⟨v8, rfl, ho, hb⟩; have HB8 := Aside0.mk hb; have HR8 := Aside0.mk (Row.of (B := B0) ho HB0.out); obtain ⟨A8, c8, e8⟩ := Kd.R_slice ho; subst e8; clear ho hb)
    have HA8 := Aside0.mk (HA1.out.below HB8.out)
    have HC8 := Aside0.mk (HC1.out.trans (Chg.of_below HB8.out))
    clear HA1 HC1
    obtain ⟨n, hn⟩ : ∃ n, n = (Bl.ints U).length := ⟨_, rfl⟩
    rw [← hn] at HR8
    try rw [← hn]
    have HN := Aside0.mk (show n = U.length from by rw [hn, Bl.ints_len])
    clear hn
    go_wp2
    go_loopg [20] n (fun kq v20 w' => ∃ (i : Nat), v20 = .int .i64 (i : Int) ∧ Aside0 (i + kq = n) ∧ Aside0 (At w' g (some b) (N + i) (adds p t (U.take i))) ∧ Aside0 (Chg (fun k => k = g ∨ (none : Option Nat) = some k) W w') ∧ Aside0 (Row w' B0 (.slice A8 n c8) U))
    case atStart => exact ⟨0, rfl, ⟨by omega⟩, HA8, HC8, HR8⟩
    case round =>
      clear HA8 HC8 HR8
      obtain ⟨i, rfl, HK, HAi, HCi, HRi⟩ := hrel
      rcases gk with _ | k1
      · have d1 : decide ((i : Int) < (n : Int)) = false := decide_eq_false (by have := HK.out; omega)
        have d2 : decide (i < n) = false := decide_eq_false (by have := HK.out; omega)
        have HAE := Aside0.mk (show At wr g (some b) (N + 64) (adds p t U) from by
          have h := HAi.out
          rw [List.take_of_length_le (by have h1 := HK.out; have h2 := HN.out; omega)] at h
          exact h.mono (by have h1 := HK.out; have h2 := HN.out; have h3 := HU64.out; omega))
        go_wp2
        refine bodyPost_end (results_none rfl _ _ _) rfl ?_
        exact ⟨rfl, some b, HAE.out, HCi.out, HBN.out⟩
      · have d1 : decide ((i : Int) < (n : Int)) = true := decide_eq_true (by have := HK.out; omega)
        have d2 : decide (i < n) = true := decide_eq_true (by have := HK.out; omega)
        have p1 : (0 ≤ (i : Int)) = True := eq_true (by omega)
        have p2 : ((i : Int) < (n : Int)) = True := eq_true (by have := HK.out; omega)
        have hil : i < U.length := by have h1 := HK.out; have h2 := HN.out; omega
        have hrd := (Kd.R_reads' HRi.out)
        obtain ⟨ad, ead, hx⟩ := Kd.at_int hrd.2.2 (i : Int) (by omega) (by rw [Bl.ints_len]; omega)
        subst ead
        rw [rd_ints, Int.toNat_natCast] at hx
        have HO := Aside0.mk (HU.out i hil)
        have HTS := Aside0.mk (show adds p t (U.take (i + 1)) = add1 (adds p t (U.take i)) t ((U.getD i 0 : Nat) : Int) from by rw [take_snoc U hil, adds_snoc])
        generalize U.getD i 0 = o at *
        have wo := wf_nat (show o < 9223372036854775808 by have := HO.out; omega)
        have hkey := key_mk WT.out wo
        have c0 := HAi.out.c0
        have ew : Aside0 (wrap64 ((i : Int) + 1) = (i : Int) + 1) := ⟨by have h2 := Kd.C_max hrd.2.2; have h3 := HK.out; rw [Bl.ints_len] at h2; have h4 := HN.out; unfold wrap64; omega⟩
        have HMF := Aside0.mk (may_f t (o : Int))
        clear hrd hil
        unfold add1 at HTS
        cases hq : mayB t (o : Int) with
        | false =>
          rw [hq] at HMF HTS
          replace HTS := Aside0.mk (HTS.out.trans (if_neg (by decide)))
          go_wp2_with (go_at_call 34; (with_reducible refine (right_may.calls _ _ _ _ HMF.out).mono ?_); rintro e w9 ⟨rfl, ⟨nd9, rfl⟩⟩)
          go_roundg k1
          case measure => omega
          case rel => exact ⟨i + 1, by rw [ew.out]; simp, ⟨by have := HK.out; omega⟩, ⟨by rw [HTS.out]; exact (HAi.out.drewN _).mono (by omega)⟩, ⟨HCi.out.drewN _⟩, ⟨HRi.out.below (pw_below_drewN (Below.refl _ _) _)⟩⟩
        | true =>
          rw [hq] at HMF HTS
          replace HTS := Aside0.mk (HTS.out.trans (if_pos rfl))
          obtain ⟨D, hown, hv⟩ : ∃ D, wr.ownsMap Tryd.prog 52 (unitElem (H := Unit)) b (N + i) D ∧ Vw D (adds p t (U.take i)) := by
            rcases HAi.out.hm with ⟨h, _⟩ | ⟨b', D, h, ho, hv⟩
            · cases h
            · injection h with h; subst h; exact ⟨D, ho, hv⟩
          have HV := Aside0.mk (hv.put WT.out wo (.agg []))
          have HGB := Aside0.mk (show g ≠ b from fun e => by
            obtain ⟨es, clock, hb, _⟩ := hown
            have h1 := HAi.out.hg
            rw [e, hb] at h1
            cases h1)
          have HMX := Aside0.mk (show N + i < maxLen from by have h1 := HNB.out; have h2 := HK.out; have h3 := HN.out; have h4 := HU64.out; unfold maxLen; omega)
          clear hv
          have hown9 : ∀ nd, (wr.drewN nd).ownsMap Tryd.prog 52 (unitElem (H := Unit)) b (N + i) D := fun nd => hown
          go_wp2_with (first
            | (go_at_call 34; (with_reducible refine (right_may.calls _ _ _ _ HMF.out).mono ?_); rintro e w9 ⟨rfl, ⟨nd9, rfl⟩⟩)
            | (at_mapUpdate; refine wpList_mapUpdate_own _ rfl _ _ _ 38 rfl 52 55 law Tryd.underlying38 _ b (N + i) D rfl (hown9 _) HMX.out _ _ _ rfl rfl hkey _ [] unitElem_mk ?_; intro w1 hown1 hgrow1; have HO1 := Aside0.mk hown1; have HG1 := Aside0.mk (show wr.grownBy w1 (some b) from ⟨hgrow1.os, hgrow1.tape, hgrow1.output, hgrow1.size, hgrow1.block⟩); clear hown1 hgrow1))
          go_roundg k1
          case measure => omega
          case rel => exact ⟨i + 1, by rw [ew.out]; simp, ⟨by have := HK.out; omega⟩, ⟨⟨(HG1.out.block g (blk_lt HAi.out.hg) (fun e => HGB.out (Option.some.inj e))).trans HAi.out.hg, .inr ⟨b, _, rfl, HO1.out, by rw [HTS.out]; exact HV.out⟩⟩⟩, ⟨HCG.out _ _ HCi.out HG1.out⟩, ⟨HRi.out.grown HG1.out HBB.out⟩⟩
  | some b =>
    obtain ⟨m, hm⟩ : ∃ m, m = some b := ⟨_, rfl⟩
    rw [← hm]
    have HBN := Aside0.mk (show ∀ b', some b = some b' → m = some b' ∨ W.heap.size ≤ b' from fun b' h => .inl (by rw [hm]; exact h))
    have HCG := Aside0.mk (show ∀ w1 w2 : World, Chg (fun k => k = g ∨ m = some k) W w1 → w1.grownBy w2 (some b) → Chg (fun k => k = g ∨ m = some k) W w2 from fun w1 w2 h1 h2 => h1.trans (Chg.grown h2 (fun k hk => .inr (by rw [hm]; exact hk))))
    clear hm
    obtain ⟨B0, hB0⟩ : ∃ B0, B0 = W.heap.size := ⟨_, rfl⟩
    have HB0 := Aside0.mk (show B0 ≤ W.heap.size from by omega)
    have HBB := Aside0.mk (show b < B0 from by
      rcases HA.out.hm with ⟨h, _⟩ | ⟨b', D, h, ho, _⟩
      · cases h
      · injection h with h; subst h; rw [hB0]; exact ho.lt)
    clear hB0
    go_enter Tryd.func28, Tryd.ntmps28
    go_upto_block 0 with (go_at_call 30; (with_reducible refine (bits_Set_List.calls _ _ _ HT.out HLI.out).mono ?_); rintro e w8 ⟨v8, rfl, ho, hb⟩; have HB8 := Aside0.mk hb; have HR8 := Aside0.mk (Row.of (B := B0) ho HB0.out); obtain ⟨A8, c8, e8⟩ := Kd.R_slice ho; subst e8; clear ho hb)
    have HA8 := Aside0.mk (HA.out.below HB8.out)
    have HC8 := Aside0.mk (Chg.of_below (S := fun k => k = g ∨ m = some k) HB8.out)
    clear c0 fz
    obtain ⟨n, hn⟩ : ∃ n, n = (Bl.ints U).length := ⟨_, rfl⟩
    rw [← hn] at HR8
    try rw [← hn]
    have HN := Aside0.mk (show n = U.length from by rw [hn, Bl.ints_len])
    clear hn
    go_wp2
    go_loopg [20] n (fun kq v20 w' => ∃ (i : Nat), v20 = .int .i64 (i : Int) ∧ Aside0 (i + kq = n) ∧ Aside0 (At w' g (some b) (N + i) (adds p t (U.take i))) ∧ Aside0 (Chg (fun k => k = g ∨ m = some k) W w') ∧ Aside0 (Row w' B0 (.slice A8 n c8) U))
    case atStart => exact ⟨0, rfl, ⟨by omega⟩, HA8, HC8, HR8⟩
    case round =>
      clear HA8 HC8 HR8
      obtain ⟨i, rfl, HK, HAi, HCi, HRi⟩ := hrel
      rcases gk with _ | k1
      · have d1 : decide ((i : Int) < (n : Int)) = false := decide_eq_false (by have := HK.out; omega)
        have d2 : decide (i < n) = false := decide_eq_false (by have := HK.out; omega)
        have HAE := Aside0.mk (show At wr g (some b) (N + 64) (adds p t U) from by
          have h := HAi.out
          rw [List.take_of_length_le (by have h1 := HK.out; have h2 := HN.out; omega)] at h
          exact h.mono (by have h1 := HK.out; have h2 := HN.out; have h3 := HU64.out; omega))
        go_wp2
        refine bodyPost_end (results_none rfl _ _ _) rfl ?_
        exact ⟨rfl, some b, HAE.out, HCi.out, HBN.out⟩
      · have d1 : decide ((i : Int) < (n : Int)) = true := decide_eq_true (by have := HK.out; omega)
        have d2 : decide (i < n) = true := decide_eq_true (by have := HK.out; omega)
        have p1 : (0 ≤ (i : Int)) = True := eq_true (by omega)
        have p2 : ((i : Int) < (n : Int)) = True := eq_true (by have := HK.out; omega)
        have hil : i < U.length := by have h1 := HK.out; have h2 := HN.out; omega
        have hrd := (Kd.R_reads' HRi.out)
        obtain ⟨ad, ead, hx⟩ := Kd.at_int hrd.2.2 (i : Int) (by omega) (by rw [Bl.ints_len]; omega)
        subst ead
        rw [rd_ints, Int.toNat_natCast] at hx
        have HO := Aside0.mk (HU.out i hil)
        have HTS := Aside0.mk (show adds p t (U.take (i + 1)) = add1 (adds p t (U.take i)) t ((U.getD i 0 : Nat) : Int) from by rw [take_snoc U hil, adds_snoc])
        generalize U.getD i 0 = o at *
        have wo := wf_nat (show o < 9223372036854775808 by have := HO.out; omega)
        have hkey := key_mk WT.out wo
        have c0 := HAi.out.c0
        have ew : Aside0 (wrap64 ((i : Int) + 1) = (i : Int) + 1) := ⟨by have h2 := Kd.C_max hrd.2.2; have h3 := HK.out; rw [Bl.ints_len] at h2; have h4 := HN.out; unfold wrap64; omega⟩
        have HMF := Aside0.mk (may_f t (o : Int))
        clear hrd hil
        unfold add1 at HTS
        cases hq : mayB t (o : Int) with
        | false =>
          rw [hq] at HMF HTS
          replace HTS := Aside0.mk (HTS.out.trans (if_neg (by decide)))
          go_wp2_with (go_at_call 34; (with_reducible refine (right_may.calls _ _ _ _ HMF.out).mono ?_); rintro e w9 ⟨rfl, ⟨nd9, rfl⟩⟩)
          go_roundg k1
          case measure => omega
          case rel => exact ⟨i + 1, by rw [ew.out]; simp, ⟨by have := HK.out; omega⟩, ⟨by rw [HTS.out]; exact (HAi.out.drewN _).mono (by omega)⟩, ⟨HCi.out.drewN _⟩, ⟨HRi.out.below (pw_below_drewN (Below.refl _ _) _)⟩⟩
        | true =>
          rw [hq] at HMF HTS
          replace HTS := Aside0.mk (HTS.out.trans (if_pos rfl))
          obtain ⟨D, hown, hv⟩ : ∃ D, wr.ownsMap Tryd.prog 52 (unitElem (H := Unit)) b (N + i) D ∧ Vw D (adds p t (U.take i)) := by
            rcases HAi.out.hm with ⟨h, _⟩ | ⟨b', D, h, ho, hv⟩
            · cases h
            · injection h with h; subst h; exact ⟨D, ho, hv⟩
          have HV := Aside0.mk (hv.put WT.out wo (.agg []))
          have HGB := Aside0.mk (show g ≠ b from fun e => by
            obtain ⟨es, clock, hb, _⟩ := hown
            have h1 := HAi.out.hg
            rw [e, hb] at h1
            cases h1)
          have HMX := Aside0.mk (show N + i < maxLen from by have h1 := HNB.out; have h2 := HK.out; have h3 := HN.out; have h4 := HU64.out; unfold maxLen; omega)
          clear hv
          have hown9 : ∀ nd, (wr.drewN nd).ownsMap Tryd.prog 52 (unitElem (H := Unit)) b (N + i) D := fun nd => hown
          go_wp2_with (first
            | (go_at_call 34; (with_reducible refine (right_may.calls _ _ _ _ HMF.out).mono ?_); rintro e w9 ⟨rfl, ⟨nd9, rfl⟩⟩)
            | (at_mapUpdate; refine wpList_mapUpdate_own _ rfl _ _ _ 38 rfl 52 55 law Tryd.underlying38 _ b (N + i) D rfl (hown9 _) HMX.out _ _ _ rfl rfl hkey _ [] unitElem_mk ?_; intro w1 hown1 hgrow1; have HO1 := Aside0.mk hown1; have HG1 := Aside0.mk (show wr.grownBy w1 (some b) from ⟨hgrow1.os, hgrow1.tape, hgrow1.output, hgrow1.size, hgrow1.block⟩); clear hown1 hgrow1))
          go_roundg k1
          case measure => omega
          case rel => exact ⟨i + 1, by rw [ew.out]; simp, ⟨by have := HK.out; omega⟩, ⟨⟨(HG1.out.block g (blk_lt HAi.out.hg) (fun e => HGB.out (Option.some.inj e))).trans HAi.out.hg, .inr ⟨b, _, rfl, HO1.out, by rw [HTS.out]; exact HV.out⟩⟩⟩, ⟨HCG.out _ _ HCi.out HG1.out⟩, ⟨HRi.out.grown HG1.out HBB.out⟩⟩
end Go.Proofs.YtjcjhmnfknenlaaDoor.Rt
