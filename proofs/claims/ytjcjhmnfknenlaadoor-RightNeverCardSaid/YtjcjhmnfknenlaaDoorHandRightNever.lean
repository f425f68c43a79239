/- RightNever: the walk by hand. Conditions: none. -/
import Derived.Test.YtjcjhmnfknenlaaDoorRt8
import Derived.Test.YtjcjhmnfknenlaaDoorOkRightNever
namespace Go.Proofs.YtjcjhmnfknenlaaDoor.rightNeverW
open Go.RowKit Go.Proofs.YtjcjhmnfknenlaaDoor.PRightNever Go.Proofs.YtjcjhmnfknenlaaDoorW.PrintWords Go.Proofs.YtjcjhmnfknenlaaDoorW.PrintLast
open Rt
set_option linter.unusedVariables false
set_option linter.unusedSimpArgs false

theorem add1_true {p : Int → Int → Bool} {t o x y : Int} (h : add1 p t o x y = true) : p x y = true ∨ (x = t ∧ y = o ∧ mayB t o = true) := by
  unfold add1 at h
  split at h
  · rename_i c
    unfold upd at h
    rw [Bool.or_eq_true, Bool.and_eq_true, decide_eq_true_eq, decide_eq_true_eq] at h
    rcases h with h | h
    · exact .inr ⟨h.1, h.2, c⟩
    · exact .inl h
  · exact .inl h
theorem adds_true {t x y : Int} : ∀ (L : List Nat) (p : Int → Int → Bool), adds p t L x y = true → p x y = true ∨ (x = t ∧ mayB t y = true ∧ ∃ o ∈ L, y = ((o : Nat) : Int)) := by
  intro L
  induction L with
  | nil => intro p h; exact .inl h
  | cons a L ih =>
    intro p h
    rcases ih (add1 p t (a : Int)) h with h | ⟨h1, h2, o, ho, h3⟩
    · rcases add1_true h with h | ⟨h1, h2, h3⟩
      · exact .inl h
      · exact .inr ⟨h1, by rw [h2]; exact h3, a, by simp, h2⟩
    · exact .inr ⟨h1, h2, o, by simp [ho], h3⟩
theorem dels_true {t x y : Int} : ∀ (L : List Nat) (p : Int → Int → Bool), dels p t L x y = true → p x y = true := by
  intro L
  induction L with
  | nil => intro p h; exact h
  | cons a L ih =>
    intro p h
    have h1 : del p t (a : Int) x y = true := ih (del p t (a : Int)) h
    unfold del at h1
    rw [Bool.and_eq_true] at h1
    exact h1.2
/-- Only pairs that may be. -/
def Inv (p : Int → Int → Bool) : Prop := ∀ x y, p x y = true → mayB x y = true
theorem who_zero {p : Int → Int → Bool} {o : Int} : whoS p o = 0 ↔ ∀ t : Nat, t < 64 → p (t : Int) o = false := by
  constructor
  · intro h t ht
    have := Gs.tb_setOf (fun t => p ((t : Nat) : Int) o) t 64
    unfold whoS at h
    rw [h, Nat.zero_testBit, decide_eq_true ht, Bool.true_and] at this
    exact this.symm
  · intro h
    unfold whoS
    apply Nat.eq_of_testBit_eq
    intro i
    rw [Gs.tb_setOf, Nat.zero_testBit]
    by_cases hi : i < 64
    · rw [h i hi, Bool.and_false]
    · rw [decide_eq_false hi]; rfl
theorem do_true {p : Int → Int → Bool} {k f t : Int} {s : Nat} {x y : Int} (h : doP p k f t s x y = true) : p x y = true ∨ (mayB x y = true ∧ (k ≠ 0 → ∃ o : Nat, y = (o : Int) ∧ o < 64 ∧ p f y = true)) := by
  unfold doP at h
  have hin : ∀ o : Nat, o ∈ Gr.low (ofS p f &&& s) 64 → o < 64 ∧ p f (o : Int) = true := by
    intro o ho
    have h1 := Gr.mem_low.1 ho
    rw [Nat.testBit_and, Bool.and_eq_true] at h1
    refine ⟨h1.1, ?_⟩
    have h2 := h1.2.1
    unfold ofS at h2
    rw [Gs.tb_setOf, Bool.and_eq_true] at h2
    exact h2.2
  split at h
  · rename_i k0
    rcases adds_true _ _ h with h | ⟨h1, h2, _⟩
    · exact .inl h
    · exact .inr ⟨by rw [h1]; exact h2, fun q => absurd k0 q⟩
  · split at h
    · rcases adds_true _ _ h with h | ⟨h1, h2, o, ho, h3⟩
      · exact .inl (dels_true _ _ h)
      · exact .inr ⟨by rw [h1]; exact h2, fun _ => ⟨o, h3, (hin o ho).1, by rw [h3]; exact (hin o ho).2⟩⟩
    · split at h
      · rcases adds_true _ _ h with h | ⟨h1, h2, o, ho, h3⟩
        · exact .inl h
        · exact .inr ⟨by rw [h1]; exact h2, fun _ => ⟨o, h3, (hin o ho).1, by rw [h3]; exact (hin o ho).2⟩⟩
      · split at h
        · exact .inl (dels_true _ _ h)
        · exact .inl (dels_true _ _ h)
theorem Inv.do_ {p : Int → Int → Bool} (h : Inv p) (k f t : Int) (s : Nat) : Inv (doP p k f t s) := by
  intro x y hxy
  rcases do_true hxy with q | q
  · exact h x y q
  · exact q.1
theorem never {p : Int → Int → Bool} (h : Inv p) {k f t : Int} {s : Nat} (hk : k ≠ 0) {o : Int} (h0 : whoS p o = 0) : whoS (doP p k f t s) o = 0 := by
  rw [who_zero] at h0 ⊢
  intro x hx
  rw [Bool.eq_false_iff]
  intro hxy
  rcases do_true hxy with q | ⟨_, q⟩
  · rw [h0 x hx] at q; cases q
  · obtain ⟨c, rfl, hc, hp⟩ := q hk
    have h1 := h f (c : Int) hp
    unfold mayB at h1
    simp only [Bool.and_eq_true, decide_eq_true_eq] at h1
    obtain ⟨n, hn⟩ : ∃ n : Nat, f = (n : Int) := ⟨f.toNat, by omega⟩
    rw [hn] at hp
    rw [h0 n (by omega)] at hp
    cases hp
theorem rd31 {l : List S31} {i : Nat} (hi : i < l.length) : rd_T31 l (i : Int) ∈ l := by
  unfold rd_T31
  rw [Int.toNat_natCast, List.getD_eq_getElem?_getD, List.getElem?_eq_getElem hi]
  exact List.getElem_mem hi
theorem u64_nat {x : Int} (h : (Lit.int .u64 x).wf = true) : ∃ s : Nat, x = (s : Int) ∧ s < Bt.top := by
  have e1 : IntKind.u64.min = 0 := by decide
  have e2 : IntKind.u64.max = 18446744073709551615 := by decide
  simp only [Lit.wf, Bool.and_eq_true, decide_eq_true_eq, e1, e2] at h
  exact ⟨x.toNat, by omega, by unfold Bt.top; omega⟩
set_option maxHeartbeats 4000000 in
set_option maxRecDepth 100000 in
theorem walk (A0 : Option Addr) (c0 : Nat) (l0 : List (S31)) (a1 : Int) (w : World) (hT : Tb.Tab w) (hr0 : Kd.C k31 w A0 l0.length l0) (hc0 : l0.length ≤ c0) (w0 : (fun l => (∀ a ∈ l, (ok31) a) ∧ l.length * 32 ≤ 140737488351232) l0) (w1 : (fun x => (Lit.int .i64 x).wf = true) a1) :
    Calls Tryd.prog 4 #[.slice A0 l0.length c0, .int .i64 a1] w fun e w' => e = .returned (.bool true) ∧ Below w.heap.size w w' := by
  have HT := Aside0.mk hT
  have HR := Aside0.mk hr0
  have HOK := Aside0.mk (show ∀ a ∈ l0, ok31 a from w0.1)
  have WO := Aside0.mk (show Wf a1 from w1)
  have hu31 := Tryd.underlying31
  clear hT hr0 hc0 w0 w1
  obtain ⟨n, hn⟩ : ∃ n, n = l0.length := ⟨_, rfl⟩
  rw [← hn] at HR ⊢
  have HN := Aside0.mk hn
  clear hn
  go_enter Tryd.func4, Tryd.ntmps4
  go_upto_block 0 with (go_at_call 7; (refine (st_new w).mono ?_); rintro e wa ⟨g, rfl, h⟩; have S1 := Aside0.mk h; clear h)
  go_wp2
  go_loopg [6] n (fun kq v6 w' => ∃ (i : Nat) (p : Int → Int → Bool), v6 = .int .i64 (i : Int) ∧ Aside0 (i + kq = n) ∧ Aside0 (i ≤ 50) ∧ Aside0 (St w w' g (64 * i) p) ∧ Aside0 (Inv p))
  case atStart => exact ⟨0, _, rfl, ⟨by omega⟩, ⟨by omega⟩, S1, ⟨fun x y h => by cases h⟩⟩
  case round =>
    clear S1
    obtain ⟨i, p, rfl, HK, HI50, HS, HI⟩ := hrel
    by_cases hgo : i < n ∧ i < 50
    · rcases gk with _ | k1
      · exact absurd hgo.1 (by have := HK.out; omega)
      have hin := hgo.1
      have d1 : decide ((i : Int) < (n : Int)) = true := decide_eq_true (by omega)
      have d2 : decide (i < n) = true := decide_eq_true hin
      have d3 : decide ((i : Int) < 50) = true := decide_eq_true (by omega)
      have d4 : decide (i < 50) = true := decide_eq_true hgo.2
      have p1 : (0 ≤ (i : Int)) = True := eq_true (by omega)
      have p2 : ((i : Int) < (n : Int)) = True := eq_true (by omega)
      have HI2 := Aside0.mk hgo.2
      have HC := Aside0.mk (show Kd.C k31 wr A0 n l0 from Kd.C_below HR.out HS.out.hb)
      have hmem := rd31 (l := l0) (i := i) (by rw [← HN.out]; exact hin)
      have hok := HOK.out _ hmem
      obtain ⟨s, hs, hst⟩ := u64_nat hok.2.2.2
      have WF := Aside0.mk (show Wf (rd_T31 l0 (i : Int)).f1 from hok.2.1)
      have WT := Aside0.mk (show Wf (rd_T31 l0 (i : Int)).f2 from hok.2.2.1)
      have HST := Aside0.mk hst
      obtain ⟨ad, ea, x0, x1, x2, x3⟩ := at_T31 HR.out (i : Int) (by omega) (by omega)
      subst ea
      rw [Int.toNat_natCast] at x0 x1 x2 x3
      rw [hs] at x3
      have L0 := Aside0.mk (World.block_lt_of_cell? _ _ x0)
      have X0 := Aside0.mk x0
      have X1 := Aside0.mk x1
      have X2 := Aside0.mk x2
      have X3 := Aside0.mk x3
      clear hmem hok hs hst hgo hin HC x0 x1 x2 x3
      obtain ⟨k, hk⟩ : ∃ k, k = (rd_T31 l0 (i : Int)).f0 := ⟨_, rfl⟩
      obtain ⟨f, hf⟩ : ∃ f, f = (rd_T31 l0 (i : Int)).f1 := ⟨_, rfl⟩
      obtain ⟨t, ht⟩ : ∃ t, t = (rd_T31 l0 (i : Int)).f2 := ⟨_, rfl⟩
      rw [← hk] at X0
      rw [← hf] at X1 WF
      rw [← ht] at X2 WT
      clear hk hf ht
      have HNV := Aside0.mk (fun (hk : k ≠ 0) (h0 : whoS p a1 = 0) => never HI.out (k := k) (f := f) (t := t) (s := s) hk h0)
      have HI3 := Aside0.mk (HI.out.do_ k f t s)
      have ew : Aside0 (wrap64 ((i : Int) + 1) = (i : Int) + 1) := ⟨by have h2 := HI2.out; unfold wrap64; omega⟩
      have tok : True := trivial
      go_upto_region 8 with (go_at_call 13; (refine (st_who WO.out HS.out).mono ?_); rintro e wb ⟨rfl, h⟩; have S2 := Aside0.mk h; clear h)
      have y0 := (S2.out.hb.cell (World.block_lt_of_cell? _ _ X0.out)).trans X0.out
      have y1 := (S2.out.hb.cell (World.block_lt_of_cell? _ _ X1.out)).trans X1.out
      have y2 := (S2.out.hb.cell (World.block_lt_of_cell? _ _ X2.out)).trans X2.out
      have y3 := (S2.out.hb.cell (World.block_lt_of_cell? _ _ X3.out)).trans X3.out
      go_upto_region 9 with (go_at_call 8; (refine (st_do WF.out WT.out HST.out (by have := HI2.out; omega) HT.out S2.out).mono ?_); rintro e wc ⟨rfl, h⟩; have S3 := Aside0.mk h; clear h)
      clear y0 y1 y2 y3 S2 HS
      have y0 := (S3.out.hb.cell (World.block_lt_of_cell? _ _ X0.out)).trans X0.out
      have HNE := Aside0.mk (show 64 * i + 64 ≤ 64 * (i + 1) from by omega)
      generalize doP p k f t s = q at *
      by_cases hw : whoS p a1 = 0
      · have HNV2 := Aside0.mk (fun hk => HNV.out hk hw)
        rw [hw]
        clear HNV hw
        by_cases hq : whoS q a1 = 0
        · have HQ := Aside0.mk hq
          clear hq HNV2
          go_wp2_with (go_at_call 13; (refine (st_who WO.out S3.out).mono ?_); rintro e wd ⟨rfl, h⟩; have S4 := Aside0.mk h; clear h; rw [HQ.out])
          go_roundg k1
          case measure => omega
          case rel => exact ⟨i + 1, q, by rw [ew.out]; simp, ⟨by have := HK.out; omega⟩, ⟨by have := HI2.out; omega⟩, ⟨S4.out.mono HNE.out⟩, HI3⟩
        · have hk0 : k = 0 := Classical.byContradiction fun hk => hq (HNV2.out hk)
          have d5 : ((whoS q a1 : Int) != 0) = true := by rw [bne_iff_ne]; omega
          rw [hk0] at X0
          clear hq HNV2 y0 hk0
          go_wp2_with (go_at_call 13; (refine (st_who WO.out S3.out).mono ?_); rintro e wd ⟨rfl, h⟩; have S4 := Aside0.mk h; have z0 := (S4.out.hb.cell (World.block_lt_of_cell? _ _ X0.out)).trans X0.out; clear h)
          go_roundg k1
          case measure => omega
          case rel => exact ⟨i + 1, q, by rw [ew.out]; simp, ⟨by have := HK.out; omega⟩, ⟨by have := HI2.out; omega⟩, ⟨S4.out.mono HNE.out⟩, HI3⟩
      · have d5 : ((whoS p a1 : Int) == 0) = false := by rw [beq_eq_false_iff_ne]; omega
        clear hw HNV
        generalize whoS p a1 = Q at *
        go_wp2_with (fail)
        go_roundg k1
        case measure => omega
        case rel => exact ⟨i + 1, q, by rw [ew.out]; simp, ⟨by have := HK.out; omega⟩, ⟨by have := HI2.out; omega⟩, ⟨S3.out.mono HNE.out⟩, HI3⟩
    · have HG := Aside0.mk hgo
      have HL := Aside0.mk (fun n => lives_any (Tb.drewN (Tb.below HT.out HS.out.hb) n))
      have HL0 := Aside0.mk (lives_any (Tb.below HT.out HS.out.hb))
      by_cases hin : i < n
      · have h50 : ¬ i < 50 := fun q => hgo ⟨hin, q⟩
        have d1 : decide ((i : Int) < (n : Int)) = true := decide_eq_true (by omega)
        have d2 : decide (i < n) = true := decide_eq_true hin
        have d3 : decide ((i : Int) < 50) = false := decide_eq_false (by omega)
        have d4 : decide (i < 50) = false := decide_eq_false h50
        clear hgo h50 hin
        go_wp2_with (go_at_call 12; (refine HL0.out.mono ?_); rintro e we ⟨rfl, h⟩; have HBE := Aside0.mk (below_step HS.out.hb h); clear h)
        go_ret
        exact ⟨rfl, by repeat (first | exact HBE.out | apply below_drew | apply pw_below_drewN)⟩
      · have d1 : decide ((i : Int) < (n : Int)) = false := decide_eq_false (by omega)
        have d2 : decide (i < n) = false := decide_eq_false hin
        clear hgo hin
        go_wp2_with (go_at_call 12; (refine HL0.out.mono ?_); rintro e we ⟨rfl, h⟩; have HBE := Aside0.mk (below_step HS.out.hb h); clear h)
        go_ret
        exact ⟨rfl, by repeat (first | exact HBE.out | apply below_drew | apply pw_below_drewN)⟩
end Go.Proofs.YtjcjhmnfknenlaaDoor.rightNeverW
