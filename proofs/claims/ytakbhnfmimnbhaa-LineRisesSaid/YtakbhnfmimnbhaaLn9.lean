/- Due. Conditions: none. -/
import Derived.Test.YtakbhnfmimnbhaaLn8
import Derived.Test.YtakbhnfmimnbhaaTc2
namespace Go.Proofs.Ytakbhnfmimnbhaa.Ln
open Go.RowKit Go.Proofs.Ytakbhnfmimnbhaa.PLineRises Go.Proofs.YtakbhnfmimnbhaaW.PrintWords Go.Proofs.YtakbhnfmimnbhaaW.PrintLast Go.Proofs.YtakbhnfmimnbhaaW.PrintMore
open Tm (Chg TR Shp sh0 rSet rDrop rDue)
set_option linter.unusedVariables false
set_option linter.unusedSimpArgs false

theorem info3z : (Try.prog.info? 3).map (fun i => (i.zero, i.size, i.bytes)) = some (some (.int .i64 0), 1, 8) := by kernel_rfl
/-- Whose ticket it is. -/
def thr (ws : List S48) (k : Int) : Option Int := (ws.find? (fun x => x.f2 == k)).map (·.f0)
def dueL (ws : List S48) (ks : List Int) : List Int := ks.filterMap (thr ws)
def SrtT (ws : List S48) : Prop := ∀ i j, i < j → j < ws.length → (wq ws i).f2 < (wq ws j).f2
theorem thr_some {ws : List S48} (hs : SrtT ws) {i : Nat} (hi : i < ws.length) {k : Int} (he : (wq ws i).f2 = k) : thr ws k = some (wq ws i).f0 := by
  unfold thr
  have : ws.find? (fun x => x.f2 == k) = some (wq ws i) := by
    rw [List.find?_eq_some_iff_getElem]
    refine ⟨by simpa using he, i, hi, (wq_el ws hi).symm, fun j hj => ?_⟩
    have h1 := hs j i hj hi
    rw [wq_el ws (by omega)] at h1
    simp only [Bool.not_eq_true', beq_eq_false_iff_ne]
    omega
  rw [this]
  rfl
theorem thr_none {ws : List S48} {k : Int} (h : ∀ i, i < ws.length → (wq ws i).f2 ≠ k) : thr ws k = none := by
  unfold thr
  have : ws.find? (fun x => x.f2 == k) = none := by
    rw [List.find?_eq_none]
    intro x hx
    obtain ⟨j, hj, rfl⟩ := List.mem_iff_getElem.1 hx
    have := h j hj
    rw [wq_el ws hj] at this
    simpa using this
  rw [this]
  rfl
def Bk (k : Int) : Prop := 0 ≤ k ∧ k ≤ 100000000
theorem rDue_bk : ∀ (q : Nat) (now : Int) (m : List (Int × Int)) (acc : List Int), (∀ z ∈ m, Bk z.2) → (∀ a ∈ acc, Bk a) → ∀ a ∈ (rDue q now m acc).1, Bk a
  | 0, now, m, acc, hm, ha => ha
  | q + 1, now, m, acc, hm, ha => by
    unfold Tm.rDue
    split
    · refine rDue_bk q now _ _ (fun z hz => hm z (List.mem_filter.1 hz).1) (fun a h => ?_)
      rcases List.mem_append.1 h with h | h
      · exact ha a h
      · rw [List.mem_singleton.1 h]
        unfold Tm.E
        rw [List.getD_eq_getElem?_getD]
        cases hx : m[(Tm.rFirst m).toNat]? with
        | none => exact ⟨Int.le_refl 0, by decide⟩
        | some z => exact hm z (List.mem_of_getElem? hx)
    · exact ha
theorem rDue_len : ∀ (q : Nat) (now : Int) (m : List (Int × Int)) (acc : List Int), (rDue q now m acc).1.length ≤ acc.length + q
  | 0, now, m, acc => Nat.le_refl _
  | q + 1, now, m, acc => by
    unfold Tm.rDue
    split
    · have := rDue_len q now (rDrop m (Tm.E m (Tm.rFirst m).toNat).2) (acc ++ [(Tm.E m (Tm.rFirst m).toNat).2])
      simp only [List.length_append, List.length_singleton] at this
      omega
    · show acc.length ≤ _
      omega
/-- append(v, x) of one whole number. -/
theorem int_snoc {W : World} {b : Nat} {v : Value} {l : List Int} (h : W.ownsRow b 3 1 v l.length (nums .i64 l)) (hb : b ≤ W.heap.size) (hl : l.length ≤ 100000) (x : Int) : ∃ A9 c9 w9, (Builtin.append_ #[85, 85] 85 #[v, .slice (some ⟨W.heap.size, 0, none⟩) 1 1]).run Try.prog (W.alloc (.cells #[.int .i64 x] 3)) = .ok (.slice A9 (l.length + 1) c9) w9 ∧ w9.ownsRow b 3 1 (.slice A9 (l.length + 1) c9) (l.length + 1) (nums .i64 (l ++ [x])) ∧ Below b W w9 := by
  obtain ⟨v1, w9, hr, hown, hg9, hat⟩ := Rn.app_any (P := Try.prog) (ty := 85) (W := W.alloc (.cells #[.int .i64 x] 3)) b 85 3 1 8 (.int .i64 0) Try.underlying85 info3z rfl (by decide) (by decide) v l.length (nums .i64 l) [.int .i64 x] (some ⟨W.heap.size, 0, none⟩) 1 1 (own_alloc h _)
    ⟨rfl, fun _ => ⟨_, rfl, fun j q hj => by rw [add_plain]; exact (blk_cell (blk_new W _) j).trans (by rw [List.getElem?_toArray]; exact hj)⟩⟩ (fun u hu => by rw [List.mem_singleton.1 hu]; rfl) (Nat.le_trans hb (Rn.alloc_le _ _)) (by omega) (fun _ => rfl)
  obtain ⟨A9, c9, rfl⟩ := own_slice hown
  refine ⟨A9, c9, w9, hr, ?_, ((Below.refl b W).alloc hb _).grown hg9 (Nat.le_trans hb (Rn.alloc_le _ _)) (fun k hk => own_base h k hk)⟩
  have e : nums .i64 (l ++ [x]) = nums .i64 l ++ [.int .i64 x] := by simp [nums]
  rw [e]
  exact hown
theorem ints_at {W : World} {A : Option Addr} {n : Nat} {l : List Int} (h : Kd.C (Kd.int .i64) W A n l) {i : Nat} (hi : i < n) : ∃ ad, A = some ad ∧ W.cell? (ad.add i) = some (.int .i64 (l.getD i 0)) := by
  obtain ⟨ad, c, e, _, hK, hc⟩ := Kd.C_get h 0 (i : Int) (by omega) (by omega)
  rw [Int.toNat_natCast] at hK hc
  have hc1 : c = [.int .i64 (l.getD i 0)] := hK
  subst hc1
  have := hc 0 _ rfl
  rw [Nat.add_zero, show i * (Kd.int .i64).sz = i from Nat.mul_one i] at this
  exact ⟨ad, e, this⟩
section
variable {W W' : World} {base g n : Nat} {vl : Value} {last : Int} {ws : List S48} {m : List (Int × Int)} {S ok : Nat → Prop}
set_option maxRecDepth 100000 in
theorem tclone (h : TR (shL vl last) W base g n m S) (hm : m.length ≤ 200) : Calls Try.prog 73 #[.pointer (some ⟨g, 1, none⟩)] W fun e w' => ∃ g2, e = .returned (.pointer (some ⟨g2, 0, none⟩)) ∧ Aside0 (∃ S2, TR sh0 w' W.heap.size g2 n m S2) ∧ Below W.heap.size W w' := Tm.clone_r (sh := shL vl last) h hm
theorem tdue {S2 : Nat → Prop} {B g2 : Nat} (h : TR sh0 W B g2 n m S2) (now : Int) (hm : m.length ≤ 200) (hn : n ≤ 1000000000) : Calls Try.prog 74 #[.pointer (some ⟨g2, 0, none⟩), .int .i64 now] W fun e w' => ∃ A c, e = .returned (.slice A (rDue m.length now m []).1.length c) ∧ Kd.C (Kd.int .i64) w' A (rDue m.length now m []).1.length (rDue m.length now m []).1 ∧ Chg S2 W w' := by
  refine (Tm.due_r (sh := sh0) h now hm hn).mono ?_
  rintro e w' ⟨v, rfl, ⟨hr⟩, _, hc⟩
  obtain ⟨A, c, rfl⟩ := Kd.R_slice hr
  exact ⟨A, c, rfl, (Kd.R_reads' hr).2.2, hc⟩
set_option maxHeartbeats 16000000 in
set_option maxRecDepth 100000 in
theorem due_any (h : Lm W base g vl last ws n m S ok) (hl : ws.length ≤ 1000) (hm : m.length ≤ 200) (hn : n ≤ 1000000000) (hb : ∀ z ∈ m, Bk z.2) (hs : SrtT ws) (htk : ∀ i, i < ws.length → Bk (wq ws i).f2) (now : Int) : Calls Try.prog 37 #[.pointer (some ⟨g, 0, none⟩), .int .i64 now] W fun e w' => ∃ A c, e = .returned (.slice A (dueL ws (rDue m.length now m []).1).length c) ∧ (dueL ws (rDue m.length now m []).1).length ≤ c ∧ Kd.C (Kd.int .i64) w' A (dueL ws (rDue m.length now m []).1).length (dueL ws (rDue m.length now m []).1) ∧ Below W.heap.size W w' := by
  have hu85 := Try.underlying85
  have hu48 := Try.underlying48
  have hu44 := Try.underlying44
  have hu38 := Try.underlying38
  have HBK := Aside0.mk (rDue_bk m.length now m [] hb (fun a ha => by cases ha))
  have HKL := Aside0.mk (rDue_len m.length now m [])
  have HTD := Aside0.mk (fun (W1 : World) (B g2 : Nat) (S2 : Nat → Prop) (t : TR sh0 W1 B g2 n m S2) => tdue t now hm hn)
  have HTC := Aside0.mk (tclone h.tr hm)
  obtain ⟨ks, hks⟩ : ∃ ks, ks = (rDue m.length now m []).1 := ⟨_, rfl⟩
  rw [← hks] at HBK HKL HTD ⊢
  obtain ⟨A, c, rfl⟩ := Kd.R_slice h.rw
  obtain ⟨N, hN⟩ : ∃ N, N = ws.length := ⟨_, rfl⟩
  rw [← hN] at h
  obtain ⟨M, hM⟩ : ∃ M, M = ks.length := ⟨_, rfl⟩
  rw [← hM] at HTD HKL
  have HMM := Aside0.mk hM
  have HM2 := Aside0.mk (show M ≤ 200 from by have := HKL.out; simp only [List.length_nil] at this; omega)
  have HH := Aside0.mk h
  have HL := Aside0.mk hl
  have HNN := Aside0.mk hN
  have HS := Aside0.mk hs
  have HK := Aside0.mk htk
  clear h hl hm hn hb hs htk hks hN hM HKL
  go_enter Try.func37, Try.ntmps37
  go_upto_block 0 with (first
    | (go_at_call 73; (refine HTC.out.mono ?_); rintro e w1 ⟨g2, rfl, ⟨⟨S2, ht⟩⟩, hb⟩; have T1 := Aside0.mk ht; have B1 := Aside0.mk hb; clear ht hb)
    | (go_at_call 74; (refine (HTD.out _ _ _ _ T1.out).mono ?_); rintro e wd ⟨Ak, ck, rfl, hr, hc⟩; have RD := Aside0.mk hr; have BD := Aside0.mk (Chg.below B1.out hc B1.out.size (fun k hk => T1.out.base_le k hk)); clear hr hc))
  clear HTC HTD T1 B1
  go_wp2
  go_loopg [5, 19] M (fun kq v5 v19 w' => ∃ (i : Nat) (Ao : Option Addr) (no co : Nat), v19 = .int .i64 (i : Int) ∧ v5 = .slice Ao no co ∧ Aside0 (no = (dueL ws (ks.take i)).length) ∧ Aside0 (i + kq = M) ∧ Aside0 (w'.ownsRow wd.heap.size 3 1 (.slice Ao no co) (dueL ws (ks.take i)).length (nums .i64 (dueL ws (ks.take i)))) ∧ Aside0 (Below wd.heap.size wd w'))
  case atStart => exact ⟨0, none, 0, 0, rfl, rfl, ⟨by simp [dueL]⟩, ⟨by omega⟩, ⟨by rw [List.take_zero]; exact Rn.own_nil _ _ _ _⟩, ⟨Below.refl _ _⟩⟩
  case round =>
    obtain ⟨i, Ao, no, co, rfl, rfl, HNO, HI, HO, HBD⟩ := hrel
    have HB := Aside0.mk (BD.out.trans (HBD.out.mono BD.out.size))
    rcases gk with _ | k1
    · have d1 : decide ((i : Int) < (M : Int)) = false := decide_eq_false (by have := HI.out; omega)
      have d2 : decide (i < M) = false := decide_eq_false (by have := HI.out; omega)
      have HE := Aside0.mk (show ks.take i = ks from List.take_of_length_le (by have := HI.out; have := HMM.out; omega))
      go_wp2
      go_ret
      rw [HE.out] at HO HNO
      have hR := Kd.R_of_own (enc := Value.int .i64) (h1 := fun _ => rfl) (ok := fun _ => True) HO.out (fun _ _ => trivial)
      have h2 := Kd.R_reads' hR
      exact ⟨Ao, co, by rw [HNO.out]; rfl, by rw [← h2.1]; exact h2.2.1, h2.2.2, HB.out⟩
    · have him : i < M := by have := HI.out; omega
      have HIM := Aside0.mk (show i < ks.length from by rw [← HMM.out]; exact him)
      have d1 : decide ((i : Int) < (M : Int)) = true := decide_eq_true (by omega)
      have d2 : decide (i < M) = true := decide_eq_true him
      have q1 : (0 ≤ (i : Int)) = True := eq_true (by omega)
      have q2 : ((i : Int) < (M : Int)) = True := eq_true (by omega)
      have ew : Aside0 (wrap64 ((i : Int) + 1) = (i : Int) + 1) := ⟨by have h2 := HM2.out; unfold wrap64; omega⟩
      obtain ⟨ad, ea, yk⟩ := ints_at (Kd.C_below RD.out HBD.out) him
      subst ea
      obtain ⟨k, hk⟩ : ∃ k, k = ks.getD i 0 := ⟨_, rfl⟩
      rw [← hk] at yk
      have HKE := Aside0.mk (show ks.take (i + 1) = ks.take i ++ [k] from by
        rw [List.take_add_one, List.getElem?_eq_getElem HIM.out, hk, List.getD_eq_getElem?_getD, List.getElem?_eq_getElem HIM.out]
        rfl)
      have HKB := Aside0.mk (show Bk k from by
        rw [hk, List.getD_eq_getElem?_getD, List.getElem?_eq_getElem HIM.out]
        exact HBK.out _ (List.getElem_mem HIM.out))
      have H1 := Aside0.mk (HH.out.below HB.out)
      have yl := H1.out.cl
      have HBS := Aside0.mk (bsearch_any (W := wr) (A := A) (c := c) (by have h2 := (Kd.R_reads' H1.out.rw).2.2; rw [← HNN.out] at h2; exact h2) HNN.out HL.out HS.out (fun j hj => by have h1 := HK.out j hj; unfold Bk at h1; omega) (o := k) (by have h1 := HKB.out; unfold Bk at h1; omega))
      clear him hk
      go_upto_region 8 with (go_at_call 75; (refine HBS.out.mono ?_); rintro e w2 ⟨j, hlb, rfl, hb⟩; have LB := Aside0.mk hlb; have B2 := Aside0.mk hb; clear hlb hb)
      clear yk yl d1 d2 q1 q2
      have HB2 := Aside0.mk (HB.out.trans (B2.out.mono HB.out.size))
      have HBD2 := Aside0.mk (HBD.out.trans (B2.out.mono HBD.out.size))
      have H2 := Aside0.mk (HH.out.below HB2.out)
      have O2 := Aside0.mk (pw_own_below HO.out B2.out)
      by_cases hc : j < N ∧ (wq ws j).f2 = k
      · rw [show (decide (j < N) && decide ((wq ws j).f2 = k)) = true from by simp [hc.1, hc.2]]
        obtain ⟨ad2, A4, c4, ea, hw, _, _⟩ := at_w (Kd.R_reads' H2.out.rw).2.2 (i := j) (by rw [← HNN.out]; exact hc.1)
        subst ea
        have yl := H2.out.cl
        have y0 := hw.c0
        obtain ⟨t, ht⟩ : ∃ t, t = (wq ws j).f0 := ⟨_, rfl⟩
        rw [← ht] at y0
        have HDE := Aside0.mk (show dueL ws (ks.take (i + 1)) = dueL ws (ks.take i) ++ [t] from by
          unfold dueL
          rw [HKE.out, List.filterMap_append, ht]
          simp [thr_some HS.out (by rw [← HNN.out]; exact hc.1) hc.2])
        have q1 : (0 ≤ (j : Int)) = True := eq_true (by omega)
        have q2 : ((j : Int) < (N : Int)) = True := eq_true (by omega)
        have hlen : (dueL ws (ks.take i)).length ≤ 200 := by
          have h1 : (dueL ws (ks.take i)).length ≤ (ks.take i).length := List.length_filterMap_le _ _
          rw [List.length_take] at h1
          have := HM2.out
          have := HMM.out
          omega
        obtain ⟨A9, c9, w9, hrn, hown, hbl⟩ := int_snoc (W := w2) (b := wd.heap.size) (v := .slice Ao no co) O2.out HBD2.out.size (by omega) t
        rw [← HNO.out] at hrn hown
        have O9 := Aside0.mk hown
        have B9 := Aside0.mk (HBD2.out.trans hbl)
        clear hw hown hbl hlen hc ht
        go_wp2_with (at_builtin; refine Rn.list_run rfl (.tmp 33) (.tmp 42) 85 85 rfl _ _ (.slice A9 (no + 1) c9) rfl rfl hrn ?_)
        go_roundg k1
        case measure => omega
        case rel => exact ⟨i + 1, A9, no + 1, c9, by rw [ew.out]; simp, rfl, ⟨by rw [HDE.out, List.length_append, HNO.out]; rfl⟩, ⟨by have := HI.out; omega⟩, ⟨by rw [HDE.out, List.length_append, ← HNO.out]; exact O9.out⟩, B9⟩
      · rw [show (decide (j < N) && decide ((wq ws j).f2 = k)) = false from by
          by_cases c1 : j < N
          · have c2 : ¬ (wq ws j).f2 = k := fun q => hc ⟨c1, q⟩
            simp [c2]
          · simp [c1]]
        have HDE := Aside0.mk (show dueL ws (ks.take (i + 1)) = dueL ws (ks.take i) from by
          unfold dueL
          rw [HKE.out, List.filterMap_append]
          have hn := thr_none (ws := ws) (k := k) (fun q hq e => by
            by_cases c1 : q < j
            · have := LB.out.lo q c1
              omega
            · by_cases c2 : q = j
              · exact hc ⟨by rw [HNN.out, ← c2]; exact hq, by rw [← c2]; exact e⟩
              · have h1 := LB.out.hi j (Nat.le_refl _) (by omega)
                have h2 := HS.out j q (by omega) hq
                omega)
          simp [hn])
        clear hc
        go_wp2
        go_roundg k1
        case measure => omega
        case rel => exact ⟨i + 1, Ao, no, co, by rw [ew.out]; simp, rfl, ⟨by rw [HDE.out]; exact HNO.out⟩, ⟨by have := HI.out; omega⟩, ⟨by rw [HDE.out]; exact O2.out⟩, HBD2⟩
end
end Go.Proofs.Ytakbhnfmimnbhaa.Ln
