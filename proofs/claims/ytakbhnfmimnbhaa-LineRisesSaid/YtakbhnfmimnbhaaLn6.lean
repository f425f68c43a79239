/- Drop. Conditions: none. -/
import Derived.Test.YtakbhnfmimnbhaaLn5
namespace Go.Proofs.Ytakbhnfmimnbhaa.Ln
open Go.RowKit Go.Proofs.Ytakbhnfmimnbhaa.PLineRises Go.Proofs.YtakbhnfmimnbhaaW.PrintWords Go.Proofs.YtakbhnfmimnbhaaW.PrintLast Go.Proofs.YtakbhnfmimnbhaaW.PrintMore
open Tm (Chg TR Shp rSet rDrop)
set_option linter.unusedVariables false
set_option linter.unusedSimpArgs false

section
variable {W W' : World} {base g n : Nat} {vl : Value} {last : Int} {ws : List S48} {m : List (Int × Int)} {S ok : Nat → Prop}
theorem without_none {t : Int} (h : fnd ws t = none) : without ws t = ws := by unfold without; rw [h]
theorem without_some {t : Int} {i : Nat} (h : fnd ws t = some i) : without ws t = ws.eraseIdx i := by unfold without; rw [h]
set_option maxHeartbeats 16000000 in
set_option maxRecDepth 100000 in
theorem drop_any (h : Lm W base g vl last ws n m S ok) (hl : ws.length ≤ 1000) (hm : m.length ≤ 200) (hn : n ≤ 1000000000) (htk : ∀ i, i < ws.length → 0 ≤ (wq ws i).f2 ∧ (wq ws i).f2 ≤ 100000000) (t : Int) : Calls Try.prog 16 #[.pointer (some ⟨g, 0, none⟩), .int .i64 t] W fun e w' => e = .returned (.bool (fnd ws t).isSome) ∧ (∃ vl' S' ok', Lm w' base g vl' last (without ws t) (n + 1000000) (if (fnd ws t).isSome = true then rDrop m (tick ws t) else m) S' ok' ∧ (∀ k, S' k → S k ∨ W.heap.size ≤ k) ∧ (∀ k, ok' k → ok k ∨ W.heap.size ≤ k)) ∧ Chg (fun k => S k ∨ ok k) W w' := by
  have hu48 := Try.underlying48
  have hu37 := Try.underlying37
  have hu44 := Try.underlying44
  have hu38 := Try.underlying38
  cases hf : fnd ws t with
  | none =>
    have HH := Aside0.mk h
    have HL := Aside0.mk hl
    have HF := Aside0.mk (show plc (fnd ws t) = -1 from by rw [hf]; rfl)
    rw [without_none hf]
    clear h hl hm hn htk hf
    go_enter Try.func16, Try.ntmps16
    go_wp2_with (go_at_call 52; (refine (find_any HH.out (by have := HL.out; omega) t).mono ?_); rw [HF.out]; rintro e w2 ⟨rfl, hb⟩; have B2 := Aside0.mk hb; clear hb)
    go_ret
    have h2 := HH.out.below B2.out
    exact ⟨rfl, ⟨vl, S, ok, ⟨h2.tr.mono (by omega), h2.rw, h2.ap⟩, fun k hk => .inl hk, fun k hk => .inl hk⟩, Chg.of_below B2.out⟩
  | some i =>
    have hlt := (fnd_lt hf).1
    have HF := Aside0.mk (show plc (fnd ws t) = (i : Int) from by rw [hf]; rfl)
    obtain ⟨gv, cap, rfl, hbv, hgv, _⟩ := Kd.R_form h.rw (by omega)
    obtain ⟨N, hN⟩ : ∃ N, N = ws.length := ⟨_, rfl⟩
    rw [← hN] at h
    obtain ⟨ad, had⟩ : ∃ ad, ad = (⟨gv, 0, none⟩ : Addr) := ⟨_, rfl⟩
    rw [← had] at h
    have HAD := Aside0.mk had
    have HH := Aside0.mk h
    have HL := Aside0.mk hl
    have HM := Aside0.mk hm
    have HN := Aside0.mk hn
    have HTK := Aside0.mk (htk i hlt)
    have HNN := Aside0.mk hN
    have HLT := Aside0.mk (show i < N by omega)
    obtain ⟨tk, htke⟩ : ∃ tk, tk = (wq ws i).f2 := ⟨_, rfl⟩
    have HTE := Aside0.mk htke
    rw [without_some hf, show tick ws t = tk from by unfold tick; rw [hf, htke]]
    rw [← htke] at HTK
    obtain ⟨ws9, hws9⟩ : ∃ ws9, ws9 = ws.eraseIdx i := ⟨_, rfl⟩
    rw [← hws9]
    have HWS := Aside0.mk hws9
    have d1 : decide ((i : Int) < 0) = false := decide_eq_false (by omega)
    clear h hl hm hn htk hf hN had htke hws9
    go_enter Try.func16, Try.ntmps16
    go_upto_region 2 with (go_at_call 52; (refine (find_any HH.out (by have := HL.out; omega) t).mono ?_); rw [HF.out]; rintro e w2 ⟨rfl, hb⟩; have B2 := Aside0.mk hb; clear hb)
    have H2 := Aside0.mk (show Lm w2.drew base g (.slice (some ad) N cap) last ws n m S ok from (HH.out.below B2.out).below (below_drew (Below.refl _ _)))
    have hw := at_w (Kd.R_reads' H2.out.rw).2.2 (i := i) (by have := HLT.out; have := HNN.out; omega)
    obtain ⟨ad', A4, c4, ea, hw, _, _⟩ := hw
    injection ea with ea
    subst ea
    have p1 : (0 ≤ (i : Int)) = True := eq_true (by omega)
    have p2 : ((i : Int) < (N : Int)) = True := eq_true (by have := HLT.out; omega)
    have ewi : IntKind.i64.wrap ((i : Int) + 1) = ((i + 1 : Nat) : Int) := by rw [IntKind.wrap_i64]; have h1 := HLT.out; have h2 := HL.out; have h3 := HNN.out; omega
    have HTD := Aside0.mk (tdrop H2.out.tr HTK.out HM.out HN.out)
    go_upto_region 4 with (fail)
    have y0 := H2.out.cl
    have y2 := hw.c2
    rw [← HTE.out] at y2
    refine start_ (n := 12) (S := fun w' => w'.cell? ⟨g, 0, none⟩ = some (.slice (some ad) N cap) ∧ w'.cell? ⟨(ad.add (i * 10)).block, (ad.add (i * 10)).off + 2, none⟩ = some (.int .i64 tk)) (ds := [11]) #[false, false, false, false, false, false, false, false, false, false, false, false] (by kernel_rfl) rfl rfl ⟨y0, y2⟩ (fun hHeld => ?_)
    refine pure_ (i := 0) (N := some 11) (v := ?_) (a' := ?_) #[true, false, false, false, false, false, false, false, false, false, false, false] rfl rfl (by kernel_rfl) (fun _ _ _ h => h) (Or.inl ⟨by rfl, ?_⟩) ?_ ?_
    rotate_left
    · intro w'
      go_simp
      with_reducible rfl
    rotate_left
    · simp only [Act.put, List.setIfInBounds_toArray, List.set_cons_zero, List.set_cons_succ, i64_w, i32_w]
      rfl
    refine pure_ (i := 1) (N := some 12) (v := ?_) (a' := ?_) #[true, true, false, false, false, false, false, false, false, false, false, false] rfl rfl (by kernel_rfl) (fun _ _ _ h => h) (Or.inl ⟨by rfl, ?_⟩) ?_ ?_
    rotate_left
    · intro w'
      go_simp
      with_reducible rfl
    rotate_left
    · simp only [Act.put, List.setIfInBounds_toArray, List.set_cons_zero, List.set_cons_succ, i64_w, i32_w]
      rfl
    refine pure_ (i := 2) (N := some 13) (v := ?_) (a' := ?_) #[true, true, true, false, false, false, false, false, false, false, false, false] rfl rfl (by kernel_rfl) (fun _ _ _ h => h) (Or.inl ⟨by rfl, ?_⟩) ?_ ?_
    rotate_left
    · intro w'
      go_simp
      with_reducible rfl
    rotate_left
    · simp only [Act.put, List.setIfInBounds_toArray, List.set_cons_zero, List.set_cons_succ, i64_w, i32_w]
      rfl
    refine pure_ (i := 3) (N := some 14) (v := ?_) (a' := ?_) #[true, true, true, true, false, false, false, false, false, false, false, false] rfl rfl (by kernel_rfl) (fun _ _ _ h => h) (Or.inl ⟨by rfl, ?_⟩) ?_ ?_
    rotate_left
    · intro w'
      go_simp
      with_reducible rfl
    rotate_left
    · simp only [Act.put, List.setIfInBounds_toArray, List.set_cons_zero, List.set_cons_succ, i64_w, i32_w]
      rfl
    refine pure_ (i := 4) (N := some 15) (v := ?_) (a' := ?_) #[true, true, true, true, true, false, false, false, false, false, false, false] rfl rfl (by kernel_rfl) (fun _ _ _ h => h) (Or.inl ⟨by rfl, ?_⟩) ?_ ?_
    rotate_left
    · intro w'
      go_simp
      with_reducible rfl
    rotate_left
    · simp only [Act.put, List.setIfInBounds_toArray, List.set_cons_zero, List.set_cons_succ, i64_w, i32_w]
      rfl
    refine pure_ (i := 5) (N := some 16) (v := ?_) (a' := ?_) #[true, true, true, true, true, true, false, false, false, false, false, false] rfl rfl (by kernel_rfl) (fun _ _ _ h => h) (Or.inl ⟨by rfl, ?_⟩) ?_ ?_
    rotate_left
    · intro w'
      go_simp
      with_reducible rfl
    rotate_left
    · simp only [Act.put, List.setIfInBounds_toArray, List.set_cons_zero, List.set_cons_succ, i64_w, i32_w]
      rfl
    refine pure_ (i := 7) (N := some 18) (v := ?_) (a' := ?_) #[true, true, true, true, true, true, false, true, false, false, false, false] rfl rfl (by kernel_rfl) (fun _ _ _ h => h) (Or.inl ⟨by rfl, ?_⟩) ?_ ?_
    rotate_left
    · intro w'
      go_simp
      with_reducible rfl
    rotate_left
    · simp only [Act.put, List.setIfInBounds_toArray, List.set_cons_zero, List.set_cons_succ, i64_w, i32_w]
      rfl
    refine take_ (i := 6) (N := some 17) (v := ?_) (a' := ?_) #[true, true, true, true, true, true, true, true, false, false, false, false] rfl rfl (by kernel_rfl) (fun _ _ _ h => h) (Or.inl ⟨by rfl, ?_⟩) hHeld ?_ ?_
    rotate_left
    · rintro w' ⟨s0, s1⟩
      go_simp
      with_reducible rfl
    rotate_left
    · simp only [Act.put, List.setIfInBounds_toArray, List.set_cons_zero, List.set_cons_succ, i64_w, i32_w]
      rfl
    refine pure_ (i := 8) (N := some 19) (v := ?_) (a' := ?_) #[true, true, true, true, true, true, true, true, true, false, false, false] rfl rfl (by kernel_rfl) (fun _ _ _ h => h) (Or.inl ⟨by rfl, ?_⟩) ?_ ?_
    rotate_left
    · intro w'
      go_simp
      with_reducible rfl
    rotate_left
    · simp only [Act.put, List.setIfInBounds_toArray, List.set_cons_zero, List.set_cons_succ, i64_w, i32_w]
      rfl
    refine pure_ (i := 9) (N := some 20) (v := ?_) (a' := ?_) #[true, true, true, true, true, true, true, true, true, true, false, false] rfl rfl (by kernel_rfl) (fun _ _ _ h => h) (Or.inl ⟨by rfl, ?_⟩) ?_ ?_
    rotate_left
    · intro w'
      go_simp
      with_reducible rfl
    rotate_left
    · simp only [Act.put, List.setIfInBounds_toArray, List.set_cons_zero, List.set_cons_succ, i64_w, i32_w]
      rfl
    refine take_ (i := 10) (N := some 21) (v := ?_) (a' := ?_) #[true, true, true, true, true, true, true, true, true, true, true, false] rfl rfl (by kernel_rfl) (fun _ _ _ h => h) (Or.inl ⟨by rfl, ?_⟩) hHeld ?_ ?_
    rotate_left
    · rintro w' ⟨s0, s1⟩
      go_simp
      with_reducible rfl
    rotate_left
    · simp only [Act.put, List.setIfInBounds_toArray, List.set_cons_zero, List.set_cons_succ, i64_w, i32_w]
      rfl
    refine last_ (i := 11) (N := some 22) #[true, true, true, true, true, true, true, true, true, true, true, true] rfl rfl (by kernel_rfl) (by decide) (fun K hK => ?_)
    refine goes_ Try.func56 (by kernel_rfl) rfl #[.pointer (some ⟨g, 1, none⟩), .int .i64 tk] (by rfl) rfl rfl (by simp only [List.map_toArray, List.map_cons, List.map_nil]; rfl) ?_
    with_reducible refine (HTD.out).mono ?_
    rintro e w3 ⟨rfl, ⟨⟨S3, t1, t2⟩⟩, hc⟩
    refine ⟨_, rfl, ?_⟩
    have T3 := Aside0.mk t1
    have S3S := Aside0.mk t2
    have C3 := Aside0.mk hc
    clear t1 t2 hc
    refine hK.out _ _ ?_
    clear hK K
    refine norm_ (a' := ?_) ?_ ?_
    rotate_left
    · show Act.put _ (some 22) _ = _
      simp only [Act.put, List.setIfInBounds_toArray, List.set_cons_zero, List.set_cons_succ, i64_w, i32_w]
      rfl
    refine done_ (by kernel_rfl) ?_
    clear y0 y2 hw d1
    have R3 := Aside0.mk (show k48.R 48 w3 base ok (.slice (some ad) N cap) ws from Kd.R_step H2.out.rw (fun k hk hlt => C3.out.block k hlt (H2.out.ap k hk)))
    have A3 := Aside0.mk (show ∀ k, (ok k ∧ k < w2.heap.size) → ¬ S3 k from fun k hk q => (S3S.out k q).elim (H2.out.ap k hk.1) (fun z => by have h1 : w2.heap.size ≤ k := z; have h2 := hk.2; omega))
    have RB3 := Aside0.mk (show k48.R 48 w3 base (fun k => ok k ∧ k < w2.heap.size) (.slice (some ad) N cap) ws from Kd.R_mono (Kd.R_step (Kd.R_bound H2.out.rw) (fun k hk hlt => C3.out.block k hlt (H2.out.ap k hk.1))) (fun k hk => ⟨hk.1, hk.2.2.1⟩))
    have G3 := Aside0.mk (show ad.block = gv ∧ ok gv ∧ gv < w2.heap.size from ⟨by rw [HAD.out], (RB3.out.1 gv (by rw [HAD.out]; rfl)).1, (RB3.out.1 gv (by rw [HAD.out]; rfl)).2⟩)
    have c0 : w3.cell? ⟨g, 0, none⟩ = some (.slice (some ad) N cap) := by
      obtain ⟨_, _, v, mm, hb⟩ := T3.out.blk
      exact (blk_cell (show w3.heap[g]? = some (.cells #[.slice (some ad) N cap, v, mm, .int .i64 last] 44 (0, 0)) from hb) 0).trans rfl
    have HDL := Aside0.mk (show Calls Try.prog 57 #[.slice (some ad) N cap, .int .i64 (i : Int), .int .i64 ((i + 1 : Nat) : Int)] w3 fun e w' => e = .returned (.slice (some ⟨gv, 0, none⟩) (N - 1) cap) ∧ k48.R 48 w' base (fun k => ok k ∧ k < w2.heap.size) (.slice (some ⟨gv, 0, none⟩) (N - 1) cap) (ws.eraseIdx i) ∧ Chg (fun k => k = gv) w3 w' from by
      have h1 := RB3.out
      rw [HAD.out] at h1 ⊢
      exact delete_any h1 HLT.out (by have h2 := HL.out; have h3 := HNN.out; omega))
    rw [← HWS.out] at HDL
    obtain ⟨vD, hvD⟩ : ∃ AD, AD = (some (⟨gv, 0, none⟩ : Addr)) := ⟨_, rfl⟩
    obtain ⟨N1, hN1⟩ : ∃ N1, N1 = N - 1 := ⟨_, rfl⟩
    rw [← hvD, ← hN1] at HDL
    clear hvD hN1
    go_upto_region 6 with (go_at_call 57; (refine HDL.out.mono ?_); rintro e w4 ⟨rfl, hr, hc⟩; have R4 := Aside0.mk hr; have C4 := Aside0.mk hc; have k0 : w4.cell? ⟨g, 0, none⟩ = some (.slice (some ad) N cap) := (by
      obtain ⟨_, _, v, mm, hb⟩ := T3.out.blk
      exact (blk_cell (show w4.heap[g]? = some (.cells #[.slice (some ad) N cap, v, mm, .int .i64 last] 44 (0, 0)) from (hc.block g (blk_lt hb) (fun e => A3.out gv G3.out.2 (e ▸ T3.out.blk.1))).trans hb) 0).trans rfl); have kf : w4.frozen? ⟨g, 0, none⟩ = false := (by
      obtain ⟨_, _, v, mm, hb⟩ := T3.out.blk
      exact blk_frozen ((hc.block g (blk_lt hb) (fun e => A3.out gv G3.out.2 (e ▸ T3.out.blk.1))).trans hb) 0); clear hr hc)
    have T4 := Aside0.mk (T3.out.kept C4.out (fun k hk e => A3.out gv G3.out.2 (e ▸ hk)))
    go_wp2
    go_ret
    have CC := (((Chg.of_below (S := fun k => S k ∨ ok k) B2.out).drew.trans (C3.out.mono (fun k hk => .inl hk))).trans (C4.out.mono (fun k hk => .inr (by rw [hk]; exact G3.out.2.1)))).set_ (p := ⟨g, 0, none⟩) (.inl (.inl HH.out.gok.1)) (.slice vD N1 cap)
    exact ⟨rfl, ⟨_, S3, _, Lm.setRow_ T4.out R4.out A3.out, fun k hk => (S3S.out k hk).imp id (fun z => Nat.le_trans B2.out.size z), fun k hk => .inl hk.1⟩, CC⟩
theorem wq_set {ws : List S48} {i : Nat} (hi : i < ws.length) (x : S48) : wq (ws.set i x) i = x := by
  unfold wq
  rw [List.getD_eq_getElem?_getD, List.getElem?_set_self hi]
  rfl
theorem set_f {gv b c N i : Nat} {xs : List S48} (h : k48.R 48 W b ok (.slice (some ⟨gv, 0, none⟩) N c) xs) (hi : i < N) (j : Nat) (hj : j + 1 ≤ 10) (v : Value) (x' : S48)
    (hM : ∀ (v4 : Value), (Kd.slice 100 k100).R 99 W b (fun k => ok k ∧ k ≠ gv) v4 (wq xs i).f4 → k48.M W b (fun k => ok k ∧ k ≠ gv) x' (([.int .i64 (wq xs i).f0, .int .i64 (wq xs i).f1, .int .i64 (wq xs i).f2, .int .i64 (wq xs i).f3, v4, .int .i64 (wq xs i).f5, .int .i64 (wq xs i).f6, .int .i64 (wq xs i).f7, .int .i64 (wq xs i).f8, .int .u64 (wq xs i).f9] : List Value).take j ++ [v] ++ ([.int .i64 (wq xs i).f0, .int .i64 (wq xs i).f1, .int .i64 (wq xs i).f2, .int .i64 (wq xs i).f3, v4, .int .i64 (wq xs i).f5, .int .i64 (wq xs i).f6, .int .i64 (wq xs i).f7, .int .i64 (wq xs i).f8, .int .u64 (wq xs i).f9] : List Value).drop (j + 1))) :
    k48.R 48 (W.setCell ⟨gv, i * 10 + j, none⟩ v) b ok (.slice (some ⟨gv, 0, none⟩) N c) (xs.set i x') := by
  obtain ⟨cs, hcl, hMc, hcc, _⟩ := Kd.R_elem h z48 (i : Int) (by omega) (by omega)
  rw [Int.toNat_natCast] at hMc hcc
  obtain ⟨v4, rfl, hv4⟩ := k48_openM hMc
  have := (Kd.R_seg h (i : Int) (by omega) (by omega) (seg := [v]) (j := j) (x' := x') hcl (by rw [Int.toNat_natCast]; exact hcc) (show j + 1 ≤ 10 from hj) (hM v4 hv4) (fun k hk => hk)).1
  rw [Int.toNat_natCast] at this
  exact this
/-- What a signal's waiter becomes. -/
def turned (x : S48) (r : Int) : S48 := { x with f1 := 4, f3 := -1, f8 := r }
theorem turn_row {gv b c N i : Nat} {xs : List S48} (h : k48.R 48 W b ok (.slice (some ⟨gv, 0, none⟩) N c) xs) (hi : i < N) (r : Int) : k48.R 48 (((W.setCell ⟨gv, i * 10 + 1, none⟩ (.int .i64 4)).setCell ⟨gv, i * 10 + 3, none⟩ (.int .i64 (-1))).setCell ⟨gv, i * 10 + 8, none⟩ (.int .i64 r)) b ok (.slice (some ⟨gv, 0, none⟩) N c) (xs.set i (turned (wq xs i) r)) := by
  have hn := (Kd.R_reads' h).1
  have hl : i < xs.length := by omega
  have h1 := set_f h hi 1 (by decide) (.int .i64 4) { wq xs i with f1 := 4 } (fun v4 hv => k48_mkM W b _ { wq xs i with f1 := 4 } hv)
  have h2 := set_f h1 hi 3 (by decide) (.int .i64 (-1)) { wq xs i with f1 := 4, f3 := -1 } (fun v4 hv => by rw [wq_set hl] at hv ⊢; exact k48_mkM _ b _ { wq xs i with f1 := 4, f3 := -1 } hv)
  rw [List.set_set] at h2
  have h3 := set_f h2 hi 8 (by decide) (.int .i64 r) (turned (wq xs i) r) (fun v4 hv => by rw [wq_set hl] at hv ⊢; exact k48_mkM _ b _ (turned (wq xs i) r) hv)
  rw [List.set_set] at h3
  exact h3
theorem add0 (gv k : Nat) : (⟨gv, 0, none⟩ : Addr).add k = ⟨gv, k, none⟩ := by rw [add_plain]
/-- Whether it turns. -/
def turnB (ws : List S48) (t : Int) : Bool := match fnd ws t with
  | some i => decide ((wq ws i).f1 = 3)
  | none => false
def turnW (ws : List S48) (t r : Int) : List S48 := match fnd ws t with
  | some i => ws.set i (turned (wq ws i) r)
  | none => ws
set_option maxHeartbeats 8000000 in
set_option maxRecDepth 100000 in
theorem turn_no (h : Lm W base g vl last ws n m S ok) (hl : ws.length ≤ 1000) (t r : Int) (hno : turnB ws t = false) : Calls Try.prog 17 #[.pointer (some ⟨g, 0, none⟩), .int .i64 t, .int .i64 r] W fun e w' => e = .returned (.bool false) ∧ Below W.heap.size W w' := by
  have hu48 := Try.underlying48
  have hu37 := Try.underlying37
  have hu44 := Try.underlying44
  have hu38 := Try.underlying38
  have HH := Aside0.mk h
  have HL := Aside0.mk hl
  cases hf : fnd ws t with
  | none =>
    have HF := Aside0.mk (show plc (fnd ws t) = -1 from by rw [hf]; rfl)
    clear h hl hf hno
    go_enter Try.func17, Try.ntmps17
    go_wp2_with (go_at_call 52; (refine (find_any HH.out (by have := HL.out; omega) t).mono ?_); rw [HF.out]; rintro e w2 ⟨rfl, hb⟩; have B2 := Aside0.mk hb; clear hb)
    go_ret
    exact ⟨rfl, B2.out⟩
  | some i =>
    have hlt := (fnd_lt hf).1
    have HF := Aside0.mk (show plc (fnd ws t) = (i : Int) from by rw [hf]; rfl)
    have hk : (wq ws i).f1 ≠ 3 := by
      unfold turnB at hno
      rw [hf] at hno
      simpa using hno
    obtain ⟨kk, hkk⟩ : ∃ kk, kk = (wq ws i).f1 := ⟨_, rfl⟩
    have HKK := Aside0.mk hkk
    rw [← hkk] at hk
    have d2 : (kk != 3) = true := by simpa using hk
    obtain ⟨A, c, rfl⟩ := Kd.R_slice h.rw
    obtain ⟨N, hN⟩ : ∃ N, N = ws.length := ⟨_, rfl⟩
    rw [← hN] at HH
    have HNN := Aside0.mk hN
    have HLT := Aside0.mk (show i < N by omega)
    have d1 : decide ((i : Int) < 0) = false := decide_eq_false (by omega)
    have p1 : (0 ≤ (i : Int)) = True := eq_true (by omega)
    have p2 : ((i : Int) < (N : Int)) = True := eq_true (by omega)
    clear h hl hf hno hk hkk hN
    go_enter Try.func17, Try.ntmps17
    go_upto_region 2 with (go_at_call 52; (refine (find_any HH.out (by have := HL.out; omega) t).mono ?_); rw [HF.out]; rintro e w2 ⟨rfl, hb⟩; have B2 := Aside0.mk hb; clear hb)
    have H2 := Aside0.mk (HH.out.below B2.out)
    obtain ⟨ad, A4, c4, ea, hw, _, _⟩ := at_w (Kd.R_reads' H2.out.rw).2.2 (i := i) (by have := HLT.out; have := HNN.out; omega)
    subst ea
    have y0 := H2.out.cl
    have y1 := hw.c1
    rw [← HKK.out] at y1
    clear hw hlt
    go_wp2
    go_ret
    exact ⟨rfl, B2.out⟩
set_option maxHeartbeats 16000000 in
set_option maxRecDepth 100000 in
theorem turn_yes (h : Lm W base g vl last ws n m S ok) (hl : ws.length ≤ 1000) (hm : m.length ≤ 200) (hn : n ≤ 1000000000) (htk : ∀ i, i < ws.length → 0 ≤ (wq ws i).f2 ∧ (wq ws i).f2 ≤ 100000000) (t r : Int) (hyes : turnB ws t = true) : Calls Try.prog 17 #[.pointer (some ⟨g, 0, none⟩), .int .i64 t, .int .i64 r] W fun e w' => e = .returned (.bool true) ∧ (∃ S' ok', Lm w' base g vl last (turnW ws t r) (n + 1000000) (rDrop m (tick ws t)) S' ok' ∧ (∀ k, S' k → S k ∨ W.heap.size ≤ k) ∧ (∀ k, ok' k → ok k ∨ W.heap.size ≤ k)) ∧ Chg (fun k => S k ∨ ok k) W w' := by
  have hu48 := Try.underlying48
  have hu37 := Try.underlying37
  have hu44 := Try.underlying44
  have hu38 := Try.underlying38
  obtain ⟨i, hf⟩ : ∃ i, fnd ws t = some i := by
    unfold turnB at hyes
    cases hf : fnd ws t with
    | some i => exact ⟨i, rfl⟩
    | none => rw [hf] at hyes; cases hyes
  have hlt := (fnd_lt hf).1
  have hk : (wq ws i).f1 = 3 := by
    unfold turnB at hyes
    rw [hf] at hyes
    simpa using hyes
  have HF := Aside0.mk (show plc (fnd ws t) = (i : Int) from by rw [hf]; rfl)
  have HK3 := Aside0.mk hk
  obtain ⟨gv, cap, rfl, hbv, hgv, _⟩ := Kd.R_form h.rw (by omega)
  obtain ⟨N, hN⟩ : ∃ N, N = ws.length := ⟨_, rfl⟩
  rw [← hN] at h ⊢
  obtain ⟨ad, had⟩ : ∃ ad, ad = (⟨gv, 0, none⟩ : Addr) := ⟨_, rfl⟩
  rw [← had] at h ⊢
  have HAD := Aside0.mk had
  have HH := Aside0.mk h
  have HL := Aside0.mk hl
  have HM := Aside0.mk hm
  have HN := Aside0.mk hn
  have HTK := Aside0.mk (htk i hlt)
  have HNN := Aside0.mk hN
  have HLT := Aside0.mk (show i < N by omega)
  obtain ⟨tk, htke⟩ : ∃ tk, tk = (wq ws i).f2 := ⟨_, rfl⟩
  have HTE := Aside0.mk htke
  rw [show turnW ws t r = ws.set i (turned (wq ws i) r) from by unfold turnW; rw [hf], show tick ws t = tk from by unfold tick; rw [hf, htke]]
  rw [← htke] at HTK
  obtain ⟨ws9, hws9⟩ : ∃ ws9, ws9 = ws.set i (turned (wq ws i) r) := ⟨_, rfl⟩
  rw [← hws9]
  have HWS := Aside0.mk hws9
  have d1 : decide ((i : Int) < 0) = false := decide_eq_false (by omega)
  have p1 : (0 ≤ (i : Int)) = True := eq_true (by omega)
  have p2 : ((i : Int) < (N : Int)) = True := eq_true (by omega)
  clear h hl hm hn htk hf hN had htke hws9 hyes hk
  go_enter Try.func17, Try.ntmps17
  go_upto_region 2 with (go_at_call 52; (refine (find_any HH.out (by have := HL.out; omega) t).mono ?_); rw [HF.out]; rintro e w2 ⟨rfl, hb⟩; have B2 := Aside0.mk hb; clear hb)
  have H2 := Aside0.mk (HH.out.below B2.out)
  have hw := at_w (Kd.R_reads' H2.out.rw).2.2 (i := i) (by have := HLT.out; have := HNN.out; omega)
  obtain ⟨ad', A4, c4, ea, hw, _, _⟩ := hw
  injection ea with ea
  subst ea
  have y0 := H2.out.cl
  have y1 := hw.c1
  rw [HK3.out] at y1
  have y2 := hw.c2
  rw [← HTE.out] at y2
  clear hw hlt
  go_upto_region 5 with (fail)
  clear y0 y1 d1
  have HD2 := Aside0.mk (show Lm w2.drew base g (.slice (some ad) N cap) last ws n m S ok from H2.out.below (below_drew (Below.refl _ _)))
  have HTD := Aside0.mk (tdrop HD2.out.tr HTK.out HM.out HN.out)
  replace y2 : w2.drew.cell? ⟨(ad.add (i * 10)).block, (ad.add (i * 10)).off + 2, none⟩ = some (.int .i64 tk) := y2
  refine start_ (n := 8) (S := fun w' => w'.cell? ⟨(ad.add (i * 10)).block, (ad.add (i * 10)).off + 2, none⟩ = some (.int .i64 tk)) (ds := [7]) #[false, false, false, false, false, false, false, false] (by kernel_rfl) rfl rfl (y2) (fun hHeld => ?_)
  refine pure_ (i := 0) (N := some 31) (v := ?_) (a' := ?_) #[true, false, false, false, false, false, false, false] rfl rfl (by kernel_rfl) (fun _ _ _ h => h) (Or.inl ⟨by rfl, ?_⟩) ?_ ?_
  rotate_left
  · intro w'
    go_simp
    with_reducible rfl
  rotate_left
  · simp only [Act.put, List.setIfInBounds_toArray, List.set_cons_zero, List.set_cons_succ, i64_w, i32_w]
    rfl
  refine pure_ (i := 1) (N := some 32) (v := ?_) (a' := ?_) #[true, true, false, false, false, false, false, false] rfl rfl (by kernel_rfl) (fun _ _ _ h => h) (Or.inl ⟨by rfl, ?_⟩) ?_ ?_
  rotate_left
  · intro w'
    go_simp
    with_reducible rfl
  rotate_left
  · simp only [Act.put, List.setIfInBounds_toArray, List.set_cons_zero, List.set_cons_succ, i64_w, i32_w]
    rfl
  refine pure_ (i := 2) (N := some 33) (v := ?_) (a' := ?_) #[true, true, true, false, false, false, false, false] rfl rfl (by kernel_rfl) (fun _ _ _ h => h) (Or.inl ⟨by rfl, ?_⟩) ?_ ?_
  rotate_left
  · intro w'
    go_simp
    with_reducible rfl
  rotate_left
  · simp only [Act.put, List.setIfInBounds_toArray, List.set_cons_zero, List.set_cons_succ, i64_w, i32_w]
    rfl
  refine pure_ (i := 3) (N := some 34) (v := ?_) (a' := ?_) #[true, true, true, true, false, false, false, false] rfl rfl (by kernel_rfl) (fun _ _ _ h => h) (Or.inl ⟨by rfl, ?_⟩) ?_ ?_
  rotate_left
  · intro w'
    go_simp
    with_reducible rfl
  rotate_left
  · simp only [Act.put, List.setIfInBounds_toArray, List.set_cons_zero, List.set_cons_succ, i64_w, i32_w]
    rfl
  refine pure_ (i := 4) (N := some 35) (v := ?_) (a' := ?_) #[true, true, true, true, true, false, false, false] rfl rfl (by kernel_rfl) (fun _ _ _ h => h) (Or.inl ⟨by rfl, ?_⟩) ?_ ?_
  rotate_left
  · intro w'
    go_simp
    with_reducible rfl
  rotate_left
  · simp only [Act.put, List.setIfInBounds_toArray, List.set_cons_zero, List.set_cons_succ, i64_w, i32_w]
    rfl
  refine pure_ (i := 5) (N := some 36) (v := ?_) (a' := ?_) #[true, true, true, true, true, true, false, false] rfl rfl (by kernel_rfl) (fun _ _ _ h => h) (Or.inl ⟨by rfl, ?_⟩) ?_ ?_
  rotate_left
  · intro w'
    go_simp
    with_reducible rfl
  rotate_left
  · simp only [Act.put, List.setIfInBounds_toArray, List.set_cons_zero, List.set_cons_succ, i64_w, i32_w]
    rfl
  refine take_ (i := 6) (N := some 37) (v := ?_) (a' := ?_) #[true, true, true, true, true, true, true, false] rfl rfl (by kernel_rfl) (fun _ _ _ h => h) (Or.inl ⟨by rfl, ?_⟩) hHeld ?_ ?_
  rotate_left
  · intro w' s0
    go_simp
    with_reducible rfl
  rotate_left
  · simp only [Act.put, List.setIfInBounds_toArray, List.set_cons_zero, List.set_cons_succ, i64_w, i32_w]
    rfl
  refine last_ (i := 7) (N := some 38) #[true, true, true, true, true, true, true, true] rfl rfl (by kernel_rfl) (by decide) (fun K hK => ?_)
  refine goes_ Try.func56 (by kernel_rfl) rfl #[.pointer (some ⟨g, 1, none⟩), .int .i64 tk] (by rfl) rfl rfl (by simp only [List.map_toArray, List.map_cons, List.map_nil]; rfl) ?_
  with_reducible refine (HTD.out).mono ?_
  rintro e w3 ⟨rfl, ⟨⟨S3, t1, t2⟩⟩, hc⟩
  refine ⟨_, rfl, ?_⟩
  have T3 := Aside0.mk t1
  have S3S := Aside0.mk t2
  have C3 := Aside0.mk hc
  clear t1 t2 hc
  refine hK.out _ _ ?_
  clear hK K
  refine norm_ (a' := ?_) ?_ ?_
  rotate_left
  · show Act.put _ (some 38) _ = _
    simp only [Act.put, List.setIfInBounds_toArray, List.set_cons_zero, List.set_cons_succ, i64_w, i32_w]
    rfl
  refine done_ (by kernel_rfl) ?_
  clear y2
  have A3 := Aside0.mk (show ∀ k, (ok k ∧ k < w2.heap.size) → ¬ S3 k from fun k hk q => (S3S.out k q).elim (HD2.out.ap k hk.1) (fun z => by have h1 : w2.heap.size ≤ k := z; have h2 := hk.2; omega))
  have RB3 := Aside0.mk (show k48.R 48 w3 base (fun k => ok k ∧ k < w2.heap.size) (.slice (some ⟨gv, 0, none⟩) N cap) ws from by rw [← HAD.out]; exact Kd.R_mono (Kd.R_step (Kd.R_bound HD2.out.rw) (fun k hk hlt => C3.out.block k hlt (HD2.out.ap k hk.1))) (fun k hk => ⟨hk.1, hk.2.2.1⟩))
  have G3 := Aside0.mk (show ok gv ∧ gv < w2.heap.size from RB3.out.1 gv rfl)
  have HPA := Aside0.mk (show ad.add (i * 10) = ⟨gv, i * 10, none⟩ from by rw [HAD.out]; exact add0 gv _)
  obtain ⟨cs, hcl, hMc, hcc, hfz⟩ := Kd.R_elem RB3.out z48 (i : Int) (by omega) (by have := HLT.out; omega)
  rw [Int.toNat_natCast] at hMc hcc hfz
  obtain ⟨v4, rfl, hv4⟩ := k48_openM hMc
  obtain ⟨pa, hpa⟩ : ∃ pa, pa = ad.add (i * 10) := ⟨_, rfl⟩
  rw [← hpa] at HPA ⊢
  have k1 : w3.cell? ⟨pa.block, pa.off + 1, none⟩ = some (.int .i64 (wq ws i).f1) := by rw [HPA.out]; exact hcc 1 _ rfl
  have k3 : w3.cell? ⟨pa.block, pa.off + 3, none⟩ = some (.int .i64 (wq ws i).f3) := by rw [HPA.out]; exact hcc 3 _ rfl
  have k8 : w3.cell? ⟨pa.block, pa.off + 8, none⟩ = some (.int .i64 (wq ws i).f8) := by rw [HPA.out]; exact hcc 8 _ rfl
  have fz1 : w3.frozen? ⟨pa.block, pa.off + 1, none⟩ = false := by rw [HPA.out]; exact hfz 1
  have fz3 : w3.frozen? ⟨pa.block, pa.off + 3, none⟩ = false := by rw [HPA.out]; exact hfz 3
  have fz8 : w3.frozen? ⟨pa.block, pa.off + 8, none⟩ = false := by rw [HPA.out]; exact hfz 8
  clear hcl hMc hcc hfz hv4 hpa
  go_wp2
  go_ret
  have hR := turn_row RB3.out HLT.out r
  rw [← HWS.out] at hR
  rw [HPA.out]
  have hT : TR (shL (.slice (some ad) N cap) last) (((w3.setCell ⟨gv, i * 10 + 1, none⟩ (.int .i64 4)).setCell ⟨gv, i * 10 + 3, none⟩ (.int .i64 (-1))).setCell ⟨gv, i * 10 + 8, none⟩ (.int .i64 r)) base g (n + 1000000) (rDrop m tk) S3 := T3.out.kept (S2 := fun k => k = gv) ((((Chg.refl (fun k => k = gv) w3).set_ (p := ⟨gv, i * 10 + 1, none⟩) (.inl rfl) _).set_ (p := ⟨gv, i * 10 + 3, none⟩) (.inl rfl) _).set_ (p := ⟨gv, i * 10 + 8, none⟩) (.inl rfl) _) (fun k hk e => A3.out gv G3.out (e ▸ hk))
  have hC : Chg (fun k => S k ∨ ok k) W w3 := ((Chg.of_below B2.out).drew).trans (C3.out.mono (fun k hk => .inl hk))
  exact ⟨rfl, ⟨S3, _, ⟨hT, by rw [HAD.out]; exact hR, A3.out⟩, fun k hk => (S3S.out k hk).imp id (fun z => Nat.le_trans B2.out.size z), fun k hk => .inl hk.1⟩, ((hC.set_ (p := ⟨gv, i * 10 + 1, none⟩) (.inl (.inr G3.out.1)) _).set_ (p := ⟨gv, i * 10 + 3, none⟩) (.inl (.inr G3.out.1)) _).set_ (p := ⟨gv, i * 10 + 8, none⟩) (.inl (.inr G3.out.1)) _⟩
end
end Go.Proofs.Ytakbhnfmimnbhaa.Ln
