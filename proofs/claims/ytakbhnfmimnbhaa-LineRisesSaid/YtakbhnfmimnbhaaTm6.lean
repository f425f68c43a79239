/- Timers, nil inside or not: Drop, Len, First, At. Conditions: none. -/
import Derived.Test.YtakbhnfmimnbhaaTm5
namespace Go.Proofs.Ytakbhnfmimnbhaa.Tm
open Go.RowKit Go.Proofs.YtakbhnfmimnbhaaW.PrintWords Go.Proofs.YtakbhnfmimnbhaaW.PrintLast
open Go.Maps (int_keyed keyOf_int_mk)
set_option linter.unusedVariables false
set_option linter.unusedSimpArgs false
variable {sh : Shp}

def SB (g b gh : Nat) (k : Nat) : Prop := k = g ∨ k = b ∨ k = gh
theorem St_SB {g b gh m c k : Nat} : St g b (.slice (some ⟨gh, 0, none⟩) m c) k ↔ SB g b gh k := by simp [St, SB, Value.ownBlock]
/-- Timers that nothing was set in: no map; v: an empty row. -/
structure T0 (sh : Shp) (W : World) (base g : Nat) (v : Value) : Prop where
  hg : W.heap[g]? = some (.cells (sh.C v (.map none)) sh.ty (0, 0))
  hr : pk.R 145 W base (fun k => some k = v.ownBlock) v []
  gb : base ≤ g
def S0 (g : Nat) (v : Value) (k : Nat) : Prop := k = g ∨ some k = v.ownBlock
def TT (sh : Shp) (W : World) (base g n : Nat) (xs : List (Int × Int)) (p : Int → Option Int) (S : Nat → Prop) : Prop :=
  (∃ v, T0 sh W base g v ∧ xs = [] ∧ p = (fun _ => none) ∧ S = S0 g v) ∨ ∃ gh m c b, T sh W base g (.slice (some ⟨gh, 0, none⟩) m c) b n xs p ∧ S = SB g b gh
section
variable {W W' : World} {base g n : Nat} {v : Value} {xs : List (Int × Int)} {p : Int → Option Int} {S S2 : Nat → Prop}
theorem T0.kept (h : T0 sh W base g v) (hc : Chg S W W') (hs : ∀ k, S0 g v k → ¬ S k) : T0 sh W' base g v :=
  ⟨(hc.block g (blk_lt h.hg) (hs g (.inl rfl))).trans h.hg, Kd.R_step h.hr (fun k hk hlt => hc.block k hlt (hs k (.inr hk))), h.gb⟩
theorem T0.vne (h : T0 sh W base g v) : ∀ k, some k = v.ownBlock → k ≠ g := by
  rintro k hk rfl
  obtain ⟨cells, hc⟩ := Kd.R_typed h.hr k hk.symm
  rw [h.hg] at hc
  injection hc with hc
  injection hc with _ hc
  exact absurd hc sh.ne
theorem TT.kept (h : TT sh W base g n xs p S) (hc : Chg S2 W W') (hs : ∀ k, S k → ¬ S2 k) : TT sh W' base g n xs p S := by
  rcases h with ⟨v, h, h1, h2, rfl⟩ | ⟨gh, m, c, b, h, rfl⟩
  · exact .inl ⟨v, h.kept hc hs, h1, h2, rfl⟩
  · exact .inr ⟨gh, m, c, b, h.kept hc (fun k hk => hs k (St_SB.1 hk)), rfl⟩
theorem TT.below (h : TT sh W base g n xs p S) (hb : Below W.heap.size W W') : TT sh W' base g n xs p S := h.kept (S2 := fun _ => False) (.of_below hb) (fun _ _ q => q)
theorem TT.lt (h : TT sh W base g n xs p S) : ∀ k, S k → k < W.heap.size := by
  rcases h with ⟨v, h, h1, h2, rfl⟩ | ⟨gh, m, c, b, h, rfl⟩
  · rintro k (rfl | hk)
    · exact blk_lt h.hg
    · exact Kd.R_lt h.hr k hk.symm
  · rintro k (rfl | rfl | rfl)
    · exact h.g_lt
    · exact h.b_lt
    · exact h.v_lt _ (by simp [Value.ownBlock])
theorem TT.base_le (h : TT sh W base g n xs p S) : ∀ k, S k → base ≤ k := by
  rcases h with ⟨v, h, h1, h2, rfl⟩ | ⟨gh, m, c, b, h, rfl⟩
  · rintro k (rfl | hk)
    · exact h.gb
    · exact Kd.R_base h.hr k hk.symm
  · rintro k (rfl | rfl | rfl)
    · exact h.gb
    · exact h.bb
    · exact h.v_base _ (by simp [Value.ownBlock])
theorem TT.mono {n' : Nat} (h : TT sh W base g n xs p S) (hn : n ≤ n') : TT sh W base g n' xs p S := by
  rcases h with h | ⟨gh, m, c, b, h, rfl⟩
  · exact .inl h
  · exact .inr ⟨gh, m, c, b, h.mono hn, rfl⟩
/-- The places are places. -/
def PB (xs : List (Int × Int)) (p : Int → Option Int) : Prop := ∀ id k, p id = some k → ∃ j : Nat, k = (j : Int) ∧ j < xs.length
def dropF (id : Int) (xs : List (Int × Int)) (p : Int → Option Int) : List (Int × Int) × (Int → Option Int) :=
  match p id with
  | none => (xs, p)
  | some k => cutF k.toNat xs p
set_option maxHeartbeats 4000000 in
set_option maxRecDepth 100000 in
theorem drop_any (h : TT sh W base g n xs p S) (hw : Wx xs) (hp : PB xs p) {id : Int} (wid : (Lit.int .i64 id).wf = true) (hn : n + 4 * xs.length < 50000000000) :
    Calls Try.prog 56 #[.pointer (some ⟨g, sh.o, none⟩), .int .i64 id] W fun e w' => e = .returned (.bool (p id).isSome) ∧
      Aside0 (∃ S', TT sh w' base g (n + 3 * xs.length + 4) (dropF id xs p).1 (dropF id xs p).2 S' ∧ ∀ k, S' k → S k ∨ W.heap.size ≤ k) ∧ Chg S W w' := by
  have hu28 := Try.underlying42
  rcases h with ⟨v, h, rfl, rfl, rfl⟩ | ⟨gh, m, c, b, h, rfl⟩
  · have c1 : W.cell? ⟨g, sh.o + 1, none⟩ = some (.map none) := (blk_cell h.hg (sh.o + 1)).trans (sh.get1 _ _)
    have hlook := Maps.look_nil (P := Try.prog) (w := W) true (int_keyed Try.underlying3) Try.underlying40 (z := .int .i64 0) (zero3 W) (keyOf_int_mk Try.underlying3 wid)
    simp only [if_true] at hlook
    have HT := Aside0.mk h
    clear h hw hp
    go_enter Try.func56, Try.ntmps56
    go_wp2
    go_ret
    exact ⟨rfl, ⟨_, .inl ⟨v, HT.out, rfl, rfl, rfl⟩, fun k hk => .inl hk⟩, Chg.refl _ _⟩
  · have c1 := h.c1
    have hlook := h.lookok wid
    have HT := Aside0.mk h
    cases hid : p id with
    | none =>
      rw [hid] at hlook
      have hlook : (Instr.lookup 40 (.map (some b)) (.int .i64 id) true).run Try.prog W = .ok (.tuple #[.int .i64 0, .bool false]) W := hlook
      have HE := Aside0.mk (show dropF id xs p = (xs, p) from by unfold dropF; rw [hid])
      clear h hw hp hid
      go_enter Try.func56, Try.ntmps56
      go_wp2
      go_ret
      refine ⟨rfl, ⟨_, .inr ⟨gh, m, c, b, ?_, rfl⟩, fun k hk => .inl hk⟩, Chg.refl _ _⟩
      rw [HE.out]
      exact HT.out.mono (by omega)
    | some k =>
      obtain ⟨j, rfl, hj⟩ := hp id k hid
      rw [hid] at hlook
      have hlook : (Instr.lookup 40 (.map (some b)) (.int .i64 id) true).run Try.prog W = .ok (.tuple #[.int .i64 (j : Int), .bool true]) W := hlook
      have HE := Aside0.mk (show dropF id xs p = cutF j xs p from by unfold dropF; rw [hid]; rfl)
      have HW := Aside0.mk hw
      have HJ := Aside0.mk hj
      have HN := Aside0.mk hn
      clear h hw hp hid hj hn
      go_enter Try.func56, Try.ntmps56
      go_wp2_with (go_at_call 87; refine (cut_any HT.out HW.out HJ.out HN.out).mono ?_; rintro e w3 ⟨rfl, HT3, hC3⟩; have HC3 := Aside0.mk hC3; clear hC3)
      go_ret
      refine ⟨rfl, ⟨_, .inr ⟨gh, m - 1, c, b, ?_, rfl⟩, fun k hk => .inl hk⟩, HC3.out.mono fun k hk => St_SB.1 hk⟩
      rw [HE.out]
      exact HT3.out
theorem len_any (h : TT sh W base g n xs p S) : Calls Try.prog 95 #[.pointer (some ⟨g, sh.o, none⟩)] W fun e w' => e = .returned (.int .i64 (xs.length : Int)) ∧ w' = W := by
  have hu28 := Try.underlying42
  rcases h with ⟨v, h, rfl, rfl, rfl⟩ | ⟨gh, m, c, b, h, rfl⟩
  · obtain ⟨Av, cv, rfl⟩ := Kd.R_slice h.hr
    have c0 : W.cell? ⟨g, sh.o, none⟩ = some (.slice Av 0 cv) := (blk_cell h.hg sh.o).trans (sh.get0 _ _)
    clear h
    go_enter Try.func95, Try.ntmps95
    go_wp2
    go_ret
    exact ⟨rfl, rfl⟩
  · have c0 := h.c0
    have hm := Aside0.mk h.len
    clear h
    go_enter Try.func95, Try.ntmps95
    go_wp2
    go_ret
    exact ⟨by rw [hm.out]; rfl, rfl⟩
end
end Go.Proofs.Ytakbhnfmimnbhaa.Tm
