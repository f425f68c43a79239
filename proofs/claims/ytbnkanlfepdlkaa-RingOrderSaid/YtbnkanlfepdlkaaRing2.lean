/- More calls of a row with two ends. Conditions: the row lies in memory of its own. -/
import Derived.Test.YtbnkanlfepdlkaaRing1
namespace Go.Proofs.Ytbnkanlfepdlkaa.Rg
open Go.RowKit Go.Proofs.YtbnkanlfepdlkaaW.PrintWords


section
variable {W : World} {g b cap p n c : Nat} {xs : List Int} {ex : List Value}
theorem front_full (h : At W g b c ex cap p n xs) (hn : n = cap) (x : Int) :
    Calls Try.prog 27 #[.pointer (some ⟨g, 0, none⟩), .int .i64 x] W fun e w' => e = .returned (.bool false) ∧ ∃ k, w' = W.drewN k := by
  go_enter Try.func27, Try.ntmps27
  go_wp2_with (go_at_call 50; refine (full_any h).mono ?_; rintro e w' ⟨rfl, k, rfl⟩)
  try rw [decide_eq_true hn]
  try go_wp2
  all_goals go_ret
  all_goals exact ⟨rfl, _, rfl⟩
theorem front_any (h : At W g b c ex cap p n xs) (hn : n < cap) (x : Int) :
    Calls Try.prog 27 #[.pointer (some ⟨g, 0, none⟩), .int .i64 x] W fun e w' => e = .returned (.bool true) ∧ Chg (fun k => k = g ∨ k = b) W w' ∧ At w' g b c ex cap ((p + (cap - 1)) % cap) (n + 1) (xs.set ((p + (cap - 1)) % cap) x) := by
  have c2 := h.c2
  have c1 := h.c1
  have c0 := h.c0
  have hr := h.room
  have hm : (p + (cap - 1)) % cap < cap := Nat.mod_lt _ (by omega)
  have hs := fun k => slot_q (h.drewN k) (cap - 1) _ rfl (by omega) (by omega)
  have hg1 := blk_frozen h.hg 1
  generalize (p + (cap - 1)) % cap = q at *
  go_enter Try.func27, Try.ntmps27
  go_wp2_with (first | (go_at_call 50; refine (full_any h).mono ?_; rintro e w' ⟨rfl, k1, rfl⟩; rw [decide_eq_false (by omega)]) | (go_at_call 51; rw [show ((cap : Int) - 1) = ((cap - 1 : Nat) : Int) by omega]; refine (hs _).mono ?_; rintro e w' ⟨rfl, k2, rfl⟩))
  have h1 := ((h.drewN k1).drewN k2).setP q hm
  have hc := (((Chg.refl (fun k => k = g ∨ k = b) W).drewN k1).drewN k2).set_ (p := ⟨g, 1, none⟩) (Or.inl (Or.inl rfl)) (.int .i64 (q : Int))
  rw [World.drewN_drewN] at h1 hc
  generalize World.setCell (World.drewN W (k1 + k2)) ⟨g, 1, none⟩ (.int .i64 (q : Int)) = W1 at h1 hc ⊢
  have d0 := h1.c0
  have d1 := h1.c1
  have d2 := h1.c2
  have hx : (0 : Int) ≤ (q : Int) := by omega
  have hy : (q : Int) < (cap : Int) := by omega
  have ht : (q : Int).toNat = q := rfl
  have hfb := blk_frozen h1.hb q
  have cb := h1.cb hm
  have hg2 := blk_frozen h1.hg 2
  have hgb := h.ne
  have hbg := h.ne.symm
  go_region_with (fail)
  all_goals go_wp2
  all_goals go_ret
  all_goals exact ⟨rfl, ((hc.drewN _).set_ (Or.inl (Or.inr rfl)) _).set_ (Or.inl (Or.inl rfl)) _, ((h1.drewN _).setX q hm x).setN (n + 1) (by omega)⟩

theorem popback_none (h : At W g b c ex cap p 0 xs) :
    Calls Try.prog 28 #[.pointer (some ⟨g, 0, none⟩)] W fun e w' => e = .returned (.tuple #[.int .i64 0, .bool false]) ∧ ∃ k, w' = W.drewN k := by
  go_enter Try.func28, Try.ntmps28
  go_wp2_with (first | (go_at_call 29; refine (len_any h).mono ?_; rintro e w' ⟨rfl, rfl⟩) | (go_at_call 37; refine (at_out h _ (by omega)).mono ?_; rintro e w' ⟨rfl, k1, rfl⟩))
  go_ret2
  exact ⟨rfl, _, rfl⟩
theorem popback_some (h : At W g b c ex cap p n xs) (hn : 0 < n) :
    Calls Try.prog 28 #[.pointer (some ⟨g, 0, none⟩)] W fun e w' => e = .returned (.tuple #[.int .i64 (xs.getD ((p + (n - 1)) % cap) 0), .bool true]) ∧ Chg (fun k => k = g ∨ k = b) W w' ∧ At w' g b c ex cap p (n - 1) xs := by
  have hr := h.room
  have hl := h.n_le
  have c2 := h.c2
  have hg2 := blk_frozen h.hg 2
  have ha := fun k => at_in (h.drewN k) (n - 1) (by omega)
  rw [show ((n - 1 : Nat) : Int) = (n : Int) - 1 by omega] at ha
  generalize xs.getD ((p + (n - 1)) % cap) 0 = y at *
  go_enter Try.func28, Try.ntmps28
  go_wp2_with (first | (go_at_call 29; refine (len_any h).mono ?_; rintro e w' ⟨rfl, rfl⟩) | (go_at_call 37; refine (ha 0).mono ?_; rintro e w' ⟨rfl, k1, rfl⟩))
  go_ret2
  refine ⟨rfl, ?_, ?_⟩
  · exact ((Chg.refl _ _).drewN _).set_ (Or.inl (Or.inl rfl)) _
  · have := (h.drewN k1).setN (n - 1) (by omega)
    rwa [show ((n - 1 : Nat) : Int) = (n : Int) - 1 by omega] at this
theorem popfront_none (h : At W g b c ex cap p 0 xs) :
    Calls Try.prog 26 #[.pointer (some ⟨g, 0, none⟩)] W fun e w' => e = .returned (.tuple #[.int .i64 0, .bool false]) ∧ ∃ k, w' = W.drewN k := by
  go_enter Try.func26, Try.ntmps26
  go_wp2_with (first | (go_at_call 37; refine (at_out h _ (by omega)).mono ?_; rintro e w' ⟨rfl, k1, rfl⟩))
  go_ret2
  exact ⟨rfl, _, rfl⟩
theorem popfront_some (h : At W g b c ex cap p n xs) (hn : 0 < n) :
    Calls Try.prog 26 #[.pointer (some ⟨g, 0, none⟩)] W fun e w' => e = .returned (.tuple #[.int .i64 (xs.getD (p % cap) 0), .bool true]) ∧ Chg (fun k => k = g ∨ k = b) W w' ∧ At w' g b c ex cap ((p + 1) % cap) (n - 1) xs := by
  have hr := h.room
  have hl := h.n_le
  have c2 := h.c2
  have hg2 := blk_frozen h.hg 2
  have hg1 := blk_frozen h.hg 1
  have c1 := h.c1
  have ha := at_in h 0 hn
  have hm : (p + 1) % cap < cap := Nat.mod_lt _ (by omega)
  have hs := fun k => slot_q (h.drewN k) 1 _ rfl (by omega) (by omega)
  simp only [Nat.add_zero] at ha
  generalize xs.getD (p % cap) 0 = y at *
  generalize (p + 1) % cap = q at *
  go_enter Try.func26, Try.ntmps26
  go_wp2_with (first | (go_at_call 37; refine ha.mono ?_; rintro e w' ⟨rfl, k1, rfl⟩) | (go_at_call 51; refine (hs _).mono ?_; rintro e w' ⟨rfl, k2, rfl⟩))
  go_ret2
  refine ⟨rfl, ?_, ?_⟩
  · exact (((Chg.refl _ _).drewN _).set_ (Or.inl (Or.inl rfl)) _).set_ (Or.inl (Or.inl rfl)) _
  · have := ((h.drewN (k1 + k2)).setP q hm).setN (n - 1) (by omega)
    rwa [show ((n - 1 : Nat) : Int) = (n : Int) - 1 by omega] at this
end
end Go.Proofs.Ytbnkanlfepdlkaa.Rg
