/- More calls of a row with two ends. Conditions: the row lies in memory of its own. -/
import Derived.Test.YtjcjhmnfknenlaaRing1
namespace Go.Proofs.Ytjcjhmnfknenlaa.Rg
open Go.RowKit Go.Proofs.YtjcjhmnfknenlaaW.PrintWords


section
variable {W : World} {g b cap p n c : Nat} {xs : List Int} {ex : List Value}
theorem popback_none (h : At W g b c ex cap p 0 xs) :
    Calls Try.prog 46 #[.pointer (some ⟨g, 0, none⟩)] W fun e w' => e = .returned (.tuple #[.int .i64 0, .bool false]) ∧ ∃ k, w' = W.drewN k := by
  go_enter Try.func46, Try.ntmps46
  go_wp2_with (first | (go_at_call 54; refine (len_any h).mono ?_; rintro e w' ⟨rfl, rfl⟩) | (go_at_call 57; refine (at_out h _ (by omega)).mono ?_; rintro e w' ⟨rfl, k1, rfl⟩))
  go_ret2
  exact ⟨rfl, _, rfl⟩
theorem popback_some (h : At W g b c ex cap p n xs) (hn : 0 < n) :
    Calls Try.prog 46 #[.pointer (some ⟨g, 0, none⟩)] W fun e w' => e = .returned (.tuple #[.int .i64 (xs.getD ((p + (n - 1)) % cap) 0), .bool true]) ∧ Chg (fun k => k = g ∨ k = b) W w' ∧ At w' g b c ex cap p (n - 1) xs := by
  have hr := h.room
  have hl := h.n_le
  have c2 := h.c2
  have hg2 := blk_frozen h.hg 2
  have ha := fun k => at_in (h.drewN k) (n - 1) (by omega)
  rw [show ((n - 1 : Nat) : Int) = (n : Int) - 1 by omega] at ha
  generalize xs.getD ((p + (n - 1)) % cap) 0 = y at *
  go_enter Try.func46, Try.ntmps46
  go_wp2_with (first | (go_at_call 54; refine (len_any h).mono ?_; rintro e w' ⟨rfl, rfl⟩) | (go_at_call 57; refine (ha 0).mono ?_; rintro e w' ⟨rfl, k1, rfl⟩))
  go_ret2
  refine ⟨rfl, ?_, ?_⟩
  · exact ((Chg.refl _ _).drewN _).set_ (Or.inl (Or.inl rfl)) _
  · have := (h.drewN k1).setN (n - 1) (by omega)
    rwa [show ((n - 1 : Nat) : Int) = (n : Int) - 1 by omega] at this
theorem popfront_none (h : At W g b c ex cap p 0 xs) :
    Calls Try.prog 47 #[.pointer (some ⟨g, 0, none⟩)] W fun e w' => e = .returned (.tuple #[.int .i64 0, .bool false]) ∧ ∃ k, w' = W.drewN k := by
  go_enter Try.func47, Try.ntmps47
  go_wp2_with (first | (go_at_call 57; refine (at_out h _ (by omega)).mono ?_; rintro e w' ⟨rfl, k1, rfl⟩))
  go_ret2
  exact ⟨rfl, _, rfl⟩
theorem popfront_some (h : At W g b c ex cap p n xs) (hn : 0 < n) :
    Calls Try.prog 47 #[.pointer (some ⟨g, 0, none⟩)] W fun e w' => e = .returned (.tuple #[.int .i64 (xs.getD (p % cap) 0), .bool true]) ∧ Chg (fun k => k = g ∨ k = b) W w' ∧ At w' g b c ex cap ((p + 1) % cap) (n - 1) xs := by
  have hr := h.room
  have hl := h.n_le
  have c2 := h.c2
  have hg2 := blk_frozen h.hg 2
  have hg1 := blk_frozen h.hg 1
  have c1 := h.c1
  have ha := at_in h 0 hn
  have hm : (p + 1) % cap < cap := Nat.mod_lt _ (by omega)
  have hs := fun k => slot_q (h.drewN k) 1 _ rfl (by omega) (by omega)
  simp only [Nat.add_zero] at ha
  generalize xs.getD (p % cap) 0 = y at *
  generalize (p + 1) % cap = q at *
  go_enter Try.func47, Try.ntmps47
  go_wp2_with (first | (go_at_call 57; refine ha.mono ?_; rintro e w' ⟨rfl, k1, rfl⟩) | (go_at_call 55; refine (hs _).mono ?_; rintro e w' ⟨rfl, k2, rfl⟩))
  go_ret2
  refine ⟨rfl, ?_, ?_⟩
  · exact (((Chg.refl _ _).drewN _).set_ (Or.inl (Or.inl rfl)) _).set_ (Or.inl (Or.inl rfl)) _
  · have := ((h.drewN (k1 + k2)).setP q hm).setN (n - 1) (by omega)
    rwa [show ((n - 1 : Nat) : Int) = (n : Int) - 1 by omega] at this
end
end Go.Proofs.Ytjcjhmnfknenlaa.Rg
