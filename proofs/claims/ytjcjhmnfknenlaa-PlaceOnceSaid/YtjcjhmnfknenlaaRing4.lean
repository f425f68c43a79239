/- All of a row with two ends; what the law's own calls do. Conditions: the row lies in memory of its own. -/
import Derived.Test.YtjcjhmnfknenlaaRing3
namespace Go.Proofs.Ytjcjhmnfknenlaa.Rg
open Go.RowKit Go.Proofs.YtjcjhmnfknenlaaW.PrintWords Go.Proofs.YtjcjhmnfknenlaaW.PrintLast Go.Proofs.YtjcjhmnfknenlaaW.PrintMore Ap

section
variable {W : World} {g b cap p n c : Nat} {xs : List Int} {ex : List Value}

theorem elems_take_succ (cap p : Nat) (xs : List Int) (i : Nat) : elems cap p (i + 1) xs = elems cap p i xs ++ [xs.getD ((p + i) % cap) 0] := by
  simp [elems, List.range_succ]

theorem all_any (h : At W g b c ex cap p n xs) :
    Calls Try.prog 40 #[.pointer (some ⟨g, 0, none⟩)] W fun e w' => ∃ v, e = .returned v ∧ Below W.heap.size W w' ∧ w'.ownsRow W.heap.size 3 1 v (elems cap p n xs).length (nums .i64 (elems cap p n xs)) := by
  have hn := h.n_le
  have hr := h.room
  go_enter Try.func40, Try.ntmps40
  go_wp2_with (go_at_call 54; refine (len_any h).mono ?_; rintro e w' ⟨rfl, rfl⟩)
  go_loopg [3, 7] n (fun d v3 v7 w' => ∃ i : Nat, d + i = n ∧ v7 = .int .i64 (i : Int) ∧ Below W.heap.size W w' ∧ w'.ownsRow W.heap.size 3 1 v3 (elems cap p i xs).length (nums .i64 (elems cap p i xs)))
  case atStart => exact ⟨0, by omega, rfl, Below.refl _ _, ⟨rfl, .inl ⟨rfl, rfl⟩⟩⟩
  case round =>
    obtain ⟨i, hd, rfl, HB, HO⟩ := hrel
    have h1 := h.kept (Chg.of_below HB (S := fun _ => False)) id id
    rcases gk with _ | d
    · obtain rfl : i = n := by omega
      go_wp2
      go_ret
      exact ⟨_, rfl, HB, HO⟩
    · have hin : i < n := by omega
      have d1 : decide ((i : Int) < (n : Int)) = true := decide_eq_true (by omega)
      have e1 : IntKind.i64.wrap ((i : Int) + 1) = ((i + 1 : Nat) : Int) := by rw [i64_w]; unfold wrap64; omega
      have c0 := h1.c0
      have hm : (p + i) % cap < cap := Nat.mod_lt _ (by omega)
      have hs := fun k => slot_q (h1.drewN k) i _ rfl (by omega) (by omega)
      have cb := h1.cb hm
      have hx : (0 : Int) ≤ (((p + i) % cap : Nat) : Int) := by omega
      have hy : (((p + i) % cap : Nat) : Int) < (cap : Int) := by omega
      have ht : (((p + i) % cap : Nat) : Int).toNat = (p + i) % cap := rfl
      have hE := elems_take_succ cap p xs i
      have hlen := elems_len cap p i xs
      generalize (p + i) % cap = q at *
      generalize xs.getD q 0 = y at *
      generalize elems cap p i xs = es at *
      go_wp2
      go_region_law (first
        | (refine goes_ Try.func55 (by kernel_rfl) rfl #[.pointer (some ⟨g, 0, none⟩), .int .i64 (i : Int)] (by rfl) rfl rfl (by simp [Act.eval, Act.put]) ?_; refine (hs _).mono ?_; rintro e w' ⟨rfl, k, rfl⟩; refine ⟨_, rfl, ?_⟩)
        | (refine step_app rfl (.tmp 10) (.tmp 20) 38 3 rfl W.heap.size .i64 8 Try.underlying38 info3 (by decide) u3 es [y] (some ⟨wr.heap.size, 0, none⟩) 1 1 rfl rfl (by first | exact (own_drewN HO _).alloc _ | exact HO.alloc _) (by exact ReadsInt.one_at _ _ _ _ _ (by simp)) (by have := HB.size; simp; omega) (by omega) ?_; intro v1 w1 hown hg hat))
      all_goals
        go_wp2
        go_roundg d
        case measure => omega
        case rel =>
          refine ⟨i + 1, by omega, by simp, ?_, by rw [hE]; exact hown⟩
          exact (below_alloc (pw_below_drewN HB _) _).grown hg (by have := HB.size; simp; omega) (own_base HO)
end
end Go.Proofs.Ytjcjhmnfknenlaa.Rg
