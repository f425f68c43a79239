/- Rights as the page has them: Who. Conditions: none. -/
import Derived.Test.YtjcjhmnfknenlaaDoorRu3
import Derived.Test.YtjcjhmnfknenlaaDoorR2PRightPlays
namespace Go.Proofs.YtjcjhmnfknenlaaDoor.Rt
open Go.RowKit Go.Proofs.YtjcjhmnfknenlaaDoor.PRightPlays Go.Proofs.YtjcjhmnfknenlaaDoorW.PrintWords Go.Proofs.YtjcjhmnfknenlaaDoorW.PrintLast
set_option linter.unusedVariables false
set_option linter.unusedSimpArgs false

namespace Rf
theorem has_f {F : Nat} (hF : F < Bt.top) (t : Int) : logjamref02_Has.f 66 (F : Int) t = some (has F t) := by
  unfold has
  by_cases h : t < 0 ∨ 64 ≤ t
  · rw [R2.has_out h (Nat.le_refl _)]
    rcases h with h | h
    · rw [decide_eq_false (show ¬ (0 : Int) ≤ t by omega)]; rfl
    · rw [decide_eq_false (show ¬ t < 64 by omega)]; simp
  · obtain ⟨q, rfl⟩ : ∃ q : Nat, t = (q : Int) := ⟨t.toNat, by omega⟩
    rw [R2.has_in hF (by omega) (Nat.le_refl _), decide_eq_true (show (0 : Int) ≤ (q : Int) by omega), decide_eq_true (show (q : Int) < 64 by omega), Int.toNat_natCast]
    rfl
end Rf
theorem ref_has {W : World} {s : Nat} (hs : s < Bt.top) (o : Int) : Calls Tryd.prog 25 #[.int .u64 (s : Int), .int .i64 o] W fun e w' => e = .returned (.bool (Rf.has s o)) ∧ Drawn0 W w' := logjamref02_Has.calls 66 _ _ _ W (Rf.has_f hs o)
theorem ref_with {W : World} {s t : Nat} (hs : s < Bt.top) (ht : t < 64) : Calls Tryd.prog 31 #[.int .u64 (s : Int), .int .i64 (t : Int)] W fun e w' => e = .returned (.int .u64 ((s ||| 2 ^ t : Nat) : Int)) ∧ Drawn0 W w' := logjamref02_With.calls 68 _ _ _ W (R2.with_in hs ht (Nat.le_refl _))
set_option maxHeartbeats 4000000 in
set_option maxRecDepth 100000 in
theorem ref_who {W : World} {B : List Nat} (hB : Rf.Ok B) (o : Int) :
    Calls Tryd.prog 24 #[.agg (Rf.enc B), .int .i64 o] W fun e w' => e = .returned (.int .u64 ((Rf.who B o : Nat) : Int)) ∧ Below W.heap.size W w' := by
  have hu28 := Tryd.underlying28
  have HOK := Aside0.mk hB
  clear hB
  go_enter Tryd.func24, Tryd.ntmps24
  go_upto_block 0 with ((with_reducible refine gate_dst (N := 2) rfl ?_); refine box_event ?hg (N := 2) ?hd (cs := Rf.enc B) (t := 28) ?hr ?_; (case hd => rfl); (case hg => rfl); (case hr => first | (go_simp; done) | (go_simp; rfl)); intro g hg w1 hbox hb; have HB := Aside0.mk hb; have BX := Aside0.mk hbox; clear hbox hb hg)
  go_wp2
  go_loopg [5, 6] 64 (fun kq v5 v6 w' => ∃ (i : Nat), v5 = .int .u64 ((Gs.setOf (Rf.whoB B o) i : Nat) : Int) ∧ v6 = .int .i64 (i : Int) ∧ Aside0 (i + kq = 64) ∧ Aside0 (Below W.heap.size W w') ∧ Aside0 (w'.heap[g]? = some (.cells (Rf.enc B) 28 (0, 0))))
  case atStart => exact ⟨0, rfl, rfl, ⟨by omega⟩, HB, BX⟩
  case round =>
    clear HB BX
    obtain ⟨i, rfl, rfl, HK, HB, BX⟩ := hrel
    rcases gk with _ | k1
    · have HI := Aside0.mk (show i = 64 from by have := HK.out; omega)
      have d1 : decide ((i : Int) < 64) = false := decide_eq_false (by have := HK.out; omega)
      have d2 : decide (i < 64) = false := decide_eq_false (by have := HK.out; omega)
      go_wp2
      go_ret
      exact ⟨by rw [HI.out]; first | rfl | simp [Rf.who], HB.out⟩
    · have d1 : decide ((i : Int) < 64) = true := decide_eq_true (by have := HK.out; omega)
      have d2 : decide (i < 64) = true := decide_eq_true (by have := HK.out; omega)
      have p1 : (0 ≤ (i : Int)) = True := eq_true (by omega)
      have p2 : ((i : Int) < 64) = True := eq_true (by have := HK.out; omega)
      have HI64 := Aside0.mk (show i < 64 from by have := HK.out; omega)
      have ew : Aside0 (wrap64 ((i : Int) + 1) = (i : Int) + 1) := ⟨by have h2 := HI64.out; unfold wrap64; omega⟩
      have HST := Aside0.mk (show Gs.setOf (Rf.whoB B o) (i + 1) = if Rf.whoB B o i = true then Gs.setOf (Rf.whoB B o) i ||| 2 ^ i else Gs.setOf (Rf.whoB B o) i from rfl)
      have HSL := Aside0.mk (show Gs.setOf (Rf.whoB B o) i < Bt.top from Gs.setOf_top _ (by have := HI64.out; omega))
      have HH := Aside0.mk (HOK.out.2 i)
      have x0 : wr.cell? ⟨g, i, none⟩ = some (.int .u64 ((B.getD i 0 : Nat) : Int)) := (blk_cell BX.out i).trans (Rf.enc_get B i (by rw [HOK.out.1]; exact HI64.out))
      have HWB := Aside0.mk (show Rf.whoB B o i = (decide (o < 32) && Rf.has (B.getD i 0) o) from rfl)
      generalize B.getD i 0 = S at *
      generalize Gs.setOf (Rf.whoB B o) i = T at *
      by_cases ho : o < 32
      · have d3 : decide (o < 32) = true := decide_eq_true ho
        rw [d3, Bool.true_and] at HWB
        clear ho
        cases hq : Rf.has S o with
        | true =>
          rw [hq] at HWB
          have HE := Aside0.mk (HST.out.trans (if_pos HWB.out))
          have HQ := Aside0.mk hq
          clear HST HWB hq
          go_wp2_with (first
            | (go_at_call 25; (with_reducible refine (ref_has HH.out o).mono ?_); rintro e w8 ⟨rfl, ⟨nd8, rfl⟩⟩; rw [HQ.out])
            | (go_at_call 31; (with_reducible refine (ref_with HSL.out HI64.out).mono ?_); rintro e w9 ⟨rfl, ⟨nd9, rfl⟩⟩))
          go_roundg k1
          case measure => omega
          case rel => exact ⟨i + 1, by rw [HE.out], by rw [ew.out]; simp, ⟨by have := HK.out; omega⟩, ⟨pw_below_drewN HB.out _⟩, ⟨blk_below BX.out (pw_below_drewN (Below.refl _ _) _)⟩⟩
        | false =>
          rw [hq] at HWB
          have HE := Aside0.mk (HST.out.trans (if_neg (by rw [HWB.out]; decide)))
          have HQ := Aside0.mk hq
          clear HST HWB hq
          go_wp2_with (go_at_call 25; (with_reducible refine (ref_has HH.out o).mono ?_); rintro e w8 ⟨rfl, ⟨nd8, rfl⟩⟩; rw [HQ.out])
          go_roundg k1
          case measure => omega
          case rel => exact ⟨i + 1, by rw [HE.out], by rw [ew.out]; simp, ⟨by have := HK.out; omega⟩, ⟨pw_below_drewN HB.out _⟩, ⟨blk_below BX.out (pw_below_drewN (Below.refl _ _) _)⟩⟩
      · have d3 : decide (o < 32) = false := decide_eq_false ho
        rw [d3, Bool.false_and] at HWB
        have HE := Aside0.mk (HST.out.trans (if_neg (by rw [HWB.out]; decide)))
        clear ho HST HWB
        go_wp2
        go_roundg k1
        case measure => omega
        case rel => exact ⟨i + 1, by rw [HE.out], by rw [ew.out]; simp, ⟨by have := HK.out; omega⟩, HB, BX⟩
end Go.Proofs.YtjcjhmnfknenlaaDoor.Rt
