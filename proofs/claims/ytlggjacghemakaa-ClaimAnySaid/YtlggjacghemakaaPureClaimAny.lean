/- ClaimAny, over numbers and lists alone: for every input the law's plain function answers true. Conditions: none. -/
import Derived.Test.YtlggjacghemakaaClClaimAny
namespace Go.Proofs.Ytlggjacghemakaa.Pure
open Go.RowKit Go.Proofs.Ytlggjacghemakaa.PClaimAny Go.Proofs.YtlggjacghemakaaW.PrintWords Go.Proofs.YtlggjacghemakaaW.PrintLast
open ClClaimAny Cm

/-- Whether what is left of an order meets the rest, p having gone. -/
def met (F : List Int) (H C : List (List Int)) : List Nat → List Int → Bool
  | p, [] => decide (p.length = H.length)
  | p, x :: t => if 0 ≤ x ∧ x < H.length then (if pN F H C p x.toNat = true then met F H C (p ++ [x.toNat]) t else false) else false
theorem met_ev {F : List Int} {H C : List (List Int)} (ok : OkA F H C) (o : List Int) (ho : o.length ≤ 64) : ∀ t p, o = lI p ++ t → Evt (fun k => logjamref25_Met.l0 k o (frv F H p) (p.length : Int) F H C) (met F H C p t)
  | [], p, h => by
    have hl : o.length = p.length := by rw [h, List.append_nil, lI_len]
    refine Evt.step (g := fun _ => some (met F H C p [])) (fun k => ?_) (Evt.const fun _ => rfl)
    show logjamref25_Met.l0 (k + 1) _ _ _ _ _ _ = _
    simp only [logjamref25_Met.l0, met]
    rw [if_neg (by omega), hl]
    congr 1
    rw [Bool.eq_iff_iff]
    simp
    omega
  | x :: t, p, h => by
    have hm := ok.2.1
    have hn := ok.2.2.1
    have hl : o.length = p.length + (t.length + 1) := by rw [h, List.length_append, lI_len, List.length_cons]
    have hx : rd o (p.length : Int) = x := by
      rw [rd_at (by omega)]
      simp only [h]
      rw [List.getElem_append_right (by rw [lI_len]; exact Nat.le_refl _)]
      simp [lI_len]
    have htk : o.take p.length = lI p := by
      rw [h, List.take_append_of_le_length (by rw [lI_len]; exact Nat.le_refl _), List.take_of_length_le (by rw [lI_len]; exact Nat.le_refl _)]
    have hj : Evt (fun _ => some false) false := Evt.const fun _ => rfl
    have hr : ∀ (q : Nat), x = (q : Int) → (0 : Int) ≤ rd o (p.length : Int) := fun q e => by rw [hx, e]; omega
    simp only [met]
    by_cases c : 0 ≤ x ∧ x < H.length
    · rw [if_pos c]
      obtain ⟨q, rfl⟩ : ∃ q : Nat, x = (q : Int) := ⟨x.toNat, by omega⟩
      have hq : q < H.length := by omega
      rw [Int.toNat_natCast]
      by_cases hin : q ∈ p
      · have e : pN F H C p q = false := by unfold pN; simp [hin]
        rw [e, if_neg (by decide)]
        refine Evt.step (g := fun k => (logjamref25_has.f k (lI p) (q : Int)).bind fun t => if t = true then some false else (logjamref25_Left.f k F H C (q : Int)).bind fun n => (logjamref25_Under.f k n (frv F H p)).bind fun u => if u = true then (logjamref25_sum.f k (frv F H p) (rd_L1 H (q : Int))).bind fun t => logjamref25_Met.l0 k o t ((p.length + 1 : Nat) : Int) F H C else some false) (fun k => ?_) (Evt.bind (has_f (lI p) (q : Int) (by rw [lI_len]; omega)) ?_)
        · show logjamref25_Met.l0 (k + 1) _ _ _ _ _ _ = _
          simp only [logjamref25_Met.l0]
          rw [if_pos (by omega), if_pos (by omega), hx, if_neg (by omega), if_neg (by omega), if_pos (by omega), Int.toNat_natCast, htk, if_pos (by omega), if_pos (by omega), w1 (by omega)]
        · have : decide ((q : Int) ∈ lI p) = true := decide_eq_true (List.mem_map.2 ⟨q, hin, rfl⟩)
          rw [this]
          exact Evt.of (fun k => by rw [if_pos rfl]) hj
      · have e : pN F H C p q = und (lf F H C q) (frv F H p) := by unfold pN; simp [hin]
        rw [e]
        refine Evt.step (g := fun k => (logjamref25_has.f k (lI p) (q : Int)).bind fun t => if t = true then some false else (logjamref25_Left.f k F H C (q : Int)).bind fun n => (logjamref25_Under.f k n (frv F H p)).bind fun u => if u = true then (logjamref25_sum.f k (frv F H p) (rd_L1 H (q : Int))).bind fun t => logjamref25_Met.l0 k o t ((p.length + 1 : Nat) : Int) F H C else some false) (fun k => ?_) (Evt.bind (has_f (lI p) (q : Int) (by rw [lI_len]; omega)) ?_)
        · show logjamref25_Met.l0 (k + 1) _ _ _ _ _ _ = _
          simp only [logjamref25_Met.l0]
          rw [if_pos (by omega), if_pos (by omega), hx, if_neg (by omega), if_neg (by omega), if_pos (by omega), Int.toNat_natCast, htk, if_pos (by omega), if_pos (by omega), w1 (by omega)]
        · have : decide ((q : Int) ∈ lI p) = false := decide_eq_false (fun hm => by
            obtain ⟨y, hy, e⟩ := List.mem_map.1 hm
            have : y = q := by omega
            subst this
            exact hin hy)
          rw [this]
          refine Evt.of (g := fun k => (logjamref25_Left.f k F H C (q : Int)).bind fun n => (logjamref25_Under.f k n (frv F H p)).bind fun u => if u = true then (logjamref25_sum.f k (frv F H p) (rd_L1 H (q : Int))).bind fun t => logjamref25_Met.l0 k o t ((p.length + 1 : Nat) : Int) F H C else some false) (fun k => by rw [if_neg (by decide)]) ?_
          refine Evt.bind (g := fun k n => (logjamref25_Under.f k n (frv F H p)).bind fun u => if u = true then (logjamref25_sum.f k (frv F H p) (rd_L1 H (q : Int))).bind fun t => logjamref25_Met.l0 k o t ((p.length + 1 : Nat) : Int) F H C else some false) (rleft_f ok hq) ?_
          refine Evt.bind (g := fun k u => if u = true then (logjamref25_sum.f k (frv F H p) (rd_L1 H (q : Int))).bind fun t => logjamref25_Met.l0 k o t ((p.length + 1 : Nat) : Int) F H C else some false) (runder_f _ _ (by rw [lf, vec_len]; omega) (by rw [lf, frv, vec_len, vec_len]; exact Nat.le_refl _)) ?_
          cases hu : und (lf F H C q) (frv F H p) with
          | false => exact Evt.of (fun k => by rw [if_neg (by decide)]) hj
          | true =>
            rw [if_pos rfl]
            have hp := (ok.2.2.2.2 q hq).1
            have hs := sum_f (frv F H p) (rd_L1 H (q : Int)) (fun k => fr (FF F) (hh H) p k + hh H q k) (by rw [frv, vec_len]; omega) (by rw [frv, vec_len, hp]; exact Nat.le_refl _) (fun k hk => by
              rw [frv, vec_len] at hk
              have h1 := fr_in ok (l := p) (by omega) hk
              have h2 := hh_nn ok q k
              rw [frv, vec_rd hk]
              exact w0 (by show _ ≤ fr (FF F) (hh H) p k + hh H q k; omega) (by show fr (FF F) (hh H) p k + hh H q k ≤ _; omega))
            have e3 : vec (frv F H p).length (fun k => fr (FF F) (hh H) p k + hh H q k) = frv F H (p ++ [q]) := by rw [frv_snoc, frv, vec_len]
            rw [e3] at hs
            refine Evt.of (g := fun k => (logjamref25_sum.f k (frv F H p) (rd_L1 H (q : Int))).bind fun t => logjamref25_Met.l0 k o t ((p.length + 1 : Nat) : Int) F H C) (fun k => by rw [if_pos rfl]) (Evt.bind (g := fun k t => logjamref25_Met.l0 k o t ((p.length + 1 : Nat) : Int) F H C) hs ?_)
            · have := met_ev ok o ho t (p ++ [q]) (by rw [← lI_snoc, List.append_assoc]; exact h)
              rw [List.length_append] at this
              exact this
    · rw [if_neg c]
      refine Evt.step (fun k => ?_) hj
      show logjamref25_Met.l0 (k + 1) _ _ _ _ _ _ = _
      simp only [logjamref25_Met.l0]
      rw [if_pos (by omega), if_pos (by omega), hx]
      by_cases c1 : x < 0
      · rw [if_pos c1]
      · rw [if_neg c1, if_pos (by omega)]
theorem met_f {F : List Int} {H C : List (List Int)} (ok : OkA F H C) (o : List Int) (ho : o.length ≤ 64) : Evt (fun k => logjamref25_Met.f k F H C o) (met F H C [] o) := by
  refine Evt.of (fun k => ?_) (met_ev ok o ho o [] rfl)
  show logjamref25_Met.f k F H C o = _
  unfold logjamref25_Met.f
  have e1 : F = frv F H [] := by
    conv => lhs; rw [vec_of F]
    unfold frv
    apply vec_congr
    intro q _
    simp [fr, FF, S]
  rw [← e1]
  rfl
section
variable {F : List Int} {H C : List (List Int)}
theorem met_chain : ∀ t p, Chain H.length F.length (FF F) (hh H) (hh C) p → met F H C p t = true → ∃ o, Chain H.length F.length (FF F) (hh H) (hh C) o ∧ o.length = H.length
  | [], p, hc, h => ⟨p, hc, by simpa [met] using h⟩
  | x :: t, p, hc, h => by
    simp only [met] at h
    split at h
    · rename_i c
      split at h
      · rename_i c2
        exact met_chain t (p ++ [x.toNat]) (hc.snoc ((pN_iff (by omega)).1 c2)) h
      · cases h
    · cases h
theorem chain_met : ∀ s p, Chain H.length F.length (FF F) (hh H) (hh C) (p ++ s) → (p ++ s).length = H.length → met F H C p (lI s) = true
  | [], p, hc, h => by simpa [met, lI] using h
  | q :: s, p, hc, h => by
    have hq := hc p.length (by simp)
    rw [List.getElem_append_right (Nat.le_refl _), List.take_append_of_le_length (Nat.le_refl _), List.take_length] at hq
    simp only [Nat.sub_self, List.getElem_cons_zero] at hq
    show met F H C p ((q : Int) :: lI s) = true
    simp only [met]
    have := hq.1
    rw [if_pos ⟨by omega, by omega⟩, Int.toNat_natCast, if_pos ((pN_iff hq.1).2 hq)]
    exact chain_met s (p ++ [q]) (by rw [List.append_assoc]; exact hc) (by rw [List.append_assoc]; exact h)
end
theorem lives_b : Evt (fun k => (logjamlaw25_lives.f k).bind fun t => some t) true := Evt.bind (g := fun _ t => some t) lives_f (Evt.const fun _ => rfl)
theorem ClaimAny : logjamlaw25_ClaimAny.Pure := by
  intro F0 H0 C0 o _ _ _ _
  apply Evt.get
  have hF : (F0.take 40).length ≤ 40 := by simp; omega
  have eH := rv_rv H0
  have eC := rv_rv C0
  have f1 := few_f F0 H0 C0
  generalize F0.take 40 = F at f1 hF
  generalize rv H0 = H at f1 eH
  generalize rv C0 = C at f1 eC
  have j1 : Evt (fun k => logjamlaw25_ClaimAny.j0 k o true F H C) true := Evt.step (fun k => by show logjamlaw25_ClaimAny.j0 (k + 1) _ _ _ _ _ = _; simp only [logjamlaw25_ClaimAny.j0]; rw [if_pos trivial]) lives_b
  refine Evt.of (g := fun k => (logjamlaw25_few.f k F0 H0 C0).bind fun b => (logjamref25_Check.f k b.1 b.2.1 b.2.2).bind fun t => if t = 0 then logjamlaw25_ClaimAny.j0 k o (decide ((o.length : Int) > 64)) b.1 b.2.1 b.2.2 else logjamlaw25_ClaimAny.j0 k o true b.1 b.2.1 b.2.2) (fun k => rfl) (Evt.bind (g := fun k b => (logjamref25_Check.f k b.1 b.2.1 b.2.2).bind fun t => if t = 0 then logjamlaw25_ClaimAny.j0 k o (decide ((o.length : Int) > 64)) b.1 b.2.1 b.2.2 else logjamlaw25_ClaimAny.j0 k o true b.1 b.2.1 b.2.2) f1 ?_)
  refine Evt.bind (g := fun k t => if t = 0 then logjamlaw25_ClaimAny.j0 k o (decide ((o.length : Int) > 64)) F H C else logjamlaw25_ClaimAny.j0 k o true F H C) (rcheck_f F H C) ?_
  by_cases c : chk F H C = 0
  · refine Evt.of (g := fun k => logjamlaw25_ClaimAny.j0 k o (decide ((o.length : Int) > 64)) F H C) (fun k => by rw [if_pos c]) ?_
    have ok := chk_ok c
    by_cases co : (o.length : Int) > 64
    · rw [decide_eq_true co]
      exact j1
    · rw [decide_eq_false co]
      have hor := Order_f F H C
      rw [if_pos c] at hor
      have hown := own_f F H C hF
      rw [eH, eC] at hown
      refine Evt.step (g := fun k => (logjamlaw25_own.f k F H C).bind fun b => (claim_Order.f k b.1 b.2.1 b.2.2).bind fun d => if d.2 = true then (logjamref25_Met.f k F H C d.1).bind fun t => (if t = true then (logjamlaw25_lives.f k).bind fun t => some t else some false) else (logjamref25_Met.f k F H C o).bind fun t => (if t = true then some false else (logjamlaw25_lives.f k).bind fun t => some t)) (fun k => ?_) (Evt.bind (g := fun k b => (claim_Order.f k b.1 b.2.1 b.2.2).bind fun d => if d.2 = true then (logjamref25_Met.f k F H C d.1).bind fun t => (if t = true then (logjamlaw25_lives.f k).bind fun t => some t else some false) else (logjamref25_Met.f k F H C o).bind fun t => (if t = true then some false else (logjamlaw25_lives.f k).bind fun t => some t)) hown (Evt.bind (g := fun k d => if d.2 = true then (logjamref25_Met.f k F H C d.1).bind fun t => (if t = true then (logjamlaw25_lives.f k).bind fun t => some t else some false) else (logjamref25_Met.f k F H C o).bind fun t => (if t = true then some false else (logjamlaw25_lives.f k).bind fun t => some t)) hor ?_))
      · show logjamlaw25_ClaimAny.j0 (k + 1) _ _ _ _ _ = _
        simp only [logjamlaw25_ClaimAny.j0]
        rw [if_neg (by decide)]
      · obtain ⟨g1, g2⟩ := ord_chain (F := F) (H := H) (C := C)
        unfold outO
        by_cases cl : (ord F H C).length = H.length
        · rw [if_pos cl]
          refine Evt.of (g := fun k => (logjamref25_Met.f k F H C (lI (ord F H C))).bind fun t => (if t = true then (logjamlaw25_lives.f k).bind fun t => some t else some false)) (fun k => by rw [if_pos rfl]) ?_
          refine Evt.bind (g := fun k t => (if t = true then (logjamlaw25_lives.f k).bind fun t => some t else some false)) (met_f ok (lI (ord F H C)) (by rw [lI_len, cl]; exact ok.2.1)) ?_
          rw [chain_met (ord F H C) [] g1 cl]
          exact Evt.of (fun k => by rw [if_pos rfl]) lives_b
        · rw [if_neg cl]
          refine Evt.of (g := fun k => (logjamref25_Met.f k F H C o).bind fun t => (if t = true then some false else (logjamlaw25_lives.f k).bind fun t => some t)) (fun k => by rw [if_neg (by decide)]) ?_
          refine Evt.bind (g := fun k t => (if t = true then some false else (logjamlaw25_lives.f k).bind fun t => some t)) (met_f ok o (by omega)) ?_
          have hlen := g1.len
          have e : met F H C [] o = false := by
            cases hm : met F H C [] o with
            | false => rfl
            | true =>
              exfalso
              obtain ⟨p, hp1, hp2⟩ := met_chain o [] Chain.nil hm
              exact greedy (fun i k => (hh_nn ok i k).1) (by omega) (g2 (by omega)) hp1 hp2
          rw [e]
          exact Evt.of (fun k => by rw [if_neg (by decide)]) lives_b
  · exact Evt.of (fun k => by rw [if_neg c]) j1

end Go.Proofs.Ytlggjacghemakaa.Pure
