/- Giving back, over numbers and lists: what is given back, or granted, leaves a safe account safe. Conditions: none. -/
import Derived.Test.YtlggjacghemakaaCl3ClaimBack
namespace Go.Proofs.Ytlggjacghemakaa.ClClaimBack
open Go.RowKit Go.Proofs.Ytlggjacghemakaa.PClaimBack Go.Proofs.YtlggjacghemakaaW.PrintWords Go.Proofs.YtlggjacghemakaaW.PrintLast Go.Proofs.YtlggjacghemakaaW.PrintMore
open Cm

section
variable {F : List Int} {H C : List (List Int)}
theorem ok_chk (h : OkA F H C) : chk F H C = 0 := by
  obtain ⟨o1, o2, o3, o4, o5⟩ := h
  unfold chk
  rw [if_pos ⟨o1, o2, o3⟩]
  unfold fin
  have a0 : anyF (fun q => badv (rd F (q : Int))) 0 F.length = false := (anyF_false _ _ _).2 fun q _ hq => badv_false.2 (o4 q (by omega))
  have a1 : anyF (bl F.length H C) 0 H.length = false := (anyF_false _ _ _).2 fun q _ hq => bl_false.2 ⟨(o5 q (by omega)).1, (o5 q (by omega)).2.1⟩
  have a2 : anyF (fun q => anyF (rb H C q) 0 F.length) 0 H.length = false := (anyF_false _ _ _).2 fun q _ hq => (anyF_false _ _ _).2 fun k _ hk => by
    have := (o5 q (by omega)).2.2 k (by omega)
    unfold rb
    rw [Bool.or_eq_false_iff]
    exact ⟨badv_false.2 (by omega), badv_false.2 (by omega)⟩
  have a3 : anyF (fun q => anyF (ro H C q) 0 F.length) 0 H.length = false := (anyF_false _ _ _).2 fun q _ hq => (anyF_false _ _ _).2 fun k _ hk => by
    have := (o5 q (by omega)).2.2 k (by omega)
    exact decide_eq_false (by omega)
  rw [a0, a1, a2, a3]
  rfl
theorem rv_rows {H : List (List Int)} (h1 : H.length ≤ 70) (h2 : ∀ i : Nat, i < H.length → (rd_L1 H (i : Int)).length ≤ 40) : rv H = H := by
  unfold rv
  rw [List.take_of_length_le h1]
  apply List.ext_getElem
  · simp
  · intro i a b
    rw [List.getElem_map]
    apply List.take_of_length_le
    have := h2 i b
    rwa [rl_at b] at this
theorem rv_ok (h : OkA F H C) : rv H = H ∧ rv C = C := by
  obtain ⟨o1, o2, o3, o4, o5⟩ := h
  exact ⟨rv_rows (by omega) fun i hi => by have := (o5 i hi).1; omega, rv_rows (by omega) fun i hi => by have := (o5 i (by omega)).2.1; omega⟩
/-- n of kind k given back by i. -/
def bF (F : List Int) (k : Nat) (n : Int) : List Int := F.set k (rd F (k : Int) + n)
def bH (H : List (List Int)) (i k : Nat) (n : Int) : List (List Int) := H.set i ((rd_L1 H (i : Int)).set k (hh H i k - n))
theorem rd_set {l : List Int} {k q : Nat} {v : Int} (hk : k < l.length) : rd (l.set k v) (q : Int) = if q = k then v else rd l (q : Int) := by
  unfold rd
  simp only [Int.toNat_natCast]
  by_cases e : q = k
  · subst e
    rw [if_pos rfl]
    simp [hk]
  · rw [if_neg e]
    simp [Ne.symm e]
theorem bH_hh {i k j q : Nat} {n : Int} (hi : i < H.length) (hk : k < (rd_L1 H (i : Int)).length) : hh (bH H i k n) j q = if j = i ∧ q = k then hh H i k - n else hh H j q := by
  unfold bH
  rw [hh_set hi]
  by_cases e : j = i
  · subst e
    rw [if_pos rfl, rd_set hk]
    by_cases e2 : q = k
    · rw [if_pos e2, if_pos ⟨rfl, e2⟩]
    · rw [if_neg e2, if_neg (fun h => e2 h.2)]
      rfl
  · rw [if_neg e, if_neg (fun h => e h.1)]
theorem back_ok (ok : OkA F H C) {i k : Nat} {n : Int} (hi : i < H.length) (hk : k < F.length) (h0 : 0 ≤ n) (h1 : n ≤ hh H i k) (h2 : n ≤ 1000 - rd F (k : Int)) : OkA (bF F k n) (bH H i k n) C := by
  obtain ⟨o1, o2, o3, o4, o5⟩ := ok
  have lF : (bF F k n).length = F.length := by simp [bF]
  have lH : (bH H i k n).length = H.length := by simp [bH]
  have hr : k < (rd_L1 H (i : Int)).length := by rw [(o5 i hi).1]; exact hk
  refine ⟨by omega, by omega, by omega, fun q hq => ?_, fun j hj => ?_⟩
  · rw [lF] at hq
    have := o4 q hq
    unfold bF
    rw [rd_set hk]
    have := o4 k hk
    split <;> omega
  · rw [lH] at hj
    obtain ⟨p1, p2, p3⟩ := o5 j hj
    refine ⟨?_, by rw [lF]; exact p2, fun q hq => ?_⟩
    · unfold bH
      rw [len_set hi, lF]
      split
      · rw [List.length_set]; exact (o5 i hi).1
      · exact p1
    · rw [lF] at hq
      have := p3 q hq
      rw [bH_hh hi hr]
      split
      · rename_i e
        obtain ⟨rfl, rfl⟩ := e
        omega
      · exact this
theorem S_same {f g : Nat → Int} : ∀ l : List Nat, (∀ x ∈ l, f x = g x) → S f l = S g l
  | [], _ => rfl
  | x :: t, h => by simp only [S]; rw [h x List.mem_cons_self, S_same t fun y hy => h y (List.mem_cons_of_mem _ hy)]
theorem back_chain (ok : OkA F H C) {i k : Nat} {n : Int} (hi : i < H.length) (hk : k < F.length) (h0 : 0 ≤ n) {o : List Nat} (ho : Chain H.length F.length (FF F) (hh H) (hh C) o) : Chain H.length F.length (FF (bF F k n)) (hh (bH H i k n)) (hh C) o := by
  have hr : k < (rd_L1 H (i : Int)).length := by rw [(ok.2.2.2.2 i hi).1]; exact hk
  have hnd := ho.nodup
  intro j hj
  obtain ⟨q1, q2, q3⟩ := ho j hj
  refine ⟨q1, q2, fun q hq => ?_⟩
  have q4 := q3 q hq
  have eF : FF (bF F k n) q = if q = k then FF F q + n else FF F q := by
    unfold FF bF
    rw [rd_set hk]
    split
    · rename_i e; rw [e]
    · rfl
  unfold fr at q4 ⊢
  rw [eF, bH_hh hi hr]
  by_cases e : q = k
  · subst e
    rw [if_pos rfl]
    by_cases hin : i ∈ o.take j
    · have hne : o[j] ≠ i := fun e => q2 (e ▸ hin)
      rw [if_neg (fun h => hne h.1)]
      have e3 : S (fun x => hh (bH H i q n) x q) (o.take j) = S (fun x => hh H x q) (o.take j) - n := by
        rw [S_erase _ hin, S_erase (fun x => hh H x q) hin, S_same (g := fun x => hh H x q) ((o.take j).erase i) (fun x hx => by
          have hxi : x ≠ i := ((hnd.sublist (List.take_sublist j o)).mem_erase_iff.1 hx).1
          show hh (bH H i q n) x q = hh H x q
          rw [bH_hh hi hr, if_neg (fun h => hxi h.1)])]
        have : hh (bH H i q n) i q = hh H i q - n := by rw [bH_hh hi hr, if_pos ⟨rfl, rfl⟩]
        rw [this]
        omega
      omega
    · have e3 : S (fun x => hh (bH H i q n) x q) (o.take j) = S (fun x => hh H x q) (o.take j) := S_same _ fun x hx => by
        have hxi : x ≠ i := fun e => hin (e ▸ hx)
        show hh (bH H i q n) x q = hh H x q
        rw [bH_hh hi hr, if_neg (fun h => hxi h.1)]
      rw [e3]
      split
      · rename_i h
        rw [h.1] at q4
        rw [h.1]
        omega
      · omega
  · rw [if_neg e, if_neg (fun h => e h.2)]
    have e3 : S (fun x => hh (bH H i k n) x q) (o.take j) = S (fun x => hh H x q) (o.take j) := S_same _ fun x hx => by
      show hh (bH H i k n) x q = hh H x q
      rw [bH_hh hi hr, if_neg (fun h => e h.2)]
    rw [e3]
    exact q4
theorem back_safe (ok : OkA F H C) {i k : Nat} {n : Int} (hi : i < H.length) (hk : k < F.length) (h0 : 0 ≤ n) (h1 : n ≤ hh H i k) (h2 : n ≤ 1000 - rd F (k : Int)) (hs : (ord F H C).length = H.length) : (ord (bF F k n) (bH H i k n) C).length = (bH H i k n).length := by
  have ok2 := back_ok ok hi hk h0 h1 h2
  have lF : (bF F k n).length = F.length := by simp [bF]
  have lH : (bH H i k n).length = H.length := by simp [bH]
  have c1 := back_chain ok (n := n) hi hk h0 (ord_chain (F := F) (H := H) (C := C)).1
  obtain ⟨c2, c3⟩ := ord_chain (F := bF F k n) (H := bH H i k n) (C := C)
  rw [lF, lH] at c2 c3
  have c4 := c2.len
  rw [lH]
  by_cases e : (ord (bF F k n) (bH H i k n) C).length < H.length
  · exact (greedy (fun a b => (hh_nn ok2 a b).1) e (c3 e) c1 hs).elim
  · omega
end
end Go.Proofs.Ytlggjacghemakaa.ClClaimBack
