/- Places: without. Conditions: none. -/
import Derived.Test.YtjcjhmnfknenlaaPl6
namespace Go.Proofs.Ytjcjhmnfknenlaa.Pl
open Go.RowKit Go.Proofs.YtjcjhmnfknenlaaW.PrintWords Go.Proofs.YtjcjhmnfknenlaaW.PrintLast Go.Proofs.YtjcjhmnfknenlaaW.PrintMore
open Rg (Chg Row row_back row_popback row_popfront row_all row_new row_clone two refDo)
set_option linter.unusedVariables false
set_option linter.unusedSimpArgs false

/-- A list in a row of its own. -/
def Own (W : World) (v : Value) (l : List Int) : Prop := W.ownsRow 0 3 1 v l.length (nums .i64 l)
theorem Own.below {W W' : World} {v : Value} {l : List Int} (h : Own W v l) (hb : Below W.heap.size W W') : Own W' v l := pw_own_below h hb
theorem Own.drewN {W : World} {v : Value} {l : List Int} (h : Own W v l) (k : Nat) : Own (W.drewN k) v l := h
theorem Own.kept {W W' : World} {v : Value} {l : List Int} (h : Own W v l) {S : Nat → Prop} (hc : Chg S W W') (hs : ∀ k, v.ownBlock = some k → ¬ S k) : Own W' v l := by
  refine ⟨h.1, ?_⟩
  rcases h.2 with h2 | ⟨g, cap, cur, rfl, hb, hh, r⟩
  · exact .inl h2
  · exact .inr ⟨g, cap, cur, rfl, hb, (hc.block g (Array.getElem?_eq_some_iff.1 hh).1 (hs g rfl)).trans hh, r⟩
def wo (l : List Int) (t : Int) : List Int := l.filter fun u => decide (u ≠ t)
theorem wo_len (l : List Int) (t : Int) : (wo l t).length ≤ l.length := List.length_filter_le _ _
theorem wo_snoc (l : List Int) (y t : Int) : wo (l ++ [y]) t = if y = t then wo l t else wo l t ++ [y] := by
  unfold wo
  rw [List.filter_append]
  by_cases e : y = t
  · rw [if_pos e]; simp [e]
  · rw [if_neg e]; simp [e]
theorem take_snoc {l : List Int} {i : Nat} (h : i < l.length) : l.take (i + 1) = l.take i ++ [rd l (i : Int)] := by
  have e : rd l (i : Int) = l.getD i 0 := by unfold rd; rw [Int.toNat_natCast]
  rw [e, List.take_add_one, List.getD_eq_getElem?_getD, List.getElem?_eq_getElem h]
  rfl
section
variable {W W' : World} {g b c cap : Nat} {ex : List Value} {l : List Int}
set_option maxHeartbeats 8000000 in
set_option maxRecDepth 100000 in
theorem without_any (h : Row W g b c ex cap l) (m : Nat) (hm : l.length ≤ m) (hm2 : m ≤ 4096) (t : Int) :
    Calls Try.prog 44 #[.pointer (some ⟨g, 0, none⟩), .int .i64 (m : Int), .int .i64 t] W fun e w' => ∃ g' b', e = .returned (.pointer (some ⟨g', 0, none⟩)) ∧ Row w' g' b' m [] m (wo l t) ∧ W.heap.size ≤ g' ∧ W.heap.size ≤ b' ∧ Below W.heap.size W w' := by
  have HR := Aside0.mk h
  have HM := Aside0.mk hm
  have HNW := Aside0.mk (row_new W (m : Int) m (by omega))
  clear h hm hm2
  go_enter Try.func44, Try.ntmps44
  go_upto_region 2 with (go_at_call 26; (refine HNW.out.mono ?_); rintro e w1 ⟨g', b', rfl, hb, hr, h1, h2⟩; have HB1 := Aside0.mk hb; have HR1 := Aside0.mk hr; have HG := Aside0.mk h1; have HBB := Aside0.mk h2; clear hb hr h1 h2)
  clear HNW
  have HAL := Aside0.mk (row_all (HR.out.below HB1.out))
  go_upto_block 0 with (go_at_call 40; (refine HAL.out.mono ?_); rintro e w2 ⟨v, rfl, hb, ho⟩; obtain ⟨A, c2, rfl⟩ := own_slice ho; have HB2 := Aside0.mk hb; have HO2 := Aside0.mk ho; clear hb ho)
  clear HAL
  have HOB := Aside0.mk (fun (k : Nat) (hk : (Value.slice A l.length c2).ownBlock = some k) => (show ¬ two g' b' k from by
    have h1 := own_base HO2.out k hk
    have h2 := (Rg.Row.lt' HR1.out).1
    have h3 := (Rg.Row.lt' HR1.out).2
    intro ht
    rcases ht with ht | ht <;> omega))
  have HOW := Aside0.mk (show Own w2 (.slice A l.length c2) l from own_weaken HO2.out (Nat.zero_le _))
  have HBW := Aside0.mk (show Below W.heap.size W w2 from below_step HB1.out HB2.out)
  have HR2 := Aside0.mk (show Row w2 g' b' m [] m (wo (l.take 0) t) from HR1.out.below HB2.out)
  clear HB1 HB2 HO2 HR1 HR
  obtain ⟨n, hn⟩ : ∃ n, n = l.length := ⟨_, rfl⟩
  rw [← hn] at HOW HM HOB
  try rw [← hn]
  have HN := Aside0.mk hn
  clear hn
  go_wp2
  go_loopg [15] n (fun kq v15 w' => ∃ (i : Nat), v15 = .int .i64 (i : Int) ∧ Aside0 (i + kq = n) ∧ Aside0 (Row w' g' b' m [] m (wo (l.take i) t)) ∧ Aside0 (Own w' (.slice A n c2) l) ∧ Aside0 (Below W.heap.size W w'))
  case atStart => exact ⟨0, rfl, ⟨by omega⟩, HR2, HOW, HBW⟩
  case round =>
    clear HR2 HOW HBW
    obtain ⟨i, rfl, HK, HRI, HOI, HBI⟩ := hrel
    rcases gk with _ | k1
    · have d1 : decide ((i : Int) < (n : Int)) = false := decide_eq_false (by have := HK.out; omega)
      have d2 : decide (i < n) = false := decide_eq_false (by have := HK.out; omega)
      have HE := Aside0.mk (show Row wr g' b' m [] m (wo l t) from by
        have h1 := HRI.out
        rw [List.take_of_length_le (by have h2 := HK.out; have h3 := HN.out; omega)] at h1
        exact h1)
      go_wp2
      go_ret
      exact ⟨g', b', rfl, HE.out, HG.out, HBB.out, HBI.out⟩
    · have hil : i < l.length := by have h1 := HK.out; have h2 := HN.out; omega
      have d1 : decide ((i : Int) < (n : Int)) = true := decide_eq_true (by have := HK.out; omega)
      have d2 : decide (i < n) = true := decide_eq_true (by have := HK.out; omega)
      have p1 : (0 ≤ (i : Int)) = True := eq_true (by omega)
      have p2 : ((i : Int) < (n : Int)) = True := eq_true (by have := HK.out; omega)
      have HRI2 := Aside0.mk (show ReadsInt wr .i64 A n l from by
        obtain ⟨A', c', e, hr⟩ := own_reads HOI.out
        have e1 := HN.out
        injection e with e2 e3 e4
        subst e2
        rw [← e1] at hr
        exact hr)
      have HMX := Aside0.mk (show (i : Int) + 1 ≤ 9223372036854775807 from by have h1 := HRI2.out.2.1; have h2 := HK.out; omega)
      obtain ⟨ad, ea, x0⟩ := HRI2.out.at_ (i : Int) (by omega) (by have := HK.out; omega)
      subst ea
      rw [Int.toNat_natCast] at x0
      have HTS := Aside0.mk (show wo (l.take (i + 1)) t = if rd l (i : Int) = t then wo (l.take i) t else wo (l.take i) t ++ [rd l (i : Int)] from by rw [take_snoc hil, wo_snoc])
      have HLN := Aside0.mk (show (wo (l.take i) t).length < m from by
        have h1 := wo_len (l.take i) t
        rw [List.length_take] at h1
        have h2 := HM.out
        have h3 := HN.out
        omega)
      have ew : Aside0 (wrap64 ((i : Int) + 1) = (i : Int) + 1) := ⟨by have h2 := HMX.out; unfold wrap64; omega⟩
      clear hil HRI2
      generalize rd l (i : Int) = y at *
      by_cases hy : y = t
      · have HE := Aside0.mk (HTS.out.trans (if_pos hy))
        have d3 : (y != t) = false := by rw [hy]; simp
        clear hy HTS
        go_wp2
        go_roundg k1
        case measure => omega
        case rel => exact ⟨i + 1, by rw [ew.out]; simp, ⟨by have := HK.out; omega⟩, ⟨by rw [HE.out]; exact HRI.out⟩, HOI, HBI⟩
      · have HE := Aside0.mk (HTS.out.trans (if_neg hy))
        have d3 : (y != t) = true := bne_iff_ne.2 hy
        have HBK := Aside0.mk (row_back HRI.out y)
        rw [ref_room y HLN.out] at HBK
        clear hy HTS
        go_wp2_with (go_at_call 43; (refine HBK.out.mono ?_); rintro e w5 ⟨rfl, hc, hr⟩; have HC5 := Aside0.mk hc; have HR5 := Aside0.mk hr; clear hc hr)
        go_roundg k1
        case measure => omega
        case rel => exact ⟨i + 1, by rw [ew.out]; simp, ⟨by have := HK.out; omega⟩, ⟨by rw [HE.out]; exact HR5.out⟩, ⟨HOI.out.kept HC5.out HOB.out⟩, ⟨Chg.below HBI.out HC5.out HBI.out.size (fun k hk => by
          rcases hk with hk | hk
          · have := HG.out; omega
          · have := HBB.out; omega)⟩⟩
end
end Go.Proofs.Ytjcjhmnfknenlaa.Pl
