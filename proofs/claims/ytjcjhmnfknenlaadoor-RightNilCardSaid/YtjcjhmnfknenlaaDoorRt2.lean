/- Rights: Waive. Conditions: none. -/
import Derived.Test.YtjcjhmnfknenlaaDoorRt1
namespace Go.Proofs.YtjcjhmnfknenlaaDoor.Rt
open Go.RowKit Go.Proofs.YtjcjhmnfknenlaaDoor.PRightNil Go.Proofs.YtjcjhmnfknenlaaDoorW.PrintWords Go.Proofs.YtjcjhmnfknenlaaDoorW.PrintLast
open Ch (Chg)
set_option linter.unusedVariables false
set_option linter.unusedSimpArgs false

theorem list_f {s : Nat} (hs : s < Bt.top) : bits_Set_List.f (s : Int) = some (Bl.ints (Gr.low s 64)) := by
  unfold bits_Set_List.f
  rw [if_pos (by omega), if_pos (by unfold Bt.top at hs; omega), Int.toNat_natCast]
theorem rd_ints (l : List Nat) (i : Nat) : rd (Bl.ints l) (i : Int) = ((l.getD i 0 : Nat) : Int) := by
  unfold rd Bl.ints
  simp only [List.getD_eq_getElem?_getD, Int.toNat_natCast, List.getElem?_map]
  cases l[i]? <;> rfl
theorem low_lt {s i : Nat} (hi : i < (Gr.low s 64).length) : (Gr.low s 64).getD i 0 < 64 := by
  have h : (Gr.low s 64).getD i 0 ∈ Gr.low s 64 := by rw [List.getD_eq_getElem?_getD, List.getElem?_eq_getElem hi]; exact List.getElem_mem hi
  exact (Gr.mem_low.1 h).1
theorem take_snoc (l : List Nat) {i : Nat} (h : i < l.length) : l.take (i + 1) = l.take i ++ [l.getD i 0] := by
  rw [List.take_add_one, List.getD_eq_getElem?_getD, List.getElem?_eq_getElem h]
  rfl
def dels (p : Int → Int → Bool) (t : Int) (L : List Nat) : Int → Int → Bool := L.foldl (fun p (o : Nat) => del p t (o : Int)) p
theorem dels_snoc (p : Int → Int → Bool) (t : Int) (L : List Nat) (o : Nat) : dels p t (L ++ [o]) = del (dels p t L) t (o : Int) := by
  unfold dels
  rw [List.foldl_append]
  rfl
theorem del_none (t o : Int) : del (fun _ _ => false) t o = fun _ _ => false := by
  funext x y
  unfold del
  simp
/-- A row of its own, made from B on. -/
def Row (W : World) (B : Nat) (v : Value) (U : List Nat) : Prop := Kd.R (Kd.int .i64) 3 W B (fun k => B ≤ k) v (Bl.ints U)
theorem Row.of {W : World} {B B' : Nat} {v : Value} {U : List Nat} (h : Kd.R (Kd.int .i64) 3 W B' (fun _ => True) v (Bl.ints U)) (hB : B ≤ B') : Row W B v U :=
  Kd.R_mono (Kd.R_bound (Kd.R_lower h hB)) (fun k hk => hk.2.1)
theorem Row.grown {W W' : World} {B b : Nat} {v : Value} {U : List Nat} (h : Row W B v U) (hg : W.grownBy W' (some b)) (hb : b < B) : Row W' B v U :=
  Kd.R_grown h hg (fun k hk e => by injection e with e; omega)
theorem Row.below {W W' : World} {B : Nat} {v : Value} {U : List Nat} (h : Row W B v U) (hb : Below W.heap.size W W') : Row W' B v U := Kd.R_below h hb

set_option maxHeartbeats 4000000 in
set_option maxRecDepth 100000 in
theorem waive_any {W : World} {g N : Nat} {m : Option Nat} {p : Int → Int → Bool} {t : Int} (wt : Wf t) {s : Nat} (hs : s < Bt.top) (hT : Tb.Tab W) (hA : At W g m N p) :
    Calls Tryd.prog 20 #[.pointer (some ⟨g, 0, none⟩), .int .i64 t, .int .u64 (s : Int)] W fun e w' => e = .returned (.tuple #[]) ∧ At w' g m N (dels p t (Gr.low s 64)) ∧ Chg (fun k => m = some k) W w' := by
  have HT := Aside0.mk hT
  have HA := Aside0.mk hA
  have HLI := Aside0.mk (list_f hs)
  have HU := Aside0.mk (fun i => low_lt (s := s) (i := i))
  have WT := Aside0.mk wt
  clear hT hA hs wt
  generalize Gr.low s 64 = U at *
  have c0 := HA.out.c0
  have fz := blk_frozen HA.out.hg 0
  go_enter Tryd.func20, Tryd.ntmps20
  go_upto_block 0 with (go_at_call 30; (with_reducible refine (bits_Set_List.calls _ _ _ HT.out HLI.out).mono ?_); rintro e w8 ⟨v8, rfl, ho, hb⟩; have HB8 := Aside0.mk hb; have HR8 := Aside0.mk (Row.of (B := W.heap.size) ho (Nat.le_refl _)); obtain ⟨A8, c8, e8⟩ := Kd.R_slice ho; subst e8; clear ho hb)
  obtain ⟨n, hn⟩ : ∃ n, n = (Bl.ints U).length := ⟨_, rfl⟩
  rw [← hn] at HR8
  try rw [← hn]
  have HN := Aside0.mk (show n = U.length from by rw [hn, Bl.ints_len])
  clear hn fz c0
  have HA8 := Aside0.mk (HA.out.below HB8.out)
  have HC8 := Aside0.mk (Chg.of_below (S := fun k => m = some k) HB8.out)
  have HLB := Aside0.mk (show ∀ b, m = some b → b < W.heap.size from fun b hb => by
    rcases HA.out.hm with ⟨h, _⟩ | ⟨b', D, h, ho, _⟩
    · rw [h] at hb; cases hb
    · rw [h] at hb; injection hb with hb; subst hb; exact ho.lt)
  go_wp2
  go_loopg [13] n (fun kq v13 w' => ∃ (i : Nat), v13 = .int .i64 (i : Int) ∧ Aside0 (i + kq = n) ∧ Aside0 (At w' g m N (dels p t (U.take i))) ∧ Aside0 (Chg (fun k => m = some k) W w') ∧ Aside0 (Row w' W.heap.size (.slice A8 n c8) U))
  case atStart => exact ⟨0, rfl, ⟨by omega⟩, HA8, HC8, HR8⟩
  case round =>
    clear HA8 HC8 HR8
    obtain ⟨i, rfl, HK, HAi, HCi, HRi⟩ := hrel
    rcases gk with _ | k1
    · have d1 : decide ((i : Int) < (n : Int)) = false := decide_eq_false (by have := HK.out; omega)
      have d2 : decide (i < n) = false := decide_eq_false (by have := HK.out; omega)
      have HAE := Aside0.mk (show At wr g m N (dels p t U) from by
        have h := HAi.out
        rwa [List.take_of_length_le (by have h1 := HK.out; have h2 := HN.out; omega)] at h)
      go_wp2
      refine bodyPost_end (results_none rfl _ _ _) rfl ?_
      exact ⟨rfl, HAE.out, HCi.out⟩
    · have d1 : decide ((i : Int) < (n : Int)) = true := decide_eq_true (by have := HK.out; omega)
      have d2 : decide (i < n) = true := decide_eq_true (by have := HK.out; omega)
      have p1 : (0 ≤ (i : Int)) = True := eq_true (by omega)
      have p2 : ((i : Int) < (n : Int)) = True := eq_true (by have := HK.out; omega)
      have hil : i < U.length := by have h1 := HK.out; have h2 := HN.out; omega
      have hrd := (Kd.R_reads' HRi.out)
      obtain ⟨ad, ead, hx⟩ := Kd.at_int hrd.2.2 (i : Int) (by omega) (by rw [Bl.ints_len]; omega)
      subst ead
      rw [rd_ints, Int.toNat_natCast] at hx
      have HO := Aside0.mk (HU.out i hil)
      have HTS := Aside0.mk (show dels p t (U.take (i + 1)) = del (dels p t (U.take i)) t ((U.getD i 0 : Nat) : Int) from by rw [take_snoc U hil, dels_snoc])
      generalize U.getD i 0 = o at *
      have wo := wf_nat (show o < 9223372036854775808 by have := HO.out; omega)
      have hkey := key_mk WT.out wo
      have c0 := HAi.out.c0
      have ew : Aside0 (wrap64 ((i : Int) + 1) = (i : Int) + 1) := ⟨by have h2 := Kd.C_max hrd.2.2; have h3 := HK.out; rw [Bl.ints_len] at h2; have h4 := HN.out; unfold wrap64; omega⟩
      clear hrd hil
      rcases HAi.out.hm with ⟨hm0, hp0⟩ | ⟨b, D, hm0, hown, hv⟩
      · have HMN := Aside0.mk hm0
        have hdl : ∀ (ty : TypeId) (w : World), (Builtin.delete_ #[38, 52] ty #[.map none, .agg #[.int .i64 t, .int .i64 (o : Int)]]).run Tryd.prog w = .ok (.tuple #[]) w := fun ty w => Maps.drop_nil law Tryd.underlying38 hkey ty
        have HPE := Aside0.mk (show dels p t (U.take (i + 1)) = dels p t (U.take i) from by rw [HTS.out, hp0, del_none])
        rw [hm0] at c0
        clear hm0 hp0 hkey HTS
        go_wp2
        go_roundg k1
        case measure => omega
        case rel => exact ⟨i + 1, by rw [ew.out]; simp, ⟨by have := HK.out; omega⟩, ⟨by rw [HPE.out]; exact HAi.out⟩, HCi, HRi⟩
      · have HMB := Aside0.mk hm0
        have hlb := HLB.out b hm0
        have HV := Aside0.mk (hv.del WT.out wo)
        have HGB := Aside0.mk (show g ≠ b from fun e => by
          obtain ⟨es, clock, hb, _⟩ := hown
          have h1 := HAi.out.hg
          rw [e, hb] at h1
          cases h1)
        rw [hm0] at c0
        clear hm0 hv
        go_wp2_with (at_delete; refine wpList_delete_own _ rfl _ _ 38 52 rfl 55 law Tryd.underlying38 unitElem b N D rfl hown _ _ rfl hkey ?_; intro w1 hown1 hturn1; have HO1 := Aside0.mk hown1; have HG1 := Aside0.mk hturn1.grown; clear hown1 hturn1)
        go_roundg k1
        case measure => omega
        case rel => exact ⟨i + 1, by rw [ew.out]; simp, ⟨by have := HK.out; omega⟩, ⟨⟨(HG1.out.block g (blk_lt HAi.out.hg) (fun e => HGB.out (Option.some.inj e))).trans HAi.out.hg, .inr ⟨b, _, HMB.out, HO1.out, by rw [HTS.out]; exact HV.out⟩⟩⟩, ⟨HCi.out.trans (Chg.grown HG1.out (fun k hk => by injection hk with hk; rw [← hk]; exact HMB.out))⟩, ⟨HRi.out.grown HG1.out hlb⟩⟩
end Go.Proofs.YtjcjhmnfknenlaaDoor.Rt
