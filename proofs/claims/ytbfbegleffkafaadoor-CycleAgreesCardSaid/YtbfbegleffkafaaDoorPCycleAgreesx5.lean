/- Go functions as plain Lean functions, and that the calls come to them. Conditions: none. (Written by a program of this session.) -/
import Derived.Test.YtbfbegleffkafaaDoorPCycleAgreesx0
import Derived.Test.YtbfbegleffkafaaDoorPCycleAgreesx3
import Derived.Test.YtbfbegleffkafaaDoorPCycleAgreesx4
namespace Go.Proofs.YtbfbegleffkafaaDoor.PCycleAgrees
open Go.RowKit Go.Proofs.YtbfbegleffkafaaDoorW.PrintWords Go.Proofs.YtbfbegleffkafaaDoorW.PrintLast Go.Proofs.YtbfbegleffkafaaDoorW.PrintMore
attribute [local go_sem] max2_int min2_int max_two min_two max_three min_three max_four min_four   -- for this text's walks alone
set_option linter.unusedVariables false
set_option linter.unusedSimpArgs false

/-! ### slices_Index_int_int: function 51 -/
def slices_Index_int_int.l0 : Nat → List Int → Int → Int → Int → Option (Int)
  | 0,_,_,_,_=>none
  | k + 1,x0,x1,x7,x8=>if x8 < x7 then (if 0 ≤ x8 then (if x8 < (x0.length : Int) then (if x1 = (rd x0 x8) then (some x8) else (slices_Index_int_int.l0 k x0 x1 x7 (wrap64 (x8 + 1)))) else (none)) else (none)) else (some (-1))
def slices_Index_int_int.f (k : Nat) (l0 : List Int) (a1 : Int) : Option (Int) := slices_Index_int_int.l0 k l0 a1 (l0.length : Int) 0
theorem slices_Index_int_int.mono_l : ∀ k, (∀ y0 y1 y2 y3, LeO (slices_Index_int_int.l0 k y0 y1 y2 y3) (slices_Index_int_int.l0 (k + 1) y0 y1 y2 y3))
  | 0=>fun _ _ _ _ r h=>by simp [slices_Index_int_int.l0] at h
  | k + 1=>by
    have ih0:=slices_Index_int_int.mono_l k
    · intro y0 y1 y2 y3
      unfold slices_Index_int_int.l0
      repeat' first
      | (with_reducible exact ih0 _ _ _ _)
      | (with_reducible exact LeO.refl _)
      | (with_reducible exact LeO.none _)
      | (with_reducible refine LeO.ite ?_ ?_)
      | (with_reducible refine LeO.bind ?_ (fun _=>?_))
      | exact ih0 _ _ _ _
      | exact LeO.none _
      | refine LeO.ite ?_ ?_
      | refine LeO.bind ?_ (fun _=>?_)
theorem slices_Index_int_int.mono : ∀ a0 a1 k, LeO (slices_Index_int_int.f k a0 a1) (slices_Index_int_int.f (k + 1) a0 a1) := by
  intro a0 a1 k
  have ih0:=slices_Index_int_int.mono_l k;unfold slices_Index_int_int.f
  repeat' first
      | (with_reducible exact ih0 _ _ _ _)
      | (with_reducible exact LeO.refl _)
      | (with_reducible exact LeO.none _)
      | (with_reducible refine LeO.ite ?_ ?_)
      | (with_reducible refine LeO.bind ?_ (fun _=>?_))
      | exact ih0 _ _ _ _
      | exact LeO.none _
      | refine LeO.ite ?_ ?_
      | refine LeO.bind ?_ (fun _=>?_)
set_option maxHeartbeats 8000000 in
set_option maxRecDepth 100000 in
theorem slices_Index_int_int.calls (k : Nat) (A0 : Option Addr) (c0 : Nat) (l0 : List Int) (a1 : Int) (r : Int) (w : World) (hr0 : Kd.C (Kd.int .i64) w A0 l0.length l0) (hc0 : l0.length ≤ c0) (h : slices_Index_int_int.f k l0 a1 = some r) :
    Calls Tryd.prog 51 #[.slice A0 l0.length c0,.int .i64 a1] w fun e w'=>e = .returned (.int .i64 r) ∧ Drawn0 w w':=by
  have HR0:=A0_ hr0;have HC0:=A0_ hc0;clear hr0 hc0;have H : (slices_Index_int_int.l0 k l0 a1 (l0.length : Int) 0) = some r:=h;clear h;have H':=A0_ H;clear H;go_enter Tryd.func51,Tryd.ntmps51;go_wp2
  go_loopg [8] k (fun kq v8 w'=>∃ (x8_1 : Int),v8 = .int .i64 x8_1 ∧ Aside0 (slices_Index_int_int.l0 kq l0 a1 (l0.length : Int) x8_1 = some r) ∧ Aside0 (kq ≤ k) ∧ Drawn0 w w')
  case atStart=>exact ⟨(0),(by first|rfl|(simp;done)|(simp [*];done)),H',⟨Nat.le_refl _⟩,by repeat (first|exact Drawn0.refl _|apply Drawn0.step)⟩
  case round =>
    clear H';(try clear p2);obtain ⟨x8_1,rfl,HA,HK1,⟨m1,rfl⟩⟩:=hrel
    cases gk with
    | zero=>exact absurd HA.out (by simp [slices_Index_int_int.l0])
    | succ k1 =>
      have H:=HA.out;clear HA;simp only [slices_Index_int_int.l0] at H;by_cases c3 : x8_1 < (l0.length : Int);rotate_left
      · rw [if_neg c3] at H
        have c3b0 : decide (x8_1 < (l0.length : Int)) = false:=decide_eq_false c3;clear c3;obtain rfl:=Option.some.inj H;go_wp2;go_ret;exact ⟨by first|rfl|(simp;done)|(simp [*];done),by repeat (first|exact Drawn0.refl _|apply Drawn0.step)⟩

      rw [if_pos c3] at H;have c3b0 : decide (x8_1 < (l0.length : Int)) = true:=decide_eq_true c3;clear c3;by_cases c4 : 0 ≤ x8_1;rotate_left
      · rw [if_neg c4] at H
        exact absurd H (by simp)
      rw [if_pos c4] at H;have c4b0 : decide (0 ≤ x8_1) = true:=decide_eq_true c4;clear c4;by_cases c5 : x8_1 < (l0.length : Int);rotate_left
      · rw [if_neg c5] at H
        exact absurd H (by simp)
      rw [if_pos c5] at H;have c5b0 : decide (x8_1 < (l0.length : Int)) = true:=decide_eq_true c5;clear c5;by_cases c6 : a1 = (rd l0 x8_1)
      · rw [if_pos c6] at H
        have c6b0 : (a1 == (rd l0 x8_1)) = true:=beq_iff_eq.mpr c6;have c6b1 : (a1 != (rd l0 x8_1)) = false:=bne_eq_false_iff_eq.mpr c6;clear c6;obtain rfl:=Option.some.inj H;have p203 : 0 ≤ (x8_1 : Int):=of_decide_eq_true (by first|(with_reducible assumption)|assumption);have q203 : x8_1 < (l0.length : Int):=of_decide_eq_true (by first|(with_reducible assumption)|assumption);obtain ⟨ad203,e203,hx203_0⟩:=Kd.at_int HR0.out x8_1 p203 q203;cases e203;replace p203:=eq_true p203;replace q203:=eq_true q203;go_wp2;go_ret;exact ⟨by first|rfl|(simp;done)|(simp [*];done),by repeat (first|exact Drawn0.refl _|apply Drawn0.step)⟩
      rw [if_neg c6] at H;have c6b0 : (a1 == (rd l0 x8_1)) = false:=beq_eq_false_iff_ne.mpr c6;have c6b1 : (a1 != (rd l0 x8_1)) = true:=bne_iff_ne.mpr c6;have H':=A0_ H;clear H;have p203 : 0 ≤ (x8_1 : Int):=of_decide_eq_true (by first|(with_reducible assumption)|assumption);have q203 : x8_1 < (l0.length : Int):=of_decide_eq_true (by first|(with_reducible assumption)|assumption);obtain ⟨ad203,e203,hx203_0⟩:=Kd.at_int HR0.out x8_1 p203 q203;cases e203;replace p203:=eq_true p203;replace q203:=eq_true q203;go_wp2
      go_roundg k1
      case measure=>have:=HK1.out;omega
      case rel=>exact ⟨(wrap64 (x8_1 + 1)),(by first|rfl|(simp;done)|(simp [*];done)),H',⟨by have:=HK1.out;omega⟩,by repeat (first|exact Drawn0.refl _|apply Drawn0.step)⟩
/-! ### cycle_Ring: function 14 -/
-- by hand
open Ch (Chg)
namespace Cy
/-! ### the first one of a row that a set has -/
def firstIn (D : Nat) : List Nat → Option Nat
  | [] => none
  | u :: l => if D.testBit u = true then some 0 else (firstIn D l).map (· + 1)
theorem firstIn_drop (D : Nat) (l : List Nat) (i : Nat) (h : ∀ j, j < i → D.testBit (l.getD j 0) = false) (hi : i ≤ l.length) : firstIn D l = (firstIn D (l.drop i)).map (· + i) := by
  induction l generalizing i with
  | nil => cases i <;> simp [firstIn]
  | cons u l ih =>
    cases i with
    | zero => simp
    | succ i =>
      have h0 := h 0 (by omega)
      have h0' : D.testBit u = false := by simpa using h0
      simp only [firstIn, h0', List.drop_succ_cons]
      rw [if_neg (by decide), ih i (fun j hj => by have := h (j + 1) (by omega); simpa using this) (by simpa using hi), Option.map_map]
      congr 1
theorem firstIn_at {D : Nat} {l : List Nat} {i : Nat} (h : firstIn D l = some i) : i < l.length ∧ D.testBit (l.getD i 0) = true := by
  induction l generalizing i with
  | nil => cases h
  | cons u l ih =>
    simp only [firstIn] at h
    split at h
    · rename_i c
      injection h with h
      subst h
      exact ⟨by simp, by simpa using c⟩
    · obtain ⟨j, h1, rfl⟩ := Option.map_eq_some_iff.1 h
      have := ih h1
      exact ⟨by simp; omega, by simpa using this.2⟩
def place : Option Nat → Int
  | none => -1
  | some i => (i : Int)
set_option maxHeartbeats 4000000 in
theorem indexFunc_any {D : Nat} (hD : D < Bt.top) {l : List Nat} (hl : ∀ u ∈ l, u < 64) {A : Option Addr} {c : Nat} {w : World} (hr : (Kd.int .i64).C w A (ints l).length (ints l)) :
    Calls Tryd.prog 48 #[.slice A (ints l).length c, .func (.func 49) #[.int .u64 (D : Int)] #[]] w fun e w' => e = .returned (.int .i64 (place (firstIn D l))) ∧ ∃ n, w' = w.drewN n := by
  have eg := enters_of Tryd.func49 (by kernel_rfl) rfl
  have HR := Aside0.mk hr
  have HL := Aside0.mk hl
  have HM := Aside0.mk (show l.length ≤ 9223372036854775807 from by have := Kd.C_max hr; rwa [ints_len] at this)
  have HD := Aside0.mk hD
  clear hr hl hD
  obtain ⟨n, hn⟩ : ∃ n, n = (ints l).length := ⟨_, rfl⟩
  have HN := Aside0.mk (show n = l.length from by rw [hn, ints_len])
  rw [← hn] at HR
  rw [← hn]
  clear hn
  go_enter Tryd.func48, Tryd.ntmps48
  go_wp2
  go_loopg [5, 8] l.length (fun kq _ v8 w' => ∃ (i q : Nat), v8 = .int .i64 (i : Int) ∧ w' = w.drewN q ∧ Aside0 (i + kq = l.length) ∧ Aside0 (∀ j, j < i → D.testBit (l.getD j 0) = false))
  case atStart => exact ⟨0, 0, rfl, rfl, ⟨by omega⟩, ⟨fun j hj => by omega⟩⟩
  case round =>
    obtain ⟨i, q, rfl, rfl, HI, HF⟩ := hrel
    rcases gk with _ | k1
    · have d1 : decide ((i : Int) < (n : Int)) = false := decide_eq_false (by have := HI.out; have := HN.out; omega)
      have d2 : decide (i < n) = false := decide_eq_false (by have := HI.out; have := HN.out; omega)
      go_wp2
      go_ret
      refine ⟨?_, _, rfl⟩
      rw [firstIn_drop D l i HF.out (by have := HI.out; omega), List.drop_of_length_le (by have := HI.out; omega)]
      rfl
    · have hi := HI.out
      have hil : i < l.length := by omega
      have d1 : decide ((i : Int) < (n : Int)) = true := decide_eq_true (by have := HN.out; omega)
      have d2 : decide (i < n) = true := decide_eq_true (by have := HN.out; omega)
      obtain ⟨ad, ead, hx⟩ := Kd.at_int HR.out (i : Int) (by omega) (by have := HN.out; omega)
      subst ead
      rw [rd_ints, Int.toNat_natCast] at hx
      have q1 : (0 ≤ (i : Int)) = True := eq_true (by omega)
      have q2 : ((i : Int) < (n : Int)) = True := eq_true (by have := HN.out; omega)
      have HU := Aside0.mk (HL.out (l.getD i 0) (by rw [List.getD_eq_getElem?_getD, List.getElem?_eq_getElem hil]; exact List.getElem_mem hil))
      have HE := Aside0.mk (show firstIn D l = (if D.testBit (l.getD i 0) = true then some i else firstIn D l) from by
        split
        · rename_i c
          rw [firstIn_drop D l i HF.out (by omega), List.drop_eq_getElem_cons hil]
          have : l[i] = l.getD i 0 := by rw [List.getD_eq_getElem?_getD, List.getElem?_eq_getElem hil]; rfl
          simp only [firstIn, this, c, if_true, Option.map_some, Nat.zero_add]
        · rfl)
      have HF2 := Aside0.mk (show D.testBit (l.getD i 0) = false → ∀ j, j < i + 1 → D.testBit (l.getD j 0) = false from fun h j hj => by
        by_cases e : j = i
        · rw [e]; exact h
        · exact HF.out j (by omega))
      generalize l.getD i 0 = u at *
      clear hi hil HF
      cases c : D.testBit u with
      | true =>
        go_wp2_with (fail)
        refine (has_any HD.out HU.out _).mono ?_
        rintro e w' ⟨rfl, n2, rfl⟩
        go_wp2
        go_ret
        refine ⟨?_, _, rfl⟩
        rw [HE.out, if_pos c]
        rfl
      | false =>
        go_wp2_with (fail)
        refine (has_any HD.out HU.out _).mono ?_
        rintro e w' ⟨rfl, n2, rfl⟩
        go_wp2
        go_roundg k1
        case measure => omega
        case rel => exact ⟨i + 1, _, by have h1 := HI.out; have h2 := HM.out; rw [show wrap64 ((i : Int) + 1) = (i : Int) + 1 from by unfold wrap64; omega]; simp, rfl, ⟨by have := HI.out; omega⟩, ⟨HF2.out c⟩⟩
end Cy
namespace Cy
def ringN : Nat → List (List Nat) → Nat → List Nat → Option (List Nat)
  | 0, _, _, _ => none
  | k + 1, G, D, way => match firstIn D (G.getD (way.getLastD 0) []) with
    | none => none
    | some i => if way.contains ((G.getD (way.getLastD 0) []).getD i 0) = true then some (way.drop (way.idxOf ((G.getD (way.getLastD 0) []).getD i 0))) else ringN k G D (way ++ [(G.getD (way.getLastD 0) []).getD i 0])
theorem index_loop (way : List Nat) (t : Nat) (hw : way.length ≤ 1000000) (ht : t ∈ way) : ∀ (d k i : Nat), i + d = way.length → d < k → (∀ j, j < i → way.getD j 0 ≠ t) → slices_Index_int_int.l0 k (ints way) (t : Int) ((ints way).length : Int) (i : Int) = some ((way.idxOf t : Nat) : Int) := by
  have hidx : ∀ i, i < way.length → way.getD i 0 = t → (∀ j, j < i → way.getD j 0 ≠ t) → way.idxOf t = i := by
    intro i hi he hf
    rw [List.getD_eq_getElem?_getD, List.getElem?_eq_getElem hi, Option.getD_some] at he
    have h1 : way.idxOf t < way.length := List.idxOf_lt_length_of_mem ht
    have h2 : way[way.idxOf t] = t := List.getElem_idxOf h1
    rcases Nat.lt_trichotomy (way.idxOf t) i with q | q | q
    · have := hf _ q
      rw [List.getD_eq_getElem?_getD, List.getElem?_eq_getElem h1, Option.getD_some] at this
      exact absurd h2 this
    · exact q
    · have := List.not_of_lt_findIdx (p := (· == t)) (xs := way) (i := i) q
      simp [he] at this
  intro d
  induction d with
  | zero =>
    intro k i hi hk hf
    exfalso
    obtain ⟨j, hj, he⟩ := List.getElem_of_mem ht
    have := hf j (by omega)
    rw [List.getD_eq_getElem?_getD, List.getElem?_eq_getElem hj, Option.getD_some] at this
    exact this he
  | succ d ih =>
    intro k i hi hk hf
    obtain ⟨k, rfl⟩ : ∃ q, k = q + 1 := ⟨k - 1, by omega⟩
    simp only [slices_Index_int_int.l0]
    have hl := ints_len way
    rw [if_pos (by omega), if_pos (by omega), if_pos (by omega), rd_ints]
    by_cases c : way.getD i 0 = t
    · rw [if_pos (by omega), hidx i (by omega) c hf]
    · rw [if_neg (by omega)]
      have e : wrap64 ((i : Int) + 1) = ((i + 1 : Nat) : Int) := by unfold wrap64; omega
      rw [e]
      exact ih k (i + 1) (by omega) (by omega) (fun j hj => by
        by_cases e : j = i
        · rw [e]; exact c
        · exact hf j (by omega))
theorem index_f {way : List Nat} {t : Nat} (hw : way.length ≤ 65) (ht : t ∈ way) : slices_Index_int_int.f 67 (ints way) (t : Int) = some ((way.idxOf t : Nat) : Int) := by
  unfold slices_Index_int_int.f
  exact index_loop way t (by omega) ht way.length 67 0 (by omega) (by omega) (fun j hj => by omega)
theorem clone_f {l : List Int} (h : l.length < 17592186044416) : slices_Clone_int_int.f l = some l := by
  unfold slices_Clone_int_int.f
  simp only [Option.bind_some, List.nil_append, List.length_nil, Nat.zero_add]
  rw [if_pos h]
theorem of_f {t : Nat} (ht : t < 64) : bits_Of.f 3 [(t : Int)] = some ((2 ^ t : Nat) : Int) := by
  unfold bits_Of.f
  have e1 : bits_Of.l0 2 (Go.bits .or .u64 0 ((2 ^ t : Nat) : Int)) [(t : Int)] 1 (wrap64 (0 + 1)) = some ((2 ^ t : Nat) : Int) := by
    have e : wrap64 (0 + 1) = 1 := by unfold wrap64; omega
    rw [e]
    simp only [bits_Of.l0]
    rw [if_neg (by omega)]
    have := Bt.or_nat (a := 0) (b := 2 ^ t) (by decide) (Bt.lt_pow ht)
    rw [Nat.zero_or] at this
    exact congrArg some this
  simp only [bits_Of.l0, List.length_cons, List.length_nil]
  rw [if_pos (by decide), if_pos (by decide), if_pos (by decide)]
  have e : rd [(t : Int)] 0 = (t : Int) := rfl
  rw [e, one_f ht]
  exact e1
theorem first_f {D : Nat} (hD : D < Bt.top) (h0 : D ≠ 0) : bits_Set_First.f (D : Int) = some ((Lib.ctz 64 D : Nat) : Int) := by
  unfold bits_Set_First.f bits_TrailingZeros64.f
  have : Bt.top = 18446744073709551616 := rfl
  rw [if_neg (by omega), if_pos (by omega), if_pos (by omega)]
  simp
theorem nexts_at {k : Nat} : ∀ {l : List S44} {nx : List (List Int)}, nexts k l = some nx → ∀ (i : Nat) (hi : i < l.length), cycle_next.f k l[i].f0 l[i].f1 = some (nx.getD i []) := by
  intro l
  induction l with
  | nil => intro nx h i hi; simp at hi
  | cons n l ih =>
    intro nx h i hi
    obtain ⟨r, h1, h⟩ := Option.bind_eq_some_iff.1 h
    obtain ⟨rs, h2, h⟩ := Option.bind_eq_some_iff.1 h
    injection h with h
    subst h
    cases i with
    | zero => simpa using h1
    | succ i =>
      have := ih h2 i (by simpa using hi)
      simpa using this
theorem C_one (W : World) (x : Int) (s : Nat) (hs : W.heap.size = s) : (Kd.int .i64).C (W.alloc (.cells #[.int .i64 x] 3)) (some ⟨s, 0, none⟩) 1 [x] := by
  subst hs
  refine Kd.C_of_reads (d := (0 : Int)) (readsInt_of.1 ⟨rfl, by omega, fun _ => ⟨_, rfl, fun j hj => ?_⟩⟩)
  obtain rfl : j = 0 := by omega
  have := blk_cell (heap_alloc_new W (.cells #[.int .i64 x] 3)) 0
  rw [add_plain]
  exact this
theorem R_one (W : World) (x : Int) (base : Nat) (hb : base ≤ W.heap.size) : (Kd.int .i64).R 3 (W.alloc (.cells #[.int .i64 x] 3)) base (fun _ => True) (.slice (some ⟨W.heap.size, 0, none⟩) 1 1) [x] :=
  Kd.R_of_own (own_lit W base 3 .i64 [x] hb (by simp)) (fun _ _ => trivial)
end Cy
open Cy
def cycle_Ring.f (k : Nat) (l0 : List S44) : Option (List Int) := (cycle_Doomed.f k l0).bind fun d => if d.2 = true then if d.1 = 0 then some [] else (nexts k l0).bind fun nx => if okG nx ∧ 0 ≤ d.1 ∧ d.1 < 18446744073709551616 ∧ Lib.ctz 64 d.1.toNat < nx.length then (ringN 65 (nats nx) d.1.toNat [Lib.ctz 64 d.1.toNat]).map ints else none else some []
theorem cycle_Ring.mono : ∀ a0 k, LeO (cycle_Ring.f k a0) (cycle_Ring.f (k + 1) a0) := by
  intro a0 k
  unfold cycle_Ring.f
  refine LeO.bind (cycle_Doomed.mono _ _) (fun p => ?_)
  refine LeO.ite (LeO.ite (LeO.refl _) ?_) (LeO.refl _)
  exact LeO.bind (nexts_mono _ _) (fun _ => LeO.refl _)
set_option maxHeartbeats 8000000 in
set_option maxRecDepth 100000 in
theorem cycle_Ring.calls (k : Nat) (A0 : Option Addr) (c0 : Nat) (l0 : List S44) (r : List Int) (w : World) (hr0 : Kd.C k44 w A0 l0.length l0) (hc0 : l0.length ≤ c0) (hT : Tb.Tab w) (h : cycle_Ring.f k l0 = some r) :
    Calls Tryd.prog 14 #[.slice A0 l0.length c0] w fun e w' => ∃ v0_ : Value, e = .returned (v0_) ∧ Kd.R (Kd.int .i64) 3 w' w.heap.size (fun _ => True) v0_ r ∧ Below w.heap.size w w' := by
  have hu44 := Tryd.underlying44
  have HR0 := Aside0.mk hr0
  have HC0 := Aside0.mk hc0
  have HT := Aside0.mk hT
  clear hr0 hc0 hT
  unfold cycle_Ring.f at h
  obtain ⟨⟨d, ok⟩, hd, h⟩ := Option.bind_eq_some_iff.1 h
  have HD := Aside0.mk hd
  clear hd
  cases ok with
  | false =>
    simp only [Bool.false_eq_true, if_false, Option.some.injEq] at h
    subst h
    go_enter Tryd.func14, Tryd.ntmps14
    go_wp2_with (go_at_call 13; (with_reducible refine (cycle_Doomed.calls k _ _ l0 d false _ HR0.out HC0.out HD.out).mono ?_); rintro e w1 ⟨rfl, hb⟩; have HB := Aside0.mk hb; clear hb)
    all_goals go_ret
    all_goals exact ⟨_, rfl, Kd.R_nil _ _ _ _ _, HB.out⟩
  | true =>
    simp only [if_true] at h
    by_cases hd0 : d = 0
    · rw [if_pos hd0] at h
      injection h with h
      subst h hd0
      go_enter Tryd.func14, Tryd.ntmps14
      go_wp2_with (go_at_call 13; (with_reducible refine (cycle_Doomed.calls k _ _ l0 0 true _ HR0.out HC0.out HD.out).mono ?_); rintro e w1 ⟨rfl, hb⟩; have HB := Aside0.mk hb; clear hb)
      all_goals go_ret
      all_goals exact ⟨_, rfl, Kd.R_nil _ _ _ _ _, HB.out⟩
    · rw [if_neg hd0] at h
      obtain ⟨nx, hnx, h⟩ := Option.bind_eq_some_iff.1 h
      split at h
      case isFalse => cases h
      rename_i hok
      obtain ⟨hok, h1, h2, hc⟩ := hok
      obtain ⟨D, rfl⟩ : ∃ D : Nat, d = (D : Int) := ⟨d.toNat, by omega⟩
      rw [Int.toNat_natCast] at h hc
      obtain ⟨res, hres, rfl⟩ := Option.map_eq_some_iff.1 h
      have HNX := Aside0.mk hnx
      have HOK := Aside0.mk hok
      have HDT := Aside0.mk (show D < Bt.top from by have : Bt.top = 18446744073709551616 := rfl
                                                     omega)
      have HD0 := Aside0.mk (show D ≠ 0 from by omega)
      have HLN := Aside0.mk (nexts_len hnx)
      have e1 : ((D : Int) == 0) = false := beq_eq_false_iff_ne.2 hd0
      have e2 : ((D : Int) != 0) = true := bne_iff_ne.2 hd0
      clear h hnx hok h1 h2 hd0
      obtain ⟨F, hF⟩ : ∃ F, F = Lib.ctz 64 D := ⟨_, rfl⟩
      have HF := Aside0.mk hF
      rw [← hF] at hres hc
      clear hF
      have HRES := Aside0.mk hres
      have HFC := Aside0.mk (show F < nx.length ∧ F < 64 from ⟨hc, by have := HOK.out.1; omega⟩)
      clear hres hc
      obtain ⟨G, hG⟩ : ∃ G, G = nats nx := ⟨_, rfl⟩
      rw [← hG] at HRES
      have HGN := Aside0.mk (show nx = G.map ints from by rw [hG, ints_nats HOK.out])
      have HGI := Aside0.mk (show ∀ l ∈ G, ∀ u ∈ l, u < G.length from by rw [hG]; exact nats_lt HOK.out)
      have HGL := Aside0.mk (show G.length = l0.length ∧ G.length ≤ 64 ∧ G.length = nx.length from by rw [hG]; unfold nats; rw [List.length_map]; exact ⟨HLN.out, HOK.out.1, rfl⟩)
      clear hG
      go_enter Tryd.func14, Tryd.ntmps14
      go_upto_region 5 with (go_at_call 13; (with_reducible refine (cycle_Doomed.calls k _ _ l0 (D : Int) true _ HR0.out HC0.out HD.out).mono ?_); rintro e w1 ⟨rfl, hb⟩; have HB := Aside0.mk hb; clear hb)
      have HT1 := Aside0.mk (Tb.below HT.out HB.out)
      have hsz : w.heap.size ≤ w1.heap.size := HB.out.size
      have tok1 : True := trivial
      go_upto_block 0 with (first
        | (go_at_call 46; have _t := tok1; (with_reducible refine (bits_Set_First.calls (D : Int) (F : Int) _ (by repeat (first | exact HT1.out | apply Tb.alloc | apply Tb.drewN | apply Tb.drew)) (by rw [HF.out]; exact first_f HDT.out HD0.out)).mono ?_); rintro e w' ⟨rfl, ⟨n1, rfl⟩⟩; clear tok1 _t)
        | (go_at_call 46; (with_reducible refine (bits_Set_First.calls (D : Int) (F : Int) _ (by repeat (first | exact HT1.out | apply Tb.alloc | apply Tb.drewN | apply Tb.drew)) (by rw [HF.out]; exact first_f HDT.out HD0.out)).mono ?_); rintro e w' ⟨rfl, ⟨n2, rfl⟩⟩)
        | (go_at_call 47; refine (bits_Of.calls 3 _ _ [(F : Int)] ((2 ^ F : Nat) : Int) _ (C_one _ _ _ (by simp)) (Nat.le_refl _) (of_f HFC.out.2)).mono ?_; rintro e w' ⟨rfl, ⟨n3, rfl⟩⟩))
      have HB2 := Aside0.mk (show Below w.heap.size w (((((w1.drewN n1).alloc (.cells #[.int .i64 (F : Int)] 3)).drewN n2).alloc (.cells #[.int .i64 (F : Int)] 3)).drewN n3) from pw_below_drewN (below_alloc (pw_below_drewN (below_alloc (pw_below_drewN HB.out n1) _) n2) _) n3)
      have HR2 := Aside0.mk (show (Kd.int .i64).R 3 (((((w1.drewN n1).alloc (.cells #[.int .i64 (F : Int)] 3)).drewN n2).alloc (.cells #[.int .i64 (F : Int)] 3)).drewN n3) w.heap.size (fun _ => True) (.slice (some ⟨w1.heap.size, 0, none⟩) 1 1) (ints [F]) from Kd.R_drewN (Kd.R_alloc (Kd.R_drewN (R_one (w1.drewN n1) (F : Int) w.heap.size hsz) n2) _) n3)
      clear hsz e1 e2 HB HT1 HF
      have HST := Aside0.mk (show ∀ u, u < 64 → (2 ^ F).testBit u = [F].contains u from fun u hu => by
        rw [Bt.tb_pow]
        simp [eq_comm])
      generalize ((((w1.drewN n1).alloc (.cells #[.int .i64 (F : Int)] 3)).drewN n2).alloc (.cells #[.int .i64 (F : Int)] 3)).drewN n3 = w2 at *
      have HP2 := Aside0.mk (show (2 ^ F < Bt.top) from Bt.lt_pow HFC.out.2)
      have HFL := Aside0.mk (show F < G.length from by have := HGL.out; have := HFC.out; omega)
      go_wp2
      go_loopg [6, 7, 8, 9] 65 (fun kq v6 v7 _ _ w' => ∃ (way : List Nat) (met : Nat), v7 = .int .u64 (met : Int) ∧ Aside0 (0 < way.length ∧ way.length + kq = 66 ∧ ∀ u ∈ way, u < G.length) ∧ Aside0 (ringN kq G D way = some res) ∧ Aside0 (met < Bt.top ∧ ∀ u, u < 64 → met.testBit u = way.contains u) ∧ Aside0 ((Kd.int .i64).R 3 w' w.heap.size (fun _ => True) v6 (ints way)) ∧ Aside0 (Below w.heap.size w w'))
      case atStart => exact ⟨[F], 2 ^ F, by simp, ⟨by simp, by simp, fun u hu => by simp at hu; rw [hu]; exact HFL.out⟩, HRES, ⟨HP2.out, HST.out⟩, HR2, HB2⟩
      case round =>
        clear HRES HR2 HB2 HST HP2
        obtain ⟨way, met, rfl, HW, HRES, HM, HR, HB⟩ := hrel
        rcases gk with _ | k1
        · have := HRES.out
          cases this
        · have hres := HRES.out
          simp only [ringN] at hres
          obtain ⟨u, hu⟩ : ∃ u, u = way.getLastD 0 := ⟨_, rfl⟩
          have hulast : u = way.getD (way.length - 1) 0 := by
            rw [hu, List.getLastD_eq_getLast?, List.getD_eq_getElem?_getD, List.getLast?_eq_getElem?]
          rw [← hu] at hres
          clear hu
          have hul : u < G.length := by
            rw [hulast, List.getD_eq_getElem?_getD, List.getElem?_eq_getElem (show way.length - 1 < way.length by have := HW.out.1; omega)]
            exact HW.out.2.2 _ (List.getElem_mem _)
          obtain ⟨L, hL⟩ : ∃ L, L = G.getD u [] := ⟨_, rfl⟩
          rw [← hL] at hres
          have HLB := Aside0.mk (show ∀ x ∈ L, x < G.length from by
            intro x hx
            rw [hL, List.getD_eq_getElem?_getD, List.getElem?_eq_getElem hul] at hx
            exact HGI.out _ (List.getElem_mem hul) x hx)
          cases hfi : firstIn D L with
          | none => rw [hfi] at hres; cases hres
          | some i =>
            rw [hfi] at hres
            dsimp only at hres
            obtain ⟨t, ht⟩ : ∃ t, t = L.getD i 0 := ⟨_, rfl⟩
            rw [← ht] at hres
            have HFI := Aside0.mk hfi
            have HIL := Aside0.mk (firstIn_at hfi).1
            have HTE := Aside0.mk ht
            have HTL := Aside0.mk (show t < G.length ∧ t < 64 from by
              have h1 := HIL.out
              have h2 := HLB.out t (by rw [ht, List.getD_eq_getElem?_getD, List.getElem?_eq_getElem h1]; exact List.getElem_mem h1)
              exact ⟨h2, by have := HGL.out; omega⟩)
            have HRS := Aside0.mk hres
            have HUL := Aside0.mk hul
            have hul0 : u < l0.length := by have := HGL.out; omega
            have HNE := Aside0.mk (show cycle_next.f k (l0[u]'hul0).f0 (l0[u]'hul0).f1 = some (ints L) from by
              rw [nexts_at HNX.out u hul0, HGN.out, hL]
              congr 1
              rw [List.getD_eq_getElem?_getD, List.getD_eq_getElem?_getD, List.getElem?_map]
              cases G[u]? <;> rfl)
            obtain ⟨ad, A1, c1, ea, hx0, hx1, hl1, hi1⟩ := at_T44 HR0.out (u : Int) (by omega) (by omega)
            have e44 : rd_T44 l0 (u : Int) = l0[u]'hul0 := by unfold rd_T44; simp [List.getD_eq_getElem?_getD, hul0]
            rw [e44] at hx0 hx1 hl1 hi1
            obtain ⟨nd, hnd⟩ : ∃ nd, nd = l0[u]'hul0 := ⟨_, rfl⟩
            rw [← hnd] at hx0 hx1 hl1 hi1 HNE
            subst ea
            replace hx0 := (HB.out.cell (World.block_lt_of_cell? w _ hx0)).trans hx0
            replace hx1 := (HB.out.cell (World.block_lt_of_cell? w _ hx1)).trans hx1
            rw [Int.toNat_natCast] at hx0 hx1
            have HL1 := Aside0.mk hl1
            have HI1 := Aside0.mk hi1
            obtain ⟨gw, cw, ev, _, _, _⟩ := Kd.R_form HR.out (by rw [ints_len]; exact HW.out.1)
            obtain ⟨N, hN⟩ : ∃ N, N = (ints way).length := ⟨_, rfl⟩
            rw [← hN] at ev
            have HN := Aside0.mk (show N = way.length from by rw [hN, ints_len])
            subst ev
            have hw0 := (Kd.R_celln (0 : Int) HR.out ((N : Int) - 1) (by have := HW.out.1; have := HN.out; omega) (by omega)).1
            have hwv : rdOf 0 (ints way) ((N : Int) - 1) = (u : Int) := by
              have h1 : ((N : Int) - 1) = ((way.length - 1 : Nat) : Int) := by have := HW.out.1; have := HN.out; omega
              rw [h1]
              have h2 := rd_ints way (way.length - 1)
              rw [← hulast] at h2
              exact h2
            rw [hwv] at hw0
            have htn : ((N : Int) - 1).toNat = N - 1 := by omega
            rw [htn] at hw0
            have p1 : (1 ≤ (N : Int)) = True := eq_true (by have := HW.out.1; have := HN.out; omega)
            have p1' : (0 ≤ (N : Int) - 1) = True := eq_true (by have := HW.out.1; have := HN.out; omega)
            have p2 : ((N : Int) - 1 < (N : Int)) = True := eq_true (by omega)
            have p3 : (0 ≤ (u : Int)) = True := eq_true (by omega)
            have p4 : ((u : Int) < (l0.length : Int)) = True := eq_true (by omega)
            have HNB := Aside0.mk (show N ≤ 66 from by have := HW.out; have := HN.out; omega)
            have hNb : (N : Int) ≤ 66 := by have := HNB.out; omega
            clear hres hulast hul hL hfi ht hul0 e44 hnd hl1 hi1 hN hwv HRES
            go_upto_region 7 with (go_at_call 44; (with_reducible refine (cycle_next.calls k nd.f0 _ _ nd.f1 (ints L) _ (Kd.C_below HI1.out HB.out) HL1.out HNE.out).mono ?_); rintro e w4 ⟨v0, rfl, ho, hb⟩; have HV0 := Aside0.mk ho; have HB4 := Aside0.mk hb; clear ho hb)
            have HR4 := Aside0.mk (Kd.R_below HR.out HB4.out)
            have HBA := Aside0.mk (below_step HB.out HB4.out)
            clear hx0 hx1 hw0 p1 p1' p2 p3 p4 HR
            obtain ⟨g0, cl, ev, _, _, _⟩ := Kd.R_form HV0.out (by rw [ints_len]; have := HIL.out; omega)
            obtain ⟨NL, hNL⟩ : ∃ NL, NL = (ints L).length := ⟨_, rfl⟩
            rw [← hNL] at ev
            have HNL := Aside0.mk hNL
            clear hNL
            subst ev
            have hc0 := (Kd.R_celln (0 : Int) HV0.out (i : Int) (by omega) (by have h1 := HIL.out; have h2 := HNL.out; rw [ints_len] at h2; omega)).1
            have hcv : rdOf 0 (ints L) (i : Int) = (t : Int) := by rw [HTE.out]; exact rd_ints L i
            rw [hcv, Int.toNat_natCast] at hc0
            have p5 : (0 ≤ (i : Int)) = True := eq_true (by omega)
            have p6 : ((i : Int) < (NL : Int)) = True := eq_true (by have h1 := HIL.out; have h2 := HNL.out; rw [ints_len] at h2; omega)
            have HIX := Aside0.mk (show Calls Tryd.prog 48 #[.slice (some ⟨g0, 0, none⟩) NL cl, .func (.func 49) #[.int .u64 (D : Int)] #[]] w4 fun e w' => e = .returned (.int .i64 (i : Int)) ∧ ∃ n, w' = w4.drewN n from by
              have h1 := indexFunc_any HDT.out (l := L) (fun x hx => by have := HLB.out x hx; have := HGL.out; omega) (A := some ⟨g0, 0, none⟩) (c := cl) (w := w4) (by have h2 := (Kd.R_reads' HV0.out).2.2; exact h2)
              rw [HFI.out, ← HNL.out] at h1
              exact h1)
            clear hcv
            have hts : (way.contains t = true) ∨ (way.contains t = false) := by cases way.contains t <;> simp
            have HCT := Aside0.mk (HM.out.2 t HTL.out.2)
            have HLE := Aside0.mk (show N ≤ cw from (Kd.R_reads' HR4.out).2.1)
            rcases hts with hin | hin
            · have hbit : met.testBit t = true := HCT.out.trans hin
              have HBT := Aside0.mk hbit
              have HMEM := Aside0.mk (show t ∈ way from by simpa using hin)
              have HRS2 := Aside0.mk (show way.drop (way.idxOf t) = res from by have := HRS.out; rw [if_pos hin] at this; injection this)
              clear hbit hin HRS
              have HJ := Aside0.mk (List.idxOf_lt_length_of_mem HMEM.out)
              have HJF := Aside0.mk (index_f (way := way) (t := t) (by have := HW.out; omega) HMEM.out)
              obtain ⟨j, hj⟩ : ∃ j, j = way.idxOf t := ⟨_, rfl⟩
              rw [← hj] at HJ HRS2 HJF
              clear hj
              obtain ⟨i03, hi03, _, hsz3, _⟩ := info_parts info3
              have hcut := cut_from (P := Tryd.prog) 28 3 .i64 Tryd.underlying28 hi03 1 hsz3 (some ⟨gw, 0, none⟩) N cw (j : Int) (by omega) (by have h1 := HJ.out; have h2 := HN.out; omega)
              rw [Int.toNat_natCast] at hcut
              have HCD := Aside0.mk (show (Kd.int .i64).C w4 (if cw = j then some ⟨gw, 0, none⟩ else (some (⟨gw, 0, none⟩ : Addr)).map (·.add (j * 1))) (ints res).length (ints res) from by
                have h1 := Kd.C_drop (m := j) (c := cw) (Kd.R_reads' HR4.out).2.2 (by rw [ints_len]; have := HJ.out; omega) (by rw [ints_len]; have h1 := HLE.out; have h2 := HN.out; omega)
                have h2 : (ints way).drop j = ints res := by rw [← HRS2.out]; unfold ints; rw [List.map_drop]
                rw [h2] at h1
                exact h1)
              obtain ⟨AC, hAC⟩ : ∃ AC, AC = (if cw = j then some (⟨gw, 0, none⟩ : Addr) else (some (⟨gw, 0, none⟩ : Addr)).map (·.add (j * 1))) := ⟨_, rfl⟩
              rw [← hAC] at hcut HCD
              clear hAC hi03 hsz3
              have HLR := Aside0.mk (show (ints res).length = N - j ∧ N - j ≤ cw - j from by
                rw [ints_len, ← HRS2.out, List.length_drop]
                have h1 := HN.out; have h2 := HLE.out
                omega)
              obtain ⟨LR, hLR⟩ : ∃ LR, LR = N - j := ⟨_, rfl⟩
              obtain ⟨CR, hCR⟩ : ∃ CR, CR = cw - j := ⟨_, rfl⟩
              rw [← hLR, ← hCR] at hcut HLR
              clear hLR hCR
              have p7 : (0 ≤ (j : Int)) = True := eq_true (by omega)
              have HRL := Aside0.mk (show (ints res).length < 17592186044416 from by rw [ints_len, ← HRS2.out, List.length_drop]; have h3 := HW.out.2.1; omega)
              have HCL := Aside0.mk (fun W (hC : (Kd.int .i64).C W AC (ints res).length (ints res)) => slices_Clone_int_int.calls AC CR (ints res) (ints res) W hC (by rw [HLR.out.1]; exact HLR.out.2) (clone_f HRL.out))
              rw [HLR.out.1] at HCL HCD
              have HJX := Aside0.mk (show ∀ n, Calls Tryd.prog 51 #[.slice (some ⟨gw, 0, none⟩) N cw, .int .i64 (t : Int)] (w4.drewN n) fun e w' => e = .returned (.int .i64 (j : Int)) ∧ Drawn0 (w4.drewN n) w' from fun n => by
                have h1 := slices_Index_int_int.calls 67 (some ⟨gw, 0, none⟩) cw (ints way) (t : Int) (j : Int) (w4.drewN n) (Kd.C_drewN (Kd.R_reads' HR4.out).2.2 _) (by rw [ints_len]; have h1 := HLE.out; have h2 := HN.out; omega) HJF.out
                have h2 : (ints way).length = N := by rw [ints_len, HN.out]
                rw [h2] at h1
                exact h1)
              go_wp2_with (first
                | (go_at_call 48; (with_reducible refine HIX.out.mono ?_); rintro e w' ⟨rfl, n4, rfl⟩)
                | (go_at_call 49; (with_reducible refine (has_any (s := met) HM.out.1 HTL.out.2 _).mono ?_); rintro e w' ⟨rfl, n5, rfl⟩; rw [HBT.out])
                | (go_at_call 51; (with_reducible refine (HJX.out _).mono ?_); rintro e w' ⟨rfl, ⟨n6, rfl⟩⟩)
                | (go_at_call 50; (with_reducible refine (HCL.out _ (Kd.C_drewN HCD.out _)).mono ?_); rintro e w5 ⟨v5, rfl, ho, hb⟩; have HV5 := Aside0.mk ho; have HB5 := Aside0.mk hb; clear ho hb))
              go_ret
              refine ⟨_, rfl, Kd.R_lower HV5.out (below_size (pw_below_drewN HBA.out _)), ?_⟩
              exact below_step HBA.out (below_step (pw_below_drewN (Below.refl _ _) _) HB5.out)
            · have HBT := Aside0.mk (HCT.out.trans hin)
              have HRS2 := Aside0.mk (show ringN k1 G D (way ++ [t]) = some res from by have := HRS.out; rw [if_neg (by rw [hin]; decide)] at this; exact this)
              have HNI := Aside0.mk hin
              clear hin HRS
              go_upto_region 10 with (first
                | (go_at_call 48; (with_reducible refine HIX.out.mono ?_); rintro e w' ⟨rfl, n4, rfl⟩)
                | (go_at_call 49; (with_reducible refine (has_any (s := met) HM.out.1 HTL.out.2 _).mono ?_); rintro e w' ⟨rfl, n5, rfl⟩; rw [HBT.out]))
              have HR5 := Aside0.mk (Kd.R_drewN HR4.out (n4 + n5))
              have HB5 := Aside0.mk (pw_below_drewN HBA.out (n4 + n5))
              generalize w4.drewN (n4 + n5) = w6 at *
              clear hc0 p5 p6 HR4 HBA
              go_wp2_with (first
                | (at_builtin; refine Kd.R_append (Kd.int .i64) (w0 := w) w.heap.size rfl (.tmp 55) (.tmp 57) 28 3 (.int .i64 0) 8 rfl Tryd.underlying28 info3 rfl (by decide) (by omega) (.slice (some ⟨gw, 0, none⟩) N cw) (ints way) (t : Int) [.int .i64 (t : Int)] (fun _ => True) (fun _ => False) rfl (by first | (go_simp; done) | (go_simp; rfl)) ?aP (fun _ hk => hk.elim) ?aF ?aO ?aB ?aS ?aL ?_; (case aP => exact rfl); (case aB => exact HB5.out); (case aF => exact (fun _ _ => trivial)); (case aO => exact HR5.out); (case aS => exact below_size HB5.out); (case aL => have h1 := HW.out.2.1; rw [ints_len]; omega); intro v7 w7 ho hb hg hat; have HV7 := Aside0.mk ho; have HB7 := Aside0.mk hb; clear ho hb hg hat)
                | (go_at_call 52; (with_reducible refine (with_any (s := met) HM.out.1 HTL.out.2 _).mono ?_); rintro e w' ⟨rfl, n6, rfl⟩))
              go_roundg k1
              case measure => omega
              case rel =>
                have h2 : ints way ++ [(t : Int)] = ints (way ++ [t]) := by unfold ints; simp
                have h3 := HV7.out
                rw [h2] at h3
                have h4 : ∀ x ∈ way ++ [t], x < G.length := fun x hx => by
                  rcases List.mem_append.1 hx with q | q
                  · exact HW.out.2.2 x q
                  · rw [List.mem_singleton.1 q]; exact HTL.out.1
                have h5 : ∀ x, x < 64 → (met ||| 2 ^ t).testBit x = (way ++ [t]).contains x := fun x hx => by
                  rw [Bt.tb_or, Bt.tb_pow, HM.out.2 x hx]
                  simp [List.contains_eq_mem, eq_comm]
                exact ⟨way ++ [t], met ||| 2 ^ t, rfl, ⟨by simp, by have h1 := HW.out.2.1; simp; omega, h4⟩, HRS2, ⟨Bt.lt_or HM.out.1 (Bt.lt_pow HTL.out.2), h5⟩, ⟨Kd.R_drewN h3 _⟩, ⟨pw_below_drewN HB7.out _⟩⟩


/-! ### cycle_Next: function 15 -/
def cycle_Next.f (k : Nat) (l0 : List (S44)) (a1 : Int) : Option (List Int) := if a1 < 0 then (some ([] : List Int)) else (if a1 ≥ (l0.length : Int) then (some ([] : List Int)) else ((cycle_Pure.f k l0).bind fun t204 => (if t204 = true then (if 0 ≤ a1 then (if a1 < (l0.length : Int) then ((cycle_next.f k ((rd_T44 l0 a1).f0) ((rd_T44 l0 a1).f1)).bind fun t206 => (some t206)) else (none)) else (none)) else (some ([] : List Int)))))
theorem cycle_Next.mono : ∀ a0 a1 k, LeO (cycle_Next.f k a0 a1) (cycle_Next.f (k + 1) a0 a1) := by
  intro a0 a1 k
  unfold cycle_Next.f
  repeat' first
      | (with_reducible exact cycle_Pure.mono _ _)
      | (with_reducible exact cycle_next.mono _ _ _)
      | (with_reducible exact LeO.refl _)
      | (with_reducible exact LeO.none _)
      | (with_reducible refine LeO.ite ?_ ?_)
      | (with_reducible refine LeO.bind ?_ (fun _=>?_))
      | exact cycle_Pure.mono _ _
      | exact cycle_next.mono _ _ _
      | exact LeO.none _
      | refine LeO.ite ?_ ?_
      | refine LeO.bind ?_ (fun _=>?_)
set_option maxHeartbeats 8000000 in
set_option maxRecDepth 100000 in
theorem cycle_Next.calls (k : Nat) (A0 : Option Addr) (c0 : Nat) (l0 : List (S44)) (a1 : Int) (r : List Int) (w : World) (hr0 : Kd.C k44 w A0 l0.length l0) (hc0 : l0.length ≤ c0) (h : cycle_Next.f k l0 a1 = some r) :
    Calls Tryd.prog 15 #[.slice A0 l0.length c0,.int .i64 a1] w fun e w'=>∃ v0_ : Value,e = .returned (v0_) ∧ Kd.R (Kd.int .i64) 3 w' w.heap.size (fun _=>True) v0_ r ∧ Below w.heap.size w w':=by
  have hu44:=Tryd.underlying44;have HR0:=A0_ hr0;have HC0:=A0_ hc0;clear hr0 hc0;have HB:=A0_ (Below.refl w.heap.size w);have H : (if a1 < 0 then (some ([] : List Int)) else (if a1 ≥ (l0.length : Int) then (some ([] : List Int)) else ((cycle_Pure.f k l0).bind fun t204=>(if t204 = true then (if 0 ≤ a1 then (if a1 < (l0.length : Int) then ((cycle_next.f k ((rd_T44 l0 a1).f0) ((rd_T44 l0 a1).f1)).bind fun t206=>(some t206)) else (none)) else (none)) else (some ([] : List Int)))))) = some r:=h;clear h;by_cases c3 : a1 < 0
  · rw [if_pos c3] at H
    have c3b0 : decide (a1 < 0) = true:=decide_eq_true c3;clear c3;obtain rfl:=Option.some.inj H;go_enter Tryd.func15,Tryd.ntmps15;go_wp2;go_ret;exact ⟨_,by first|rfl|(simp [errW_none,errW_some] <;> rfl)|(simp [*,errW_none,errW_some] <;> rfl),by first|exact Kd.R_nil _ _ _ _ _|exact Kd.N_nil _ _ _ _ _|exact Kd.V_nil _ _ _ _ _|exact Kd.Q_nil _ _ _ _ _|exact Kd.S_nil _ _ _ _ _,by repeat (first|(with_reducible first|exact HB.out|apply ba_|apply pN_|apply b1_)|exact HB.out)⟩
  rw [if_neg c3] at H;have c3b0 : decide (a1 < 0) = false:=decide_eq_false c3;clear c3;by_cases c4 : a1 ≥ (l0.length : Int)
  · rw [if_pos c4] at H
    have c4b0 : decide ((l0.length : Int) ≤ a1) = true:=decide_eq_true c4;clear c4;obtain rfl:=Option.some.inj H;go_enter Tryd.func15,Tryd.ntmps15;go_wp2;go_ret;exact ⟨_,by first|rfl|(simp [errW_none,errW_some] <;> rfl)|(simp [*,errW_none,errW_some] <;> rfl),by first|exact Kd.R_nil _ _ _ _ _|exact Kd.N_nil _ _ _ _ _|exact Kd.V_nil _ _ _ _ _|exact Kd.Q_nil _ _ _ _ _|exact Kd.S_nil _ _ _ _ _,by repeat (first|(with_reducible first|exact HB.out|apply ba_|apply pN_|apply b1_)|exact HB.out)⟩
  rw [if_neg c4] at H;have c4b0 : decide ((l0.length : Int) ≤ a1) = false:=decide_eq_false c4;clear c4;replace H:=bm_ H;obtain ⟨t204,A50,H⟩:=H;replace H : (if t204 = true then (if 0 ≤ a1 then (if a1 < (l0.length : Int) then ((cycle_next.f k ((rd_T44 l0 a1).f0) ((rd_T44 l0 a1).f1)).bind fun t206=>(some t206)) else (none)) else (none)) else (some ([] : List Int))) = some r:=H;have A5:=A0_ A50;clear A50;by_cases c6 : t204 = true;rotate_left
  · replace c6:=Bool.eq_false_iff.mpr c6
    subst c6;have H1 : (some ([] : List Int)) = some r:=by rw [if_neg (show ¬ (false = true) by decide)] at H;exact H
    clear H;have H:=H1;clear H1;obtain rfl:=Option.some.inj H;go_enter Tryd.func15,Tryd.ntmps15;go_wp2_with (first|(go_at_call 16;(with_reducible refine (cycle_Pure.calls k _ _ l0 false _ ?side1 ?side2 A5.out).mono ?_);(case side1=>repeat (first|exact HR0.out|(with_reducible first|refine Ca_ ?_ _|refine Cn_ ?_ _|refine Cd_ ?_)));(case side2=>exact HC0.out);rintro e w12 ⟨rfl,hb⟩;have n0_:=A0_ (below_step (by repeat (first|(with_reducible first|exact HB.out|apply ba_|apply pN_|apply b1_)|exact HB.out)) hb);clear HB;have HB:=n0_;clear n0_;(try clear hb);(try clear hb2);(try clear hk);(try clear hi)));go_ret;exact ⟨_,by first|rfl|(simp [errW_none,errW_some] <;> rfl)|(simp [*,errW_none,errW_some] <;> rfl),by first|exact Kd.R_nil _ _ _ _ _|exact Kd.N_nil _ _ _ _ _|exact Kd.V_nil _ _ _ _ _|exact Kd.Q_nil _ _ _ _ _|exact Kd.S_nil _ _ _ _ _,by repeat (first|(with_reducible first|exact HB.out|apply ba_|apply pN_|apply b1_)|exact HB.out)⟩

  subst c6;have H1 : (if 0 ≤ a1 then (if a1 < (l0.length : Int) then ((cycle_next.f k ((rd_T44 l0 a1).f0) ((rd_T44 l0 a1).f1)).bind fun t206=>(some t206)) else (none)) else (none)) = some r:=by rw [if_pos rfl] at H;exact H
  clear H;have H:=H1;clear H1;by_cases c7 : 0 ≤ a1;rotate_left
  · rw [if_neg c7] at H
    exact absurd H (by simp)
  rw [if_pos c7] at H;have c7b0 : decide (0 ≤ a1) = true:=decide_eq_true c7;clear c7;by_cases c8 : a1 < (l0.length : Int);rotate_left
  · rw [if_neg c8] at H
    exact absurd H (by simp)
  rw [if_pos c8] at H;have c8b0 : decide (a1 < (l0.length : Int)) = true:=decide_eq_true c8;clear c8;replace H:=bm_ H;obtain ⟨t206,A90,H⟩:=H;replace H : (some t206) = some r:=H;have A9:=A0_ A90;clear A90;obtain rfl:=Option.some.inj H;go_enter Tryd.func15,Tryd.ntmps15;go_wp2_with (first|(go_at_call 16;(with_reducible refine (cycle_Pure.calls k _ _ l0 true _ ?side1 ?side2 A5.out).mono ?_);(case side1=>repeat (first|exact HR0.out|(with_reducible first|refine Ca_ ?_ _|refine Cn_ ?_ _|refine Cd_ ?_)));(case side2=>exact HC0.out);rintro e w10 ⟨rfl,hb⟩;have n0_:=A0_ (below_step (by repeat (first|(with_reducible first|exact HB.out|apply ba_|apply pN_|apply b1_)|exact HB.out)) hb);clear HB;have HB:=n0_;clear n0_;(try clear hb);(try clear hb2);(try clear hk);(try clear hi);have p205 : 0 ≤ (a1 : Int):=of_decide_eq_true (by first|(with_reducible assumption)|assumption);have q205 : a1 < (l0.length : Int):=of_decide_eq_true (by first|(with_reducible assumption)|assumption);obtain ⟨ad205,A205_1,c205_1,e205,hx205_0,hx205_1,hl205_1,hi205_1⟩:=at_T44 HR0.out a1 p205 q205;cases e205;replace hx205_0:=(HB.out.cell (bl_ w _ hx205_0)).trans hx205_0;replace hx205_1:=(HB.out.cell (bl_ w _ hx205_1)).trans hx205_1;have HR205_1:=A0_ hi205_1;have HC205_1:=A0_ hl205_1;clear hi205_1 hl205_1;replace p205:=eq_true p205;replace q205:=eq_true q205)|((with_reducible refine gate_callee (f:=44) rfl ?_);refine goesL_ (some 22) rfl rfl Tryd.func44 (by kernel_rfl) rfl #[.agg #[.bool ((rd_T44 l0 a1).f0),.slice A205_1 ((rd_T44 l0 a1).f1).length c205_1]] rfl (by first|(simp only [List.map_toArray,List.map_cons,List.map_nil] <;> rfl)|rfl|(simp only [List.length_drop,List.length_take];rfl)) ?_;(with_reducible refine (cycle_next.calls k ((rd_T44 l0 a1).f0) _ _ ((rd_T44 l0 a1).f1) t206 _ ?side1 ?side2 A9.out).mono ?_);(case side1=>repeat (first|exact (Kd.C_below HR205_1.out HB.out)|(with_reducible first|refine Ca_ ?_ _|refine Cn_ ?_ _|refine Cd_ ?_)));(case side2=>exact HC205_1.out);rintro e w11 ⟨v207,rfl,ho0,hb⟩;refine ⟨_,rfl,?_⟩;have n0_:=A0_ (Kd.R_lower ho0 (below_size (by repeat (first|(with_reducible first|exact HB.out|apply ba_|apply pN_|apply b1_)|exact HB.out))));have n1_:=A0_ (below_step (by repeat (first|(with_reducible first|exact HB.out|apply ba_|apply pN_|apply b1_)|exact HB.out)) hb);clear HB;have HO208:=n0_;have HB:=n1_;clear n0_ n1_;(try clear hb);(try clear hb2);(try clear hk);(try clear hi);(try clear ho0)));go_ret;exact ⟨_,by first|rfl|(simp [errW_none,errW_some] <;> rfl)|(simp [*,errW_none,errW_some] <;> rfl),by (with_reducible repeat first|apply Ra_|apply Rn_|apply Rd_);exact HO208.out,by repeat (first|(with_reducible first|exact HB.out|apply ba_|apply pN_|apply b1_)|exact HB.out)⟩
/-! ### logjamlaw27_same: function 19 -/
def logjamlaw27_same.l0 : Nat → List Int → List Int → Int → Option (Bool)
  | 0,_,_,_=>none
  | k + 1,x0,x1,x5=>if x5 < (x0.length : Int) then (if 0 ≤ x5 then (if x5 < (x1.length : Int) then (if (rd x0 x5) = (rd x1 x5) then (logjamlaw27_same.l0 k x0 x1 (wrap64 (x5 + 1))) else (some false)) else (none)) else (none)) else (some true)
def logjamlaw27_same.f (k : Nat) (l0 : List Int) (l1 : List Int) : Option (Bool) := if (l0.length : Int) = (l1.length : Int) then (logjamlaw27_same.l0 k l0 l1 0) else (some false)
theorem logjamlaw27_same.mono_l : ∀ k, (∀ y0 y1 y2, LeO (logjamlaw27_same.l0 k y0 y1 y2) (logjamlaw27_same.l0 (k + 1) y0 y1 y2))
  | 0=>fun _ _ _ r h=>by simp [logjamlaw27_same.l0] at h
  | k + 1=>by
    have ih0:=logjamlaw27_same.mono_l k
    · intro y0 y1 y2
      unfold logjamlaw27_same.l0
      repeat' first
      | (with_reducible exact ih0 _ _ _)
      | (with_reducible exact LeO.refl _)
      | (with_reducible exact LeO.none _)
      | (with_reducible refine LeO.ite ?_ ?_)
      | (with_reducible refine LeO.bind ?_ (fun _=>?_))
      | exact ih0 _ _ _
      | exact LeO.none _
      | refine LeO.ite ?_ ?_
      | refine LeO.bind ?_ (fun _=>?_)
theorem logjamlaw27_same.mono : ∀ a0 a1 k, LeO (logjamlaw27_same.f k a0 a1) (logjamlaw27_same.f (k + 1) a0 a1) := by
  intro a0 a1 k
  have ih0:=logjamlaw27_same.mono_l k;unfold logjamlaw27_same.f
  repeat' first
      | (with_reducible exact ih0 _ _ _)
      | (with_reducible exact LeO.refl _)
      | (with_reducible exact LeO.none _)
      | (with_reducible refine LeO.ite ?_ ?_)
      | (with_reducible refine LeO.bind ?_ (fun _=>?_))
      | exact ih0 _ _ _
      | exact LeO.none _
      | refine LeO.ite ?_ ?_
      | refine LeO.bind ?_ (fun _=>?_)
set_option maxHeartbeats 8000000 in
set_option maxRecDepth 100000 in
theorem logjamlaw27_same.calls (k : Nat) (A0 : Option Addr) (c0 : Nat) (l0 : List Int) (A1 : Option Addr) (c1 : Nat) (l1 : List Int) (r : Bool) (w : World) (hr0 : Kd.C (Kd.int .i64) w A0 l0.length l0) (hc0 : l0.length ≤ c0) (hr1 : Kd.C (Kd.int .i64) w A1 l1.length l1) (hc1 : l1.length ≤ c1) (h : logjamlaw27_same.f k l0 l1 = some r) :
    Calls Tryd.prog 19 #[.slice A0 l0.length c0,.slice A1 l1.length c1] w fun e w'=>e = .returned (.bool r) ∧ Drawn0 w w':=by
  have HR0:=A0_ hr0;have HC0:=A0_ hc0;clear hr0 hc0;have HR1:=A0_ hr1;have HC1:=A0_ hc1;clear hr1 hc1;have H : (if (l0.length : Int) = (l1.length : Int) then (logjamlaw27_same.l0 k l0 l1 0) else (some false)) = some r:=h;clear h;by_cases c3 : (l0.length : Int) = (l1.length : Int);rotate_left
  · rw [if_neg c3] at H
    have c3b0 : ((l0.length : Int) == (l1.length : Int)) = false:=beq_eq_false_iff_ne.mpr c3;have c3b1 : ((l0.length : Int) != (l1.length : Int)) = true:=bne_iff_ne.mpr c3;have c3b2 : (l0.length == l1.length) = false:=by first|simpa using c3|(simp at c3 ⊢;omega)
    obtain rfl:=Option.some.inj H;go_enter Tryd.func19,Tryd.ntmps19;go_wp2
    repeat (go_quiet (fail);try go_wp2)
    go_ret;exact ⟨by first|rfl|(simp;done)|(simp [*];done),by repeat (first|exact Drawn0.refl _|apply Drawn0.step)⟩

  rw [if_pos c3] at H;have c3b0 : ((l0.length : Int) == (l1.length : Int)) = true:=beq_iff_eq.mpr c3;have c3b1 : ((l0.length : Int) != (l1.length : Int)) = false:=bne_eq_false_iff_eq.mpr c3;have c3b2 : (l0.length == l1.length) = true:=by first|simpa using c3|(simp at c3 ⊢;omega)
  clear c3;have H':=A0_ H;clear H;go_enter Tryd.func19,Tryd.ntmps19;go_wp2
  repeat (go_quiet (fail);try go_wp2)
  go_loopg [5] k (fun kq v5 w'=>∃ (x5_1 : Int),v5 = .int .i64 x5_1 ∧ Aside0 (logjamlaw27_same.l0 kq l0 l1 x5_1 = some r) ∧ Aside0 (kq ≤ k) ∧ Drawn0 w w')
  case atStart=>exact ⟨(0),(by first|rfl|(simp;done)|(simp [*];done)),H',⟨Nat.le_refl _⟩,by repeat (first|exact Drawn0.refl _|apply Drawn0.step)⟩
  case round =>
    clear H';(try clear c1);(try clear p2);(try clear c3);(try clear c3b0);(try clear c3b1);(try clear c3b2);obtain ⟨x5_1,rfl,HA,HK1,⟨m1,rfl⟩⟩:=hrel
    cases gk with
    | zero=>exact absurd HA.out (by simp [logjamlaw27_same.l0])
    | succ k1 =>
      have H:=HA.out;clear HA;simp only [logjamlaw27_same.l0] at H;by_cases c4 : x5_1 < (l0.length : Int);rotate_left
      · rw [if_neg c4] at H
        have c4b0 : decide (x5_1 < (l0.length : Int)) = false:=decide_eq_false c4;clear c4;obtain rfl:=Option.some.inj H;go_wp2
        repeat (go_quiet (fail);try go_wp2)
        go_ret;exact ⟨by first|rfl|(simp;done)|(simp [*];done),by repeat (first|exact Drawn0.refl _|apply Drawn0.step)⟩
      rw [if_pos c4] at H;have c4b0 : decide (x5_1 < (l0.length : Int)) = true:=decide_eq_true c4;clear c4;by_cases c5 : 0 ≤ x5_1;rotate_left
      · rw [if_neg c5] at H
        exact absurd H (by simp)
      rw [if_pos c5] at H;have c5b0 : decide (0 ≤ x5_1) = true:=decide_eq_true c5;clear c5;by_cases c6 : x5_1 < (l1.length : Int);rotate_left
      · rw [if_neg c6] at H
        exact absurd H (by simp)
      rw [if_pos c6] at H;have c6b0 : decide (x5_1 < (l1.length : Int)) = true:=decide_eq_true c6;clear c6;by_cases c7 : (rd l0 x5_1) = (rd l1 x5_1);rotate_left
      · rw [if_neg c7] at H
        have c7b0 : ((rd l0 x5_1) == (rd l1 x5_1)) = false:=beq_eq_false_iff_ne.mpr c7;have c7b1 : ((rd l0 x5_1) != (rd l1 x5_1)) = true:=bne_iff_ne.mpr c7;obtain rfl:=Option.some.inj H;have p209 : 0 ≤ (x5_1 : Int):=of_decide_eq_true (by first|(with_reducible assumption)|assumption);have q209 : x5_1 < (l0.length : Int):=of_decide_eq_true (by first|(with_reducible assumption)|assumption);obtain ⟨ad209,e209,hx209_0⟩:=Kd.at_int HR0.out x5_1 p209 q209;cases e209;replace p209:=eq_true p209;replace q209:=eq_true q209;have p210 : 0 ≤ (x5_1 : Int):=of_decide_eq_true (by first|(with_reducible assumption)|assumption);have q210 : x5_1 < (l1.length : Int):=of_decide_eq_true (by first|(with_reducible assumption)|assumption);obtain ⟨ad210,e210,hx210_0⟩:=Kd.at_int HR1.out x5_1 p210 q210;cases e210;replace p210:=eq_true p210;replace q210:=eq_true q210;go_wp2
        repeat (go_quiet (fail);try go_wp2)
        go_ret;exact ⟨by first|rfl|(simp;done)|(simp [*];done),by repeat (first|exact Drawn0.refl _|apply Drawn0.step)⟩
      rw [if_pos c7] at H;have c7b0 : ((rd l0 x5_1) == (rd l1 x5_1)) = true:=beq_iff_eq.mpr c7;have c7b1 : ((rd l0 x5_1) != (rd l1 x5_1)) = false:=bne_eq_false_iff_eq.mpr c7;clear c7;have H':=A0_ H;clear H;have p209 : 0 ≤ (x5_1 : Int):=of_decide_eq_true (by first|(with_reducible assumption)|assumption);have q209 : x5_1 < (l0.length : Int):=of_decide_eq_true (by first|(with_reducible assumption)|assumption);obtain ⟨ad209,e209,hx209_0⟩:=Kd.at_int HR0.out x5_1 p209 q209;cases e209;replace p209:=eq_true p209;replace q209:=eq_true q209;have p210 : 0 ≤ (x5_1 : Int):=of_decide_eq_true (by first|(with_reducible assumption)|assumption);have q210 : x5_1 < (l1.length : Int):=of_decide_eq_true (by first|(with_reducible assumption)|assumption);obtain ⟨ad210,e210,hx210_0⟩:=Kd.at_int HR1.out x5_1 p210 q210;cases e210;replace p210:=eq_true p210;replace q210:=eq_true q210;go_wp2
      repeat (go_quiet (fail);try go_wp2)
      go_roundg k1
      case measure=>have:=HK1.out;omega
      case rel=>exact ⟨(wrap64 (x5_1 + 1)),(by first|rfl|(simp;done)|(simp [*];done)),H',⟨by have:=HK1.out;omega⟩,by repeat (first|exact Drawn0.refl _|apply Drawn0.step)⟩
/-! ### logjamlaw27_ask: function 54 -/
def logjamlaw27_ask.f (a0 : Int) : Option (Int × (List (S68))) := some (1, (([(⟨a0, 1⟩ : S68)] : List (S68))))
set_option maxHeartbeats 8000000 in
set_option maxRecDepth 100000 in
theorem logjamlaw27_ask.calls (a0 : Int) (r1 : Int) (r2 : List (S68)) (w : World) (h : logjamlaw27_ask.f a0 = some (r1, r2)) :
    Calls Tryd.prog 54 #[.int .i64 a0] w fun e w'=>∃ v1_ : Value,e = .returned (.agg #[.int .i64 r1,v1_]) ∧ Kd.R k68 68 w' w.heap.size (fun _=>True) v1_ r2 ∧ Below w.heap.size w w':=by
  have hu66:=Tryd.underlying66;have hu68:=Tryd.underlying68;have HB:=A0_ (Below.refl w.heap.size w);have H : (some (1,(([(⟨a0,1⟩ : S68)] : List (S68))))) = some (r1,r2):=h;clear h;obtain ⟨y212,hy212⟩ : ∃ y_ : List (S68),y_ = (([(⟨a0,1⟩ : S68)] : List (S68))):=⟨_,rfl⟩;replace H : (some (1,y212)) = some (r1,r2):=by first|(rw [hy212];with_reducible exact H)|(have H2_:=(Option.bind_some _ _).symm.trans H;rw [hy212];with_reducible exact H2_)|(have H2_:=(Option.bind_some _ _).symm.trans H;with_reducible exact H2_)|with_reducible exact H|(rw [hy212];exact H)|exact H
  have Ny212:=A0_ hy212;clear hy212;simp only [Option.some.injEq,Prod.mk.injEq] at H;obtain ⟨rfl,rfl⟩:=H;go_enter Tryd.func54,Tryd.ntmps54;go_wp2_with (first|((with_reducible refine gate_dst (N:=2) rfl ?_);refine box_event ?hg (N:=2) ?hd (cs:=#[.int .i64 0,.slice none 0 0]) (t:=66) ?hr ?_;(case hd=>rfl);(case hg=>rfl);(case hr=>first|(go_simp;done)|(go_simp;rfl));intro gb211 hg w2 hbox hb;have n0_:=A0_ (below_step (by repeat (first|(with_reducible first|exact HB.out|apply ba_|apply pN_|apply b1_)|exact HB.out)) hb);have n1_:=A0_ (hbox);have n2_:=A0_ ((by rw [hg];exact (below_size (by repeat (first|(with_reducible first|exact HB.out|apply ba_|apply pN_|apply b1_)|exact HB.out))) : w.heap.size ≤ gb211));have n3_:=A0_ ((by rw [hg];exact (below_size (by repeat (first|(with_reducible first|exact HB.out|apply ba_|apply pN_|apply b1_)|exact HB.out))) : w.heap.size ≤ gb211));clear HB;have HB:=n0_;have BK211:=n1_;have GW211:=n2_;have GE211:=n3_;clear n0_ n1_ n2_ n3_;clear hb hbox hg)|((with_reducible refine gate_dst (N:=5) rfl ?_);refine Kd.R_lit k68 _ 68 ?hg (N:=5) ?hd (xs:=([(⟨a0,1⟩ : S68)] : List (S68))) (inner:=[.int .i64 a0,.int .i64 1]) (ok:=fun _=>True) (okp:=fun _=>True) ?hr ?hp (fun _ hk=>hk) trivial (Below.refl _ _) (Nat.le_refl _) (by simp) ?_;(case hd=>rfl);(case hg=>rfl);(case hr=>first|(go_simp;done)|(go_simp;rfl));(case hp=>exact (Reps.c2 (show Kd.M k68 _ _ _ (⟨a0,1⟩ : S68) [.int .i64 a0,.int .i64 1] from (k68_mkM _ _ _ (⟨a0,1⟩ : S68) )) (Reps.none _ _)));intro v213 w3 ho4 hb hg_ hnew_;clear hg_ hnew_;(first|rw [← Ny212.out] at ho4|(simp only [Int.reduceToNat] at ho4;rw [← Ny212.out] at ho4));have n0_:=A0_ (Kd.R_lower ho4 (below_size (by repeat (first|(with_reducible first|exact HB.out|apply ba_|apply pN_|apply b1_|refine bs_ ?_ GE211.out)|exact HB.out))));have n1_:=A0_ (blk_below (g:=gb211) (o:=.cells #[.int .i64 0,.slice none 0 0] 66 (0,0)) (by (with_reducible repeat first|refine bN_ ?_ _|refine bD_ ?_|refine bA_ ?_ _);exact BK211.out) hb);have n2_:=A0_ (below_step (by repeat (first|(with_reducible first|exact HB.out|apply ba_|apply pN_|apply b1_|refine bs_ ?_ GE211.out)|exact HB.out)) hb);clear BK211;clear HB;have HO214:=n0_;have BK211:=n1_;have HB:=n2_;clear n0_ n1_ n2_;clear hb ho4;obtain ⟨Ao5,co5,eo5⟩:=Kd.R_slice HO214.out;subst eo5;obtain ⟨hcz6_0,hcz6_1,hfz6_0,hfz6_1⟩:=cz2_ (w:=w3) BK211.out));refine bodyPost_ret (results_cell_row rfl _ _ gb211 66 #[.int .i64 1,.slice Ao5 y212.length co5] (0,0) _ rfl (by (with_reducible repeat first|refine bN_ ?_ _|refine bD_ ?_|refine bA_ ?_ _);refine blk_put (cs:=#[.int .i64 1,.slice none 0 0]) ?_ 1 _ rfl;(with_reducible repeat first|refine bN_ ?_ _|refine bD_ ?_|refine bA_ ?_ _);refine blk_put (cs:=#[.int .i64 0,.slice none 0 0]) ?_ 0 _ rfl;(with_reducible repeat first|refine bN_ ?_ _|refine bD_ ?_|refine bA_ ?_ _);exact BK211.out) Tryd.underlying66 rfl (by kernel_rfl)) rfl ?_;exact ⟨_,by first|rfl|(simp [errW_none,errW_some] <;> rfl)|(simp [*,errW_none,errW_some] <;> rfl),by (with_reducible repeat first|apply Ra_|apply Rn_|apply Rd_);exact Kd.R_mono (Kd.R_far (p:=⟨gb211,1,none⟩) (Kd.R_far (p:=⟨gb211,0,none⟩) (Kd.R_types HO214.out BK211.out (by decide)) (fun _ hk=>hk.2) (.int .i64 1)) (fun _ hk=>hk.2) (.slice Ao5 y212.length co5)) (fun _ hk=>trivial),by repeat (first|(with_reducible first|exact HB.out|apply ba_|apply pN_|apply b1_|refine bs_ ?_ GE211.out)|exact HB.out)⟩

end Go.Proofs.YtbfbegleffkafaaDoor.PCycleAgrees
