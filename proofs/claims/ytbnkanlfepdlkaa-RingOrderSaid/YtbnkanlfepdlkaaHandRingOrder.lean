/- RingOrder, walked: for every input it answers true. Conditions: none. -/
import Derived.Test.YtbnkanlfepdlkaaOkRingOrder
import Derived.Test.YtbnkanlfepdlkaaRing9
namespace Go.Proofs.Ytbnkanlfepdlkaa.ringOrderW
open Go.RowKit Go.Proofs.Ytbnkanlfepdlkaa.PRingOrder Go.Proofs.YtbnkanlfepdlkaaW.PrintWords Go.Proofs.YtbnkanlfepdlkaaW.PrintLast Go.Proofs.YtbnkanlfepdlkaaW.PrintMore Ap Rg
set_option linter.unusedSimpArgs false
set_option linter.unusedVariables false

/-- What is put on an empty row and taken at once is what was put. -/
theorem refDo_one (c : Nat) (hc : 0 < c) (x : Int) : refDo [] (c : Int) 0 x = ([x], 0, true) := by
  have : ¬ (c : Int) ≤ 0 := by omega
  simp [refDo]; omega
theorem refDo_pop (c : Nat) (x : Int) (l : List Int) : refDo (x :: l) (c : Int) 3 0 = (l, x, true) := by simp [refDo]
theorem refDo_back (c : Nat) (l : List Int) (x : Int) (h : l.length < c) : refDo l (c : Int) 0 x = (l ++ [x], 0, true) := by
  simp [refDo]; omega
theorem refDo_front (c : Nat) (l : List Int) (x : Int) (h : l.length < c) : refDo l (c : Int) 1 x = (x :: l, 0, true) := by
  simp [refDo]; omega
theorem refDo_popback (c : Nat) (l : List Int) (x : Int) : refDo (l ++ [x]) (c : Int) 2 0 = (l, x, true) := by
  simp [refDo]

set_option maxHeartbeats 3000000 in
set_option maxRecDepth 100000 in
theorem walk (A0 : Option Addr) (c0 : Nat) (l0 : List Int) (a1 : Int) (a2 : Bool) (w : World) (hr0 : Kd.C (Kd.int .i64) w A0 l0.length l0) (hc0 : l0.length ≤ c0) (w0 : (fun l => (∀ a ∈ l, (fun x => (Lit.int .i64 x).wf = true) a) ∧ l.length * 8 ≤ 140737488351232) l0) (w1 : (fun x => (Lit.int .u8 x).wf = true) a1) :
    Calls Try.prog 6 #[.slice A0 l0.length c0, .int .u8 a1, .bool a2] w fun e w' => e = .returned (.bool true) ∧ Below w.heap.size w w' := by
  have hu := u8_range w1
  obtain ⟨i0, i0eq, i0z⟩ := Option.map_eq_some_iff.1 Rg.info3
  have i0s : i0.size = 1 := by simpa using congrArg (fun z => z.2.1) i0z
  by_cases h40 : l0.length ≤ 40
  · have d0 : decide ((40 : Int) < (l0.length : Int)) = false := decide_eq_false (by omega)
    obtain ⟨c, hc⟩ : ∃ c : Nat, (c : Int) = (l0.length : Int) + 1 := ⟨l0.length + 1, by omega⟩
    have hN : ∀ W, _ := fun W => row_new W ((l0.length : Int) + 1) c (by omega)
    go_enter Try.func6, Try.ntmps6
    go_wp2_with (go_at_call 24; refine (hN _).mono ?_; rintro e wa ⟨g, b, rfl, hB0, hR0, hg, hb⟩)
    go_loopg [8] a1.toNat (fun d v8 w' => ∃ i : Nat, (d : Int) + i = a1 ∧ v8 = .int .i64 (i : Int) ∧ Below w.heap.size w w' ∧ Row w' g b c [] c [])
    case atStart => exact ⟨0, by omega, rfl, hB0, hR0⟩
    case round =>
      obtain ⟨i, hd, rfl, HB, HR⟩ := hrel
      have hc1 : 0 < c := by omega
      have e1 := row_back' HR (i : Int) (refDo_one c hc1 (i : Int))
      have hcl : l0.length < c := by omega
      clear hc hN
      rcases gk with _ | d
      · have d1 : decide ((i : Int) < a1) = false := decide_eq_false (by omega)
        go_wp2
        clear hd e1 d1
        go_loopg [12] l0.length (fun d v12 w' => ∃ i : Nat, d + i = l0.length ∧ v12 = .int .i64 (i : Int) ∧ Below w.heap.size w w' ∧ Row w' g b c [] c (l0.take i))
        case atStart => exact ⟨0, by omega, rfl, HB, by simpa using HR⟩
        case round =>
          clear HB HR
          obtain ⟨i, hd, rfl, HB, HR⟩ := hrel
          rcases gk with _ | d
          · have d1 : decide ((i : Int) < (l0.length : Int)) = false := decide_eq_false (by omega)
            have d2 : decide (i < l0.length) = false := decide_eq_false (by omega)
            have HR : Row wr g b c [] c l0 := by rw [List.take_of_length_le (by omega)] at HR; exact HR
            go_wp2
            all_goals first | (exfalso; omega) | skip
            have eL : ∀ w' : World, Below w.heap.size w w' → Calls Try.prog 30 #[] w' fun e w'' => e = .returned (.bool true) ∧ Below w.heap.size w w'' := fun w' h => (lives_any w').mono fun e w'' ⟨q1, q2⟩ => ⟨q1, Below.trans h (below_mono q2 h.size)⟩
            clear hd d1 d2
            cases a2 with
            | false =>
              go_loopg [13] l0.length (fun d v13 w' => ∃ i : Nat, d + i = l0.length ∧ v13 = .int .i64 (i : Int) ∧ Below w.heap.size w w' ∧ Row w' g b c [] c (l0.drop i))
              case atStart => exact ⟨0, by omega, rfl, HB, HR⟩
              case round =>
                clear HB HR
                obtain ⟨i, hd, rfl, HB, HR⟩ := hrel
                rcases gk with _ | d
                · have d1 : decide ((i : Int) < (l0.length : Int)) = false := decide_eq_false (by omega)
                  have d2 : decide (i < l0.length) = false := decide_eq_false (by omega)
                  have HR : Row wr g b c [] c [] := by rw [List.drop_of_length_le (by omega)] at HR; exact HR
                  go_wp2_with (first
                    | (go_at_call 29; refine (row_len HR).mono ?_; rintro e w' ⟨rfl, rfl⟩)
                    | (go_at_call 30; refine (eL _ HB).mono ?_; rintro e w' ⟨rfl, hB9⟩))
                  all_goals first | (exfalso; omega) | skip
                  all_goals go_ret
                  all_goals exact ⟨rfl, hB9⟩
                · have d1 : decide ((i : Int) < (l0.length : Int)) = true := decide_eq_true (by omega)
                  obtain ⟨ad, rfl, y0⟩ := Kd.at_int hr0 (i : Int) (by omega) (by omega)
                  have p1 : (0 ≤ (i : Int)) = True := eq_true (by omega)
                  have p2 : ((i : Int) < (l0.length : Int)) = True := eq_true (by omega)
                  have ht : (i : Int).toNat = i := rfl
                  rw [ht] at y0
                  have yb := World.block_lt_of_cell? _ _ y0
                  have hx : l0.drop i = rd l0 (i : Int) :: l0.drop (i + 1) := by
                    rw [List.drop_eq_getElem_cons (show i < l0.length by omega)]
                    simp [rd, List.getElem?_eq_getElem (show i < l0.length by omega)]
                  have e2 := row_popfront' HR (show refDo (l0.drop i) (c : Int) 3 0 = (l0.drop (i + 1), rd l0 (i : Int), true) from by rw [hx]; exact refDo_pop c _ _)
                  generalize rd l0 (i : Int) = x at *
                  go_wp2_with (first
                    | (go_at_call 26; refine e2.mono ?_; rintro e w2 ⟨rfl, hC2, hR2⟩; have hB2 := chg_below HB hC2 hg hb; have x0 := (hB2.cell yb).trans y0))
                  go_roundg d
                  case measure => omega
                  case rel => exact ⟨i + 1, by omega, by simp, hB2, hR2⟩
            | true =>
              go_loopg [13] l0.length (fun d v13 w' => ∃ i : Nat, d + i = l0.length ∧ v13 = .int .i64 (i : Int) ∧ Below w.heap.size w w' ∧ Row w' g b c [] c (l0.take (l0.length - i)))
              case atStart => exact ⟨0, by omega, rfl, HB, by simpa using HR⟩
              case round =>
                clear HB HR
                obtain ⟨i, hd, rfl, HB, HR⟩ := hrel
                rcases gk with _ | d
                · have d1 : decide ((i : Int) < (l0.length : Int)) = false := decide_eq_false (by omega)
                  have d2 : decide (i < l0.length) = false := decide_eq_false (by omega)
                  have HR : Row wr g b c [] c [] := by rw [show l0.length - i = 0 by omega] at HR; exact HR
                  go_wp2_with (first
                    | (go_at_call 29; refine (row_len HR).mono ?_; rintro e w' ⟨rfl, rfl⟩)
                    | (go_at_call 30; refine (eL _ HB).mono ?_; rintro e w' ⟨rfl, hB9⟩))
                  all_goals first | (exfalso; omega) | skip
                  all_goals go_ret
                  all_goals exact ⟨rfl, hB9⟩
                · have d1 : decide ((i : Int) < (l0.length : Int)) = true := decide_eq_true (by omega)
                  obtain ⟨ad, rfl, y0⟩ := Kd.at_int hr0 (i : Int) (by omega) (by omega)
                  obtain ⟨ad2, ead, y1⟩ := Kd.at_int hr0 ((l0.length : Int) - 1 - i) (by omega) (by omega)
                  cases ead
                  obtain ⟨j, hj⟩ : ∃ j : Nat, (l0.length : Int) - 1 - i = (j : Int) := ⟨l0.length - 1 - i, by omega⟩
                  rw [hj, show (j : Int).toNat = j from rfl] at y1
                  have hjn : (j : Int) < (l0.length : Int) := by omega
                  have hjt : (j : Int).toNat = j := rfl
                  have p5 : (0 ≤ (j : Int)) = True := eq_true (by omega)
                  have p6 : ((j : Int) < (l0.length : Int)) = True := eq_true hjn
                  have p7 : (j < l0.length) = True := eq_true (by omega)
                  have p1 : (0 ≤ (i : Int)) = True := eq_true (by omega)
                  have p2 : ((i : Int) < (l0.length : Int)) = True := eq_true (by omega)
                  have ht : (i : Int).toNat = i := rfl
                  rw [ht] at y0
                  have yb := World.block_lt_of_cell? _ _ y0
                  have yb1 := World.block_lt_of_cell? _ _ y1
                  obtain ⟨m, hm⟩ : ∃ m, l0.length - i = m + 1 := ⟨l0.length - i - 1, by omega⟩
                  have hlast : l0.take (m + 1) = l0.take m ++ [rd l0 (j : Int)] := by
                    rw [List.take_add_one]
                    have : j = m := by omega
                    simp [rd, this, List.getElem?_eq_getElem (show m < l0.length by omega)]
                  obtain ⟨z, t, hzt⟩ : ∃ z t, l0.take (m + 1) = z :: t := List.exists_cons_of_ne_nil (by intro q; have q := congrArg List.length q; rw [List.length_take, List.length_nil] at q; omega)
                  rw [hm, hzt] at HR
                  have htl : t.length < c := by have q := congrArg List.length hzt; rw [List.length_take, List.length_cons] at q; omega
                  have e2 := row_popfront' HR (refDo_pop c z t)
                  have e3 : refDo t (c : Int) 1 z = (z :: t, 0, true) := refDo_front c t z htl
                  have e4 : refDo (z :: t) (c : Int) 2 0 = (l0.take m, rd l0 (j : Int), true) := by rw [← hzt, hlast]; exact refDo_popback c _ _
                  generalize rd l0 (j : Int) = x at *
                  generalize rd l0 (i : Int) = x' at *
                  go_wp2_with (first
                    | (go_at_call 26; refine e2.mono ?_; rintro e w2 ⟨rfl, hC2, hR2⟩; have hB2 := chg_below HB hC2 hg hb; have x0 := (hB2.cell yb).trans y0)
                    | (go_at_call 27; refine (row_front' hR2 z e3).mono ?_; rintro e w3 ⟨rfl, hC3, hR3⟩; have hB3 := chg_below hB2 hC3 hg hb)
                    | (go_at_call 28; refine (row_popback' hR3 e4).mono ?_; rintro e w4 ⟨rfl, hC4, hR4⟩; have hB4 := chg_below hB3 hC4 hg hb; have x1 := (hB4.cell yb1).trans y1))
                  go_roundg d
                  case measure => omega
                  case rel => exact ⟨i + 1, by omega, by simp, hB4, by rw [show l0.length - (i + 1) = m by omega]; exact hR4⟩
          · have d1 : decide ((i : Int) < (l0.length : Int)) = true := decide_eq_true (by omega)
            obtain ⟨ad, rfl, y0⟩ := Kd.at_int hr0 (i : Int) (by omega) (by omega)
            have p1 : (0 ≤ (i : Int)) = True := eq_true (by omega)
            have p2 : ((i : Int) < (l0.length : Int)) = True := eq_true (by omega)
            have ht : (i : Int).toNat = i := rfl
            rw [ht] at y0
            have x0 := (HB.cell (World.block_lt_of_cell? _ _ y0)).trans y0
            have hx : l0.take (i + 1) = l0.take i ++ [rd l0 (i : Int)] := by
              rw [List.take_add_one]
              simp [rd, List.getElem?_eq_getElem (show i < l0.length by omega)]
            have hlc : (l0.take i).length < c := by have := HR.le; simp; omega
            have e2 := row_back' HR (rd l0 (i : Int)) (refDo_back c _ _ hlc)
            rw [← hx] at e2
            generalize rd l0 (i : Int) = x at *
            go_wp2_with (first
              | (go_at_call 25; refine e2.mono ?_; rintro e w2 ⟨rfl, hC2, hR2⟩; have hB2 := chg_below HB hC2 hg hb))
            go_roundg d
            case measure => omega
            case rel => exact ⟨i + 1, by omega, by simp, hB2, hR2⟩
      · have d1 : decide ((i : Int) < a1) = true := decide_eq_true (by omega)
        go_wp2_with (first
          | (go_at_call 25; refine e1.mono ?_; rintro e w2 ⟨rfl, hC2, hR2⟩; have hB2 := chg_below HB hC2 hg hb)
          | (go_at_call 26; refine (row_popfront' hR2 (refDo_pop c (i : Int) [])).mono ?_; rintro e w3 ⟨rfl, hC3, hR3⟩; have hB3 := chg_below hB2 hC3 hg hb))
        go_roundg d
        case measure => omega
        case rel => exact ⟨i + 1, by omega, by simp, hB3, hR3⟩
  · have d0 : decide ((40 : Int) < (l0.length : Int)) = true := decide_eq_true (by omega)
    obtain ⟨hsl, hrd, hlc⟩ := print_take_int (k := .i64) 39 3 Try.underlying39 i0eq i0s A0 c0 l0 40 (by omega) (by omega) hc0
    rw [show (40 : Int).toNat = 40 from rfl] at hsl hrd hlc
    have hr1 := Kd.C_take hr0 (show 40 ≤ l0.length by omega)
    have hL : (l0.take 40).length = 40 := by simp; omega
    have p9 : (40 ≤ (c0 : Int)) = True := eq_true (by omega)
    clear hrd hr0
    generalize l0.take 40 = L at *
    have hr0 := hr1
    have hL40 : L.length ≤ 40 := by omega
    clear hL hr1
    obtain ⟨c, hc⟩ : ∃ c : Nat, (c : Int) = (L.length : Int) + 1 := ⟨L.length + 1, by omega⟩
    have hN : ∀ W, _ := fun W => row_new W ((L.length : Int) + 1) c (by omega)
    go_enter Try.func6, Try.ntmps6
    go_wp2_with (go_at_call 24; refine (hN _).mono ?_; rintro e wa ⟨g, b, rfl, hB0, hR0, hg, hb⟩)
    go_loopg [8] a1.toNat (fun d v8 w' => ∃ i : Nat, (d : Int) + i = a1 ∧ v8 = .int .i64 (i : Int) ∧ Below w.heap.size w w' ∧ Row w' g b c [] c [])
    case atStart => exact ⟨0, by omega, rfl, hB0, hR0⟩
    case round =>
      obtain ⟨i, hd, rfl, HB, HR⟩ := hrel
      have hc1 : 0 < c := by omega
      have e1 := row_back' HR (i : Int) (refDo_one c hc1 (i : Int))
      have hcl : L.length < c := by omega
      clear hc hN
      rcases gk with _ | d
      · have d1 : decide ((i : Int) < a1) = false := decide_eq_false (by omega)
        go_wp2
        clear hd e1 d1
        go_loopg [12] L.length (fun d v12 w' => ∃ i : Nat, d + i = L.length ∧ v12 = .int .i64 (i : Int) ∧ Below w.heap.size w w' ∧ Row w' g b c [] c (L.take i))
        case atStart => exact ⟨0, by omega, rfl, HB, by simpa using HR⟩
        case round =>
          clear HB HR
          obtain ⟨i, hd, rfl, HB, HR⟩ := hrel
          rcases gk with _ | d
          · have d1 : decide ((i : Int) < (L.length : Int)) = false := decide_eq_false (by omega)
            have d2 : decide (i < L.length) = false := decide_eq_false (by omega)
            have HR : Row wr g b c [] c L := by rw [List.take_of_length_le (by omega)] at HR; exact HR
            go_wp2
            all_goals first | (exfalso; omega) | skip
            have eL : ∀ w' : World, Below w.heap.size w w' → Calls Try.prog 30 #[] w' fun e w'' => e = .returned (.bool true) ∧ Below w.heap.size w w'' := fun w' h => (lives_any w').mono fun e w'' ⟨q1, q2⟩ => ⟨q1, Below.trans h (below_mono q2 h.size)⟩
            clear hd d1 d2
            cases a2 with
            | false =>
              go_loopg [13] L.length (fun d v13 w' => ∃ i : Nat, d + i = L.length ∧ v13 = .int .i64 (i : Int) ∧ Below w.heap.size w w' ∧ Row w' g b c [] c (L.drop i))
              case atStart => exact ⟨0, by omega, rfl, HB, HR⟩
              case round =>
                clear HB HR
                obtain ⟨i, hd, rfl, HB, HR⟩ := hrel
                rcases gk with _ | d
                · have d1 : decide ((i : Int) < (L.length : Int)) = false := decide_eq_false (by omega)
                  have d2 : decide (i < L.length) = false := decide_eq_false (by omega)
                  have HR : Row wr g b c [] c [] := by rw [List.drop_of_length_le (by omega)] at HR; exact HR
                  go_wp2_with (first
                    | (go_at_call 29; refine (row_len HR).mono ?_; rintro e w' ⟨rfl, rfl⟩)
                    | (go_at_call 30; refine (eL _ HB).mono ?_; rintro e w' ⟨rfl, hB9⟩))
                  all_goals first | (exfalso; omega) | skip
                  all_goals go_ret
                  all_goals exact ⟨rfl, hB9⟩
                · have d1 : decide ((i : Int) < (L.length : Int)) = true := decide_eq_true (by omega)
                  obtain ⟨ad, rfl, y0⟩ := Kd.at_int hr0 (i : Int) (by omega) (by omega)
                  have p1 : (0 ≤ (i : Int)) = True := eq_true (by omega)
                  have p2 : ((i : Int) < (L.length : Int)) = True := eq_true (by omega)
                  have ht : (i : Int).toNat = i := rfl
                  rw [ht] at y0
                  have yb := World.block_lt_of_cell? _ _ y0
                  have hx : L.drop i = rd L (i : Int) :: L.drop (i + 1) := by
                    rw [List.drop_eq_getElem_cons (show i < L.length by omega)]
                    simp [rd, List.getElem?_eq_getElem (show i < L.length by omega)]
                  have e2 := row_popfront' HR (show refDo (L.drop i) (c : Int) 3 0 = (L.drop (i + 1), rd L (i : Int), true) from by rw [hx]; exact refDo_pop c _ _)
                  generalize rd L (i : Int) = x at *
                  go_wp2_with (first
                    | (go_at_call 26; refine e2.mono ?_; rintro e w2 ⟨rfl, hC2, hR2⟩; have hB2 := chg_below HB hC2 hg hb; have x0 := (hB2.cell yb).trans y0))
                  go_roundg d
                  case measure => omega
                  case rel => exact ⟨i + 1, by omega, by simp, hB2, hR2⟩
            | true =>
              go_loopg [13] L.length (fun d v13 w' => ∃ i : Nat, d + i = L.length ∧ v13 = .int .i64 (i : Int) ∧ Below w.heap.size w w' ∧ Row w' g b c [] c (L.take (L.length - i)))
              case atStart => exact ⟨0, by omega, rfl, HB, by simpa using HR⟩
              case round =>
                clear HB HR
                obtain ⟨i, hd, rfl, HB, HR⟩ := hrel
                rcases gk with _ | d
                · have d1 : decide ((i : Int) < (L.length : Int)) = false := decide_eq_false (by omega)
                  have d2 : decide (i < L.length) = false := decide_eq_false (by omega)
                  have HR : Row wr g b c [] c [] := by rw [show L.length - i = 0 by omega] at HR; exact HR
                  go_wp2_with (first
                    | (go_at_call 29; refine (row_len HR).mono ?_; rintro e w' ⟨rfl, rfl⟩)
                    | (go_at_call 30; refine (eL _ HB).mono ?_; rintro e w' ⟨rfl, hB9⟩))
                  all_goals first | (exfalso; omega) | skip
                  all_goals go_ret
                  all_goals exact ⟨rfl, hB9⟩
                · have d1 : decide ((i : Int) < (L.length : Int)) = true := decide_eq_true (by omega)
                  obtain ⟨ad, rfl, y0⟩ := Kd.at_int hr0 (i : Int) (by omega) (by omega)
                  obtain ⟨ad2, ead, y1⟩ := Kd.at_int hr0 ((L.length : Int) - 1 - i) (by omega) (by omega)
                  cases ead
                  obtain ⟨j, hj⟩ : ∃ j : Nat, (L.length : Int) - 1 - i = (j : Int) := ⟨L.length - 1 - i, by omega⟩
                  rw [hj, show (j : Int).toNat = j from rfl] at y1
                  have hjn : (j : Int) < (L.length : Int) := by omega
                  have hjt : (j : Int).toNat = j := rfl
                  have p5 : (0 ≤ (j : Int)) = True := eq_true (by omega)
                  have p6 : ((j : Int) < (L.length : Int)) = True := eq_true hjn
                  have p7 : (j < L.length) = True := eq_true (by omega)
                  have p1 : (0 ≤ (i : Int)) = True := eq_true (by omega)
                  have p2 : ((i : Int) < (L.length : Int)) = True := eq_true (by omega)
                  have ht : (i : Int).toNat = i := rfl
                  rw [ht] at y0
                  have yb := World.block_lt_of_cell? _ _ y0
                  have yb1 := World.block_lt_of_cell? _ _ y1
                  obtain ⟨m, hm⟩ : ∃ m, L.length - i = m + 1 := ⟨L.length - i - 1, by omega⟩
                  have hlast : L.take (m + 1) = L.take m ++ [rd L (j : Int)] := by
                    rw [List.take_add_one]
                    have : j = m := by omega
                    simp [rd, this, List.getElem?_eq_getElem (show m < L.length by omega)]
                  obtain ⟨z, t, hzt⟩ : ∃ z t, L.take (m + 1) = z :: t := List.exists_cons_of_ne_nil (by intro q; have q := congrArg List.length q; rw [List.length_take, List.length_nil] at q; omega)
                  rw [hm, hzt] at HR
                  have htl : t.length < c := by have q := congrArg List.length hzt; rw [List.length_take, List.length_cons] at q; omega
                  have e2 := row_popfront' HR (refDo_pop c z t)
                  have e3 : refDo t (c : Int) 1 z = (z :: t, 0, true) := refDo_front c t z htl
                  have e4 : refDo (z :: t) (c : Int) 2 0 = (L.take m, rd L (j : Int), true) := by rw [← hzt, hlast]; exact refDo_popback c _ _
                  generalize rd L (j : Int) = x at *
                  generalize rd L (i : Int) = x' at *
                  go_wp2_with (first
                    | (go_at_call 26; refine e2.mono ?_; rintro e w2 ⟨rfl, hC2, hR2⟩; have hB2 := chg_below HB hC2 hg hb; have x0 := (hB2.cell yb).trans y0)
                    | (go_at_call 27; refine (row_front' hR2 z e3).mono ?_; rintro e w3 ⟨rfl, hC3, hR3⟩; have hB3 := chg_below hB2 hC3 hg hb)
                    | (go_at_call 28; refine (row_popback' hR3 e4).mono ?_; rintro e w4 ⟨rfl, hC4, hR4⟩; have hB4 := chg_below hB3 hC4 hg hb; have x1 := (hB4.cell yb1).trans y1))
                  go_roundg d
                  case measure => omega
                  case rel => exact ⟨i + 1, by omega, by simp, hB4, by rw [show L.length - (i + 1) = m by omega]; exact hR4⟩
          · have d1 : decide ((i : Int) < (L.length : Int)) = true := decide_eq_true (by omega)
            obtain ⟨ad, rfl, y0⟩ := Kd.at_int hr0 (i : Int) (by omega) (by omega)
            have p1 : (0 ≤ (i : Int)) = True := eq_true (by omega)
            have p2 : ((i : Int) < (L.length : Int)) = True := eq_true (by omega)
            have ht : (i : Int).toNat = i := rfl
            rw [ht] at y0
            have x0 := (HB.cell (World.block_lt_of_cell? _ _ y0)).trans y0
            have hx : L.take (i + 1) = L.take i ++ [rd L (i : Int)] := by
              rw [List.take_add_one]
              simp [rd, List.getElem?_eq_getElem (show i < L.length by omega)]
            have hlc : (L.take i).length < c := by have := HR.le; simp; omega
            have e2 := row_back' HR (rd L (i : Int)) (refDo_back c _ _ hlc)
            rw [← hx] at e2
            generalize rd L (i : Int) = x at *
            go_wp2_with (first
              | (go_at_call 25; refine e2.mono ?_; rintro e w2 ⟨rfl, hC2, hR2⟩; have hB2 := chg_below HB hC2 hg hb))
            go_roundg d
            case measure => omega
            case rel => exact ⟨i + 1, by omega, by simp, hB2, hR2⟩
      · have d1 : decide ((i : Int) < a1) = true := decide_eq_true (by omega)
        go_wp2_with (first
          | (go_at_call 25; refine e1.mono ?_; rintro e w2 ⟨rfl, hC2, hR2⟩; have hB2 := chg_below HB hC2 hg hb)
          | (go_at_call 26; refine (row_popfront' hR2 (refDo_pop c (i : Int) [])).mono ?_; rintro e w3 ⟨rfl, hC3, hR3⟩; have hB3 := chg_below hB2 hC3 hg hb))
        go_roundg d
        case measure => omega
        case rel => exact ⟨i + 1, by omega, by simp, hB3, hR3⟩
end Go.Proofs.Ytbnkanlfepdlkaa.ringOrderW
