/- What the law's calls come to. Conditions: none. -/
import Derived.Test.YtakbhnfmimnbhaaLn11
namespace Go.Proofs.Ytakbhnfmimnbhaa.Ln
open Go.RowKit Go.Proofs.Ytakbhnfmimnbhaa.PLineRises Go.Proofs.YtakbhnfmimnbhaaW.PrintWords Go.Proofs.YtakbhnfmimnbhaaW.PrintLast Go.Proofs.YtakbhnfmimnbhaaW.PrintMore
open Tm (Chg TR Shp sh0 rSet rDrop rDue)
set_option linter.unusedVariables false
set_option linter.unusedSimpArgs false

theorem info50s : (Try.prog.info? 50).map (·.size) = some 13 := by kernel_rfl
section
variable {w W W' : World} {g n i : Nat} {last : Int} {ws : List S48} {m : List (Int × Int)}
theorem Li.lt (h : Li w W g last ws n m) : g < W.heap.size := by
  obtain ⟨vl, S, ok, h1, h2, h3⟩ := h
  exact h1.lt
theorem li_of (h : Li w W g last ws n m) (hp : Pl i ws last m n) (t : Int) : Calls Try.prog 13 #[.pointer (some ⟨g, 0, none⟩), .int .i64 t] W fun e w' => ∃ (x : S48) (A : Option Addr) (k c : Nat), e = .returned (.tuple #[wv x (.slice A k c), .bool (fnd ws t).isSome]) ∧ Below W.heap.size W w' := by
  obtain ⟨vl, S, ok, h1, h2, h3⟩ := h
  have hl : ws.length ≤ 1000 := by have := hp.len; have := hp.i60; omega
  cases hf : fnd ws t with
  | none =>
    refine (of_no h1 hl t hf).mono ?_
    rintro e w' ⟨rfl, hb⟩
    exact ⟨⟨0, 0, 0, 0, [], 0, 0, 0, 0, 0⟩, none, 0, 0, rfl, hb⟩
  | some j =>
    refine (of_yes h1 hl hp.oks t hf).mono ?_
    rintro e w' ⟨v4, rfl, hr, hb⟩
    obtain ⟨A, c, rfl⟩ := Kd.R_slice hr
    exact ⟨_, A, _, c, rfl, hb⟩
theorem li_addF (h : Li w W g last ws n m) (hp : Pl i ws last m n) (hi : i + 1 ≤ 60) (x : S48) {A : Option Addr} {k c b2 : Nat} {okx : Nat → Prop} (hx : kW.R 99 W b2 okx (.slice A k c) x.f4) (hxg : ∀ k, okx k → k ≠ g) (hxo : okA x.f4) : Calls Try.prog 14 #[.pointer (some ⟨g, 0, none⟩), wv x (.slice A k c)] W fun e w' => ∃ (r last' : Int) (ws' : List S48) (n' : Nat) (m' : List (Int × Int)), e = .returned (.int .i64 r) ∧ Li w w' g last' ws' n' m' ∧ Pl (i + 1) ws' last' m' n' ∧ ((0 < r ∧ last < r ∧ last' = r ∧ (fnd ws x.f0).isSome = false) ∨ (r = 0 ∧ Below W.heap.size W w' ∧ last' = last ∧ (fnd ws x.f0).isSome = true) ∨ (r = 0 ∧ Below W.heap.size W w' ∧ last' = last ∧ (fnd ws x.f0).isSome = false ∧ x.f0 < 0) ∨ (r = 0 ∧ Below W.heap.size W w' ∧ last' = last ∧ (fnd ws x.f0).isSome = false ∧ 0 ≤ x.f0 ∧ 64 ≤ x.f0)) := by
  have hla := hp.la
  cases ha : accB ws x.f0 with
  | true =>
    refine (li_add h hp x hx hxg hxo ha).mono ?_
    rintro e w' ⟨rfl, h'⟩
    refine ⟨last + 1, last + 1, _, _, _, rfl, h', hp.add hi x hxo ha, .inl ⟨by omega, by omega, rfl, ?_⟩⟩
    unfold accB at ha
    simp only [Bool.and_eq_true] at ha
    simpa using ha.2
  | false =>
    obtain ⟨vl, S, ok, h1, h2, h3⟩ := h
    refine (add_no h1 (by have := hp.len; have := hp.i60; omega) x A k c ha).mono ?_
    rintro e w' ⟨rfl, hb⟩
    refine ⟨0, last, ws, n, m, rfl, Li.below ⟨vl, S, ok, h1, h2, h3⟩ hb, hp.up hi, .inr ?_⟩
    cases hf : (fnd ws x.f0).isSome with
    | true => exact .inl ⟨rfl, hb, rfl, rfl⟩
    | false =>
      refine .inr ?_
      unfold accB at ha
      have hn : (fnd ws x.f0).isNone = true := by simpa using hf
      rw [hn, Bool.and_true] at ha
      by_cases c0 : x.f0 < 0
      · exact .inl ⟨rfl, hb, rfl, rfl, c0⟩
      · refine .inr ⟨rfl, hb, rfl, rfl, by omega, ?_⟩
        by_cases c6 : x.f0 < 64
        · rw [decide_eq_true (by omega : 0 ≤ x.f0), decide_eq_true c6] at ha
          cases ha
        · omega
theorem li_dropF (h : Li w W g last ws n m) (hp : Pl i ws last m n) (hi : i + 1 ≤ 60) (t : Int) : Calls Try.prog 16 #[.pointer (some ⟨g, 0, none⟩), .int .i64 t] W fun e w' => ∃ (r : Bool) (ws' : List S48) (n' : Nat) (m' : List (Int × Int)), e = .returned (.bool r) ∧ Li w w' g last ws' n' m' ∧ Pl (i + 1) ws' last m' n' := by
  refine (li_drop h hp t).mono ?_
  rintro e w' ⟨rfl, h'⟩
  exact ⟨_, _, _, _, rfl, h', hp.drop hi t⟩
theorem li_turnF (h : Li w W g last ws n m) (hp : Pl i ws last m n) (hi : i + 1 ≤ 60) (t r : Int) : Calls Try.prog 17 #[.pointer (some ⟨g, 0, none⟩), .int .i64 t, .int .i64 r] W fun e w' => ∃ (r : Bool) (ws' : List S48) (n' : Nat) (m' : List (Int × Int)), e = .returned (.bool r) ∧ Li w w' g last ws' n' m' ∧ Pl (i + 1) ws' last m' n' := by
  refine (li_turn h hp hi t r).mono ?_
  rintro e w' ⟨rfl, ws', n', m', h', hp', _⟩
  exact ⟨_, _, _, _, rfl, h', hp'⟩
/-- The row of all, as it was told. -/
structure Al (w W : World) (g : Nat) (last : Int) (ws : List S48) (n : Nat) (m : List (Int × Int)) (A : Option Addr) : Prop where
  li : Li w W g last ws n m
  rd : Kd.C k48 W A ws.length ws
theorem Al.below {A : Option Addr} (h : Al w W g last ws n m A) (hb : Below W.heap.size W W') : Al w W' g last ws n m A := ⟨h.li.below hb, Kd.C_below h.rd hb⟩
theorem li_all (h : Li w W g last ws n m) (hp : Pl i ws last m n) : Calls Try.prog 18 #[.pointer (some ⟨g, 0, none⟩)] W fun e w' => ∃ (A : Option Addr) (c : Nat), e = .returned (.slice A ws.length c) ∧ Al w w' g last ws n m A := by
  have hw := h
  obtain ⟨vl, S, ok, h1, h2, h3⟩ := h
  refine (all_any h1 (by have := hp.len; have := hp.i60; omega) hp.oks).mono ?_
  rintro e w' ⟨v, rfl, hr, hb⟩
  obtain ⟨A, c, rfl⟩ := Kd.R_slice hr
  exact ⟨A, c, rfl, hw.below hb, (Kd.R_reads' hr).2.2⟩
theorem Al.at {A : Option Addr} (h : Al w W g last ws n m A) {j : Nat} (hj : j < ws.length) : ∃ ad, A = some ad ∧ W.cell? (ad.add (j * 10)) = some (.int .i64 (wq ws j).f0) ∧ W.cell? ⟨(ad.add (j * 10)).block, (ad.add (j * 10)).off + 2, none⟩ = some (.int .i64 (wq ws j).f2) := by
  obtain ⟨ad, A4, c4, e, hw, _, _⟩ := at_w h.rd hj
  exact ⟨ad, e, hw.c0, hw.c2⟩
end
end Go.Proofs.Ytakbhnfmimnbhaa.Ln
