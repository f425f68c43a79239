/- ClaimTells, walked by hand: the calls, told at accounts. Conditions: none. -/
import Derived.Test.YtlggjacghemakaaOkClaimTells
import Derived.Test.YtlggjacghemakaaCl3ClaimTells
import Derived.Test.YtlggjacghemakaaAp
namespace Go.Proofs.Ytlggjacghemakaa.claimTellsW
open Go.RowKit Go.Proofs.Ytlggjacghemakaa.PClaimTells Go.Proofs.YtlggjacghemakaaW.PrintWords Go.Proofs.YtlggjacghemakaaW.PrintLast Go.Proofs.YtlggjacghemakaaW.PrintMore
open ClClaimTells Cm
set_option linter.unusedVariables false

section
variable {W W2 w : World} {A0 A1 A2 Aq : Option Addr} {c0 c1 c2 cq : Nat} {F ask : List Int} {H C : List (List Int)} {g : Nat}
/-- The account reads so. -/
def At (W : World) (A0 : Option Addr) (c0 : Nat) (F : List Int) (A1 : Option Addr) (c1 : Nat) (H : List (List Int)) (A2 : Option Addr) (c2 : Nat) (C : List (List Int)) : Prop :=
  (Kd.C (Kd.int .i64) W A0 F.length F ∧ F.length ≤ c0) ∧ (Kd.C (Kd.slice 3 (Kd.int .i64)) W A1 H.length H ∧ H.length ≤ c1) ∧ (Kd.C (Kd.slice 3 (Kd.int .i64)) W A2 C.length C ∧ C.length ≤ c2)
theorem At.below (h : At W A0 c0 F A1 c1 H A2 c2 C) (hb : Below W.heap.size W W2) : At W2 A0 c0 F A1 c1 H A2 c2 C :=
  ⟨⟨Kd.C_below h.1.1 hb, h.1.2⟩, ⟨Kd.C_below h.2.1.1 hb, h.2.1.2⟩, ⟨Kd.C_below h.2.2.1 hb, h.2.2.2⟩⟩
/-- A list of numbers reads so. -/
def Ro (W : World) (A : Option Addr) (c : Nat) (l : List Int) : Prop := Kd.C (Kd.int .i64) W A l.length l ∧ l.length ≤ c
theorem Ro.below {A : Option Addr} {c : Nat} {l : List Int} (h : Ro W A c l) (hb : Below W.heap.size W W2) : Ro W2 A c l := ⟨Kd.C_below h.1 hb, h.2⟩
/-- The account in its block, what is asked, and what came in. -/
def St (w W : World) (g : Nat) (A0 : Option Addr) (c0 : Nat) (F : List Int) (A1 : Option Addr) (c1 : Nat) (H : List (List Int)) (A2 : Option Addr) (c2 : Nat) (C : List (List Int)) (Aq : Option Addr) (cq : Nat) (ask : List Int) : Prop :=
  At W A0 c0 F A1 c1 H A2 c2 C ∧ W.heap[g]? = some (.cells #[.slice A0 F.length c0, .slice A1 H.length c1, .slice A2 C.length c2] 55 (0, 0)) ∧ Ro W Aq cq ask ∧ Below w.heap.size w W
theorem St.below (h : St w W g A0 c0 F A1 c1 H A2 c2 C Aq cq ask) (hb : Below W.heap.size W W2) : St w W2 g A0 c0 F A1 c1 H A2 c2 C Aq cq ask :=
  ⟨h.1.below hb, blk_below h.2.1 hb, h.2.2.1.below hb, below_step h.2.2.2 hb⟩
theorem St.acc (h : St w W g A0 c0 F A1 c1 H A2 c2 C Aq cq ask) : At W A0 c0 F A1 c1 H A2 c2 C := h.1
theorem St.asks (h : St w W g A0 c0 F A1 c1 H A2 c2 C Aq cq ask) : Ro W Aq cq ask := h.2.2.1
theorem St.bel (h : St w W g A0 c0 F A1 c1 H A2 c2 C Aq cq ask) : Below w.heap.size w W := h.2.2.2
theorem St.cells (h : St w W g A0 c0 F A1 c1 H A2 c2 C Aq cq ask) : W.cell? ⟨g, 0, none⟩ = some (.slice A0 F.length c0) ∧ W.cell? ⟨g, 1, none⟩ = some (.slice A1 H.length c1) ∧ W.cell? ⟨g, 2, none⟩ = some (.slice A2 C.length c2) :=
  claim_Grants.box3 h.2.1
def oo (F : List Int) (H C : List (List Int)) : List Int × Bool := if chk F H C = 0 then outO H.length (ord F H C) else ([], false)
def lv (F : List Int) (H C : List (List Int)) (who : Int) : List Int := if chk F H C = 0 ∧ 0 ≤ who ∧ who < H.length then lf F H C who.toNat else []
theorem cChk (h : At W A0 c0 F A1 c1 H A2 c2 C) : Calls Try.prog 24 #[.agg #[.slice A0 F.length c0, .slice A1 H.length c1, .slice A2 C.length c2]] W fun e W2 => e = .returned (.int .i64 (chk F H C)) ∧ Below W.heap.size W W2 := by
  obtain ⟨k, hk⟩ := (rcheck_f F H C).get
  exact logjamref25_Check.calls k _ _ F _ _ H _ _ C _ W h.1.1 h.1.2 h.2.1.1 h.2.1.2 h.2.2.1 h.2.2.2 hk
theorem cPChk (h : At W A0 c0 F A1 c1 H A2 c2 C) : Calls Try.prog 27 #[.agg #[.slice A0 F.length c0, .slice A1 H.length c1, .slice A2 C.length c2]] W fun e W2 => e = .returned (.int .i64 (chk F H C)) ∧ Below W.heap.size W W2 := by
  obtain ⟨k, hk⟩ := (check_f F H C).get
  exact claim_Check.calls k _ _ F _ _ H _ _ C _ W h.1.1 h.1.2 h.2.1.1 h.2.1.2 h.2.2.1 h.2.2.2 hk
theorem cOrder (h : At W A0 c0 F A1 c1 H A2 c2 C) : Calls Try.prog 25 #[.agg #[.slice A0 F.length c0, .slice A1 H.length c1, .slice A2 C.length c2]] W fun e W2 => ∃ Al cl, e = .returned (.tuple #[.slice Al (oo F H C).1.length cl, .bool (oo F H C).2]) ∧ Aside0 (Ro W2 Al cl (oo F H C).1) ∧ Below W.heap.size W W2 := by
  obtain ⟨k, hk⟩ := (Order_f F H C).get
  refine (claim_Order.calls k _ _ F _ _ H _ _ C (oo F H C).1 (oo F H C).2 W h.1.1 h.1.2 h.2.1.1 h.2.1.2 h.2.2.1 h.2.2.2 hk).mono fun e W2 ⟨v, he, hR, hb⟩ => ?_
  obtain ⟨Al, cl, rfl, h1, h2⟩ := Kd.R_reads hR
  exact ⟨Al, cl, he, ⟨h2, h1⟩, hb⟩
theorem cSafe (h : At W A0 c0 F A1 c1 H A2 c2 C) : Calls Try.prog 28 #[.agg #[.slice A0 F.length c0, .slice A1 H.length c1, .slice A2 C.length c2]] W fun e W2 => e = .returned (.bool (oo F H C).2) ∧ Below W.heap.size W W2 := by
  have hs : Evt (fun k => claim_Safe.f k F H C) (oo F H C).2 := Evt.of (g := fun k => (claim_Order.f k F H C).bind fun b => some b.2) (fun k => rfl) (Evt.bind (g := fun _ b => some b.2) (Order_f F H C) (Evt.const fun _ => rfl))
  obtain ⟨k, hk⟩ := hs.get
  exact claim_Safe.calls k _ _ F _ _ H _ _ C _ W h.1.1 h.1.2 h.2.1.1 h.2.1.2 h.2.2.1 h.2.2.2 hk
theorem cOwn (hF : F.length ≤ 40) (eH : rv H = H) (eC : rv C = C) (h : At W A0 c0 F A1 c1 H A2 c2 C) : Calls Try.prog 26 #[.agg #[.slice A0 F.length c0, .slice A1 H.length c1, .slice A2 C.length c2]] W fun e W2 => ∃ B0 d0 B1 d1 B2 d2, e = .returned (.agg #[.slice B0 F.length d0, .slice B1 H.length d1, .slice B2 C.length d2]) ∧ Aside0 (At W2 B0 d0 F B1 d1 H B2 d2 C) ∧ Below W.heap.size W W2 := by
  have ho := own_f F H C hF
  rw [eH, eC] at ho
  obtain ⟨k, hk⟩ := ho.get
  refine (logjamlaw25_own.calls k _ _ F _ _ H _ _ C F H C W h.1.1 h.1.2 h.2.1.1 h.2.1.2 h.2.2.1 h.2.2.2 hk).mono fun e W2 ⟨v0, v1, v2, he, hR, hS1, hS2, hb⟩ => ?_
  obtain ⟨B0, d0, rfl, a1, a2⟩ := Kd.R_reads hR
  obtain ⟨B1, d1, rfl⟩ := Kd.S_slice hS1
  obtain ⟨B2, d2, rfl⟩ := Kd.S_slice hS2
  have q1 := Kd.S_reads' hS1
  have q2 := Kd.S_reads' hS2
  exact ⟨B0, d0, B1, d1, B2, d2, he, ⟨⟨a2, a1⟩, ⟨q1.2.2, q1.2.1⟩, ⟨q2.2.2, q2.2.1⟩⟩, hb⟩
theorem cLeft (h : At W A0 c0 F A1 c1 H A2 c2 C) (who : Int) : Calls Try.prog 29 #[.agg #[.slice A0 F.length c0, .slice A1 H.length c1, .slice A2 C.length c2], .int .i64 who] W fun e W2 => ∃ Al cl, e = .returned (.slice Al (lv F H C who).length cl) ∧ Aside0 (Ro W2 Al cl (lv F H C who)) ∧ Below W.heap.size W W2 := by
  obtain ⟨k, hk⟩ := (cleft_f F H C who).get
  refine (claim_Left.calls k _ _ F _ _ H _ _ C who (lv F H C who) W h.1.1 h.1.2 h.2.1.1 h.2.1.2 h.2.2.1 h.2.2.2 hk).mono fun e W2 ⟨v, he, hR, hb⟩ => ?_
  obtain ⟨Al, cl, rfl, h1, h2⟩ := Kd.R_reads hR
  exact ⟨Al, cl, he, ⟨h2, h1⟩, hb⟩
theorem cGrants (h : At W A0 c0 F A1 c1 H A2 c2 C) (who : Int) (hq : Ro W Aq cq ask) (hl : ask.length < 4611686018427387904) : Calls Try.prog 30 #[.agg #[.slice A0 F.length c0, .slice A1 H.length c1, .slice A2 C.length c2], .int .i64 who, .slice Aq ask.length cq] W fun e W2 => e = .returned (.bool (grv F H C who ask)) ∧ Below W.heap.size W W2 := by
  obtain ⟨k, hk⟩ := (grants_f F H C who ask hl).get
  exact claim_Grants.calls k _ _ F _ _ H _ _ C who _ _ ask _ W h.1.1 h.1.2 h.2.1.1 h.2.1.2 h.2.2.1 h.2.2.2 hq.1 hq.2 hk
theorem cROrder (ok : OkA F H C) (h : At W A0 c0 F A1 c1 H A2 c2 C) : Calls Try.prog 32 #[.agg #[.slice A0 F.length c0, .slice A1 H.length c1, .slice A2 C.length c2]] W fun e W2 => ∃ Al cl, e = .returned (.tuple #[.slice Al (lI (ord F H C)).length cl, .bool (decide ((ord F H C).length = H.length))]) ∧ Aside0 (Ro W2 Al cl (lI (ord F H C))) ∧ Below W.heap.size W W2 := by
  obtain ⟨k, hk⟩ := (rorder_f ok).get
  refine (logjamref25_Order.calls k (fun k => k < W.heap.size) _ _ F _ _ H _ _ C (lI (ord F H C)) _ W (Kd.V_mk h.1.2 (Kd.C_F (Kd.heap_int .i64) h.1.1)) h.2.1.1 h.2.1.2 h.2.2.1 h.2.2.2 hk).mono fun e W2 ⟨v, he, hR, hb⟩ => ?_
  obtain ⟨Al, cl, rfl, h1, h2⟩ := Kd.R_reads hR
  exact ⟨Al, cl, he, ⟨h2, h1⟩, hb⟩
theorem cRLeft (ok : OkA F H C) (h : At W A0 c0 F A1 c1 H A2 c2 C) {i : Nat} (hi : i < H.length) : Calls Try.prog 35 #[.agg #[.slice A0 F.length c0, .slice A1 H.length c1, .slice A2 C.length c2], .int .i64 (i : Int)] W fun e W2 => ∃ Al cl, e = .returned (.slice Al (lf F H C i).length cl) ∧ Aside0 (Ro W2 Al cl (lf F H C i)) ∧ Below W.heap.size W W2 := by
  obtain ⟨k, hk⟩ := (rleft_f ok hi).get
  refine (logjamref25_Left.calls k _ _ F _ _ H _ _ C (i : Int) (lf F H C i) W h.1.1 h.1.2 h.2.1.1 h.2.1.2 h.2.2.1 h.2.2.2 hk).mono fun e W2 ⟨v, he, hR, hb⟩ => ?_
  obtain ⟨Al, cl, rfl, h1, h2⟩ := Kd.R_reads hR
  exact ⟨Al, cl, he, ⟨h2, h1⟩, hb⟩
theorem cGiven (ok : OkA F H C) (h : At W A0 c0 F A1 c1 H A2 c2 C) (who : Int) (hq : Ro W Aq cq ask) : Calls Try.prog 34 #[.agg #[.slice A0 F.length c0, .slice A1 H.length c1, .slice A2 C.length c2], .int .i64 who, .slice Aq ask.length cq] W fun e W2 => ∃ B0 d0 B1 d1 B2 d2, e = .returned (.tuple #[.agg #[.slice B0 (giv F H C who ask).1.length d0, .slice B1 (giv F H C who ask).2.1.length d1, .slice B2 (giv F H C who ask).2.2.1.length d2], .bool (giv F H C who ask).2.2.2]) ∧ Aside0 (At W2 B0 d0 (giv F H C who ask).1 B1 d1 (giv F H C who ask).2.1 B2 d2 (giv F H C who ask).2.2.1) ∧ Below W.heap.size W W2 := by
  obtain ⟨k, hk⟩ := (given_f ok who ask).get
  refine (logjamref25_Given.calls k (fun k => k < W.heap.size) _ _ F (fun k => k < W.heap.size) _ _ H (fun k => k < W.heap.size) _ _ C who _ _ ask (giv F H C who ask).1 (giv F H C who ask).2.1 (giv F H C who ask).2.2.1 (giv F H C who ask).2.2.2 W (Kd.V_mk h.1.2 (Kd.C_F (Kd.heap_int .i64) h.1.1)) (Kd.V_mk h.2.1.2 (Kd.C_F (Kd.heap_slice 3 (Kd.heap_int .i64)) h.2.1.1)) (Kd.V_mk h.2.2.2 (Kd.C_F (Kd.heap_slice 3 (Kd.heap_int .i64)) h.2.2.1)) hq.1 hq.2 hk).mono fun e W2 ⟨v0, v1, v2, he, h0, h1, h2, hb⟩ => ?_
  obtain ⟨B0, d0, rfl⟩ := Kd.V_slice h0
  obtain ⟨B1, d1, rfl⟩ := Kd.V_slice h1
  obtain ⟨B2, d2, rfl⟩ := Kd.V_slice h2
  have q0 := Kd.V_reads' h0
  have q1 := Kd.V_reads' h1
  have q2 := Kd.V_reads' h2
  exact ⟨B0, d0, B1, d1, B2, d2, he, ⟨⟨q0.2.2, q0.2.1⟩, ⟨q1.2.2, q1.2.1⟩, ⟨q2.2.2, q2.2.1⟩⟩, hb⟩
theorem cLives : Calls Try.prog 31 #[] W fun e W2 => e = .returned (.bool true) ∧ Below W.heap.size W W2 := by
  obtain ⟨k, hk⟩ := lives_f.get
  exact logjamlaw25_lives.calls k true W hk
theorem same_f (l : List Int) (hl : l.length < 4611686018427387904) : Evt (fun k => logjamlaw25_same.f k l l) true := by
  have h : ∀ d i, d + i = l.length → Evt (fun k => logjamlaw25_same.l0 k l l (i : Int)) true := by
    intro d
    induction d with
    | zero =>
      intro i h
      exact Evt.step (g := fun _ => some true) (fun k => by show logjamlaw25_same.l0 (k + 1) _ _ _ = _; simp only [logjamlaw25_same.l0]; rw [if_neg (by omega)]) (Evt.const fun _ => rfl)
    | succ d ih =>
      intro i h
      refine Evt.step (fun k => ?_) (ih (i + 1) (by omega))
      show logjamlaw25_same.l0 (k + 1) _ _ _ = _
      simp only [logjamlaw25_same.l0]
      rw [if_pos (by omega), if_pos (by omega), if_pos (by omega), if_pos trivial, w1 (by omega)]
  refine Evt.of (fun k => ?_) (h l.length 0 (by omega))
  show logjamlaw25_same.f k l l = _
  unfold logjamlaw25_same.f
  rw [if_pos rfl]
  rfl
theorem cSame {A B : Option Addr} {c d : Nat} {l : List Int} (hl : l.length < 4611686018427387904) (h1 : Ro W A c l) (h2 : Ro W B d l) : Calls Try.prog 33 #[.slice A l.length c, .slice B l.length d] W fun e W2 => e = .returned (.bool true) ∧ Drawn0 W W2 := by
  obtain ⟨k, hk⟩ := (same_f l hl).get
  exact logjamlaw25_same.calls k _ _ l _ _ l true W h1.1 h1.2 h2.1 h2.2 hk
theorem cFew (h : At w A0 c0 F A1 c1 H A2 c2 C) (hw : Below w.heap.size w W) : Calls Try.prog 23 #[.agg #[.slice A0 F.length c0, .slice A1 H.length c1, .slice A2 C.length c2]] W fun e W2 => ∃ F' H' C' B0 d0 B1 d1 B2 d2, e = .returned (.agg #[.slice B0 F'.length d0, .slice B1 H'.length d1, .slice B2 C'.length d2]) ∧ (F'.length ≤ 40 ∧ rv H' = H' ∧ rv C' = C') ∧ Aside0 (∀ W3 : World, (∀ k, k < w.heap.size ∨ W.heap.size ≤ k → W3.heap[k]? = W2.heap[k]?) → At W3 B0 d0 F' B1 d1 H' B2 d2 C') ∧ Below W.heap.size W W2 := by
  obtain ⟨k, hk⟩ := (few_f F H C).get
  refine (logjamlaw25_few.calls k (fun k => k < w.heap.size) _ _ F _ _ H _ _ C (F.take 40) (rv H) (rv C) W (Kd.V_mk h.1.2 (Kd.F_step (Kd.C_F (Kd.heap_int .i64) h.1.1) (fun k hk _ => hw.block k hk))) (Kd.C_below h.2.1.1 hw) h.2.1.2 (Kd.C_below h.2.2.1 hw) h.2.2.2 hk).mono fun e W2 ⟨v0, v1, v2, he, h0, hS1, hS2, hb⟩ => ?_
  obtain ⟨B0, d0, rfl⟩ := Kd.V_slice h0
  obtain ⟨B1, d1, rfl⟩ := Kd.S_slice hS1
  obtain ⟨B2, d2, rfl⟩ := Kd.S_slice hS2
  refine ⟨F.take 40, rv H, rv C, B0, d0, B1, d1, B2, d2, he, ⟨by simp; omega, rv_rv H, rv_rv C⟩, ⟨fun W3 hs => ?_⟩, hb⟩
  have q0 := Kd.V_reads' h0
  have f0 := Kd.F_now (Kd.F_step (Kd.V_F h0) (fun k hk _ => hs k hk.1))
  have q1 := Kd.S_reads' (Kd.S_step hS1 (fun k hk _ => hs k (.inr hk.1)))
  have q2 := Kd.S_reads' (Kd.S_step hS2 (fun k hk _ => hs k (.inr hk.1)))
  exact ⟨⟨f0, q0.2.1⟩, ⟨q1.2.2, q1.2.1⟩, ⟨q2.2.2, q2.2.1⟩⟩
/-- An empty row of one's own. -/
theorem ownE {base g : Nat} (h : W.heap[g]? = some (.cells #[] 3 (0, 0))) (hb : base ≤ g) : W.ownsRow base 3 1 (.slice (some ⟨g, 0, none⟩) 0 0) ([] : List Int).length (nums .i64 ([] : List Int)) :=
  ⟨rfl, .inr ⟨g, 0, #[], rfl, hb, h, Nat.le_refl _, by decide, rfl, rfl⟩⟩
theorem Ro_of_own {base : Nat} {v : Value} {l : List Int} (h : W.ownsRow base 3 1 v l.length (nums .i64 l)) : ∃ A c, v = .slice A l.length c ∧ Ro W A c l := by
  have hR : Kd.R (Kd.int .i64) 3 W base (fun _ => True) v l := Kd.R_of_own h (fun _ _ => trivial)
  obtain ⟨A, c, e, h1, h2⟩ := Kd.R_reads hR
  exact ⟨A, c, e, h2, h1⟩
theorem Ro.cell {A : Option Addr} {c : Nat} {l : List Int} (h : Ro W A c l) (hp : 0 < l.length) : ∃ ad, A = some ad ∧ ∀ j u, (nums .i64 l)[j]? = some u → W.cell? (ad.add j) = some u := by
  have hr : ReadsInt W .i64 A l.length l := Kd.reads_of_C h.1
  obtain ⟨ad, e, _⟩ := hr.2.2 hp
  refine ⟨ad, e, fun j u hu => ?_⟩
  have hj : j < l.length := by
    rcases Nat.lt_or_ge j l.length with q | q
    · exact q
    · simp [nums, List.getElem?_eq_none q] at hu
  obtain ⟨ad', h', hc⟩ := hr.2.2 hp
  rw [e] at h'
  injection h' with h'
  subst h'
  have := hc j (by omega)
  simp [nums, List.getElem?_eq_getElem hj] at hu
  subst hu
  rw [this]
  simp [List.getD_eq_getElem?_getD, List.getElem?_eq_getElem hj]
/-- append([]int{}, l...): a row of its own; what stood stands. -/
theorem run_app0 {g : Nat} {A : Option Addr} {c : Nat} {l : List Int} (ty : TypeId) (h : Ro W A c l) (hl : l.length * 8 ≤ 140737488351232) :
    ∃ B d w1, (Builtin.append_ #[23, 23] ty #[.slice (some ⟨g, 0, none⟩) 0 0, .slice A l.length c]).run Try.prog W = .ok (.slice B l.length d) w1 ∧ Ro w1 B d l ∧ Below W.heap.size W w1 := by
  obtain ⟨i0, hi, hz0, hz1, hz2⟩ := info_parts info3
  rcases Nat.eq_zero_or_pos l.length with h0 | h0
  · obtain rfl : l = [] := List.eq_nil_of_length_eq_zero h0
    refine ⟨some ⟨g, 0, none⟩, 0, W, ?_, ⟨⟨rfl, by simp, fun h => absurd h (Nat.lt_irrefl 0)⟩, Nat.le_refl _⟩, Below.refl _ _⟩
    cases A with
    | none => simp [Builtin.append_, run_underlying Try.underlying23, sizeOf, typeInfo, hi, Builtin.lenOf, Builtin.firstCells, storeCells]
    | some ad => simp [Builtin.append_, run_underlying Try.underlying23, sizeOf, typeInfo, hi, Builtin.lenOf, Builtin.firstCells, storeCells, loadCells, loadCellsFrom]
  · obtain ⟨ad, rfl, hc⟩ := h.cell h0
    obtain ⟨v1, w1, hrun, hown, hg⟩ := run_append_arg_grows (P := Try.prog) W 23 ty 3 i0 (.int .i64 0) 1 8 Try.underlying23 hi hz0 hz1 hz2 rfl (by decide) ⟨g, 0, none⟩ 0 0 [] rfl (fun j u hu => by simp at hu) ad l.length c (nums .i64 l) (by simp [nums]) hc (by omega) (by simp only [maxLen]; omega) (by omega)
    have hown2 : w1.ownsRow W.heap.size 3 1 v1 l.length (nums .i64 l) := by simpa using hown
    obtain ⟨B, d, rfl, hr⟩ := Ro_of_own hown2
    exact ⟨B, d, w1, hrun, hr, Below.grown (Below.refl _ _) hg (Nat.le_refl _) (fun j hj => by cases hj)⟩
theorem wp_app0 {o : Oper} {a : Act} {Q : Exit → Act → World → Prop} {K : Act → World → Prop} {g : Nat} {A : Option Addr} {c : Nat} {l : List Int} (s x : Operand)
    (ho : o.op = .call { callee := .builtin .append, args := #[s, x], argTypes := #[23, 23] }) (hs : a.eval s = .slice (some ⟨g, 0, none⟩) 0 0) (hx : a.eval x = .slice A l.length c) (h : Ro W A c l) (hl : l.length * 8 ≤ 140737488351232)
    (hK : ∀ B d w1, Ro w1 B d l → Below W.heap.size W w1 → K (a.put o.dst (.slice B l.length d)) w1) : Oper.wp Try.prog o a W K Q := by
  obtain ⟨B, d, w1, hr, h1, h2⟩ := run_app0 (g := g) o.type h hl
  unfold Oper.wp execOp
  simp only [ho, resolve, invoke, builtin, Sem.run_bind, Sem.run_pure, Result.andThen_ok, List.map_toArray, List.map_cons, List.map_nil, hs, hx, hr]
  exact hK B d w1 h1 h2
end
end Go.Proofs.Ytlggjacghemakaa.claimTellsW
