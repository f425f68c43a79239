/- ClaimBack, walked by hand: the calls, told at accounts. Conditions: none. -/
import Derived.Test.YtlggjacghemakaaOkClaimBack
import Derived.Test.YtlggjacghemakaaPureClaimBack
import Derived.Test.YtlggjacghemakaaAp
namespace Go.Proofs.Ytlggjacghemakaa.claimBackW
open Go.RowKit Go.Proofs.Ytlggjacghemakaa.PClaimBack Go.Proofs.YtlggjacghemakaaW.PrintWords Go.Proofs.YtlggjacghemakaaW.PrintLast Go.Proofs.YtlggjacghemakaaW.PrintMore
open ClClaimBack Cm
set_option linter.unusedVariables false

section
variable {W W2 w : World} {A0 A1 A2 Aq : Option Addr} {c0 c1 c2 cq : Nat} {F ask : List Int} {H C : List (List Int)} {g : Nat}
/-- The account reads so. -/
def At (W : World) (A0 : Option Addr) (c0 : Nat) (F : List Int) (A1 : Option Addr) (c1 : Nat) (H : List (List Int)) (A2 : Option Addr) (c2 : Nat) (C : List (List Int)) : Prop :=
  (Kd.C (Kd.int .i64) W A0 F.length F ∧ F.length ≤ c0) ∧ (Kd.C (Kd.slice 3 (Kd.int .i64)) W A1 H.length H ∧ H.length ≤ c1) ∧ (Kd.C (Kd.slice 3 (Kd.int .i64)) W A2 C.length C ∧ C.length ≤ c2)
theorem At.below (h : At W A0 c0 F A1 c1 H A2 c2 C) (hb : Below W.heap.size W W2) : At W2 A0 c0 F A1 c1 H A2 c2 C :=
  ⟨⟨Kd.C_below h.1.1 hb, h.1.2⟩, ⟨Kd.C_below h.2.1.1 hb, h.2.1.2⟩, ⟨Kd.C_below h.2.2.1 hb, h.2.2.2⟩⟩
/-- A list of numbers reads so. -/
def Ro (W : World) (A : Option Addr) (c : Nat) (l : List Int) : Prop := Kd.C (Kd.int .i64) W A l.length l ∧ l.length ≤ c
theorem Ro.below {A : Option Addr} {c : Nat} {l : List Int} (h : Ro W A c l) (hb : Below W.heap.size W W2) : Ro W2 A c l := ⟨Kd.C_below h.1 hb, h.2⟩
/-- The account in its block, what is asked, and what came in. -/
def St (w W : World) (g : Nat) (A0 : Option Addr) (c0 : Nat) (F : List Int) (A1 : Option Addr) (c1 : Nat) (H : List (List Int)) (A2 : Option Addr) (c2 : Nat) (C : List (List Int)) (Aq : Option Addr) (cq : Nat) (ask : List Int) : Prop :=
  At W A0 c0 F A1 c1 H A2 c2 C ∧ W.heap[g]? = some (.cells #[.slice A0 F.length c0, .slice A1 H.length c1, .slice A2 C.length c2] 55 (0, 0)) ∧ Ro W Aq cq ask ∧ Below w.heap.size w W
theorem St.below (h : St w W g A0 c0 F A1 c1 H A2 c2 C Aq cq ask) (hb : Below W.heap.size W W2) : St w W2 g A0 c0 F A1 c1 H A2 c2 C Aq cq ask :=
  ⟨h.1.below hb, blk_below h.2.1 hb, h.2.2.1.below hb, below_step h.2.2.2 hb⟩
theorem St.acc (h : St w W g A0 c0 F A1 c1 H A2 c2 C Aq cq ask) : At W A0 c0 F A1 c1 H A2 c2 C := h.1
theorem St.asks (h : St w W g A0 c0 F A1 c1 H A2 c2 C Aq cq ask) : Ro W Aq cq ask := h.2.2.1
theorem St.bel (h : St w W g A0 c0 F A1 c1 H A2 c2 C Aq cq ask) : Below w.heap.size w W := h.2.2.2
theorem St.cells (h : St w W g A0 c0 F A1 c1 H A2 c2 C Aq cq ask) : W.cell? ⟨g, 0, none⟩ = some (.slice A0 F.length c0) ∧ W.cell? ⟨g, 1, none⟩ = some (.slice A1 H.length c1) ∧ W.cell? ⟨g, 2, none⟩ = some (.slice A2 C.length c2) :=
  claim_Grants.box3 h.2.1
def oo (F : List Int) (H C : List (List Int)) : List Int × Bool := if chk F H C = 0 then outO H.length (ord F H C) else ([], false)
theorem cChk (h : At W A0 c0 F A1 c1 H A2 c2 C) : Calls Try.prog 24 #[.agg #[.slice A0 F.length c0, .slice A1 H.length c1, .slice A2 C.length c2]] W fun e W2 => e = .returned (.int .i64 (chk F H C)) ∧ Below W.heap.size W W2 := by
  obtain ⟨k, hk⟩ := (rcheck_f F H C).get
  exact logjamref25_Check.calls k _ _ F _ _ H _ _ C _ W h.1.1 h.1.2 h.2.1.1 h.2.1.2 h.2.2.1 h.2.2.2 hk
/-- own(a): its rows, each its own: Free's, Held's (elder than n), Claim's (n and younger). -/
def Mu (W : World) (base n : Nat) (B0 : Option Addr) (d0 : Nat) (F : List Int) (B1 : Option Addr) (d1 : Nat) (H : List (List Int)) (B2 : Option Addr) (d2 : Nat) (C : List (List Int)) : Prop :=
  Kd.R (Kd.int .i64) 3 W base (fun _ => True) (.slice B0 F.length d0) F ∧ Kd.S (Kd.slice 3 (Kd.int .i64)) 23 W base (fun k => some k ≠ (Value.slice B0 F.length d0).ownBlock ∧ k < n) (.slice B1 H.length d1) H ∧
  Kd.S (Kd.slice 3 (Kd.int .i64)) 23 W n (fun k => some k ≠ (Value.slice B0 F.length d0).ownBlock) (.slice B2 C.length d2) C
theorem Mu.at {base n : Nat} {B0 B1 B2 : Option Addr} {d0 d1 d2 : Nat} (h : Mu W base n B0 d0 F B1 d1 H B2 d2 C) : At W B0 d0 F B1 d1 H B2 d2 C := by
  obtain ⟨h0, h1, h2⟩ := h
  have q0 := Kd.R_reads' h0
  have q1 := Kd.S_reads' h1
  have q2 := Kd.S_reads' h2
  exact ⟨⟨q0.2.2, q0.2.1⟩, ⟨q1.2.2, q1.2.1⟩, ⟨q2.2.2, q2.2.1⟩⟩
theorem Mu.below {base n : Nat} {B0 B1 B2 : Option Addr} {d0 d1 d2 : Nat} (h : Mu W base n B0 d0 F B1 d1 H B2 d2 C) (hb : Below W.heap.size W W2) : Mu W2 base n B0 d0 F B1 d1 H B2 d2 C :=
  ⟨Kd.R_below h.1 hb, Kd.S_below h.2.1 hb, Kd.S_below h.2.2 hb⟩
theorem cOwnM (hF : F.length ≤ 40) (eH : rv H = H) (eC : rv C = C) (h : At W A0 c0 F A1 c1 H A2 c2 C) : Calls Try.prog 26 #[.agg #[.slice A0 F.length c0, .slice A1 H.length c1, .slice A2 C.length c2]] W fun e W2 => ∃ n B0 d0 B1 d1 B2 d2, e = .returned (.agg #[.slice B0 F.length d0, .slice B1 H.length d1, .slice B2 C.length d2]) ∧ Aside0 (Mu W2 W.heap.size n B0 d0 F B1 d1 H B2 d2 C) ∧ Below W.heap.size W W2 := by
  have ho := own_f F H C hF
  rw [eH, eC] at ho
  obtain ⟨k, hk⟩ := ho.get
  refine (logjamlaw25_own.calls k _ _ F _ _ H _ _ C F H C W h.1.1 h.1.2 h.2.1.1 h.2.1.2 h.2.2.1 h.2.2.2 hk).mono fun e W2 ⟨n, v0, v1, v2, he, hR, hS1, hS2, hb⟩ => ?_
  obtain ⟨B0, d0, rfl, a1, a2⟩ := Kd.R_reads hR
  obtain ⟨B1, d1, rfl⟩ := Kd.S_slice hS1
  obtain ⟨B2, d2, rfl⟩ := Kd.S_slice hS2
  exact ⟨n, B0, d0, B1, d1, B2, d2, he, ⟨hR, hS1, hS2⟩, hb⟩
theorem cOwn (hF : F.length ≤ 40) (eH : rv H = H) (eC : rv C = C) (h : At W A0 c0 F A1 c1 H A2 c2 C) : Calls Try.prog 26 #[.agg #[.slice A0 F.length c0, .slice A1 H.length c1, .slice A2 C.length c2]] W fun e W2 => ∃ B0 d0 B1 d1 B2 d2, e = .returned (.agg #[.slice B0 F.length d0, .slice B1 H.length d1, .slice B2 C.length d2]) ∧ Aside0 (At W2 B0 d0 F B1 d1 H B2 d2 C) ∧ Below W.heap.size W W2 :=
  (cOwnM hF eH eC h).mono fun e W2 ⟨n, B0, d0, B1, d1, B2, d2, he, hm, hb⟩ => ⟨B0, d0, B1, d1, B2, d2, he, ⟨hm.out.at⟩, hb⟩
theorem slice_inj {A B : Option Addr} {n m c d : Nat} (h : Value.slice A n c = .slice B m d) : A = B ∧ n = m ∧ c = d := by injection h; exact ⟨by assumption, by assumption, by assumption⟩
/-- What stands where b is changed, and that what was changed is what reads. -/
theorem Mu.change {W0 : World} {base n : Nat} {B0 B1 B2 : Option Addr} {d0 d1 d2 : Nat} (h : Mu W0 base n B0 d0 F B1 d1 H B2 d2 C) (hb : Below W0.heap.size W0 W) {i q : Nat} (hi : i < H.length) (hq : q < F.length) (hr : q < (rd_L1 H (i : Int)).length) :
    ∃ g0 g1 gr dr, B0 = some ⟨g0, 0, none⟩ ∧ B1 = some ⟨g1, 0, none⟩ ∧ W.cell? ⟨g0, q, none⟩ = some (.int .i64 (rd F (q : Int))) ∧ W.frozen? ⟨g0, q, none⟩ = false ∧ W.cell? ⟨g1, i, none⟩ = some (.slice (some ⟨gr, 0, none⟩) (rd_L1 H (i : Int)).length dr) ∧
      W.cell? ⟨gr, q, none⟩ = some (.int .i64 (hh H i q)) ∧ W.frozen? ⟨gr, q, none⟩ = false ∧ (base ≤ g0 ∧ g0 < W0.heap.size) ∧ (base ≤ gr ∧ gr < W0.heap.size) ∧ g1 < W0.heap.size ∧ gr ≠ g0 ∧ g1 ≠ g0 ∧ g1 ≠ gr ∧
      ∀ x y : Int, At ((W.setCell ⟨g0, q, none⟩ (.int .i64 x)).setCell ⟨gr, q, none⟩ (.int .i64 y)) B0 d0 (F.set q x) B1 d1 (H.set i ((rd_L1 H (i : Int)).set q y)) B2 d2 C := by
  obtain ⟨h0, h1, h2⟩ := h
  obtain ⟨g0, rfl⟩ : ∃ g, B0 = some ⟨g, 0, none⟩ := by
    obtain ⟨_, inner, ho, hr⟩ := h0
    rcases ho.2 with ⟨hv, hz⟩ | ⟨g, cap', cur, hv, _⟩
    · have := (slice_inj hv).2.1
      omega
    · exact ⟨g, (slice_inj hv).1⟩
  obtain ⟨g1, rfl⟩ : ∃ g, B1 = some ⟨g, 0, none⟩ := by
    obtain ⟨_, inner, ho, hr⟩ := Kd.S_R h1
    rcases ho.2 with ⟨hv, hz⟩ | ⟨g, cap', cur, hv, _⟩
    · have := (slice_inj hv).2.1
      omega
    · exact ⟨g, (slice_inj hv).1⟩
  have s0 := Kd.R_lt h0 g0 (by simp [Value.ownBlock])
  have s1 := Kd.S_lt h1 g1 (by simp [Value.ownBlock])
  have s2 := Kd.R_base h0 g0 (by simp [Value.ownBlock])
  have hne : g1 ≠ g0 := fun e => ((Kd.S_R h1).1 g1 (by simp [Value.ownBlock])).1 (by simp [Value.ownBlock, e])
  have t0 : Kd.R (Kd.int .i64) 3 W0 base (fun k => k = g0) (.slice (some ⟨g0, 0, none⟩) F.length d0) F := Kd.R_mono (Kd.R_tight rfl h0) (fun k hk => by simpa [Value.ownBlock] using hk)
  obtain ⟨oki, c, hcl, hM, hcc, hoki, hH⟩ := Kd.S_lend (Kd.S_below (Kd.S_bound h1) hb) ([] : List Int) (i : Int) (by omega) (by omega)
  obtain ⟨v, rfl, hv⟩ := hM
  rw [Int.toNat_natCast] at hv hcc
  have e1 : H.getD i [] = rd_L1 H (i : Int) := by simp [rd_L1]
  rw [e1] at hv
  obtain ⟨Br, dr, rfl, hrl, _⟩ := Kd.R_reads hv
  obtain ⟨gr, rfl⟩ : ∃ g, Br = some ⟨g, 0, none⟩ := by
    obtain ⟨_, inner, ho, hr⟩ := hv
    rcases ho.2 with ⟨hv, hz⟩ | ⟨g, cap', cur, hv, _⟩
    · have := (slice_inj hv).2.1
      omega
    · exact ⟨g, (slice_inj hv).1⟩
  have o1 := hoki gr (hv.1 gr (by simp [Value.ownBlock]))
  have hgr : gr ≠ g0 := fun e => o1.1.1.1 (by simp [Value.ownBlock, e])
  have t1 := Kd.R_mono (Kd.R_tight rfl hv) (ok' := fun k => k = gr) (fun k hk => by simpa [Value.ownBlock] using hk)
  have r0 := Kd.R_celln (0 : Int) (Kd.R_below t0 hb) (q : Int) (by omega) (by omega)
  have r1 := Kd.R_celln (0 : Int) t1 (q : Int) (by omega) (by omega)
  rw [Int.toNat_natCast] at r0 r1
  refine ⟨g0, g1, gr, dr, rfl, rfl, r0.1, r0.2, (by have q := hcc 0 _ rfl; rwa [show i * (Kd.slice 3 (Kd.int .i64)).sz + 0 = i from Nat.mul_one i] at q), r1.1, r1.2, ⟨s2, s0⟩, ⟨o1.1.2.1, o1.1.2.2.1⟩, s1, hgr, hne, fun e => o1.2 e.symm, fun x y => ?_⟩
  have p0 := Kd.R_putn (Kd.R_below t0 hb) (q : Int) x
  rw [Int.toNat_natCast] at p0
  have p0' := Kd.R_far (p := ⟨gr, q, none⟩) p0 (fun k hk => by rw [hk]; exact fun e => hgr e.symm) (.int .i64 y)
  have p1 := Kd.R_putn (Kd.R_far (p := ⟨g0, q, none⟩) t1 (fun k hk => by rw [hk]; exact hgr) (.int .i64 x)) (q : Int) y
  rw [Int.toNat_natCast] at p1
  have hH2 := Kd.H_far (p := ⟨g0, q, none⟩) hH (fun k hk e => hk.1.1 (by simp [Value.ownBlock, e])) (.int .i64 x)
  have hH3 : Kd.H (Kd.slice 3 (Kd.int .i64)) 23 ((W.setCell ⟨g0, q, none⟩ (.int .i64 x)).setCell ⟨gr, q, none⟩ (.int .i64 y)) _ _ _ _ _ _ _ := Kd.H_step hH2 (fun k _ hk _ => Below.heap_setCell _ ⟨gr, q, none⟩ _ k (fun e => hk (by rw [e]; exact hv.1 gr (by simp [Value.ownBlock]))))
  have S1 := Kd.H_back hH3 (x' := (rd_L1 H (i : Int)).set q y) (okp := fun k => k = gr) ⟨_, rfl, p1⟩ (fun k hk => by rw [hk]; exact hv.1 gr (by simp [Value.ownBlock]))
  rw [Int.toNat_natCast] at S1
  have S2 := Kd.S_far (p := ⟨gr, q, none⟩) (Kd.S_far (p := ⟨g0, q, none⟩) (Kd.S_below (Kd.S_bound h2) hb) (fun k hk e => hk.1 (by simp [Value.ownBlock, e])) (.int .i64 x)) (fun k hk e => by have h3 := hk.2.1; have h4 := o1.1.1.2; have h5 : k = gr := e; omega) (.int .i64 y)
  have q0 := Kd.R_reads' p0'
  have q1 := Kd.S_reads' S1
  have q2 := Kd.S_reads' S2
  refine ⟨⟨?_, ?_⟩, ⟨?_, ?_⟩, ⟨q2.2.2, q2.2.1⟩⟩
  · exact q0.2.2
  · rw [List.length_set]; exact q0.2.1
  · exact q1.2.2
  · rw [List.length_set]; exact q1.2.1
theorem cSafe (h : At W A0 c0 F A1 c1 H A2 c2 C) : Calls Try.prog 28 #[.agg #[.slice A0 F.length c0, .slice A1 H.length c1, .slice A2 C.length c2]] W fun e W2 => e = .returned (.bool (oo F H C).2) ∧ Below W.heap.size W W2 := by
  have hs : Evt (fun k => claim_Safe.f k F H C) (oo F H C).2 := Evt.of (g := fun k => (claim_Order.f k F H C).bind fun b => some b.2) (fun k => rfl) (Evt.bind (g := fun _ b => some b.2) (Order_f F H C) (Evt.const fun _ => rfl))
  obtain ⟨k, hk⟩ := hs.get
  exact claim_Safe.calls k _ _ F _ _ H _ _ C _ W h.1.1 h.1.2 h.2.1.1 h.2.1.2 h.2.2.1 h.2.2.2 hk
theorem cGrants (h : At W A0 c0 F A1 c1 H A2 c2 C) (who : Int) (hq : Ro W Aq cq ask) (hl : ask.length < 4611686018427387904) : Calls Try.prog 30 #[.agg #[.slice A0 F.length c0, .slice A1 H.length c1, .slice A2 C.length c2], .int .i64 who, .slice Aq ask.length cq] W fun e W2 => e = .returned (.bool (grv F H C who ask)) ∧ Below W.heap.size W W2 := by
  obtain ⟨k, hk⟩ := (grants_f F H C who ask hl).get
  exact claim_Grants.calls k _ _ F _ _ H _ _ C who _ _ ask _ W h.1.1 h.1.2 h.2.1.1 h.2.1.2 h.2.2.1 h.2.2.2 hq.1 hq.2 hk
theorem cGiven (ok : OkA F H C) (h : At W A0 c0 F A1 c1 H A2 c2 C) (who : Int) (hq : Ro W Aq cq ask) : Calls Try.prog 34 #[.agg #[.slice A0 F.length c0, .slice A1 H.length c1, .slice A2 C.length c2], .int .i64 who, .slice Aq ask.length cq] W fun e W2 => ∃ B0 d0 B1 d1 B2 d2, e = .returned (.tuple #[.agg #[.slice B0 (giv F H C who ask).1.length d0, .slice B1 (giv F H C who ask).2.1.length d1, .slice B2 (giv F H C who ask).2.2.1.length d2], .bool (giv F H C who ask).2.2.2]) ∧ Aside0 (At W2 B0 d0 (giv F H C who ask).1 B1 d1 (giv F H C who ask).2.1 B2 d2 (giv F H C who ask).2.2.1) ∧ Below W.heap.size W W2 := by
  obtain ⟨k, hk⟩ := (given_f ok who ask).get
  refine (logjamref25_Given.calls k (fun k => k < W.heap.size) _ _ F (fun k => k < W.heap.size) _ _ H (fun k => k < W.heap.size) _ _ C who _ _ ask (giv F H C who ask).1 (giv F H C who ask).2.1 (giv F H C who ask).2.2.1 (giv F H C who ask).2.2.2 W (Kd.V_mk h.1.2 (Kd.C_F (Kd.heap_int .i64) h.1.1)) (Kd.V_mk h.2.1.2 (Kd.C_F (Kd.heap_slice 3 (Kd.heap_int .i64)) h.2.1.1)) (Kd.V_mk h.2.2.2 (Kd.C_F (Kd.heap_slice 3 (Kd.heap_int .i64)) h.2.2.1)) hq.1 hq.2 hk).mono fun e W2 ⟨v0, v1, v2, he, h0, h1, h2, hb⟩ => ?_
  obtain ⟨B0, d0, rfl⟩ := Kd.V_slice h0
  obtain ⟨B1, d1, rfl⟩ := Kd.V_slice h1
  obtain ⟨B2, d2, rfl⟩ := Kd.V_slice h2
  have q0 := Kd.V_reads' h0
  have q1 := Kd.V_reads' h1
  have q2 := Kd.V_reads' h2
  exact ⟨B0, d0, B1, d1, B2, d2, he, ⟨⟨q0.2.2, q0.2.1⟩, ⟨q1.2.2, q1.2.1⟩, ⟨q2.2.2, q2.2.1⟩⟩, hb⟩
theorem cLives : Calls Try.prog 31 #[] W fun e W2 => e = .returned (.bool true) ∧ Below W.heap.size W W2 := by
  obtain ⟨k, hk⟩ := lives_f.get
  exact logjamlaw25_lives.calls k true W hk
theorem cFew (h : At w A0 c0 F A1 c1 H A2 c2 C) (hw : Below w.heap.size w W) : Calls Try.prog 23 #[.agg #[.slice A0 F.length c0, .slice A1 H.length c1, .slice A2 C.length c2]] W fun e W2 => ∃ F' H' C' B0 d0 B1 d1 B2 d2, e = .returned (.agg #[.slice B0 F'.length d0, .slice B1 H'.length d1, .slice B2 C'.length d2]) ∧ (F'.length ≤ 40 ∧ rv H' = H' ∧ rv C' = C') ∧ Aside0 (∀ W3 : World, (∀ k, k < w.heap.size ∨ W.heap.size ≤ k → W3.heap[k]? = W2.heap[k]?) → At W3 B0 d0 F' B1 d1 H' B2 d2 C') ∧ Below W.heap.size W W2 := by
  obtain ⟨k, hk⟩ := (few_f F H C).get
  refine (logjamlaw25_few.calls k (fun k => k < w.heap.size) _ _ F _ _ H _ _ C (F.take 40) (rv H) (rv C) W (Kd.V_mk h.1.2 (Kd.F_step (Kd.C_F (Kd.heap_int .i64) h.1.1) (fun k hk _ => hw.block k hk))) (Kd.C_below h.2.1.1 hw) h.2.1.2 (Kd.C_below h.2.2.1 hw) h.2.2.2 hk).mono fun e W2 ⟨v0, v1, v2, he, h0, hS1, hS2, hb⟩ => ?_
  obtain ⟨B0, d0, rfl⟩ := Kd.V_slice h0
  obtain ⟨B1, d1, rfl⟩ := Kd.S_slice hS1
  obtain ⟨B2, d2, rfl⟩ := Kd.S_slice hS2
  refine ⟨F.take 40, rv H, rv C, B0, d0, B1, d1, B2, d2, he, ⟨by simp; omega, rv_rv H, rv_rv C⟩, ⟨fun W3 hs => ?_⟩, hb⟩
  have q0 := Kd.V_reads' h0
  have f0 := Kd.F_now (Kd.F_step (Kd.V_F h0) (fun k hk _ => hs k hk.1))
  have q1 := Kd.S_reads' (Kd.S_step hS1 (fun k hk _ => hs k (.inr hk.1)))
  have q2 := Kd.S_reads' (Kd.S_step hS2 (fun k hk _ => hs k (.inr hk.1)))
  exact ⟨⟨f0, q0.2.1⟩, ⟨q1.2.2, q1.2.1⟩, ⟨q2.2.2, q2.2.1⟩⟩
/-- The account stands in a new block. -/
theorem st_new {w4 : World} {N : Nat} (ha : ∀ W3 : World, (∀ k, k < w.heap.size ∨ N ≤ k → W3.heap[k]? = w4.heap[k]?) → At W3 A0 c0 F A1 c1 H A2 c2 C) (hb : Below w.heap.size w w4) (hq : Ro w Aq cq ask) :
    St w (w4.alloc (.cells #[.slice A0 F.length c0, .slice A1 H.length c1, .slice A2 C.length c2] 55 (0, 0))) w4.heap.size A0 c0 F A1 c1 H A2 c2 C Aq cq ask :=
  ⟨(ha w4 fun _ _ => rfl).below (below_alloc (Below.refl _ _) _), blk_new _ _, hq.below (below_alloc hb _), below_alloc hb _⟩
/-- The account stands in a block that was there ahead of it. -/
theorem st_put {w4 : World} {N : Nat} (ha : ∀ W3 : World, (∀ k, k < w.heap.size ∨ N ≤ k → W3.heap[k]? = w4.heap[k]?) → At W3 A0 c0 F A1 c1 H A2 c2 C) (hb : Below w.heap.size w w4) (hq : Ro w Aq cq ask)
    (h1 : w.heap.size ≤ g) (h2 : g < N) (hk : w4.heap[g]? = some (.cells #[.slice none 0 0, .slice none 0 0, .slice none 0 0] 55 (0, 0))) :
    St w (((w4.setCell ⟨g, 0, none⟩ (.slice A0 F.length c0)).setCell ⟨g, 1, none⟩ (.slice A1 H.length c1)).setCell ⟨g, 2, none⟩ (.slice A2 C.length c2)) g A0 c0 F A1 c1 H A2 c2 C Aq cq ask := by
  have hB : Below w.heap.size w (((w4.setCell ⟨g, 0, none⟩ (.slice A0 F.length c0)).setCell ⟨g, 1, none⟩ (.slice A1 H.length c1)).setCell ⟨g, 2, none⟩ (.slice A2 C.length c2)) := below_set (below_set (below_set hb h1) h1) h1
  refine ⟨ha _ (fun k hk => ?_), blk_put (blk_put (blk_put hk 0 _ rfl) 1 _ rfl) 2 _ rfl, hq.below hB, hB⟩
  have hne : k ≠ g := by rcases hk with hk | hk <;> omega
  rw [Below.heap_setCell _ ⟨g, 2, none⟩ _ k hne, Below.heap_setCell _ ⟨g, 1, none⟩ _ k hne, Below.heap_setCell _ ⟨g, 0, none⟩ _ k hne]
theorem oo_safe (c : chk F H C = 0) : (oo F H C).2 = true ↔ (ord F H C).length = H.length := by
  unfold oo
  rw [if_pos c]
  unfold outO
  by_cases e : (ord F H C).length = H.length
  · rw [if_pos e]; exact ⟨fun _ => e, fun _ => rfl⟩
  · rw [if_neg e]; exact ⟨fun h => (by cases h), fun h => absurd h e⟩
theorem grv_true {i : Nat} (h : grv F H C (i : Int) ask = true) : May F H C (i : Int) ask ∧ (ord (gF F ask) (gH F H i ask) C).length = H.length := by
  unfold grv at h
  split at h
  · rename_i hc
    rw [Int.toNat_natCast] at h
    exact ⟨hc.2, of_decide_eq_true h⟩
  · cases h
theorem giv_true {i : Nat} (h : May F H C (i : Int) ask) : giv F H C (i : Int) ask = (gF F ask, gH F H i ask, C, true) := by
  unfold giv
  rw [if_pos h, Int.toNat_natCast]
theorem At.same {W W2 : World} {F' : List Int} {H' : List (List Int)} (h : At W A0 c0 F' A1 c1 H' A2 c2 C) (hb : Below W.heap.size W W2) : At W2 A0 c0 F' A1 c1 H' A2 c2 C := h.below hb
/-- An empty row of one's own. -/
theorem ownE {base g : Nat} (h : W.heap[g]? = some (.cells #[] 3 (0, 0))) (hb : base ≤ g) : W.ownsRow base 3 1 (.slice (some ⟨g, 0, none⟩) 0 0) ([] : List Int).length (nums .i64 ([] : List Int)) :=
  ⟨rfl, .inr ⟨g, 0, #[], rfl, hb, h, Nat.le_refl _, by decide, rfl, rfl⟩⟩
theorem Ro_of_own {base : Nat} {v : Value} {l : List Int} (h : W.ownsRow base 3 1 v l.length (nums .i64 l)) : ∃ A c, v = .slice A l.length c ∧ Ro W A c l := by
  have hR : Kd.R (Kd.int .i64) 3 W base (fun _ => True) v l := Kd.R_of_own h (fun _ _ => trivial)
  obtain ⟨A, c, e, h1, h2⟩ := Kd.R_reads hR
  exact ⟨A, c, e, h2, h1⟩
theorem Ro.cell {A : Option Addr} {c : Nat} {l : List Int} (h : Ro W A c l) (hp : 0 < l.length) : ∃ ad, A = some ad ∧ ∀ j u, (nums .i64 l)[j]? = some u → W.cell? (ad.add j) = some u := by
  have hr : ReadsInt W .i64 A l.length l := Kd.reads_of_C h.1
  obtain ⟨ad, e, _⟩ := hr.2.2 hp
  refine ⟨ad, e, fun j u hu => ?_⟩
  have hj : j < l.length := by
    rcases Nat.lt_or_ge j l.length with q | q
    · exact q
    · simp [nums, List.getElem?_eq_none q] at hu
  obtain ⟨ad', h', hc⟩ := hr.2.2 hp
  rw [e] at h'
  injection h' with h'
  subst h'
  have := hc j (by omega)
  simp [nums, List.getElem?_eq_getElem hj] at hu
  subst hu
  rw [this]
  simp [List.getD_eq_getElem?_getD, List.getElem?_eq_getElem hj]
/-- append([]int{}, l...): a row of its own; what stood stands. -/
theorem run_app0 {g : Nat} {A : Option Addr} {c : Nat} {l : List Int} (ty : TypeId) (h : Ro W A c l) (hl : l.length * 8 ≤ 140737488351232) :
    ∃ B d w1, (Builtin.append_ #[23, 23] ty #[.slice (some ⟨g, 0, none⟩) 0 0, .slice A l.length c]).run Try.prog W = .ok (.slice B l.length d) w1 ∧ Ro w1 B d l ∧ Below W.heap.size W w1 := by
  obtain ⟨i0, hi, hz0, hz1, hz2⟩ := info_parts info3
  rcases Nat.eq_zero_or_pos l.length with h0 | h0
  · obtain rfl : l = [] := List.eq_nil_of_length_eq_zero h0
    refine ⟨some ⟨g, 0, none⟩, 0, W, ?_, ⟨⟨rfl, by simp, fun h => absurd h (Nat.lt_irrefl 0)⟩, Nat.le_refl _⟩, Below.refl _ _⟩
    cases A with
    | none => simp [Builtin.append_, run_underlying Try.underlying23, sizeOf, typeInfo, hi, Builtin.lenOf, Builtin.firstCells, storeCells]
    | some ad => simp [Builtin.append_, run_underlying Try.underlying23, sizeOf, typeInfo, hi, Builtin.lenOf, Builtin.firstCells, storeCells, loadCells, loadCellsFrom]
  · obtain ⟨ad, rfl, hc⟩ := h.cell h0
    obtain ⟨v1, w1, hrun, hown, hg⟩ := run_append_arg_grows (P := Try.prog) W 23 ty 3 i0 (.int .i64 0) 1 8 Try.underlying23 hi hz0 hz1 hz2 rfl (by decide) ⟨g, 0, none⟩ 0 0 [] rfl (fun j u hu => by simp at hu) ad l.length c (nums .i64 l) (by simp [nums]) hc (by omega) (by simp only [maxLen]; omega) (by omega)
    have hown2 : w1.ownsRow W.heap.size 3 1 v1 l.length (nums .i64 l) := by simpa using hown
    obtain ⟨B, d, rfl, hr⟩ := Ro_of_own hown2
    exact ⟨B, d, w1, hrun, hr, Below.grown (Below.refl _ _) hg (Nat.le_refl _) (fun j hj => by cases hj)⟩
theorem wp_app0 {o : Oper} {a : Act} {Q : Exit → Act → World → Prop} {K : Act → World → Prop} {g : Nat} {A : Option Addr} {c : Nat} {l : List Int} (s x : Operand)
    (ho : o.op = .call { callee := .builtin .append, args := #[s, x], argTypes := #[23, 23] }) (hs : a.eval s = .slice (some ⟨g, 0, none⟩) 0 0) (hx : a.eval x = .slice A l.length c) (h : Ro W A c l) (hl : l.length * 8 ≤ 140737488351232)
    (hK : ∀ B d w1, Ro w1 B d l → Below W.heap.size W w1 → K (a.put o.dst (.slice B l.length d)) w1) : Oper.wp Try.prog o a W K Q := by
  obtain ⟨B, d, w1, hr, h1, h2⟩ := run_app0 (g := g) o.type h hl
  unfold Oper.wp execOp
  simp only [ho, resolve, invoke, builtin, Sem.run_bind, Sem.run_pure, Result.andThen_ok, List.map_toArray, List.map_cons, List.map_nil, hs, hx, hr]
  exact hK B d w1 h1 h2
theorem list_app0 {ops : Array Oper} {rest : List Oper} {o : Oper} {a : Act} {Q : Exit → Act → World → Prop} {g : Nat} {A : Option Addr} {c : Nat} {l : List Int} (hgd : o.guard = none) (s x : Operand)
    (ho : o.op = .call { callee := .builtin .append, args := #[s, x], argTypes := #[23, 23] }) (hs : a.eval s = .slice (some ⟨g, 0, none⟩) 0 0) (hx : a.eval x = .slice A l.length c) (h : Ro W A c l) (hl : l.length * 8 ≤ 140737488351232)
    (hK : ∀ B d w1, Ro w1 B d l → Below W.heap.size W w1 → wpList Try.prog ops Q rest (a.put o.dst (.slice B l.length d)) w1) : wpList Try.prog ops Q (o :: rest) a W := by
  obtain ⟨B, d, w1, hr, h1, h2⟩ := run_app0 (g := g) o.type h hl
  refine Kd.event_run hgd ?_ (hK B d w1 h1 h2)
  unfold execOp
  simp only [ho, resolve, invoke, builtin, Sem.run_bind, Sem.run_pure, Result.andThen_ok, List.map_toArray, List.map_cons, List.map_nil, hs, hx, hr]
end
end Go.Proofs.Ytlggjacghemakaa.claimBackW
