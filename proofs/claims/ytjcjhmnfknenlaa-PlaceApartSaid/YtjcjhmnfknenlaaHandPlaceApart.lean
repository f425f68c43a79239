/- PlaceApart: the walk by hand. Conditions: none. -/
import Derived.Test.YtjcjhmnfknenlaaPlA3
import Derived.Test.YtjcjhmnfknenlaaOkPlaceApart
namespace Go.Proofs.Ytjcjhmnfknenlaa.placeApartW
open Go.RowKit Go.Proofs.Ytjcjhmnfknenlaa.PPlaceApart Go.Proofs.YtjcjhmnfknenlaaW.PrintWords Go.Proofs.YtjcjhmnfknenlaaW.PrintLast Go.Proofs.YtjcjhmnfknenlaaW.PrintMore
open Px
open Pl (Pa Inv doA WB OkW A0 inv0 new_any do_any lives_any pclone_any nil_on nil_where nil_ready nil_fetch nil_put nil_leave nil_drop nil_work nil_own nil_global nil_workers nil_clone nil_all)
set_option linter.unusedVariables false
set_option linter.unusedSimpArgs false

theorem rd28 {l : List S28} {i : Nat} (hi : i < l.length) : rd_T28 l (i : Int) ∈ l := by
  unfold rd_T28
  rw [Int.toNat_natCast, List.getD_eq_getElem?_getD, List.getElem?_eq_getElem hi]
  exact List.getElem_mem hi
theorem cellB {W w2 : World} {a : Addr} {v : Value} (hb : Below W.heap.size W w2) (h : W.cell? a = some v) : w2.cell? a = some v := (hb.cell (World.block_lt_of_cell? _ _ h)).trans h
theorem sd_new {w w1 w2 w3 : World} {gp gx n : Nat} {q0 q1 q2 q3 : Value} {qs : Nat → Value} (ha : ∃ bl cl ex r q, Pl.At (fun k => w.heap.size ≤ k) w1 gp (A0 n) bl cl ex r q) (h1 : Below w.heap.size w w1) (h2 : Below w1.heap.size w1 w2) (hp : Pg (fun k => w1.heap.size ≤ k) w2 (A0 n) q0 q1 q2 q3 qs) (h3 : Below w2.heap.size w2 w3) (hg : gx = w2.heap.size)
    (hx : w3.heap[gx]? = some (.cells #[.slice none 0 0, .slice none 0 0, .slice none 0 0, .slice none 0 0] 41 (0, 0))) : Sd (fun k => w.heap.size ≤ k ∧ k < w1.heap.size) (fun k => w1.heap.size ≤ k) w (w3.setRow gx #[q0, q1, q2, q3]) gp gx (A0 n) (A0 n) q0 q1 q2 q3 qs := by
  have hpl : Pl.Pl (fun k => w.heap.size ≤ k ∧ k < w1.heap.size) w1 gp (A0 n) := pl_cut ha
  have e1 := h1.size
  have e2 := h2.size
  have e3 := h3.size
  have hb : Below w.heap.size w w3 := below_step h1 (below_step h2 h3)
  exact ⟨pl_kept (pl_below hpl (below_step h2 h3)) (chg_row _ _ _) (fun k hk hs => by have := hs.2; omega), (hp.below h3).boxr hx, fun k hk => ⟨hk.1, by have := hk.2; simp [World.setRow]; omega, by have := hk.2; omega, by have := hk.2; omega⟩, setRow_heap _ _ _ _ _ _ hx, by omega, below_row41 hb (by omega) _⟩
set_option maxHeartbeats 32000000 in
set_option maxRecDepth 100000 in
theorem walk (a0 : Int) (A1 : Option Addr) (c1 : Nat) (l1 : List (S28)) (A2 : Option Addr) (c2 : Nat) (l2 : List (S28)) (w : World) (hr1 : Kd.C k28 w A1 l1.length l1) (hc1 : l1.length ≤ c1) (hr2 : Kd.C k28 w A2 l2.length l2) (hc2 : l2.length ≤ c2) (w0 : (fun x => (Lit.int .i64 x).wf = true) a0) (w1 : (fun l => (∀ a ∈ l, (ok28) a) ∧ l.length * 24 ≤ 140737488351232) l1) (w2 : (fun l => (∀ a ∈ l, (ok28) a) ∧ l.length * 24 ≤ 140737488351232) l2) :
    Calls Try.prog 6 #[.int .i64 a0, .slice A1 l1.length c1, .slice A2 l2.length c2] w fun e w' => e = .returned (.bool true) ∧ Below w.heap.size w w' := by
  have HRl1 := Aside0.mk hr1
  have HOKl1 := Aside0.mk (show ∀ a ∈ l1, ok28 a from w1.1)
  have HRl2 := Aside0.mk hr2
  have HOKl2 := Aside0.mk (show ∀ a ∈ l2, ok28 a from w2.1)
  have hu28 := Try.underlying28
  have hu41 := Try.underlying41
  clear hr1 hc1 w0 w1 hr2 hc2 w2
  obtain ⟨n, hn⟩ : ∃ n, n = l1.length := ⟨_, rfl⟩
  rw [← hn] at HRl1 ⊢
  have HNl1 := Aside0.mk hn
  clear hn
  obtain ⟨n2, hn⟩ : ∃ n, n = l2.length := ⟨_, rfl⟩
  rw [← hn] at HRl2 ⊢
  have HNl2 := Aside0.mk hn
  clear hn
  obtain ⟨nw, hnw⟩ : ∃ n : Nat, (n : Int) = min (max a0 1) 8 := ⟨(min (max a0 1) 8).toNat, by omega⟩
  have HNW := Aside0.mk hnw
  have HNB := Aside0.mk (show 0 < nw ∧ nw ≤ 8 from by omega)
  clear hnw
  go_enter Try.func6, Try.ntmps6
  go_upto_region 2 with (first
    | (go_at_call 7; (refine (new_any w a0 nw HNW.out).mono ?_); rintro e w1 ⟨gp, rfl, ha, hb⟩; have HA := Aside0.mk ha; have B1 := Aside0.mk hb; clear ha hb)
    | (go_at_call 15; (refine (ref_new w1 (R := fun k => w1.heap.size ≤ k) (fun _ h => h) a0 nw HNW.out).mono ?_); rintro e w2 ⟨u0, u1, u2, u3, vs, rfl, hb, hp⟩; have B2 := Aside0.mk hb; have P2 := Aside0.mk hp; clear hb hp)
    | ((with_reducible refine gate_dst (N := 8) rfl ?_); refine box_event ?hg (N := 8) ?hd (cs := #[.slice none 0 0, .slice none 0 0, .slice none 0 0, .slice none 0 0]) (t := 41) ?hr ?_; (case hd => rfl); (case hg => rfl); (case hr => first | (go_simp; done) | (go_simp; rfl)); intro gx hg w3 hbox hb; have B3 := Aside0.mk hb; have G3 := Aside0.mk hg; have X3 := Aside0.mk hbox; clear hbox hb hg)
    | (refine wpList_store_row rfl 41 (.tmp 8) (.tmp 27) rfl gx _ rfl rfl 41 _ X3.out info41 rfl P2.out.one ?_))
  have SD0 := Aside0.mk (sd_new HA.out B1.out B2.out P2.out B3.out G3.out X3.out)
  clear HA B1 B2 P2 B3 G3 X3
  generalize w3.setRow gx #[u0, u1, u2, u3] = w4 at *
  have I0 := Aside0.mk (show Inv (A0 nw) from inv0 (by have := HNB.out; omega))
  have W0 := Aside0.mk (show WB 0 (A0 nw) from fun i hi => ⟨Int.le_refl _, Int.le_refl _⟩)
  go_upto_block 0 with (fail)
  rename_i K1 hK1
  have HX1 : ∀ (x9 x10 x11 x12 x24 x25 x26 x27 x28 x29 x30 x31 x32 x33 x34 x35 x36 x37 x38 x39 x40 x41 x42 x43 x44 x45 x46 x47 x48 x49 x50 x51 x52 x53 x54 : Value) (B : Pa) (S R : Nat → Prop) (u0 u1 u2 u3 : Value) (vs : Nat → Value) (wx : World), Aside0 (Sd S R w wx gp gx B B u0 u1 u2 u3 vs) → Aside0 (Inv B) → Aside0 (WB 40 B) → K1 ⟨#[.int .i64 a0, .slice A1 n c1, .slice A2 n2 c2, undef, undef, undef, .bool false, .pointer (some ⟨gp, 0, none⟩), .pointer (some ⟨gx, 0, none⟩), x9, x10, x11, x12, undef, undef, undef, undef, undef, undef, undef, undef, undef, undef, undef, x24, x25, x26, x27, x28, x29, x30, x31, x32, x33, x34, x35, x36, x37, x38, x39, x40, x41, x42, x43, x44, x45, x46, x47, x48, x49, x50, x51, x52, x53, x54, undef, undef, undef, undef, undef, undef, undef, undef, undef, undef, undef, undef, undef, undef, undef, undef, undef, undef, undef, undef, undef, undef, undef, undef, undef, undef, undef, undef, undef, undef, undef, undef, undef, undef, undef, undef, undef, undef, undef, undef, undef, undef, undef, undef, undef, undef, undef, undef, undef, undef, undef, undef, undef, undef, undef, undef, undef, undef, undef, undef, undef, undef, undef, undef, undef, undef, undef, undef, undef, undef, undef, undef, undef, undef, undef, undef, undef, undef, undef, undef, undef, undef, undef, undef, undef, undef, undef, undef, undef, undef, undef, undef, undef, undef, undef, undef, undef, undef, undef, undef, undef, undef, undef, undef, undef, undef, undef, undef, undef, undef, undef, undef, undef, undef, undef, undef, undef, undef, undef, undef, undef, undef, undef, undef, undef, undef, undef, undef, undef, undef, undef, undef, undef, undef, undef, undef, undef, undef, undef, undef, undef, undef, undef, undef, undef], []⟩ wx := by
    intro x9 x10 x11 x12 x24 x25 x26 x27 x28 x29 x30 x31 x32 x33 x34 x35 x36 x37 x38 x39 x40 x41 x42 x43 x44 x45 x46 x47 x48 x49 x50 x51 x52 x53 x54 B S R u0 u1 u2 u3 vs wx HS HIB HWB
    refine hK1 _ _ ?_
    clear hK1 SD0 I0 W0
    obtain ⟨bl, cl, ex, r, q, hat⟩ := HS.out.pl
    have HAT := Aside0.mk hat
    clear hat
    go_upto_block 2 with (go_at_call 21; (refine (pclone_any HAT.out).mono ?_); rintro e wc ⟨gc, gl, cl', ex', r', q', rfl, hat, hb⟩; have TW0 := Aside0.mk (tw_new HS.out hat hb); clear hat hb)
    rename_i K2 hK2
    clear HAT HS
    have HX2 : ∀ (x9 x10 x11 x12 x14 x24 x25 x26 x27 x28 x29 x30 x31 x32 x33 x34 x35 x36 x37 x38 x39 x40 x41 x42 x43 x44 x45 x46 x47 x48 x49 x50 x51 x52 x53 x54 x55 x56 x57 x58 x59 x60 x61 x62 x63 x64 x65 x66 x67 x68 x69 x70 x71 x72 : Value) (B : Pa) (S R : Nat → Prop) (u0 u1 u2 u3 : Value) (vs : Nat → Value) (wx : World), Aside0 (Sd S R w wx gc gx B B u0 u1 u2 u3 vs) → Aside0 (Inv B) → Aside0 (WB 40 B) → K2 ⟨#[.int .i64 a0, .slice A1 n c1, .slice A2 n2 c2, undef, undef, undef, .bool false, .pointer (some ⟨gp, 0, none⟩), .pointer (some ⟨gx, 0, none⟩), x9, x10, x11, x12, .pointer (some ⟨gc, 0, none⟩), x14, undef, undef, undef, undef, undef, undef, undef, undef, undef, x24, x25, x26, x27, x28, x29, x30, x31, x32, x33, x34, x35, x36, x37, x38, x39, x40, x41, x42, x43, x44, x45, x46, x47, x48, x49, x50, x51, x52, x53, x54, x55, x56, x57, x58, x59, x60, x61, x62, x63, x64, x65, x66, x67, x68, x69, x70, x71, x72, undef, undef, undef, undef, undef, undef, undef, undef, undef, undef, undef, undef, undef, undef, undef, undef, undef, undef, undef, undef, undef, undef, undef, undef, undef, undef, undef, undef, undef, undef, undef, undef, undef, undef, undef, undef, undef, undef, undef, undef, undef, undef, undef, undef, undef, undef, undef, undef, undef, undef, undef, undef, undef, undef, undef, undef, undef, undef, undef, undef, undef, undef, undef, undef, undef, undef, undef, undef, undef, undef, undef, undef, undef, undef, undef, undef, undef, undef, undef, undef, undef, undef, undef, undef, undef, undef, undef, undef, undef, undef, undef, undef, undef, undef, undef, undef, undef, undef, undef, undef, undef, undef, undef, undef, undef, undef, undef, undef, undef, undef, undef, undef, undef, undef, undef, undef, undef, undef, undef, undef, undef, undef, undef, undef, undef, undef, undef], []⟩ wx := by
      intro x9 x10 x11 x12 x14 x24 x25 x26 x27 x28 x29 x30 x31 x32 x33 x34 x35 x36 x37 x38 x39 x40 x41 x42 x43 x44 x45 x46 x47 x48 x49 x50 x51 x52 x53 x54 x55 x56 x57 x58 x59 x60 x61 x62 x63 x64 x65 x66 x67 x68 x69 x70 x71 x72 B S R u0 u1 u2 u3 vs wx HS HI HW
      refine hK2 _ _ ?_
      clear hK2 TW0
      go_upto_region 15 with (go_at_call 13; refine (nil_fetch _).mono ?_; rintro e wz ⟨rfl, rfl⟩)
      go_upto_region 17 with (first
        | (go_at_call 22; refine (nil_ready _).mono ?_; rintro e wz ⟨rfl, rfl⟩)
        | (go_at_call 23; refine (nil_put _).mono ?_; rintro e wz ⟨rfl, rfl⟩)
        | (go_at_call 12; refine (nil_leave _).mono ?_; rintro e wz ⟨rfl, rfl⟩)
        | (go_at_call 24; refine (nil_drop _).mono ?_; rintro e wz ⟨rfl, rfl⟩)
        | (go_at_call 25; refine (nil_work _).mono ?_; rintro e wz ⟨rfl, rfl⟩)
        | (go_at_call 11; refine (nil_on _).mono ?_; rintro e wz ⟨rfl, rfl⟩)
        | (go_at_call 19; refine (nil_own _).mono ?_; rintro e wz ⟨rfl, rfl⟩)
        | (go_at_call 18; refine (nil_global _).mono ?_; rintro e wz ⟨rfl, rfl⟩)
        | (go_at_call 20; refine (nil_where _ _).mono ?_; rintro e wz ⟨rfl, rfl⟩)
        | (go_at_call 9; refine (nil_all _).mono ?_; rintro e wz ⟨rfl, rfl⟩)
        | (go_at_call 10; refine (nil_workers _).mono ?_; rintro e wz ⟨rfl, rfl⟩)
        | (go_at_call 21; refine (nil_clone _).mono ?_; rintro e wz ⟨rfl, rfl⟩))
      have HN8 := Aside0.mk (pl_n8 HS.out.pl).2
      have x0 : wz.cell? ⟨gx, 0, none⟩ = some u0 := (blk_cell HS.out.box 0).trans rfl
      have x1 : wz.cell? ⟨gx, 1, none⟩ = some u1 := (blk_cell HS.out.box 1).trans rfl
      have x2 : wz.cell? ⟨gx, 2, none⟩ = some u2 := (blk_cell HS.out.box 2).trans rfl
      have x3 : wz.cell? ⟨gx, 3, none⟩ = some u3 := (blk_cell HS.out.box 3).trans rfl
      go_upto_block 4 with (go_at_call 16; (refine (same_any HS.out.pl HI.out HN8.out HS.out.pg 1).mono ?_); rintro e w5 ⟨rfl, hb⟩; have SD1 := Aside0.mk (HS.out.below hb); clear hb)
      clear HS x0 x1 x2 x3 HN8
      go_wp2
      go_loopg [18] n2 (fun kq v18 w' => ∃ (i : Nat) (A : Pa) (S R : Nat → Prop) (u0 u1 u2 u3 : Value) (vs : Nat → Value), v18 = .int .i64 (i : Int) ∧ Aside0 (i + kq = n2) ∧ Aside0 (i ≤ 40) ∧ Aside0 (Sd S R w w' gc gx A A u0 u1 u2 u3 vs) ∧ Aside0 (Inv A) ∧ Aside0 (WB (40 + (i : Int)) A))
      case atStart => exact ⟨0, B, _, _, _, _, _, _, _, rfl, ⟨by omega⟩, ⟨by omega⟩, SD1, HI, ⟨fun j hj => ⟨(HW.out j hj).1, by have := (HW.out j hj).2; omega⟩⟩⟩
      case round =>
        clear SD1 HI HW
        obtain ⟨i, A, S, R, u0, u1, u2, u3, vs, rfl, HK, HI40, HS, HI, HW⟩ := hrel
        by_cases hgo : i < n2 ∧ i < 40
        · rcases gk with _ | k1
          · exact absurd hgo.1 (by have := HK.out; omega)
          have hin := hgo.1
          have d1 : decide ((i : Int) < (n2 : Int)) = true := decide_eq_true (by omega)
          have d2 : decide (i < n2) = true := decide_eq_true hin
          have d3 : decide ((i : Int) < 40) = true := decide_eq_true (by omega)
          have d4 : decide (i < 40) = true := decide_eq_true hgo.2
          have p1 : (0 ≤ (i : Int)) = True := eq_true (by omega)
          have p2 : ((i : Int) < (n2 : Int)) = True := eq_true (by omega)
          have HI2 := Aside0.mk hgo.2
          have HINN := Aside0.mk hin
          have hmem := rd28 (l := l2) (i := i) (by rw [← HNl2.out]; exact hin)
          have hok := HOKl2.out _ hmem
          have WT := Aside0.mk (show (Lit.int .i64 (rd_T28 l2 (i : Int)).f2).wf = true from hok.2.2)
          obtain ⟨ad, ea, x0, x1, x2⟩ := at_T28 HRl2.out (i : Int) (by omega) (by omega)
          subst ea
          rw [Int.toNat_natCast] at x0 x1 x2
          have z0 := x0
          have z1 := x1
          have z2 := x2
          have y0 := cellB HS.out.hb x0
          have y1 := cellB HS.out.hb x1
          have y2 := cellB HS.out.hb x2
          clear hmem hok hgo hin x0 x1 x2
          obtain ⟨k, hk⟩ : ∃ k, k = (rd_T28 l2 (i : Int)).f0 := ⟨_, rfl⟩
          obtain ⟨f, hf⟩ : ∃ f, f = (rd_T28 l2 (i : Int)).f1 := ⟨_, rfl⟩
          obtain ⟨t, ht⟩ : ∃ t, t = (rd_T28 l2 (i : Int)).f2 := ⟨_, rfl⟩
          rw [← hk] at y0 z0
          rw [← hf] at y1 z1
          rw [← ht] at y2 z2 WT
          clear hk hf ht
          have HWT := Aside0.mk (show -9223372036854775808 ≤ t ∧ t ≤ 9223372036854775807 from by
            have e1 : IntKind.i64.min = -9223372036854775808 := by decide
            have e2 : IntKind.i64.max = 9223372036854775807 := by decide
            have h := WT.out
            simp only [Lit.wf, Bool.and_eq_true, decide_eq_true_eq, e1, e2] at h
            exact h)
          have ew : Aside0 (wrap64 ((i : Int) + 1) = (i : Int) + 1) := ⟨by have h2 := HI2.out; unfold wrap64; omega⟩
          have HN8 := Aside0.mk (pl_n8 HS.out.pl).2
          have HOW := Aside0.mk (show ∀ j, j < A.n → 0 ≤ A.work j ∧ A.work j ≤ 1000000 from fun j hj => ⟨(HW.out j hj).1, by have := (HW.out j hj).2; have := HI2.out; omega⟩)
          obtain ⟨y, hy⟩ : ∃ y, y = doA A k f t := ⟨_, rfl⟩
          have HY := Aside0.mk hy
          have HI3 := Aside0.mk (HI.out.do_ HW.out (by omega) k f t)
          rw [← hy] at HI3
          clear hy
          go_upto_region 22 with (fail)
          have SDD := Aside0.mk (show Sd S R w wr.drew gc gx A A u0 u1 u2 u3 vs from HS.out.below (below_drew (Below.refl _ _)))
          replace y0 : wr.drew.cell? (ad.add (i * 3)) = some (.int .i64 k) := y0
          replace y1 : wr.drew.cell? ⟨(ad.add (i * 3)).block, (ad.add (i * 3)).off + 1, none⟩ = some (.int .i64 f) := y1
          replace y2 : wr.drew.cell? ⟨(ad.add (i * 3)).block, (ad.add (i * 3)).off + 2, none⟩ = some (.int .i64 t) := y2
          refine start_ (n := 14) (S := fun w' => w'.heap[gx]? = some (.cells #[u0, u1, u2, u3] 41 (0, 0)) ∧ w'.cell? (ad.add (i * 3)) = some (.int .i64 k) ∧ w'.cell? ⟨(ad.add (i * 3)).block, (ad.add (i * 3)).off + 1, none⟩ = some (.int .i64 f) ∧ w'.cell? ⟨(ad.add (i * 3)).block, (ad.add (i * 3)).off + 2, none⟩ = some (.int .i64 t)) (ds := []) #[false, false, false, false, false, false, false, false, false, false, false, false, false, false] (by kernel_rfl) rfl rfl ⟨(blk_below SDD.out.box (Below.refl _ _)), (cellB (Below.refl _ _) y0), (cellB (Below.refl _ _) y1), (cellB (Below.refl _ _) y2)⟩ (fun hHeld => ?_)
          refine pure_ (i := 1) (N := some 162) (v := ?_) (a' := ?_) #[false, true, false, false, false, false, false, false, false, false, false, false, false, false] rfl rfl (by kernel_rfl) (fun _ _ _ h => h) (Or.inl ⟨by rfl, ?_⟩) ?_ ?_
          rotate_left
          · intro w'
            go_simp
            with_reducible rfl
          rotate_left
          · simp only [Act.put, List.setIfInBounds_toArray, List.set_cons_zero, List.set_cons_succ, i64_w, i32_w]
            rfl
          refine pure_ (i := 2) (N := some 163) (v := ?_) (a' := ?_) #[false, true, true, false, false, false, false, false, false, false, false, false, false, false] rfl rfl (by kernel_rfl) (fun _ _ _ h => h) (Or.inl ⟨by rfl, ?_⟩) ?_ ?_
          rotate_left
          · intro w'
            go_simp
            with_reducible rfl
          rotate_left
          · simp only [Act.put, List.setIfInBounds_toArray, List.set_cons_zero, List.set_cons_succ, i64_w, i32_w]
            rfl
          refine pure_ (i := 3) (N := some 164) (v := ?_) (a' := ?_) #[false, true, true, true, false, false, false, false, false, false, false, false, false, false] rfl rfl (by kernel_rfl) (fun _ _ _ h => h) (Or.inl ⟨by rfl, ?_⟩) ?_ ?_
          rotate_left
          · intro w'
            go_simp
            with_reducible rfl
          rotate_left
          · simp only [Act.put, List.setIfInBounds_toArray, List.set_cons_zero, List.set_cons_succ, i64_w, i32_w]
            rfl
          refine take_ (i := 0) (N := some 161) (v := ?_) (a' := ?_) #[true, true, true, true, false, false, false, false, false, false, false, false, false, false] rfl rfl (by kernel_rfl) (fun _ _ _ h => h) (Or.inl ⟨by rfl, ?_⟩) hHeld ?_ ?_
          rotate_left
          · rintro w' ⟨s0, s1, s2, s3⟩
            (refine ex_load41 (x := .tmp 8) ?_ ?_ rfl s0 <;> first | (simp [Act.eval, Act.put]; done) | rfl)
          rotate_left
          · simp only [Act.put, List.setIfInBounds_toArray, List.set_cons_zero, List.set_cons_succ, i64_w, i32_w]
            rfl
          refine take_ (i := 4) (N := some 165) (v := ?_) (a' := ?_) #[true, true, true, true, true, false, false, false, false, false, false, false, false, false] rfl rfl (by kernel_rfl) (fun _ _ _ h => h) (Or.inl ⟨by rfl, ?_⟩) hHeld ?_ ?_
          rotate_left
          · rintro w' ⟨s0, s1, s2, s3⟩
            go_simp
            with_reducible rfl
          rotate_left
          · simp only [Act.put, List.setIfInBounds_toArray, List.set_cons_zero, List.set_cons_succ, i64_w, i32_w]
            rfl
          refine join_ (σ := (Value × Value × Value × Value × (Nat → Value)) × Nat) 3 #[true, true, true, true, true, true, true, true, true, true, true, false, false, false] (fun s => [(166, .tuple #[.agg #[s.1.1, s.1.2.1, s.1.2.2.1, s.1.2.2.2.1], .int .i64 y.2.1, .int .i64 y.2.2]), (160, .tuple #[.agg #[s.1.1, s.1.2.1, s.1.2.2.1, s.1.2.2.2.1], .int .i64 y.2.1, .int .i64 y.2.2]), (167, .agg #[s.1.1, s.1.2.1, s.1.2.2.1, s.1.2.2.2.1]), (168, .int .i64 y.2.1), (169, .int .i64 y.2.2), (19, .pointer (some ⟨s.2, 0, none⟩))]) (fun s w' => Below wr.drew.heap.size wr.drew w' ∧ Pg R w' y.1 s.1.1 s.1.2.1 s.1.2.2.1 s.1.2.2.2.1 s.1.2.2.2.2 ∧ w'.heap[s.2]? = some (.cells #[.slice none 0 0, .slice none 0 0, .slice none 0 0, .slice none 0 0] 41 (0, 0)) ∧ wr.drew.heap.size ≤ s.2) ?_ ?_
          rotate_left
          · intro hCont
            refine two_ (i := 5) (j := 10) (Ni := some 166) (Nj := some 19) #[true, true, true, true, true, true, false, false, false, false, false, false, false, false] #[true, true, true, true, true, false, false, false, false, false, true, false, false, false] rfl rfl rfl rfl (by kernel_rfl) (by decide) (by decide) (fun K hK => ?_) (fun K hK => ?_)
            · skip
              refine goes_ Try.func17 (by kernel_rfl) rfl #[.agg #[u0, u1, u2, u3], .agg #[.int .i64 k, .int .i64 f, .int .i64 t]] (by rfl) rfl rfl (by simp only [List.map_toArray, List.map_cons, List.map_nil]; rfl) ?_
              with_reducible refine (ref_do (SDD.out.pg.below (Below.refl _ _)) HI.out HN8.out HOW.out k f HWT.out).mono ?_
              rintro e w5 ⟨q0, q1, q2, q3, qs, rfl, hb, hp⟩
              refine ⟨_, rfl, ?_⟩
              rw [← HY.out] at hp ⊢
              have B5 := Aside0.mk (show Below wr.drew.heap.size wr.drew w5 from below_step (Below.refl _ _) hb)
              have P5 := Aside0.mk hp
              have G5 := Aside0.mk hb
              clear hb hp
              refine hK.out _ _ ⟨(blk_below SDD.out.box B5.out), (cellB B5.out y0), (cellB B5.out y1), (cellB B5.out y2)⟩ (fun hHeld => ?_)
              clear hK K
              refine norm_ (a' := ?_) ?_ ?_
              rotate_left
              · show Act.put _ (some 166) _ = _
                simp only [Act.put, List.setIfInBounds_toArray, List.set_cons_zero, List.set_cons_succ, i64_w, i32_w]
                rfl
              refine pure_ (i := 6) (N := some 160) (v := ?_) (a' := ?_) #[true, true, true, true, true, true, true, false, false, false, false, false, false, false] rfl rfl (by kernel_rfl) (fun _ _ _ h => h) (Or.inl ⟨by rfl, ?_⟩) ?_ ?_
              rotate_left
              · intro w'
                go_simp
                with_reducible rfl
              rotate_left
              · simp only [Act.put, List.setIfInBounds_toArray, List.set_cons_zero, List.set_cons_succ, i64_w, i32_w]
                rfl
              refine pure_ (i := 7) (N := some 167) (v := ?_) (a' := ?_) #[true, true, true, true, true, true, true, true, false, false, false, false, false, false] rfl rfl (by kernel_rfl) (fun _ _ _ h => h) (Or.inl ⟨by rfl, ?_⟩) ?_ ?_
              rotate_left
              · intro w'
                go_simp
                with_reducible rfl
              rotate_left
              · simp only [Act.put, List.setIfInBounds_toArray, List.set_cons_zero, List.set_cons_succ, i64_w, i32_w]
                rfl
              refine pure_ (i := 8) (N := some 168) (v := ?_) (a' := ?_) #[true, true, true, true, true, true, true, true, true, false, false, false, false, false] rfl rfl (by kernel_rfl) (fun _ _ _ h => h) (Or.inl ⟨by rfl, ?_⟩) ?_ ?_
              rotate_left
              · intro w'
                go_simp
                with_reducible rfl
              rotate_left
              · simp only [Act.put, List.setIfInBounds_toArray, List.set_cons_zero, List.set_cons_succ, i64_w, i32_w]
                rfl
              refine pure_ (i := 9) (N := some 169) (v := ?_) (a' := ?_) #[true, true, true, true, true, true, true, true, true, true, false, false, false, false] rfl rfl (by kernel_rfl) (fun _ _ _ h => h) (Or.inl ⟨by rfl, ?_⟩) ?_ ?_
              rotate_left
              · intro w'
                go_simp
                with_reducible rfl
              rotate_left
              · simp only [Act.put, List.setIfInBounds_toArray, List.set_cons_zero, List.set_cons_succ, i64_w, i32_w]
                rfl
              refine one_ (i := 10) (N := some 19) #[true, true, true, true, true, true, true, true, true, true, true, false, false, false] rfl rfl (by kernel_rfl) (by decide) (fun K hK => ?_)
              refine value_ (w1 := ?_) (v := ?_) (by rfl) rfl ?_ ?_
              rotate_left 2
              · go_simp
                constructor
                · rfl
                · rfl
              refine hK.out _ _ ⟨(blk_below SDD.out.box (below_alloc B5.out _)), (cellB (below_alloc B5.out _) y0), (cellB (below_alloc B5.out _) y1), (cellB (below_alloc B5.out _) y2)⟩ (fun hHeld => ?_)
              clear hK K
              refine norm_ (a' := ?_) ?_ ?_
              rotate_left
              · show Act.put _ (some 19) _ = _
                simp only [Act.put, List.setIfInBounds_toArray, List.set_cons_zero, List.set_cons_succ, i64_w, i32_w]
                rfl
              exact norm_ (by simp only [putAll, Act.put, List.setIfInBounds_toArray, List.set_cons_zero, List.set_cons_succ]) (hCont ((q0, q1, q2, q3, qs), w5.heap.size) _ ⟨below_alloc B5.out _, P5.out.below (below_alloc (Below.refl _ _) _), blk_new _ _, B5.out.size⟩)
            · skip
              refine value_ (w1 := ?_) (v := ?_) (by rfl) rfl ?_ ?_
              rotate_left 2
              · go_simp
                constructor
                · rfl
                · rfl
              refine hK.out _ _ ⟨(blk_below SDD.out.box (show Below wr.drew.heap.size wr.drew (wr.alloc (Obj.cells #[.slice none 0 0, .slice none 0 0, .slice none 0 0, .slice none 0 0] 41)).drew from below_alloc (Below.refl _ _) _)), (cellB (show Below wr.drew.heap.size wr.drew (wr.alloc (Obj.cells #[.slice none 0 0, .slice none 0 0, .slice none 0 0, .slice none 0 0] 41)).drew from below_alloc (Below.refl _ _) _) y0), (cellB (show Below wr.drew.heap.size wr.drew (wr.alloc (Obj.cells #[.slice none 0 0, .slice none 0 0, .slice none 0 0, .slice none 0 0] 41)).drew from below_alloc (Below.refl _ _) _) y1), (cellB (show Below wr.drew.heap.size wr.drew (wr.alloc (Obj.cells #[.slice none 0 0, .slice none 0 0, .slice none 0 0, .slice none 0 0] 41)).drew from below_alloc (Below.refl _ _) _) y2)⟩ (fun hHeld => ?_)
              clear hK K
              refine norm_ (a' := ?_) ?_ ?_
              rotate_left
              · show Act.put _ (some 19) _ = _
                simp only [Act.put, List.setIfInBounds_toArray, List.set_cons_zero, List.set_cons_succ, i64_w, i32_w]
                rfl
              refine one_ (i := 5) (N := some 166) #[true, true, true, true, true, true, false, false, false, false, true, false, false, false] rfl rfl (by kernel_rfl) (by decide) (fun K hK => ?_)
              refine goes_ Try.func17 (by kernel_rfl) rfl #[.agg #[u0, u1, u2, u3], .agg #[.int .i64 k, .int .i64 f, .int .i64 t]] (by rfl) rfl rfl (by simp only [List.map_toArray, List.map_cons, List.map_nil]; rfl) ?_
              with_reducible refine (ref_do (SDD.out.pg.below (show Below wr.drew.heap.size wr.drew (wr.alloc (Obj.cells #[.slice none 0 0, .slice none 0 0, .slice none 0 0, .slice none 0 0] 41)).drew from below_alloc (Below.refl _ _) _)) HI.out HN8.out HOW.out k f HWT.out).mono ?_
              rintro e w5 ⟨q0, q1, q2, q3, qs, rfl, hb, hp⟩
              refine ⟨_, rfl, ?_⟩
              rw [← HY.out] at hp ⊢
              have B5 := Aside0.mk (show Below wr.drew.heap.size wr.drew w5 from below_step (show Below wr.drew.heap.size wr.drew (wr.alloc (Obj.cells #[.slice none 0 0, .slice none 0 0, .slice none 0 0, .slice none 0 0] 41)).drew from below_alloc (Below.refl _ _) _) hb)
              have P5 := Aside0.mk hp
              have G5 := Aside0.mk hb
              clear hb hp
              refine hK.out _ _ ⟨(blk_below SDD.out.box B5.out), (cellB B5.out y0), (cellB B5.out y1), (cellB B5.out y2)⟩ (fun hHeld => ?_)
              clear hK K
              refine norm_ (a' := ?_) ?_ ?_
              rotate_left
              · show Act.put _ (some 166) _ = _
                simp only [Act.put, List.setIfInBounds_toArray, List.set_cons_zero, List.set_cons_succ, i64_w, i32_w]
                rfl
              refine pure_ (i := 6) (N := some 160) (v := ?_) (a' := ?_) #[true, true, true, true, true, true, true, false, false, false, true, false, false, false] rfl rfl (by kernel_rfl) (fun _ _ _ h => h) (Or.inl ⟨by rfl, ?_⟩) ?_ ?_
              rotate_left
              · intro w'
                go_simp
                with_reducible rfl
              rotate_left
              · simp only [Act.put, List.setIfInBounds_toArray, List.set_cons_zero, List.set_cons_succ, i64_w, i32_w]
                rfl
              refine pure_ (i := 7) (N := some 167) (v := ?_) (a' := ?_) #[true, true, true, true, true, true, true, true, false, false, true, false, false, false] rfl rfl (by kernel_rfl) (fun _ _ _ h => h) (Or.inl ⟨by rfl, ?_⟩) ?_ ?_
              rotate_left
              · intro w'
                go_simp
                with_reducible rfl
              rotate_left
              · simp only [Act.put, List.setIfInBounds_toArray, List.set_cons_zero, List.set_cons_succ, i64_w, i32_w]
                rfl
              refine pure_ (i := 8) (N := some 168) (v := ?_) (a' := ?_) #[true, true, true, true, true, true, true, true, true, false, true, false, false, false] rfl rfl (by kernel_rfl) (fun _ _ _ h => h) (Or.inl ⟨by rfl, ?_⟩) ?_ ?_
              rotate_left
              · intro w'
                go_simp
                with_reducible rfl
              rotate_left
              · simp only [Act.put, List.setIfInBounds_toArray, List.set_cons_zero, List.set_cons_succ, i64_w, i32_w]
                rfl
              refine pure_ (i := 9) (N := some 169) (v := ?_) (a' := ?_) #[true, true, true, true, true, true, true, true, true, true, true, false, false, false] rfl rfl (by kernel_rfl) (fun _ _ _ h => h) (Or.inl ⟨by rfl, ?_⟩) ?_ ?_
              rotate_left
              · intro w'
                go_simp
                with_reducible rfl
              rotate_left
              · simp only [Act.put, List.setIfInBounds_toArray, List.set_cons_zero, List.set_cons_succ, i64_w, i32_w]
                rfl
              exact norm_ (by simp only [putAll, Act.put, List.setIfInBounds_toArray, List.set_cons_zero, List.set_cons_succ]) (hCont ((q0, q1, q2, q3, qs), wr.heap.size) _ ⟨B5.out, P5.out, blk_below (show (wr.alloc (Obj.cells #[.slice none 0 0, .slice none 0 0, .slice none 0 0, .slice none 0 0] 41)).drew.heap[wr.heap.size]? = _ from blk_new _ _) G5.out, Nat.le_refl _⟩)
          rintro ⟨⟨q0, q1, q2, q3, qs⟩, g8⟩ w7 ⟨h1, h2, h3, h4⟩
          have B7 := Aside0.mk h1
          have P7 := Aside0.mk h2
          have X7 := Aside0.mk h3
          have G7 := Aside0.mk h4
          clear h1 h2 h3 h4
          have hHeld : w7.heap[gx]? = some (.cells #[u0, u1, u2, u3] 41 (0, 0)) ∧ w7.cell? (ad.add (i * 3)) = some (.int .i64 k) ∧ w7.cell? ⟨(ad.add (i * 3)).block, (ad.add (i * 3)).off + 1, none⟩ = some (.int .i64 f) ∧ w7.cell? ⟨(ad.add (i * 3)).block, (ad.add (i * 3)).off + 2, none⟩ = some (.int .i64 t) := ⟨(blk_below SDD.out.box B7.out), (cellB B7.out y0), (cellB B7.out y1), (cellB B7.out y2)⟩
          refine norm_ (a' := ?_) ?_ ?_
          rotate_left
          · simp only [putAll, Act.put, List.setIfInBounds_toArray, List.set_cons_zero, List.set_cons_succ]
            rfl
          refine one_ (i := 11) (N := none) #[true, true, true, true, true, true, true, true, true, true, true, true, false, false] rfl rfl (by kernel_rfl) (by decide) (fun K hK => ?_)
          refine skip_ (w1 := _) (by rfl) rfl (ex_store41 (x := .tmp 19) (y := .tmp 167) rfl (by first | (simp [Act.eval, Act.put]; done) | rfl) (by first | (simp [Act.eval, Act.put]; done) | rfl) X7.out ⟨P7.out.r0, P7.out.r1, P7.out.r2, P7.out.r3⟩) ?_
          refine hK.out _ _ ⟨(blk_below SDD.out.box (below_row41 B7.out G7.out _)), (cellB (below_row41 B7.out G7.out _) y0), (cellB (below_row41 B7.out G7.out _) y1), (cellB (below_row41 B7.out G7.out _) y2)⟩ (fun hHeld => ?_)
          clear hK K
          refine pure_ (i := 12) (N := some 20) (v := ?_) (a' := ?_) #[true, true, true, true, true, true, true, true, true, true, true, true, true, false] rfl rfl (by kernel_rfl) (fun _ _ _ h => h) (Or.inl ⟨by rfl, ?_⟩) ?_ ?_
          rotate_left
          · intro w'
            go_simp
            with_reducible rfl
          rotate_left
          · simp only [Act.put, List.setIfInBounds_toArray, List.set_cons_zero, List.set_cons_succ, i64_w, i32_w]
            rfl
          refine pure_ (i := 13) (N := some 21) (v := ?_) (a' := ?_) #[true, true, true, true, true, true, true, true, true, true, true, true, true, true] rfl rfl (by kernel_rfl) (fun _ _ _ h => h) (Or.inl ⟨by rfl, ?_⟩) ?_ ?_
          rotate_left
          · intro w'
            go_simp
            with_reducible rfl
          rotate_left
          · simp only [Act.put, List.setIfInBounds_toArray, List.set_cons_zero, List.set_cons_succ, i64_w, i32_w]
            rfl
          refine done_ (by kernel_rfl) ?_

          have B8 := Aside0.mk (below_row41 B7.out G7.out #[q0, q1, q2, q3])
          have P8 := Aside0.mk (P7.out.boxr (cs := #[q0, q1, q2, q3]) X7.out)
          have X8 := Aside0.mk (setRow_heap _ _ _ #[q0, q1, q2, q3] _ _ X7.out)
          clear B7 P7 X7 G7 hHeld
          generalize w7.setRow g8 #[q0, q1, q2, q3] = w8 at *
          go_upto_region 24 with (first
            | (refine wpList_load_row rfl 41 (.tmp 19) rfl g8 rfl 41 _ (0, 0) _ X8.out Try.underlying41 rfl info41 ?_)
            | (refine wpList_store_row rfl 41 (.tmp 8) (.tmp 170) rfl gx _ rfl rfl 41 _ (blk_below SDD.out.box B8.out) info41 rfl P8.out.one ?_))
          have SD8 := Aside0.mk (SDD.out.page B8.out P8.out)
          clear SDD B8 P8 X8 y0 y1 y2 p1 p2 d1 d2 d3 d4
          generalize w8.setRow gx #[q0, q1, q2, q3] = wA at *
          have y0 := cellB SD8.out.hb z0
          have y1 := cellB SD8.out.hb z1
          have y2 := cellB SD8.out.hb z2
          have p1 : (0 ≤ (i : Int)) = True := eq_true (by omega)
          have p2 : ((i : Int) < (n2 : Int)) = True := eq_true (by have := HINN.out; omega)
          go_upto_region 25 with (go_at_call 8; (refine (do_any SD8.out.pl HI.out.ok HOW.out k f HWT.out).mono ?_); rintro e wb ⟨rfl, hpl, hc⟩; rw [← HY.out] at hpl ⊢; have SD9 := Aside0.mk (SD8.out.prog hpl hc); clear hpl hc)
          clear SD8 y0 y1 y2
          have HN9 := Aside0.mk (pl_n8 SD9.out.pl).2
          have SDE := Aside0.mk (SD9.out.below (below_drew (Below.refl _ _)))
          clear SD9 HS
          refine start_ (n := 19) (S := fun w' => w'.heap[gx]? = some (.cells #[q0, q1, q2, q3] 41 (0, 0)) ∧ w'.cell? ⟨(ad.add (i * 3)).block, (ad.add (i * 3)).off + 2, none⟩ = some (.int .i64 t)) (ds := []) #[false, false, false, false, false, false, false, false, false, false, false, false, false, false, false, false, false, false, false] (by kernel_rfl) rfl rfl ⟨SDE.out.box, cellB SDE.out.hb z2⟩ (fun hHeld => ?_)
          refine pure_ (i := 0) (N := some 180) (v := ?_) (a' := ?_) #[true, false, false, false, false, false, false, false, false, false, false, false, false, false, false, false, false, false, false] rfl rfl (by kernel_rfl) (fun _ _ _ h => h) (Or.inl ⟨by rfl, ?_⟩) ?_ ?_
          rotate_left
          · intro w'
            go_simp
            with_reducible rfl
          rotate_left
          · simp only [Act.put, List.setIfInBounds_toArray, List.set_cons_zero, List.set_cons_succ, i64_w, i32_w]
            rfl
          refine pure_ (i := 1) (N := some 181) (v := ?_) (a' := ?_) #[true, true, false, false, false, false, false, false, false, false, false, false, false, false, false, false, false, false, false] rfl rfl (by kernel_rfl) (fun _ _ _ h => h) (Or.inl ⟨by rfl, ?_⟩) ?_ ?_
          rotate_left
          · intro w'
            go_simp
            with_reducible rfl
          rotate_left
          · simp only [Act.put, List.setIfInBounds_toArray, List.set_cons_zero, List.set_cons_succ, i64_w, i32_w]
            rfl
          refine pure_ (i := 2) (N := some 182) (v := ?_) (a' := ?_) #[true, true, true, false, false, false, false, false, false, false, false, false, false, false, false, false, false, false, false] rfl rfl (by kernel_rfl) (fun _ _ _ h => h) (Or.inl ⟨by rfl, ?_⟩) ?_ ?_
          rotate_left
          · intro w'
            go_simp
            with_reducible rfl
          rotate_left
          · simp only [Act.put, List.setIfInBounds_toArray, List.set_cons_zero, List.set_cons_succ, i64_w, i32_w]
            rfl
          refine pure_ (i := 3) (N := some 183) (v := ?_) (a' := ?_) #[true, true, true, true, false, false, false, false, false, false, false, false, false, false, false, false, false, false, false] rfl rfl (by kernel_rfl) (fun _ _ _ h => h) (Or.inl ⟨by rfl, ?_⟩) ?_ ?_
          rotate_left
          · intro w'
            go_simp
            with_reducible rfl
          rotate_left
          · simp only [Act.put, List.setIfInBounds_toArray, List.set_cons_zero, List.set_cons_succ, i64_w, i32_w]
            rfl
          refine pure_ (i := 4) (N := some 184) (v := ?_) (a' := ?_) #[true, true, true, true, true, false, false, false, false, false, false, false, false, false, false, false, false, false, false] rfl rfl (by kernel_rfl) (fun _ _ _ h => h) (Or.inl ⟨by rfl, ?_⟩) ?_ ?_
          rotate_left
          · intro w'
            go_simp
            with_reducible rfl
          rotate_left
          · simp only [Act.put, List.setIfInBounds_toArray, List.set_cons_zero, List.set_cons_succ, i64_w, i32_w]
            rfl
          refine pure_ (i := 5) (N := some 185) (v := ?_) (a' := ?_) #[true, true, true, true, true, true, false, false, false, false, false, false, false, false, false, false, false, false, false] rfl rfl (by kernel_rfl) (fun _ _ _ h => h) (Or.inl ⟨by rfl, ?_⟩) ?_ ?_
          rotate_left
          · intro w'
            go_simp
            with_reducible rfl
          rotate_left
          · simp only [Act.put, List.setIfInBounds_toArray, List.set_cons_zero, List.set_cons_succ, i64_w, i32_w]
            rfl
          refine pure_ (i := 6) (N := some 186) (v := ?_) (a' := ?_) #[true, true, true, true, true, true, true, false, false, false, false, false, false, false, false, false, false, false, false] rfl rfl (by kernel_rfl) (fun _ _ _ h => h) (Or.inl ⟨by rfl, ?_⟩) ?_ ?_
          rotate_left
          · intro w'
            go_simp
            with_reducible rfl
          rotate_left
          · simp only [Act.put, List.setIfInBounds_toArray, List.set_cons_zero, List.set_cons_succ, i64_w, i32_w]
            rfl
          refine pure_ (i := 7) (N := some 187) (v := ?_) (a' := ?_) #[true, true, true, true, true, true, true, true, false, false, false, false, false, false, false, false, false, false, false] rfl rfl (by kernel_rfl) (fun _ _ _ h => h) (Or.inl ⟨by rfl, ?_⟩) ?_ ?_
          rotate_left
          · intro w'
            go_simp
            with_reducible rfl
          rotate_left
          · simp only [Act.put, List.setIfInBounds_toArray, List.set_cons_zero, List.set_cons_succ, i64_w, i32_w]
            rfl
          refine pure_ (i := 8) (N := some 188) (v := ?_) (a' := ?_) #[true, true, true, true, true, true, true, true, true, false, false, false, false, false, false, false, false, false, false] rfl rfl (by kernel_rfl) (fun _ _ _ h => h) (Or.inl ⟨by rfl, ?_⟩) ?_ ?_
          rotate_left
          · intro w'
            go_simp
            with_reducible rfl
          rotate_left
          · simp only [Act.put, List.setIfInBounds_toArray, List.set_cons_zero, List.set_cons_succ, i64_w, i32_w]
            rfl
          refine pure_ (i := 9) (N := some 189) (v := ?_) (a' := ?_) #[true, true, true, true, true, true, true, true, true, true, false, false, false, false, false, false, false, false, false] rfl rfl (by kernel_rfl) (fun _ _ _ h => h) (Or.inl ⟨by rfl, ?_⟩) ?_ ?_
          rotate_left
          · intro w'
            go_simp
            with_reducible rfl
          rotate_left
          · simp only [Act.put, List.setIfInBounds_toArray, List.set_cons_zero, List.set_cons_succ, i64_w, i32_w]
            rfl
          refine pure_ (i := 11) (N := some 191) (v := ?_) (a' := ?_) #[true, true, true, true, true, true, true, true, true, true, false, true, false, false, false, false, false, false, false] rfl rfl (by kernel_rfl) (fun _ _ _ h => h) (Or.inl ⟨by rfl, ?_⟩) ?_ ?_
          rotate_left
          · intro w'
            go_simp
            with_reducible rfl
          rotate_left
          · simp only [Act.put, List.setIfInBounds_toArray, List.set_cons_zero, List.set_cons_succ, i64_w, i32_w]
            rfl
          refine pure_ (i := 12) (N := some 192) (v := ?_) (a' := ?_) #[true, true, true, true, true, true, true, true, true, true, false, true, true, false, false, false, false, false, false] rfl rfl (by kernel_rfl) (fun _ _ _ h => h) (Or.inl ⟨by rfl, ?_⟩) ?_ ?_
          rotate_left
          · intro w'
            go_simp
            with_reducible rfl
          rotate_left
          · simp only [Act.put, List.setIfInBounds_toArray, List.set_cons_zero, List.set_cons_succ, i64_w, i32_w]
            rfl
          refine pure_ (i := 13) (N := some 193) (v := ?_) (a' := ?_) #[true, true, true, true, true, true, true, true, true, true, false, true, true, true, false, false, false, false, false] rfl rfl (by kernel_rfl) (fun _ _ _ h => h) (Or.inl ⟨by rfl, ?_⟩) ?_ ?_
          rotate_left
          · intro w'
            go_simp
            with_reducible rfl
          rotate_left
          · simp only [Act.put, List.setIfInBounds_toArray, List.set_cons_zero, List.set_cons_succ, i64_w, i32_w]
            rfl
          refine pure_ (i := 14) (N := some 194) (v := ?_) (a' := ?_) #[true, true, true, true, true, true, true, true, true, true, false, true, true, true, true, false, false, false, false] rfl rfl (by kernel_rfl) (fun _ _ _ h => h) (Or.inl ⟨by rfl, ?_⟩) ?_ ?_
          rotate_left
          · intro w'
            go_simp
            with_reducible rfl
          rotate_left
          · simp only [Act.put, List.setIfInBounds_toArray, List.set_cons_zero, List.set_cons_succ, i64_w, i32_w]
            rfl
          refine take_ (i := 10) (N := some 190) (v := ?_) (a' := ?_) #[true, true, true, true, true, true, true, true, true, true, true, true, true, true, true, false, false, false, false] rfl rfl (by kernel_rfl) (fun _ _ _ h => h) (Or.inl ⟨by rfl, ?_⟩) hHeld ?_ ?_
          rotate_left
          · rintro w' ⟨s0, s1⟩
            (refine ex_load41 (x := .tmp 8) ?_ ?_ rfl s0 <;> first | (simp [Act.eval, Act.put]; done) | rfl)
          rotate_left
          · simp only [Act.put, List.setIfInBounds_toArray, List.set_cons_zero, List.set_cons_succ, i64_w, i32_w]
            rfl
          refine take_ (i := 15) (N := some 195) (v := ?_) (a' := ?_) #[true, true, true, true, true, true, true, true, true, true, true, true, true, true, true, true, false, false, false] rfl rfl (by kernel_rfl) (fun _ _ _ h => h) (Or.inl ⟨by rfl, ?_⟩) hHeld ?_ ?_
          rotate_left
          · rintro w' ⟨s0, s1⟩
            go_simp
            with_reducible rfl
          rotate_left
          · simp only [Act.put, List.setIfInBounds_toArray, List.set_cons_zero, List.set_cons_succ, i64_w, i32_w]
            rfl
          refine one_ (i := 16) (N := some 196) #[true, true, true, true, true, true, true, true, true, true, true, true, true, true, true, true, true, false, false] rfl rfl (by kernel_rfl) (by decide) (fun K hK => ?_)
          refine goes_ Try.func16 (by kernel_rfl) rfl #[.pointer (some ⟨gc, 0, none⟩), .agg #[q0, q1, q2, q3], .int .i64 t] (by rfl) rfl rfl (by simp only [List.map_toArray, List.map_cons, List.map_nil]; rfl) ?_
          with_reducible refine (same_any SDE.out.pl HI3.out.1 HN9.out SDE.out.pg t).mono ?_
          rintro e w9 ⟨rfl, hb⟩
          refine ⟨_, rfl, ?_⟩
          have SDF := Aside0.mk (SDE.out.below hb)
          clear hb
          refine hK.out _ _ ⟨SDF.out.box, cellB SDF.out.hb z2⟩ (fun hHeld => ?_)
          clear hK K
          refine norm_ (a' := ?_) ?_ ?_
          rotate_left
          · show Act.put _ (some 196) _ = _
            simp only [Act.put, List.setIfInBounds_toArray, List.set_cons_zero, List.set_cons_succ, i64_w, i32_w]
            rfl
          refine pure_ (i := 17) (N := some 197) (v := ?_) (a' := ?_) #[true, true, true, true, true, true, true, true, true, true, true, true, true, true, true, true, true, true, false] rfl rfl (by kernel_rfl) (fun _ _ _ h => h) (Or.inl ⟨by rfl, ?_⟩) ?_ ?_
          rotate_left
          · intro w'
            go_simp
            with_reducible rfl
          rotate_left
          · simp only [Act.put, List.setIfInBounds_toArray, List.set_cons_zero, List.set_cons_succ, i64_w, i32_w]
            rfl
          refine pure_ (i := 18) (N := some 198) (v := ?_) (a' := ?_) #[true, true, true, true, true, true, true, true, true, true, true, true, true, true, true, true, true, true, true] rfl rfl (by kernel_rfl) (fun _ _ _ h => h) (Or.inl ⟨by rfl, ?_⟩) ?_ ?_
          rotate_left
          · intro w'
            go_simp
            with_reducible rfl
          rotate_left
          · simp only [Act.put, List.setIfInBounds_toArray, List.set_cons_zero, List.set_cons_succ, i64_w, i32_w]
            rfl
          refine done_ (by kernel_rfl) ?_
          go_wp2
          go_roundg k1
          case measure => omega
          case rel => exact ⟨i + 1, y.1, _, _, q0, q1, q2, q3, qs, by rw [ew.out]; simp, ⟨by have := HK.out; omega⟩, ⟨by have := HI2.out; omega⟩, SDF, ⟨HI3.out.1⟩, ⟨fun j hj => ⟨(HI3.out.2.2 j hj).1, by have := (HI3.out.2.2 j hj).2; omega⟩⟩⟩
        · by_cases hin : i < n2
          · have h40 : ¬ i < 40 := fun q => hgo ⟨hin, q⟩
            have d1 : decide ((i : Int) < (n2 : Int)) = true := decide_eq_true (by omega)
            have d2 : decide (i < n2) = true := decide_eq_true hin
            have d3 : decide ((i : Int) < 40) = false := decide_eq_false (by omega)
            have d4 : decide (i < 40) = false := decide_eq_false h40
            clear hgo h40 hin
            go_wp2_with (go_at_call 14; (refine (lives_any _).mono ?_); rintro e wl ⟨rfl, hb⟩; have HL := Aside0.mk (below_step HS.out.hb hb); clear hb)
            go_ret
            exact ⟨rfl, HL.out⟩
          · have d1 : decide ((i : Int) < (n2 : Int)) = false := decide_eq_false (by omega)
            have d2 : decide (i < n2) = false := decide_eq_false hin
            clear hgo hin
            go_wp2_with (go_at_call 14; (refine (lives_any _).mono ?_); rintro e wl ⟨rfl, hb⟩; have HL := Aside0.mk (below_step HS.out.hb hb); clear hb)
            go_ret
            exact ⟨rfl, HL.out⟩
    clear hK2
    go_wp2
    go_loopg [14] n2 (fun kq v14 w' => ∃ (i : Nat) (A' : Pa) (S Sc R : Nat → Prop), v14 = .int .i64 (i : Int) ∧ Aside0 (i + kq = n2) ∧ Aside0 (i ≤ 40) ∧ Aside0 (Tw S Sc R w w' gp gc gx A' B u0 u1 u2 u3 vs) ∧ Aside0 (Inv A') ∧ Aside0 (WB (40 + (i : Int)) A'))
    case atStart => exact ⟨0, B, _, _, _, rfl, ⟨by omega⟩, ⟨by omega⟩, TW0, HIB, ⟨fun j hj => ⟨(HWB.out j hj).1, by have := (HWB.out j hj).2; omega⟩⟩⟩
    case round =>
      clear TW0
      obtain ⟨i, A, S, Sc, R, rfl, HK, HI40, HS, HI, HW⟩ := hrel
      by_cases hgo : i < n2 ∧ i < 40
      · rcases gk with _ | k1
        · exact absurd hgo.1 (by have := HK.out; omega)
        have hin := hgo.1
        have d1 : decide ((i : Int) < (n2 : Int)) = true := decide_eq_true (by omega)
        have d2 : decide (i < n2) = true := decide_eq_true hin
        have d3 : decide ((i : Int) < 40) = true := decide_eq_true (by omega)
        have d4 : decide (i < 40) = true := decide_eq_true hgo.2
        have p1 : (0 ≤ (i : Int)) = True := eq_true (by omega)
        have p2 : ((i : Int) < (n2 : Int)) = True := eq_true (by omega)
        have HI2 := Aside0.mk hgo.2
        have HINN := Aside0.mk hin
        have hmem := rd28 (l := l2) (i := i) (by rw [← HNl2.out]; exact hin)
        have hok := HOKl2.out _ hmem
        have WT := Aside0.mk (show (Lit.int .i64 (rd_T28 l2 (i : Int)).f2).wf = true from hok.2.2)
        obtain ⟨ad, ea, x0, x1, x2⟩ := at_T28 HRl2.out (i : Int) (by omega) (by omega)
        subst ea
        rw [Int.toNat_natCast] at x0 x1 x2
        have z0 := x0
        have z1 := x1
        have z2 := x2
        have y0 := cellB HS.out.sd.hb x0
        have y1 := cellB HS.out.sd.hb x1
        have y2 := cellB HS.out.sd.hb x2
        clear hmem hok hgo hin x0 x1 x2
        obtain ⟨k, hk⟩ : ∃ k, k = (rd_T28 l2 (i : Int)).f0 := ⟨_, rfl⟩
        obtain ⟨f, hf⟩ : ∃ f, f = (rd_T28 l2 (i : Int)).f1 := ⟨_, rfl⟩
        obtain ⟨t, ht⟩ : ∃ t, t = (rd_T28 l2 (i : Int)).f2 := ⟨_, rfl⟩
        rw [← hk] at y0 z0
        rw [← hf] at y1 z1
        rw [← ht] at y2 z2 WT
        clear hk hf ht
        have HWT := Aside0.mk (show -9223372036854775808 ≤ t ∧ t ≤ 9223372036854775807 from by
          have e1 : IntKind.i64.min = -9223372036854775808 := by decide
          have e2 : IntKind.i64.max = 9223372036854775807 := by decide
          have h := WT.out
          simp only [Lit.wf, Bool.and_eq_true, decide_eq_true_eq, e1, e2] at h
          exact h)
        have ew : Aside0 (wrap64 ((i : Int) + 1) = (i : Int) + 1) := ⟨by have h2 := HI2.out; unfold wrap64; omega⟩
        have HN8 := Aside0.mk (pl_n8 HS.out.pl).2
        have HOW := Aside0.mk (show ∀ j, j < A.n → 0 ≤ A.work j ∧ A.work j ≤ 1000000 from fun j hj => ⟨(HW.out j hj).1, by have := (HW.out j hj).2; have := HI2.out; omega⟩)
        obtain ⟨y, hy⟩ : ∃ y, y = doA A k f t := ⟨_, rfl⟩
        have HY := Aside0.mk hy
        have HI3 := Aside0.mk (HI.out.do_ HW.out (by omega) k f t)
        rw [← hy] at HI3
        clear hy
        go_wp2_with (go_at_call 8; (refine (do_any HS.out.pl HI.out.ok HOW.out k f HWT.out).mono ?_); rintro e wb ⟨rfl, hpl, hc⟩; rw [← HY.out] at hpl ⊢; have SD9 := Aside0.mk (HS.out.prog hpl hc); clear hpl hc)
        go_roundg k1
        case measure => omega
        case rel => exact ⟨i + 1, y.1, _, _, _, by rw [ew.out]; simp, ⟨by have := HK.out; omega⟩, ⟨by have := HI2.out; omega⟩, SD9, ⟨HI3.out.1⟩, ⟨fun j hj => ⟨(HI3.out.2.2 j hj).1, by have := (HI3.out.2.2 j hj).2; omega⟩⟩⟩
      · by_cases hin : i < n2
        · have h40 : ¬ i < 40 := fun q => hgo ⟨hin, q⟩
          have d1 : decide ((i : Int) < (n2 : Int)) = true := decide_eq_true (by omega)
          have d2 : decide (i < n2) = true := decide_eq_true hin
          have d3 : decide ((i : Int) < 40) = false := decide_eq_false (by omega)
          have d4 : decide (i < 40) = false := decide_eq_false h40
          clear hgo h40 hin
          go_wp2
          exact HX2 _ _ _ _ _ _ _ _ _ _ _ _ _ _ _ _ _ _ _ _ _ _ _ _ _ _ _ _ _ _ _ _ _ _ _ _ _ _ _ _ _ _ _ _ _ _ _ _ _ _ _ _ _ _ B _ _ u0 u1 u2 u3 vs _ ⟨HS.out.sd⟩ HIB HWB
        · have d1 : decide ((i : Int) < (n2 : Int)) = false := decide_eq_false (by omega)
          have d2 : decide (i < n2) = false := decide_eq_false hin
          clear hgo hin
          go_wp2
          exact HX2 _ _ _ _ _ _ _ _ _ _ _ _ _ _ _ _ _ _ _ _ _ _ _ _ _ _ _ _ _ _ _ _ _ _ _ _ _ _ _ _ _ _ _ _ _ _ _ _ _ _ _ _ _ _ B _ _ u0 u1 u2 u3 vs _ ⟨HS.out.sd⟩ HIB HWB
  clear hK1
  go_wp2
  go_loopg [9] n (fun kq v9 w' => ∃ (i : Nat) (A : Pa) (S R : Nat → Prop) (u0 u1 u2 u3 : Value) (vs : Nat → Value), v9 = .int .i64 (i : Int) ∧ Aside0 (i + kq = n) ∧ Aside0 (i ≤ 40) ∧ Aside0 (Sd S R w w' gp gx A A u0 u1 u2 u3 vs) ∧ Aside0 (Inv A) ∧ Aside0 (WB (i : Int) A))
  case atStart => exact ⟨0, _, _, _, _, _, _, _, _, rfl, ⟨by omega⟩, ⟨by omega⟩, SD0, I0, W0⟩
  case round =>
    clear SD0 I0 W0
    obtain ⟨i, A, S, R, u0, u1, u2, u3, vs, rfl, HK, HI40, HS, HI, HW⟩ := hrel
    by_cases hgo : i < n ∧ i < 40
    · rcases gk with _ | k1
      · exact absurd hgo.1 (by have := HK.out; omega)
      have hin := hgo.1
      have d1 : decide ((i : Int) < (n : Int)) = true := decide_eq_true (by omega)
      have d2 : decide (i < n) = true := decide_eq_true hin
      have d3 : decide ((i : Int) < 40) = true := decide_eq_true (by omega)
      have d4 : decide (i < 40) = true := decide_eq_true hgo.2
      have p1 : (0 ≤ (i : Int)) = True := eq_true (by omega)
      have p2 : ((i : Int) < (n : Int)) = True := eq_true (by omega)
      have HI2 := Aside0.mk hgo.2
      have HINN := Aside0.mk hin
      have hmem := rd28 (l := l1) (i := i) (by rw [← HNl1.out]; exact hin)
      have hok := HOKl1.out _ hmem
      have WT := Aside0.mk (show (Lit.int .i64 (rd_T28 l1 (i : Int)).f2).wf = true from hok.2.2)
      obtain ⟨ad, ea, x0, x1, x2⟩ := at_T28 HRl1.out (i : Int) (by omega) (by omega)
      subst ea
      rw [Int.toNat_natCast] at x0 x1 x2
      have z0 := x0
      have z1 := x1
      have z2 := x2
      have y0 := cellB HS.out.hb x0
      have y1 := cellB HS.out.hb x1
      have y2 := cellB HS.out.hb x2
      clear hmem hok hgo hin x0 x1 x2
      obtain ⟨k, hk⟩ : ∃ k, k = (rd_T28 l1 (i : Int)).f0 := ⟨_, rfl⟩
      obtain ⟨f, hf⟩ : ∃ f, f = (rd_T28 l1 (i : Int)).f1 := ⟨_, rfl⟩
      obtain ⟨t, ht⟩ : ∃ t, t = (rd_T28 l1 (i : Int)).f2 := ⟨_, rfl⟩
      rw [← hk] at y0 z0
      rw [← hf] at y1 z1
      rw [← ht] at y2 z2 WT
      clear hk hf ht
      have HWT := Aside0.mk (show -9223372036854775808 ≤ t ∧ t ≤ 9223372036854775807 from by
        have e1 : IntKind.i64.min = -9223372036854775808 := by decide
        have e2 : IntKind.i64.max = 9223372036854775807 := by decide
        have h := WT.out
        simp only [Lit.wf, Bool.and_eq_true, decide_eq_true_eq, e1, e2] at h
        exact h)
      have ew : Aside0 (wrap64 ((i : Int) + 1) = (i : Int) + 1) := ⟨by have h2 := HI2.out; unfold wrap64; omega⟩
      have HN8 := Aside0.mk (pl_n8 HS.out.pl).2
      have HOW := Aside0.mk (show ∀ j, j < A.n → 0 ≤ A.work j ∧ A.work j ≤ 1000000 from fun j hj => ⟨(HW.out j hj).1, by have := (HW.out j hj).2; have := HI2.out; omega⟩)
      obtain ⟨y, hy⟩ : ∃ y, y = doA A k f t := ⟨_, rfl⟩
      have HY := Aside0.mk hy
      have HI3 := Aside0.mk (HI.out.do_ HW.out (by omega) k f t)
      rw [← hy] at HI3
      clear hy
      go_upto_region 6 with (go_at_call 8; (refine (do_any HS.out.pl HI.out.ok HOW.out k f HWT.out).mono ?_); rintro e wb ⟨rfl, hpl, hc⟩; rw [← HY.out] at hpl ⊢; have SD9 := Aside0.mk (HS.out.prog hpl hc); clear hpl hc)
      obtain ⟨S2, R2, hsd⟩ : ∃ S2 R2, Sd S2 R2 w wb gp gx y.1 A u0 u1 u2 u3 vs := ⟨_, _, SD9.out⟩
      have SDD := Aside0.mk (show Sd S2 R2 w wb.drew gp gx y.1 A u0 u1 u2 u3 vs from hsd.below (below_drew (Below.refl _ _)))
      clear hsd SD9 HS y0 y1 y2 d1 d2 d3 d4
      have y0 : wb.drew.cell? (ad.add (i * 3)) = some (.int .i64 k) := cellB SDD.out.hb z0
      have y1 : wb.drew.cell? ⟨(ad.add (i * 3)).block, (ad.add (i * 3)).off + 1, none⟩ = some (.int .i64 f) := cellB SDD.out.hb z1
      have y2 : wb.drew.cell? ⟨(ad.add (i * 3)).block, (ad.add (i * 3)).off + 2, none⟩ = some (.int .i64 t) := cellB SDD.out.hb z2
      refine start_ (n := 14) (S := fun w' => w'.heap[gx]? = some (.cells #[u0, u1, u2, u3] 41 (0, 0)) ∧ w'.cell? (ad.add (i * 3)) = some (.int .i64 k) ∧ w'.cell? ⟨(ad.add (i * 3)).block, (ad.add (i * 3)).off + 1, none⟩ = some (.int .i64 f) ∧ w'.cell? ⟨(ad.add (i * 3)).block, (ad.add (i * 3)).off + 2, none⟩ = some (.int .i64 t)) (ds := []) #[false, false, false, false, false, false, false, false, false, false, false, false, false, false] (by kernel_rfl) rfl rfl ⟨(blk_below SDD.out.box (Below.refl _ _)), (cellB (Below.refl _ _) y0), (cellB (Below.refl _ _) y1), (cellB (Below.refl _ _) y2)⟩ (fun hHeld => ?_)
      refine pure_ (i := 1) (N := some 46) (v := ?_) (a' := ?_) #[false, true, false, false, false, false, false, false, false, false, false, false, false, false] rfl rfl (by kernel_rfl) (fun _ _ _ h => h) (Or.inl ⟨by rfl, ?_⟩) ?_ ?_
      rotate_left
      · intro w'
        go_simp
        with_reducible rfl
      rotate_left
      · simp only [Act.put, List.setIfInBounds_toArray, List.set_cons_zero, List.set_cons_succ, i64_w, i32_w]
        rfl
      refine pure_ (i := 2) (N := some 47) (v := ?_) (a' := ?_) #[false, true, true, false, false, false, false, false, false, false, false, false, false, false] rfl rfl (by kernel_rfl) (fun _ _ _ h => h) (Or.inl ⟨by rfl, ?_⟩) ?_ ?_
      rotate_left
      · intro w'
        go_simp
        with_reducible rfl
      rotate_left
      · simp only [Act.put, List.setIfInBounds_toArray, List.set_cons_zero, List.set_cons_succ, i64_w, i32_w]
        rfl
      refine pure_ (i := 3) (N := some 48) (v := ?_) (a' := ?_) #[false, true, true, true, false, false, false, false, false, false, false, false, false, false] rfl rfl (by kernel_rfl) (fun _ _ _ h => h) (Or.inl ⟨by rfl, ?_⟩) ?_ ?_
      rotate_left
      · intro w'
        go_simp
        with_reducible rfl
      rotate_left
      · simp only [Act.put, List.setIfInBounds_toArray, List.set_cons_zero, List.set_cons_succ, i64_w, i32_w]
        rfl
      refine take_ (i := 0) (N := some 45) (v := ?_) (a' := ?_) #[true, true, true, true, false, false, false, false, false, false, false, false, false, false] rfl rfl (by kernel_rfl) (fun _ _ _ h => h) (Or.inl ⟨by rfl, ?_⟩) hHeld ?_ ?_
      rotate_left
      · rintro w' ⟨s0, s1, s2, s3⟩
        (refine ex_load41 (x := .tmp 8) ?_ ?_ rfl s0 <;> first | (simp [Act.eval, Act.put]; done) | rfl)
      rotate_left
      · simp only [Act.put, List.setIfInBounds_toArray, List.set_cons_zero, List.set_cons_succ, i64_w, i32_w]
        rfl
      refine take_ (i := 4) (N := some 49) (v := ?_) (a' := ?_) #[true, true, true, true, true, false, false, false, false, false, false, false, false, false] rfl rfl (by kernel_rfl) (fun _ _ _ h => h) (Or.inl ⟨by rfl, ?_⟩) hHeld ?_ ?_
      rotate_left
      · rintro w' ⟨s0, s1, s2, s3⟩
        go_simp
        with_reducible rfl
      rotate_left
      · simp only [Act.put, List.setIfInBounds_toArray, List.set_cons_zero, List.set_cons_succ, i64_w, i32_w]
        rfl
      refine join_ (σ := (Value × Value × Value × Value × (Nat → Value)) × Nat) 3 #[true, true, true, true, true, true, true, true, true, true, true, false, false, false] (fun s => [(50, .tuple #[.agg #[s.1.1, s.1.2.1, s.1.2.2.1, s.1.2.2.2.1], .int .i64 y.2.1, .int .i64 y.2.2]), (44, .tuple #[.agg #[s.1.1, s.1.2.1, s.1.2.2.1, s.1.2.2.2.1], .int .i64 y.2.1, .int .i64 y.2.2]), (51, .agg #[s.1.1, s.1.2.1, s.1.2.2.1, s.1.2.2.2.1]), (52, .int .i64 y.2.1), (53, .int .i64 y.2.2), (10, .pointer (some ⟨s.2, 0, none⟩))]) (fun s w' => Below wb.drew.heap.size wb.drew w' ∧ Pg R2 w' y.1 s.1.1 s.1.2.1 s.1.2.2.1 s.1.2.2.2.1 s.1.2.2.2.2 ∧ w'.heap[s.2]? = some (.cells #[.slice none 0 0, .slice none 0 0, .slice none 0 0, .slice none 0 0] 41 (0, 0)) ∧ wb.drew.heap.size ≤ s.2) ?_ ?_
      rotate_left
      · intro hCont
        refine two_ (i := 5) (j := 10) (Ni := some 50) (Nj := some 10) #[true, true, true, true, true, true, false, false, false, false, false, false, false, false] #[true, true, true, true, true, false, false, false, false, false, true, false, false, false] rfl rfl rfl rfl (by kernel_rfl) (by decide) (by decide) (fun K hK => ?_) (fun K hK => ?_)
        · skip
          refine goes_ Try.func17 (by kernel_rfl) rfl #[.agg #[u0, u1, u2, u3], .agg #[.int .i64 k, .int .i64 f, .int .i64 t]] (by rfl) rfl rfl (by simp only [List.map_toArray, List.map_cons, List.map_nil]; rfl) ?_
          with_reducible refine (ref_do (SDD.out.pg.below (Below.refl _ _)) HI.out HN8.out HOW.out k f HWT.out).mono ?_
          rintro e w5 ⟨q0, q1, q2, q3, qs, rfl, hb, hp⟩
          refine ⟨_, rfl, ?_⟩
          rw [← HY.out] at hp ⊢
          have B5 := Aside0.mk (show Below wb.drew.heap.size wb.drew w5 from below_step (Below.refl _ _) hb)
          have P5 := Aside0.mk hp
          have G5 := Aside0.mk hb
          clear hb hp
          refine hK.out _ _ ⟨(blk_below SDD.out.box B5.out), (cellB B5.out y0), (cellB B5.out y1), (cellB B5.out y2)⟩ (fun hHeld => ?_)
          clear hK K
          refine norm_ (a' := ?_) ?_ ?_
          rotate_left
          · show Act.put _ (some 50) _ = _
            simp only [Act.put, List.setIfInBounds_toArray, List.set_cons_zero, List.set_cons_succ, i64_w, i32_w]
            rfl
          refine pure_ (i := 6) (N := some 44) (v := ?_) (a' := ?_) #[true, true, true, true, true, true, true, false, false, false, false, false, false, false] rfl rfl (by kernel_rfl) (fun _ _ _ h => h) (Or.inl ⟨by rfl, ?_⟩) ?_ ?_
          rotate_left
          · intro w'
            go_simp
            with_reducible rfl
          rotate_left
          · simp only [Act.put, List.setIfInBounds_toArray, List.set_cons_zero, List.set_cons_succ, i64_w, i32_w]
            rfl
          refine pure_ (i := 7) (N := some 51) (v := ?_) (a' := ?_) #[true, true, true, true, true, true, true, true, false, false, false, false, false, false] rfl rfl (by kernel_rfl) (fun _ _ _ h => h) (Or.inl ⟨by rfl, ?_⟩) ?_ ?_
          rotate_left
          · intro w'
            go_simp
            with_reducible rfl
          rotate_left
          · simp only [Act.put, List.setIfInBounds_toArray, List.set_cons_zero, List.set_cons_succ, i64_w, i32_w]
            rfl
          refine pure_ (i := 8) (N := some 52) (v := ?_) (a' := ?_) #[true, true, true, true, true, true, true, true, true, false, false, false, false, false] rfl rfl (by kernel_rfl) (fun _ _ _ h => h) (Or.inl ⟨by rfl, ?_⟩) ?_ ?_
          rotate_left
          · intro w'
            go_simp
            with_reducible rfl
          rotate_left
          · simp only [Act.put, List.setIfInBounds_toArray, List.set_cons_zero, List.set_cons_succ, i64_w, i32_w]
            rfl
          refine pure_ (i := 9) (N := some 53) (v := ?_) (a' := ?_) #[true, true, true, true, true, true, true, true, true, true, false, false, false, false] rfl rfl (by kernel_rfl) (fun _ _ _ h => h) (Or.inl ⟨by rfl, ?_⟩) ?_ ?_
          rotate_left
          · intro w'
            go_simp
            with_reducible rfl
          rotate_left
          · simp only [Act.put, List.setIfInBounds_toArray, List.set_cons_zero, List.set_cons_succ, i64_w, i32_w]
            rfl
          refine one_ (i := 10) (N := some 10) #[true, true, true, true, true, true, true, true, true, true, true, false, false, false] rfl rfl (by kernel_rfl) (by decide) (fun K hK => ?_)
          refine value_ (w1 := ?_) (v := ?_) (by rfl) rfl ?_ ?_
          rotate_left 2
          · go_simp
            constructor
            · rfl
            · rfl
          refine hK.out _ _ ⟨(blk_below SDD.out.box (below_alloc B5.out _)), (cellB (below_alloc B5.out _) y0), (cellB (below_alloc B5.out _) y1), (cellB (below_alloc B5.out _) y2)⟩ (fun hHeld => ?_)
          clear hK K
          refine norm_ (a' := ?_) ?_ ?_
          rotate_left
          · show Act.put _ (some 10) _ = _
            simp only [Act.put, List.setIfInBounds_toArray, List.set_cons_zero, List.set_cons_succ, i64_w, i32_w]
            rfl
          exact norm_ (by simp only [putAll, Act.put, List.setIfInBounds_toArray, List.set_cons_zero, List.set_cons_succ]) (hCont ((q0, q1, q2, q3, qs), w5.heap.size) _ ⟨below_alloc B5.out _, P5.out.below (below_alloc (Below.refl _ _) _), blk_new _ _, B5.out.size⟩)
        · skip
          refine value_ (w1 := ?_) (v := ?_) (by rfl) rfl ?_ ?_
          rotate_left 2
          · go_simp
            constructor
            · rfl
            · rfl
          refine hK.out _ _ ⟨(blk_below SDD.out.box (show Below wb.drew.heap.size wb.drew (wb.alloc (Obj.cells #[.slice none 0 0, .slice none 0 0, .slice none 0 0, .slice none 0 0] 41)).drew from below_alloc (Below.refl _ _) _)), (cellB (show Below wb.drew.heap.size wb.drew (wb.alloc (Obj.cells #[.slice none 0 0, .slice none 0 0, .slice none 0 0, .slice none 0 0] 41)).drew from below_alloc (Below.refl _ _) _) y0), (cellB (show Below wb.drew.heap.size wb.drew (wb.alloc (Obj.cells #[.slice none 0 0, .slice none 0 0, .slice none 0 0, .slice none 0 0] 41)).drew from below_alloc (Below.refl _ _) _) y1), (cellB (show Below wb.drew.heap.size wb.drew (wb.alloc (Obj.cells #[.slice none 0 0, .slice none 0 0, .slice none 0 0, .slice none 0 0] 41)).drew from below_alloc (Below.refl _ _) _) y2)⟩ (fun hHeld => ?_)
          clear hK K
          refine norm_ (a' := ?_) ?_ ?_
          rotate_left
          · show Act.put _ (some 10) _ = _
            simp only [Act.put, List.setIfInBounds_toArray, List.set_cons_zero, List.set_cons_succ, i64_w, i32_w]
            rfl
          refine one_ (i := 5) (N := some 50) #[true, true, true, true, true, true, false, false, false, false, true, false, false, false] rfl rfl (by kernel_rfl) (by decide) (fun K hK => ?_)
          refine goes_ Try.func17 (by kernel_rfl) rfl #[.agg #[u0, u1, u2, u3], .agg #[.int .i64 k, .int .i64 f, .int .i64 t]] (by rfl) rfl rfl (by simp only [List.map_toArray, List.map_cons, List.map_nil]; rfl) ?_
          with_reducible refine (ref_do (SDD.out.pg.below (show Below wb.drew.heap.size wb.drew (wb.alloc (Obj.cells #[.slice none 0 0, .slice none 0 0, .slice none 0 0, .slice none 0 0] 41)).drew from below_alloc (Below.refl _ _) _)) HI.out HN8.out HOW.out k f HWT.out).mono ?_
          rintro e w5 ⟨q0, q1, q2, q3, qs, rfl, hb, hp⟩
          refine ⟨_, rfl, ?_⟩
          rw [← HY.out] at hp ⊢
          have B5 := Aside0.mk (show Below wb.drew.heap.size wb.drew w5 from below_step (show Below wb.drew.heap.size wb.drew (wb.alloc (Obj.cells #[.slice none 0 0, .slice none 0 0, .slice none 0 0, .slice none 0 0] 41)).drew from below_alloc (Below.refl _ _) _) hb)
          have P5 := Aside0.mk hp
          have G5 := Aside0.mk hb
          clear hb hp
          refine hK.out _ _ ⟨(blk_below SDD.out.box B5.out), (cellB B5.out y0), (cellB B5.out y1), (cellB B5.out y2)⟩ (fun hHeld => ?_)
          clear hK K
          refine norm_ (a' := ?_) ?_ ?_
          rotate_left
          · show Act.put _ (some 50) _ = _
            simp only [Act.put, List.setIfInBounds_toArray, List.set_cons_zero, List.set_cons_succ, i64_w, i32_w]
            rfl
          refine pure_ (i := 6) (N := some 44) (v := ?_) (a' := ?_) #[true, true, true, true, true, true, true, false, false, false, true, false, false, false] rfl rfl (by kernel_rfl) (fun _ _ _ h => h) (Or.inl ⟨by rfl, ?_⟩) ?_ ?_
          rotate_left
          · intro w'
            go_simp
            with_reducible rfl
          rotate_left
          · simp only [Act.put, List.setIfInBounds_toArray, List.set_cons_zero, List.set_cons_succ, i64_w, i32_w]
            rfl
          refine pure_ (i := 7) (N := some 51) (v := ?_) (a' := ?_) #[true, true, true, true, true, true, true, true, false, false, true, false, false, false] rfl rfl (by kernel_rfl) (fun _ _ _ h => h) (Or.inl ⟨by rfl, ?_⟩) ?_ ?_
          rotate_left
          · intro w'
            go_simp
            with_reducible rfl
          rotate_left
          · simp only [Act.put, List.setIfInBounds_toArray, List.set_cons_zero, List.set_cons_succ, i64_w, i32_w]
            rfl
          refine pure_ (i := 8) (N := some 52) (v := ?_) (a' := ?_) #[true, true, true, true, true, true, true, true, true, false, true, false, false, false] rfl rfl (by kernel_rfl) (fun _ _ _ h => h) (Or.inl ⟨by rfl, ?_⟩) ?_ ?_
          rotate_left
          · intro w'
            go_simp
            with_reducible rfl
          rotate_left
          · simp only [Act.put, List.setIfInBounds_toArray, List.set_cons_zero, List.set_cons_succ, i64_w, i32_w]
            rfl
          refine pure_ (i := 9) (N := some 53) (v := ?_) (a' := ?_) #[true, true, true, true, true, true, true, true, true, true, true, false, false, false] rfl rfl (by kernel_rfl) (fun _ _ _ h => h) (Or.inl ⟨by rfl, ?_⟩) ?_ ?_
          rotate_left
          · intro w'
            go_simp
            with_reducible rfl
          rotate_left
          · simp only [Act.put, List.setIfInBounds_toArray, List.set_cons_zero, List.set_cons_succ, i64_w, i32_w]
            rfl
          exact norm_ (by simp only [putAll, Act.put, List.setIfInBounds_toArray, List.set_cons_zero, List.set_cons_succ]) (hCont ((q0, q1, q2, q3, qs), wb.heap.size) _ ⟨B5.out, P5.out, blk_below (show (wb.alloc (Obj.cells #[.slice none 0 0, .slice none 0 0, .slice none 0 0, .slice none 0 0] 41)).drew.heap[wb.heap.size]? = _ from blk_new _ _) G5.out, Nat.le_refl _⟩)
      rintro ⟨⟨q0, q1, q2, q3, qs⟩, g8⟩ w7 ⟨h1, h2, h3, h4⟩
      have B7 := Aside0.mk h1
      have P7 := Aside0.mk h2
      have X7 := Aside0.mk h3
      have G7 := Aside0.mk h4
      clear h1 h2 h3 h4
      have hHeld : w7.heap[gx]? = some (.cells #[u0, u1, u2, u3] 41 (0, 0)) ∧ w7.cell? (ad.add (i * 3)) = some (.int .i64 k) ∧ w7.cell? ⟨(ad.add (i * 3)).block, (ad.add (i * 3)).off + 1, none⟩ = some (.int .i64 f) ∧ w7.cell? ⟨(ad.add (i * 3)).block, (ad.add (i * 3)).off + 2, none⟩ = some (.int .i64 t) := ⟨(blk_below SDD.out.box B7.out), (cellB B7.out y0), (cellB B7.out y1), (cellB B7.out y2)⟩
      refine norm_ (a' := ?_) ?_ ?_
      rotate_left
      · simp only [putAll, Act.put, List.setIfInBounds_toArray, List.set_cons_zero, List.set_cons_succ]
        rfl
      refine one_ (i := 11) (N := none) #[true, true, true, true, true, true, true, true, true, true, true, true, false, false] rfl rfl (by kernel_rfl) (by decide) (fun K hK => ?_)
      refine skip_ (w1 := _) (by rfl) rfl (ex_store41 (x := .tmp 10) (y := .tmp 51) rfl (by first | (simp [Act.eval, Act.put]; done) | rfl) (by first | (simp [Act.eval, Act.put]; done) | rfl) X7.out ⟨P7.out.r0, P7.out.r1, P7.out.r2, P7.out.r3⟩) ?_
      refine hK.out _ _ ⟨(blk_below SDD.out.box (below_row41 B7.out G7.out _)), (cellB (below_row41 B7.out G7.out _) y0), (cellB (below_row41 B7.out G7.out _) y1), (cellB (below_row41 B7.out G7.out _) y2)⟩ (fun hHeld => ?_)
      clear hK K
      refine pure_ (i := 12) (N := some 11) (v := ?_) (a' := ?_) #[true, true, true, true, true, true, true, true, true, true, true, true, true, false] rfl rfl (by kernel_rfl) (fun _ _ _ h => h) (Or.inl ⟨by rfl, ?_⟩) ?_ ?_
      rotate_left
      · intro w'
        go_simp
        with_reducible rfl
      rotate_left
      · simp only [Act.put, List.setIfInBounds_toArray, List.set_cons_zero, List.set_cons_succ, i64_w, i32_w]
        rfl
      refine pure_ (i := 13) (N := some 12) (v := ?_) (a' := ?_) #[true, true, true, true, true, true, true, true, true, true, true, true, true, true] rfl rfl (by kernel_rfl) (fun _ _ _ h => h) (Or.inl ⟨by rfl, ?_⟩) ?_ ?_
      rotate_left
      · intro w'
        go_simp
        with_reducible rfl
      rotate_left
      · simp only [Act.put, List.setIfInBounds_toArray, List.set_cons_zero, List.set_cons_succ, i64_w, i32_w]
        rfl
      refine done_ (by kernel_rfl) ?_

      have B8 := Aside0.mk (below_row41 B7.out G7.out #[q0, q1, q2, q3])
      have P8 := Aside0.mk (P7.out.boxr (cs := #[q0, q1, q2, q3]) X7.out)
      have X8 := Aside0.mk (setRow_heap _ _ _ #[q0, q1, q2, q3] _ _ X7.out)
      clear B7 P7 X7 G7 hHeld
      generalize w7.setRow g8 #[q0, q1, q2, q3] = w8 at *
      have SD8 := Aside0.mk (SDD.out.page B8.out P8.out)
      go_wp2_with (first
        | (refine wpList_load_row rfl 41 (.tmp 10) rfl g8 rfl 41 _ (0, 0) _ X8.out Try.underlying41 rfl info41 ?_)
        | (refine wpList_store_row rfl 41 (.tmp 8) (.tmp 54) rfl gx _ rfl rfl 41 _ (blk_below SDD.out.box B8.out) info41 rfl P8.out.one ?_))
      clear SDD B8 P8 X8 y0 y1 y2 z0 z1 z2 p1 p2
      go_roundg k1
      case measure => omega
      case rel => exact ⟨i + 1, y.1, _, _, q0, q1, q2, q3, qs, by rw [ew.out]; simp, ⟨by have := HK.out; omega⟩, ⟨by have := HI2.out; omega⟩, SD8, ⟨HI3.out.1⟩, ⟨HI3.out.2.2⟩⟩
    · by_cases hin : i < n
      · have h40 : ¬ i < 40 := fun q => hgo ⟨hin, q⟩
        have d1 : decide ((i : Int) < (n : Int)) = true := decide_eq_true (by omega)
        have d2 : decide (i < n) = true := decide_eq_true hin
        have d3 : decide ((i : Int) < 40) = false := decide_eq_false (by omega)
        have d4 : decide (i < 40) = false := decide_eq_false h40
        clear hgo h40 hin
        go_wp2
        exact HX1 _ _ _ _ _ _ _ _ _ _ _ _ _ _ _ _ _ _ _ _ _ _ _ _ _ _ _ _ _ _ _ _ _ _ _ A S R u0 u1 u2 u3 vs _ HS HI ⟨fun j hj => ⟨(HW.out j hj).1, by have := (HW.out j hj).2; have := HI40.out; omega⟩⟩
      · have d1 : decide ((i : Int) < (n : Int)) = false := decide_eq_false (by omega)
        have d2 : decide (i < n) = false := decide_eq_false hin
        clear hgo hin
        go_wp2
        exact HX1 _ _ _ _ _ _ _ _ _ _ _ _ _ _ _ _ _ _ _ _ _ _ _ _ _ _ _ _ _ _ _ _ _ _ _ A S R u0 u1 u2 u3 vs _ HS HI ⟨fun j hj => ⟨(HW.out j hj).1, by have := (HW.out j hj).2; have := HI40.out; omega⟩⟩
end Go.Proofs.Ytjcjhmnfknenlaa.placeApartW
