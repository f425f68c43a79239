/- LineRises: the walk by hand. Conditions: none. -/
import Derived.Test.YtakbhnfmimnbhaaLn12
import Derived.Test.YtakbhnfmimnbhaaOkLineRises
namespace Go.Proofs.Ytakbhnfmimnbhaa.lineRisesW
open Go.RowKit Go.Proofs.Ytakbhnfmimnbhaa.PLineRises Go.Proofs.YtakbhnfmimnbhaaW.PrintWords Go.Proofs.YtakbhnfmimnbhaaW.PrintLast Go.Proofs.YtakbhnfmimnbhaaW.PrintMore
open Ln
set_option linter.unusedVariables false
set_option linter.unusedSimpArgs false

theorem rd50 {l : List S50} {i : Nat} (hi : i < l.length) : rd_T50 l (i : Int) ∈ l := by
  unfold rd_T50
  rw [Int.toNat_natCast, List.getD_eq_getElem?_getD, List.getElem?_eq_getElem hi]
  exact List.getElem_mem hi
set_option maxHeartbeats 16000000 in
set_option maxRecDepth 100000 in
theorem walk (A0 : Option Addr) (c0 : Nat) (l0 : List (S50)) (w : World) (hr0 : Kd.C k50 w A0 l0.length l0) (hc0 : l0.length ≤ c0) (w0 : (fun l => (∀ a ∈ l, (ok50) a) ∧ l.length * 120 ≤ 140737488351232) l0) :
    Calls Try.prog 4 #[.slice A0 l0.length c0] w fun e w' => e = .returned (.bool true) ∧ Below w.heap.size w w' := by
  have HR := Aside0.mk hr0
  have hu50 := Try.underlying50
  have hu48 := Try.underlying48
  have hu44 := Try.underlying44
  have hu36 := Try.underlying36
  have hu37 := Try.underlying37
  have hu38 := Try.underlying38
  clear hr0 hc0 w0
  obtain ⟨n, hn⟩ : ∃ n, n = l0.length := ⟨_, rfl⟩
  rw [← hn] at HR ⊢
  have HN := Aside0.mk hn
  clear hn
  go_enter Try.func4, Try.ntmps4
  go_upto_block 0 with ((with_reducible refine gate_dst (N := 14) rfl ?_); refine box_event ?hg (N := 14) ?hd (cs := #[.slice none 0 0, .slice none 0 0, .map none, .int .i64 0]) (t := 44) ?hr ?_; (case hd => rfl); (case hg => rfl); (case hr => first | (go_simp; done) | (go_simp; rfl)); intro g hgx w1 hbox hb; have B1 := Aside0.mk hb; have X1 := Aside0.mk hbox; have G1 := Aside0.mk hgx; clear hbox hb hgx)
  have L1 := Aside0.mk (show Li w w1 g 0 [] 0 [] from li_new B1.out (by rw [G1.out]; exact Nat.le_refl _) X1.out)
  clear B1 X1 G1
  go_wp2
  go_loopg [4, 5] n (fun kq v4 v5 w' => ∃ (i : Nat) (last : Int) (ws : List S48) (k : Nat) (m : List (Int × Int)), v4 = .int .i64 last ∧ v5 = .int .i64 (i : Int) ∧ Aside0 (i + kq = n) ∧ Aside0 (i ≤ 50) ∧ Aside0 (Li w w' g last ws k m) ∧ Aside0 (Pl i ws last m k))
  case atStart => exact ⟨0, 0, [], 0, [], rfl, rfl, ⟨by omega⟩, ⟨by omega⟩, L1, ⟨Pl.new⟩⟩
  case round =>
    clear L1
    obtain ⟨i, last, ws, k, m, rfl, rfl, HK, HI, HS, HP⟩ := hrel
    by_cases hgo : i < n ∧ i < 50
    · rcases gk with _ | k1
      · exact absurd hgo.1 (by have := HK.out; omega)
      have hin := hgo.1
      have d1 : decide ((i : Int) < (n : Int)) = true := decide_eq_true (by omega)
      have d2 : decide (i < n) = true := decide_eq_true hin
      have d3 : decide ((i : Int) < 50) = true := decide_eq_true (by omega)
      have d4 : decide (i < 50) = true := decide_eq_true hgo.2
      have p1 : (0 ≤ (i : Int)) = True := eq_true (by omega)
      have p2 : ((i : Int) < (n : Int)) = True := eq_true (by omega)
      have HI2 := Aside0.mk hgo.2
      obtain ⟨ad, A7, c7, ea, y0, y1, y2, y3, y4, y5, y6, y7, y8, y9, y10, y11, y12, hl7, hc7⟩ := at_T50 (Kd.C_below HR.out HS.out.bel) (i : Int) (by omega) (by omega)
      subst ea
      rw [Int.toNat_natCast] at y0 y1 y2 y3 y4 y5 y6 y7 y8 y9 y10 y11 y12
      obtain ⟨o, ho⟩ : ∃ o, o = rd_T50 l0 (i : Int) := ⟨_, rfl⟩
      rw [← ho] at y0 y1 y2 y3 y4 y5 y6 y7 y8 y9 y10 y11 y12 hl7 hc7
      obtain ⟨N7, hN7⟩ : ∃ N, N = o.f3.f4.length := ⟨_, rfl⟩
      rw [← hN7] at y7
      have HN7 := Aside0.mk hN7
      have HL7 := Aside0.mk hl7
      have HC7 := Aside0.mk hc7
      clear hgo hin ho hl7 hc7 hN7
      have ew : Aside0 (wrap64 ((i : Int) + 1) = (i : Int) + 1) := ⟨by have h2 := HI2.out; unfold wrap64; omega⟩
      go_upto_region 6 with (first
        | ((with_reducible refine gate_dst (N := 6) rfl ?_); refine box_event ?hg (N := 6) ?hd (cs := #[.int .i64 0, .int .i64 0, .int .i64 0, .int .i64 0, .int .i64 0, .int .i64 0, .int .i64 0, .slice none 0 0, .int .i64 0, .int .i64 0, .int .i64 0, .int .i64 0, .int .u64 0]) (t := 50) ?hr ?_; (case hd => rfl); (case hg => rfl); (case hr => first | (go_simp; done) | (go_simp; rfl)); intro gx hgx w2 hbox hb; have B2 := Aside0.mk hb; have X2 := Aside0.mk hbox; have G2 := Aside0.mk hgx; clear hbox hb hgx)
        | (refine wpList_store_row rfl 50 (.tmp 6) (.tmp 28) rfl gx _ rfl rfl 50 _ X2.out info50s rfl (by simp [Value.oneCell']) ?_))
      clear y0 y1 y2 y3 y4 y5 y6 y7 y8 y9 y10 y11 y12 d1 d2 d3 d4 p1 p2
      have B3 := Aside0.mk (show Below wr.heap.size wr (w2.setRow gx #[.int .i64 o.f0, .int .i64 o.f1, .int .i64 o.f2, .int .i64 o.f3.f0, .int .i64 o.f3.f1, .int .i64 o.f3.f2, .int .i64 o.f3.f3, .slice A7 N7 c7, .int .i64 o.f3.f5, .int .i64 o.f3.f6, .int .i64 o.f3.f7, .int .i64 o.f3.f8, .int .u64 o.f3.f9]) from rowb B2.out (by rw [G2.out]; exact Nat.le_refl _) _)
      have X3 := Aside0.mk (setRow_heap w2 gx _ #[.int .i64 o.f0, .int .i64 o.f1, .int .i64 o.f2, .int .i64 o.f3.f0, .int .i64 o.f3.f1, .int .i64 o.f3.f2, .int .i64 o.f3.f3, .slice A7 N7 c7, .int .i64 o.f3.f5, .int .i64 o.f3.f6, .int .i64 o.f3.f7, .int .i64 o.f3.f8, .int .u64 o.f3.f9] _ _ X2.out)
      clear X2 B2 G2
      generalize w2.setRow gx #[.int .i64 o.f0, .int .i64 o.f1, .int .i64 o.f2, .int .i64 o.f3.f0, .int .i64 o.f3.f1, .int .i64 o.f3.f2, .int .i64 o.f3.f3, .slice A7 N7 c7, .int .i64 o.f3.f5, .int .i64 o.f3.f6, .int .i64 o.f3.f7, .int .i64 o.f3.f8, .int .u64 o.f3.f9] = w3 at *
      have L3 := Aside0.mk (HS.out.below B3.out)
      have HC3 := Aside0.mk (Kd.C_below HC7.out B3.out)
      clear HS HC7 B3
      have f0 : w3.cell? ⟨gx, 0, none⟩ = some (.int .i64 o.f0) := (blk_cell X3.out 0).trans rfl
      have f1 : w3.cell? ⟨gx, 1, none⟩ = some (.int .i64 o.f1) := (blk_cell X3.out 1).trans rfl
      have f2 : w3.cell? ⟨gx, 2, none⟩ = some (.int .i64 o.f2) := (blk_cell X3.out 2).trans rfl
      have f3 : w3.cell? ⟨gx, 3, none⟩ = some (.int .i64 o.f3.f0) := (blk_cell X3.out 3).trans rfl
      have f4 : w3.cell? ⟨gx, 4, none⟩ = some (.int .i64 o.f3.f1) := (blk_cell X3.out 4).trans rfl
      have f5 : w3.cell? ⟨gx, 5, none⟩ = some (.int .i64 o.f3.f2) := (blk_cell X3.out 5).trans rfl
      have f6 : w3.cell? ⟨gx, 6, none⟩ = some (.int .i64 o.f3.f3) := (blk_cell X3.out 6).trans rfl
      have f7 : w3.cell? ⟨gx, 7, none⟩ = some (.slice A7 N7 c7) := (blk_cell X3.out 7).trans rfl
      have f8 : w3.cell? ⟨gx, 8, none⟩ = some (.int .i64 o.f3.f5) := (blk_cell X3.out 8).trans rfl
      have f9 : w3.cell? ⟨gx, 9, none⟩ = some (.int .i64 o.f3.f6) := (blk_cell X3.out 9).trans rfl
      have f10 : w3.cell? ⟨gx, 10, none⟩ = some (.int .i64 o.f3.f7) := (blk_cell X3.out 10).trans rfl
      have f11 : w3.cell? ⟨gx, 11, none⟩ = some (.int .i64 o.f3.f8) := (blk_cell X3.out 11).trans rfl
      have f12 : w3.cell? ⟨gx, 12, none⟩ = some (.int .u64 o.f3.f9) := (blk_cell X3.out 12).trans rfl
      go_upto_block 2 with (fail)
      rename_i K1 hK1
      have HX : ∀ (x2 x6 x7 x8 x9 x10 x11 x12 x15 x16 x17 x18 x19 x20 x21 x22 x23 x24 x25 x26 x27 x28 x29 x30 x31 x32 x33 x34 x35 x36 x37 x38 x39 x40 x41 x42 x43 x44 x45 x46 x47 x48 x49 x50 x51 x52 x53 x54 x55 x56 x57 x58 x59 x60 x61 x62 x63 x64 x65 x66 x67 x68 x69 x70 x71 x72 x73 x74 x75 x76 x77 x78 x79 x80 x81 x82 x83 x84 x85 x86 x87 x88 x89 x90 x91 x92 x93 x94 x95 x96 x97 x98 x99 x100 x101 x102 x103 x104 x105 x106 x107 x108 x109 x110 x111 x112 x113 x114 x115 x116 x117 x118 x119 x120 x121 x122 x123 x124 x125 x126 : Value) (last' : Int) (ws' : List S48) (k' : Nat) (m' : List (Int × Int)) (wx : World), Aside0 (Li w wx g last' ws' k' m') → Aside0 (Pl (i + 1) ws' last' m' k') → K1 ⟨#[.slice (some ad) n c0, undef, x2, .pointer (some ⟨g, 0, none⟩), .int .i64 last', .int .i64 (i : Int), x6, x7, x8, x9, x10, x11, x12, .agg #[.slice none 0 0, .slice none 0 0, .map none, .int .i64 0], .pointer (some ⟨g, 0, none⟩), x15, x16, x17, x18, x19, x20, x21, x22, x23, x24, x25, x26, x27, x28, x29, x30, x31, x32, x33, x34, x35, x36, x37, x38, x39, x40, x41, x42, x43, x44, x45, x46, x47, x48, x49, x50, x51, x52, x53, x54, x55, x56, x57, x58, x59, x60, x61, x62, x63, x64, x65, x66, x67, x68, x69, x70, x71, x72, x73, x74, x75, x76, x77, x78, x79, x80, x81, x82, x83, x84, x85, x86, x87, x88, x89, x90, x91, x92, x93, x94, x95, x96, x97, x98, x99, x100, x101, x102, x103, x104, x105, x106, x107, x108, x109, x110, x111, x112, x113, x114, x115, x116, x117, x118, x119, x120, x121, x122, x123, x124, x125, x126, undef], []⟩ wx := by
        intro x2 x6 x7 x8 x9 x10 x11 x12 x15 x16 x17 x18 x19 x20 x21 x22 x23 x24 x25 x26 x27 x28 x29 x30 x31 x32 x33 x34 x35 x36 x37 x38 x39 x40 x41 x42 x43 x44 x45 x46 x47 x48 x49 x50 x51 x52 x53 x54 x55 x56 x57 x58 x59 x60 x61 x62 x63 x64 x65 x66 x67 x68 x69 x70 x71 x72 x73 x74 x75 x76 x77 x78 x79 x80 x81 x82 x83 x84 x85 x86 x87 x88 x89 x90 x91 x92 x93 x94 x95 x96 x97 x98 x99 x100 x101 x102 x103 x104 x105 x106 x107 x108 x109 x110 x111 x112 x113 x114 x115 x116 x117 x118 x119 x120 x121 x122 x123 x124 x125 x126 last' ws' k' m' wx HS2 HP2
        refine hK1 _ _ ?_
        clear hK1 L3 HC3 X3 f0 f1 f2 f3 f4 f5 f6 f7 f8 f9 f10 f11 f12 HN7 HL7
        obtain ⟨N, hN⟩ : ∃ N, N = ws'.length := ⟨_, rfl⟩
        have HNN := Aside0.mk hN
        have HALL := Aside0.mk (li_all HS2.out HP2.out)
        rw [← hN] at HALL
        clear hN
        go_upto_block 3 with (go_at_call 18; (refine HALL.out.mono ?_); rintro e w4 ⟨A, c, rfl, h⟩; have HA := Aside0.mk h; clear h)
        clear HALL HS2
        go_wp2
        go_loopg [11] N (fun kq v11 w' => ∃ (k : Nat), v11 = .int .i64 (k : Int) ∧ Aside0 (k + kq = N + 1) ∧ Aside0 (1 ≤ k) ∧ Aside0 (Al w w' g last' ws' k' m' A))
        case atStart => exact ⟨1, rfl, ⟨by omega⟩, ⟨by omega⟩, HA⟩
        case round =>
          clear HA
          obtain ⟨k, rfl, HKK, HK1, HA⟩ := hrel
          have HNB := Aside0.mk (show N ≤ 60 from by have := HP2.out.len; have := HP2.out.i60; have := HNN.out; omega)
          by_cases hkn : k < N
          · rcases gk with _ | k2
            · exact absurd hkn (by have := HKK.out; omega)
            have HKN := Aside0.mk hkn
            have d1 : decide ((k : Int) < (N : Int)) = true := decide_eq_true (by omega)
            have d2 : decide (k < N) = true := decide_eq_true hkn
            have p1 : (0 ≤ (k : Int)) = True := eq_true (by omega)
            have p2 : ((k : Int) < (N : Int)) = True := eq_true (by omega)
            obtain ⟨k0, hk0⟩ : ∃ k0, k = k0 + 1 := ⟨k - 1, by have := HK1.out; omega⟩
            have p3 : (0 ≤ (k0 : Int)) = True := eq_true (by omega)
            have p4 : ((k0 : Int) < (N : Int)) = True := eq_true (by omega)
            have es : IntKind.i64.wrap ((k : Int) - 1) = (k0 : Int) := by rw [IntKind.wrap_i64]; have := HNB.out; omega
            have ew1 : Aside0 (wrap64 ((k : Int) + 1) = (k : Int) + 1) := ⟨by have h2 := HNB.out; unfold wrap64; omega⟩
            have hlt := HP2.out.srt k0 k (by omega) (by rw [← HNN.out]; exact hkn)
            obtain ⟨ad4, ea, y0, y2⟩ := HA.out.at (j := k) (by rw [← HNN.out]; exact hkn)
            subst ea
            obtain ⟨ad5, ea, z0, z2⟩ := HA.out.at (j := k0) (by rw [← HNN.out]; omega)
            obtain rfl := Option.some.inj ea
            obtain ⟨tk, htk⟩ : ∃ t, t = (wq ws' k).f2 := ⟨_, rfl⟩
            obtain ⟨tk0, htk0⟩ : ∃ t, t = (wq ws' k0).f2 := ⟨_, rfl⟩
            obtain ⟨th, hth⟩ : ∃ t, t = (wq ws' k).f0 := ⟨_, rfl⟩
            rw [← htk] at y2 hlt
            rw [← htk0] at z2 hlt
            rw [← hth] at y0
            have HTH := Aside0.mk hth
            have dle : decide (tk ≤ tk0) = false := decide_eq_false (by omega)
            clear hkn hlt htk htk0 hth hk0 ea z0
            go_upto_region 20 with (fail)
            clear d1 d2
            go_quiet (fail)
            clear y2 z2 dle es p3 p4
            have HA2 := Aside0.mk (HA.out.below (pw_below_drewN (Below.refl _ _) nq))
            clear HA y0
            go_upto_block 5 with (fail)
            go_wp2
            go_loopg [12] k (fun kq v12 w' => ∃ (j : Nat), v12 = .int .i64 (j : Int) ∧ Aside0 (j + kq = k) ∧ Aside0 (Al w w' g last' ws' k' m' (some ad4)))
            case atStart => exact ⟨0, rfl, ⟨by omega⟩, HA2⟩
            case round =>
              clear HA2
              obtain ⟨j, rfl, HJJ, HA⟩ := hrel
              rcases gk with _ | k3
              · have d1 : decide ((j : Int) < (k : Int)) = false := decide_eq_false (by have := HJJ.out; omega)
                have d2 : decide (j < k) = false := decide_eq_false (by have := HJJ.out; omega)
                go_wp2
                go_roundg k2
                case measure => omega
                case rel => exact ⟨k + 1, by rw [ew1.out]; simp, ⟨by have := HKK.out; omega⟩, ⟨by omega⟩, HA⟩
              · have hjk : j < k := by have := HJJ.out; omega
                have HJK := Aside0.mk hjk
                have d1 : decide ((j : Int) < (k : Int)) = true := decide_eq_true (by omega)
                have d2 : decide (j < k) = true := decide_eq_true hjk
                have p3 : (0 ≤ (j : Int)) = True := eq_true (by omega)
                have p4 : ((j : Int) < (N : Int)) = True := eq_true (by have := HKN.out; omega)
                have ew2 : Aside0 (wrap64 ((j : Int) + 1) = (j : Int) + 1) := ⟨by have h1 := HKN.out; have h2 := HNB.out; unfold wrap64; omega⟩
                obtain ⟨ad5, ea, y0, y2⟩ := HA.out.at (j := k) (by rw [← HNN.out]; exact HKN.out)
                obtain rfl := Option.some.inj ea
                obtain ⟨ad5, ea, z0, z2⟩ := HA.out.at (j := j) (by rw [← HNN.out]; have := HKN.out; omega)
                obtain rfl := Option.some.inj ea
                have hne := HP2.out.dis j k hjk (by rw [← HNN.out]; exact HKN.out)
                rw [← HTH.out] at y0 hne
                obtain ⟨tj, htj⟩ : ∃ t, t = (wq ws' j).f0 := ⟨_, rfl⟩
                rw [← htj] at z0 hne
                have dne : (tj == th) = false := by simpa using hne
                clear y2 z2 ea htj hjk hne
                go_upto_region 25 with (fail)
                clear d1 d2
                go_quiet (fail)
                clear y0 z0 p3 p4 dne
                have HA2 := Aside0.mk (HA.out.below (pw_below_drewN (Below.refl _ _) nq))
                clear HA
                go_wp2
                go_roundg k3
                case measure => omega
                case rel => exact ⟨j + 1, by rw [ew2.out]; simp, ⟨by have := HJJ.out; omega⟩, HA2⟩
          · have d1 : decide ((k : Int) < (N : Int)) = false := decide_eq_false (by omega)
            have d2 : decide (k < N) = false := decide_eq_false hkn
            go_wp2
            go_roundg k1
            case measure => omega
            case rel => exact ⟨i + 1, last', ws', k', m', rfl, by rw [ew.out]; simp, ⟨by have := HK.out; omega⟩, ⟨by have := HI2.out; omega⟩, ⟨HA.out.li⟩, HP2⟩
      clear hK1
      have HI60 := Aside0.mk (show i + 1 ≤ 60 from by have := HI2.out; omega)
      by_cases c0' : o.f0 = 0
      · have e0 : (o.f0 == 0) = true := by simpa using c0'
        have LOF := Aside0.mk (li_of L3.out HP.out o.f3.f0)
        unfold wv at LOF
        clear c0'
        go_upto_region 10 with (first
          | (go_at_call 13; (refine LOF.out.mono ?_); rintro e w4 ⟨xo, Ao, ko, co, rfl, hb⟩; have B4 := Aside0.mk hb; clear hb)
          | ((with_reducible refine gate_dst (N := 7) rfl ?_); refine box_event ?hg (N := 7) ?hd (cs := #[.int .i64 0, .int .i64 0, .int .i64 0, .int .i64 0, .slice none 0 0, .int .i64 0, .int .i64 0, .int .i64 0, .int .i64 0, .int .u64 0]) (t := 48) ?hr ?_; (case hd => rfl); (case hg => rfl); (case hr => first | (go_simp; done) | (go_simp; rfl)); intro gy hgx w5 hbox hb; have B5 := Aside0.mk hb; have X5 := Aside0.mk hbox; have G5 := Aside0.mk hgx; clear hbox hb hgx)
          | (refine wpList_store_row rfl 48 (.tmp 7) (.tmp 45) rfl gy _ rfl rfl 48 _ X5.out info48s rfl (by simp [Value.oneCell']) ?_))
        clear LOF f0 f1 f2 f3 f4 f5 f6 f7 f8 f9 f10 f11 f12 e0
        have B6 := Aside0.mk (show Below w3.heap.size w3 (w5.setRow gy #[.int .i64 xo.f0, .int .i64 xo.f1, .int .i64 xo.f2, .int .i64 xo.f3, .slice Ao ko co, .int .i64 xo.f5, .int .i64 xo.f6, .int .i64 xo.f7, .int .i64 xo.f8, .int .u64 xo.f9]) from B4.out.trans ((show Below w4.heap.size w4 (w5.setRow gy #[.int .i64 xo.f0, .int .i64 xo.f1, .int .i64 xo.f2, .int .i64 xo.f3, .slice Ao ko co, .int .i64 xo.f5, .int .i64 xo.f6, .int .i64 xo.f7, .int .i64 xo.f8, .int .u64 xo.f9]) from rowb B5.out (by rw [G5.out]; exact Nat.le_refl _) _).mono B4.out.size))
        clear B5 X5 G5 B4
        generalize w5.setRow gy #[.int .i64 xo.f0, .int .i64 xo.f1, .int .i64 xo.f2, .int .i64 xo.f3, .slice Ao ko co, .int .i64 xo.f5, .int .i64 xo.f6, .int .i64 xo.f7, .int .i64 xo.f8, .int .u64 xo.f9] = w6 at *
        have X6 := Aside0.mk (blk_below X3.out B6.out)
        have L6 := Aside0.mk (L3.out.below B6.out)
        have HC6 := Aside0.mk (Kd.C_below HC3.out B6.out)
        clear X3 L3 HC3 B6
        have f3 : w6.cell? ⟨gx, 3, none⟩ = some (.int .i64 o.f3.f0) := (blk_cell X6.out 3).trans rfl
        have f4 : w6.cell? ⟨gx, 4, none⟩ = some (.int .i64 o.f3.f1) := (blk_cell X6.out 4).trans rfl
        have f5 : w6.cell? ⟨gx, 5, none⟩ = some (.int .i64 o.f3.f2) := (blk_cell X6.out 5).trans rfl
        have f6 : w6.cell? ⟨gx, 6, none⟩ = some (.int .i64 o.f3.f3) := (blk_cell X6.out 6).trans rfl
        have f7 : w6.cell? ⟨gx, 7, none⟩ = some (.slice A7 N7 c7) := (blk_cell X6.out 7).trans rfl
        have f8 : w6.cell? ⟨gx, 8, none⟩ = some (.int .i64 o.f3.f5) := (blk_cell X6.out 8).trans rfl
        have f9 : w6.cell? ⟨gx, 9, none⟩ = some (.int .i64 o.f3.f6) := (blk_cell X6.out 9).trans rfl
        have f10 : w6.cell? ⟨gx, 10, none⟩ = some (.int .i64 o.f3.f7) := (blk_cell X6.out 10).trans rfl
        have f11 : w6.cell? ⟨gx, 11, none⟩ = some (.int .i64 o.f3.f8) := (blk_cell X6.out 11).trans rfl
        have f12 : w6.cell? ⟨gx, 12, none⟩ = some (.int .u64 o.f3.f9) := (blk_cell X6.out 12).trans rfl
        have LOW := Aside0.mk (lown_any (w := w6) (A := A7) (c := c7) o.f3 HC6.out HL7.out)
        rw [← HN7.out] at LOW
        unfold wv at LOW
        go_upto_region 11 with (first
          | (go_at_call 15; (refine LOW.out.mono ?_); rintro e w7 ⟨v4, rfl, hs, hb⟩; obtain ⟨A5, c5, rfl⟩ := Kd.S_slice hs
             have LAD := Aside0.mk (li_addF (L6.out.below hb) HP.out HI60.out { o.f3 with f4 := cutA o.f3.f4 } (Kd.R_bound (Kd.S_R hs)) (fun k hk => by have h1 := L6.out.lt; have h2 : w6.heap.size ≤ k := hk.2.1; omega) (cutA_ok _))
             unfold wv at LAD; dsimp only at LAD; have X7 := Aside0.mk (blk_below X6.out hb); clear hs hb)
          | (go_at_call 14; (refine LAD.out.mono ?_); rintro e w8 ⟨r, last', ws', n', m', rfl, h, hp, hc⟩; have L8 := Aside0.mk h; have P8 := Aside0.mk hp; have CS := Aside0.mk hc; clear h hp hc))
        clear LOW f3 f4 f5 f6 f7 f8 f9 f10 f11 f12
        rcases CS.out with ⟨h1, h2, h3, h4⟩ | ⟨h1, h2, h3, h4⟩ | ⟨h1, h2, h3, h4, h5⟩ | ⟨h1, h2, h3, h4, h5, h6⟩
        · rw [h4]
          subst h3
          have HLR := Aside0.mk h2
          have hz : (last' = 0) = False := eq_false (by omega)
          have e1 : (last' == 0) = false := by simp; omega
          have hm0 : (last < last') = True := eq_true h2
          have e2 : decide (last' ≤ last) = false := decide_eq_false (by omega)
          clear h1 h2 h4 CS
          go_wp2
          exact HX _ _ _ _ _ _ _ _ _ _ _ _ _ _ _ _ _ _ _ _ _ _ _ _ _ _ _ _ _ _ _ _ _ _ _ _ _ _ _ _ _ _ _ _ _ _ _ _ _ _ _ _ _ _ _ _ _ _ _ _ _ _ _ _ _ _ _ _ _ _ _ _ _ _ _ _ _ _ _ _ _ _ _ _ _ _ _ _ _ _ _ _ _ _ _ _ _ _ _ _ _ _ _ _ _ _ _ _ _ _ _ _ _ _ _ _ _ _ _ _ last' ws' n' m' _ L8 P8
        · subst h1
          subst h3
          rw [h4]
          have hm0 : (last' < 0) = False := eq_false (by have := P8.out.la.1; omega)
          have f3 : w8.cell? ⟨gx, 3, none⟩ = some (.int .i64 o.f3.f0) := (blk_cell (blk_below X7.out h2) 3).trans rfl
          clear h2 h4 CS
          go_wp2
          exact HX _ _ _ _ _ _ _ _ _ _ _ _ _ _ _ _ _ _ _ _ _ _ _ _ _ _ _ _ _ _ _ _ _ _ _ _ _ _ _ _ _ _ _ _ _ _ _ _ _ _ _ _ _ _ _ _ _ _ _ _ _ _ _ _ _ _ _ _ _ _ _ _ _ _ _ _ _ _ _ _ _ _ _ _ _ _ _ _ _ _ _ _ _ _ _ _ _ _ _ _ _ _ _ _ _ _ _ _ _ _ _ _ _ _ _ _ _ _ _ _ last' ws' n' m' _ L8 P8
        · subst h1
          subst h3
          rw [h4]
          have hm0 : (last' < 0) = False := eq_false (by have := P8.out.la.1; omega)
          have f3 : w8.cell? ⟨gx, 3, none⟩ = some (.int .i64 o.f3.f0) := (blk_cell (blk_below X7.out h2) 3).trans rfl
          have e1 : decide (0 ≤ o.f3.f0) = false := decide_eq_false (by omega)
          clear h2 h4 h5 CS
          go_wp2
          exact HX _ _ _ _ _ _ _ _ _ _ _ _ _ _ _ _ _ _ _ _ _ _ _ _ _ _ _ _ _ _ _ _ _ _ _ _ _ _ _ _ _ _ _ _ _ _ _ _ _ _ _ _ _ _ _ _ _ _ _ _ _ _ _ _ _ _ _ _ _ _ _ _ _ _ _ _ _ _ _ _ _ _ _ _ _ _ _ _ _ _ _ _ _ _ _ _ _ _ _ _ _ _ _ _ _ _ _ _ _ _ _ _ _ _ _ _ _ _ _ _ last' ws' n' m' _ L8 P8
        · subst h1
          subst h3
          rw [h4]
          have hm0 : (last' < 0) = False := eq_false (by have := P8.out.la.1; omega)
          have f3 : w8.cell? ⟨gx, 3, none⟩ = some (.int .i64 o.f3.f0) := (blk_cell (blk_below X7.out h2) 3).trans rfl
          have e1 : decide (0 ≤ o.f3.f0) = true := decide_eq_true h5
          have e2 : decide (o.f3.f0 < 64) = false := decide_eq_false (by omega)
          clear h2 h4 h5 h6 CS
          go_wp2
          exact HX _ _ _ _ _ _ _ _ _ _ _ _ _ _ _ _ _ _ _ _ _ _ _ _ _ _ _ _ _ _ _ _ _ _ _ _ _ _ _ _ _ _ _ _ _ _ _ _ _ _ _ _ _ _ _ _ _ _ _ _ _ _ _ _ _ _ _ _ _ _ _ _ _ _ _ _ _ _ _ _ _ _ _ _ _ _ _ _ _ _ _ _ _ _ _ _ _ _ _ _ _ _ _ _ _ _ _ _ _ _ _ _ _ _ _ _ _ _ _ _ last' ws' n' m' _ L8 P8
      · have e0 : (o.f0 == 0) = false := by simpa using c0'
        clear c0'
        by_cases c1' : o.f0 = 1
        · have e1 : (o.f0 == 1) = true := by simpa using c1'
          clear c1'
          go_wp2_with (go_at_call 16; (refine (li_dropF L3.out HP.out HI60.out o.f1).mono ?_); rintro e w4 ⟨r, ws', n', m', rfl, h, hp⟩; have L8 := Aside0.mk h; have P8 := Aside0.mk hp; clear h hp)
          exact HX _ _ _ _ _ _ _ _ _ _ _ _ _ _ _ _ _ _ _ _ _ _ _ _ _ _ _ _ _ _ _ _ _ _ _ _ _ _ _ _ _ _ _ _ _ _ _ _ _ _ _ _ _ _ _ _ _ _ _ _ _ _ _ _ _ _ _ _ _ _ _ _ _ _ _ _ _ _ _ _ _ _ _ _ _ _ _ _ _ _ _ _ _ _ _ _ _ _ _ _ _ _ _ _ _ _ _ _ _ _ _ _ _ _ _ _ _ _ _ _ last ws' n' m' _ L8 P8
        · have e1 : (o.f0 == 1) = false := by simpa using c1'
          clear c1'
          go_wp2_with (go_at_call 17; (refine (li_turnF L3.out HP.out HI60.out o.f1 o.f2).mono ?_); rintro e w4 ⟨r, ws', n', m', rfl, h, hp⟩; have L8 := Aside0.mk h; have P8 := Aside0.mk hp; clear h hp)
          exact HX _ _ _ _ _ _ _ _ _ _ _ _ _ _ _ _ _ _ _ _ _ _ _ _ _ _ _ _ _ _ _ _ _ _ _ _ _ _ _ _ _ _ _ _ _ _ _ _ _ _ _ _ _ _ _ _ _ _ _ _ _ _ _ _ _ _ _ _ _ _ _ _ _ _ _ _ _ _ _ _ _ _ _ _ _ _ _ _ _ _ _ _ _ _ _ _ _ _ _ _ _ _ _ _ _ _ _ _ _ _ _ _ _ _ _ _ _ _ _ _ last ws' n' m' _ L8 P8
    · have hk50 : ¬ (i < n ∧ i < 50) := hgo
      have HLV := Aside0.mk HS.out.bel
      clear hgo
      by_cases hin : i < n
      · have d1 : decide ((i : Int) < (n : Int)) = true := decide_eq_true (by omega)
        have d2 : decide (i < n) = true := decide_eq_true hin
        have d3 : decide ((i : Int) < 50) = false := decide_eq_false (by omega)
        have d4 : decide (i < 50) = false := decide_eq_false (by omega)
        clear hin hk50
        go_wp2_with (go_at_call 19; (refine (lives_any _).mono ?_); rintro e wl ⟨rfl, hb⟩; have HL := Aside0.mk (below_step HLV.out hb); clear hb)
        go_ret
        exact ⟨rfl, HL.out⟩
      · have d1 : decide ((i : Int) < (n : Int)) = false := decide_eq_false (by omega)
        have d2 : decide (i < n) = false := decide_eq_false hin
        clear hin hk50
        go_wp2_with (go_at_call 19; (refine (lives_any _).mono ?_); rintro e wl ⟨rfl, hb⟩; have HL := Aside0.mk (below_step HLV.out hb); clear hb)
        go_ret
        exact ⟨rfl, HL.out⟩
end Go.Proofs.Ytakbhnfmimnbhaa.lineRisesW
