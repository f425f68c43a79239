/- Go functions as plain Lean functions, and that the calls come to them. Conditions: none. (Written by a program of this session.) -/
import Derived.Test.YtbfbegleffkafaaDoorPGraphTellsx0
import Derived.Test.YtbfbegleffkafaaDoorPGraphTellsx3
import Derived.Test.YtbfbegleffkafaaDoorPGraphTellsx5
namespace Go.Proofs.YtbfbegleffkafaaDoor.PGraphTells
open Go.RowKit Go.Proofs.YtbfbegleffkafaaDoorW.PrintWords Go.Proofs.YtbfbegleffkafaaDoorW.PrintLast Go.Proofs.YtbfbegleffkafaaDoorW.PrintMore
attribute [local go_sem] max2_int min2_int max_two min_two max_three min_three max_four min_four   -- for this text's walks alone
set_option linter.unusedVariables false
set_option linter.unusedSimpArgs false

/-! ### graph_Met: function 27 -/
def graph_Met.f (k : Nat) (l0 : List (S44)) (a1 : Int) (a2 : Int) : Option (Bool) := if a1 ≥ 0 then (if a1 < (l0.length : Int) then (if 0 ≤ a1 then ((bits_All.f (l0.length : Int)).bind fun t167 => ((graph_met.f k ((rd_T44 l0 a1).f0) ((rd_T44 l0 a1).f1) (Go.bits .and .u64 a2 t167)).bind fun t168 => (some t168))) else (none)) else (some false)) else (some false)
theorem graph_Met.mono : ∀ a0 a1 a2 k, LeO (graph_Met.f k a0 a1 a2) (graph_Met.f (k + 1) a0 a1 a2) := by
  intro a0 a1 a2 k
  unfold graph_Met.f
  repeat' first
      | (with_reducible exact graph_met.mono _ _ _ _)
      | (with_reducible exact LeO.refl _)
      | (with_reducible exact LeO.none _)
      | (with_reducible refine LeO.ite ?_ ?_)
      | (with_reducible refine LeO.bind ?_ (fun _=>?_))
      | exact graph_met.mono _ _ _ _
      | exact LeO.none _
      | refine LeO.ite ?_ ?_
      | refine LeO.bind ?_ (fun _=>?_)
def graph_Met.T1 : Bool × List (List Nat × List Nat) := (true, [([], []), ([0], [0]), ([1], [1]), ([2], [2]), ([2], [2]), ([4, 2], [2, 4]), ([3, 5, 2], [2, 3, 5]), ([2, 6], [2, 6]), ([7, 2], [7]), ([8], [8]), ([8], [8]), ([9, 10, 8], [8, 9, 10]), ([11, 8], [8, 11]), ([8], [8]), ([8], [8]), ([14, 8], [8, 14]), ([15, 8, 8], [8, 15]), ([13, 16, 8], [8, 13, 16]), ([12, 17, 16, 8], [8, 12, 17]), ([8, 18], [8, 18]), ([19, 18, 0, 1, 2, 3, 4, 5, 6, 7, 8, 9, 10, 11, 12, 13, 14, 15, 16, 17, 18, 19], [19])])
def graph_Met.B1 : List Nat := [0, 1, 3, 7, 7, 23, 63, 127, 255, 511, 511, 2047, 4095, 511, 511, 16895, 49663, 123391, 262143, 524287, 1048575]
theorem graph_Met.tab1 : rtab .any (opsOf Tryd.f27 1) = graph_Met.T1 := by kernel_rfl
theorem graph_Met.bits1 : waitsOk graph_Met.T1.2 graph_Met.B1 = true := by kernel_rfl
set_option maxHeartbeats 8000000 in
set_option maxRecDepth 100000 in
theorem graph_Met.calls (k : Nat) (A0 : Option Addr) (c0 : Nat) (l0 : List (S44)) (a1 : Int) (a2 : Int) (r : Bool) (w : World) (hr0 : Kd.C k44 w A0 l0.length l0) (hc0 : l0.length ≤ c0) (h : graph_Met.f k l0 a1 a2 = some r) :
    Calls Tryd.prog 27 #[.slice A0 l0.length c0,.int .i64 a1,.int .u64 a2] w fun e w'=>e = .returned (.bool r) ∧ Below w.heap.size w w':=by
  have hu44:=Tryd.underlying44;have HR0:=A0_ hr0;have HC0:=A0_ hc0;clear hr0 hc0;have HB:=A0_ (Below.refl w.heap.size w);have H : (if a1 ≥ 0 then (if a1 < (l0.length : Int) then (if 0 ≤ a1 then ((bits_All.f (l0.length : Int)).bind fun t167=>((graph_met.f k ((rd_T44 l0 a1).f0) ((rd_T44 l0 a1).f1) (Go.bits .and .u64 a2 t167)).bind fun t168=>(some t168))) else (none)) else (some false)) else (some false)) = some r:=h;clear h;by_cases c4 : a1 ≥ 0;rotate_left
  · rw [if_neg c4] at H
    have c4b0 : decide (0 ≤ a1) = false:=decide_eq_false c4;clear c4;obtain rfl:=Option.some.inj H;go_enter Tryd.func27,Tryd.ntmps27
    try go_wp2
    have n0_:=A0_ (b1_ HB.out);clear HB;have HB:=n0_;clear n0_;refine start_ (n:=21) (S:=fun w'=>True) (ds:=[]) #[false,false,false,false,false,false,false,false,false,false,false,false,false,false,false,false,false,false,false,false,false] (by kernel_rfl) rfl rfl trivial (fun hHeld=>?_);refine with_tabW graph_Met.tab1 graph_Met.bits1 (fun HT_ HW_=>?_)
    generalize w.drew = w12 at HB hHeld ⊢
    refine pure_ (i:=0) (N:=some 7) (v:=?_) (a':=?_) #[true,false,false,false,false,false,false,false,false,false,false,false,false,false,false,false,false,false,false,false,false] rfl rfl (any_of HT_.out (by kernel_rfl)) (fun _ _ _ h=>h) (Or.inl ⟨by rfl,?_⟩) ?_ ?_;rotate_left
    · intro w'
      go_simp
      with_reducible rfl
    rotate_left
    · simp only [Act.put,sA_,sZ_,sS_,i64_w,i32_w]
      rfl
    refine pure_ (i:=1) (N:=some 8) (v:=?_) (a':=?_) #[true,true,false,false,false,false,false,false,false,false,false,false,false,false,false,false,false,false,false,false,false] rfl rfl (any_of HT_.out (by kernel_rfl)) (fun _ _ _ h=>h) (Or.inl ⟨by rfl,?_⟩) ?_ ?_;rotate_left
    · intro w'
      go_simp
      with_reducible rfl
    rotate_left
    · simp only [Act.put,sA_,sZ_,sS_,i64_w,i32_w]
      rfl
    refine pure_ (i:=2) (N:=some 9) (v:=?_) (a':=?_) #[true,true,true,false,false,false,false,false,false,false,false,false,false,false,false,false,false,false,false,false,false] rfl rfl (any_of HT_.out (by kernel_rfl)) (fun _ _ _ h=>h) (Or.inl ⟨by rfl,?_⟩) ?_ ?_;rotate_left
    · intro w'
      go_simp
      with_reducible rfl
    rotate_left
    · simp only [Act.put,sA_,sZ_,sS_,i64_w,i32_w]
      rfl
    refine pure_ (i:=3) (N:=some 10) (v:=undef) (a':=?_) #[true,true,true,true,false,false,false,false,false,false,false,false,false,false,false,false,false,false,false,false,false] rfl rfl (any_of HT_.out (by kernel_rfl)) (fun _ _ _ h=>h) (Or.inr ⟨by rfl,rfl⟩) ?_ ?_;rotate_left
    · simp only [Act.put,sA_,sZ_,sS_,i64_w,i32_w]
      rfl
    refine pure_ (i:=4) (N:=some 11) (v:=undef) (a':=?_) #[true,true,true,true,true,false,false,false,false,false,false,false,false,false,false,false,false,false,false,false,false] rfl rfl (any_of HT_.out (by kernel_rfl)) (fun _ _ _ h=>h) (Or.inr ⟨by rfl,rfl⟩) ?_ ?_;rotate_left
    · simp only [Act.put,sA_,sZ_,sS_,i64_w,i32_w]
      rfl
    refine pure_ (i:=5) (N:=some 12) (v:=undef) (a':=?_) #[true,true,true,true,true,true,false,false,false,false,false,false,false,false,false,false,false,false,false,false,false] rfl rfl (any_of HT_.out (by kernel_rfl)) (fun _ _ _ h=>h) (Or.inr ⟨by rfl,rfl⟩) ?_ ?_;rotate_left
    · simp only [Act.put,sA_,sZ_,sS_,i64_w,i32_w]
      rfl
    refine pure_ (i:=6) (N:=some 13) (v:=undef) (a':=?_) #[true,true,true,true,true,true,true,false,false,false,false,false,false,false,false,false,false,false,false,false,false] rfl rfl (any_of HT_.out (by kernel_rfl)) (fun _ _ _ h=>h) (Or.inr ⟨by rfl,rfl⟩) ?_ ?_;rotate_left
    · simp only [Act.put,sA_,sZ_,sS_,i64_w,i32_w]
      rfl
    refine pure_ (i:=7) (N:=some 14) (v:=?_) (a':=?_) #[true,true,true,true,true,true,true,true,false,false,false,false,false,false,false,false,false,false,false,false,false] rfl rfl (any_of HT_.out (by kernel_rfl)) (fun _ _ _ h=>h) (Or.inl ⟨by rfl,?_⟩) ?_ ?_;rotate_left
    · intro w'
      go_simp
      with_reducible rfl
    rotate_left
    · simp only [Act.put,sA_,sZ_,sS_,i64_w,i32_w]
      rfl
    refine pure_ (i:=8) (N:=some 15) (v:=?_) (a':=?_) #[true,true,true,true,true,true,true,true,true,false,false,false,false,false,false,false,false,false,false,false,false] rfl rfl (any_of HT_.out (by kernel_rfl)) (fun _ _ _ h=>h) (Or.inl ⟨by rfl,?_⟩) ?_ ?_;rotate_left
    · intro w'
      go_simp
      with_reducible rfl
    rotate_left
    · simp only [Act.put,sA_,sZ_,sS_,i64_w,i32_w]
      rfl
    refine pure_ (i:=9) (N:=some 16) (v:=undef) (a':=?_) #[true,true,true,true,true,true,true,true,true,true,false,false,false,false,false,false,false,false,false,false,false] rfl rfl (any_of HT_.out (by kernel_rfl)) (fun _ _ _ h=>h) (Or.inr ⟨by rfl,rfl⟩) ?_ ?_;rotate_left
    · simp only [Act.put,sA_,sZ_,sS_,i64_w,i32_w]
      rfl
    refine pure_ (i:=10) (N:=some 17) (v:=undef) (a':=?_) #[true,true,true,true,true,true,true,true,true,true,true,false,false,false,false,false,false,false,false,false,false] rfl rfl (any_of HT_.out (by kernel_rfl)) (fun _ _ _ h=>h) (Or.inr ⟨by rfl,rfl⟩) ?_ ?_;rotate_left
    · simp only [Act.put,sA_,sZ_,sS_,i64_w,i32_w]
      rfl
    refine pure_ (i:=11) (N:=some 18) (v:=undef) (a':=?_) #[true,true,true,true,true,true,true,true,true,true,true,true,false,false,false,false,false,false,false,false,false] rfl rfl (any_of HT_.out (by kernel_rfl)) (fun _ _ _ h=>h) (Or.inr ⟨by rfl,rfl⟩) ?_ ?_;rotate_left
    · simp only [Act.put,sA_,sZ_,sS_,i64_w,i32_w]
      rfl
    refine pure_ (i:=12) (N:=some 19) (v:=undef) (a':=?_) #[true,true,true,true,true,true,true,true,true,true,true,true,true,false,false,false,false,false,false,false,false] rfl rfl (any_of HT_.out (by kernel_rfl)) (fun _ _ _ h=>h) (Or.inr ⟨by rfl,rfl⟩) ?_ ?_;rotate_left
    · simp only [Act.put,sA_,sZ_,sS_,i64_w,i32_w]
      rfl
    refine pure_ (i:=13) (N:=some 20) (v:=undef) (a':=?_) #[true,true,true,true,true,true,true,true,true,true,true,true,true,true,false,false,false,false,false,false,false] rfl rfl (any_of HT_.out (by kernel_rfl)) (fun _ _ _ h=>h) (Or.inr ⟨by rfl,rfl⟩) ?_ ?_;rotate_left
    · simp only [Act.put,sA_,sZ_,sS_,i64_w,i32_w]
      rfl
    refine pure_ (i:=14) (N:=some 21) (v:=undef) (a':=?_) #[true,true,true,true,true,true,true,true,true,true,true,true,true,true,true,false,false,false,false,false,false] rfl rfl (any_of HT_.out (by kernel_rfl)) (fun _ _ _ h=>h) (Or.inr ⟨by rfl,rfl⟩) ?_ ?_;rotate_left
    · simp only [Act.put,sA_,sZ_,sS_,i64_w,i32_w]
      rfl
    refine pure_ (i:=15) (N:=some 22) (v:=undef) (a':=?_) #[true,true,true,true,true,true,true,true,true,true,true,true,true,true,true,true,false,false,false,false,false] rfl rfl (any_of HT_.out (by kernel_rfl)) (fun _ _ _ h=>h) (Or.inr ⟨by rfl,rfl⟩) ?_ ?_;rotate_left
    · simp only [Act.put,sA_,sZ_,sS_,i64_w,i32_w]
      rfl
    refine pure_ (i:=16) (N:=some 23) (v:=undef) (a':=?_) #[true,true,true,true,true,true,true,true,true,true,true,true,true,true,true,true,true,false,false,false,false] rfl rfl (any_of HT_.out (by kernel_rfl)) (fun _ _ _ h=>h) (Or.inr ⟨by rfl,rfl⟩) ?_ ?_;rotate_left
    · simp only [Act.put,sA_,sZ_,sS_,i64_w,i32_w]
      rfl
    refine pure_ (i:=17) (N:=some 24) (v:=undef) (a':=?_) #[true,true,true,true,true,true,true,true,true,true,true,true,true,true,true,true,true,true,false,false,false] rfl rfl (any_of HT_.out (by kernel_rfl)) (fun _ _ _ h=>h) (Or.inr ⟨by rfl,rfl⟩) ?_ ?_;rotate_left
    · simp only [Act.put,sA_,sZ_,sS_,i64_w,i32_w]
      rfl
    refine pure_ (i:=18) (N:=some 25) (v:=undef) (a':=?_) #[true,true,true,true,true,true,true,true,true,true,true,true,true,true,true,true,true,true,true,false,false] rfl rfl (any_of HT_.out (by kernel_rfl)) (fun _ _ _ h=>h) (Or.inr ⟨by rfl,rfl⟩) ?_ ?_;rotate_left
    · simp only [Act.put,sA_,sZ_,sS_,i64_w,i32_w]
      rfl
    refine pure_ (i:=19) (N:=some 26) (v:=?_) (a':=?_) #[true,true,true,true,true,true,true,true,true,true,true,true,true,true,true,true,true,true,true,true,false] rfl rfl (any_of HT_.out (by kernel_rfl)) (fun _ _ _ h=>h) (Or.inl ⟨by rfl,?_⟩) ?_ ?_;rotate_left
    · intro w'
      go_simp
      with_reducible rfl
    rotate_left
    · simp only [Act.put,sA_,sZ_,sS_,i64_w,i32_w]
      rfl
    refine pure_ (i:=20) (N:=some 6) (v:=?_) (a':=?_) #[true,true,true,true,true,true,true,true,true,true,true,true,true,true,true,true,true,true,true,true,true] rfl rfl (any_of HT_.out (by kernel_rfl)) (fun _ _ _ h=>h) (Or.inl ⟨by rfl,?_⟩) ?_ ?_;rotate_left
    · intro w'
      go_simp
      with_reducible rfl
    rotate_left
    · simp only [Act.put,sA_,sZ_,sS_,i64_w,i32_w]
      rfl
    refine done_ (done_of HT_.out (by kernel_rfl)) ?_
    try go_wp2
    go_ret;exact ⟨by first|rfl|(simp [errW_none,errW_some] <;> rfl)|(simp [*,errW_none,errW_some] <;> rfl),by repeat (first|(with_reducible first|exact HB.out|apply ba_|apply pN_|apply b1_)|exact HB.out)⟩

  rw [if_pos c4] at H;have c4b0 : decide (0 ≤ a1) = true:=decide_eq_true c4;clear c4;by_cases c5 : a1 < (l0.length : Int);rotate_left
  · rw [if_neg c5] at H
    have c5b0 : decide (a1 < (l0.length : Int)) = false:=decide_eq_false c5;clear c5;obtain rfl:=Option.some.inj H;go_enter Tryd.func27,Tryd.ntmps27
    try go_wp2
    have n0_:=A0_ (b1_ HB.out);clear HB;have HB:=n0_;clear n0_;refine start_ (n:=21) (S:=fun w'=>True) (ds:=[]) #[false,false,false,false,false,false,false,false,false,false,false,false,false,false,false,false,false,false,false,false,false] (by kernel_rfl) rfl rfl trivial (fun hHeld=>?_);refine with_tabW graph_Met.tab1 graph_Met.bits1 (fun HT_ HW_=>?_)
    generalize w.drew = w11 at HB hHeld ⊢
    refine pure_ (i:=0) (N:=some 7) (v:=?_) (a':=?_) #[true,false,false,false,false,false,false,false,false,false,false,false,false,false,false,false,false,false,false,false,false] rfl rfl (any_of HT_.out (by kernel_rfl)) (fun _ _ _ h=>h) (Or.inl ⟨by rfl,?_⟩) ?_ ?_;rotate_left
    · intro w'
      go_simp
      with_reducible rfl
    rotate_left
    · simp only [Act.put,sA_,sZ_,sS_,i64_w,i32_w]
      rfl
    refine pure_ (i:=1) (N:=some 8) (v:=?_) (a':=?_) #[true,true,false,false,false,false,false,false,false,false,false,false,false,false,false,false,false,false,false,false,false] rfl rfl (any_of HT_.out (by kernel_rfl)) (fun _ _ _ h=>h) (Or.inl ⟨by rfl,?_⟩) ?_ ?_;rotate_left
    · intro w'
      go_simp
      with_reducible rfl
    rotate_left
    · simp only [Act.put,sA_,sZ_,sS_,i64_w,i32_w]
      rfl
    refine pure_ (i:=2) (N:=some 9) (v:=?_) (a':=?_) #[true,true,true,false,false,false,false,false,false,false,false,false,false,false,false,false,false,false,false,false,false] rfl rfl (any_of HT_.out (by kernel_rfl)) (fun _ _ _ h=>h) (Or.inl ⟨by rfl,?_⟩) ?_ ?_;rotate_left
    · intro w'
      go_simp
      with_reducible rfl
    rotate_left
    · simp only [Act.put,sA_,sZ_,sS_,i64_w,i32_w]
      rfl
    refine pure_ (i:=3) (N:=some 10) (v:=?_) (a':=?_) #[true,true,true,true,false,false,false,false,false,false,false,false,false,false,false,false,false,false,false,false,false] rfl rfl (any_of HT_.out (by kernel_rfl)) (fun _ _ _ h=>h) (Or.inl ⟨by rfl,?_⟩) ?_ ?_;rotate_left
    · intro w'
      go_simp
      with_reducible rfl
    rotate_left
    · simp only [Act.put,sA_,sZ_,sS_,i64_w,i32_w]
      rfl
    refine pure_ (i:=4) (N:=some 11) (v:=?_) (a':=?_) #[true,true,true,true,true,false,false,false,false,false,false,false,false,false,false,false,false,false,false,false,false] rfl rfl (any_of HT_.out (by kernel_rfl)) (fun _ _ _ h=>h) (Or.inl ⟨by rfl,?_⟩) ?_ ?_;rotate_left
    · intro w'
      go_simp
      with_reducible rfl
    rotate_left
    · simp only [Act.put,sA_,sZ_,sS_,i64_w,i32_w]
      rfl
    refine pure_ (i:=5) (N:=some 12) (v:=?_) (a':=?_) #[true,true,true,true,true,true,false,false,false,false,false,false,false,false,false,false,false,false,false,false,false] rfl rfl (any_of HT_.out (by kernel_rfl)) (fun _ _ _ h=>h) (Or.inl ⟨by rfl,?_⟩) ?_ ?_;rotate_left
    · intro w'
      go_simp
      with_reducible rfl
    rotate_left
    · simp only [Act.put,sA_,sZ_,sS_,i64_w,i32_w]
      rfl
    refine pure_ (i:=6) (N:=some 13) (v:=?_) (a':=?_) #[true,true,true,true,true,true,true,false,false,false,false,false,false,false,false,false,false,false,false,false,false] rfl rfl (any_of HT_.out (by kernel_rfl)) (fun _ _ _ h=>h) (Or.inl ⟨by rfl,?_⟩) ?_ ?_;rotate_left
    · intro w'
      go_simp
      with_reducible rfl
    rotate_left
    · simp only [Act.put,sA_,sZ_,sS_,i64_w,i32_w]
      rfl
    refine pure_ (i:=7) (N:=some 14) (v:=?_) (a':=?_) #[true,true,true,true,true,true,true,true,false,false,false,false,false,false,false,false,false,false,false,false,false] rfl rfl (any_of HT_.out (by kernel_rfl)) (fun _ _ _ h=>h) (Or.inl ⟨by rfl,?_⟩) ?_ ?_;rotate_left
    · intro w'
      go_simp
      with_reducible rfl
    rotate_left
    · simp only [Act.put,sA_,sZ_,sS_,i64_w,i32_w]
      rfl
    refine pure_ (i:=8) (N:=some 15) (v:=?_) (a':=?_) #[true,true,true,true,true,true,true,true,true,false,false,false,false,false,false,false,false,false,false,false,false] rfl rfl (any_of HT_.out (by kernel_rfl)) (fun _ _ _ h=>h) (Or.inl ⟨by rfl,?_⟩) ?_ ?_;rotate_left
    · intro w'
      go_simp
      with_reducible rfl
    rotate_left
    · simp only [Act.put,sA_,sZ_,sS_,i64_w,i32_w]
      rfl
    refine pure_ (i:=9) (N:=some 16) (v:=undef) (a':=?_) #[true,true,true,true,true,true,true,true,true,true,false,false,false,false,false,false,false,false,false,false,false] rfl rfl (any_of HT_.out (by kernel_rfl)) (fun _ _ _ h=>h) (Or.inr ⟨by rfl,rfl⟩) ?_ ?_;rotate_left
    · simp only [Act.put,sA_,sZ_,sS_,i64_w,i32_w]
      rfl
    refine pure_ (i:=10) (N:=some 17) (v:=undef) (a':=?_) #[true,true,true,true,true,true,true,true,true,true,true,false,false,false,false,false,false,false,false,false,false] rfl rfl (any_of HT_.out (by kernel_rfl)) (fun _ _ _ h=>h) (Or.inr ⟨by rfl,rfl⟩) ?_ ?_;rotate_left
    · simp only [Act.put,sA_,sZ_,sS_,i64_w,i32_w]
      rfl
    refine pure_ (i:=11) (N:=some 18) (v:=undef) (a':=?_) #[true,true,true,true,true,true,true,true,true,true,true,true,false,false,false,false,false,false,false,false,false] rfl rfl (any_of HT_.out (by kernel_rfl)) (fun _ _ _ h=>h) (Or.inr ⟨by rfl,rfl⟩) ?_ ?_;rotate_left
    · simp only [Act.put,sA_,sZ_,sS_,i64_w,i32_w]
      rfl
    refine pure_ (i:=12) (N:=some 19) (v:=undef) (a':=?_) #[true,true,true,true,true,true,true,true,true,true,true,true,true,false,false,false,false,false,false,false,false] rfl rfl (any_of HT_.out (by kernel_rfl)) (fun _ _ _ h=>h) (Or.inr ⟨by rfl,rfl⟩) ?_ ?_;rotate_left
    · simp only [Act.put,sA_,sZ_,sS_,i64_w,i32_w]
      rfl
    refine pure_ (i:=13) (N:=some 20) (v:=undef) (a':=?_) #[true,true,true,true,true,true,true,true,true,true,true,true,true,true,false,false,false,false,false,false,false] rfl rfl (any_of HT_.out (by kernel_rfl)) (fun _ _ _ h=>h) (Or.inr ⟨by rfl,rfl⟩) ?_ ?_;rotate_left
    · simp only [Act.put,sA_,sZ_,sS_,i64_w,i32_w]
      rfl
    refine pure_ (i:=14) (N:=some 21) (v:=undef) (a':=?_) #[true,true,true,true,true,true,true,true,true,true,true,true,true,true,true,false,false,false,false,false,false] rfl rfl (any_of HT_.out (by kernel_rfl)) (fun _ _ _ h=>h) (Or.inr ⟨by rfl,rfl⟩) ?_ ?_;rotate_left
    · simp only [Act.put,sA_,sZ_,sS_,i64_w,i32_w]
      rfl
    refine pure_ (i:=15) (N:=some 22) (v:=undef) (a':=?_) #[true,true,true,true,true,true,true,true,true,true,true,true,true,true,true,true,false,false,false,false,false] rfl rfl (any_of HT_.out (by kernel_rfl)) (fun _ _ _ h=>h) (Or.inr ⟨by rfl,rfl⟩) ?_ ?_;rotate_left
    · simp only [Act.put,sA_,sZ_,sS_,i64_w,i32_w]
      rfl
    refine pure_ (i:=16) (N:=some 23) (v:=undef) (a':=?_) #[true,true,true,true,true,true,true,true,true,true,true,true,true,true,true,true,true,false,false,false,false] rfl rfl (any_of HT_.out (by kernel_rfl)) (fun _ _ _ h=>h) (Or.inr ⟨by rfl,rfl⟩) ?_ ?_;rotate_left
    · simp only [Act.put,sA_,sZ_,sS_,i64_w,i32_w]
      rfl
    refine pure_ (i:=17) (N:=some 24) (v:=undef) (a':=?_) #[true,true,true,true,true,true,true,true,true,true,true,true,true,true,true,true,true,true,false,false,false] rfl rfl (any_of HT_.out (by kernel_rfl)) (fun _ _ _ h=>h) (Or.inr ⟨by rfl,rfl⟩) ?_ ?_;rotate_left
    · simp only [Act.put,sA_,sZ_,sS_,i64_w,i32_w]
      rfl
    refine pure_ (i:=18) (N:=some 25) (v:=undef) (a':=?_) #[true,true,true,true,true,true,true,true,true,true,true,true,true,true,true,true,true,true,true,false,false] rfl rfl (any_of HT_.out (by kernel_rfl)) (fun _ _ _ h=>h) (Or.inr ⟨by rfl,rfl⟩) ?_ ?_;rotate_left
    · simp only [Act.put,sA_,sZ_,sS_,i64_w,i32_w]
      rfl
    refine pure_ (i:=19) (N:=some 26) (v:=?_) (a':=?_) #[true,true,true,true,true,true,true,true,true,true,true,true,true,true,true,true,true,true,true,true,false] rfl rfl (any_of HT_.out (by kernel_rfl)) (fun _ _ _ h=>h) (Or.inl ⟨by rfl,?_⟩) ?_ ?_;rotate_left
    · intro w'
      go_simp
      with_reducible rfl
    rotate_left
    · simp only [Act.put,sA_,sZ_,sS_,i64_w,i32_w]
      rfl
    refine pure_ (i:=20) (N:=some 6) (v:=?_) (a':=?_) #[true,true,true,true,true,true,true,true,true,true,true,true,true,true,true,true,true,true,true,true,true] rfl rfl (any_of HT_.out (by kernel_rfl)) (fun _ _ _ h=>h) (Or.inl ⟨by rfl,?_⟩) ?_ ?_;rotate_left
    · intro w'
      go_simp
      with_reducible rfl
    rotate_left
    · simp only [Act.put,sA_,sZ_,sS_,i64_w,i32_w]
      rfl
    refine done_ (done_of HT_.out (by kernel_rfl)) ?_
    try go_wp2
    go_ret;exact ⟨by first|rfl|(simp [errW_none,errW_some] <;> rfl)|(simp [*,errW_none,errW_some] <;> rfl),by repeat (first|(with_reducible first|exact HB.out|apply ba_|apply pN_|apply b1_)|exact HB.out)⟩
  rw [if_pos c5] at H;have c5b0 : decide (a1 < (l0.length : Int)) = true:=decide_eq_true c5;clear c5;by_cases c6 : 0 ≤ a1;rotate_left
  · rw [if_neg c6] at H
    exact absurd H (by simp)
  rw [if_pos c6] at H;have c6b0 : decide (0 ≤ a1) = true:=decide_eq_true c6;clear c6;replace H:=bm_ H;obtain ⟨t167,A70,H⟩:=H;replace H : ((graph_met.f k ((rd_T44 l0 a1).f0) ((rd_T44 l0 a1).f1) (Go.bits .and .u64 a2 t167)).bind fun t168=>(some t168)) = some r:=H;have A7:=A0_ A70;clear A70;replace H:=bm_ H;obtain ⟨t168,A80,H⟩:=H;replace H : (some t168) = some r:=H;have A8:=A0_ A80;clear A80;obtain rfl:=Option.some.inj H;go_enter Tryd.func27,Tryd.ntmps27
  try go_wp2
  have n0_:=A0_ (b1_ HB.out);clear HB;have HB:=n0_;clear n0_;have p166 : 0 ≤ (a1 : Int):=of_decide_eq_true (by first|(with_reducible assumption)|assumption);have q166 : a1 < (l0.length : Int):=of_decide_eq_true (by first|(with_reducible assumption)|assumption);obtain ⟨ad166,A166_1,c166_1,e166,hx166_0,hx166_1,hl166_1,hi166_1⟩:=at_T44 HR0.out a1 p166 q166;have hw166_1:=hx166_1;have hw166_0:=hx166_0;cases e166;replace hx166_0:=(HB.out.cell (bl_ w _ hx166_0)).trans hx166_0;replace hx166_1:=(HB.out.cell (bl_ w _ hx166_1)).trans hx166_1;have HR166_1:=A0_ hi166_1;have HC166_1:=A0_ hl166_1;clear hi166_1 hl166_1;replace p166:=eq_true p166;replace q166:=eq_true q166;refine start_ (n:=21) (S:=fun w'=>w'.cell? (ad166.add ((a1).toNat * 2)) = some (.bool ((rd_T44 l0 a1).f0)) ∧ w'.cell? ⟨(ad166.add ((a1).toNat * 2)).block,(ad166.add ((a1).toNat * 2)).off + 1,none⟩ = some (.slice A166_1 ((rd_T44 l0 a1).f1).length c166_1)) (ds:=[]) #[false,false,false,false,false,false,false,false,false,false,false,false,false,false,false,false,false,false,false,false,false] (by kernel_rfl) rfl rfl ⟨((HB.out.cell (bl_ w _ hw166_0)).trans hw166_0),((HB.out.cell (bl_ w _ hw166_1)).trans hw166_1)⟩ (fun hHeld=>?_);refine with_tabW graph_Met.tab1 graph_Met.bits1 (fun HT_ HW_=>?_)
  generalize w.drew = w9 at HB HR166_1 hx166_0 hx166_1 hHeld ⊢
  refine pure_ (i:=0) (N:=some 7) (v:=?_) (a':=?_) #[true,false,false,false,false,false,false,false,false,false,false,false,false,false,false,false,false,false,false,false,false] rfl rfl (any_of HT_.out (by kernel_rfl)) (fun _ _ _ h=>h) (Or.inl ⟨by rfl,?_⟩) ?_ ?_;rotate_left
  · intro w'
    go_simp
    with_reducible rfl
  rotate_left
  · simp only [Act.put,sA_,sZ_,sS_,i64_w,i32_w]
    rfl
  refine pure_ (i:=1) (N:=some 8) (v:=?_) (a':=?_) #[true,true,false,false,false,false,false,false,false,false,false,false,false,false,false,false,false,false,false,false,false] rfl rfl (any_of HT_.out (by kernel_rfl)) (fun _ _ _ h=>h) (Or.inl ⟨by rfl,?_⟩) ?_ ?_;rotate_left
  · intro w'
    go_simp
    with_reducible rfl
  rotate_left
  · simp only [Act.put,sA_,sZ_,sS_,i64_w,i32_w]
    rfl
  refine pure_ (i:=2) (N:=some 9) (v:=?_) (a':=?_) #[true,true,true,false,false,false,false,false,false,false,false,false,false,false,false,false,false,false,false,false,false] rfl rfl (any_of HT_.out (by kernel_rfl)) (fun _ _ _ h=>h) (Or.inl ⟨by rfl,?_⟩) ?_ ?_;rotate_left
  · intro w'
    go_simp
    with_reducible rfl
  rotate_left
  · simp only [Act.put,sA_,sZ_,sS_,i64_w,i32_w]
    rfl
  refine pure_ (i:=3) (N:=some 10) (v:=?_) (a':=?_) #[true,true,true,true,false,false,false,false,false,false,false,false,false,false,false,false,false,false,false,false,false] rfl rfl (any_of HT_.out (by kernel_rfl)) (fun _ _ _ h=>h) (Or.inl ⟨by rfl,?_⟩) ?_ ?_;rotate_left
  · intro w'
    go_simp
    with_reducible rfl
  rotate_left
  · simp only [Act.put,sA_,sZ_,sS_,i64_w,i32_w]
    rfl
  refine pure_ (i:=4) (N:=some 11) (v:=?_) (a':=?_) #[true,true,true,true,true,false,false,false,false,false,false,false,false,false,false,false,false,false,false,false,false] rfl rfl (any_of HT_.out (by kernel_rfl)) (fun _ _ _ h=>h) (Or.inl ⟨by rfl,?_⟩) ?_ ?_;rotate_left
  · intro w'
    go_simp
    with_reducible rfl
  rotate_left
  · simp only [Act.put,sA_,sZ_,sS_,i64_w,i32_w]
    rfl
  refine pure_ (i:=5) (N:=some 12) (v:=?_) (a':=?_) #[true,true,true,true,true,true,false,false,false,false,false,false,false,false,false,false,false,false,false,false,false] rfl rfl (any_of HT_.out (by kernel_rfl)) (fun _ _ _ h=>h) (Or.inl ⟨by rfl,?_⟩) ?_ ?_;rotate_left
  · intro w'
    go_simp
    with_reducible rfl
  rotate_left
  · simp only [Act.put,sA_,sZ_,sS_,i64_w,i32_w]
    rfl
  refine pure_ (i:=6) (N:=some 13) (v:=?_) (a':=?_) #[true,true,true,true,true,true,true,false,false,false,false,false,false,false,false,false,false,false,false,false,false] rfl rfl (any_of HT_.out (by kernel_rfl)) (fun _ _ _ h=>h) (Or.inl ⟨by rfl,?_⟩) ?_ ?_;rotate_left
  · intro w'
    go_simp
    with_reducible rfl
  rotate_left
  · simp only [Act.put,sA_,sZ_,sS_,i64_w,i32_w]
    rfl
  refine pure_ (i:=7) (N:=some 14) (v:=?_) (a':=?_) #[true,true,true,true,true,true,true,true,false,false,false,false,false,false,false,false,false,false,false,false,false] rfl rfl (any_of HT_.out (by kernel_rfl)) (fun _ _ _ h=>h) (Or.inl ⟨by rfl,?_⟩) ?_ ?_;rotate_left
  · intro w'
    go_simp
    with_reducible rfl
  rotate_left
  · simp only [Act.put,sA_,sZ_,sS_,i64_w,i32_w]
    rfl
  refine pure_ (i:=8) (N:=some 15) (v:=?_) (a':=?_) #[true,true,true,true,true,true,true,true,true,false,false,false,false,false,false,false,false,false,false,false,false] rfl rfl (any_of HT_.out (by kernel_rfl)) (fun _ _ _ h=>h) (Or.inl ⟨by rfl,?_⟩) ?_ ?_;rotate_left
  · intro w'
    go_simp
    with_reducible rfl
  rotate_left
  · simp only [Act.put,sA_,sZ_,sS_,i64_w,i32_w]
    rfl
  refine pure_ (i:=9) (N:=some 16) (v:=?_) (a':=?_) #[true,true,true,true,true,true,true,true,true,true,false,false,false,false,false,false,false,false,false,false,false] rfl rfl (any_of HT_.out (by kernel_rfl)) (fun _ _ _ h=>h) (Or.inl ⟨by rfl,?_⟩) ?_ ?_;rotate_left
  · intro w'
    go_simp
    with_reducible rfl
  rotate_left
  · simp only [Act.put,sA_,sZ_,sS_,i64_w,i32_w]
    rfl
  refine pure_ (i:=10) (N:=some 17) (v:=?_) (a':=?_) #[true,true,true,true,true,true,true,true,true,true,true,false,false,false,false,false,false,false,false,false,false] rfl rfl (any_of HT_.out (by kernel_rfl)) (fun _ _ _ h=>h) (Or.inl ⟨by rfl,?_⟩) ?_ ?_;rotate_left
  · intro w'
    go_simp
    with_reducible rfl
  rotate_left
  · simp only [Act.put,sA_,sZ_,sS_,i64_w,i32_w]
    rfl
  refine pure_ (i:=11) (N:=some 18) (v:=?_) (a':=?_) #[true,true,true,true,true,true,true,true,true,true,true,true,false,false,false,false,false,false,false,false,false] rfl rfl (any_of HT_.out (by kernel_rfl)) (fun _ _ _ h=>h) (Or.inl ⟨by rfl,?_⟩) ?_ ?_;rotate_left
  · intro w'
    go_simp
    with_reducible rfl
  rotate_left
  · simp only [Act.put,sA_,sZ_,sS_,i64_w,i32_w]
    rfl
  refine pure_ (i:=13) (N:=some 20) (v:=?_) (a':=?_) #[true,true,true,true,true,true,true,true,true,true,true,true,false,true,false,false,false,false,false,false,false] rfl rfl (any_of HT_.out (by kernel_rfl)) (fun _ _ _ h=>h) (Or.inl ⟨by rfl,?_⟩) ?_ ?_;rotate_left
  · intro w'
    go_simp
    with_reducible rfl
  rotate_left
  · simp only [Act.put,sA_,sZ_,sS_,i64_w,i32_w]
    rfl
  refine pure_ (i:=14) (N:=some 21) (v:=?_) (a':=?_) #[true,true,true,true,true,true,true,true,true,true,true,true,false,true,true,false,false,false,false,false,false] rfl rfl (any_of HT_.out (by kernel_rfl)) (fun _ _ _ h=>h) (Or.inl ⟨by rfl,?_⟩) ?_ ?_;rotate_left
  · intro w'
    go_simp
    with_reducible rfl
  rotate_left
  · simp only [Act.put,sA_,sZ_,sS_,i64_w,i32_w]
    rfl
  refine pure_ (i:=15) (N:=some 22) (v:=?_) (a':=?_) #[true,true,true,true,true,true,true,true,true,true,true,true,false,true,true,true,false,false,false,false,false] rfl rfl (any_of HT_.out (by kernel_rfl)) (fun _ _ _ h=>h) (Or.inl ⟨by rfl,?_⟩) ?_ ?_;rotate_left
  · intro w'
    go_simp
    with_reducible rfl
  rotate_left
  · simp only [Act.put,sA_,sZ_,sS_,i64_w,i32_w]
    rfl
  refine take_ (i:=12) (N:=some 19) (v:=?_) (a':=?_) #[true,true,true,true,true,true,true,true,true,true,true,true,true,true,true,true,false,false,false,false,false] rfl rfl (take_ofW HT_.out HW_.out (by kernel_rfl)) (fun _ _ _ h=>h) (Or.inl ⟨by rfl,?_⟩) hHeld ?_ ?_;rotate_left
  · rintro w' ⟨s0,s1⟩
    go_simp
    with_reducible rfl
  rotate_left
  · simp only [Act.put,sA_,sZ_,sS_,i64_w,i32_w]
    rfl
  refine one_ (i:=16) (N:=some 23) #[true,true,true,true,true,true,true,true,true,true,true,true,true,true,true,true,true,false,false,false,false] rfl rfl (one_of HT_.out (by kernel_rfl)) (by decide) (fun K hK=>?_);refine goes_ Tryd.func60 (by kernel_rfl) rfl #[.int .i64 (l0.length : Int)] (by rfl) rfl rfl (by first|(simp only [List.map_toArray,List.map_cons,List.map_nil] <;> rfl)|rfl|(simp only [List.length_drop,List.length_take];rfl)) ?_
  with_reducible refine (bits_All.calls (l0.length : Int) t167 _ A7.out).mono ?_
  rintro e w' ⟨rfl,⟨nd,rfl⟩⟩
  refine ⟨_,rfl,?_⟩;refine hK.out _ _ ⟨((HB.out.cell (bl_ w _ hw166_0)).trans hw166_0),((HB.out.cell (bl_ w _ hw166_1)).trans hw166_1)⟩ (fun hHeld=>?_);clear hK K;refine norm_ (a':=?_) ?_ ?_;rotate_left
  · show Act.put _ (some 23) _ = _
    simp only [Act.put,sA_,sZ_,sS_,i64_w,i32_w]
    rfl
  refine pure_ (i:=17) (N:=some 24) (v:=?_) (a':=?_) #[true,true,true,true,true,true,true,true,true,true,true,true,true,true,true,true,true,true,false,false,false] rfl rfl (any_of HT_.out (by kernel_rfl)) (fun _ _ _ h=>h) (Or.inl ⟨by rfl,?_⟩) ?_ ?_;rotate_left
  · intro w'
    go_simp
    with_reducible rfl
  rotate_left
  · simp only [Act.put,sA_,sZ_,sS_,i64_w,i32_w]
    rfl
  refine one_ (i:=18) (N:=some 25) #[true,true,true,true,true,true,true,true,true,true,true,true,true,true,true,true,true,true,true,false,false] rfl rfl (one_of HT_.out (by kernel_rfl)) (by decide) (fun K hK=>?_);refine goes_ Tryd.func64 (by kernel_rfl) rfl #[.agg #[.bool ((rd_T44 l0 a1).f0),.slice A166_1 ((rd_T44 l0 a1).f1).length c166_1],.int .u64 (Go.bits .and .u64 a2 t167)] (by rfl) rfl rfl (by first|(simp only [List.map_toArray,List.map_cons,List.map_nil] <;> rfl)|rfl|(simp only [List.length_drop,List.length_take];rfl)) ?_
  with_reducible refine (graph_met.calls k ((rd_T44 l0 a1).f0) _ _ ((rd_T44 l0 a1).f1) (Go.bits .and .u64 a2 t167) t168 _ ?side1 ?side2 A8.out).mono ?_
  (case side1=>repeat (first|exact (Kd.C_below HR166_1.out (by repeat (first|(with_reducible first|exact HB.out|apply ba_|apply pN_|apply b1_)|exact HB.out)))|(with_reducible first|refine Ca_ ?_ _|refine Cn_ ?_ _|refine Cd_ ?_)))
  (case side2=>exact HC166_1.out)
  rintro e w10 ⟨rfl,hb⟩
  refine ⟨_,rfl,?_⟩;have n0_:=A0_ (below_step (by repeat (first|(with_reducible first|exact HB.out|apply ba_|apply pN_|apply b1_)|exact HB.out)) hb);clear HB;have HB:=n0_;clear n0_;(try clear hb);(try clear hb2);(try clear hk);(try clear hi);refine hK.out _ _ ⟨((HB.out.cell (bl_ w _ hw166_0)).trans hw166_0),((HB.out.cell (bl_ w _ hw166_1)).trans hw166_1)⟩ (fun hHeld=>?_);clear hK K;refine norm_ (a':=?_) ?_ ?_;rotate_left
  · show Act.put _ (some 25) _ = _
    simp only [Act.put,sA_,sZ_,sS_,i64_w,i32_w]
    rfl
  refine pure_ (i:=19) (N:=some 26) (v:=?_) (a':=?_) #[true,true,true,true,true,true,true,true,true,true,true,true,true,true,true,true,true,true,true,true,false] rfl rfl (any_of HT_.out (by kernel_rfl)) (fun _ _ _ h=>h) (Or.inl ⟨by rfl,?_⟩) ?_ ?_;rotate_left
  · intro w'
    go_simp
    with_reducible rfl
  rotate_left
  · simp only [Act.put,sA_,sZ_,sS_,i64_w,i32_w]
    rfl
  refine pure_ (i:=20) (N:=some 6) (v:=?_) (a':=?_) #[true,true,true,true,true,true,true,true,true,true,true,true,true,true,true,true,true,true,true,true,true] rfl rfl (any_of HT_.out (by kernel_rfl)) (fun _ _ _ h=>h) (Or.inl ⟨by rfl,?_⟩) ?_ ?_;rotate_left
  · intro w'
    go_simp
    with_reducible rfl
  rotate_left
  · simp only [Act.put,sA_,sZ_,sS_,i64_w,i32_w]
    rfl
  refine done_ (done_of HT_.out (by kernel_rfl)) ?_
  try go_wp2
  go_ret;exact ⟨by first|rfl|(simp [errW_none,errW_some] <;> rfl)|(simp [*,errW_none,errW_some] <;> rfl),by repeat (first|(with_reducible first|exact HB.out|apply ba_|apply pN_|apply b1_)|exact HB.out)⟩
/-! ### logjamlaw26_one: function 65 -/
def logjamlaw26_one.f (a0 : Int) : Option (Bool × (List (List (S66)))) := some (true, (([(([(⟨1, (([(⟨a0, 1⟩ : S68)] : List (S68)))⟩ : S66)] : List (S66)))] : List (List (S66)))))
set_option maxHeartbeats 8000000 in
set_option maxRecDepth 100000 in
theorem logjamlaw26_one.calls (a0 : Int) (r1 : Bool) (r2 : List (List (S66))) (w : World) (h : logjamlaw26_one.f a0 = some (r1, r2)) :
    Calls Tryd.prog 65 #[.int .i64 a0] w fun e w'=>∃ v1_ : Value,e = .returned (.agg #[.bool r1,v1_]) ∧ Kd.N (Kd.slice 66 k66) 63 w' w.heap.size (fun k_=>(w.heap.size ≤ k_)) v1_ r2 ∧ Below w.heap.size w w':=by
  have hu44:=Tryd.underlying44;have hu68:=Tryd.underlying68;have hu66:=Tryd.underlying66;have HB:=A0_ (Below.refl w.heap.size w);have H : (some (true,(([(([(⟨1,(([(⟨a0,1⟩ : S68)] : List (S68)))⟩ : S66)] : List (S66)))] : List (List (S66)))))) = some (r1,r2):=h;clear h;obtain ⟨y170,hy170⟩ : ∃ y_ : List (S68),y_ = (([(⟨a0,1⟩ : S68)] : List (S68))):=⟨_,rfl⟩;replace H : (some (true,(([(([(⟨1,y170⟩ : S66)] : List (S66)))] : List (List (S66)))))) = some (r1,r2):=by first|(rw [hy170];with_reducible exact H)|(have H2_:=(Option.bind_some _ _).symm.trans H;rw [hy170];with_reducible exact H2_)|(have H2_:=(Option.bind_some _ _).symm.trans H;with_reducible exact H2_)|with_reducible exact H|(rw [hy170];exact H)|exact H
  have Ny170:=A0_ hy170;clear hy170;obtain ⟨y173,hy173⟩ : ∃ y_ : List (S66),y_ = (([(⟨1,y170⟩ : S66)] : List (S66))):=⟨_,rfl⟩;replace H : (some (true,(([y173] : List (List (S66)))))) = some (r1,r2):=by first|(rw [hy173];with_reducible exact H)|(have H2_:=(Option.bind_some _ _).symm.trans H;rw [hy173];with_reducible exact H2_)|(have H2_:=(Option.bind_some _ _).symm.trans H;with_reducible exact H2_)|with_reducible exact H|(rw [hy173];exact H)|exact H
  have Ny173:=A0_ hy173;clear hy173;obtain ⟨y176,hy176⟩ : ∃ y_ : List (List (S66)),y_ = (([y173] : List (List (S66)))):=⟨_,rfl⟩;replace H : (some (true,y176)) = some (r1,r2):=by first|(rw [hy176];with_reducible exact H)|(have H2_:=(Option.bind_some _ _).symm.trans H;rw [hy176];with_reducible exact H2_)|(have H2_:=(Option.bind_some _ _).symm.trans H;with_reducible exact H2_)|with_reducible exact H|(rw [hy176];exact H)|exact H
  have Ny176:=A0_ hy176;clear hy176;simp only [Option.some.injEq,Prod.mk.injEq] at H;obtain ⟨rfl,rfl⟩:=H;go_enter Tryd.func65,Tryd.ntmps65
  go_wp2_with (first|((with_reducible refine gate_dst (N:=2) rfl ?_);refine box_event ?hg (N:=2) ?hd (cs:=#[.bool false,.slice none 0 0]) (t:=44) ?hr ?_;(case hd=>rfl);(case hg=>rfl);(case hr=>first|(go_simp;done)|(go_simp;rfl));intro gb169 hg w2 hbox hb;have n0_:=A0_ (below_step (by repeat (first|(with_reducible first|exact HB.out|apply ba_|apply pN_|apply b1_)|exact HB.out)) hb);have n1_:=A0_ (hbox);have n2_:=A0_ ((by rw [hg];exact (below_size (by repeat (first|(with_reducible first|exact HB.out|apply ba_|apply pN_|apply b1_)|exact HB.out))) : w.heap.size ≤ gb169));have n3_:=A0_ ((by rw [hg];exact (below_size (by repeat (first|(with_reducible first|exact HB.out|apply ba_|apply pN_|apply b1_)|exact HB.out))) : w.heap.size ≤ gb169));clear HB;have HB:=n0_;have BK169:=n1_;have GW169:=n2_;have GE169:=n3_;clear n0_ n1_ n2_ n3_;clear hb hbox hg)|((with_reducible refine gate_dst (N:=5) rfl ?_);refine Kd.R_lit k68 _ 68 ?hg (N:=5) ?hd (xs:=([(⟨a0,1⟩ : S68)] : List (S68))) (inner:=[.int .i64 a0,.int .i64 1]) (ok:=fun _=>True) (okp:=fun _=>True) ?hr ?hp (fun _ hk=>hk) trivial (Below.refl _ _) (Nat.le_refl _) (by simp) ?_;(case hd=>rfl);(case hg=>rfl);(case hr=>first|(go_simp;done)|(go_simp;rfl));(case hp=>exact (Reps.c2 (show Kd.M k68 _ _ _ (⟨a0,1⟩ : S68) [.int .i64 a0,.int .i64 1] from (k68_mkM _ _ _ (⟨a0,1⟩ : S68) )) (Reps.none _ _)));intro v171 w3 ho4 hb hg_ hnew_;clear hg_ hnew_;(first|rw [← Ny170.out] at ho4|(simp only [Int.reduceToNat] at ho4;rw [← Ny170.out] at ho4));have n0_:=A0_ (Kd.R_lower (Kd.R_newM (M:=fun k_=>(w.heap.size ≤ k_)) ho4 (below_size (by repeat (first|(with_reducible first|exact HB.out|apply ba_|apply pN_|apply b1_|refine bs_ ?_ GE169.out)|exact HB.out))) (fun k_ h_=>h_)) (below_size (by repeat (first|(with_reducible first|exact HB.out|apply ba_|apply pN_|apply b1_|refine bs_ ?_ GE169.out)|exact HB.out))));have n1_:=A0_ (blk_below (g:=gb169) (o:=.cells #[.bool false,.slice none 0 0] 44 (0,0)) (by (with_reducible repeat first|refine bN_ ?_ _|refine bD_ ?_|refine bA_ ?_ _);exact BK169.out) hb);have n2_:=A0_ (below_step (by repeat (first|(with_reducible first|exact HB.out|apply ba_|apply pN_|apply b1_|refine bs_ ?_ GE169.out)|exact HB.out)) hb);clear BK169;clear HB;have HO172:=n0_;have BK169:=n1_;have HB:=n2_;clear n0_ n1_ n2_;clear hb ho4;obtain ⟨Ao5,co5,eo5⟩:=Kd.R_slice HO172.out;subst eo5)|((with_reducible refine gate_dst (N:=7) rfl ?_);refine Kd.N_lit k66 _ 66 ?hg (N':=7) ?hd (xs:=([(⟨1,y170⟩ : S66)] : List (S66))) (inner:=[.int .i64 1,.slice Ao5 y170.length co5]) (ok:=(fun k_=>(w.heap.size ≤ k_) ∧ k_ ≠ gb169)) (okp:=(fun k_=>(w.heap.size ≤ k_) ∧ k_ ≠ gb169)) ?hr ?hp (fun _ hk=>hk) ((show ∀ k_,w3.heap.size ≤ k_ → (fun k_=>(w.heap.size ≤ k_) ∧ k_ ≠ gb169) k_ from fun k_ hk=>⟨(Nat.le_trans (below_size (by repeat (first|(with_reducible first|exact HB.out|apply ba_|apply pN_|apply b1_|refine bs_ ?_ GE169.out)|exact HB.out))) hk),Kd.freshB (g:=gb169) (o:=.cells #[.bool false,.slice none 0 0] 44 (0,0)) (by (with_reducible repeat first|refine bN_ ?_ _|refine bD_ ?_|refine bA_ ?_ _);exact BK169.out) k_ hk⟩) _ (Nat.le_refl _)) (Below.refl _ _) (Nat.le_refl _) (by simp) ?_;(case hd=>rfl);(case hg=>rfl);(case hr=>first|(go_simp;done)|(go_simp;rfl));(case hp=>exact (Reps.c2 (show Kd.FK k66 _ _ (⟨1,y170⟩ : S66) [.int .i64 1,.slice Ao5 y170.length co5] from (k66_mkF _ _ (⟨1,y170⟩ : S66) (Kd.R_reads' (Kd.R_mono (ok':=(fun k_=>(w.heap.size ≤ k_) ∧ k_ ≠ gb169)) (Kd.R_types (HO172.out) BK169.out (by decide)) (fun k_ hk=>⟨hk.1.1,hk.2⟩))).2.1 (Kd.R_F (Kd.R_mono (ok':=(fun k_=>(w.heap.size ≤ k_) ∧ k_ ≠ gb169)) (Kd.R_types (HO172.out) BK169.out (by decide)) (fun k_ hk=>⟨hk.1.1,hk.2⟩))))) (Reps.none _ _)));intro v174 w6 ho7 hb hg_ hnew_;clear hg_ hnew_;(first|rw [← Ny173.out] at ho7|(simp only [Int.reduceToNat] at ho7;rw [← Ny173.out] at ho7));have n0_:=A0_ (Kd.N_lower ho7 (below_size (by repeat (first|(with_reducible first|exact HB.out|apply ba_|apply pN_|apply b1_|refine bs_ ?_ GE169.out)|exact HB.out))));have n1_:=A0_ (blk_below (g:=gb169) (o:=.cells #[.bool false,.slice none 0 0] 44 (0,0)) (by (with_reducible repeat first|refine bN_ ?_ _|refine bD_ ?_|refine bA_ ?_ _);exact BK169.out) hb);have n2_:=A0_ (below_step (by repeat (first|(with_reducible first|exact HB.out|apply ba_|apply pN_|apply b1_|refine bs_ ?_ GE169.out)|exact HB.out)) hb);clear BK169;clear HB;clear HO172;have HO175:=n0_;have BK169:=n1_;have HB:=n2_;clear n0_ n1_ n2_;clear hb ho7;obtain ⟨Ao8,co8,eo8⟩:=Kd.N_slice HO175.out;subst eo8)|((with_reducible refine gate_dst (N:=8) rfl ?_);refine Kd.N_lit (Kd.slice 66 k66) _ 63 ?hg (N':=8) ?hd (xs:=([y173] : List (List (S66)))) (inner:=[.slice Ao8 y173.length co8]) (ok:=(fun k_=>(w.heap.size ≤ k_) ∧ k_ ≠ gb169)) (okp:=(fun k_=>(w.heap.size ≤ k_) ∧ k_ ≠ gb169)) ?hr ?hp (fun _ hk=>hk) ((show ∀ k_,w6.heap.size ≤ k_ → (fun k_=>(w.heap.size ≤ k_) ∧ k_ ≠ gb169) k_ from fun k_ hk=>⟨(Nat.le_trans (below_size (by repeat (first|(with_reducible first|exact HB.out|apply ba_|apply pN_|apply b1_|refine bs_ ?_ GE169.out)|exact HB.out))) hk),Kd.freshB (g:=gb169) (o:=.cells #[.bool false,.slice none 0 0] 44 (0,0)) (by (with_reducible repeat first|refine bN_ ?_ _|refine bD_ ?_|refine bA_ ?_ _);exact BK169.out) k_ hk⟩) _ (Nat.le_refl _)) (Below.refl _ _) (Nat.le_refl _) (by simp) ?_;(case hd=>rfl);(case hg=>rfl);(case hr=>first|(go_simp;done)|(go_simp;rfl));(case hp=>exact (Reps.one (show Kd.FK (Kd.slice 66 k66) _ _ y173 [.slice Ao8 y173.length co8] from (Kd.FK_slice_mk (Kd.N_reads' (Kd.N_mono (ok':=(fun k_=>(w.heap.size ≤ k_) ∧ k_ ≠ gb169)) (HO175.out) (fun k_ hk=>⟨hk.1,hk.2⟩))).2.1 (Kd.N_F (Kd.N_mono (ok':=(fun k_=>(w.heap.size ≤ k_) ∧ k_ ≠ gb169)) (HO175.out) (fun k_ hk=>⟨hk.1,hk.2⟩))))) (Reps.none _ _)));intro v177 w9 ho10 hb hg_ hnew_;clear hg_ hnew_;(first|rw [← Ny176.out] at ho10|(simp only [Int.reduceToNat] at ho10;rw [← Ny176.out] at ho10));have n0_:=A0_ (Kd.N_lower ho10 (below_size (by repeat (first|(with_reducible first|exact HB.out|apply ba_|apply pN_|apply b1_|refine bs_ ?_ GE169.out)|exact HB.out))));have n1_:=A0_ (blk_below (g:=gb169) (o:=.cells #[.bool false,.slice none 0 0] 44 (0,0)) (by (with_reducible repeat first|refine bN_ ?_ _|refine bD_ ?_|refine bA_ ?_ _);exact BK169.out) hb);have n2_:=A0_ (below_step (by repeat (first|(with_reducible first|exact HB.out|apply ba_|apply pN_|apply b1_|refine bs_ ?_ GE169.out)|exact HB.out)) hb);clear BK169;clear HB;clear HO175;have HO178:=n0_;have BK169:=n1_;have HB:=n2_;clear n0_ n1_ n2_;clear hb ho10;obtain ⟨Ao11,co11,eo11⟩:=Kd.N_slice HO178.out;subst eo11;obtain ⟨hcz12_0,hcz12_1,hfz12_0,hfz12_1⟩:=cz2_ (w:=w9) BK169.out))
  refine bodyPost_ret (results_cell_row rfl _ _ gb169 44 #[.bool true,.slice Ao11 y176.length co11] (0,0) _ rfl (by (with_reducible repeat first|refine bN_ ?_ _|refine bD_ ?_|refine bA_ ?_ _);refine blk_put (cs:=#[.bool true,.slice none 0 0]) ?_ 1 _ rfl;(with_reducible repeat first|refine bN_ ?_ _|refine bD_ ?_|refine bA_ ?_ _);refine blk_put (cs:=#[.bool false,.slice none 0 0]) ?_ 0 _ rfl;(with_reducible repeat first|refine bN_ ?_ _|refine bD_ ?_|refine bA_ ?_ _);exact BK169.out) Tryd.underlying44 rfl (by kernel_rfl)) rfl ?_;exact ⟨_,by first|rfl|(simp [errW_none,errW_some] <;> rfl)|(simp [*,errW_none,errW_some] <;> rfl),by (with_reducible repeat first|apply Na_|apply Nn_|apply Nd_);exact Kd.N_mono (Kd.N_far (p:=⟨gb169,1,none⟩) (Kd.N_far (p:=⟨gb169,0,none⟩) (Kd.N_mono HO178.out (fun k_ hk=>(⟨hk,hk.2⟩ : _ ∧ k_ ≠ gb169))) (fun _ hk=>hk.2) (.bool true)) (fun _ hk=>hk.2) (.slice Ao11 y176.length co11)) (fun _ hk=>hk.1.1),by repeat (first|(with_reducible first|exact HB.out|apply ba_|apply pN_|apply b1_|refine bs_ ?_ GE169.out)|exact HB.out)⟩

/-! ### logjamlaw26_lives: function 26 -/
def logjamlaw26_lives.f (k : Nat)  : Option (Bool) := (logjamlaw26_one.f 1).bind fun bt179 => ((logjamlaw26_one.f 0).bind fun bt183 => ((logjamlaw26_one.f 2).bind fun bt187 => ((some (([(⟨bt179.1, bt179.2⟩ : S44), (⟨bt183.1, bt183.2⟩ : S44), (⟨false, ([] : List (List (S66)))⟩ : S44), (⟨bt187.1, bt187.2⟩ : S44)] : List (S44)) : List (S44))).bind fun y191 => ((graph_Order.f k y191).bind fun t194 => ((graph_Doomed.f k y191).bind fun t197 => (if t197 = 3 then (if (t194.length : Int) = 2 then (if 0 < (t194.length : Int) then (if (rd t194 0) = 2 then (if 1 < (t194.length : Int) then (if (rd t194 1) = 3 then ((graph_Closed.f k y191 3).bind fun t200 => (if t200 = true then ((graph_Closed.f k y191 1).bind fun t201 => (if t201 = true then (some false) else ((graph_Met.f k y191 0 2).bind fun t202 => (some t202)))) else (some false))) else (some false)) else (none)) else (some false)) else (none)) else (some false)) else (some false)))))))
theorem logjamlaw26_lives.mono : ∀ k, LeO (logjamlaw26_lives.f k ) (logjamlaw26_lives.f (k + 1) ) := by
  intro  k
  unfold logjamlaw26_lives.f
  repeat' first
      | (with_reducible exact graph_Closed.mono _ _ _)
      | (with_reducible exact graph_Doomed.mono _ _)
      | (with_reducible exact graph_Met.mono _ _ _ _)
      | (with_reducible exact graph_Order.mono _ _)
      | (with_reducible exact LeO.refl _)
      | (with_reducible exact LeO.none _)
      | (with_reducible refine LeO.ite ?_ ?_)
      | (with_reducible refine LeO.bind ?_ (fun _=>?_))
      | exact graph_Closed.mono _ _ _
      | exact graph_Doomed.mono _ _
      | exact graph_Met.mono _ _ _ _
      | exact graph_Order.mono _ _
      | exact LeO.none _
      | refine LeO.ite ?_ ?_
      | refine LeO.bind ?_ (fun _=>?_)
set_option maxHeartbeats 8000000 in
set_option maxRecDepth 100000 in
theorem logjamlaw26_lives.calls (k : Nat)  (r : Bool) (w : World) (hT : Tb.Tab w) (h : logjamlaw26_lives.f k  = some r) :
    Calls Tryd.prog 26 #[] w fun e w'=>e = .returned (.bool r) ∧ Below w.heap.size w w':=by
  have up_ : ∀ (n k : Nat) (r : Bool),logjamlaw26_lives.f k = some r → logjamlaw26_lives.f (k + n) = some r:=fun n=>by
    induction n with
    | zero=>exact fun _ _ h_=>h_
    | succ n ih=>exact fun k r h_=>logjamlaw26_lives.mono (k + n) r (ih k r h_)
  have e1_:=up_ 80 k r h;have e2_:=up_ k 80 true (by decide +kernel);rw [Nat.add_comm 80 k,e1_] at e2_;injection e2_ with hr_
  have HR_:=Aside0.mk hr_;clear e1_ up_ hr_;have hu44:=Tryd.underlying44;have HT:=A0_ hT;clear hT;have HB:=A0_ (Below.refl w.heap.size w);have H : ((logjamlaw26_one.f 1).bind fun bt179=>((logjamlaw26_one.f 0).bind fun bt183=>((logjamlaw26_one.f 2).bind fun bt187=>((some (([(⟨bt179.1,bt179.2⟩ : S44),(⟨bt183.1,bt183.2⟩ : S44),(⟨false,([] : List (List (S66)))⟩ : S44),(⟨bt187.1,bt187.2⟩ : S44)] : List (S44)) : List (S44))).bind fun y191=>((graph_Order.f k y191).bind fun t194=>((graph_Doomed.f k y191).bind fun t197=>(if t197 = 3 then (if (t194.length : Int) = 2 then (if 0 < (t194.length : Int) then (if (rd t194 0) = 2 then (if 1 < (t194.length : Int) then (if (rd t194 1) = 3 then ((graph_Closed.f k y191 3).bind fun t200=>(if t200 = true then ((graph_Closed.f k y191 1).bind fun t201=>(if t201 = true then (some false) else ((graph_Met.f k y191 0 2).bind fun t202=>(some t202)))) else (some false))) else (some false)) else (none)) else (some false)) else (none)) else (some false)) else (some false)))))))) = some r:=h;clear h;replace H:=bm_ H;obtain ⟨⟨t179,t180⟩,A10,H⟩:=H;replace H : ((logjamlaw26_one.f 0).bind fun bt183=>((logjamlaw26_one.f 2).bind fun bt187=>((some (([(⟨t179,t180⟩ : S44),(⟨bt183.1,bt183.2⟩ : S44),(⟨false,([] : List (List (S66)))⟩ : S44),(⟨bt187.1,bt187.2⟩ : S44)] : List (S44)) : List (S44))).bind fun y191=>((graph_Order.f k y191).bind fun t194=>((graph_Doomed.f k y191).bind fun t197=>(if t197 = 3 then (if (t194.length : Int) = 2 then (if 0 < (t194.length : Int) then (if (rd t194 0) = 2 then (if 1 < (t194.length : Int) then (if (rd t194 1) = 3 then ((graph_Closed.f k y191 3).bind fun t200=>(if t200 = true then ((graph_Closed.f k y191 1).bind fun t201=>(if t201 = true then (some false) else ((graph_Met.f k y191 0 2).bind fun t202=>(some t202)))) else (some false))) else (some false)) else (none)) else (some false)) else (none)) else (some false)) else (some false))))))) = some r:=H;have A1:=A0_ A10;clear A10;replace H:=bm_ H;obtain ⟨⟨t183,t184⟩,A20,H⟩:=H;replace H : ((logjamlaw26_one.f 2).bind fun bt187=>((some (([(⟨t179,t180⟩ : S44),(⟨t183,t184⟩ : S44),(⟨false,([] : List (List (S66)))⟩ : S44),(⟨bt187.1,bt187.2⟩ : S44)] : List (S44)) : List (S44))).bind fun y191=>((graph_Order.f k y191).bind fun t194=>((graph_Doomed.f k y191).bind fun t197=>(if t197 = 3 then (if (t194.length : Int) = 2 then (if 0 < (t194.length : Int) then (if (rd t194 0) = 2 then (if 1 < (t194.length : Int) then (if (rd t194 1) = 3 then ((graph_Closed.f k y191 3).bind fun t200=>(if t200 = true then ((graph_Closed.f k y191 1).bind fun t201=>(if t201 = true then (some false) else ((graph_Met.f k y191 0 2).bind fun t202=>(some t202)))) else (some false))) else (some false)) else (none)) else (some false)) else (none)) else (some false)) else (some false)))))) = some r:=H;have A2:=A0_ A20;clear A20;replace H:=bm_ H;obtain ⟨⟨t187,t188⟩,A30,H⟩:=H;replace H : ((some (([(⟨t179,t180⟩ : S44),(⟨t183,t184⟩ : S44),(⟨false,([] : List (List (S66)))⟩ : S44),(⟨t187,t188⟩ : S44)] : List (S44)) : List (S44))).bind fun y191=>((graph_Order.f k y191).bind fun t194=>((graph_Doomed.f k y191).bind fun t197=>(if t197 = 3 then (if (t194.length : Int) = 2 then (if 0 < (t194.length : Int) then (if (rd t194 0) = 2 then (if 1 < (t194.length : Int) then (if (rd t194 1) = 3 then ((graph_Closed.f k y191 3).bind fun t200=>(if t200 = true then ((graph_Closed.f k y191 1).bind fun t201=>(if t201 = true then (some false) else ((graph_Met.f k y191 0 2).bind fun t202=>(some t202)))) else (some false))) else (some false)) else (none)) else (some false)) else (none)) else (some false)) else (some false))))) = some r:=H;have A3:=A0_ A30;clear A30;obtain ⟨y191,hy191⟩ : ∃ y_ : List (S44),y_ = (([(⟨t179,t180⟩ : S44),(⟨t183,t184⟩ : S44),(⟨false,([] : List (List (S66)))⟩ : S44),(⟨t187,t188⟩ : S44)] : List (S44))):=⟨_,rfl⟩;replace H : ((graph_Order.f k y191).bind fun t194=>((graph_Doomed.f k y191).bind fun t197=>(if t197 = 3 then (if (t194.length : Int) = 2 then (if 0 < (t194.length : Int) then (if (rd t194 0) = 2 then (if 1 < (t194.length : Int) then (if (rd t194 1) = 3 then ((graph_Closed.f k y191 3).bind fun t200=>(if t200 = true then ((graph_Closed.f k y191 1).bind fun t201=>(if t201 = true then (some false) else ((graph_Met.f k y191 0 2).bind fun t202=>(some t202)))) else (some false))) else (some false)) else (none)) else (some false)) else (none)) else (some false)) else (some false)))) = some r:=by first|(rw [hy191];with_reducible exact H)|(have H2_:=(Option.bind_some _ _).symm.trans H;rw [hy191];with_reducible exact H2_)|(have H2_:=(Option.bind_some _ _).symm.trans H;with_reducible exact H2_)|with_reducible exact H|(rw [hy191];exact H)|exact H
  have Ny191:=A0_ hy191;clear hy191;replace H:=bm_ H;obtain ⟨t194,A40,H⟩:=H;replace H : ((graph_Doomed.f k y191).bind fun t197=>(if t197 = 3 then (if (t194.length : Int) = 2 then (if 0 < (t194.length : Int) then (if (rd t194 0) = 2 then (if 1 < (t194.length : Int) then (if (rd t194 1) = 3 then ((graph_Closed.f k y191 3).bind fun t200=>(if t200 = true then ((graph_Closed.f k y191 1).bind fun t201=>(if t201 = true then (some false) else ((graph_Met.f k y191 0 2).bind fun t202=>(some t202)))) else (some false))) else (some false)) else (none)) else (some false)) else (none)) else (some false)) else (some false))) = some r:=H;have A4:=A0_ A40;clear A40;replace H:=bm_ H;obtain ⟨t197,A50,H⟩:=H;replace H : (if t197 = 3 then (if (t194.length : Int) = 2 then (if 0 < (t194.length : Int) then (if (rd t194 0) = 2 then (if 1 < (t194.length : Int) then (if (rd t194 1) = 3 then ((graph_Closed.f k y191 3).bind fun t200=>(if t200 = true then ((graph_Closed.f k y191 1).bind fun t201=>(if t201 = true then (some false) else ((graph_Met.f k y191 0 2).bind fun t202=>(some t202)))) else (some false))) else (some false)) else (none)) else (some false)) else (none)) else (some false)) else (some false)) = some r:=H;have A5:=A0_ A50;clear A50;by_cases c6 : t197 = 3;rotate_left
  · rw [if_neg c6] at H
    have c6b0 : (t197 == 3) = false:=beq_eq_false_iff_ne.mpr c6;have c6b1 : (t197 != 3) = true:=bne_iff_ne.mpr c6;exact absurd (Option.some.inj H) (by rw [HR_.out];decide)

  rw [if_pos c6] at H;have c6b0 : (t197 == 3) = true:=beq_iff_eq.mpr c6;have c6b1 : (t197 != 3) = false:=bne_eq_false_iff_eq.mpr c6;clear c6;by_cases c7 : (t194.length : Int) = 2;rotate_left
  · rw [if_neg c7] at H
    have c7b0 : ((t194.length : Int) == 2) = false:=beq_eq_false_iff_ne.mpr c7;have c7b1 : ((t194.length : Int) != 2) = true:=bne_iff_ne.mpr c7;exact absurd (Option.some.inj H) (by rw [HR_.out];decide)
  rw [if_pos c7] at H;have c7b0 : ((t194.length : Int) == 2) = true:=beq_iff_eq.mpr c7;have c7b1 : ((t194.length : Int) != 2) = false:=bne_eq_false_iff_eq.mpr c7;clear c7;by_cases c8 : 0 < (t194.length : Int);rotate_left
  · rw [if_neg c8] at H
    exact absurd H (by simp)
  rw [if_pos c8] at H;have c8b0 : decide (0 < (t194.length : Int)) = true:=decide_eq_true c8;have c8b1 : decide (0 < t194.length) = true:=decide_eq_true (by omega);clear c8;by_cases c9 : (rd t194 0) = 2;rotate_left
  · rw [if_neg c9] at H
    have c9b0 : ((rd t194 0) == 2) = false:=beq_eq_false_iff_ne.mpr c9;have c9b1 : ((rd t194 0) != 2) = true:=bne_iff_ne.mpr c9;exact absurd (Option.some.inj H) (by rw [HR_.out];decide)
  rw [if_pos c9] at H;have c9b0 : ((rd t194 0) == 2) = true:=beq_iff_eq.mpr c9;have c9b1 : ((rd t194 0) != 2) = false:=bne_eq_false_iff_eq.mpr c9;clear c9;by_cases c10 : 1 < (t194.length : Int);rotate_left
  · rw [if_neg c10] at H
    exact absurd H (by simp)
  rw [if_pos c10] at H;have c10b0 : decide (1 < (t194.length : Int)) = true:=decide_eq_true c10;have c10b1 : decide (1 < t194.length) = true:=decide_eq_true (by omega);clear c10;by_cases c11 : (rd t194 1) = 3;rotate_left
  · rw [if_neg c11] at H
    have c11b0 : ((rd t194 1) == 3) = false:=beq_eq_false_iff_ne.mpr c11;have c11b1 : ((rd t194 1) != 3) = true:=bne_iff_ne.mpr c11;exact absurd (Option.some.inj H) (by rw [HR_.out];decide)
  rw [if_pos c11] at H;have c11b0 : ((rd t194 1) == 3) = true:=beq_iff_eq.mpr c11;have c11b1 : ((rd t194 1) != 3) = false:=bne_eq_false_iff_eq.mpr c11;clear c11;replace H:=bm_ H;obtain ⟨t200,A120,H⟩:=H;replace H : (if t200 = true then ((graph_Closed.f k y191 1).bind fun t201=>(if t201 = true then (some false) else ((graph_Met.f k y191 0 2).bind fun t202=>(some t202)))) else (some false)) = some r:=H;have A12:=A0_ A120;clear A120;by_cases c13 : t200 = true;rotate_left
  · replace c13:=Bool.eq_false_iff.mpr c13
    subst c13;have H1 : (some false) = some r:=by rw [if_neg (show ¬ (false = true) by decide)] at H;exact H
    clear H;have H:=H1;clear H1;exact absurd (Option.some.inj H) (by rw [HR_.out];decide)
  subst c13;have H1 : ((graph_Closed.f k y191 1).bind fun t201=>(if t201 = true then (some false) else ((graph_Met.f k y191 0 2).bind fun t202=>(some t202)))) = some r:=by rw [if_pos rfl] at H;exact H
  clear H;have H:=H1;clear H1;replace H:=bm_ H;obtain ⟨t201,A140,H⟩:=H;replace H : (if t201 = true then (some false) else ((graph_Met.f k y191 0 2).bind fun t202=>(some t202))) = some r:=H;have A14:=A0_ A140;clear A140;by_cases c15 : t201 = true
  · subst c15
    have H1 : (some false) = some r:=by rw [if_pos rfl] at H;exact H
    clear H;have H:=H1;clear H1;exact absurd (Option.some.inj H) (by rw [HR_.out];decide)
  replace c15:=Bool.eq_false_iff.mpr c15;subst c15;have H1 : ((graph_Met.f k y191 0 2).bind fun t202=>(some t202)) = some r:=by rw [if_neg (show ¬ (false = true) by decide)] at H;exact H
  clear H;have H:=H1;clear H1;replace H:=bm_ H;obtain ⟨t202,A300,H⟩:=H;replace H : (some t202) = some r:=H;have A30:=A0_ A300;clear A300;obtain rfl:=Option.some.inj H;go_enter Tryd.func26,Tryd.ntmps26
  go_wp2_with (first|((with_reducible refine gate_callee (f:=65) rfl ?_);refine goesL_ (some 3) rfl rfl Tryd.func65 (by kernel_rfl) rfl #[.int .i64 1] rfl (by first|(simp only [List.map_toArray,List.map_cons,List.map_nil] <;> rfl)|rfl|(simp only [List.length_drop,List.length_take];rfl)) ?_;(with_reducible refine (logjamlaw26_one.calls 1 t179 t180 _ A1.out).mono ?_);rintro e w31 ⟨v181,rfl,ho0,hb⟩;refine ⟨_,rfl,?_⟩;have n0_:=A0_ (Kd.N_lower (Kd.N_mono (ok':=fun k_=>True) ho0 (fun k_ hk_=>trivial)) (below_size (by repeat (first|(with_reducible first|exact HB.out|apply ba_|apply pN_|apply b1_)|exact HB.out))));have n1_:=A0_ (below_step (by repeat (first|(with_reducible first|exact HB.out|apply ba_|apply pN_|apply b1_)|exact HB.out)) hb);clear HB;have HO182:=n0_;have HB:=n1_;clear n0_ n1_;(try clear hb);(try clear hb2);(try clear hk);(try clear hi);(try clear ho0))|((with_reducible refine gate_callee (f:=65) rfl ?_);refine goesL_ (some 4) rfl rfl Tryd.func65 (by kernel_rfl) rfl #[.int .i64 0] rfl (by first|(simp only [List.map_toArray,List.map_cons,List.map_nil] <;> rfl)|rfl|(simp only [List.length_drop,List.length_take];rfl)) ?_;(with_reducible refine (logjamlaw26_one.calls 0 t183 t184 _ A2.out).mono ?_);rintro e w32 ⟨v185,rfl,ho0,hb⟩;refine ⟨_,rfl,?_⟩;have n0_:=A0_ (Kd.N_elder' (by (with_reducible repeat first|apply Na_|apply Nn_|apply Nd_);exact HO182.out) (Kd.N_base ho0) hb);have n1_:=A0_ (Kd.N_lower (Kd.N_mono (ok':=fun k_=>some k_ ≠ (v181 : Value).ownBlock) ho0 (fun k_ hk_=>(Kd.fresh' (Kd.N_lt (by (with_reducible repeat first|apply Na_|apply Nn_|apply Nd_);exact HO182.out)) k_ hk_))) (below_size (by repeat (first|(with_reducible first|exact HB.out|apply ba_|apply pN_|apply b1_)|exact HB.out))));have n2_:=A0_ (below_step (by repeat (first|(with_reducible first|exact HB.out|apply ba_|apply pN_|apply b1_)|exact HB.out)) hb);clear HO182;clear HB;have HO182:=n0_;have HO186:=n1_;have HB:=n2_;clear n0_ n1_ n2_;(try clear hb);(try clear hb2);(try clear hk);(try clear hi);(try clear ho0))|((with_reducible refine gate_callee (f:=65) rfl ?_);refine goesL_ (some 6) rfl rfl Tryd.func65 (by kernel_rfl) rfl #[.int .i64 2] rfl (by first|(simp only [List.map_toArray,List.map_cons,List.map_nil] <;> rfl)|rfl|(simp only [List.length_drop,List.length_take];rfl)) ?_;(with_reducible refine (logjamlaw26_one.calls 2 t187 t188 _ A3.out).mono ?_);rintro e w33 ⟨v189,rfl,ho0,hb⟩;refine ⟨_,rfl,?_⟩;have n0_:=A0_ (Kd.N_elder' (by (with_reducible repeat first|apply Na_|apply Nn_|apply Nd_);exact HO182.out) (Kd.N_base ho0) hb);have n1_:=A0_ (Kd.N_elder' (by (with_reducible repeat first|apply Na_|apply Nn_|apply Nd_);exact HO186.out) (Kd.N_base ho0) hb);have n2_:=A0_ (Kd.N_lower (Kd.N_mono (ok':=fun k_=>some k_ ≠ (v181 : Value).ownBlock ∧ some k_ ≠ (v185 : Value).ownBlock) ho0 (fun k_ hk_=>⟨(Kd.fresh' (Kd.N_lt (by (with_reducible repeat first|apply Na_|apply Nn_|apply Nd_);exact HO182.out)) k_ hk_),(Kd.fresh' (Kd.N_lt (by (with_reducible repeat first|apply Na_|apply Nn_|apply Nd_);exact HO186.out)) k_ hk_)⟩)) (below_size (by repeat (first|(with_reducible first|exact HB.out|apply ba_|apply pN_|apply b1_)|exact HB.out))));have n3_:=A0_ (below_step (by repeat (first|(with_reducible first|exact HB.out|apply ba_|apply pN_|apply b1_)|exact HB.out)) hb);clear HO182;clear HO186;clear HB;have HO182:=n0_;have HO186:=n1_;have HO190:=n2_;have HB:=n3_;clear n0_ n1_ n2_ n3_;(try clear hb);(try clear hb2);(try clear hk);(try clear hi);(try clear ho0);obtain ⟨Ao34,co34,eo34⟩:=Kd.N_slice HO182.out;subst eo34;obtain ⟨Ao35,co35,eo35⟩:=Kd.N_slice HO186.out;subst eo35;obtain ⟨Ao36,co36,eo36⟩:=Kd.N_slice HO190.out;subst eo36)|((with_reducible refine gate_dst (N:=7) rfl ?_);(try (refine gate_guard (by rfl) ?_;dsimp only));refine Kd.N_lit k44 _ 44 ?hg (N':=7) ?hd (xs:=([(⟨t179,t180⟩ : S44),(⟨t183,t184⟩ : S44),(⟨false,([] : List (List (S66)))⟩ : S44),(⟨t187,t188⟩ : S44)] : List (S44))) (inner:=[.bool t179,.slice Ao34 t180.length co34,.bool t183,.slice Ao35 t184.length co35,.bool false,.slice none 0 0,.bool t187,.slice Ao36 t188.length co36]) (ok:=(fun _=>True)) (okp:=(fun _=>True)) ?hr ?hp (fun _ hk=>hk) ((show ∀ k_,w33.heap.size ≤ k_ → (fun _=>True) k_ from fun k_ hk=>trivial) _ (Nat.le_refl _)) (Below.refl _ _) (Nat.le_refl _) (by simp) ?_;(case hd=>rfl);(case hg=>rfl);(case hr=>first|(go_simp;done)|(go_simp;rfl));(case hp=>exact (Reps.c2 (show Kd.FK k44 _ _ (⟨t179,t180⟩ : S44) [.bool t179,.slice Ao34 t180.length co34] from (k44_mkF _ _ (⟨t179,t180⟩ : S44) (Kd.N_reads' (Kd.N_mono (ok':=(fun _=>True)) (HO182.out) (fun k_ hk=>trivial))).2.1 (Kd.N_F (Kd.N_mono (ok':=(fun _=>True)) (HO182.out) (fun k_ hk=>trivial))))) (Reps.c2 (show Kd.FK k44 _ _ (⟨t183,t184⟩ : S44) [.bool t183,.slice Ao35 t184.length co35] from (k44_mkF _ _ (⟨t183,t184⟩ : S44) (Kd.N_reads' (Kd.N_mono (ok':=(fun _=>True)) (HO186.out) (fun k_ hk=>trivial))).2.1 (Kd.N_F (Kd.N_mono (ok':=(fun _=>True)) (HO186.out) (fun k_ hk=>trivial))))) (Reps.c2 (show Kd.FK k44 _ _ (⟨false,([] : List (List (S66)))⟩ : S44) [.bool false,.slice none 0 0] from (k44_mkF _ _ (⟨false,([] : List (List (S66)))⟩ : S44) (Nat.le_refl _) (Kd.F_nil _ _ _))) (Reps.c2 (show Kd.FK k44 _ _ (⟨t187,t188⟩ : S44) [.bool t187,.slice Ao36 t188.length co36] from (k44_mkF _ _ (⟨t187,t188⟩ : S44) (Kd.N_reads' (Kd.N_mono (ok':=(fun _=>True)) (HO190.out) (fun k_ hk=>trivial))).2.1 (Kd.N_F (Kd.N_mono (ok':=(fun _=>True)) (HO190.out) (fun k_ hk=>trivial))))) (Reps.none _ _))))));intro v192 w37 ho38 hb hg_ hnew_;clear hg_ hnew_;(first|rw [← Ny191.out] at ho38|(simp only [Int.reduceToNat] at ho38;rw [← Ny191.out] at ho38));have n0_:=A0_ (Kd.N_lower ho38 (below_size (by repeat (first|(with_reducible first|exact HB.out|apply ba_|apply pN_|apply b1_)|exact HB.out))));have n1_:=A0_ (below_step (by repeat (first|(with_reducible first|exact HB.out|apply ba_|apply pN_|apply b1_)|exact HB.out)) hb);clear HB;clear HO182;clear HO186;clear HO190;have HO193:=n0_;have HB:=n1_;clear n0_ n1_;clear hb ho38;obtain ⟨Ao39,co39,eo39⟩:=Kd.N_slice HO193.out;subst eo39)|((with_reducible refine gate_callee (f:=22) rfl ?_);refine goesL_ (some 9) rfl rfl Tryd.func22 (by kernel_rfl) rfl #[.slice Ao39 y191.length co39] rfl (by first|(simp only [List.map_toArray,List.map_cons,List.map_nil] <;> rfl)|rfl|(simp only [List.length_drop,List.length_take];rfl)) ?_;(with_reducible refine (graph_Order.calls k _ _ y191 t194 _ ?side1 ?side2 ?side3 A4.out).mono ?_);(case side1=>repeat (first|exact (Kd.N_reads' HO193.out).2.2|(with_reducible first|refine Ca_ ?_ _|refine Cn_ ?_ _|refine Cd_ ?_)));(case side2=>exact (Kd.N_reads' HO193.out).2.1);(case side3=>first|exact HT.out|(repeat (first|(with_reducible first|exact HT.out|apply Tb.alloc|apply Tb.drewN|apply Tb.drew)|exact HT.out));done|exact Tb.below HT.out (by repeat (first|(with_reducible first|exact HB.out|apply ba_|apply pN_|apply b1_)|exact HB.out)));rintro e w40 ⟨v195,rfl,ho0,hb⟩;refine ⟨_,rfl,?_⟩;have n0_:=A0_ (Kd.N_elder' (by (with_reducible repeat first|apply Na_|apply Nn_|apply Nd_);exact HO193.out) (Kd.R_base ho0) hb);have n1_:=A0_ (Kd.R_lower ho0 (below_size (by repeat (first|(with_reducible first|exact HB.out|apply ba_|apply pN_|apply b1_)|exact HB.out))));have n2_:=A0_ (below_step (by repeat (first|(with_reducible first|exact HB.out|apply ba_|apply pN_|apply b1_)|exact HB.out)) hb);clear HO193;clear HB;have HO193:=n0_;have HO196:=n1_;have HB:=n2_;clear n0_ n1_ n2_;(try clear hb);(try clear hb2);(try clear hk);(try clear hi);(try clear ho0))|((with_reducible refine gate_callee (f:=23) rfl ?_);refine goesL_ (some 11) rfl rfl Tryd.func23 (by kernel_rfl) rfl #[.slice Ao39 y191.length co39] rfl (by first|(simp only [List.map_toArray,List.map_cons,List.map_nil] <;> rfl)|rfl|(simp only [List.length_drop,List.length_take];rfl)) ?_;(with_reducible refine (graph_Doomed.calls k _ _ y191 t197 _ ?side1 ?side2 ?side3 A5.out).mono ?_);(case side1=>repeat (first|exact (Kd.N_reads' HO193.out).2.2|(with_reducible first|refine Ca_ ?_ _|refine Cn_ ?_ _|refine Cd_ ?_)));(case side2=>exact (Kd.N_reads' HO193.out).2.1);(case side3=>first|exact HT.out|(repeat (first|(with_reducible first|exact HT.out|apply Tb.alloc|apply Tb.drewN|apply Tb.drew)|exact HT.out));done|exact Tb.below HT.out (by repeat (first|(with_reducible first|exact HB.out|apply ba_|apply pN_|apply b1_)|exact HB.out)));rintro e w41 ⟨rfl,hb⟩;refine ⟨_,rfl,?_⟩;have n0_:=A0_ (Kd.N_below (by (with_reducible repeat first|apply Na_|apply Nn_|apply Nd_);exact HO193.out) hb);have n1_:=A0_ (Kd.R_below (by (with_reducible repeat first|apply Ra_|apply Rn_|apply Rd_);exact HO196.out) hb);have n2_:=A0_ (below_step (by repeat (first|(with_reducible first|exact HB.out|apply ba_|apply pN_|apply b1_)|exact HB.out)) hb);clear HO193;clear HO196;clear HB;have HO193:=n0_;have HO196:=n1_;have HB:=n2_;clear n0_ n1_ n2_;(try clear hb);(try clear hb2);(try clear hk);(try clear hi);obtain ⟨Ao42,co42,eo42⟩:=Kd.R_slice HO196.out;subst eo42;have p198 : 0 ≤ (0 : Int):=(by omega);have q198 : 0 < (t194.length : Int):=of_decide_eq_true (by first|(with_reducible assumption)|assumption);obtain ⟨ad198,e198,hx198_0⟩:=Kd.at_int (Kd.R_reads' HO196.out).2.2 0 p198 q198;cases e198;have qi198 : (0 < t194.length) = True:=eq_true (by omega);(try rw [show ((0 : Int)).toNat = 0 from rfl] at hx198_0);(try rw [Addr.add_zero'] at hx198_0);replace p198:=eq_true p198;replace q198:=eq_true q198;have p199 : 0 ≤ (1 : Int):=(by omega);have q199 : 1 < (t194.length : Int):=of_decide_eq_true (by first|(with_reducible assumption)|assumption);obtain ⟨ad199,e199,hx199_0⟩:=Kd.at_int (Kd.R_reads' HO196.out).2.2 1 p199 q199;obtain rfl : ad198 = ad199:=(by injection e199);(try simp only [show (1 : Int).toNat = 1 from rfl,Nat.reduceMul,Nat.reduceEqDiff,Go.Addr.add,↓reduceIte] at hx199_0);have qi199 : (1 < t194.length) = True:=eq_true (by omega);(try rw [show ((1 : Int)).toNat = 1 from rfl] at hx199_0);replace p199:=eq_true p199;replace q199:=eq_true q199)|(go_at_call 25;(with_reducible refine (graph_Closed.calls k _ _ y191 3 true _ ?side1 ?side2 ?side3 A12.out).mono ?_);(case side1=>repeat (first|exact (Kd.N_reads' HO193.out).2.2|(with_reducible first|refine Ca_ ?_ _|refine Cn_ ?_ _|refine Cd_ ?_)));(case side2=>exact (Kd.N_reads' HO193.out).2.1);(case side3=>first|exact HT.out|(repeat (first|(with_reducible first|exact HT.out|apply Tb.alloc|apply Tb.drewN|apply Tb.drew)|exact HT.out));done|exact Tb.below HT.out (by repeat (first|(with_reducible first|exact HB.out|apply ba_|apply pN_|apply b1_)|exact HB.out)));rintro e w43 ⟨rfl,hb⟩;have n0_:=A0_ (Kd.N_below (by (with_reducible repeat first|apply Na_|apply Nn_|apply Nd_);exact HO193.out) hb);have n1_:=A0_ (Kd.R_below (by (with_reducible repeat first|apply Ra_|apply Rn_|apply Rd_);exact HO196.out) hb);have n2_:=A0_ (below_step (by repeat (first|(with_reducible first|exact HB.out|apply ba_|apply pN_|apply b1_)|exact HB.out)) hb);clear HO193;clear HO196;clear HB;have HO193:=n0_;have HO196:=n1_;have HB:=n2_;clear n0_ n1_ n2_;(try clear hb);(try clear hb2);(try clear hk);(try clear hi))|(go_at_call 25;(with_reducible refine (graph_Closed.calls k _ _ y191 1 false _ ?side1 ?side2 ?side3 A14.out).mono ?_);(case side1=>repeat (first|exact (Kd.N_reads' HO193.out).2.2|(with_reducible first|refine Ca_ ?_ _|refine Cn_ ?_ _|refine Cd_ ?_)));(case side2=>exact (Kd.N_reads' HO193.out).2.1);(case side3=>first|exact HT.out|(repeat (first|(with_reducible first|exact HT.out|apply Tb.alloc|apply Tb.drewN|apply Tb.drew)|exact HT.out));done|exact Tb.below HT.out (by repeat (first|(with_reducible first|exact HB.out|apply ba_|apply pN_|apply b1_)|exact HB.out)));rintro e w44 ⟨rfl,hb⟩;have n0_:=A0_ (Kd.N_below (by (with_reducible repeat first|apply Na_|apply Nn_|apply Nd_);exact HO193.out) hb);have n1_:=A0_ (Kd.R_below (by (with_reducible repeat first|apply Ra_|apply Rn_|apply Rd_);exact HO196.out) hb);have n2_:=A0_ (below_step (by repeat (first|(with_reducible first|exact HB.out|apply ba_|apply pN_|apply b1_)|exact HB.out)) hb);clear HO193;clear HO196;clear HB;have HO193:=n0_;have HO196:=n1_;have HB:=n2_;clear n0_ n1_ n2_;(try clear hb);(try clear hb2);(try clear hk);(try clear hi))|(go_at_call 27;(with_reducible refine (graph_Met.calls k _ _ y191 0 2 t202 _ ?side1 ?side2 A30.out).mono ?_);(case side1=>repeat (first|exact (Kd.N_reads' HO193.out).2.2|(with_reducible first|refine Ca_ ?_ _|refine Cn_ ?_ _|refine Cd_ ?_)));(case side2=>exact (Kd.N_reads' HO193.out).2.1);rintro e w45 ⟨rfl,hb⟩;have n0_:=A0_ (Kd.N_below (by (with_reducible repeat first|apply Na_|apply Nn_|apply Nd_);exact HO193.out) hb);have n1_:=A0_ (Kd.R_below (by (with_reducible repeat first|apply Ra_|apply Rn_|apply Rd_);exact HO196.out) hb);have n2_:=A0_ (below_step (by repeat (first|(with_reducible first|exact HB.out|apply ba_|apply pN_|apply b1_)|exact HB.out)) hb);clear HO193;clear HO196;clear HB;have HO193:=n0_;have HO196:=n1_;have HB:=n2_;clear n0_ n1_ n2_;(try clear hb);(try clear hb2);(try clear hk);(try clear hi)))
  go_ret;exact ⟨by first|rfl|(simp [errW_none,errW_some] <;> rfl)|(simp [*,errW_none,errW_some] <;> rfl),by repeat (first|(with_reducible first|exact HB.out|apply ba_|apply pN_|apply b1_)|exact HB.out)⟩
end Go.Proofs.YtbfbegleffkafaaDoor.PGraphTells
