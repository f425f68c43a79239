/- What is known of the waiters behind i calls. Plain. Conditions: none. -/
import Derived.Test.YtakbhnfmimnbhaaLn9
namespace Go.Proofs.Ytakbhnfmimnbhaa.Ln
open Go.RowKit Go.Proofs.Ytakbhnfmimnbhaa.PLineRises Go.Proofs.YtakbhnfmimnbhaaW.PrintWords
open Tm (rSet rDrop)
set_option linter.unusedVariables false
set_option linter.unusedSimpArgs false

structure Pl (i : Nat) (ws : List S48) (last : Int) (m : List (Int × Int)) (n : Nat) : Prop where
  i60 : i ≤ 60
  len : ws.length ≤ i
  ml : m.length ≤ i
  la : 0 ≤ last ∧ last ≤ i
  nn : n ≤ i * 1000000
  st : (ws.map (·.f2)).Pairwise (· < ·)
  nd : (ws.map (·.f0)).Nodup
  tk : ∀ x ∈ ws, 1 ≤ x.f2 ∧ x.f2 ≤ last
  ok : ∀ x ∈ ws, okA x.f4
  mb : ∀ z ∈ m, Bk z.2
theorem Pl.new : Pl 0 [] 0 [] 0 := ⟨by decide, Nat.le_refl _, Nat.le_refl _, ⟨Int.le_refl _, Int.le_refl _⟩, Nat.le_refl _, List.Pairwise.nil, List.nodup_nil, (fun x hx => by cases hx), (fun x hx => by cases hx), fun z hz => by cases hz⟩
section
variable {i n : Nat} {ws : List S48} {last : Int} {m : List (Int × Int)}
theorem wq_mem {j : Nat} (hj : j < ws.length) : wq ws j ∈ ws := by
  rw [wq_el ws hj]
  exact List.getElem_mem hj
theorem Pl.srt (h : Pl i ws last m n) : SrtT ws := by
  intro a b hab hb
  have h1 := List.pairwise_iff_getElem.1 h.st a b (by simp; omega) (by simpa using hb) hab
  rw [List.getElem_map, List.getElem_map] at h1
  rw [wq_el ws hb, wq_el ws (by omega)]
  exact h1
theorem Pl.dis (h : Pl i ws last m n) : ∀ a b, a < b → b < ws.length → (wq ws a).f0 ≠ (wq ws b).f0 := by
  intro a b hab hb
  have h1 := List.pairwise_iff_getElem.1 h.nd a b (by simp; omega) (by simpa using hb) hab
  rw [List.getElem_map, List.getElem_map] at h1
  rw [wq_el ws hb, wq_el ws (by omega)]
  exact h1
theorem Pl.up (h : Pl i ws last m n) (hi : i + 1 ≤ 60) : Pl (i + 1) ws last m n := ⟨hi, by have := h.len; omega, by have := h.ml; omega, by have := h.la; omega, Nat.le_trans h.nn (Nat.mul_le_mul_right _ (Nat.le_succ i)), h.st, h.nd, h.tk, h.ok, h.mb⟩
theorem rDrop_len (m : List (Int × Int)) (id : Int) : (rDrop m id).length ≤ m.length := List.length_filter_le _ _
theorem rDrop_mb {m : List (Int × Int)} (h : ∀ z ∈ m, Bk z.2) (id : Int) : ∀ z ∈ rDrop m id, Bk z.2 := fun z hz => h z (List.mem_filter.1 hz).1
set_option maxRecDepth 100000 in
theorem Pl.add (h : Pl i ws last m n) (hi : i + 1 ≤ 60) (x : S48) (hx : okA x.f4) (ha : accB ws x.f0 = true) : Pl (i + 1) (ws ++ [{ x with f2 := last + 1 }]) (last + 1) (if 0 ≤ x.f3 then rSet m (last + 1) x.f3 else m) (n + 1000000) := by
  have hla := h.la
  refine ⟨hi, by have := h.len; simp; omega, ?_, by omega, by have := h.nn; omega, ?_, ?_, ?_, ?_, ?_⟩
  · have h1 := h.ml
    split
    · have h2 := rDrop_len m (last + 1)
      unfold Tm.rSet
      simp only [List.length_append, List.length_singleton]
      omega
    · omega
  · rw [List.map_append, List.pairwise_append]
    refine ⟨h.st, List.pairwise_singleton _ _, fun a hm b hb => ?_⟩
    obtain ⟨z, hz, rfl⟩ := List.mem_map.1 hm
    simp at hb
    have := (h.tk z hz).2
    omega
  · rw [List.map_append, List.nodup_append]
    refine ⟨h.nd, List.pairwise_singleton _ _, fun a hm b hb => ?_⟩
    obtain ⟨z, hz, rfl⟩ := List.mem_map.1 hm
    simp at hb
    subst hb
    unfold accB at ha
    simp only [Bool.and_eq_true, Option.isNone_iff_eq_none] at ha
    obtain ⟨j, hj, rfl⟩ := List.mem_iff_getElem.1 hz
    have := fnd_no ha.2 j hj
    rw [wq_el ws hj] at this
    exact this
  · intro z hz
    rcases List.mem_append.1 hz with hz | hz
    · have := h.tk z hz
      omega
    · rw [List.mem_singleton.1 hz]
      show 1 ≤ last + 1 ∧ last + 1 ≤ last + 1
      omega
  · intro z hz
    rcases List.mem_append.1 hz with hz | hz
    · exact h.ok z hz
    · rw [List.mem_singleton.1 hz]
      exact hx
  · split
    · intro z hz
      unfold Tm.rSet at hz
      rcases List.mem_append.1 hz with hz | hz
      · exact rDrop_mb h.mb _ z hz
      · rw [List.mem_singleton.1 hz]
        have := h.i60
        exact ⟨by show 0 ≤ last + 1; omega, by show last + 1 ≤ 100000000; omega⟩
    · exact h.mb
theorem Pl.sub (h : Pl i ws last m n) (hi : i + 1 ≤ 60) {ws2 : List S48} (hs : ws2.Sublist ws) {m2 : List (Int × Int)} (hm : m2.length ≤ m.length) (hb : ∀ z ∈ m2, Bk z.2) : Pl (i + 1) ws2 last m2 (n + 1000000) :=
  ⟨hi, by have := h.len; have := hs.length_le; omega, by have := h.ml; omega, by have := h.la; omega, by have := h.nn; omega, h.st.sublist (hs.map _), h.nd.sublist (hs.map _), fun x hx => h.tk x (hs.subset hx), fun x hx => h.ok x (hs.subset hx), hb⟩
theorem Pl.drop (h : Pl i ws last m n) (hi : i + 1 ≤ 60) (t : Int) : Pl (i + 1) (without ws t) last (if (fnd ws t).isSome = true then rDrop m (tick ws t) else m) (n + 1000000) := by
  refine h.sub hi ?_ ?_ ?_
  · unfold without
    split
    · exact List.eraseIdx_sublist _ _
    · exact List.Sublist.refl _
  · split
    · exact rDrop_len _ _
    · exact Nat.le_refl _
  · split
    · exact rDrop_mb h.mb _
    · exact h.mb
theorem map_set_same {β : Type} (f : S48 → β) (ws : List S48) (i : Nat) (x : S48) (h : f x = f (wq ws i)) : (ws.set i x).map f = ws.map f := by
  by_cases hi : i < ws.length
  · rw [List.map_set, h, wq_el ws hi]
    refine List.ext_getElem? fun j => ?_
    rw [List.getElem?_set]
    split
    · subst_vars
      rw [if_pos (by simpa using hi)]
      simp [hi]
    · rfl
  · rw [List.set_eq_of_length_le (by omega)]
theorem mem_set {ws : List S48} {i : Nat} {x y : S48} (h : y ∈ ws.set i x) : y ∈ ws ∨ (y = x ∧ i < ws.length) := by
  by_cases hi : i < ws.length
  · rcases List.mem_or_eq_of_mem_set h with h | h
    · exact .inl h
    · exact .inr ⟨h, hi⟩
  · rw [List.set_eq_of_length_le (by omega)] at h
    exact .inl h
theorem Pl.turn (h : Pl i ws last m n) (hi : i + 1 ≤ 60) (t r : Int) : Pl (i + 1) (turnW ws t r) last (rDrop m (tick ws t)) (n + 1000000) := by
  cases hf : fnd ws t with
  | none =>
    rw [show turnW ws t r = ws from by unfold turnW; rw [hf]]
    exact h.sub hi (List.Sublist.refl _) (rDrop_len _ _) (rDrop_mb h.mb _)
  | some j =>
    rw [show turnW ws t r = ws.set j (turned (wq ws j) r) from by unfold turnW; rw [hf]]
    refine ⟨hi, by have := h.len; rw [List.length_set]; omega, by have := h.ml; have := rDrop_len m (tick ws t); omega, by have := h.la; omega, by have := h.nn; omega, ?_, ?_, ?_, ?_, rDrop_mb h.mb _⟩
    · rw [map_set_same (·.f2) ws j (turned (wq ws j) r) rfl]
      exact h.st
    · rw [map_set_same (·.f0) ws j (turned (wq ws j) r) rfl]
      exact h.nd
    · intro x hx
      rcases mem_set hx with hx | ⟨rfl, hj⟩
      · exact h.tk x hx
      · exact h.tk (wq ws j) (wq_mem hj)
    · intro x hx
      rcases mem_set hx with hx | ⟨rfl, hj⟩
      · exact h.ok x hx
      · exact h.ok (wq ws j) (wq_mem hj)
theorem Pl.bk (h : Pl i ws last m n) : ∀ j, j < ws.length → Bk (wq ws j).f2 := fun j hj => by
  have h1 := h.tk _ (wq_mem hj)
  have h2 := h.la
  have h3 := h.i60
  exact ⟨by omega, by omega⟩
theorem Pl.oks (h : Pl i ws last m n) : ∀ j, j < ws.length → okA (wq ws j).f4 := fun j hj => h.ok _ (wq_mem hj)
end
end Go.Proofs.Ytakbhnfmimnbhaa.Ln
