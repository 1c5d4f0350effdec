/- More and Fits answer true. -/
import Derived.Test.YtiobbceadcgohaaPBx3
import Derived.Test.YtiobbceadcgohaaPBx4
import Derived.Test.YtiobbceadcgohaaPlain
namespace Go.Proofs.Ytiobbceadcgohaa.Plain
open Go.RowKit Go.Proofs.Ytiobbceadcgohaa.PB Go.Proofs.Ytiobbceadcgohaa.X Go.Proofs.Ytiobbceadcgohaa.Pure Go.Proofs.Ytiobbceadcgohaa.Callers Go.Proofs.YtiobbceadcgohaaW.PrintWords Go.Proofs.YtiobbceadcgohaaW.PrintLast
set_option linter.unusedVariables false

theorem maxR_acc (xs : List (Nat × Nat)) (a : Nat) : a ≤ xs.foldl (fun m x => max m x.2) a ∧ (∀ x, x ∈ xs → x.2 ≤ xs.foldl (fun m x => max m x.2) a) ∧ (xs.foldl (fun m x => max m x.2) a = a ∨ ∃ x, x ∈ xs ∧ x.2 = xs.foldl (fun m x => max m x.2) a) := by
  induction xs generalizing a with
  | nil => exact ⟨Nat.le_refl _, fun x hx => (by cases hx), .inl rfl⟩
  | cons y ys ih =>
    obtain ⟨h1, h2, h3⟩ := ih (max a y.2)
    simp only [List.foldl_cons]
    refine ⟨by omega, fun x hx => ?_, ?_⟩
    · rcases List.mem_cons.1 hx with rfl | hx
      · omega
      · exact h2 x hx
    · rcases h3 with h3 | ⟨x, hx, e⟩
      · rcases Nat.le_total a y.2 with h | h
        · exact .inr ⟨y, List.mem_cons_self, by rw [h3]; omega⟩
        · exact .inl (by rw [h3]; omega)
      · exact .inr ⟨x, List.mem_cons_of_mem _ hx, e⟩
theorem maxR_ge {xs : List (Nat × Nat)} {x : Nat × Nat} (h : x ∈ xs) : x.2 ≤ maxR xs := (maxR_acc xs 0).2.1 x h
theorem maxR_mem {xs : List (Nat × Nat)} (h : 0 < maxR xs) : ∃ x, x ∈ xs ∧ x.2 = maxR xs := by
  rcases (maxR_acc xs 0).2.2 with e | e
  · have : maxR xs = 0 := e; omega
  · exact e

/-- The longest run, told by the places. -/
theorem maxR_iff (l : List Bool) (n : Nat) (hn : 0 < n) : n ≤ maxR (runsL l) ↔ ∃ i, Fr l i n := by
  have h := find_rest l n hn l.length 0 (by omega)
  constructor
  · intro hm
    obtain ⟨x, hx, e⟩ := maxR_mem (xs := runsL l) (by omega)
    cases hq : (rest l 0).find? (fun x => decide (n ≤ x.2)) with
    | none => have := List.find?_eq_none.1 hq x hx; simp at this; omega
    | some y => rw [hq] at h; exact ⟨_, h.1⟩
  · rintro ⟨i, hi⟩
    cases hq : (rest l 0).find? (fun x => decide (n ≤ x.2)) with
    | none => rw [hq] at h; exact absurd hi (h i (Nat.zero_le _))
    | some y =>
      have h1 := List.find?_some hq
      have h2 := maxR_ge (List.mem_of_find?_eq_some hq)
      simp at h1
      show n ≤ maxR (rest l 0)
      omega

theorem us_set (l : List Bool) (p : Nat) (hp : p < l.length) (j : Nat) : us (l.set p false) j = if j = p then false else us l j := by
  unfold us
  by_cases h : j = p
  · subst h; rw [if_pos rfl, List.getElem?_set_self hp]; rfl
  · rw [if_neg h, List.getElem?_set_ne (Ne.symm h)]
theorem fr_set (l : List Bool) (p : Nat) (hp : p < l.length) {i n : Nat} (h : Fr l i n) : Fr (l.set p false) i n := fun j h1 h2 => by
  rw [us_set l p hp, h j h1 h2]; split <;> rfl
theorem cnt_set (l : List Bool) (p : Nat) (hp : p < l.length) : cnt l 0 ≤ cnt (l.set p false) 0 := by
  unfold cnt
  rw [List.length_set]
  rw [← List.countP_eq_length_filter, ← List.countP_eq_length_filter]
  refine List.countP_mono_left (fun j _ hj => ?_)
  rw [us_set l p hp]
  split
  · rfl
  · exact hj
theorem maxR_set (l : List Bool) (p : Nat) (hp : p < l.length) : maxR (runsL l) ≤ maxR (runsL (l.set p false)) := by
  rcases Nat.eq_zero_or_pos (maxR (runsL l)) with h | h
  · omega
  · obtain ⟨i, hi⟩ := (maxR_iff l _ h).1 (Nat.le_refl _)
    exact (maxR_iff _ _ h).2 ⟨i, fr_set l p hp hi⟩
theorem wsum_eq (xs : List (Nat × Nat)) : ∀ (a : Nat), a + sumR xs ≤ 1000000000 → xs.foldl (fun (m : Int) x => wrap64 (m + x.2)) (a : Int) = ((a + sumR xs : Nat) : Int) := by
  induction xs with
  | nil => intro a _; simp [sumR]
  | cons y ys ih =>
    intro a h
    have e : sumR (y :: ys) = y.2 + sumR ys := by simp [sumR]
    rw [e] at h ⊢
    simp only [List.foldl_cons]
    rw [w64 (by omega) (by omega), show (a : Int) + (y.2 : Int) = ((a + y.2 : Nat) : Int) from by omega, ih (a + y.2) (by omega)]
    congr 1; omega
theorem wsum_cnt (l : List Bool) (hl : l.length ≤ 1000000) : wsum (runsL l) = (cnt l 0 : Int) := by
  have h1 := sum_rest l l.length 0 (by omega)
  have h2 := cnt_le l 0
  have h3 : sumR (runsL l) = cnt l 0 := h1
  have := wsum_eq (runsL l) 0 (by omega)
  rw [h3] at this
  simpa [wsum] using this

theorem find_f (l : List Bool) (m : Int) (hl : l.length ≤ 1000000) : alloc_Find.f l m = some (fnd l m) := by unfold alloc_Find.f; rw [if_pos (by omega)]
theorem longest_f (l : List Bool) (hl : l.length ≤ 1000000) : alloc_Longest.f l = some (maxR (runsL l) : Int) := by unfold alloc_Longest.f; rw [if_pos (by omega)]
theorem free_f (l : List Bool) (hl : l.length ≤ 1000000) : alloc_Free.f l = some (cnt l 0 : Int) := by unfold alloc_Free.f; rw [if_pos (by omega), wsum_cnt l hl]

theorem more_true (l : List Bool) (a n : Int) (hl : l.length ≤ 140737488351232) (ha0 : 0 ≤ a) (ha1 : a ≤ 255) (hn0 : 0 ≤ n) (hn1 : n ≤ 255) : ∃ k, budwoodlaw07_AllocMore.f k l a n = some true := by
  refine ⟨1, ?_⟩
  unfold budwoodlaw07_AllocMore.f
  by_cases h : (l.length : Int) > 200
  · rw [if_pos h]; simp only [budwoodlaw07_AllocMore.j0, if_true]; rw [awake_true]; rfl
  · rw [if_neg h]
    simp only [budwoodlaw07_AllocMore.j0]
    by_cases h0 : (l.length : Int) = 0
    · rw [if_pos (by simpa using h0), awake_true]; rfl
    · rw [if_neg (by simpa using h0)]
      simp only [Option.bind_some, List.nil_append, List.length_nil]
      have wa : wrap64 a = a := w64 (by omega) (by omega)
      have wn : wrap64 n = n := w64 (by omega) (by omega)
      have ea : Int.tmod a (l.length : Int) = a % (l.length : Int) := Int.tmod_eq_emod_of_nonneg ha0
      have b0 := Int.emod_nonneg a h0
      have b1 := Int.emod_lt_of_pos a (b := (l.length : Int)) (by omega)
      rw [if_pos (by omega), if_neg h0, wa, wn, ea, if_pos b0, if_pos b1]
      obtain ⟨p, hp⟩ : ∃ p : Nat, a % (l.length : Int) = p := ⟨(a % (l.length : Int)).toNat, by omega⟩
      rw [hp] at b1 ⊢
      rw [Int.toNat_natCast]
      have hpl : p < l.length := by omega
      have em : wrap64 (1 + Int.tmod n 20) = 1 + n % 20 := by rw [Int.tmod_eq_emod_of_nonneg hn0]; exact w64 (by omega) (by omega)
      rw [em]
      generalize hm : 1 + n % 20 = m
      have hm1 : 1 ≤ m := by omega
      have hsl : (l.set p false).length ≤ 1000000 := by rw [List.length_set]; omega
      rw [find_f l m (by omega), find_f _ m hsl, free_f l (by omega), free_f _ hsl, longest_f l (by omega), longest_f _ hsl, awake_true]
      simp only [Option.bind_some]
      have c1 := cnt_set l p hpl
      have c2 := maxR_set l p hpl
      have t1 : (cnt (l.set p false) 0 : Int) ≥ (cnt l 0 : Int) := by omega
      have t2 : (maxR (runsL (l.set p false)) : Int) ≥ (maxR (runsL l) : Int) := by omega
      rw [if_pos t1, if_pos t2]
      rcases fnd_cases l m hm1 with ⟨t, e, hf, ht, hno⟩ | ⟨e, hno⟩
      · rw [e]; simp only [if_true]
        rcases fnd_cases (l.set p false) m hm1 with ⟨t', e', hf', ht', hno'⟩ | ⟨e', hno'⟩
        · rw [e']; simp only [if_true]
          have : t' ≤ t := by
            rcases Nat.lt_or_ge t t' with h5 | h5
            · exact absurd (fr_set l p hpl hf) (hno' t h5)
            · exact h5
          rw [if_pos (by omega)]
        · exact absurd (fr_set l p hpl hf) (hno' t)
      · rw [e, if_neg (by simp)]
end Go.Proofs.Ytiobbceadcgohaa.Plain
