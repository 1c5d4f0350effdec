/- Room answers true. -/
import Derived.Test.YtiobbceadcgohaaRoom
import Derived.Test.YtiobbceadcgohaaPlain2
namespace Go.Proofs.Ytiobbceadcgohaa.Plain
open Go.RowKit Go.Proofs.Ytiobbceadcgohaa.PB Go.Proofs.Ytiobbceadcgohaa.X Go.Proofs.Ytiobbceadcgohaa.Pure Go.Proofs.Ytiobbceadcgohaa.Callers Go.Proofs.YtiobbceadcgohaaW.PrintWords Go.Proofs.YtiobbceadcgohaaW.PrintLast
set_option linter.unusedVariables false

/-- What stands behind the inner loop. -/
theorem room_tail (l : List Bool) (t i : Nat) (hi : i < l.length) (acc : Bool) (h1 : i < t → acc = true) (h2 : t ≤ i → us l i = false) (R : Option Bool) :
    (if (i : Int) < (t : Int) then (if acc = true then (if (i : Int) ≥ (t : Int) then (if 0 ≤ (i : Int) then (if (i : Int) < (l.length : Int) then (if rdOf false l (i : Int) = true then (some false) else R) else (none)) else (none)) else R) else (some false)) else (if (i : Int) ≥ (t : Int) then (if 0 ≤ (i : Int) then (if (i : Int) < (l.length : Int) then (if rdOf false l (i : Int) = true then (some false) else R) else (none)) else (none)) else R)) = R := by
  by_cases h : i < t
  · rw [if_pos (by omega), if_pos (h1 h), if_neg (by omega)]
  · rw [if_neg (by omega), if_pos (by omega), if_pos (by omega), if_pos (by omega), rd_us l _ (by omega) (by omega), Int.toNat_natCast, h2 (by omega), if_neg (by simp)]

theorem room_inner (l : List Bool) (hl : l.length ≤ 200) (m t i : Nat) (hm : m ≤ 20) (ht : t + m ≤ l.length) (hi : i < t + m) (h2 : t ≤ i → us l i = false) (k0 : Nat)
    (hnext : ∀ k, k0 ≤ k → budwoodlaw07_AllocRoom.l0 k l (m : Int) (t : Int) ((i + 1 : Nat) : Int) = some true) (d : Nat) : ∀ (j : Nat) (acc : Bool), j + d = min (i + m) l.length → i ≤ j →
    (i < t → acc = true ∨ ∃ q, j ≤ q ∧ q < j + d ∧ us l q = true) → ∀ k, k0 + d + 1 ≤ k → budwoodlaw07_AllocRoom.l1 k l (m : Int) (t : Int) (i : Int) acc (j : Int) = some true := by
  have wi : wrap64 ((i : Int) + (m : Int)) = ((i + m : Nat) : Int) := by rw [w64 (by omega) (by omega)]; omega
  have wi1 : wrap64 ((i : Int) + 1) = ((i + 1 : Nat) : Int) := by rw [w64 (by omega) (by omega)]; omega
  induction d with
  | zero =>
    intro j acc hj hij hacc k hk
    obtain ⟨k, rfl⟩ : ∃ q, k = q + 1 := ⟨k - 1, by omega⟩
    simp only [budwoodlaw07_AllocRoom.l1]
    rw [wi, wi1]
    have ha : i < t → acc = true := fun h => by
      rcases hacc h with h | ⟨q, h3, h4, _⟩
      · exact h
      · omega
    have hR := room_tail l t i (by omega) acc ha h2 (budwoodlaw07_AllocRoom.l0 k l (m : Int) (t : Int) ((i + 1 : Nat) : Int))
    have hB := hR.trans (hnext k (by omega))
    by_cases hje : (j : Int) < ((i + m : Nat) : Int)
    · have c2 : ¬ (j : Int) < (l.length : Int) := by clear hacc hR hB hnext; omega
      rw [if_pos hje, if_neg c2]; exact hB
    · rw [if_neg hje]; exact hB
  | succ d ih =>
    intro j acc hj hij hacc k hk
    have d1 : j < i + m ∧ j < l.length := by clear wi wi1 ih hacc hnext; omega
    have c1 : (j : Int) < ((i + m : Nat) : Int) := by have := d1.1; clear wi wi1 ih hacc hnext hj hk; omega
    have c2 : (j : Int) < (l.length : Int) := by have := d1.2; clear wi wi1 ih hacc hnext hj hk; omega
    obtain ⟨k, rfl⟩ : ∃ q, k = q + 1 := ⟨k - 1, by omega⟩
    have wj : wrap64 ((j : Int) + 1) = ((j + 1 : Nat) : Int) := by rw [w64 (by omega) (by omega)]; omega
    simp only [budwoodlaw07_AllocRoom.l1]
    rw [wi, if_pos c1, if_pos c2, wj]
    have s0 : j + 1 + d = j + (d + 1) := by rw [Nat.add_right_comm]; rfl
    have s1 : j + 1 + d = min (i + m) l.length := s0.trans hj
    have s2 : i ≤ j + 1 := by clear wi wi1 wj ih hacc hnext s1; omega
    have s3 : k0 + d + 1 ≤ k := by clear wi wi1 wj ih hacc hnext s1; omega
    have s4 : (0 : Int) ≤ (j : Int) := by clear wi wi1 wj ih hacc hnext s1; omega
    cases acc with
    | true =>
      rw [if_pos rfl]
      exact ih (j + 1) true s1 s2 (fun _ => .inl rfl) k s3
    | false =>
      rw [if_neg (by simp), if_pos s4, rd_us l _ s4 c2, Int.toNat_natCast]
      refine ih (j + 1) (us l j) s1 s2 (fun h => ?_) k s3
      rcases hacc h with h | ⟨q, h3, h4, h5⟩
      · cases h
      · by_cases e : q = j
        · subst e; exact .inl h5
        · exact .inr ⟨q, by clear wi wi1 wj; omega, by clear wi wi1 wj; omega, h5⟩

theorem room_outer (l : List Bool) (hl : l.length ≤ 200) (m t : Nat) (hm0 : 1 ≤ m) (hm : m ≤ 20) (ht : t + m ≤ l.length) (hf : Fr l t m) (hno : ∀ i, i < t → ¬ Fr l i m) (d : Nat) : ∀ (i : Nat), i + d = t + m →
    ∃ k0, ∀ k, k0 ≤ k → budwoodlaw07_AllocRoom.l0 k l (m : Int) (t : Int) (i : Int) = some true := by
  have wt : wrap64 ((t : Int) + (m : Int)) = ((t + m : Nat) : Int) := by rw [w64 (by omega) (by omega)]; omega
  induction d with
  | zero =>
    intro i hi
    refine ⟨1, fun k hk => ?_⟩
    obtain ⟨k, rfl⟩ : ∃ q, k = q + 1 := ⟨k - 1, by omega⟩
    simp only [budwoodlaw07_AllocRoom.l0]
    rw [wt, if_neg (by omega), awake_true]; rfl
  | succ d ih =>
    intro i hi
    obtain ⟨k0, hk0⟩ := ih (i + 1) (by omega)
    refine ⟨k0 + 500, fun k hk => ?_⟩
    obtain ⟨k, rfl⟩ : ∃ q, k = q + 1 := ⟨k - 1, by omega⟩
    simp only [budwoodlaw07_AllocRoom.l0]
    rw [wt, if_pos (by omega)]
    refine room_inner l hl m t i hm ht (by omega) (fun h => hf i h (by omega)) k0 hk0 (min (i + m) l.length - i) i false (by omega) (Nat.le_refl _) (fun h => .inr ?_) k (by omega)
    have := hno i h
    unfold Fr at this
    rcases Classical.not_forall.1 this with ⟨q, hq⟩
    rcases Classical.not_imp.1 hq with ⟨h1, hq⟩
    rcases Classical.not_imp.1 hq with ⟨h2, hq⟩
    exact ⟨q, h1, by omega, by simpa using hq⟩

theorem room_true (l : List Bool) (n : Int) (hl : l.length ≤ 140737488351232) (hn0 : 0 ≤ n) (hn1 : n ≤ 255) : ∃ k, budwoodlaw07_AllocRoom.f k l n = some true := by
  by_cases h : (l.length : Int) > 200
  · refine ⟨0, ?_⟩
    unfold budwoodlaw07_AllocRoom.f
    rw [if_pos h, awake_true]; rfl
  · have wn : wrap64 n = n := w64 (by omega) (by omega)
    have em : wrap64 (1 + Int.tmod n 20) = 1 + n % 20 := by rw [Int.tmod_eq_emod_of_nonneg hn0]; exact w64 (by omega) (by omega)
    obtain ⟨m, hm⟩ : ∃ m : Nat, 1 + n % 20 = m := ⟨(1 + n % 20).toNat, by omega⟩
    have hmi := maxR_iff l m (by omega)
    rcases fnd_cases l (m : Int) (by omega) with ⟨t, e, hf, ht, hno⟩ | ⟨e, hno⟩
    · rw [Int.toNat_natCast] at hf ht hno
      obtain ⟨k0, hk0⟩ := room_outer l (by omega) m t (by omega) (by omega) ht hf hno (t + m) 0 (by omega)
      refine ⟨k0 + 1, ?_⟩
      unfold budwoodlaw07_AllocRoom.f
      rw [if_neg h, wn, em, hm, find_f l m (by omega), longest_f l (by omega), e]
      simp only [Option.bind_some]
      have h1 : (maxR (runsL l) : Int) ≥ (m : Int) := by have := hmi.2 ⟨t, hf⟩; omega
      rw [decide_eq_true h1]
      simp only [beq_self_eq_true, bne_self_eq_false, if_true]
      rw [if_neg (by simp), if_neg (by omega), w64 (by omega) (by omega), decide_eq_false (by omega)]
      simp only [budwoodlaw07_AllocRoom.j0]
      rw [if_neg (by simp)]
      exact hk0 k0 (Nat.le_refl _)
    · rw [Int.toNat_natCast] at hno
      refine ⟨0, ?_⟩
      unfold budwoodlaw07_AllocRoom.f
      rw [if_neg h, wn, em, hm, find_f l m (by omega), longest_f l (by omega), e]
      simp only [Option.bind_some]
      have h1 : ¬ (maxR (runsL l) : Int) ≥ (m : Int) := fun h1 => by
        obtain ⟨i, hi⟩ := hmi.1 (by omega)
        exact hno i hi
      rw [decide_eq_false h1, awake_true]
      rfl
end Go.Proofs.Ytiobbceadcgohaa.Plain
