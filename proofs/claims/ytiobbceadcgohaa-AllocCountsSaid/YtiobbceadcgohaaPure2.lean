/- More on the runs of a row: where n free places begin, and how many are free. -/
import Derived.Test.YtiobbceadcgohaaPure
set_option linter.unusedVariables false
namespace Go.Proofs.Ytiobbceadcgohaa.Pure
/-- n places from i on are free. -/
def Fr (l : List Bool) (i n : Nat) : Prop := ∀ j, i ≤ j → j < i + n → us l j = false

theorem fr_stop (l : List Bool) {a i n : Nat} (ha : a ≤ i) (hi : i ≤ stop l a) (h : Fr l i n) (hn : 0 < n) : i + n ≤ stop l a := by
  rcases Nat.lt_or_ge (stop l a) (i + n) with h1 | h1
  · have := h (stop l a) hi h1
    rw [stop_used] at this; cases this
  · exact h1
theorem stop_fr (l : List Bool) {a i n : Nat} (ha : a ≤ i) (h : i + n ≤ stop l a) : Fr l i n := fun j h1 h2 => stop_free l (i := a) (by omega) (by omega)

/-- The first run of m places, from place a on: the lowest place at which m free ones begin. -/
theorem find_rest (l : List Bool) (m : Nat) (hm : 0 < m) : ∀ (d a : Nat), d = l.length - a →
    match (rest l a).find? (fun x => decide (m ≤ x.2)) with
    | some x => Fr l x.1 m ∧ a ≤ x.1 ∧ ∀ i, a ≤ i → i < x.1 → ¬ Fr l i m
    | none => ∀ i, a ≤ i → ¬ Fr l i m := by
  intro d
  induction d using Nat.strongRecOn with
  | ind d ih =>
    intro a hd
    by_cases h : l.length ≤ a
    · rw [rest_end l a h]
      intro i hi hf
      have := us_lt (hf i (Nat.le_refl _) (by omega))
      omega
    · have hs := stop_ge l a
      have h2 := ih (l.length - (stop l a + 1)) (by omega) (stop l a + 1) rfl
      -- no place up to the stop, if the run is too short
      have hno : stop l a < a + m → ∀ i, a ≤ i → i ≤ stop l a → ¬ Fr l i m := fun hlt i h1 h3 hf => by
        have := fr_stop l h1 h3 hf hm; omega
      by_cases hfit : a + m ≤ stop l a
      · rw [rest_run l a (by omega) (by omega), List.find?_cons_of_pos (by simp; omega)]
        exact ⟨stop_fr l (Nat.le_refl _) hfit, Nat.le_refl _, fun i h1 h3 => by omega⟩
      · have e : (rest l a).find? (fun x => decide (m ≤ x.2)) = (rest l (stop l a + 1)).find? (fun x => decide (m ≤ x.2)) := by
          by_cases hlt : a < stop l a
          · rw [rest_run l a (by omega) hlt, List.find?_cons_of_neg (by simp; omega)]
          · rw [rest_none l a (by omega) hlt]
        rw [e]
        cases hq : (rest l (stop l a + 1)).find? (fun x => decide (m ≤ x.2)) with
        | none =>
          rw [hq] at h2
          intro i hi
          rcases Nat.lt_or_ge (stop l a) i with h3 | h3
          · exact h2 i (by omega)
          · exact hno (by omega) i hi h3
        | some x =>
          rw [hq] at h2
          refine ⟨h2.1, by have := h2.2.1; omega, fun i h1 h3 => ?_⟩
          rcases Nat.lt_or_ge (stop l a) i with h4 | h4
          · exact h2.2.2 i (by omega) h3
          · exact hno (by omega) i h1 h4

/-- How many places are free, from place a on. -/
def cnt (l : List Bool) (a : Nat) : Nat := ((List.range' a (l.length - a)).filter (fun i => !us l i)).length
theorem cnt_end (l : List Bool) {a : Nat} (h : l.length ≤ a) : cnt l a = 0 := by unfold cnt; rw [show l.length - a = 0 from by omega]; rfl
theorem cnt_step (l : List Bool) {a : Nat} (h : a < l.length) : cnt l a = (if us l a then 0 else 1) + cnt l (a + 1) := by
  unfold cnt
  obtain ⟨d, hd⟩ : ∃ d, l.length - a = d + 1 := ⟨l.length - a - 1, by omega⟩
  rw [hd, show l.length - (a + 1) = d from by omega, List.range'_succ, List.filter_cons]
  cases us l a <;> simp <;> omega
theorem cnt_free (l : List Bool) (a : Nat) : ∀ (d e : Nat), e = a + d → e ≤ l.length → (∀ j, a ≤ j → j < e → us l j = false) → cnt l a = d + cnt l e := by
  intro d
  induction d with
  | zero => intro e he _ _; rw [he]; simp
  | succ d ih =>
    intro e he hl hf
    rw [ih (a + d) rfl (by omega) (fun j h1 h2 => hf j h1 (by omega)), cnt_step l (by omega), hf (a + d) (by omega) (by omega)]
    rw [show a + d + 1 = e from by omega]; simp; omega
def sumR (xs : List (Nat × Nat)) : Nat := (xs.map (·.2)).sum
theorem sum_rest (l : List Bool) : ∀ (d a : Nat), d = l.length - a → sumR (rest l a) = cnt l a := by
  intro d
  induction d using Nat.strongRecOn with
  | ind d ih =>
    intro a hd
    by_cases h : l.length ≤ a
    · rw [rest_end l a h, cnt_end l h]; rfl
    · have hs := stop_ge l a
      have hl := stop_le l a (by omega)
      have h2 := ih (l.length - (stop l a + 1)) (by omega) (stop l a + 1) rfl
      have h3 := cnt_free l a (stop l a - a) (stop l a) (by omega) hl (fun j h1 h4 => stop_free l h1 h4)
      have h4 : cnt l (stop l a) = cnt l (stop l a + 1) := by
        rcases Nat.lt_or_ge (stop l a) l.length with h5 | h5
        · rw [cnt_step l h5, stop_used]; simp
        · rw [cnt_end l h5, cnt_end l (by omega)]
      by_cases hlt : a < stop l a
      · rw [rest_run l a (by omega) hlt]
        show stop l a - a + sumR (rest l (stop l a + 1)) = _
        omega
      · rw [rest_none l a (by omega) hlt]; omega
theorem cnt_le (l : List Bool) (a : Nat) : cnt l a ≤ l.length - a := by
  unfold cnt; refine Nat.le_trans (List.length_filter_le _ _) ?_; simp
end Go.Proofs.Ytiobbceadcgohaa.Pure
