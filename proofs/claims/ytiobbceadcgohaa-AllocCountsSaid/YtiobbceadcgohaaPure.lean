/- The runs of a row of bools, in plain words: where each begins and how many places it has. -/
namespace Go.Proofs.Ytiobbceadcgohaa.Pure

/-- Is place i used? (Beyond the end: yes.) -/
def us (l : List Bool) (i : Nat) : Bool := l[i]?.getD true
theorem us_lt {l : List Bool} {i : Nat} (h : us l i = false) : i < l.length := by
  unfold us at h
  by_cases hi : i < l.length
  · exact hi
  · rw [List.getElem?_eq_none (by omega)] at h; simp at h

/-- The first place from i on that is used (at most 'fuel' places on). -/
def stopF (l : List Bool) : Nat → Nat → Nat
  | 0, i => i
  | k + 1, i => if us l i then i else stopF l k (i + 1)
def stop (l : List Bool) (i : Nat) : Nat := stopF l (l.length - i) i

theorem stopF_ge (l : List Bool) (k i : Nat) : i ≤ stopF l k i ∧ stopF l k i ≤ i + k := by
  induction k generalizing i with
  | zero => simp [stopF]
  | succ k ih =>
    have := ih (i + 1)
    unfold stopF; split <;> omega
theorem stopF_free (l : List Bool) (k i j : Nat) (h1 : i ≤ j) (h2 : j < stopF l k i) : us l j = false := by
  induction k generalizing i with
  | zero => simp [stopF] at h2; omega
  | succ k ih =>
    unfold stopF at h2
    split at h2
    · omega
    · rename_i h
      by_cases e : i = j
      · subst e; simpa using h
      · exact ih (i + 1) (by omega) h2
theorem stopF_used (l : List Bool) (k i : Nat) (h : stopF l k i < i + k) : us l (stopF l k i) = true := by
  induction k generalizing i with
  | zero => simp [stopF] at h
  | succ k ih =>
    unfold stopF at h ⊢
    split
    · rename_i h'; exact h'
    · rename_i h'; rw [if_neg h'] at h; exact ih (i + 1) (by omega)

theorem stop_ge (l : List Bool) (i : Nat) : i ≤ stop l i := (stopF_ge l _ i).1
theorem stop_le (l : List Bool) (i : Nat) (h : i ≤ l.length) : stop l i ≤ l.length := by have := (stopF_ge l (l.length - i) i).2; unfold stop; omega
theorem stop_free (l : List Bool) {i j : Nat} (h1 : i ≤ j) (h2 : j < stop l i) : us l j = false := stopF_free l _ i j h1 h2
theorem stop_used (l : List Bool) (i : Nat) : us l (stop l i) = true := by
  by_cases h : stop l i < i + (l.length - i)
  · exact stopF_used l _ i h
  · by_cases hi : i ≤ l.length
    · unfold us; rw [List.getElem?_eq_none (by omega)]; rfl
    · have := stop_ge l i; unfold us; rw [List.getElem?_eq_none (by omega)]; rfl
theorem stop_eq (l : List Bool) {i e : Nat} (h1 : i ≤ e) (h2 : ∀ j, i ≤ j → j < e → us l j = false) (h3 : us l e = true) : stop l i = e := by
  rcases Nat.lt_trichotomy (stop l i) e with h | h | h
  · have := stop_used l i; rw [h2 _ (stop_ge l i) h] at this; cases this
  · exact h
  · rw [stop_free l h1 h] at h3; cases h3

/-- The runs from place 'at' on. -/
def runsF (l : List Bool) : Nat → Nat → List (Nat × Nat)
  | 0, _ => []
  | k + 1, a => if a < l.length then (if a < stop l a then [(a, stop l a - a)] else []) ++ runsF l k (stop l a + 1) else []
def runsL (l : List Bool) : List (Nat × Nat) := runsF l (l.length + 1) 0

theorem runsF_end (l : List Bool) (k a : Nat) (h : l.length ≤ a) : runsF l k a = [] := by
  cases k <;> simp [runsF]; omega
theorem runsF_fuel (l : List Bool) : ∀ (k a : Nat), l.length < a + k → runsF l (k + 1) a = runsF l k a := by
  intro k
  induction k with
  | zero => intro a h; rw [runsF_end l _ a (by omega), runsF_end l _ a (by omega)]
  | succ k ih =>
    intro a h
    have hs := stop_ge l a
    show (if a < l.length then (if a < stop l a then [(a, stop l a - a)] else []) ++ runsF l (k + 1) (stop l a + 1) else []) = (if a < l.length then (if a < stop l a then [(a, stop l a - a)] else []) ++ runsF l k (stop l a + 1) else [])
    rw [ih (stop l a + 1) (by omega)]
theorem runsF_any (l : List Bool) (a : Nat) : ∀ k k', l.length < a + k → k ≤ k' → runsF l k' a = runsF l k a := by
  intro k k' h1 h2
  obtain ⟨d, rfl⟩ : ∃ d, k' = k + d := ⟨k' - k, by omega⟩
  induction d with
  | zero => rfl
  | succ d ih => rw [show k + (d + 1) = (k + d) + 1 from by omega, runsF_fuel l (k + d) a (by omega)]; exact ih (by omega)

/-- What comes from place 'at' on. -/
def rest (l : List Bool) (a : Nat) : List (Nat × Nat) := runsF l (l.length + 1) a
theorem rest_end (l : List Bool) (a : Nat) (h : l.length ≤ a) : rest l a = [] := runsF_end l _ a h
theorem rest_step (l : List Bool) (a : Nat) (h : a < l.length) : rest l a = (if a < stop l a then [(a, stop l a - a)] else []) ++ rest l (stop l a + 1) := by
  have hs := stop_ge l a
  show runsF l (l.length + 1) a = _
  rw [runsF, if_pos h, ← runsF_any l (stop l a + 1) l.length (l.length + 1) (by omega) (by omega)]
  rfl
theorem rest_run (l : List Bool) (a : Nat) (h : a < l.length) (hs : a < stop l a) : rest l a = (a, stop l a - a) :: rest l (stop l a + 1) := by rw [rest_step l a h, if_pos hs]; rfl
theorem rest_none (l : List Bool) (a : Nat) (h : a < l.length) (hs : ¬ a < stop l a) : rest l a = rest l (stop l a + 1) := by rw [rest_step l a h, if_neg hs]; rfl

/-- The length of what has come, if 'at' places have been gone through: no more than they. -/
theorem rest_length (l : List Bool) : ∀ (d a : Nat), d = l.length - a → (rest l a).length + a ≤ l.length ∨ l.length ≤ a := by
  intro d
  induction d using Nat.strongRecOn with
  | ind d ih =>
    intro a hd
    by_cases h : l.length ≤ a
    · exact .inr h
    · have hs := stop_ge l a
      have hl := stop_le l a (by omega)
      left
      have h2 := ih (l.length - (stop l a + 1)) (by omega) (stop l a + 1) rfl
      by_cases hlt : a < stop l a
      · rw [rest_run l a (by omega) hlt, List.length_cons]
        rcases h2 with h2 | h2
        · omega
        · rw [rest_end l _ h2]; simp; omega
      · rw [rest_none l a (by omega) hlt]
        rcases h2 with h2 | h2
        · omega
        · rw [rest_end l _ h2]; simp; omega
theorem runsL_length (l : List Bool) : (runsL l).length ≤ l.length := by
  rcases rest_length l l.length 0 (by omega) with h | h
  · simpa [runsL, rest] using h
  · have : rest l 0 = [] := rest_end l 0 h
    show (rest l 0).length ≤ _; rw [this]; simp
end Go.Proofs.Ytiobbceadcgohaa.Pure
