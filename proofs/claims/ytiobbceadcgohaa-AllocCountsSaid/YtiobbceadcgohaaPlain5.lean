/- Runs and Counts answer true. -/
import Derived.Test.YtiobbceadcgohaaPCx3
import Derived.Test.YtiobbceadcgohaaPlain2
namespace Go.Proofs.Ytiobbceadcgohaa.Plain
open Go.RowKit Go.Proofs.Ytiobbceadcgohaa.PC Go.Proofs.Ytiobbceadcgohaa.Y Go.Proofs.Ytiobbceadcgohaa.Pure Go.Proofs.Ytiobbceadcgohaa.Callers Go.Proofs.YtiobbceadcgohaaW.PrintWords Go.Proofs.YtiobbceadcgohaaW.PrintLast
set_option linter.unusedVariables false

/-- From some fuel on. -/
def Ev (p : Nat → Prop) : Prop := ∃ K, ∀ k, K ≤ k → p k
theorem Ev.next {p q : Nat → Prop} (h : Ev p) (hs : ∀ k, p k → q (k + 1)) : Ev q := by
  obtain ⟨K, hK⟩ := h
  refine ⟨K + 1, fun k hk => ?_⟩
  obtain ⟨k, rfl⟩ : ∃ m, k = m + 1 := ⟨k - 1, by omega⟩
  exact hs k (hK k (by omega))
theorem Ev.all {p : Nat → Prop} (h : ∀ k, p k) : Ev p := ⟨0, fun k _ => h k⟩
theorem Ev.and {p q : Nat → Prop} (h1 : Ev p) (h2 : Ev q) : Ev fun k => p k ∧ q k := by
  obtain ⟨K, hK⟩ := h1; obtain ⟨L, hL⟩ := h2
  exact ⟨max K L, fun k hk => ⟨hK k (by omega), hL k (by omega)⟩⟩
theorem Ev.mono {p q : Nat → Prop} (h : Ev p) (hs : ∀ k, p k → q k) : Ev q := by
  obtain ⟨K, hK⟩ := h; exact ⟨K, fun k hk => hs k (hK k hk)⟩

theorem free_l0 : ∀ k, PC.budwoodref07_free.l0 k = PB.budwoodref07_free.l0 k
  | 0 => rfl
  | k + 1 => by
    funext a b c d
    simp only [PC.budwoodref07_free.l0, PB.budwoodref07_free.l0, free_l0 k]
theorem free_same (k : Nat) : PC.budwoodref07_free.f k = PB.budwoodref07_free.f k := by
  funext a b c
  simp only [PC.budwoodref07_free.f, PB.budwoodref07_free.f, free_l0 k]
theorem free_eq' (l : List Bool) (hl : l.length ≤ 1000000) (a : Nat) (ha : a ≤ l.length) (m : Int) (hm : 1 ≤ m) (k : Nat) (hk : l.length < k) :
    ∃ b, PC.budwoodref07_free.f k l (a : Int) m = some b ∧ (b = true ↔ Fr l a m.toNat) := by
  rw [free_same]; exact free_eq l hl a ha m hm k hk

theorem stop_step (l : List Bool) (i : Nat) (h : us l i = false) : stop l i = stop l (i + 1) := by
  refine stop_eq l (by have := stop_ge l (i + 1); omega) (fun j h1 h2 => ?_) (stop_used l _)
  by_cases e : j = i
  · subst e; exact h
  · exact stop_free l (i := i + 1) (by omega) h2
theorem stop_here (l : List Bool) (i : Nat) (h : us l i = true) : stop l i = i := stop_eq l (Nat.le_refl _) (fun j h1 h2 => by omega) h
theorem rest_stop (l : List Bool) (i : Nat) (h : us l i = true) : rest l i = rest l (i + 1) := by
  by_cases hi : i < l.length
  · have := rest_none l i hi (by rw [stop_here l i h]; omega)
    rw [this, stop_here l i h]
  · rw [rest_end l i (by omega), rest_end l (i + 1) (by omega)]

/-- What is still to come at place i. -/
def rem (l : List Bool) (i : Nat) : List (Nat × Nat) := if i = 0 ∨ us l (i - 1) = true then rest l i else rest l (stop l i)
theorem rem_used (l : List Bool) (i : Nat) (h : us l i = true) : rem l i = rem l (i + 1) := by
  have e : rem l (i + 1) = rest l (i + 1) := by unfold rem; rw [if_pos (.inr h)]
  rw [e]; unfold rem
  split
  · exact rest_stop l i h
  · rw [stop_here l i h]; exact rest_stop l i h
theorem rem_free (l : List Bool) (i : Nat) (h : us l i = false) (hi : 0 < i) (hp : us l (i - 1) = false) : rem l i = rem l (i + 1) := by
  have e : rem l (i + 1) = rest l (stop l (i + 1)) := by unfold rem; rw [if_neg (by simp [h])]
  rw [e]; unfold rem
  rw [if_neg (by simp [hp]; omega), stop_step l i h]
theorem rem_start (l : List Bool) (i : Nat) (h : us l i = false) (hp : i = 0 ∨ us l (i - 1) = true) : rem l i = (i, stop l i - i) :: rem l (i + 1) := by
  have e : rem l (i + 1) = rest l (stop l (i + 1)) := by unfold rem; rw [if_neg (by simp [h])]
  have hlt := us_lt h
  have h1 : i < stop l i := by have := stop_ge l (i + 1); rw [stop_step l i h]; omega
  rw [e]; unfold rem
  rw [if_pos hp, rest_run l i hlt h1, ← stop_step l i h]
  congr 1
  exact (rest_stop l _ (stop_used l i)).symm

theorem runs_inner (l : List Bool) (hl : l.length ≤ 1000000) (i : Nat) (hi : i < l.length) (R : Option (List S36)) (acc : List S36) (hacc : acc.length ≤ 1000000)
    (hn : Ev fun k => budwoodref07_Runs.l0 k l (acc ++ [⟨(i : Int), ((stop l i - i : Nat) : Int)⟩]) (i + 1 : Nat) = R) (d : Nat) : ∀ n, 1 ≤ n → i + n + d = stop l i →
    Ev fun k => budwoodref07_Runs.l1 k l acc (i : Int) (n : Int) = R := by
  have hs := stop_le l i (by omega)
  induction d with
  | zero =>
    intro n h1 h2
    refine (hn.and ⟨l.length + 1, fun k hk => hk⟩).next (fun k hk => ?_)
    obtain ⟨hk, hkl⟩ := hk
    simp only [budwoodref07_Runs.l1]
    rw [w64 (x := (n : Int) + 1) (by omega) (by omega)]
    obtain ⟨b, hb, hbt⟩ := free_eq' l hl i (by omega) ((n : Int) + 1) (by omega) k (by omega)
    rw [hb, Option.bind_some]
    have hbf : ¬ b = true := by
      intro hb1
      have := hbt.1 hb1
      have := fr_stop l (Nat.le_refl i) (stop_ge l i) this (by omega)
      omega
    rw [if_neg hbf, if_pos (by omega), w64 (by omega) (by omega)]
    have : n = stop l i - i := by omega
    rw [← this] at hk
    exact hk
  | succ d ih =>
    intro n h1 h2
    refine ((ih (n + 1) (by omega) (by omega)).and ⟨l.length + 1, fun k hk => hk⟩).next (fun k hk => ?_)
    obtain ⟨hk, hkl⟩ := hk
    simp only [budwoodref07_Runs.l1]
    rw [w64 (x := (n : Int) + 1) (by omega) (by omega)]
    obtain ⟨b, hb, hbt⟩ := free_eq' l hl i (by omega) ((n : Int) + 1) (by omega) k (by omega)
    rw [hb, Option.bind_some]
    have hbf : b = true := hbt.2 (stop_fr l (Nat.le_refl i) (by omega))
    rw [if_pos hbf]
    exact hk

theorem s36_cons (x : Nat × Nat) (xs : List (Nat × Nat)) : s36 (x :: xs) = ⟨(x.1 : Int), (x.2 : Int)⟩ :: s36 xs := rfl

theorem runs_outer (l : List Bool) (hl : l.length ≤ 1000000) (d : Nat) : ∀ (i : Nat) (acc : List S36), i + d = l.length → acc.length ≤ i →
    Ev fun k => budwoodref07_Runs.l0 k l acc (i : Int) = some (acc ++ s36 (rem l i)) := by
  induction d with
  | zero =>
    intro i acc hi ha
    refine (Ev.all (p := fun _ => True) (fun _ => trivial)).next (fun k _ => ?_)
    simp only [budwoodref07_Runs.l0]
    rw [if_neg (by omega)]
    have : rem l i = [] := by
      unfold rem
      split
      · exact rest_end l i (by omega)
      · exact rest_end l _ (by have := stop_ge l i; omega)
    rw [this]; simp [s36]
  | succ d ih =>
    intro i acc hi ha
    have hw : wrap64 ((i : Int) + 1) = ((i + 1 : Nat) : Int) := by rw [w64 (by omega) (by omega)]; rfl
    cases hu : us l i with
    | true =>
      rw [rem_used l i hu]
      refine ((ih (i + 1) acc (by omega) (by omega)).next (q := fun k => budwoodref07_Runs.j1 k l acc i true = some (acc ++ s36 (rem l (i + 1)))) (fun k hk => ?_)).next (fun k hk => ?_)
      · simp only [budwoodref07_Runs.j1]; rw [if_pos trivial, hw]; exact hk
      · simp only [budwoodref07_Runs.l0]
        rw [if_pos (by omega), if_pos (by omega), rd_us l _ (by omega) (by omega), Int.toNat_natCast, hu, if_pos rfl]
        exact hk
    | false =>
      by_cases hp : i = 0 ∨ us l (i - 1) = true
      · have hs : stop l i = stop l (i + 1) := stop_step l i hu
        have hge := stop_ge l (i + 1)
        have h1 := ih (i + 1) (acc ++ [⟨(i : Int), ((stop l i - i : Nat) : Int)⟩]) (by omega) (by simp; omega)
        rw [rem_start l i hu hp, s36_cons]
        have h2 := runs_inner l hl i (by omega) _ acc (by omega) h1 (stop l i - i - 1) 1 (by omega) (by omega)
        refine (h2.next (q := fun k => budwoodref07_Runs.j1 k l acc i false = some (acc ++ [⟨(i : Int), ((stop l i - i : Nat) : Int)⟩] ++ s36 (rem l (i + 1)))) (fun k hk => ?_)).next (fun k hk => ?_)
        · simp only [budwoodref07_Runs.j1]; rw [if_neg (by simp)]; exact hk
        · simp only [budwoodref07_Runs.l0]
          rw [if_pos (by omega), if_pos (by omega), rd_us l _ (by omega) (by omega), Int.toNat_natCast, hu, if_neg (by simp)]
          have hk' : budwoodref07_Runs.j1 k l acc i false = some (acc ++ ⟨(i : Int), ((stop l i - i : Nat) : Int)⟩ :: s36 (rem l (i + 1))) := by
            rw [hk]; simp
          by_cases h0 : i = 0
          · rw [if_neg (by omega)]; exact hk'
          · have hp' : us l (i - 1) = true := hp.resolve_left h0
            rw [if_pos (by omega), w64 (x := (i : Int) - 1) (by omega) (by omega), if_pos (by omega), if_pos (by omega), rd_us l _ (by omega) (by omega),
              show ((i : Int) - 1).toNat = i - 1 from by omega, hp']
            exact hk'
      · have h0 : 0 < i := by
          rcases Nat.eq_zero_or_pos i with e | e
          · exact absurd (.inl e) hp
          · exact e
        have hp' : us l (i - 1) = false := by
          cases h : us l (i - 1) with
          | true => exact absurd (.inr h) hp
          | false => rfl
        rw [rem_free l i hu h0 hp']
        refine ((ih (i + 1) acc (by omega) (by omega)).next (q := fun k => budwoodref07_Runs.j1 k l acc i true = some (acc ++ s36 (rem l (i + 1)))) (fun k hk => ?_)).next (fun k hk => ?_)
        · simp only [budwoodref07_Runs.j1]; rw [if_pos trivial, hw]; exact hk
        · simp only [budwoodref07_Runs.l0]
          rw [if_pos (by omega), if_pos (by omega), rd_us l _ (by omega) (by omega), Int.toNat_natCast, hu, if_neg (by simp)]
          rw [if_pos (by omega), w64 (x := (i : Int) - 1) (by omega) (by omega), if_pos (by omega), if_pos (by omega), rd_us l _ (by omega) (by omega),
              show ((i : Int) - 1).toNat = i - 1 from by omega, hp']
          exact hk
theorem refRuns (l : List Bool) (hl : l.length ≤ 1000000) : Ev fun k => budwoodref07_Runs.f k l = some (s36 (runsL l)) := by
  refine (runs_outer l hl l.length 0 [] (by omega) (by simp)).mono (fun k hk => ?_)
  unfold budwoodref07_Runs.f
  have : rem l 0 = runsL l := by unfold rem; rw [if_pos (.inl rfl)]; rfl
  rw [this] at hk
  exact hk

theorem rd36 (xs : List S36) (i : Nat) (x : S36) (ys : List S36) (h : xs.drop i = x :: ys) : rd_T36 xs (i : Int) = x ∧ i < xs.length ∧ xs.drop (i + 1) = ys := by
  have hi : i < xs.length := by
    rcases Nat.lt_or_ge i xs.length with h' | h'
    · exact h'
    · rw [List.drop_eq_nil_of_le h'] at h; cases h
  rw [List.drop_eq_getElem_cons hi] at h
  injection h with h1 h2
  refine ⟨?_, hi, h2⟩
  unfold rd_T36
  rw [Int.toNat_natCast, List.getD_eq_getElem?_getD, List.getElem?_eq_getElem hi]; exact h1

theorem long_loop (xs : List S36) (hx : xs.length ≤ 1000000) (ys : List (Nat × Nat)) : ∀ (i a : Nat), xs.drop i = s36 ys →
    Ev fun k => budwoodref07_Longest.l0 k xs (a : Int) (i : Int) = some ((ys.foldl (fun m x => max m x.2) a : Nat) : Int) := by
  induction ys with
  | nil =>
    intro i a h
    refine (Ev.all (p := fun _ => True) (fun _ => trivial)).next (fun k _ => ?_)
    simp only [budwoodref07_Longest.l0]
    have hi : xs.length ≤ i := by
      rcases Nat.lt_or_ge i xs.length with h' | h'
      · rw [List.drop_eq_getElem_cons h'] at h; cases h
      · exact h'
    rw [if_neg (by omega)]; rfl
  | cons y ys ih =>
    intro i a h
    obtain ⟨h1, h2, h3⟩ := rd36 xs i _ _ h
    refine (ih (i + 1) (max a y.2) h3).next (fun k hk => ?_)
    simp only [budwoodref07_Longest.l0]
    rw [if_pos (by omega), if_pos (by omega), h1, w64 (by omega) (by omega)]
    have e : mx (a : Int) (y.2 : Int) = ((max a y.2 : Nat) : Int) := by
      unfold mx; split <;> omega
    dsimp only
    rw [e]
    exact hk
theorem refLongest (l : List Bool) (hl : l.length ≤ 1000000) : Ev fun k => budwoodref07_Longest.f k l = some (maxR (runsL l) : Int) := by
  have hlen : (s36 (runsL l)).length ≤ 1000000 := by have := runsL_length l; simp [s36]; omega
  refine ((refRuns l hl).and (long_loop (s36 (runsL l)) hlen (runsL l) 0 0 rfl)).mono (fun k hk => ?_)
  unfold budwoodref07_Longest.f
  rw [hk.1, Option.bind_some]
  exact hk.2
theorem free_cnt (l : List Bool) (hl : l.length ≤ 1000000) (d : Nat) : ∀ (i a : Nat), i + d = l.length → a ≤ i →
    Ev fun k => budwoodref07_Free.l0 k l (a : Int) (i : Int) = some ((a + cnt l i : Nat) : Int) := by
  induction d with
  | zero =>
    intro i a hi ha
    refine (Ev.all (p := fun _ => True) (fun _ => trivial)).next (fun k _ => ?_)
    simp only [budwoodref07_Free.l0]
    rw [if_neg (by omega), cnt_end l (by omega)]; rfl
  | succ d ih =>
    intro i a hi ha
    have hw : wrap64 ((i : Int) + 1) = ((i + 1 : Nat) : Int) := by rw [w64 (by omega) (by omega)]; rfl
    rw [cnt_step l (a := i) (by omega)]
    cases hu : us l i with
    | true =>
      refine (ih (i + 1) a (by omega) (by omega)).next (fun k hk => ?_)
      simp only [budwoodref07_Free.l0]
      rw [if_pos (by omega), if_pos (by omega), rd_us l _ (by omega) (by omega), Int.toNat_natCast, hu, if_pos rfl, hw, hk]
      simp
    | false =>
      refine (ih (i + 1) (a + 1) (by omega) (by omega)).next (fun k hk => ?_)
      simp only [budwoodref07_Free.l0]
      have hv : wrap64 ((a : Int) + 1) = ((a + 1 : Nat) : Int) := by rw [w64 (by omega) (by omega)]; rfl
      rw [if_pos (by omega), if_pos (by omega), rd_us l _ (by omega) (by omega), Int.toNat_natCast, hu, if_neg (by simp), hw, hv, hk]
      simp; omega
theorem refFree (l : List Bool) (hl : l.length ≤ 1000000) : Ev fun k => budwoodref07_Free.f k l = some (cnt l 0 : Int) := by
  refine (free_cnt l hl l.length 0 0 (by omega) (by omega)).mono (fun k hk => ?_)
  unfold budwoodref07_Free.f
  simpa using hk
theorem longest_y (l : List Bool) (hl : l.length ≤ 1000000) : Y.alloc_Longest.f l = some (maxR (runsL l) : Int) := longest_f l hl
theorem free_y (l : List Bool) (hl : l.length ≤ 1000000) : Y.alloc_Free.f l = some (cnt l 0 : Int) := free_f l hl
theorem runs_y (l : List Bool) (hl : l.length ≤ 1000000) : Y.alloc_Runs.f l = some (s36 (runsL l)) := by unfold Y.alloc_Runs.f; rw [if_pos hl]
theorem awake_y : Y.budwoodlaw07_awake.f = some true := awake_true

theorem runs_law (l : List Bool) (hl : l.length ≤ 1000000) (xs : List S36) (hx : xs.length ≤ 1000000) (d : Nat) : ∀ i, i + d = xs.length →
    Ev fun k => budwoodlaw07_AllocRuns.l0 k l xs xs (i : Int) = some true := by
  induction d with
  | zero =>
    intro i hi
    refine ((refLongest l hl).and (refFree l hl)).next (fun k hk => ?_)
    simp only [budwoodlaw07_AllocRuns.l0]
    rw [if_neg (by omega), if_pos trivial, longest_y l hl, Option.bind_some, hk.1, Option.bind_some, if_pos rfl, free_y l hl, Option.bind_some, hk.2, Option.bind_some, if_pos rfl, awake_y]; rfl
  | succ d ih =>
    intro i hi
    refine (ih (i + 1) (by omega)).next (fun k hk => ?_)
    simp only [budwoodlaw07_AllocRuns.l0]
    rw [if_pos (by omega), if_neg (by omega), if_pos (by omega), if_pos (by omega), if_neg (by simp), w64 (by omega) (by omega)]
    exact hk
theorem runs_true (l : List Bool) (hl : l.length ≤ 140737488351232) : ∃ k, budwoodlaw07_AllocRuns.f k l = some true := by
  by_cases h : (l.length : Int) > 400
  · refine ⟨0, ?_⟩
    unfold budwoodlaw07_AllocRuns.f
    rw [if_pos h, awake_y]; rfl
  · have hlen : (s36 (runsL l)).length ≤ 1000000 := by have := runsL_length l; simp [s36]; omega
    obtain ⟨k, hk⟩ := (refRuns l (by omega)).and (runs_law l (by omega) (s36 (runsL l)) hlen (s36 (runsL l)).length 0 (by omega))
    refine ⟨k, ?_⟩
    unfold budwoodlaw07_AllocRuns.f
    rw [if_neg h, runs_y l (by omega), Option.bind_some, (hk k (Nat.le_refl _)).1, Option.bind_some]
    exact (hk k (Nat.le_refl _)).2

theorem maxR_le_sum (xs : List (Nat × Nat)) : maxR xs ≤ sumR xs := by
  have h : ∀ (ys : List (Nat × Nat)) (a : Nat), ys.foldl (fun m x => max m x.2) a ≤ a + sumR ys := by
    intro ys
    induction ys with
    | nil => intro a; simp [sumR]
    | cons y ys ih =>
      intro a
      have := ih (max a y.2)
      have e : sumR (y :: ys) = y.2 + sumR ys := by simp [sumR]
      simp only [List.foldl_cons]; omega
  have := h xs 0
  unfold maxR; omega
theorem counts_law (l : List Bool) (hl : l.length ≤ 1000000) (xs : List S36) (hx : xs.length ≤ 1000000) (d : Nat) : ∀ (a i s : Nat) (e : Int), d = l.length - a → xs.drop i = s36 (rest l a) → e < a → -1 ≤ e → s + cnt l a = cnt l 0 →
    Ev fun k => budwoodlaw07_AllocCounts.l0 k l xs (s : Int) e (i : Int) = some true := by
  induction d using Nat.strongRecOn with
  | ind d ih =>
    intro a i s e hd hdr he he0 hs
    have hc := cnt_le l 0
    cases hr : rest l a with
    | nil =>
      rw [hr] at hdr
      have hi : xs.length ≤ i := by
        rcases Nat.lt_or_ge i xs.length with h' | h'
        · rw [List.drop_eq_getElem_cons h'] at hdr; cases hdr
        · exact h'
      have h0 : cnt l a = 0 := by
        have := sum_rest l (l.length - a) a rfl
        rw [hr] at this; simpa [sumR] using this.symm
      have hm := maxR_le_sum (runsL l)
      have hsum : sumR (runsL l) = cnt l 0 := sum_rest l l.length 0 (by omega)
      refine (Ev.all (p := fun _ => True) (fun _ => trivial)).next (fun k _ => ?_)
      simp only [budwoodlaw07_AllocCounts.l0]
      rw [if_neg (by omega), free_y l hl, Option.bind_some, if_pos (by omega), Option.bind_some, if_pos (by omega), longest_y l hl, Option.bind_some, if_pos (by omega), awake_y]; rfl
    | cons y ys =>
      -- the run that is next
      have key : ∀ (f a : Nat), f = l.length - a → ∀ y ys, rest l a = y :: ys → a ≤ y.1 ∧ 1 ≤ y.2 ∧ y.1 + y.2 ≤ l.length ∧ ys = rest l (y.1 + y.2 + 1) ∧ cnt l a = y.2 + cnt l (y.1 + y.2 + 1) := by
        intro f
        induction f using Nat.strongRecOn with
        | ind f ihf =>
          intro a hf y ys hr
          have ha : a < l.length := by
            rcases Nat.lt_or_ge a l.length with h' | h'
            · exact h'
            · rw [rest_end l a h'] at hr; cases hr
          have hsle := stop_le l a (by omega)
          have hsge := stop_ge l a
          have hcs : ∀ b, cnt l (stop l b) = cnt l (stop l b + 1) := by
            intro b
            by_cases hb : stop l b < l.length
            · rw [cnt_step l hb, stop_used l b]; simp
            · rw [cnt_end l (by omega), cnt_end l (by omega)]
          by_cases hst : a < stop l a
          · rw [rest_run l a ha hst] at hr
            injection hr with e1 e2
            subst e1
            have hcf := cnt_free l a (stop l a - a) (stop l a) (by omega) hsle (fun j h1 h2 => stop_free l h1 h2)
            refine ⟨Nat.le_refl _, by dsimp only; omega, by dsimp only; omega, ?_, ?_⟩
            · dsimp only; rw [show a + (stop l a - a) + 1 = stop l a + 1 from by omega]; exact e2.symm
            · dsimp only; rw [show a + (stop l a - a) + 1 = stop l a + 1 from by omega, ← hcs a]; exact hcf
          · rw [rest_none l a ha hst] at hr
            obtain ⟨g1, g2, g3, g4, g5⟩ := ihf (l.length - (stop l a + 1)) (by omega) (stop l a + 1) rfl y ys hr
            refine ⟨by omega, g2, g3, g4, ?_⟩
            have : stop l a = a := by omega
            rw [← g5, ← hcs a, this]
      obtain ⟨g1, g2, g3, g4, g5⟩ := key _ a rfl y ys hr
      rw [hr] at hdr
      obtain ⟨h1, h2, h3⟩ := rd36 xs i _ _ hdr
      rw [g4] at h3
      have hcl := cnt_le l (y.1 + y.2 + 1)
      refine (ih (l.length - (y.1 + y.2 + 1)) (by omega) (y.1 + y.2 + 1) (i + 1) (s + y.2) ((y.1 + y.2 : Nat) : Int) rfl h3 (by omega) (by omega) (by omega)).next (fun k hk => ?_)
      simp only [budwoodlaw07_AllocCounts.l0]
      rw [if_pos (by omega), if_pos (by omega), h1]
      dsimp only
      rw [if_neg (by omega), if_neg (by omega), if_neg (by omega), w64 (x := (l.length : Int) - (y.1 : Int)) (by omega) (by omega), if_neg (by omega),
        w64 (x := (s : Int) + (y.2 : Int)) (by omega) (by omega), w64 (x := (y.1 : Int) + (y.2 : Int)) (by omega) (by omega), w64 (x := (i : Int) + 1) (by omega) (by omega)]
      exact hk
theorem counts_true (l : List Bool) (hl : l.length ≤ 140737488351232) : ∃ k, budwoodlaw07_AllocCounts.f k l = some true := by
  by_cases h : (l.length : Int) > 400
  · refine ⟨0, ?_⟩
    unfold budwoodlaw07_AllocCounts.f
    rw [if_pos h, awake_y]; rfl
  · have hlen : (s36 (runsL l)).length ≤ 1000000 := by have := runsL_length l; simp [s36]; omega
    obtain ⟨k, hk⟩ := counts_law l (by omega) (s36 (runsL l)) hlen l.length 0 0 0 (-1) (by omega) rfl (by omega) (by omega) (by omega)
    refine ⟨k, ?_⟩
    unfold budwoodlaw07_AllocCounts.f
    rw [if_neg h, runs_y l (by omega), Option.bind_some]
    exact hk k (Nat.le_refl _)
end Go.Proofs.Ytiobbceadcgohaa.Plain
