/- Plain facts of the rows: what the reference finds, in the runs' words; Finds, Room and More answer true. -/
import Derived.Test.YtiobbceadcgohaaPBx1
import Derived.Test.YtiobbceadcgohaaPure2
namespace Go.Proofs.Ytiobbceadcgohaa.Plain
open Go.RowKit Go.Proofs.Ytiobbceadcgohaa.PB Go.Proofs.Ytiobbceadcgohaa.X Go.Proofs.Ytiobbceadcgohaa.Pure Go.Proofs.Ytiobbceadcgohaa.Callers Go.Proofs.YtiobbceadcgohaaW.PrintWords Go.Proofs.YtiobbceadcgohaaW.PrintLast
set_option linter.unusedVariables false

theorem rd_us (l : List Bool) (i : Int) (h0 : 0 ≤ i) (h1 : i < l.length) : rdOf false l i = us l i.toNat := by
  unfold rdOf us
  have : i.toNat < l.length := by omega
  simp [List.getD_eq_getElem?_getD, List.getElem?_eq_getElem this]
theorem w64 {x : Int} (h0 : -9223372036854775808 ≤ x) (h1 : x < 9223372036854775808) : wrap64 x = x := by unfold wrap64; omega

/-- Are places i to e free? -/
def frB (l : List Bool) (i e : Nat) : Bool := (List.range' i (e - i)).all fun j => !us l j
theorem frB_iff (l : List Bool) (i n : Nat) : frB l i (i + n) = true ↔ Fr l i n := by
  unfold frB Fr
  rw [show i + n - i = n from by omega, List.all_eq_true]
  constructor
  · intro h j h1 h2
    have := h j (List.mem_range'.2 ⟨j - i, by omega, by omega⟩)
    simpa using this
  · intro h j hj
    obtain ⟨d, hd, rfl⟩ := List.mem_range'.1 hj
    rw [h _ (by omega) (by omega)]; rfl
theorem frB_step (l : List Bool) {i e : Nat} (h : i < e) : frB l i e = (!us l i && frB l (i + 1) e) := by
  unfold frB
  obtain ⟨d, hd⟩ : ∃ d, e - i = d + 1 := ⟨e - i - 1, by omega⟩
  rw [hd, show e - (i + 1) = d from by omega, List.range'_succ]; rfl

theorem free_loop (l : List Bool) (hl : l.length ≤ 1000000) (a n e : Nat) (he : e = a + n) (hel : e ≤ l.length) (d : Nat) : ∀ (k i : Nat), i + d = e → d < k →
    budwoodref07_free.l0 k l (a : Int) (n : Int) (i : Int) = some (frB l i e) := by
  have hw : wrap64 ((a : Int) + (n : Int)) = (e : Int) := by rw [w64 (by omega) (by omega)]; omega
  induction d with
  | zero =>
    intro k i hi hk
    obtain ⟨k, rfl⟩ : ∃ m, k = m + 1 := ⟨k - 1, by omega⟩
    simp only [budwoodref07_free.l0]
    rw [hw, if_neg (by omega)]
    have : frB l i e = true := by unfold frB; rw [show e - i = 0 from by omega]; rfl
    rw [this]
  | succ d ih =>
    intro k i hi hk
    obtain ⟨k, rfl⟩ : ∃ m, k = m + 1 := ⟨k - 1, by omega⟩
    simp only [budwoodref07_free.l0]
    rw [hw, if_pos (by omega), if_pos (by omega), if_pos (by omega), rd_us l _ (by omega) (by omega), frB_step l (by omega), Int.toNat_natCast]
    cases us l i with
    | true => rfl
    | false =>
      rw [if_neg (by simp), w64 (by omega) (by omega)]
      have := ih k (i + 1) (by omega) (by omega)
      rw [show ((i : Int) + 1) = ((i + 1 : Nat) : Int) from by omega, this]; rfl

/-- free: are n places from a on free? -/
theorem free_eq (l : List Bool) (hl : l.length ≤ 1000000) (a : Nat) (ha : a ≤ l.length) (m : Int) (hm : 1 ≤ m) (k : Nat) (hk : l.length < k) :
    ∃ b, budwoodref07_free.f k l (a : Int) m = some b ∧ (b = true ↔ Fr l a m.toNat) := by
  unfold budwoodref07_free.f
  rw [w64 (x := (l.length : Int) - (a : Int)) (by omega) (by omega)]
  by_cases h : m > (l.length : Int) - (a : Int)
  · rw [if_pos h]
    refine ⟨false, rfl, fun e => (by cases e), fun hf => ?_⟩
    have := us_lt (hf l.length (by omega) (by omega))
    omega
  · rw [if_neg h]
    obtain ⟨n, rfl⟩ : ∃ n : Nat, m = n := ⟨m.toNat, by omega⟩
    refine ⟨_, free_loop l hl a n (a + n) rfl (by omega) n k a rfl (by omega), ?_⟩
    rw [Int.toNat_natCast]
    exact frB_iff l a n

theorem find_loop (l : List Bool) (hl : l.length ≤ 1000000) (m : Int) (hm : 1 ≤ m) (t : Nat) (ht : t < l.length) (hft : Fr l t m.toNat) (hno : ∀ i, i < t → ¬ Fr l i m.toNat) (d : Nat) : ∀ (k i : Nat), i + d = t → d + l.length + 1 < k →
    budwoodref07_Find.l0 k l m (i : Int) = some ((t : Int), 0) := by
  induction d with
  | zero =>
    intro k i hi hk
    obtain ⟨k, rfl⟩ : ∃ m, k = m + 1 := ⟨k - 1, by omega⟩
    obtain ⟨b, hb, hb2⟩ := free_eq l hl i (by omega) m hm k (by omega)
    simp only [budwoodref07_Find.l0]
    rw [if_pos (by omega), hb]; simp only [Option.bind_some]
    rw [if_pos (hb2.2 (by rw [show i = t from by omega]; exact hft)), show i = t from by omega]
  | succ d ih =>
    intro k i hi hk
    obtain ⟨k, rfl⟩ : ∃ m, k = m + 1 := ⟨k - 1, by omega⟩
    obtain ⟨b, hb, hb2⟩ := free_eq l hl i (by omega) m hm k (by omega)
    simp only [budwoodref07_Find.l0]
    rw [if_pos (by omega), hb]; simp only [Option.bind_some]
    rw [if_neg (fun e => hno i (by omega) (hb2.1 e)), w64 (by omega) (by omega), show ((i : Int) + 1) = ((i + 1 : Nat) : Int) from by omega]
    exact ih k (i + 1) (by omega) (by omega)
theorem find_loop_none (l : List Bool) (hl : l.length ≤ 1000000) (m : Int) (hm : 1 ≤ m) (hno : ∀ i, ¬ Fr l i m.toNat) (d : Nat) : ∀ (k i : Nat), i + d = l.length → d + l.length + 1 < k →
    budwoodref07_Find.l0 k l m (i : Int) = some (0, 7) := by
  induction d with
  | zero =>
    intro k i hi hk
    obtain ⟨k, rfl⟩ : ∃ m, k = m + 1 := ⟨k - 1, by omega⟩
    simp only [budwoodref07_Find.l0]
    rw [if_neg (by omega)]
  | succ d ih =>
    intro k i hi hk
    obtain ⟨k, rfl⟩ : ∃ m, k = m + 1 := ⟨k - 1, by omega⟩
    obtain ⟨b, hb, hb2⟩ := free_eq l hl i (by omega) m hm k (by omega)
    simp only [budwoodref07_Find.l0]
    rw [if_pos (by omega), hb]; simp only [Option.bind_some]
    rw [if_neg (fun e => hno i (hb2.1 e)), w64 (by omega) (by omega), show ((i : Int) + 1) = ((i + 1 : Nat) : Int) from by omega]
    exact ih k (i + 1) (by omega) (by omega)

/-- What Find answers, told by the places. -/
theorem fnd_cases (l : List Bool) (m : Int) (hm : 1 ≤ m) :
    (∃ t : Nat, fnd l m = ((t : Int), 0) ∧ Fr l t m.toNat ∧ t + m.toNat ≤ l.length ∧ ∀ i, i < t → ¬ Fr l i m.toNat) ∨ (fnd l m = (0, 7) ∧ ∀ i, ¬ Fr l i m.toNat) := by
  have h := find_rest l m.toNat (by omega) l.length 0 (by omega)
  have e : (fun x : Nat × Nat => decide (m.toNat ≤ x.2)) = fun x => decide (m ≤ (x.2 : Int)) := by
    funext x; rw [decide_eq_decide]; omega
  rw [e] at h
  unfold fnd findR
  rw [if_neg (by omega)]
  show (∃ t : Nat, (match (rest l 0).find? (fun x => decide (m ≤ (x.2 : Int))) with | some x => ((x.1 : Int), (0 : Int)) | none => (0, 7)) = _ ∧ _) ∨ ((match (rest l 0).find? (fun x => decide (m ≤ (x.2 : Int))) with | some x => ((x.1 : Int), (0 : Int)) | none => (0, 7)) = _ ∧ _)
  cases hq : (rest l 0).find? (fun x => decide (m ≤ (x.2 : Int))) with
  | none => rw [hq] at h; exact .inr ⟨rfl, fun i => h i (Nat.zero_le _)⟩
  | some x =>
    rw [hq] at h
    refine .inl ⟨x.1, rfl, h.1, ?_, fun i hi => h.2.2 i (Nat.zero_le _) hi⟩
    have := us_lt (h.1 (x.1 + m.toNat - 1) (by omega) (by omega))
    omega

theorem refFind_eq (l : List Bool) (hl : l.length ≤ 1000000) (m : Int) (k : Nat) (hk : 2 * l.length + 2 < k) : budwoodref07_Find.f k l m = some (fnd l m) := by
  unfold budwoodref07_Find.f
  by_cases hm : m < 1
  · rw [if_pos hm]; unfold fnd; rw [if_pos hm]
  · rw [if_neg hm]
    rcases fnd_cases l m (by omega) with ⟨t, e, hf, ht, hno⟩ | ⟨e, hno⟩
    · rw [e]
      exact find_loop l hl m (by omega) t (by omega) hf hno t k 0 (by omega) (by omega)
    · rw [e]
      exact find_loop_none l hl m (by omega) hno l.length k 0 (by omega) (by omega)

theorem same_loop (l : List Bool) (hl : l.length ≤ 1000000) (d : Nat) : ∀ (k i : Nat), i + d = l.length → 2 * d + 2 < k → budwoodlaw07_same.l0 k l l (i : Int) = some true := by
  induction d with
  | zero =>
    intro k i hi hk
    obtain ⟨k, rfl⟩ : ∃ m, k = m + 2 := ⟨k - 2, by omega⟩
    simp only [budwoodlaw07_same.l0, budwoodlaw07_same.j1]
    rw [if_neg (by omega), if_neg (by simp)]; simp
  | succ d ih =>
    intro k i hi hk
    obtain ⟨k, rfl⟩ : ∃ m, k = m + 2 := ⟨k - 2, by omega⟩
    simp only [budwoodlaw07_same.l0, budwoodlaw07_same.j1]
    rw [if_pos (by omega), if_pos (by rw [decide_eq_true_iff]; omega), if_pos (by omega), if_pos (by omega), if_pos (by omega), if_neg (by simp), w64 (by omega) (by omega), show ((i : Int) + 1) = ((i + 1 : Nat) : Int) from by omega]
    exact ih k (i + 1) (by omega) (by omega)
theorem same_eq (l : List Bool) (hl : l.length ≤ 1000000) (k : Nat) (hk : 2 * l.length + 2 < k) : budwoodlaw07_same.f k l l = some true := by
  unfold budwoodlaw07_same.f; exact same_loop l hl l.length k 0 (by omega) hk

theorem awake_true : budwoodlaw07_awake.f = some true := by decide +kernel

theorem finds_true (l : List Bool) (m : Int) (hl : l.length ≤ 140737488351232) : ∃ k, budwoodlaw07_AllocFinds.f k l m = some true := by
  refine ⟨2000, ?_⟩
  unfold budwoodlaw07_AllocFinds.f
  by_cases h : (l.length : Int) > 400
  · rw [if_pos h, awake_true]; rfl
  · rw [if_neg h]
    simp only [Option.bind_some, List.nil_append, List.length_nil]
    rw [if_pos (by omega)]
    have e1 : alloc_Find.f l m = some (fnd l m) := by unfold alloc_Find.f; rw [if_pos hl]
    rw [e1, refFind_eq l (by omega) m 2000 (by omega), same_eq l (by omega) 2000 (by omega), awake_true]
    simp
end Go.Proofs.Ytiobbceadcgohaa.Plain
