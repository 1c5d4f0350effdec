/- WireSizes, in plain Lean. -/
import Derived.Test.YtglcbaellbhogaaPure2
import Derived.Test.YtglcbaellbhogaaPCx2
namespace Go.Proofs.Ytglcbaellbhogaa.Pure3
open Go.RowKit Go.Proofs.Ytglcbaellbhogaa Go.Proofs.Ytglcbaellbhogaa.Pure2 Go.Proofs.YtglcbaellbhogaaW.PrintWords
set_option linter.unusedVariables false

theorem var_same : ∀ k n acc, PC.wire_Var.l0 k n acc = PB.wire_Var.l0 k n acc
  | 0, _, _ => rfl
  | k + 1, n, acc => by simp only [PC.wire_Var.l0, PB.wire_Var.l0, var_same k]
theorem vb_high (d : Nat) : ∀ (n : Int) (i : Nat), 0 ≤ n → n < 128 ^ (d + 1) → i < (vb d n).length → (decide ((vb d n).getD i 0 ≥ 128) = decide (i + 1 < (vb d n).length)) := by
  induction d with
  | zero =>
    intro n i h0 h1 hi
    simp [vb] at hi
    subst hi
    have : n < 128 := by simpa using h1
    simp [vb]; omega
  | succ d ih =>
    intro n i h0 h1 hi
    by_cases h : 128 ≤ n
    · have hv : vb (d + 1) n = (n % 128 + 128) :: vb d (n / 128) := by simp only [vb]; rw [if_pos h]
      rw [hv] at hi ⊢
      cases i with
      | zero =>
        have := vb_len d (n / 128)
        simp
        have h1 : 128 ≤ n % 128 + 128 := by omega
        have h2 : 0 < (vb d (n / 128)).length := by omega
        simp [h1, h2]
      | succ i =>
        have := ih (n / 128) i (by omega) (div128 h1) (by simpa using hi)
        simpa using this
    · have hv : vb (d + 1) n = [n] := by simp only [vb]; rw [if_neg h]
      rw [hv] at hi ⊢
      simp at hi
      subst hi
      simp; omega
theorem sz_l0 (xs : List Int) (d : Nat) : ∀ (n c : Int) (k : Nat), 0 ≤ n → n < 128 ^ (d + 1) → 0 ≤ c → c + d < 1000000 → d < k → ∃ k', k ≤ k' + d + 1 ∧ PC.budwoodlaw03_WireSizes.l0 k xs c (n / 128) = PC.budwoodlaw03_WireSizes.l1 k' xs (c + ((vb d n).length : Int) - 1) 0 := by
  induction d with
  | zero =>
    intro n c k h0 h1 hc0 hc1 hk
    obtain ⟨k, rfl⟩ : ∃ m, k = m + 1 := ⟨k - 1, by omega⟩
    have : n < 128 := by simpa using h1
    refine ⟨k, by omega, ?_⟩
    simp only [PC.budwoodlaw03_WireSizes.l0]
    rw [if_neg (by omega)]
    simp [vb]
  | succ d ih =>
    intro n c k h0 h1 hc0 hc1 hk
    obtain ⟨k, rfl⟩ : ∃ m, k = m + 1 := ⟨k - 1, by omega⟩
    by_cases h : 128 ≤ n
    · have hv : vb (d + 1) n = (n % 128 + 128) :: vb d (n / 128) := by simp only [vb]; rw [if_pos h]
      have hw : wrap64 (c + 1) = c + 1 := by unfold wrap64; omega
      obtain ⟨k', hk', e⟩ := ih (n / 128) (c + 1) k (by omega) (div128 h1) (by omega) (by omega) (by omega)
      refine ⟨k', by omega, ?_⟩
      simp only [PC.budwoodlaw03_WireSizes.l0]
      rw [if_pos (by omega), hw, e, hv]
      congr 1
      simp
      omega
    · have hv : vb (d + 1) n = [n] := by simp only [vb]; rw [if_neg h]
      refine ⟨k, by omega, ?_⟩
      simp only [PC.budwoodlaw03_WireSizes.l0]
      rw [if_neg (by omega), hv]
      simp
theorem chk_l1 (xs : List Int) (hl : xs.length < 1000000) (hx : ∀ i, i < xs.length → decide (xs.getD i 0 ≥ 128) = decide (i + 1 < xs.length)) : ∀ (j i k : Nat), i + j = xs.length → j < k → PC.budwoodlaw03_WireSizes.l1 k xs (xs.length : Int) (i : Int) = some true
  | 0, i, k, hi, hk => by
    obtain ⟨k, rfl⟩ : ∃ m, k = m + 1 := ⟨k - 1, by omega⟩
    simp only [PC.budwoodlaw03_WireSizes.l1]
    rw [if_neg (by omega), if_pos trivial]
    rfl
  | j + 1, i, k, hi, hk => by
    obtain ⟨k, rfl⟩ : ∃ m, k = m + 1 := ⟨k - 1, by omega⟩
    have h := hx i (by omega)
    have e1 : rd xs (i : Int) = xs.getD i 0 := by simp [rd]
    have e2 : wrap64 ((xs.length : Int) - 1) = (xs.length : Int) - 1 := by unfold wrap64; omega
    have e3 : wrap64 ((i : Int) + 1) = ((i + 1 : Nat) : Int) := by unfold wrap64; omega
    have e4 : decide ((i : Int) < (xs.length : Int) - 1) = decide (i + 1 < xs.length) := decide_eq_decide.2 (by omega)
    simp only [PC.budwoodlaw03_WireSizes.l1]
    rw [if_pos (by omega), if_pos (by omega), e1, e2, e3, h, e4, if_neg (by simp)]
    exact chk_l1 xs hl hx j (i + 1) k (by omega) (by omega)
theorem sizes_true (n : Int) (h0 : 0 ≤ n) (h1 : n < 4294967296) : PC.budwoodlaw03_WireSizes.f 20 n = some true := by
  obtain ⟨k', hk', e⟩ := sz_l0 (num n) 4 n 1 20 h0 (p5 h1) (by omega) (by omega) (by omega)
  have hl := num_len n
  have hv : PC.wire_Var.f 20 n = some (num n) := by
    have := var_l0 4 n [] 20 h0 (p5 h1) (by simp) (by omega)
    rw [List.nil_append] at this
    show PC.wire_Var.l0 20 n [] = _
    rw [var_same]; exact this
  unfold PC.budwoodlaw03_WireSizes.f
  rw [hv]
  simp only [Option.bind_some]
  rw [e, show (1 : Int) + ((vb 4 n).length : Int) - 1 = ((num n).length : Int) from by rw [num]; omega]
  exact chk_l1 (num n) (by omega) (fun i hi => vb_high 4 n i h0 (p5 h1) hi) (num n).length 0 k' (by omega) (by omega)
end Go.Proofs.Ytglcbaellbhogaa.Pure3
