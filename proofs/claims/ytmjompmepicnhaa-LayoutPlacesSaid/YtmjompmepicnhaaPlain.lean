/- Plain facts of the layout: what the printed functions answer, in closed form, for every input (lengths below 2^46). -/
import Derived.Test.YtmjompmepicnhaaPBx4
namespace Go.Proofs.Ytmjompmepicnhaa.Plain
open Go.RowKit Go.Proofs.Ytmjompmepicnhaa.PB Go.Proofs.YtmjompmepicnhaaW.PrintWords Go.Proofs.YtmjompmepicnhaaW.PrintLast

/-- How many pages a plan has. -/
def pg (a b : Int) : Int := if 0 ≤ a ∧ a ≤ 256 ∧ 0 ≤ b ∧ b ≤ 256 then a + b else 0

theorem pg_range (a b : Int) : 0 ≤ pg a b ∧ pg a b ≤ 512 := by unfold pg; split <;> omega

theorem may_eq (a : Int) : layout_may.f a = some (decide (0 ≤ a ∧ a ≤ 256)) := by
  unfold layout_may.f
  by_cases h : a ≥ 0
  · rw [if_pos h]; congr 1; rw [decide_eq_decide]; omega
  · rw [if_neg h]; congr 1; symm; rw [decide_eq_false_iff_not]; omega

theorem pages_eq (a b : Int) : layout_Pages.f a b = some (pg a b) := by
  unfold layout_Pages.f
  by_cases h : (a == 0 && (b == 0)) = true
  · rw [if_pos h]
    simp only [Bool.and_eq_true, beq_iff_eq] at h
    obtain ⟨rfl, rfl⟩ := h
    rfl
  · rw [if_neg h, may_eq]; simp only [Option.bind_some]
    by_cases h1 : 0 ≤ a ∧ a ≤ 256
    · rw [decide_eq_true h1, if_pos rfl, may_eq]; simp only [Option.bind_some]
      by_cases h2 : 0 ≤ b ∧ b ≤ 256
      · rw [decide_eq_true h2, if_pos rfl]
        unfold pg; rw [if_pos (by omega)]; unfold wrap64; congr 1; omega
      · rw [decide_eq_false h2, if_neg (by simp)]
        unfold pg; rw [if_neg (by omega)]
    · rw [decide_eq_false h1, if_neg (by simp)]
      unfold pg; rw [if_neg (by omega)]

theorem refPages_eq (a b : Int) : budwoodref12_Pages.f a b = some (pg a b) := by
  unfold budwoodref12_Pages.f pg
  by_cases h1 : a < 0
  · rw [if_pos h1, if_neg (by omega)]
  · rw [if_neg h1]
    by_cases h2 : b < 0
    · rw [if_pos h2, if_neg (by omega)]
    · rw [if_neg h2]
      by_cases h3 : a > 256
      · rw [if_pos h3, if_neg (by omega)]
      · rw [if_neg h3]
        by_cases h4 : b > 256
        · rw [if_pos h4, if_neg (by omega)]
        · rw [if_neg h4, if_pos (by omega)]; unfold wrap64; congr 1; omega

theorem address_eq (a : Int) (h0 : 0 ≤ a) (h1 : a ≤ 100000) : layout_address.f a = some (80 + 16 * a) := by
  unfold layout_address.f wrap64; congr 1; omega

/-- Where a plan's words begin, and the error. -/
def at_ (a b f : Int) : Int × Int × Int := if pg a b = 0 then (0, 0, 2) else if 0 ≤ f ∧ f + pg a b ≤ 256 then (80 + 16 * f, 80 + 16 * (f + a), 0) else (0, 0, 11)

theorem pg_bounds {a b : Int} (h : pg a b ≠ 0) : 0 ≤ a ∧ a ≤ 256 ∧ 0 ≤ b ∧ b ≤ 256 ∧ pg a b = a + b := by
  unfold pg at *; split at h
  · rename_i h1; rw [if_pos h1]; omega
  · exact absurd rfl h

theorem at_eq (k : Nat) (a b f : Int) (hk : 0 < k) : layout_At.f k a b f = some (at_ a b f) := by
  obtain ⟨k, rfl⟩ : ∃ m, k = m + 1 := ⟨k - 1, by omega⟩
  have hr := pg_range a b
  unfold layout_At.f at_
  rw [pages_eq]; simp only [Option.bind_some]
  by_cases h0 : pg a b = 0
  · rw [if_pos h0, if_pos h0]
  · have hb := pg_bounds h0
    rw [if_neg h0, if_neg h0, may_eq]; simp only [Option.bind_some]
    have hw : wrap64 (256 - pg a b) = 256 - pg a b := by unfold wrap64; omega
    rw [hw]
    by_cases h1 : 0 ≤ f ∧ f ≤ 256
    · rw [decide_eq_true h1, if_pos rfl]
      simp only [layout_At.j0]
      by_cases h2 : f > 256 - pg a b
      · rw [decide_eq_true h2, if_pos rfl, if_neg (by omega)]
      · have hw2 : wrap64 (f + a) = f + a := by unfold wrap64; omega
        rw [decide_eq_false h2, if_neg (by simp), hw2, address_eq f (by omega) (by omega), address_eq (f + a) (by omega) (by omega), if_pos (by omega)]
        rfl
    · rw [decide_eq_false h1, if_neg (by simp)]
      simp only [layout_At.j0, if_true]
      rw [if_neg (by omega)]

theorem refAt_eq (a b f : Int) : budwoodref12_At.f a b f = some (at_ a b f) := by
  have hr := pg_range a b
  unfold budwoodref12_At.f at_
  rw [refPages_eq]; simp only [Option.bind_some]
  by_cases h0 : pg a b = 0
  · rw [if_pos h0, if_pos h0]
  · have hb := pg_bounds h0
    rw [if_neg h0, if_neg h0]
    by_cases h1 : f < 0
    · rw [if_pos h1, if_neg (by omega)]
    · rw [if_neg h1]
      by_cases h2 : f > 256
      · rw [if_pos h2, if_neg (by omega)]
      · have hw : wrap64 (256 - f) = 256 - f := by unfold wrap64; omega
        rw [if_neg h2, hw]
        by_cases h3 : pg a b > 256 - f
        · rw [if_pos h3, if_neg (by omega)]
        · rw [if_neg h3, if_pos (by omega)]
          unfold wrap64
          congr 1
          rw [Prod.mk.injEq, Prod.mk.injEq]
          refine ⟨?_, ?_, rfl⟩ <;> omega

theorem up_eq (n : Nat) (h : n ≤ 140737488351232) : layout_up.f (n : Int) = some (((n + 15) / 16 : Nat) : Int) := by
  unfold layout_up.f wrap64
  refine congrArg some ?_
  rw [Int.tdiv_eq_ediv_of_nonneg (by omega)]
  omega

theorem refpages_eq (n : Nat) (h : n ≤ 140737488351232) : budwoodref12_pages.f (n : Int) = some (((n + 15) / 16 : Nat) : Int) := by
  unfold budwoodref12_pages.f
  rw [Int.tdiv_eq_ediv_of_nonneg (by omega), Int.tmod_eq_emod_of_nonneg (by omega)]
  unfold wrap64 mn
  refine congrArg some ?_
  omega

theorem awake_true : budwoodlaw12_awake.f 1 = some true := by
  unfold budwoodlaw12_awake.f
  rw [if_pos (by decide)]
  simp only [Option.bind_some]
  have h1 : ∀ s a b c e, layout_Of.f s a b c [] e = (layout_up.f (c.length : Int)).bind fun t116 => ((layout_up.f (([] : List Int).length : Int)).bind fun t117 => some (t116, t117)) := fun _ _ _ _ _ => rfl
  rw [h1]
  have h2 : ((List.replicate 17 0 : List Int).length : Int) = ((17 : Nat) : Int) := by simp
  rw [h2, up_eq 17 (by omega)]
  have h3 : ((([] : List Int).length : Nat) : Int) = ((0 : Nat) : Int) := rfl
  rw [h3, up_eq 0 (by omega)]
  simp only [Option.bind_some]
  rw [at_eq 1 _ _ _ (by omega)]
  rfl

def pgs (n : Nat) : Nat := (n + 15) / 16
theorem pgs_ge (n : Nat) : n ≤ 16 * pgs n ∧ 16 * pgs n ≤ n + 15 := by unfold pgs; omega

section
variable (s : ByteArray) (l1 l2 : List ByteArray) (l3 l4 : List Int) (l5 : List S75)

theorem of_eq (h3 : l3.length ≤ 140737488351232) (h4 : l4.length ≤ 140737488351232) : layout_Of.f s l1 l2 l3 l4 l5 = some ((pgs l3.length : Int), (pgs l4.length : Int)) := by
  unfold layout_Of.f
  rw [up_eq _ h3, up_eq _ h4]; rfl
theorem refOf_eq (h3 : l3.length ≤ 140737488351232) (h4 : l4.length ≤ 140737488351232) : budwoodref12_Of.f s l1 l2 l3 l4 l5 = some ((pgs l3.length : Int), (pgs l4.length : Int)) := by
  unfold budwoodref12_Of.f
  rw [refpages_eq _ h3, refpages_eq _ h4]; rfl
theorem words_eq (a b : Int) : layout_Words.f a b = some (16 * pg a b) := by
  have := pg_range a b
  unfold layout_Words.f
  rw [pages_eq]; simp only [Option.bind_some]; refine congrArg some ?_; unfold wrap64; omega
theorem refWords_eq (a b : Int) : budwoodref12_Words.f a b = some (16 * pg a b) := by
  have := pg_range a b
  unfold budwoodref12_Words.f
  rw [refPages_eq]; simp only [Option.bind_some]; refine congrArg some ?_; unfold wrap64; omega
end

end Go.Proofs.Ytmjompmepicnhaa.Plain
