/- Plain facts of the layout, continued: what a module's words are, and that each has one place. -/
import Derived.Test.YtmjompmepicnhaaPlain
import Derived.Test.YtmjompmepicnhaaPBx
namespace Go.Proofs.Ytmjompmepicnhaa.Plain
set_option linter.unusedVariables false
open Go.RowKit Go.Proofs.Ytmjompmepicnhaa.PB Go.Proofs.YtmjompmepicnhaaW.PrintWords Go.Proofs.YtmjompmepicnhaaW.PrintLast

section
variable (s : ByteArray) (l1 l2 : List ByteArray) (l3 l4 : List Int) (l5 : List S75)

/-- What a word is, and which one. -/
def spt (c d : Nat) (i : Int) : Bool × Int × Bool := if 0 ≤ i ∧ i < c then (true, i, true) else if 16 * (pgs c : Int) ≤ i ∧ i < 16 * (pgs c : Int) + d then (false, i - 16 * (pgs c : Int), true) else (false, 0, false)

theorem spot_eq (h3 : l3.length ≤ 140737488351232) (h4 : l4.length ≤ 140737488351232) (i : Int) (hi0 : -9223372036854775808 ≤ i) (hi1 : i < 9223372036854775808) :
    layout_Spot.f s l1 l2 l3 l4 l5 i = some (spt l3.length l4.length i) := by
  have hp := pgs_ge l3.length
  unfold layout_Spot.f spt
  by_cases h0 : i < 0
  · rw [if_pos h0, if_neg (by omega), if_neg (by omega)]
  · rw [if_neg h0]
    by_cases h1 : i < (l3.length : Int)
    · rw [if_pos h1, if_pos (by omega)]
    · rw [if_neg h1, if_neg (by omega), up_eq _ h3]
      simp only [Option.bind_some]
      have hw : wrap64 (i - wrap64 ((((l3.length + 15) / 16 : Nat) : Int) * 16)) = i - 16 * (pgs l3.length : Int) := by
        unfold wrap64 pgs at *; omega
      rw [hw]
      by_cases h2 : i - 16 * (pgs l3.length : Int) < 0
      · rw [if_pos h2, if_neg (by omega)]
      · rw [if_neg h2]
        by_cases h3' : i - 16 * (pgs l3.length : Int) ≥ (l4.length : Int)
        · rw [if_pos h3', if_neg (by omega)]
        · rw [if_neg h3', if_pos (by omega)]

theorem refSpot_eq (k : Nat) (hk : 0 < k) (h3 : l3.length ≤ 140737488351232) (h4 : l4.length ≤ 140737488351232) (i : Int) (hi0 : -9223372036854775808 ≤ i) (hi1 : i < 9223372036854775808) :
    budwoodref12_Spot.f k s l1 l2 l3 l4 l5 i = some (spt l3.length l4.length i) := by
  have hp := pgs_ge l3.length
  obtain ⟨k, rfl⟩ : ∃ m, k = m + 1 := ⟨k - 1, by omega⟩
  unfold budwoodref12_Spot.f spt
  rw [refpages_eq _ h3]; simp only [Option.bind_some]
  have hw : wrap64 (16 * (((l3.length + 15) / 16 : Nat) : Int)) = 16 * (pgs l3.length : Int) := by
    unfold wrap64 pgs at *; omega
  rw [hw]
  simp only [budwoodref12_Spot.j0]
  have key : ∀ b : Bool, (b = true ↔ 0 ≤ i ∧ i < (l3.length : Int)) → (if b = true then some (true, i, true) else if i ≥ 16 * (pgs l3.length : Int) then if wrap64 (i - 16 * (pgs l3.length : Int)) < (l4.length : Int) then some (false, wrap64 (i - 16 * (pgs l3.length : Int)), true) else some (false, 0, false) else some (false, 0, false)) =
      some (if 0 ≤ i ∧ i < (l3.length : Int) then (true, i, true) else if 16 * (pgs l3.length : Int) ≤ i ∧ i < 16 * (pgs l3.length : Int) + l4.length then (false, i - 16 * (pgs l3.length : Int), true) else (false, 0, false)) := by
    intro b hb
    by_cases h1 : b = true
    · rw [if_pos h1, if_pos (hb.1 h1)]
    · rw [if_neg h1, if_neg (fun h => h1 (hb.2 h))]
      by_cases h2 : i ≥ 16 * (pgs l3.length : Int)
      · have hw2 : wrap64 (i - 16 * (pgs l3.length : Int)) = i - 16 * (pgs l3.length : Int) := by unfold wrap64; omega
        rw [if_pos h2, hw2]
        by_cases h3' : i - 16 * (pgs l3.length : Int) < (l4.length : Int)
        · rw [if_pos h3', if_pos (by omega)]
        · rw [if_neg h3', if_neg (by omega)]
      · rw [if_neg h2, if_neg (by omega)]
  by_cases h0 : i ≥ 0
  · rw [if_pos h0]; exact key _ (by rw [decide_eq_true_iff]; omega)
  · rw [if_neg h0]; exact key _ ⟨fun h => by simp at h, fun h => by omega⟩

/-- A module's i-th word. -/
def wrd (l3 l4 : List Int) (i : Int) : Int := if 0 ≤ i ∧ i < l3.length then rd l3 i else if 16 * (pgs l3.length : Int) ≤ i ∧ i < 16 * (pgs l3.length : Int) + l4.length then rd l4 (i - 16 * (pgs l3.length : Int)) else 0

theorem rawOf (i : Int) : ((some (spt l3.length l4.length i)).bind fun bt141 => (if bt141.2.2 = true then (if bt141.1 = true then (if 0 ≤ bt141.2.1 then (if bt141.2.1 < (l3.length : Int) then (some (rd l3 bt141.2.1)) else (none)) else (none)) else (if 0 ≤ bt141.2.1 then (if bt141.2.1 < (l4.length : Int) then (some (rd l4 bt141.2.1)) else (none)) else (none))) else (some 0))) = some (wrd l3 l4 i) := by
  unfold spt wrd
  simp only [Option.bind_some]
  by_cases h0 : 0 ≤ i ∧ i < (l3.length : Int)
  · simp only [if_pos h0, if_true]; rw [if_pos h0.1, if_pos h0.2]
  · simp only [if_neg h0]
    by_cases h1 : 16 * (pgs l3.length : Int) ≤ i ∧ i < 16 * (pgs l3.length : Int) + l4.length
    · simp only [if_pos h1, if_true]
      rw [if_neg (by simp), if_pos (by omega), if_pos (by omega)]
    · simp only [if_neg h1]; rfl
theorem raw_eq (h3 : l3.length ≤ 140737488351232) (h4 : l4.length ≤ 140737488351232) (i : Int) (hi0 : -9223372036854775808 ≤ i) (hi1 : i < 9223372036854775808) :
    layout_Raw.f s l1 l2 l3 l4 l5 i = some (wrd l3 l4 i) := by
  unfold layout_Raw.f
  rw [spot_eq s l1 l2 l3 l4 l5 h3 h4 i hi0 hi1]
  exact rawOf l3 l4 i
theorem refRaw_eq (k : Nat) (hk : 0 < k) (h3 : l3.length ≤ 140737488351232) (h4 : l4.length ≤ 140737488351232) (i : Int) (hi0 : -9223372036854775808 ≤ i) (hi1 : i < 9223372036854775808) :
    budwoodref12_Raw.f k s l1 l2 l3 l4 l5 i = some (wrd l3 l4 i) := by
  unfold budwoodref12_Raw.f
  rw [refSpot_eq s l1 l2 l3 l4 l5 k hk h3 h4 i hi0 hi1]
  exact rawOf l3 l4 i

theorem spots_true (h3 : l3.length ≤ 140737488351232) (h4 : l4.length ≤ 140737488351232) (i : Int) (hi0 : -9223372036854775808 ≤ i) (hi1 : i < 9223372036854775808) :
    budwoodlaw12_LayoutSpots.f 1 s l1 l2 l3 l4 l5 i = some true := by
  unfold budwoodlaw12_LayoutSpots.f
  rw [spot_eq s l1 l2 l3 l4 l5 h3 h4 i hi0 hi1, refSpot_eq s l1 l2 l3 l4 l5 1 (by omega) h3 h4 i hi0 hi1]
  simp only [Option.bind_some, beq_self_eq_true, if_true]
  rw [raw_eq s l1 l2 l3 l4 l5 h3 h4 i hi0 hi1, refRaw_eq s l1 l2 l3 l4 l5 1 (by omega) h3 h4 i hi0 hi1]
  simp only [Option.bind_some, if_true]
  rw [awake_true]; rfl

theorem mn_eq (a : Int) (h : 0 ≤ a) : 0 ≤ mn a 65536 ∧ mn a 65536 ≤ 65536 ∧ (mn a 65536 ≤ 2000 → mn a 65536 = a) := by
  unfold mn; split <;> omega

theorem size_step (k : Nat) (x3 x5 : Int) (y : List Int) (hk : 0 < k) (h5 : 0 ≤ x5) (h5' : x5 < 4) (hy : (y.length : Int) = 4) (h3 : x3 ≤ 65536) :
    budwoodref10_Size.l0 k x3 y x5 = budwoodref10_Size.l0 (k - 1) (wrap64 (x3 + mn (rd y x5) 65536)) y (wrap64 (x5 + 1)) := by
  obtain ⟨k, rfl⟩ : ∃ m, k = m + 1 := ⟨k - 1, by omega⟩
  simp only [budwoodref10_Size.l0, Nat.add_sub_cancel]
  rw [if_pos h5', if_pos h3, if_pos h5, if_pos (by omega)]

/-- The loop of Size: an answer; one of at most 2000 says that no summand was cut, and that all of them were met. -/
theorem size_tells (y : List Int) (hy : (y.length : Int) = 4) (hn : ∀ i : Int, 0 ≤ i → i < 4 → 0 ≤ rd y i) (d : Nat) : ∀ (k : Nat) (x3 x5 : Int), 0 ≤ x3 → x3 ≤ 1000000000000000 → 0 ≤ x5 → x5 + d = 4 → d < k →
    ∃ r, budwoodref10_Size.l0 k x3 y x5 = some r ∧ (r ≤ 2000 → x3 ≤ 2000 ∧ ∀ i : Int, x5 ≤ i → i < 4 → rd y i ≤ 2000) := by
  induction d with
  | zero =>
    intro k x3 x5 h0 hb h1 hd hk
    obtain ⟨k, rfl⟩ : ∃ m, k = m + 1 := ⟨k - 1, by omega⟩
    exact ⟨x3, by simp only [budwoodref10_Size.l0]; rw [if_neg (by omega)], fun h => ⟨h, fun i hi hi' => by omega⟩⟩
  | succ d ih =>
    intro k x3 x5 h0 hb h1 hd hk
    by_cases h3 : x3 ≤ 65536
    · rw [size_step k x3 x5 y (by omega) h1 (by omega) hy h3]
      have hm := mn_eq (rd y x5) (hn x5 h1 (by omega))
      have e1 : wrap64 (x3 + mn (rd y x5) 65536) = x3 + mn (rd y x5) 65536 := by unfold wrap64; omega
      have e2 : wrap64 (x5 + 1) = x5 + 1 := by unfold wrap64; omega
      rw [e1, e2]
      obtain ⟨r, hr, hq⟩ := ih (k - 1) (x3 + mn (rd y x5) 65536) (x5 + 1) (by omega) (by omega) (by omega) (by omega) (by omega)
      refine ⟨r, hr, fun h => ?_⟩
      obtain ⟨q1, q2⟩ := hq h
      refine ⟨by omega, fun i hi hi' => ?_⟩
      by_cases e : i = x5
      · subst e; have := hm.2.2 (by omega); omega
      · exact q2 i (by omega) hi'
    · obtain ⟨k, rfl⟩ : ∃ m, k = m + 1 := ⟨k - 1, by omega⟩
      exact ⟨x3, by simp only [budwoodref10_Size.l0]; rw [if_pos (by omega), if_neg h3], fun h => by omega⟩

theorem size_eq (h1 : l1.length ≤ 140737488351232) : ∃ r, budwoodref10_Size.f 5 s l1 l2 l3 l4 l5 = some r ∧ (r ≤ 2000 → l3.length ≤ 2000 ∧ l4.length ≤ 2000) := by
  unfold budwoodref10_Size.f
  obtain ⟨r, hr, hq⟩ := size_tells [(l2.length : Int), (l3.length : Int), (l4.length : Int), (l5.length : Int)] rfl (fun i h0 h4 => by
    have : i = 0 ∨ i = 1 ∨ i = 2 ∨ i = 3 := by omega
    rcases this with rfl | rfl | rfl | rfl <;> simp [rd]) 4 5 (l1.length : Int) 0 (by omega) (by omega) (by omega) (by omega) (by omega)
  refine ⟨r, hr, fun h => ?_⟩
  obtain ⟨_, h2⟩ := hq h
  have a := h2 1 (by omega) (by omega)
  have b := h2 2 (by omega) (by omega)
  have ea : rd [(l2.length : Int), (l3.length : Int), (l4.length : Int), (l5.length : Int)] 1 = (l3.length : Int) := rfl
  have eb : rd [(l2.length : Int), (l3.length : Int), (l4.length : Int), (l5.length : Int)] 2 = (l4.length : Int) := rfl
  rw [ea] at a; rw [eb] at b
  omega

theorem all_loop (h3 : l3.length ≤ 2000) (h4 : l4.length ≤ 2000) (d : Nat) : ∀ (k : Nat) (c e i : Int), 0 ≤ i → i + d = 16 * ((pgs l3.length : Int) + (pgs l4.length : Int)) → d + 1 < k →
    c = (if i < l3.length then i else (l3.length : Int)) → e = (if i < 16 * (pgs l3.length : Int) then 0 else if i < 16 * (pgs l3.length : Int) + l4.length then i - 16 * (pgs l3.length : Int) else (l4.length : Int)) →
    budwoodlaw12_LayoutAll.l0 k c e i s l1 l2 l3 l4 l5 (pgs l3.length : Int) (pgs l4.length : Int) = some true := by
  have p3 := pgs_ge l3.length
  have p4 := pgs_ge l4.length
  have hpg : pg (pgs l3.length : Int) (pgs l4.length : Int) = (pgs l3.length : Int) + (pgs l4.length : Int) := by unfold pg; rw [if_pos (by omega)]
  induction d with
  | zero =>
    intro k c e i h0 hd hk hc he
    obtain ⟨k, rfl⟩ : ∃ m, k = m + 1 := ⟨k - 1, by omega⟩
    simp only [budwoodlaw12_LayoutAll.l0]
    rw [words_eq, hpg]; simp only [Option.bind_some]
    rw [if_neg (by omega), spot_eq s l1 l2 l3 l4 l5 (by omega) (by omega) _ (by omega) (by omega)]
    have e1 : spt l3.length l4.length (16 * ((pgs l3.length : Int) + (pgs l4.length : Int))) = (false, 0, false) := by
      unfold spt; rw [if_neg (by omega), if_neg (by omega)]
    rw [e1]
    simp only [Option.bind_some]
    rw [if_neg (by omega)] at hc
    rw [if_neg (by omega)] at he
    have he' : e = (l4.length : Int) := by rw [he]; split <;> omega
    rw [hc, he']
    simp only [if_true]
    have hk' : budwoodlaw12_awake.f k = some true := by
      exact at_rounds (fun k => budwoodlaw12_awake.mono k) (by omega : 1 ≤ k) awake_true
    rw [hk']
    simp
  | succ d ih =>
    intro k c e i h0 hd hk hc he
    obtain ⟨k, rfl⟩ : ∃ m, k = m + 1 := ⟨k - 1, by omega⟩
    simp only [budwoodlaw12_LayoutAll.l0]
    rw [words_eq, hpg]; simp only [Option.bind_some]
    rw [if_pos (by omega), spot_eq s l1 l2 l3 l4 l5 (by omega) (by omega) i (by omega) (by omega), raw_eq s l1 l2 l3 l4 l5 (by omega) (by omega) i (by omega) (by omega)]
    simp only [Option.bind_some]
    have wi : wrap64 (i + 1) = i + 1 := by unfold wrap64; omega
    rw [wi]
    unfold spt wrd
    by_cases hcode : 0 ≤ i ∧ i < (l3.length : Int)
    · rw [if_pos hcode.2] at hc
      rw [if_pos (by omega)] at he
      simp only [if_pos hcode, if_true]
      rw [if_pos hc.symm, if_pos hcode.1, if_pos hcode.2]
      have wc : wrap64 (c + 1) = c + 1 := by unfold wrap64; omega
      rw [wc]
      refine ih k (c + 1) e (i + 1) (by omega) (by omega) (by omega) (by split <;> omega) ?_
      rw [he]
      by_cases hb : i + 1 < 16 * (pgs l3.length : Int)
      · rw [if_pos hb]
      · rw [if_neg hb]; split <;> omega
    · simp only [if_neg hcode]
      rw [if_neg (by omega)] at hc
      by_cases hdat : 16 * (pgs l3.length : Int) ≤ i ∧ i < 16 * (pgs l3.length : Int) + l4.length
      · rw [if_neg (by omega), if_pos hdat.2] at he
        simp only [if_pos hdat, if_true]
        rw [if_neg (by simp), if_pos he.symm, if_pos (by omega), if_pos (by omega)]
        have wc : wrap64 (e + 1) = e + 1 := by unfold wrap64; omega
        rw [wc]
        refine ih k c (e + 1) (i + 1) (by omega) (by omega) (by omega) (by rw [hc, if_neg (by omega)]) ?_
        rw [if_neg (by omega), he]; split <;> omega
      · simp only [if_neg hdat]
        rw [if_neg (by simp)]
        simp only [if_true]
        refine ih k c e (i + 1) (by omega) (by omega) (by omega) (by rw [hc, if_neg (by omega)]) ?_
        rw [he]
        by_cases ha : i < 16 * (pgs l3.length : Int)
        · rw [if_pos ha]; by_cases hb : i + 1 < 16 * (pgs l3.length : Int)
          · rw [if_pos hb]
          · rw [if_neg hb]; split <;> omega
        · rw [if_neg ha, if_neg (by omega), if_neg (by omega), if_neg (by omega)]

theorem all_true (h1 : l1.length ≤ 140737488351232) : ∃ k, budwoodlaw12_LayoutAll.f k s l1 l2 l3 l4 l5 = some true := by
  obtain ⟨r, hr, hq⟩ := size_eq s l1 l2 l3 l4 l5 h1
  refine ⟨5 + 16 * (pgs l3.length + pgs l4.length), ?_⟩
  unfold budwoodlaw12_LayoutAll.f
  rw [at_rounds (fun k => budwoodref10_Size.mono _ _ _ _ _ _ k) (by omega : 5 ≤ 5 + 16 * (pgs l3.length + pgs l4.length)) hr]
  simp only [Option.bind_some]
  by_cases h : r > 2000
  · rw [if_pos h, at_rounds (fun k => budwoodlaw12_awake.mono k) (by omega : 1 ≤ 5 + 16 * (pgs l3.length + pgs l4.length)) awake_true]; rfl
  · rw [if_neg h]
    obtain ⟨h3, h4⟩ := hq (by omega)
    rw [of_eq s l1 l2 l3 l4 l5 (by omega) (by omega)]
    simp only [Option.bind_some]
    have p3 := pgs_ge l3.length
    exact all_loop s l1 l2 l3 l4 l5 h3 h4 (16 * (pgs l3.length + pgs l4.length)) _ 0 0 0 (by omega) (by omega) (by omega) (by split <;> omega) (by
      by_cases h0 : (0 : Int) < 16 * (pgs l3.length : Int)
      · rw [if_pos h0]
      · rw [if_neg h0]; split <;> omega)
end
end Go.Proofs.Ytmjompmepicnhaa.Plain
