/- Fits answers true. -/
import Derived.Test.YtiobbceadcgohaaPlain2
namespace Go.Proofs.Ytiobbceadcgohaa.Plain
open Go.RowKit Go.Proofs.Ytiobbceadcgohaa.PB Go.Proofs.Ytiobbceadcgohaa.X Go.Proofs.Ytiobbceadcgohaa.Pure Go.Proofs.Ytiobbceadcgohaa.Callers Go.Proofs.YtiobbceadcgohaaW.PrintWords Go.Proofs.YtiobbceadcgohaaW.PrintLast
set_option linter.unusedVariables false

/-- n places from t on are taken. -/
def setR (l : List Bool) (t : Nat) : Nat → List Bool
  | 0 => l
  | n + 1 => setR (l.set t true) (t + 1) n
theorem setR_length (l : List Bool) (t n : Nat) : (setR l t n).length = l.length := by
  induction n generalizing l t with
  | zero => rfl
  | succ n ih => rw [setR, ih, List.length_set]
/-- Is there room for all sizes, one behind the other? -/
def fitsP (l : List Bool) : List Int → Bool
  | [] => true
  | m :: ms => if (fnd l m).2 = 0 then fitsP (setR l (fnd l m).1.toNat m.toNat) ms else false

theorem fnd_ok (l : List Bool) (m : Int) (h : (fnd l m).2 = 0) : 1 ≤ m ∧ ∃ t : Nat, (fnd l m).1 = t ∧ t + m.toNat ≤ l.length := by
  by_cases hm : m < 1
  · unfold fnd at h; rw [if_pos hm] at h; simp at h
  · refine ⟨by omega, ?_⟩
    rcases fnd_cases l m (by omega) with ⟨t, e, hf, ht, hno⟩ | ⟨e, hno⟩
    · exact ⟨t, by rw [e], ht⟩
    · rw [e] at h; simp at h

theorem a_inner (ms : List Int) (L i n : Int) (t : Nat) (d : Nat) : ∀ (k : Nat) (x : List Bool) (j : Nat), n = (j : Int) + d → t + j + d ≤ x.length → x.length ≤ 1000000 →
    alloc_Fits.l1 (k + d + 1) x (t : Int) ms L i n (j : Int) = alloc_Fits.l0 k (setR x (t + j) d) ms L (wrap64 (i + 1)) := by
  induction d with
  | zero =>
    intro k x j hn hx hb
    simp only [alloc_Fits.l1]
    rw [if_neg (by omega)]; rfl
  | succ d ih =>
    intro k x j hn hx hb
    obtain ⟨K, hK⟩ : ∃ K, K = k + d + 1 := ⟨_, rfl⟩
    rw [show k + (d + 1) + 1 = K + 1 from by omega]
    simp only [alloc_Fits.l1]
    have e : wrap64 ((t : Int) + (j : Int)) = ((t + j : Nat) : Int) := by rw [w64 (by omega) (by omega)]; omega
    rw [if_pos (by omega), e, if_pos (by omega), if_pos (by omega), Int.toNat_natCast, w64 (x := (j : Int) + 1) (by omega) (by omega), show ((j : Int) + 1) = ((j + 1 : Nat) : Int) from by omega]
    rw [hK, ih k (x.set (t + j) true) (j + 1) (by omega) (by rw [List.length_set]; omega) (by rw [List.length_set]; omega)]
    rfl

theorem rd_drop (ms : List Int) (i : Nat) (h : i < ms.length) : ms.drop i = rd ms (i : Int) :: ms.drop (i + 1) := by
  rw [List.drop_eq_getElem_cons h]
  simp [rd, List.getD_eq_getElem?_getD, List.getElem?_eq_getElem h]

theorem a_outer (ms : List Int) (hms : ms.length ≤ 1000000) (d : Nat) : ∀ (i : Nat) (x : List Bool), i + d = ms.length → x.length ≤ 1000000 →
    ∃ k0, ∀ k, k0 ≤ k → alloc_Fits.l0 k x ms (ms.length : Int) (i : Int) = some (fitsP x (ms.drop i)) := by
  induction d with
  | zero =>
    intro i x hi hx
    refine ⟨1, fun k hk => ?_⟩
    obtain ⟨k, rfl⟩ : ∃ m, k = m + 1 := ⟨k - 1, by omega⟩
    simp only [alloc_Fits.l0]
    rw [if_neg (by omega), List.drop_eq_nil_of_le (by omega)]; rfl
  | succ d ih =>
    intro i x hi hx
    rw [rd_drop ms i (by omega)]
    generalize hm : rd ms (i : Int) = m
    by_cases he : (fnd x m).2 = 0
    · obtain ⟨hm1, t, ht, hfit⟩ := fnd_ok x m he
      obtain ⟨k0, hk0⟩ := ih (i + 1) (setR x t m.toNat) (by omega) (by rw [setR_length]; omega)
      refine ⟨k0 + m.toNat + 2, fun k hk => ?_⟩
      obtain ⟨k, rfl⟩ : ∃ q, k = q + m.toNat + 1 + 1 := ⟨k - m.toNat - 2, by omega⟩
      simp only [alloc_Fits.l0]
      rw [if_pos (by omega), if_pos (by omega), if_pos (by omega), hm, find_f x m hx]; simp only [Option.bind_some]
      rw [if_pos he, ht]
      have := a_inner ms (ms.length : Int) (i : Int) m t m.toNat k x 0 (by omega) (by omega) hx
      rw [show ((0 : Nat) : Int) = 0 from rfl] at this
      rw [this, w64 (by omega) (by omega), show ((i : Int) + 1) = ((i + 1 : Nat) : Int) from by omega, Nat.add_zero, hk0 k (by omega)]
      simp only [fitsP]; rw [if_pos he, ht, Int.toNat_natCast]
    · refine ⟨1, fun k hk => ?_⟩
      obtain ⟨k, rfl⟩ : ∃ q, k = q + 1 := ⟨k - 1, by omega⟩
      simp only [alloc_Fits.l0]
      rw [if_pos (by omega), if_pos (by omega), if_pos (by omega), hm, find_f x m hx]; simp only [Option.bind_some]
      rw [if_neg he]; simp only [fitsP]; rw [if_neg he]

theorem r_inner (ms : List Int) (i : Nat) (hi : i < ms.length) (t e : Nat) (hn : rd ms (i : Int) = (e : Int) - t) (d : Nat) : ∀ (k : Nat) (x : List Bool) (j : Nat), j + d = e → e ≤ x.length → x.length ≤ 1000000 → t ≤ 1000000 →
    budwoodref07_Fits.l1 (k + d + 1) ms x (i : Int) (t : Int) (j : Int) = budwoodref07_Fits.l0 k ms (setR x j d) (wrap64 ((i : Int) + 1)) := by
  induction d with
  | zero =>
    intro k x j hj hx hb ht
    simp only [budwoodref07_Fits.l1]
    have e1 : wrap64 ((t : Int) + rd ms (i : Int)) = (e : Int) := by rw [hn, w64 (by omega) (by omega)]; omega
    rw [if_pos (by omega), if_pos (by omega), e1, if_neg (by omega)]; rfl
  | succ d ih =>
    intro k x j hj hx hb ht
    obtain ⟨K, hK⟩ : ∃ K, K = k + d + 1 := ⟨_, rfl⟩
    rw [show k + (d + 1) + 1 = K + 1 from by omega]
    simp only [budwoodref07_Fits.l1]
    have e1 : wrap64 ((t : Int) + rd ms (i : Int)) = (e : Int) := by rw [hn, w64 (by omega) (by omega)]; omega
    rw [if_pos (by omega), if_pos (by omega), e1, if_pos (by omega), if_pos (by omega), if_pos (by omega), Int.toNat_natCast, w64 (x := (j : Int) + 1) (by omega) (by omega), show ((j : Int) + 1) = ((j + 1 : Nat) : Int) from by omega]
    rw [hK, ih k (x.set j true) (j + 1) (by omega) (by rw [List.length_set]; omega) (by rw [List.length_set]; omega) ht]
    rfl

theorem r_outer (ms : List Int) (hms : ms.length ≤ 1000000) (d : Nat) : ∀ (i : Nat) (x : List Bool), i + d = ms.length → x.length ≤ 1000000 →
    ∃ k0, ∀ k, k0 ≤ k → budwoodref07_Fits.l0 k ms x (i : Int) = some (fitsP x (ms.drop i)) := by
  induction d with
  | zero =>
    intro i x hi hx
    refine ⟨1, fun k hk => ?_⟩
    obtain ⟨k, rfl⟩ : ∃ m, k = m + 1 := ⟨k - 1, by omega⟩
    simp only [budwoodref07_Fits.l0]
    rw [if_neg (by omega), List.drop_eq_nil_of_le (by omega)]; rfl
  | succ d ih =>
    intro i x hi hx
    rw [rd_drop ms i (by omega)]
    generalize hm : rd ms (i : Int) = m
    by_cases he : (fnd x m).2 = 0
    · obtain ⟨hm1, t, ht, hfit⟩ := fnd_ok x m he
      obtain ⟨k0, hk0⟩ := ih (i + 1) (setR x t m.toNat) (by omega) (by rw [setR_length]; omega)
      refine ⟨k0 + m.toNat + 2 * x.length + 5, fun k hk => ?_⟩
      obtain ⟨k, rfl⟩ : ∃ q, k = q + m.toNat + 1 + 1 := ⟨k - m.toNat - 2, by omega⟩
      simp only [budwoodref07_Fits.l0]
      rw [if_pos (by omega), if_pos (by omega), hm, refFind_eq x hx m _ (by omega)]; simp only [Option.bind_some]
      rw [if_pos he, ht]
      have := r_inner ms i (by omega) t (t + m.toNat) (by omega) m.toNat k x t rfl (by omega) hx (by omega)
      rw [this, w64 (by omega) (by omega), show ((i : Int) + 1) = ((i + 1 : Nat) : Int) from by omega, hk0 k (by omega)]
      simp only [fitsP]; rw [if_pos he, ht, Int.toNat_natCast]
    · refine ⟨2 * x.length + 5, fun k hk => ?_⟩
      obtain ⟨k, rfl⟩ : ∃ q, k = q + 1 := ⟨k - 1, by omega⟩
      simp only [budwoodref07_Fits.l0]
      rw [if_pos (by omega), if_pos (by omega), hm, refFind_eq x hx m _ (by omega)]; simp only [Option.bind_some]
      rw [if_neg he]; simp only [fitsP]; rw [if_neg he]

theorem fits_loop (l : List Bool) (ms : List Int) (b : Bool) (hms : ms.length ≤ 20) (hl : l.length ≤ 200) (d : Nat) : ∀ (i : Nat), i + d = ms.length →
    ∀ k0, (∀ k, k0 ≤ k → budwoodref07_Fits.f k l ms = some b) → ∀ k, k0 + d + 2 * l.length + 10 ≤ k → budwoodlaw07_AllocFits.l0 k l ms l ms b (i : Int) = some true := by
  induction d with
  | zero =>
    intro i hi k0 hr k hk
    obtain ⟨k, rfl⟩ : ∃ q, k = q + 1 := ⟨k - 1, by omega⟩
    simp only [budwoodlaw07_AllocFits.l0]
    rw [if_neg (by omega), hr k (by omega)]; simp only [Option.bind_some, beq_self_eq_true, if_true]
    rw [same_eq l (by omega) k (by omega), awake_true]; simp
  | succ d ih =>
    intro i hi k0 hr k hk
    obtain ⟨k, rfl⟩ : ∃ q, k = q + 1 := ⟨k - 1, by omega⟩
    simp only [budwoodlaw07_AllocFits.l0]
    rw [if_pos (by omega), if_pos (by omega), if_pos (by omega), if_true, w64 (by omega) (by omega), show ((i : Int) + 1) = ((i + 1 : Nat) : Int) from by omega]
    exact ih (i + 1) (by omega) k0 hr k (by omega)

theorem fits_true (l : List Bool) (ms : List Int) (hl : l.length ≤ 140737488351232) (hms : ms.length * 8 ≤ 140737488351232) : ∃ k, budwoodlaw07_AllocFits.f k l ms = some true := by
  by_cases h : (l.length : Int) > 200
  · refine ⟨1, ?_⟩
    unfold budwoodlaw07_AllocFits.f
    rw [if_pos h]; simp only [budwoodlaw07_AllocFits.j0, if_true]; rw [awake_true]; rfl
  · by_cases h2 : (ms.length : Int) > 20
    · refine ⟨1, ?_⟩
      unfold budwoodlaw07_AllocFits.f
      rw [if_neg h]; simp only [budwoodlaw07_AllocFits.j0]; rw [if_pos (by simpa using h2), awake_true]; rfl
    · obtain ⟨ka, hka⟩ := a_outer ms (by omega) ms.length 0 l (by omega) (by omega)
      obtain ⟨kr, hkr⟩ := r_outer ms (by omega) ms.length 0 l (by omega) (by omega)
      rw [List.drop_zero] at hka hkr
      have ha : ∀ k, ka ≤ k → alloc_Fits.f k l ms = some (fitsP l ms) := fun k hk => by
        unfold alloc_Fits.f slices_Clone_bool_bool.f
        rw [if_pos (by omega)]; simp only [Option.bind_some]; exact hka k hk
      have hr : ∀ k, kr ≤ k → budwoodref07_Fits.f k l ms = some (fitsP l ms) := fun k hk => by
        unfold budwoodref07_Fits.f
        simp only [Option.bind_some, List.nil_append, List.length_nil]
        rw [if_pos (by omega)]; exact hkr k hk
      refine ⟨ka + kr + ms.length + 2 * l.length + 12, ?_⟩
      unfold budwoodlaw07_AllocFits.f
      rw [if_neg h, show ka + kr + ms.length + 2 * l.length + 12 = (ka + kr + ms.length + 2 * l.length + 11) + 1 from by omega]
      simp only [budwoodlaw07_AllocFits.j0]
      rw [if_neg (by simpa using h2)]
      simp only [Option.bind_some, List.nil_append, List.length_nil]
      rw [if_pos (by omega), if_pos (by omega), ha _ (by omega)]; simp only [Option.bind_some]
      exact fits_loop l ms (fitsP l ms) (by omega) (by omega) ms.length 0 (by omega) kr hr _ (by omega)
end Go.Proofs.Ytiobbceadcgohaa.Plain
