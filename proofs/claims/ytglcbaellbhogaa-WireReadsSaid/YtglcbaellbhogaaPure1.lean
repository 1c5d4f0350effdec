/- Plain laws of the reader of bytes: both texts read a number alike. -/
import Derived.Test.YtglcbaellbhogaaRefR
import Derived.Laws.BitsLemmas
namespace Go.Proofs.Ytglcbaellbhogaa.Pure1
open Go.RowKit Go.Proofs.Ytglcbaellbhogaa Go.Proofs.Ytglcbaellbhogaa.Reader Go.Proofs.Ytglcbaellbhogaa.RefR
set_option linter.unusedVariables false

theorem and128 (b : Int) (h0 : 0 ≤ b) (h1 : b < 256) : (bits BinOp.and IntKind.u8 b 128 != 0) = decide (128 ≤ b) := by
  obtain ⟨n, rfl⟩ := Int.eq_ofNat_of_zero_le h0
  have h : ∀ n : Fin 256, (bits BinOp.and IntKind.u8 ((n.1 : Nat) : Int) 128 != 0) = decide (128 ≤ ((n.1 : Nat) : Int)) := by decide +kernel
  exact h ⟨n, by omega⟩
theorem andn128 (b : Int) (h0 : 0 ≤ b) (h1 : b < 256) : bits BinOp.andNot IntKind.u8 b 128 = b % 128 := by
  obtain ⟨n, rfl⟩ := Int.eq_ofNat_of_zero_le h0
  have h : ∀ n : Fin 256, bits BinOp.andNot IntKind.u8 ((n.1 : Nat) : Int) 128 = ((n.1 : Nat) : Int) % 128 := by decide +kernel
  exact h ⟨n, by omega⟩
theorem wrap_u64 (n : Int) : IntKind.u64.wrap n = n % 18446744073709551616 := by simp [IntKind.wrap, IntKind.bits, IntKind.signed]
theorem wraps_u64 (n : Int) (h₀ : 0 ≤ n) (h₁ : n < 2 ^ 64) : IntKind.u64.wrap n = n := by rw [wrap_u64]; omega
theorem or_low (x y : Int) (i : Nat) (hx : 0 ≤ x) (hxi : x < 2 ^ i) (hy : 0 ≤ y) (hyi : y % 2 ^ i = 0) (hx1 : x < 2 ^ 64) (hy1 : y < 2 ^ 64) : bits BinOp.or IntKind.u64 x y = x + y := by
  have h := bits_join .u64 64 (by decide) wraps_u64 i y x hy hyi hy1 hx hxi hx1
  have hc : bits BinOp.or IntKind.u64 x y = bits BinOp.or IntKind.u64 y x := by
    obtain ⟨a, rfl⟩ := Int.eq_ofNat_of_zero_le hx
    obtain ⟨b, rfl⟩ := Int.eq_ofNat_of_zero_le hy
    have ha : a < 2 ^ 64 := by exact_mod_cast hx1
    have hb : b < 2 ^ 64 := by exact_mod_cast hy1
    rw [(bits_nat .u64 64 (by decide) wraps_u64 a b ha hb).2, (bits_nat .u64 64 (by decide) wraps_u64 b a hb ha).2, Nat.or_comm]
  rw [hc, h]; omega
theorem nx_eq (b nv : Int) (i : Nat) (h0 : 0 ≤ b) (h1 : b < 256) (hi : i ≤ 4) (hn0 : 0 ≤ nv) (hn1 : nv < 2 ^ (7 * i)) : nx b nv i = nv + b % 128 * 2 ^ (7 * i) := by
  unfold nx
  rw [andn128 b h0 h1, wraps_u64 (b % 128) (by omega) (by omega)]
  obtain rfl | rfl | rfl | rfl | rfl : i = 0 ∨ i = 1 ∨ i = 2 ∨ i = 3 ∨ i = 4 := by omega
  all_goals
    rw [wraps_u64 _ (by omega) (by omega)]
    refine or_low _ _ _ hn0 hn1 (by omega) (by omega) (by omega) (by omega)
theorem rx_eq (b nv : Int) (i : Nat) (h0 : 0 ≤ b) (h1 : b < 256) (hi : i ≤ 4) (hn0 : 0 ≤ nv) (hn1 : nv < 2 ^ (7 * i)) : rx b nv i = nv + b % 128 * 2 ^ (7 * i) := by
  unfold rx
  obtain rfl | rfl | rfl | rfl | rfl : i = 0 ∨ i = 1 ∨ i = 2 ∨ i = 3 ∨ i = 4 := by omega
  all_goals
    rw [wraps_u64 (b % 128 * _) (by omega) (by omega), wraps_u64 _ (by omega) (by omega)]
theorem nx_bd (b nv : Int) (i : Nat) (h0 : 0 ≤ b) (h1 : b < 256) (hi : i ≤ 4) (hn0 : 0 ≤ nv) (hn1 : nv < 2 ^ (7 * i)) : 0 ≤ nv + b % 128 * 2 ^ (7 * i) ∧ nv + b % 128 * 2 ^ (7 * i) < 2 ^ (7 * (i + 1)) := by
  obtain rfl | rfl | rfl | rfl | rfl : i = 0 ∨ i = 1 ∨ i = 2 ∨ i = 3 ∨ i = 4 := by omega
  all_goals omega
theorem vr_eq (xs : List Int) (most : Int) (hx : ∀ x ∈ xs, 0 ≤ x ∧ x < 256) : ∀ (k i : Nat) (nv : Int), k + i = 5 → 0 ≤ nv → nv < 2 ^ (7 * i) → vr xs most k i nv = rvr xs most k i nv
  | 0, i, nv, _, _, _ => rfl
  | k + 1, i, nv, hk, h0, h1 => by
    simp only [vr, rvr]
    cases hb : xs[i]? with
    | none => rfl
    | some b =>
      obtain ⟨hb0, hb1⟩ := hx b (List.mem_of_getElem? hb)
      have e1 := nx_eq b nv i hb0 hb1 (by omega) h0 h1
      have e2 := rx_eq b nv i hb0 hb1 (by omega) h0 h1
      have e3 := nx_bd b nv i hb0 hb1 (by omega) h0 h1
      simp only [and128 b hb0 hb1, decide_eq_true_eq]
      by_cases c1 : 128 ≤ b
      · rw [if_pos c1, if_pos c1, vr_eq xs most hx k (i + 1) _ (by omega) (by rw [e1]; exact e3.1) (by rw [e1]; exact e3.2), e1, e2]
      · rw [if_neg c1, if_neg c1, e1, e2]
        generalize nv + b % 128 * 2 ^ (7 * i) = N at e3
        by_cases c2 : 4294967295 < N
        · rw [if_neg (fun q => by have := q.1; omega), if_pos (.inl c2)]
        · by_cases c3 : 0 < i ∧ b = 0
          · rw [if_neg (fun q => q.2 c3), if_pos (.inr c3)]
          · rw [if_pos ⟨by omega, c3⟩, if_neg (show ¬ (4294967295 < N ∨ (0 < i ∧ b = 0)) from fun q => q.elim c2 c3)]
            by_cases c4 : IntKind.u64.wrap most < N
            · rw [if_pos c4, if_pos c4]
            · rw [if_neg c4, if_neg c4, Int.emod_eq_of_lt e3.1 (by omega)]
theorem wraps_u32 (n : Int) (h₀ : 0 ≤ n) (h₁ : n < 2 ^ 32) : IntKind.u32.wrap n = n := by rw [IntKind.wrap_u32]; omega
theorem or32_high (x y : Int) (i : Nat) (hx : 0 ≤ x) (hxi : x % 2 ^ i = 0) (hy : 0 ≤ y) (hyi : y < 2 ^ i) (hx1 : x < 2 ^ 32) (hy1 : y < 2 ^ 32) : bits BinOp.or IntKind.u32 x y = x + y := bits_join .u32 32 (by decide) wraps_u32 i x y hx hxi hx1 hy hyi hy1
theorem or32_low (x y : Int) (i : Nat) (hx : 0 ≤ x) (hxi : x < 2 ^ i) (hy : 0 ≤ y) (hyi : y % 2 ^ i = 0) (hx1 : x < 2 ^ 32) (hy1 : y < 2 ^ 32) : bits BinOp.or IntKind.u32 x y = x + y := by
  have h := or32_high y x i hy hyi hx hxi hy1 hx1
  have hc : bits BinOp.or IntKind.u32 x y = bits BinOp.or IntKind.u32 y x := by
    obtain ⟨a, rfl⟩ := Int.eq_ofNat_of_zero_le hx
    obtain ⟨b, rfl⟩ := Int.eq_ofNat_of_zero_le hy
    have ha : a < 2 ^ 32 := by exact_mod_cast hx1
    have hb : b < 2 ^ 32 := by exact_mod_cast hy1
    rw [(bits_nat .u32 32 (by decide) wraps_u32 a b ha hb).2, (bits_nat .u32 32 (by decide) wraps_u32 b a hb ha).2, Nat.or_comm]
  rw [hc, h]; omega
theorem or4 (a b c d : Int) (ha : 0 ≤ a) (ha' : a < 256) (hb : 0 ≤ b) (hb' : b < 256) (hc : 0 ≤ c) (hc' : c < 256) (hd : 0 ≤ d) (hd' : d < 256) :
    bits BinOp.or IntKind.u32 (bits BinOp.or IntKind.u32 (bits BinOp.or IntKind.u32 a (b * 256)) (c * 65536)) (d * 16777216) = a + b * 256 + c * 65536 + d * 16777216 := by
  rw [or32_low a (b * 256) 8 ha (by omega) (by omega) (by omega) (by omega) (by omega), or32_low _ (c * 65536) 16 (by omega) (by omega) (by omega) (by omega) (by omega) (by omega), or32_low _ (d * 16777216) 24 (by omega) (by omega) (by omega) (by omega) (by omega) (by omega)]
theorem wsum4 (a b c d : Int) (ha : 0 ≤ a) (ha' : a < 256) (hb : 0 ≤ b) (hb' : b < 256) (hc : 0 ≤ c) (hc' : c < 256) (hd : 0 ≤ d) (hd' : d < 256) :
    wsum (Back.back [a, b, c, d] 4) = a + b * 256 + c * 65536 + d * 16777216 := by
  simp only [Back.back, Back.at0, wsum, List.foldl_cons, List.foldl_nil, List.getElem?_cons_zero, List.getElem?_cons_succ, Option.getD_some, Int.zero_mul, Int.zero_emod]
  rw [Int.emod_eq_of_lt ha (by omega), Int.emod_eq_of_lt hb (by omega), Int.emod_eq_of_lt hc (by omega), Int.emod_eq_of_lt hd (by omega)]
  rw [or32_high 0 d 8 (by omega) (by omega) (by omega) (by omega) (by omega) (by omega), Int.emod_eq_of_lt (a := (0 + d) * 256) (by omega) (by omega)]
  rw [or32_high ((0 + d) * 256) c 8 (by omega) (by omega) (by omega) (by omega) (by omega) (by omega), Int.emod_eq_of_lt (a := ((0 + d) * 256 + c) * 256) (by omega) (by omega)]
  rw [or32_high (((0 + d) * 256 + c) * 256) b 8 (by omega) (by omega) (by omega) (by omega) (by omega) (by omega), Int.emod_eq_of_lt (a := (((0 + d) * 256 + c) * 256 + b) * 256) (by omega) (by omega)]
  rw [or32_high ((((0 + d) * 256 + c) * 256 + b) * 256) a 8 (by omega) (by omega) (by omega) (by omega) (by omega) (by omega)]
  omega
end Go.Proofs.Ytglcbaellbhogaa.Pure1
