/- What the document reads as a number. -/
import Derived.Test.YtkoimdgpicmakaaZRd
import Derived.Laws.BitsLemmas
import Derived.Test.YtkoimdgpicmakaaZPe
namespace Go.Proofs.Ytkoimdgpicmakaa.RefR
open Go.RowKit Go.Proofs.Ytkoimdgpicmakaa.Sep3 Go.Proofs.YtkoimdgpicmakaaW.PrintWords Go.Proofs.YtkoimdgpicmakaaW.PrintLast Go.Proofs.Ytkoimdgpicmakaa.Wm Go.Proofs.Ytkoimdgpicmakaa.PB Go.Proofs.Ytkoimdgpicmakaa.Reader
/-- One more byte of a number, as the document adds it. -/
abbrev rx (b nv : Int) (i : Nat) : Int := IntKind.u64.wrap (nv + IntKind.u64.wrap (b % 128 * 2 ^ (7 * i)))
/-- What reading a number does, from byte i on: by how much the reader goes on (none: it stops), its error, the number. -/
def rvr (xs : List Int) (most : Int) : Nat → Nat → Int → Option Nat × Int × Int
  | 0, _, _ => (none, 4, 0)
  | k + 1, i, nv => match xs[i]? with
    | none => (none, 3, 0)
    | some b => if 128 ≤ b then rvr xs most k (i + 1) (rx b nv i)
      else if 4294967295 < rx b nv i ∨ (0 < i ∧ b = 0) then (none, 4, 0) else if IntKind.u64.wrap most < rx b nv i then (none, 5, 0) else (some (i + 1), 0, rx b nv i % 4294967296)
end Go.Proofs.Ytkoimdgpicmakaa.RefR
namespace Go.Proofs.Ytkoimdgpicmakaa.Pure1
open Go.RowKit Go.Proofs.Ytkoimdgpicmakaa Go.Proofs.Ytkoimdgpicmakaa.Reader Go.Proofs.Ytkoimdgpicmakaa.RefR
set_option linter.unusedVariables false

theorem and128 (b : Int) (h0 : 0 ≤ b) (h1 : b < 256) : (bits BinOp.and IntKind.u8 b 128 != 0) = decide (128 ≤ b) := by
  obtain ⟨n, rfl⟩ := Int.eq_ofNat_of_zero_le h0
  have h : ∀ n : Fin 256, (bits BinOp.and IntKind.u8 ((n.1 : Nat) : Int) 128 != 0) = decide (128 ≤ ((n.1 : Nat) : Int)) := by decide +kernel
  exact h ⟨n, by omega⟩
theorem andn128 (b : Int) (h0 : 0 ≤ b) (h1 : b < 256) : bits BinOp.andNot IntKind.u8 b 128 = b % 128 := by
  obtain ⟨n, rfl⟩ := Int.eq_ofNat_of_zero_le h0
  have h : ∀ n : Fin 256, bits BinOp.andNot IntKind.u8 ((n.1 : Nat) : Int) 128 = ((n.1 : Nat) : Int) % 128 := by decide +kernel
  exact h ⟨n, by omega⟩
theorem wrap_u64 (n : Int) : IntKind.u64.wrap n = n % 18446744073709551616 := by simp [IntKind.wrap, IntKind.bits, IntKind.signed]
theorem wraps_u64 (n : Int) (h₀ : 0 ≤ n) (h₁ : n < 2 ^ 64) : IntKind.u64.wrap n = n := by rw [wrap_u64]; omega
theorem or_low (x y : Int) (i : Nat) (hx : 0 ≤ x) (hxi : x < 2 ^ i) (hy : 0 ≤ y) (hyi : y % 2 ^ i = 0) (hx1 : x < 2 ^ 64) (hy1 : y < 2 ^ 64) : bits BinOp.or IntKind.u64 x y = x + y := by
  have h := bits_join .u64 64 (by decide) wraps_u64 i y x hy hyi hy1 hx hxi hx1
  have hc : bits BinOp.or IntKind.u64 x y = bits BinOp.or IntKind.u64 y x := by
    obtain ⟨a, rfl⟩ := Int.eq_ofNat_of_zero_le hx
    obtain ⟨b, rfl⟩ := Int.eq_ofNat_of_zero_le hy
    have ha : a < 2 ^ 64 := by exact_mod_cast hx1
    have hb : b < 2 ^ 64 := by exact_mod_cast hy1
    rw [(bits_nat .u64 64 (by decide) wraps_u64 a b ha hb).2, (bits_nat .u64 64 (by decide) wraps_u64 b a hb ha).2, Nat.or_comm]
  rw [hc, h]; omega
theorem nx_eq (b nv : Int) (i : Nat) (h0 : 0 ≤ b) (h1 : b < 256) (hi : i ≤ 4) (hn0 : 0 ≤ nv) (hn1 : nv < 2 ^ (7 * i)) : nx b nv i = nv + b % 128 * 2 ^ (7 * i) := by
  unfold nx
  rw [andn128 b h0 h1, wraps_u64 (b % 128) (by omega) (by omega)]
  obtain rfl | rfl | rfl | rfl | rfl : i = 0 ∨ i = 1 ∨ i = 2 ∨ i = 3 ∨ i = 4 := by omega
  all_goals
    rw [wraps_u64 _ (by omega) (by omega)]
    refine or_low _ _ _ hn0 hn1 (by omega) (by omega) (by omega) (by omega)
theorem rx_eq (b nv : Int) (i : Nat) (h0 : 0 ≤ b) (h1 : b < 256) (hi : i ≤ 4) (hn0 : 0 ≤ nv) (hn1 : nv < 2 ^ (7 * i)) : rx b nv i = nv + b % 128 * 2 ^ (7 * i) := by
  unfold rx
  obtain rfl | rfl | rfl | rfl | rfl : i = 0 ∨ i = 1 ∨ i = 2 ∨ i = 3 ∨ i = 4 := by omega
  all_goals
    rw [wraps_u64 (b % 128 * _) (by omega) (by omega), wraps_u64 _ (by omega) (by omega)]
theorem nx_bd (b nv : Int) (i : Nat) (h0 : 0 ≤ b) (h1 : b < 256) (hi : i ≤ 4) (hn0 : 0 ≤ nv) (hn1 : nv < 2 ^ (7 * i)) : 0 ≤ nv + b % 128 * 2 ^ (7 * i) ∧ nv + b % 128 * 2 ^ (7 * i) < 2 ^ (7 * (i + 1)) := by
  obtain rfl | rfl | rfl | rfl | rfl : i = 0 ∨ i = 1 ∨ i = 2 ∨ i = 3 ∨ i = 4 := by omega
  all_goals omega
theorem vr_eq (xs : List Int) (most : Int) (hx : ∀ x ∈ xs, 0 ≤ x ∧ x < 256) : ∀ (k i : Nat) (nv : Int), k + i = 5 → 0 ≤ nv → nv < 2 ^ (7 * i) → vr xs most k i nv = rvr xs most k i nv
  | 0, i, nv, _, _, _ => rfl
  | k + 1, i, nv, hk, h0, h1 => by
    simp only [vr, rvr]
    cases hb : xs[i]? with
    | none => rfl
    | some b =>
      obtain ⟨hb0, hb1⟩ := hx b (List.mem_of_getElem? hb)
      have e1 := nx_eq b nv i hb0 hb1 (by omega) h0 h1
      have e2 := rx_eq b nv i hb0 hb1 (by omega) h0 h1
      have e3 := nx_bd b nv i hb0 hb1 (by omega) h0 h1
      simp only [and128 b hb0 hb1, decide_eq_true_eq]
      by_cases c1 : 128 ≤ b
      · rw [if_pos c1, if_pos c1, vr_eq xs most hx k (i + 1) _ (by omega) (by rw [e1]; exact e3.1) (by rw [e1]; exact e3.2), e1, e2]
      · rw [if_neg c1, if_neg c1, e1, e2]
        generalize nv + b % 128 * 2 ^ (7 * i) = N at e3
        by_cases c2 : 4294967295 < N
        · rw [if_neg (fun q => by have := q.1; omega), if_pos (.inl c2)]
        · by_cases c3 : 0 < i ∧ b = 0
          · rw [if_neg (fun q => q.2 c3), if_pos (.inr c3)]
          · rw [if_pos ⟨by omega, c3⟩, if_neg (show ¬ (4294967295 < N ∨ (0 < i ∧ b = 0)) from fun q => q.elim c2 c3)]
            by_cases c4 : IntKind.u64.wrap most < N
            · rw [if_pos c4, if_pos c4]
            · rw [if_neg c4, if_neg c4, Int.emod_eq_of_lt e3.1 (by omega)]
theorem wraps_u32 (n : Int) (h₀ : 0 ≤ n) (h₁ : n < 2 ^ 32) : IntKind.u32.wrap n = n := by rw [IntKind.wrap_u32]; omega
theorem or32_high (x y : Int) (i : Nat) (hx : 0 ≤ x) (hxi : x % 2 ^ i = 0) (hy : 0 ≤ y) (hyi : y < 2 ^ i) (hx1 : x < 2 ^ 32) (hy1 : y < 2 ^ 32) : bits BinOp.or IntKind.u32 x y = x + y := bits_join .u32 32 (by decide) wraps_u32 i x y hx hxi hx1 hy hyi hy1
theorem or32_low (x y : Int) (i : Nat) (hx : 0 ≤ x) (hxi : x < 2 ^ i) (hy : 0 ≤ y) (hyi : y % 2 ^ i = 0) (hx1 : x < 2 ^ 32) (hy1 : y < 2 ^ 32) : bits BinOp.or IntKind.u32 x y = x + y := by
  have h := or32_high y x i hy hyi hx hxi hy1 hx1
  have hc : bits BinOp.or IntKind.u32 x y = bits BinOp.or IntKind.u32 y x := by
    obtain ⟨a, rfl⟩ := Int.eq_ofNat_of_zero_le hx
    obtain ⟨b, rfl⟩ := Int.eq_ofNat_of_zero_le hy
    have ha : a < 2 ^ 32 := by exact_mod_cast hx1
    have hb : b < 2 ^ 32 := by exact_mod_cast hy1
    rw [(bits_nat .u32 32 (by decide) wraps_u32 a b ha hb).2, (bits_nat .u32 32 (by decide) wraps_u32 b a hb ha).2, Nat.or_comm]
  rw [hc, h]; omega
theorem or4 (a b c d : Int) (ha : 0 ≤ a) (ha' : a < 256) (hb : 0 ≤ b) (hb' : b < 256) (hc : 0 ≤ c) (hc' : c < 256) (hd : 0 ≤ d) (hd' : d < 256) :
    bits BinOp.or IntKind.u32 (bits BinOp.or IntKind.u32 (bits BinOp.or IntKind.u32 a (b * 256)) (c * 65536)) (d * 16777216) = a + b * 256 + c * 65536 + d * 16777216 := by
  rw [or32_low a (b * 256) 8 ha (by omega) (by omega) (by omega) (by omega) (by omega), or32_low _ (c * 65536) 16 (by omega) (by omega) (by omega) (by omega) (by omega) (by omega), or32_low _ (d * 16777216) 24 (by omega) (by omega) (by omega) (by omega) (by omega) (by omega)]
theorem wsum4 (a b c d : Int) (ha : 0 ≤ a) (ha' : a < 256) (hb : 0 ≤ b) (hb' : b < 256) (hc : 0 ≤ c) (hc' : c < 256) (hd : 0 ≤ d) (hd' : d < 256) :
    wsum (Back.back [a, b, c, d] 4) = a + b * 256 + c * 65536 + d * 16777216 := by
  simp only [Back.back, Back.at0, wsum, List.foldl_cons, List.foldl_nil, List.getElem?_cons_zero, List.getElem?_cons_succ, Option.getD_some, Int.zero_mul, Int.zero_emod]
  rw [Int.emod_eq_of_lt ha (by omega), Int.emod_eq_of_lt hb (by omega), Int.emod_eq_of_lt hc (by omega), Int.emod_eq_of_lt hd (by omega)]
  rw [or32_high 0 d 8 (by omega) (by omega) (by omega) (by omega) (by omega) (by omega), Int.emod_eq_of_lt (a := (0 + d) * 256) (by omega) (by omega)]
  rw [or32_high ((0 + d) * 256) c 8 (by omega) (by omega) (by omega) (by omega) (by omega) (by omega), Int.emod_eq_of_lt (a := ((0 + d) * 256 + c) * 256) (by omega) (by omega)]
  rw [or32_high (((0 + d) * 256 + c) * 256) b 8 (by omega) (by omega) (by omega) (by omega) (by omega) (by omega), Int.emod_eq_of_lt (a := (((0 + d) * 256 + c) * 256 + b) * 256) (by omega) (by omega)]
  rw [or32_high ((((0 + d) * 256 + c) * 256 + b) * 256) a 8 (by omega) (by omega) (by omega) (by omega) (by omega) (by omega)]
  omega
end Go.Proofs.Ytkoimdgpicmakaa.Pure1
namespace Go.Proofs.Ytkoimdgpicmakaa.Pure2
open Go.RowKit Go.Proofs.Ytkoimdgpicmakaa Go.Proofs.Ytkoimdgpicmakaa.Reader Go.Proofs.Ytkoimdgpicmakaa.RefR Go.Proofs.Ytkoimdgpicmakaa.Pure1 Go.Proofs.Ytkoimdgpicmakaa.PB Go.Proofs.YtkoimdgpicmakaaW.PrintWords
set_option linter.unusedVariables false

theorem or128 (b : Int) (h0 : 0 ≤ b) (h1 : b < 256) : bits BinOp.or IntKind.u8 b 128 = b % 128 + 128 := by
  obtain ⟨n, rfl⟩ := Int.eq_ofNat_of_zero_le h0
  have h : ∀ n : Fin 256, bits BinOp.or IntKind.u8 ((n.1 : Nat) : Int) 128 = ((n.1 : Nat) : Int) % 128 + 128 := by decide +kernel
  exact h ⟨n, by omega⟩
/-- The bytes of a number: d + 1 of them at most. -/
def vb : Nat → Int → List Int
  | 0, n => [n]
  | d + 1, n => if 128 ≤ n then (n % 128 + 128) :: vb d (n / 128) else [n]
theorem pow128 (d : Nat) : (128 : Int) ^ (d + 1) = 128 ^ d * 128 := Int.pow_succ ..
theorem div128 {n : Int} {d : Nat} (h : n < 128 ^ (d + 1 + 1)) : n / 128 < 128 ^ (d + 1) := by
  rw [pow128 (d + 1)] at h
  exact Int.ediv_lt_of_lt_mul (by omega) h
theorem vb_len (d : Nat) (n : Int) : 1 ≤ (vb d n).length ∧ (vb d n).length ≤ d + 1 := by
  induction d generalizing n with
  | zero => simp [vb]
  | succ d ih =>
    simp only [vb]
    split
    · have := ih (n / 128); simp; omega
    · simp
theorem vb_byte (d : Nat) (n : Int) (h0 : 0 ≤ n) (h1 : n < 128 ^ (d + 1)) : ∀ x ∈ vb d n, 0 ≤ x ∧ x < 256 := by
  induction d generalizing n with
  | zero => intro x hx; simp [vb] at hx; subst hx; omega
  | succ d ih =>
    intro x hx
    simp only [vb] at hx
    split at hx
    · rcases List.mem_cons.1 hx with rfl | hx
      · omega
      · exact ih _ (by omega) (div128 h1) x hx
    · simp at hx; subst hx; omega
theorem vb_more {d : Nat} {n : Int} (h0 : 0 ≤ n) (h1 : n < 128 ^ (d + 1)) {d' : Nat} (hd : d ≤ d') : vb d' n = vb d n := by
  induction d generalizing n d' with
  | zero =>
    cases d' with
    | zero => rfl
    | succ d' => simp only [vb]; rw [if_neg (by omega)]
  | succ d ih =>
    cases d' with
    | zero => omega
    | succ d' =>
      simp only [vb]
      split
      · rw [ih (by omega) (div128 h1) (by omega)]
      · rfl
theorem var_l0 (d : Nat) : ∀ (n : Int) (acc : List Int) (k : Nat), 0 ≤ n → n < 128 ^ (d + 1) → acc.length + d < 140737488355328 → d < k → wire_Var.l0 k n acc = some (acc ++ vb d n) := by
  induction d with
  | zero =>
    intro n acc k h0 h1 h2 h3
    obtain ⟨k, rfl⟩ : ∃ m, k = m + 1 := ⟨k - 1, by omega⟩
    simp only [wire_Var.l0, vb]
    rw [if_neg (by omega), if_pos (by omega), Int.emod_eq_of_lt h0 (by omega)]
  | succ d ih =>
    intro n acc k h0 h1 h2 h3
    obtain ⟨k, rfl⟩ : ∃ m, k = m + 1 := ⟨k - 1, by omega⟩
    simp only [wire_Var.l0, vb]
    by_cases h : 128 ≤ n
    · rw [if_pos h, if_pos (by omega), if_pos h, ih (n / 128) _ k (by omega) (div128 h1) (by simp; omega) (by omega), or128 _ (by omega) (by omega)]
      rw [show n % 256 % 128 = n % 128 from by omega]
      simp
    · rw [if_neg h, if_pos (by omega), if_neg h, Int.emod_eq_of_lt h0 (by omega)]
theorem p5 {n : Int} (h : n < 4294967296) : n < 128 ^ (4 + 1) := by
  have : (128 : Int) ^ (4 + 1) = 34359738368 := by decide
  omega
/-- A number's bytes. -/
def num (n : Int) : List Int := vb 4 n
theorem num_len (n : Int) : 1 ≤ (num n).length ∧ (num n).length ≤ 5 := vb_len 4 n
theorem num_byte (n : Int) (h0 : 0 ≤ n) (h1 : n < 4294967296) : ∀ x ∈ num n, 0 ≤ x ∧ x < 256 := vb_byte 4 n h0 (p5 h1)
theorem var_f (n : Int) (h0 : 0 ≤ n) (h1 : n < 4294967296) : wire_Var.f 5 n = some (num n) := by
  have h := var_l0 4 n [] 5 h0 (p5 h1) (by simp) (by omega)
  rw [List.nil_append] at h
  exact h
/-! ### Reading -/
theorem pow7 (i : Nat) : (2 : Int) ^ (7 * (i + 1)) = 2 ^ (7 * i) * 128 := by rw [Nat.mul_add, Int.pow_add]; rfl
theorem pow7_pos (i : Nat) : (0 : Int) < 2 ^ (7 * i) := Int.pow_pos (by decide)
theorem read_num (most : Int) (hm0 : 0 ≤ most) (hm1 : most < 4294967296) (xs : List Int) (hx : ∀ x ∈ xs, 0 ≤ x ∧ x < 256) : ∀ (d k i : Nat) (n nv : Int) (rest : List Int), k + i = 5 → d < k → xs.drop i = vb d n ++ rest →
    0 ≤ n → n < 128 ^ (d + 1) → 0 ≤ nv → nv < 2 ^ (7 * i) → nv + n * 2 ^ (7 * i) ≤ most → (0 < i → 0 < n) → rvr xs most k i nv = (some (i + (vb d n).length), 0, nv + n * 2 ^ (7 * i)) := by
  intro d
  induction d with
  | zero =>
    intro k i n nv rest hk hd hxs h0 h1 h2 h3 h4 h5
    obtain ⟨k, rfl⟩ : ∃ m, k = m + 1 := ⟨k - 1, by omega⟩
    have hb : xs[i]? = some n := by
      have := congrArg (fun l => l[0]?) hxs
      simpa [vb, List.getElem?_drop] using this
    have hn : n < 128 := by simpa using h1
    have e2 := rx_eq n nv i h0 (by omega) (by omega) h2 h3
    rw [Int.emod_eq_of_lt h0 hn] at e2
    simp only [rvr, hb]
    have hw : IntKind.u64.wrap most = most := by rw [wrap_u64]; omega
    rw [if_neg (by omega), e2, if_neg (show ¬ (4294967295 < nv + n * 2 ^ (7 * i) ∨ (0 < i ∧ n = 0)) from fun q => q.elim (fun q => by omega) (fun q => by have := h5 q.1; omega)), if_neg (by rw [hw]; omega)]
    rw [Int.emod_eq_of_lt (by have := Int.mul_nonneg h0 (Int.le_of_lt (pow7_pos i)); omega) (by omega)]
    rfl
  | succ d ih =>
    intro k i n nv rest hk hd hxs h0 h1 h2 h3 h4 h5
    by_cases h : 128 ≤ n
    · obtain ⟨k, rfl⟩ : ∃ m, k = m + 1 := ⟨k - 1, by omega⟩
      have hv : vb (d + 1) n = (n % 128 + 128) :: vb d (n / 128) := by simp only [vb]; rw [if_pos h]
      rw [hv] at hxs
      have hb : xs[i]? = some (n % 128 + 128) := by
        have := congrArg (fun l => l[0]?) hxs
        simpa [List.getElem?_drop] using this
      have hd1 : xs.drop (i + 1) = vb d (n / 128) ++ rest := by
        have := congrArg (List.drop 1) hxs
        simpa [List.drop_drop, Nat.add_comm] using this
      have e2 := rx_eq (n % 128 + 128) nv i (by omega) (by omega) (by omega) h2 h3
      rw [show (n % 128 + 128) % 128 = n % 128 from by omega] at e2
      have e3 := nx_bd (n % 128 + 128) nv i (by omega) (by omega) (by omega) h2 h3
      rw [show (n % 128 + 128) % 128 = n % 128 from by omega] at e3
      have hsum : nv + n % 128 * 2 ^ (7 * i) + n / 128 * 2 ^ (7 * (i + 1)) = nv + n * 2 ^ (7 * i) := by
        rw [pow7, ← Int.mul_assoc, Int.mul_right_comm (n / 128), Int.add_assoc, ← Int.add_mul]
        congr 2
        omega
      simp only [rvr, hb]
      rw [if_pos (by omega), e2, ih k (i + 1) (n / 128) _ rest (by omega) (by omega) hd1 (by omega) (div128 h1) e3.1 e3.2 (by rw [hsum]; exact h4) (fun _ => by omega), hsum, hv]
      simp
      omega
    · have hv : vb (d + 1) n = vb 0 n := by simp only [vb]; rw [if_neg h]
      have hv2 : vb d n = vb 0 n := vb_more h0 (by simpa using (show n < 128 by omega)) (Nat.zero_le _)
      rw [hv, ← hv2] at hxs ⊢
      refine ih k i n nv rest hk (by omega) hxs h0 ?_ h2 h3 h4 h5
      have : (128 : Int) ≤ 128 ^ (d + 1) := by
        rw [pow128]
        have : (0 : Int) < 128 ^ d := Int.pow_pos (by decide)
        omega
      omega
theorem rVar_num (n most : Int) (h0 : 0 ≤ n) (h1 : n ≤ most) (hm : most < 4294967296) (rest : List Int) (hr : ∀ x ∈ rest, 0 ≤ x ∧ x < 256) : rVar (num n ++ rest) 0 most = (rest, 0, n) := by
  have hb : ∀ x ∈ num n ++ rest, 0 ≤ x ∧ x < 256 := fun x hx => (List.mem_append.1 hx).elim (num_byte n h0 (by omega) x) (hr x)
  have h := read_num most (by omega) hm (num n ++ rest) hb 4 5 0 n 0 rest rfl (by omega) (by simp [num]) h0 (p5 (by omega)) (by omega) (by decide) (by simpa using h1) (by omega)
  simp only [rVar, if_true]
  rw [vr_eq _ _ hb 5 0 0 rfl (by omega) (by decide), h]
  simp [num]
/-- Bytes that are read as a number are those that are laid for it. -/
theorem only_num (most : Int) (xs : List Int) (hx : ∀ x ∈ xs, 0 ≤ x ∧ x < 256) (hm0 : 0 ≤ most) (hm1 : most < 4294967296) : ∀ (k i : Nat) (nv : Int) (j : Nat) (e r : Int), k + i = 5 → 0 ≤ nv → nv < 2 ^ (7 * i) → rvr xs most k i nv = (some j, e, r) →
    ∃ n : Int, 0 ≤ n ∧ n < 128 ^ k ∧ i < j ∧ j ≤ xs.length ∧ r = nv + n * 2 ^ (7 * i) ∧ r ≤ most ∧ (0 < i → 0 < n) ∧ e = 0 ∧ vb (k - 1) n = (xs.take j).drop i
  | 0, i, nv, j, e, r, _, _, _, h => by simp [rvr] at h
  | k + 1, i, nv, j, e, r, hk, h0, h1, h => by
    simp only [rvr] at h
    cases hb : xs[i]? with
    | none => rw [hb] at h; simp at h
    | some b =>
      rw [hb] at h
      simp only at h
      obtain ⟨hb0, hb1⟩ := hx b (List.mem_of_getElem? hb)
      have hi : i < xs.length := (List.getElem?_eq_some_iff.1 hb).1
      have hbe : xs[i] = b := (List.getElem?_eq_some_iff.1 hb).2
      have e2 := rx_eq b nv i hb0 hb1 (by omega) h0 h1
      have e3 := nx_bd b nv i hb0 hb1 (by omega) h0 h1
      rw [e2] at h
      have hw : IntKind.u64.wrap most = most := by rw [wrap_u64]; omega
      by_cases c1 : 128 ≤ b
      · rw [if_pos c1] at h
        obtain ⟨n, hn0, hn1, hij, hjl, hr, hrm, hnp, he, hv⟩ := only_num most xs hx hm0 hm1 k (i + 1) _ j e r (by omega) e3.1 e3.2 h
        have hnp := hnp (by omega)
        obtain ⟨k, rfl⟩ : ∃ m, k = m + 1 := ⟨k - 1, by
          rcases Nat.eq_zero_or_pos k with rfl | hp
          · have : n < 1 := by simpa using hn1
            omega
          · omega⟩
        refine ⟨b % 128 + 128 * n, by omega, by rw [pow128]; omega, by omega, hjl, ?_, hrm, fun _ => by omega, he, ?_⟩
        · rw [hr, pow7, ← Int.mul_assoc, Int.mul_right_comm n, Int.add_assoc, ← Int.add_mul]
          congr 2
          omega
        · have hsplit : (xs.take j).drop i = b :: (xs.take j).drop (i + 1) := by
            rw [List.drop_eq_getElem_cons (show i < (xs.take j).length by rw [List.length_take]; omega)]
            simp [hbe]
          rw [hsplit, ← hv]
          simp only [Nat.add_sub_cancel, vb]
          rw [if_pos (by omega)]
          rw [show (b % 128 + 128 * n) % 128 + 128 = b from by omega, show (b % 128 + 128 * n) / 128 = n from by omega]
      · rw [if_neg c1] at h
        rw [Int.emod_eq_of_lt hb0 (by omega)] at h e3
        by_cases c2 : 4294967295 < nv + b * 2 ^ (7 * i) ∨ (0 < i ∧ b = 0)
        · rw [if_pos c2] at h; simp at h
        · rw [if_neg c2] at h
          by_cases c3 : IntKind.u64.wrap most < nv + b * 2 ^ (7 * i)
          · rw [if_pos c3] at h; simp at h
          · rw [if_neg c3] at h
            rw [hw] at c3
            injection h with h1' h2'
            injection h1' with h1'
            injection h2' with h2' h3'
            subst h1' h2' h3'
            have hlt : nv + b * 2 ^ (7 * i) < 4294967296 := by
              have : ¬ (4294967295 < nv + b * 2 ^ (7 * i)) := fun q => c2 (.inl q)
              omega
            refine ⟨b, hb0, ?_, by omega, by omega, Int.emod_eq_of_lt e3.1 hlt, by rw [Int.emod_eq_of_lt e3.1 hlt]; omega, fun hp => ?_, rfl, ?_⟩
            · rw [pow128]
              have : (0 : Int) < 128 ^ k := Int.pow_pos (by decide)
              omega
            · have : b ≠ 0 := fun q => c2 (.inr ⟨hp, q⟩)
              omega
            · have hsplit : (xs.take (i + 1)).drop i = [b] := by
                rw [List.drop_eq_getElem_cons (show i < (xs.take (i + 1)).length by rw [List.length_take]; omega)]
                simp [hbe]
              rw [hsplit]
              exact vb_more (d := 0) hb0 (by simpa using (show b < 128 by omega)) (Nat.zero_le _)
end Go.Proofs.Ytkoimdgpicmakaa.Pure2
namespace Go.Proofs.Ytkoimdgpicmakaa.Pure4
open Go.RowKit Go.Proofs.Ytkoimdgpicmakaa Go.Proofs.Ytkoimdgpicmakaa.PB Go.Proofs.Ytkoimdgpicmakaa.Pure2 Go.Proofs.YtkoimdgpicmakaaW.PrintWords
set_option linter.unusedVariables false

/-- A word's bytes. -/
def wd (n : Int) : List Int := [n % 256, n / 256 % 256, n / 65536 % 256, n / 16777216 % 256]
theorem word_f (n : Int) : wire_Word.f 6 n = some (wd n) := by
  unfold wire_Word.f
  have w1 : wrap64 1 = 1 := by unfold wrap64; omega
  have w2 : wrap64 2 = 2 := by unfold wrap64; omega
  have w3 : wrap64 3 = 3 := by unfold wrap64; omega
  have w4 : wrap64 4 = 4 := by unfold wrap64; omega
  have e1 : n / 256 / 256 = n / 65536 := by omega
  have e2 : n / 65536 / 256 = n / 16777216 := by omega
  simp [wire_Word.l0, w1, w2, w3, w4, e1, e2, wd]
theorem word_up (n : Int) {k : Nat} (hk : 6 ≤ k) : wire_Word.f k n = some (wd n) := at_rounds (g := fun k => wire_Word.f k n) (wire_Word.mono n) hk (word_f n)
theorem var_up (n : Int) (h0 : 0 ≤ n) (h1 : n < 4294967296) {k : Nat} (hk : 5 ≤ k) : wire_Var.f k n = some (num n) := at_rounds (g := fun k => wire_Var.f k n) (wire_Var.mono n) hk (var_f n h0 h1)
/-- A text's bytes. -/
def txt (s : ByteArray) : List Int := num ((s.size : Int) % 4294967296) ++ bytesOf s
theorem text_up (s : ByteArray) (hs : s.size ≤ 140737488351232) {k : Nat} (hk : 5 ≤ k) : wire_Text.f k s = some (txt s) := by
  have := num_len ((s.size : Int) % 4294967296)
  unfold wire_Text.f
  rw [var_up _ (by omega) (by omega) hk, Option.bind_some, if_pos (by omega)]
  rfl
/-- The bytes of a list of words. -/
def wds (l : List Int) : List Int := num ((l.length : Int) % 4294967296) ++ l.flatMap wd
theorem flat_len (l : List Int) : (l.flatMap wd).length = l.length * 4 := by induction l <;> simp_all [wd] <;> omega
theorem take_flat (l : List Int) (i : Nat) (h : i < l.length) : (l.take (i + 1)).flatMap wd = (l.take i).flatMap wd ++ wd (rd l i) := by
  rw [List.take_succ_eq_append_getElem h, List.flatMap_append]
  simp [rd, List.getD_eq_getElem?_getD, List.getElem?_eq_getElem h]
theorem words_l0 (l acc : List Int) (hl : acc.length + l.length * 4 < 140737488355328) : ∀ (j i k : Nat), i + j = l.length → j + 6 < k → wire_Words.l0 k (acc ++ (l.take i).flatMap wd) l (l.length : Int) (i : Int) = some (acc ++ l.flatMap wd)
  | 0, i, k, hi, hk => by
    obtain ⟨k, rfl⟩ : ∃ m, k = m + 1 := ⟨k - 1, by omega⟩
    simp only [wire_Words.l0]
    rw [if_neg (by omega), List.take_of_length_le (by omega)]
  | j + 1, i, k, hi, hk => by
    obtain ⟨k, rfl⟩ : ∃ m, k = m + 1 := ⟨k - 1, by omega⟩
    have e3 : wrap64 ((i : Int) + 1) = ((i + 1 : Nat) : Int) := by unfold wrap64; omega
    have e4 : (acc ++ (l.take i).flatMap wd).length + (wd (rd l i)).length < 140737488355328 := by
      rw [List.length_append, flat_len, List.length_take]
      simp only [wd, List.length_cons, List.length_nil]
      omega
    simp only [wire_Words.l0]
    rw [if_pos (by omega), if_pos (by omega), if_pos (by omega), word_up _ (by omega), Option.bind_some, if_pos e4, e3, List.append_assoc, ← take_flat l i (by omega)]
    exact words_l0 l acc hl j (i + 1) k (by omega) (by omega)
theorem words_up (l : List Int) (hl : l.length * 4 ≤ 140737488351232) {k : Nat} (hk : l.length + 7 ≤ k) : wire_Words.f k l = some (wds l) := by
  have := num_len ((l.length : Int) % 4294967296)
  unfold wire_Words.f
  rw [var_up _ (by omega) (by omega) (by omega), Option.bind_some]
  have h := words_l0 l (num ((l.length : Int) % 4294967296)) (by omega) l.length 0 k (by omega) (by omega)
  simpa [wds] using h
end Go.Proofs.Ytkoimdgpicmakaa.Pure4
