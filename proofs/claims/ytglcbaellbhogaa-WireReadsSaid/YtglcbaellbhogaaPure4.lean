/- Plain laws of words, texts and lists of words as bytes. -/
import Derived.Test.YtglcbaellbhogaaPure2
namespace Go.Proofs.Ytglcbaellbhogaa.Pure4
open Go.RowKit Go.Proofs.Ytglcbaellbhogaa Go.Proofs.Ytglcbaellbhogaa.PB Go.Proofs.Ytglcbaellbhogaa.Pure2 Go.Proofs.YtglcbaellbhogaaW.PrintWords
set_option linter.unusedVariables false

/-- A word's bytes. -/
def wd (n : Int) : List Int := [n % 256, n / 256 % 256, n / 65536 % 256, n / 16777216 % 256]
theorem word_f (n : Int) : wire_Word.f 6 n = some (wd n) := by
  unfold wire_Word.f
  have w1 : wrap64 1 = 1 := by unfold wrap64; omega
  have w2 : wrap64 2 = 2 := by unfold wrap64; omega
  have w3 : wrap64 3 = 3 := by unfold wrap64; omega
  have w4 : wrap64 4 = 4 := by unfold wrap64; omega
  have e1 : n / 256 / 256 = n / 65536 := by omega
  have e2 : n / 65536 / 256 = n / 16777216 := by omega
  simp [wire_Word.l0, w1, w2, w3, w4, e1, e2, wd]
theorem rword_f (n : Int) : budwoodref03_Word.f n = some (wd n) := rfl
theorem word_up (n : Int) {k : Nat} (hk : 6 ≤ k) : wire_Word.f k n = some (wd n) := at_rounds (g := fun k => wire_Word.f k n) (wire_Word.mono n) hk (word_f n)
theorem var_up (n : Int) (h0 : 0 ≤ n) (h1 : n < 4294967296) {k : Nat} (hk : 5 ≤ k) : wire_Var.f k n = some (num n) := at_rounds (g := fun k => wire_Var.f k n) (wire_Var.mono n) hk (var_f n h0 h1)
theorem rvar_up (n : Int) (h0 : 0 ≤ n) (h1 : n < 4294967296) {k : Nat} (hk : 5 ≤ k) : budwoodref03_Var.f k n = some (num n) := at_rounds (g := fun k => budwoodref03_Var.f k n) (budwoodref03_Var.mono n) hk (rvar_f n h0 h1)
/-- A text's bytes. -/
def txt (s : ByteArray) : List Int := num ((s.size : Int) % 4294967296) ++ bytesOf s
theorem text_up (s : ByteArray) (hs : s.size ≤ 140737488351232) {k : Nat} (hk : 5 ≤ k) : wire_Text.f k s = some (txt s) := by
  have := num_len ((s.size : Int) % 4294967296)
  unfold wire_Text.f
  rw [var_up _ (by omega) (by omega) hk, Option.bind_some, if_pos (by omega)]
  rfl
theorem rtext_up (s : ByteArray) (hs : s.size ≤ 140737488351232) {k : Nat} (hk : 5 ≤ k) : budwoodref03_Text.f k s = some (txt s) := by
  have := num_len ((s.size : Int) % 4294967296)
  unfold budwoodref03_Text.f
  rw [rvar_up _ (by omega) (by omega) hk, Option.bind_some, if_pos (by omega)]
  rfl
/-- The bytes of a list of words. -/
def wds (l : List Int) : List Int := num ((l.length : Int) % 4294967296) ++ l.flatMap wd
theorem flat_len (l : List Int) : (l.flatMap wd).length = l.length * 4 := by induction l <;> simp_all [wd] <;> omega
theorem take_flat (l : List Int) (i : Nat) (h : i < l.length) : (l.take (i + 1)).flatMap wd = (l.take i).flatMap wd ++ wd (rd l i) := by
  rw [List.take_succ_eq_append_getElem h, List.flatMap_append]
  simp [rd, List.getD_eq_getElem?_getD, List.getElem?_eq_getElem h]
theorem words_l0 (l acc : List Int) (hl : acc.length + l.length * 4 < 140737488355328) : ∀ (j i k : Nat), i + j = l.length → j + 6 < k → wire_Words.l0 k (acc ++ (l.take i).flatMap wd) l (l.length : Int) (i : Int) = some (acc ++ l.flatMap wd)
  | 0, i, k, hi, hk => by
    obtain ⟨k, rfl⟩ : ∃ m, k = m + 1 := ⟨k - 1, by omega⟩
    simp only [wire_Words.l0]
    rw [if_neg (by omega), List.take_of_length_le (by omega)]
  | j + 1, i, k, hi, hk => by
    obtain ⟨k, rfl⟩ : ∃ m, k = m + 1 := ⟨k - 1, by omega⟩
    have e3 : wrap64 ((i : Int) + 1) = ((i + 1 : Nat) : Int) := by unfold wrap64; omega
    have e4 : (acc ++ (l.take i).flatMap wd).length + (wd (rd l i)).length < 140737488355328 := by
      rw [List.length_append, flat_len, List.length_take]
      simp only [wd, List.length_cons, List.length_nil]
      omega
    simp only [wire_Words.l0]
    rw [if_pos (by omega), if_pos (by omega), if_pos (by omega), word_up _ (by omega), Option.bind_some, if_pos e4, e3, List.append_assoc, ← take_flat l i (by omega)]
    exact words_l0 l acc hl j (i + 1) k (by omega) (by omega)
theorem words_up (l : List Int) (hl : l.length * 4 ≤ 140737488351232) {k : Nat} (hk : l.length + 7 ≤ k) : wire_Words.f k l = some (wds l) := by
  have := num_len ((l.length : Int) % 4294967296)
  unfold wire_Words.f
  rw [var_up _ (by omega) (by omega) (by omega), Option.bind_some]
  have h := words_l0 l (num ((l.length : Int) % 4294967296)) (by omega) l.length 0 k (by omega) (by omega)
  simpa [wds] using h
theorem rwords_l0 (l acc : List Int) (hl : acc.length + l.length * 4 < 140737488355328) : ∀ (j i k : Nat), i + j = l.length → j + 6 < k → budwoodref03_Words.l0 k l (acc ++ (l.take i).flatMap wd) (i : Int) = some (acc ++ l.flatMap wd)
  | 0, i, k, hi, hk => by
    obtain ⟨k, rfl⟩ : ∃ m, k = m + 1 := ⟨k - 1, by omega⟩
    simp only [budwoodref03_Words.l0]
    rw [if_neg (by omega), List.take_of_length_le (by omega)]
  | j + 1, i, k, hi, hk => by
    obtain ⟨k, rfl⟩ : ∃ m, k = m + 1 := ⟨k - 1, by omega⟩
    have e3 : wrap64 ((i : Int) + 1) = ((i + 1 : Nat) : Int) := by unfold wrap64; omega
    have e4 : (acc ++ (l.take i).flatMap wd).length + (wd (rd l i)).length < 140737488355328 := by
      rw [List.length_append, flat_len, List.length_take]
      simp only [wd, List.length_cons, List.length_nil]
      omega
    simp only [budwoodref03_Words.l0]
    rw [if_pos (by omega), if_pos (by omega), rword_f, Option.bind_some, if_pos e4, e3, List.append_assoc, ← take_flat l i (by omega)]
    exact rwords_l0 l acc hl j (i + 1) k (by omega) (by omega)
theorem rwords_up (l : List Int) (hl : l.length * 4 ≤ 140737488351232) {k : Nat} (hk : l.length + 7 ≤ k) : budwoodref03_Words.f k l = some (wds l) := by
  have := num_len ((l.length : Int) % 4294967296)
  unfold budwoodref03_Words.f
  rw [rvar_up _ (by omega) (by omega) (by omega), Option.bind_some]
  have h := rwords_l0 l (num ((l.length : Int) % 4294967296)) (by omega) l.length 0 k (by omega) (by omega)
  simpa [wds] using h
end Go.Proofs.Ytglcbaellbhogaa.Pure4
