/- The document lays: in plain Lean. -/
import Derived.Test.YtkoimdgpicmakaaZPu
import Derived.Test.YtkoimdgpicmakaaZPr
import Derived.Test.YtkoimdgpicmakaaZIn
import Derived.Test.YtkoimdgpicmakaaZPs
namespace Go.Proofs.Ytkoimdgpicmakaa.Pure2
open Go.RowKit Go.Proofs.Ytkoimdgpicmakaa Go.Proofs.Ytkoimdgpicmakaa.Reader Go.Proofs.Ytkoimdgpicmakaa.RefR Go.Proofs.Ytkoimdgpicmakaa.Pure1 Go.Proofs.Ytkoimdgpicmakaa.PB Go.Proofs.YtkoimdgpicmakaaW.PrintWords
set_option linter.unusedVariables false
theorem rvar_l0 (d : Nat) : ∀ (n : Int) (acc : List Int) (k : Nat), 0 ≤ n → n < 4294967296 → n < 128 ^ (d + 1) → acc.length + d < 140737488355328 → d < k → budwoodref03_Var.l0 k n acc = some (acc ++ vb d n) := by
  induction d with
  | zero =>
    intro n acc k h0 h00 h1 h2 h3
    obtain ⟨k, rfl⟩ : ∃ m, k = m + 1 := ⟨k - 1, by omega⟩
    simp only [budwoodref03_Var.l0, vb]
    rw [if_neg (by omega), if_pos (by omega), Int.emod_eq_of_lt h0 (by omega)]
  | succ d ih =>
    intro n acc k h0 h00 h1 h2 h3
    obtain ⟨k, rfl⟩ : ∃ m, k = m + 1 := ⟨k - 1, by omega⟩
    simp only [budwoodref03_Var.l0, vb]
    by_cases h : 128 ≤ n
    · rw [if_pos h, if_pos (by omega), if_pos h, Int.tdiv_eq_ediv_of_nonneg h0, Int.tmod_eq_emod_of_nonneg h0, Int.emod_eq_of_lt (a := n / 128) (by omega) (by omega), ih (n / 128) _ k (by omega) (by omega) (div128 h1) (by simp; omega) (by omega)]
      rw [show (n % 128 + 128) % 256 = n % 128 + 128 from by omega]
      simp
    · rw [if_neg h, if_pos (by omega), if_neg h, Int.emod_eq_of_lt h0 (by omega)]
theorem rvar_f (n : Int) (h0 : 0 ≤ n) (h1 : n < 4294967296) : budwoodref03_Var.f 5 n = some (num n) := by
  have h := rvar_l0 4 n [] 5 h0 h1 (p5 h1) (by simp) (by omega)
  rw [List.nil_append] at h
  exact h
end Go.Proofs.Ytkoimdgpicmakaa.Pure2
namespace Go.Proofs.Ytkoimdgpicmakaa.Pure4
open Go.RowKit Go.Proofs.Ytkoimdgpicmakaa Go.Proofs.Ytkoimdgpicmakaa.PB Go.Proofs.Ytkoimdgpicmakaa.Pure2 Go.Proofs.YtkoimdgpicmakaaW.PrintWords
set_option linter.unusedVariables false
theorem rword_f (n : Int) : budwoodref03_Word.f n = some (wd n) := rfl
theorem rvar_up (n : Int) (h0 : 0 ≤ n) (h1 : n < 4294967296) {k : Nat} (hk : 5 ≤ k) : budwoodref03_Var.f k n = some (num n) := at_rounds (g := fun k => budwoodref03_Var.f k n) (budwoodref03_Var.mono n) hk (rvar_f n h0 h1)
theorem rtext_up (s : ByteArray) (hs : s.size ≤ 140737488351232) {k : Nat} (hk : 5 ≤ k) : budwoodref03_Text.f k s = some (txt s) := by
  have := num_len ((s.size : Int) % 4294967296)
  unfold budwoodref03_Text.f
  rw [rvar_up _ (by omega) (by omega) hk, Option.bind_some, if_pos (by omega)]
  rfl
theorem rwords_l0 (l acc : List Int) (hl : acc.length + l.length * 4 < 140737488355328) : ∀ (j i k : Nat), i + j = l.length → j + 6 < k → budwoodref03_Words.l0 k l (acc ++ (l.take i).flatMap wd) (i : Int) = some (acc ++ l.flatMap wd)
  | 0, i, k, hi, hk => by
    obtain ⟨k, rfl⟩ : ∃ m, k = m + 1 := ⟨k - 1, by omega⟩
    simp only [budwoodref03_Words.l0]
    rw [if_neg (by omega), List.take_of_length_le (by omega)]
  | j + 1, i, k, hi, hk => by
    obtain ⟨k, rfl⟩ : ∃ m, k = m + 1 := ⟨k - 1, by omega⟩
    have e3 : wrap64 ((i : Int) + 1) = ((i + 1 : Nat) : Int) := by unfold wrap64; omega
    have e4 : (acc ++ (l.take i).flatMap wd).length + (wd (rd l i)).length < 140737488355328 := by
      rw [List.length_append, flat_len, List.length_take]
      simp only [wd, List.length_cons, List.length_nil]
      omega
    simp only [budwoodref03_Words.l0]
    rw [if_pos (by omega), if_pos (by omega), rword_f, Option.bind_some, if_pos e4, e3, List.append_assoc, ← take_flat l i (by omega)]
    exact rwords_l0 l acc hl j (i + 1) k (by omega) (by omega)
theorem rwords_up (l : List Int) (hl : l.length * 4 ≤ 140737488351232) {k : Nat} (hk : l.length + 7 ≤ k) : budwoodref03_Words.f k l = some (wds l) := by
  have := num_len ((l.length : Int) % 4294967296)
  unfold budwoodref03_Words.f
  rw [rvar_up _ (by omega) (by omega) (by omega), Option.bind_some]
  have h := rwords_l0 l (num ((l.length : Int) % 4294967296)) (by omega) l.length 0 k (by omega) (by omega)
  simpa [wds] using h
end Go.Proofs.Ytkoimdgpicmakaa.Pure4
namespace Go.Proofs.Ytkoimdgpicmakaa.Inv
open Go.Proofs.Ytkoimdgpicmakaa.Reader Go.Proofs.Ytkoimdgpicmakaa.Pure1 Go.Proofs.Ytkoimdgpicmakaa.Pure2 Go.Proofs.Ytkoimdgpicmakaa.Pure4 Go.Proofs.Ytkoimdgpicmakaa.Ob
open Go.RowKit Go.Proofs.YtkoimdgpicmakaaW.PrintWords Go.Proofs.YtkoimdgpicmakaaW.PrintLast Go.Proofs.Ytkoimdgpicmakaa.Wm Go.Proofs.Ytkoimdgpicmakaa.PB
set_option linter.unusedVariables false
set_option linter.unusedSimpArgs false
theorem rS_l0 (l0 l1 : List ByteArray) (hl : l0.length = l1.length) (hm : l0.length ≤ 1000000000) : ∀ (n i k : Nat), l0.length - i = n → i ≤ l0.length → n < k → budwoodref10_SameTexts.l0 k l0 l1 (i : Int) = some (decide (l0.drop i = l1.drop i))
  | n, i, 0, _, _, hk => by omega
  | n, i, k + 1, hn, hi, hk => by
    unfold budwoodref10_SameTexts.l0
    by_cases h : i < l0.length
    · have h' : i < l1.length := by omega
      rw [if_pos (by omega), if_pos (by omega), if_pos (by omega)]
      have hd0 : l0.drop i = l0[i] :: l0.drop (i + 1) := List.drop_eq_getElem_cons h
      have hd1 : l1.drop i = l1[i] :: l1.drop (i + 1) := List.drop_eq_getElem_cons h'
      have e0 : rdOf ByteArray.empty l0 (i : Int) = l0[i] := by simp [rdOf, h]
      have e1 : rdOf ByteArray.empty l1 (i : Int) = l1[i] := by simp [rdOf, h']
      rw [e0, e1]
      by_cases hx : l0[i] = l1[i]
      · rw [if_pos (by rw [hx]), w64 i (by omega), rS_l0 l0 l1 hl hm (n - 1) (i + 1) k (by omega) (by omega) (by omega)]
        congr 1
        apply decide_eq_decide.2
        constructor
        · intro h1; rw [hd0, hd1, hx, h1]
        · intro h1; rw [hd0, hd1] at h1; exact (List.cons.inj h1).2
      · have hx' : ¬ l0[i].toList = l1[i].toList := fun e => hx (by
          apply ByteArray.ext
          apply Array.ext'
          rw [ByteArray.toList_eq, ByteArray.toList_eq] at e
          exact e)
        rw [if_neg hx']
        congr 1
        exact (decide_eq_false (fun h1 => by rw [hd0, hd1] at h1; exact hx (List.cons.inj h1).1)).symm
    · rw [if_neg (by omega), List.drop_of_length_le (by omega), List.drop_of_length_le (by omega)]
      simp
theorem rU_l0 (l0 l1 : List Int) (hl : l0.length = l1.length) (hm : l0.length ≤ 1000000000) : ∀ (n i k : Nat), l0.length - i = n → i ≤ l0.length → n < k → budwoodref10_SameWords.l0 k l0 l1 (i : Int) = some (decide (l0.drop i = l1.drop i))
  | n, i, 0, _, _, hk => by omega
  | n, i, k + 1, hn, hi, hk => by
    unfold budwoodref10_SameWords.l0
    by_cases h : i < l0.length
    · have h' : i < l1.length := by omega
      rw [if_pos (by omega), if_pos (by omega), if_pos (by omega)]
      have hd0 : l0.drop i = l0[i] :: l0.drop (i + 1) := List.drop_eq_getElem_cons h
      have hd1 : l1.drop i = l1[i] :: l1.drop (i + 1) := List.drop_eq_getElem_cons h'
      have e0 : rd l0 (i : Int) = l0[i] := by simp [rd, h]
      have e1 : rd l1 (i : Int) = l1[i] := by simp [rd, h']
      rw [e0, e1]
      by_cases hx : l0[i] = l1[i]
      · rw [if_pos hx, w64 i (by omega), rU_l0 l0 l1 hl hm (n - 1) (i + 1) k (by omega) (by omega) (by omega)]
        congr 1
        apply decide_eq_decide.2
        constructor
        · intro h1; rw [hd0, hd1, hx, h1]
        · intro h1; rw [hd0, hd1] at h1; exact (List.cons.inj h1).2
      · rw [if_neg hx]
        congr 1
        exact (decide_eq_false (fun h1 => by rw [hd0, hd1] at h1; exact hx (List.cons.inj h1).1)).symm
    · rw [if_neg (by omega), List.drop_of_length_le (by omega), List.drop_of_length_le (by omega)]
      simp
theorem rR_l0 (nm : ByteArray) (ex im : List ByteArray) (co da : List Int) (nm' : ByteArray) (ex' im' : List ByteArray) (co' da' : List Int) (l0 l1 : List S50) (hl : l0.length = l1.length) (hm : l0.length ≤ 1000000000) : ∀ (n i k : Nat), l0.length - i = n → i ≤ l0.length → n < k → budwoodref10_Same.l0 k (i : Int) nm ex im co da l0 nm' ex' im' co' da' l1 = some (decide (l0.drop i = l1.drop i))
  | n, i, 0, _, _, hk => by omega
  | n, i, k + 1, hn, hi, hk => by
    unfold budwoodref10_Same.l0
    by_cases h : i < l0.length
    · have h' : i < l1.length := by omega
      rw [if_pos (by omega), if_pos (by omega), if_pos (by omega)]
      have hd0 : l0.drop i = l0[i] :: l0.drop (i + 1) := List.drop_eq_getElem_cons h
      have hd1 : l1.drop i = l1[i] :: l1.drop (i + 1) := List.drop_eq_getElem_cons h'
      have e0 : rd_T50 l0 (i : Int) = l0[i] := by simp [rd_T50, h]
      have e1 : rd_T50 l1 (i : Int) = l1[i] := by simp [rd_T50, h']
      rw [e0, e1]
      by_cases hx : l0[i] = l1[i]
      · rw [if_neg (by rw [hx]; simp), w64 i (by omega), rR_l0 nm ex im co da nm' ex' im' co' da' l0 l1 hl hm (n - 1) (i + 1) k (by omega) (by omega) (by omega)]
        congr 1
        apply decide_eq_decide.2
        constructor
        · intro h1; rw [hd0, hd1, hx, h1]
        · intro h1; rw [hd0, hd1] at h1; exact (List.cons.inj h1).2
      · have hx' : (!(l0[i].f0 == l1[i].f0) || (!(l0[i].f1 == l1[i].f1) || !(l0[i].f2 == l1[i].f2))) = true := by
          cases hc : (!(l0[i].f0 == l1[i].f0) || (!(l0[i].f1 == l1[i].f1) || !(l0[i].f2 == l1[i].f2))) with
          | true => rfl
          | false =>
            exfalso
            simp only [Bool.or_eq_false_iff, Bool.not_eq_false', beq_iff_eq] at hc
            apply hx
            rcases hy : l0[i] with ⟨a, b, c⟩
            rcases hz : l1[i] with ⟨a', b', c'⟩
            rw [hy, hz] at hc
            simp only at hc
            rw [hc.1, hc.2.1, hc.2.2]
        rw [if_pos hx']
        congr 1
        exact (decide_eq_false (fun h1 => by rw [hd0, hd1] at h1; exact hx (List.cons.inj h1).1)).symm
    · rw [if_neg (by omega), List.drop_of_length_le (by omega), List.drop_of_length_le (by omega)]
      simp
theorem rS_f (l0 l1 : List ByteArray) (hm : l0.length ≤ 1000000000) {k : Nat} (hk : l0.length < k) : budwoodref10_SameTexts.f k l0 l1 = some (decide (l0 = l1)) := by
  unfold budwoodref10_SameTexts.f
  by_cases hl : l0.length = l1.length
  · rw [if_pos (by rw [hl])]
    have := rS_l0 l0 l1 hl hm l0.length 0 k (by omega) (by omega) hk
    simpa using this
  · rw [if_neg (by omega)]
    have : ¬ l0 = l1 := fun e => hl (by rw [e])
    simp [this]
theorem rU_f (l0 l1 : List Int) (hm : l0.length ≤ 1000000000) {k : Nat} (hk : l0.length < k) : budwoodref10_SameWords.f k l0 l1 = some (decide (l0 = l1)) := by
  unfold budwoodref10_SameWords.f
  by_cases hl : l0.length = l1.length
  · rw [if_pos (by rw [hl])]
    have := rU_l0 l0 l1 hl hm l0.length 0 k (by omega) (by omega) hk
    simpa using this
  · rw [if_neg (by omega)]
    have : ¬ l0 = l1 := fun e => hl (by rw [e])
    simp [this]
theorem rj_true (k : Nat) (nm : ByteArray) (ex im : List ByteArray) (co da : List Int) (re : List S50) (nm' : ByteArray) (ex' im' : List ByteArray) (co' da' : List Int) (re' : List S50) : budwoodref10_Same.j0 (k + 1) true nm ex im co da re nm' ex' im' co' da' re' = some false := by
  rw [budwoodref10_Same.j0]
  rw [if_pos rfl]
theorem rsame_f {nm nm' : ByteArray} {ex im ex' im' : List ByteArray} {co da co' da' : List Int} {re re' : List S50} {k : Nat} (h1 : ex.length ≤ 1000000) (h2 : im.length ≤ 1000000) (h3 : co.length ≤ 1000000) (h4 : da.length ≤ 1000000) (h5 : re.length ≤ 1000000) (hk : 1000000 < k) :
    budwoodref10_Same.f (k + 1) nm ex im co da re nm' ex' im' co' da' re' = some (sm nm ex im co da re nm' ex' im' co' da' re') := by
  unfold budwoodref10_Same.f sm
  by_cases e0 : nm = nm'
  · rw [if_pos (by rw [e0]), rS_f ex ex' (by omega) (by omega), rS_f im im' (by omega) (by omega), rU_f co co' (by omega) (by omega), rU_f da da' (by omega) (by omega)]
    simp only [Option.bind_some, rj_true]
    by_cases e1 : ex = ex'
    · by_cases e2 : im = im'
      · by_cases e3 : co = co'
        · by_cases e4 : da = da'
          · rw [if_pos (by simpa using e1), if_pos (by simpa using e2), if_pos (by simpa using e3), if_pos (by simpa using e4)]
            by_cases hl : re.length = re'.length
            · have hb : ((re.length : Int) != (re'.length : Int)) = false := by simp [hl]
              rw [hb]
              rw [budwoodref10_Same.j0]
              rw [if_neg (by decide)]
              have := rR_l0 nm ex im co da nm' ex' im' co' da' re re' hl (by omega) re.length 0 k (by omega) (by omega) (by omega)
              rw [show (0 : Int) = ((0 : Nat) : Int) from rfl, this]
              simp [e0, e1, e2, e3, e4]
            · have hb : ((re.length : Int) != (re'.length : Int)) = true := by simp; omega
              have hne : ¬ re = re' := fun e => hl (by rw [e])
              rw [hb, rj_true]
              simp [e0, e1, e2, e3, e4, hne]
          · rw [if_pos (by simpa using e1), if_pos (by simpa using e2), if_pos (by simpa using e3), if_neg (by simpa using e4)]
            simp [e0, e1, e2, e3, e4]
        · rw [if_pos (by simpa using e1), if_pos (by simpa using e2), if_neg (by simpa using e3)]
          simp [e0, e1, e2, e3]
      · rw [if_pos (by simpa using e1), if_neg (by simpa using e2)]
        simp [e0, e1, e2]
    · rw [if_neg (by simpa using e1)]
      simp [e0, e1]
  · have hx : ¬ nm.toList = nm'.toList := fun e => e0 (by
      apply ByteArray.ext
      apply Array.ext'
      rw [ByteArray.toList_eq, ByteArray.toList_eq] at e
      exact e)
    rw [if_neg hx, rj_true]
    simp [e0]
theorem rlong_l0 (l : List ByteArray) (hm : l.length ≤ 1000000000) : ∀ (n i k : Nat), l.length - i = n → i ≤ l.length → n < k → budwoodref10_long.l0 k l (i : Int) = some ((l.drop i).any longS)
  | n, i, 0, _, _, hk => by omega
  | n, i, k + 1, hn, hi, hk => by
    unfold budwoodref10_long.l0
    by_cases h : i < l.length
    · have hd : l.drop i = l[i] :: l.drop (i + 1) := List.drop_eq_getElem_cons h
      have e0 : rdOf ByteArray.empty l (i : Int) = l[i] := by simp [rdOf, h]
      rw [if_pos (by omega), if_pos (by omega), e0, hd, List.any_cons]
      by_cases hx : (l[i].size : Int) > 96
      · rw [if_pos hx, show longS l[i] = true from decide_eq_true hx, Bool.true_or]
      · rw [if_neg hx, show longS l[i] = false from decide_eq_false hx, Bool.false_or, w64 i (by omega), rlong_l0 l hm (n - 1) (i + 1) k (by omega) (by omega) (by omega)]
    · rw [if_neg (by omega), List.drop_of_length_le (by omega)]
      rfl
theorem rlong_f (l : List ByteArray) (hm : l.length ≤ 1000000000) {k : Nat} (hk : l.length < k) : budwoodref10_long.f k l = some (l.any longS) := by
  have := rlong_l0 l hm l.length 0 k (by omega) (by omega) hk
  simpa [budwoodref10_long.f] using this
theorem rchk_l0 (nm : ByteArray) (ex im : List ByteArray) (co da : List Int) (re : List S50) (hm : re.length ≤ 1000000000) : ∀ (n i k : Nat), re.length - i = n → i ≤ re.length → n < k → budwoodref10_Check.l0 k (i : Int) nm ex im co da re = some (if (re.drop i).any badR = true then 2 else 0)
  | n, i, 0, _, _, hk => by omega
  | n, i, k + 1, hn, hi, hk => by
    unfold budwoodref10_Check.l0
    by_cases h : i < re.length
    · have hd : re.drop i = re[i] :: re.drop (i + 1) := List.drop_eq_getElem_cons h
      have e0 : rd_T50 re (i : Int) = re[i] := by simp [rd_T50, h]
      rw [if_pos (by omega), if_pos (by omega), e0, hd, List.any_cons]
      by_cases hx : re[i].f0 > 7
      · rw [if_pos hx, show badR re[i] = true from decide_eq_true hx, Bool.true_or, if_pos rfl]
      · rw [if_neg hx, show badR re[i] = false from decide_eq_false hx, Bool.false_or, w64 i (by omega), rchk_l0 nm ex im co da re hm (n - 1) (i + 1) k (by omega) (by omega) (by omega)]
    · rw [if_neg (by omega), List.drop_of_length_le (by omega)]
      rfl
theorem rchk_f (nm : ByteArray) (ex im : List ByteArray) (co da : List Int) (re : List S50) {k : Nat} (h1 : ex.length ≤ 1000000) (h2 : im.length ≤ 1000000) (h5 : re.length ≤ 1000000) (hk : 1000000 < k) : budwoodref10_Check.f (k + 2) nm ex im co da re = some (chk nm ex im co da re) := by
  have jt : budwoodref10_Check.j0 (k + 2) true nm ex im co da re = some 5 := by
    rw [budwoodref10_Check.j0]
    rw [if_pos rfl]
  have kt : ∀ b : Bool, budwoodref10_Check.j1 (k + 1) b nm ex im co da re = (if b = true then some 5 else budwoodref10_Check.l0 k 0 nm ex im co da re) := fun b => by rw [budwoodref10_Check.j1]
  have hl := rchk_l0 nm ex im co da re (by omega) re.length 0 k (by omega) (by omega) (by omega)
  rw [show ((0 : Nat) : Int) = 0 from rfl, List.drop_zero] at hl
  unfold budwoodref10_Check.f chk
  simp only [decide_eq_true_eq]
  by_cases a1 : (ex.length : Int) > 8
  · rw [if_pos a1, if_pos a1, jt]
  rw [if_neg a1, if_neg a1]
  by_cases a2 : (im.length : Int) > 16
  · rw [if_pos a2, if_pos a2, jt]
  rw [if_neg a2, if_neg a2]
  by_cases a3 : (co.length : Int) > 512
  · rw [if_pos a3, if_pos a3, jt]
    split <;> rfl
  rw [if_neg a3, if_neg a3]
  by_cases a4 : (da.length : Int) > 128
  · rw [if_pos a4, if_pos a4, jt]
    split <;> rfl
  rw [if_neg a4, if_neg a4]
  by_cases a5 : (re.length : Int) > 256
  · rw [if_pos a5, decide_eq_true a5, jt]
  rw [if_neg a5, decide_eq_false a5]
  rw [budwoodref10_Check.j0]
  rw [if_neg (by decide)]
  by_cases a6 : (nm.size : Int) > 96
  · rw [if_pos a6, kt, if_pos rfl, if_pos (show longS nm = true by unfold longS; simpa using a6)]
  rw [if_neg a6, if_neg (show ¬ longS nm = true by unfold longS; simpa using a6), rlong_f ex (by omega) (by omega), rlong_f im (by omega) (by omega)]
  simp only [Option.bind_some, kt]
  cases ex.any longS with
  | true => simp
  | false =>
    cases im.any longS with
    | true => simp
    | false => simp [hl]
theorem take_flatT (l : List ByteArray) (i : Nat) (h : i < l.length) : (l.take (i + 1)).flatMap txt = (l.take i).flatMap txt ++ txt (rdOf ByteArray.empty l i) := by
  rw [List.take_succ_eq_append_getElem h, List.flatMap_append]
  simp [rdOf, h]
theorem rtexts_l0 (l : List ByteArray) (hs : ∀ s ∈ l, s.size ≤ 96) (acc : List Int) (hl : acc.length + l.length * 101 < 140737488355328) : ∀ (j i k : Nat), i + j = l.length → j + 6 < k → budwoodref10_texts.l0 k l (acc ++ (l.take i).flatMap txt) (i : Int) = some (acc ++ l.flatMap txt)
  | 0, i, k, hi, hk => by
    obtain ⟨k, rfl⟩ : ∃ m, k = m + 1 := ⟨k - 1, by omega⟩
    simp only [budwoodref10_texts.l0]
    rw [if_neg (by omega), List.take_of_length_le (by omega)]
  | j + 1, i, k, hi, hk => by
    obtain ⟨k, rfl⟩ : ∃ m, k = m + 1 := ⟨k - 1, by omega⟩
    have e3 : wrap64 ((i : Int) + 1) = ((i + 1 : Nat) : Int) := by unfold wrap64; omega
    have hi' : i < l.length := by omega
    have er : rdOf ByteArray.empty l (i : Int) = l[i] := by simp [rdOf, hi']
    have hz : l[i].size ≤ 96 := hs _ (List.getElem_mem hi')
    have f1 := flat_le txt 101 (l.take i) (fun s h => txt_96 s (hs s (List.mem_of_mem_take h)))
    have f2 := txt_96 l[i] hz
    have e4 : (acc ++ (l.take i).flatMap txt).length + (txt l[i]).length < 140737488355328 := by
      rw [List.length_append]
      rw [List.length_take] at f1
      have : min i l.length ≤ l.length := Nat.min_le_right _ _
      omega
    simp only [budwoodref10_texts.l0]
    rw [if_pos (by omega), if_pos (by omega), rtext_up _ (by rw [er]; omega) (by omega), Option.bind_some, if_pos (by rw [er]; exact e4), e3, List.append_assoc, ← take_flatT l i (by omega)]
    exact rtexts_l0 l hs acc hl j (i + 1) k (by omega) (by omega)
theorem rtexts_up (l : List ByteArray) (hl : l.length ≤ 1000000) (hs : ∀ s ∈ l, s.size ≤ 96) {k : Nat} (hk : l.length + 7 ≤ k) : budwoodref10_texts.f k l = some (texts l) := by
  have := num_len (l.length : Int)
  unfold budwoodref10_texts.f
  rw [Int.emod_eq_of_lt (by omega) (by omega), rvar_up _ (by omega) (by omega) (by omega), Option.bind_some]
  have h := rtexts_l0 l hs (num (l.length : Int)) (by omega) l.length 0 k (by omega) (by omega)
  simpa [texts] using h
end Go.Proofs.Ytkoimdgpicmakaa.Inv
