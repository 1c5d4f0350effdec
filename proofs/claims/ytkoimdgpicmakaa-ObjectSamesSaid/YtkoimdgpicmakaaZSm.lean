/- Size and equality of modules (object.Same, the count of parts). -/
import Derived.Test.YtkoimdgpicmakaaZMo
import Derived.Test.YtkoimdgpicmakaaZPf
namespace Go.Proofs.Ytkoimdgpicmakaa.Inv
open Go.Proofs.Ytkoimdgpicmakaa.Reader Go.Proofs.Ytkoimdgpicmakaa.Pure1 Go.Proofs.Ytkoimdgpicmakaa.Pure2 Go.Proofs.Ytkoimdgpicmakaa.Pure4 Go.Proofs.Ytkoimdgpicmakaa.Ob
open Go.RowKit Go.Proofs.YtkoimdgpicmakaaW.PrintWords Go.Proofs.YtkoimdgpicmakaaW.PrintLast Go.Proofs.Ytkoimdgpicmakaa.Wm Go.Proofs.Ytkoimdgpicmakaa.PB
set_option linter.unusedVariables false
set_option linter.unusedSimpArgs false
/-- Lists of texts, of words, of relocs: compared one by one. -/
theorem eqS_l0 (l0 l1 : List ByteArray) (hl : l0.length = l1.length) (hm : l0.length ≤ 1000000000) : ∀ (n i k : Nat), l0.length - i = n → i ≤ l0.length → n < k → slices_Equal_string_string.l0 k l0 l1 (l0.length : Int) (i : Int) = some (decide (l0.drop i = l1.drop i))
  | n, i, 0, _, _, hk => by omega
  | n, i, k + 1, hn, hi, hk => by
    unfold slices_Equal_string_string.l0
    by_cases h : i < l0.length
    · have h' : i < l1.length := by omega
      rw [if_pos (by omega), if_pos (by omega), if_pos (by omega), if_pos (by omega)]
      have hd0 : l0.drop i = l0[i] :: l0.drop (i + 1) := List.drop_eq_getElem_cons h
      have hd1 : l1.drop i = l1[i] :: l1.drop (i + 1) := List.drop_eq_getElem_cons h'
      have e0 : rdOf ByteArray.empty l0 (i : Int) = l0[i] := by simp [rdOf, h]
      have e1 : rdOf ByteArray.empty l1 (i : Int) = l1[i] := by simp [rdOf, h']
      rw [e0, e1]
      by_cases hx : l0[i] = l1[i]
      · rw [if_pos (by rw [hx]), w64 i (by omega), eqS_l0 l0 l1 hl hm (n - 1) (i + 1) k (by omega) (by omega) (by omega)]
        congr 1
        apply decide_eq_decide.2
        constructor
        · intro h1; rw [hd0, hd1, hx, h1]
        · intro h1; rw [hd0, hd1] at h1; exact (List.cons.inj h1).2
      · have hx' : ¬ l0[i].toList = l1[i].toList := fun e => hx (by
          apply ByteArray.ext
          apply Array.ext'
          have h1 := e
          rw [ByteArray.toList_eq, ByteArray.toList_eq] at h1
          exact h1)
        rw [if_neg hx']
        congr 1
        exact (decide_eq_false (fun h1 => by rw [hd0, hd1] at h1; exact hx (List.cons.inj h1).1)).symm
    · rw [if_neg (by omega), List.drop_of_length_le (by omega), List.drop_of_length_le (by omega)]
      simp
theorem eqS_f (l0 l1 : List ByteArray) (hm : l0.length ≤ 1000000000) {k : Nat} (hk : l0.length < k) : slices_Equal_string_string.f k l0 l1 = some (decide (l0 = l1)) := by
  unfold slices_Equal_string_string.f
  by_cases hl : l0.length = l1.length
  · rw [if_pos (by rw [hl])]
    have := eqS_l0 l0 l1 hl hm l0.length 0 k (by omega) (by omega) hk
    simpa using this
  · rw [if_neg (by omega)]
    have : ¬ l0 = l1 := fun e => hl (by rw [e])
    simp [this]
theorem eqU_l0 (l0 l1 : List Int) (hl : l0.length = l1.length) (hm : l0.length ≤ 1000000000) : ∀ (n i k : Nat), l0.length - i = n → i ≤ l0.length → n < k → slices_Equal_uint32_uint32.l0 k l0 l1 (l0.length : Int) (i : Int) = some (decide (l0.drop i = l1.drop i))
  | n, i, 0, _, _, hk => by omega
  | n, i, k + 1, hn, hi, hk => by
    unfold slices_Equal_uint32_uint32.l0
    by_cases h : i < l0.length
    · have h' : i < l1.length := by omega
      rw [if_pos (by omega), if_pos (by omega), if_pos (by omega), if_pos (by omega)]
      have hd0 : l0.drop i = l0[i] :: l0.drop (i + 1) := List.drop_eq_getElem_cons h
      have hd1 : l1.drop i = l1[i] :: l1.drop (i + 1) := List.drop_eq_getElem_cons h'
      have e0 : rd l0 (i : Int) = l0[i] := by simp [rd, h]
      have e1 : rd l1 (i : Int) = l1[i] := by simp [rd, h']
      rw [e0, e1]
      by_cases hx : l0[i] = l1[i]
      · rw [if_pos hx, w64 i (by omega), eqU_l0 l0 l1 hl hm (n - 1) (i + 1) k (by omega) (by omega) (by omega)]
        congr 1
        apply decide_eq_decide.2
        constructor
        · intro h1; rw [hd0, hd1, hx, h1]
        · intro h1; rw [hd0, hd1] at h1; exact (List.cons.inj h1).2
      · rw [if_neg hx]
        congr 1
        exact (decide_eq_false (fun h1 => by rw [hd0, hd1] at h1; exact hx (List.cons.inj h1).1)).symm
    · rw [if_neg (by omega), List.drop_of_length_le (by omega), List.drop_of_length_le (by omega)]
      simp
theorem eqU_f (l0 l1 : List Int) (hm : l0.length ≤ 1000000000) {k : Nat} (hk : l0.length < k) : slices_Equal_uint32_uint32.f k l0 l1 = some (decide (l0 = l1)) := by
  unfold slices_Equal_uint32_uint32.f
  by_cases hl : l0.length = l1.length
  · rw [if_pos (by rw [hl])]
    have := eqU_l0 l0 l1 hl hm l0.length 0 k (by omega) (by omega) hk
    simpa using this
  · rw [if_neg (by omega)]
    have : ¬ l0 = l1 := fun e => hl (by rw [e])
    simp [this]
theorem eqR_l0 (l0 l1 : List S50) (hl : l0.length = l1.length) (hm : l0.length ≤ 1000000000) : ∀ (n i k : Nat), l0.length - i = n → i ≤ l0.length → n < k → api_Reloc_55.l0 k l0 l1 (l0.length : Int) (i : Int) = some (decide (l0.drop i = l1.drop i))
  | n, i, 0, _, _, hk => by omega
  | n, i, k + 1, hn, hi, hk => by
    unfold api_Reloc_55.l0
    by_cases h : i < l0.length
    · have h' : i < l1.length := by omega
      rw [if_pos (by omega), if_pos (by omega), if_pos (by omega), if_pos (by omega)]
      have hd0 : l0.drop i = l0[i] :: l0.drop (i + 1) := List.drop_eq_getElem_cons h
      have hd1 : l1.drop i = l1[i] :: l1.drop (i + 1) := List.drop_eq_getElem_cons h'
      have e0 : rd_T50 l0 (i : Int) = l0[i] := by simp [rd_T50, h]
      have e1 : rd_T50 l1 (i : Int) = l1[i] := by simp [rd_T50, h']
      rw [e0, e1]
      by_cases hx : l0[i] = l1[i]
      · rw [if_neg (by rw [hx]; simp), w64 i (by omega), eqR_l0 l0 l1 hl hm (n - 1) (i + 1) k (by omega) (by omega) (by omega)]
        congr 1
        apply decide_eq_decide.2
        constructor
        · intro h1; rw [hd0, hd1, hx, h1]
        · intro h1; rw [hd0, hd1] at h1; exact (List.cons.inj h1).2
      · have hx' : (!(l0[i].f0 == l1[i].f0) || (!(l0[i].f1 == l1[i].f1) || !(l0[i].f2 == l1[i].f2))) = true := by
          cases hc : (!(l0[i].f0 == l1[i].f0) || (!(l0[i].f1 == l1[i].f1) || !(l0[i].f2 == l1[i].f2))) with
          | true => rfl
          | false =>
            exfalso
            simp only [Bool.or_eq_false_iff, Bool.not_eq_false', beq_iff_eq] at hc
            apply hx
            rcases hy : l0[i] with ⟨a, b, c⟩
            rcases hz : l1[i] with ⟨a', b', c'⟩
            rw [hy, hz] at hc
            simp only at hc
            rw [hc.1, hc.2.1, hc.2.2]
        rw [if_pos hx']
        congr 1
        exact (decide_eq_false (fun h1 => by rw [hd0, hd1] at h1; exact hx (List.cons.inj h1).1)).symm
    · rw [if_neg (by omega), List.drop_of_length_le (by omega), List.drop_of_length_le (by omega)]
      simp
theorem eqR_f (l0 l1 : List S50) (hm : l0.length ≤ 1000000000) {k : Nat} (hk : l0.length < k) : api_Reloc_55.f k l0 l1 = some (decide (l0 = l1)) := by
  unfold api_Reloc_55.f
  by_cases hl : l0.length = l1.length
  · rw [if_pos (by rw [hl])]
    have := eqR_l0 l0 l1 hl hm l0.length 0 k (by omega) (by omega) hk
    simpa using this
  · rw [if_neg (by omega)]
    have : ¬ l0 = l1 := fun e => hl (by rw [e])
    simp [this]
theorem same_f {nm nm' : ByteArray} {ex im ex' im' : List ByteArray} {co da co' da' : List Int} {re re' : List S50} {k : Nat} (h1 : ex.length ≤ 1000000) (h2 : im.length ≤ 1000000) (h3 : co.length ≤ 1000000) (h4 : da.length ≤ 1000000) (h5 : re.length ≤ 1000000) (hk : 1000000 < k) :
    object_Same.f k nm ex im co da re nm' ex' im' co' da' re' = some (sm nm ex im co da re nm' ex' im' co' da' re') := by
  unfold object_Same.f sm
  by_cases e0 : nm = nm'
  · rw [if_pos (by rw [e0]), eqS_f ex ex' (by omega) (by omega), eqS_f im im' (by omega) (by omega), eqU_f co co' (by omega) (by omega), eqU_f da da' (by omega) (by omega), eqR_f re re' (by omega) (by omega)]
    simp only [Option.bind_some]
    by_cases e1 : ex = ex'
    · by_cases e2 : im = im'
      · by_cases e3 : co = co'
        · by_cases e4 : da = da'
          · simp [e0, e1, e2, e3, e4]
          · simp [e0, e1, e2, e3, e4]
        · simp [e0, e1, e2, e3]
      · simp [e0, e1, e2]
    · simp [e0, e1]
  · have hx : ¬ nm.toList = nm'.toList := fun e => e0 (by
      apply ByteArray.ext
      apply Array.ext'
      rw [ByteArray.toList_eq, ByteArray.toList_eq] at e
      exact e)
    rw [if_neg hx]
    simp [e0]
theorem size_step (k : Nat) (s x : Int) (l : List Int) (i : Nat) (hi : i < 4) (hl : l.length = 4) (hx : mn (rd l (i : Int)) 65536 = x) (hb : 0 ≤ x ∧ x ≤ 65536) (h0 : 0 ≤ s) (hs : s ≤ 65536) :
    budwoodref10_Size.l0 (k + 1) s l (i : Int) = budwoodref10_Size.l0 k (s + x) l ((i + 1 : Nat) : Int) := by
  show (if (i : Int) < 4 then _ else _) = _
  rw [if_pos (by omega), if_pos hs, if_pos (by omega), if_pos (by omega), w64 i (by omega), hx, show wrap64 (s + x) = s + x by unfold wrap64; omega]
theorem size_stop (k : Nat) (s : Int) (l : List Int) (i : Nat) (hs : i = 4 ∨ 65536 < s) : budwoodref10_Size.l0 (k + 1) s l (i : Int) = some s := by
  show (if (i : Int) < 4 then _ else _) = _
  rcases hs with rfl | hs
  · rw [if_neg (by omega)]
  · by_cases h : (i : Int) < 4
    · rw [if_pos h, if_neg (by omega)]
    · rw [if_neg h]
theorem mn_nat (n : Nat) : ∃ x : Int, mn (n : Int) 65536 = x ∧ 0 ≤ x ∧ x ≤ 65536 ∧ (x ≤ 2000 → n ≤ 2000) := ⟨_, rfl, by unfold mn; split <;> omega, by unfold mn; split <;> omega, by unfold mn; split <;> omega⟩
/-- Few parts: each list is short. -/
theorem size_f (nm : ByteArray) (ex im : List ByteArray) (co da : List Int) (re : List S50) :
    ∃ n : Int, budwoodref10_Size.f 6 nm ex im co da re = some n ∧ (n ≤ 2000 → ex.length ≤ 2000 ∧ im.length ≤ 2000 ∧ co.length ≤ 2000 ∧ da.length ≤ 2000 ∧ re.length ≤ 2000) := by
  unfold budwoodref10_Size.f
  obtain ⟨x1, e1, b1, c1, d1⟩ := mn_nat im.length
  obtain ⟨x2, e2, b2, c2, d2⟩ := mn_nat co.length
  obtain ⟨x3, e3, b3, c3, d3⟩ := mn_nat da.length
  obtain ⟨x4, e4, b4, c4, d4⟩ := mn_nat re.length
  obtain ⟨l, hl⟩ : ∃ l : List Int, l = [(im.length : Int), (co.length : Int), (da.length : Int), (re.length : Int)] := ⟨_, rfl⟩
  rw [← hl]
  have r0 : rd l ((0 : Nat) : Int) = im.length := by rw [hl]; rfl
  have r1 : rd l ((1 : Nat) : Int) = co.length := by rw [hl]; rfl
  have r2 : rd l ((2 : Nat) : Int) = da.length := by rw [hl]; rfl
  have r3 : rd l ((3 : Nat) : Int) = re.length := by rw [hl]; rfl
  have h4 : l.length = 4 := by rw [hl]; rfl
  clear hl
  rw [show (0 : Int) = ((0 : Nat) : Int) from rfl]
  by_cases q0 : (ex.length : Int) ≤ 65536
  · rw [size_step 5 _ x1 l 0 (by decide) h4 (by rw [r0]; exact e1) ⟨b1, c1⟩ (by omega) q0]
    by_cases q1 : (ex.length : Int) + x1 ≤ 65536
    · rw [size_step 4 _ x2 l 1 (by decide) h4 (by rw [r1]; exact e2) ⟨b2, c2⟩ (by omega) q1]
      by_cases q2 : (ex.length : Int) + x1 + x2 ≤ 65536
      · rw [size_step 3 _ x3 l 2 (by decide) h4 (by rw [r2]; exact e3) ⟨b3, c3⟩ (by omega) q2]
        by_cases q3 : (ex.length : Int) + x1 + x2 + x3 ≤ 65536
        · rw [size_step 2 _ x4 l 3 (by decide) h4 (by rw [r3]; exact e4) ⟨b4, c4⟩ (by omega) q3, size_stop 1 _ l 4 (.inl rfl)]
          exact ⟨_, rfl, fun h => ⟨by omega, d1 (by omega), d2 (by omega), d3 (by omega), d4 (by omega)⟩⟩
        · rw [size_stop 2 _ l 3 (.inr (by omega))]
          exact ⟨_, rfl, fun h => by omega⟩
      · rw [size_stop 3 _ l 2 (.inr (by omega))]
        exact ⟨_, rfl, fun h => by omega⟩
    · rw [size_stop 4 _ l 1 (.inr (by omega))]
      exact ⟨_, rfl, fun h => by omega⟩
  · rw [size_stop 5 _ l 0 (.inr (by omega))]
    exact ⟨_, rfl, fun h => by omega⟩
end Go.Proofs.Ytkoimdgpicmakaa.Inv
namespace Go.Proofs.Ytkoimdgpicmakaa.Ob
open Go.Proofs.Ytkoimdgpicmakaa.Inv
open Go.RowKit Go.Proofs.Ytkoimdgpicmakaa.Sep Go.Proofs.YtkoimdgpicmakaaW.PrintWords Go.Proofs.YtkoimdgpicmakaaW.PrintLast Go.Proofs.Ytkoimdgpicmakaa.Wm Go.Proofs.Ytkoimdgpicmakaa.Ev Go.Proofs.Ytkoimdgpicmakaa.Ty Go.Proofs.Ytkoimdgpicmakaa.PB
set_option linter.unusedVariables false
set_option linter.unusedSimpArgs false
/-- How many parts (the document's count). -/
noncomputable def Mo.size (m : Mo) : Int := (budwoodref10_Size.f 6 m.nm m.ex m.im m.co m.da m.re).getD 0
theorem Mo.size_f (m : Mo) : budwoodref10_Size.f 6 m.nm m.ex m.im m.co m.da m.re = some m.size := by
  obtain ⟨n, h, _⟩ := Inv.size_f m.nm m.ex m.im m.co m.da m.re
  unfold Mo.size
  rw [h]
  rfl
theorem Mo.few {m : Mo} (h : m.size ≤ 2000) : m.Few := by
  obtain ⟨n, h1, h2⟩ := Inv.size_f m.nm m.ex m.im m.co m.da m.re
  have e : m.size = n := by unfold Mo.size; rw [h1]; rfl
  have h3 := h2 (by omega)
  exact ⟨h3.1, h3.2.1, h3.2.2.1, h3.2.2.2.1, h3.2.2.2.2⟩
theorem size_mo (m : Mo) (A1 : Option Addr) (c1 : Nat) (A2 : Option Addr) (c2 : Nat) (A3 : Option Addr) (c3 : Nat) (A4 : Option Addr) (c4 : Nat) (A5 : Option Addr) (c5 : Nat) (w : World) (h : Md w m.nm A1 c1 m.ex A2 c2 m.im A3 c3 m.co A4 c4 m.da A5 c5 m.re) : Calls Try.prog 9 #[.agg #[.string m.nm, .slice A1 m.ex.length c1, .slice A2 m.im.length c2, .slice A3 m.co.length c3, .slice A4 m.da.length c4, .slice A5 m.re.length c5]] w fun z w' => z = .returned (.int .i64 m.size) ∧ Below w.heap.size w w' :=
  budwoodref10_Size.calls 6 m.nm A1 c1 m.ex A2 c2 m.im A3 c3 m.co A4 c4 m.da A5 c5 m.re m.size w h.r1 h.l1 h.r2 h.l2 h.r3 h.l3 h.r4 h.l4 h.r5 h.l5 m.size_f
theorem same_mo (m n : Mo) (Aa1 : Option Addr) (ca1 : Nat) (Aa2 : Option Addr) (ca2 : Nat) (Aa3 : Option Addr) (ca3 : Nat) (Aa4 : Option Addr) (ca4 : Nat) (Aa5 : Option Addr) (ca5 : Nat) (Ab1 : Option Addr) (cb1 : Nat) (Ab2 : Option Addr) (cb2 : Nat) (Ab3 : Option Addr) (cb3 : Nat) (Ab4 : Option Addr) (cb4 : Nat) (Ab5 : Option Addr) (cb5 : Nat) (w : World) (h : Md w m.nm Aa1 ca1 m.ex Aa2 ca2 m.im Aa3 ca3 m.co Aa4 ca4 m.da Aa5 ca5 m.re) (h' : Md w n.nm Ab1 cb1 n.ex Ab2 cb2 n.im Ab3 cb3 n.co Ab4 cb4 n.da Ab5 cb5 n.re) (few : m.Few) (r : Bool) (hr : m.same n = r) : Calls Try.prog 19 #[.agg #[.string m.nm, .slice Aa1 m.ex.length ca1, .slice Aa2 m.im.length ca2, .slice Aa3 m.co.length ca3, .slice Aa4 m.da.length ca4, .slice Aa5 m.re.length ca5], .agg #[.string n.nm, .slice Ab1 n.ex.length cb1, .slice Ab2 n.im.length cb2, .slice Ab3 n.co.length cb3, .slice Ab4 n.da.length cb4, .slice Ab5 n.re.length cb5]] w fun z w' => z = .returned (.bool r) ∧ Below w.heap.size w w' :=
  object_Same.calls 1000001 m.nm Aa1 ca1 m.ex Aa2 ca2 m.im Aa3 ca3 m.co Aa4 ca4 m.da Aa5 ca5 m.re n.nm Ab1 cb1 n.ex Ab2 cb2 n.im Ab3 cb3 n.co Ab4 cb4 n.da Ab5 cb5 n.re r w h.r1 h.l1 h.r2 h.l2 h.r3 h.l3 h.r4 h.l4 h.r5 h.l5 h'.r1 h'.l1 h'.r2 h'.l2 h'.r3 h'.l3 h'.r4 h'.l4 h'.r5 h'.l5 ((same_f (by have := few.ex; omega) (by have := few.im; omega) (by have := few.co; omega) (by have := few.da; omega) (by have := few.re; omega) (by decide)).trans (by rw [← hr]; rfl))
end Go.Proofs.Ytkoimdgpicmakaa.Ob
