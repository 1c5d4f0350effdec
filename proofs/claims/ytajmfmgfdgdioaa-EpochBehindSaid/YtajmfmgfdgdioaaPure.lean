/- The plain laws: the least epoch, what has passed, who is told. -/
import Derived.Test.YtajmfmgfdgdioaaPCx1
import Derived.Test.YtajmfmgfdgdioaaPCx2
import Derived.Test.YtajmfmgfdgdioaaPCx3
namespace Go.Proofs.Ytajmfmgfdgdioaa.Pure
open Go.RowKit Go.Proofs.YtajmfmgfdgdioaaW.PrintWords Go.Proofs.YtajmfmgfdgdioaaW.PrintLast Go.Proofs.YtajmfmgfdgdioaaW.PrintMore Go.Proofs.Ytajmfmgfdgdioaa.PC
set_option linter.unusedVariables false
set_option linter.unusedSimpArgs false
theorem w64 (i : Nat) (h : i < 9223372036854775807) : wrap64 ((i : Int) + 1) = ((i + 1 : Nat) : Int) := by unfold wrap64; omega
theorem drop_at {α : Type} (xs : List α) (z : α) (i : Nat) (h : i < xs.length) : xs.drop i = xs.getD i z :: xs.drop (i + 1) := by
  rw [List.drop_eq_getElem_cons h, List.getD_eq_getElem?_getD, List.getElem?_eq_getElem h]; rfl
/-- The least epoch of those that have one. -/
def lst : List S59 → Int → Bool → Int × Bool
  | [], a, b => (a, b)
  | h :: r, a, b => if h.f3 = 0 then (if b = true then lst r (mn a h.f4) b else lst r h.f4 true) else lst r a b
theorem mn_self (a : Int) : mn a a = a := by unfold mn; split <;> rfl
theorem least_l0 (hs : List S59) (hm : hs.length ≤ 9223372036854775807) : ∀ (n i k : Nat) (a : Int) (b : Bool), hs.length - i = n → i ≤ hs.length → n < k → epoch_Least.l0 k a b hs (hs.length : Int) (i : Int) = some (lst (hs.drop i) a b)
  | n, i, 0, a, b, _, _, hk => by omega
  | n, i, k + 1, a, b, hn, hi, hk => by
    unfold epoch_Least.l0
    by_cases hl : i < hs.length
    · rw [if_pos (by omega), if_pos (by omega), if_pos (by omega), drop_at hs z59 i hl, w64 i (by omega)]
      have e : rd_T59 hs (i : Int) = hs.getD i z59 := by simp [rd_T59]
      rw [e]
      have ih := fun a b => least_l0 hs hm (n - 1) (i + 1) k a b (by omega) (by omega) (by omega)
      unfold lst
      simp only [ih, mn_self]
      split
      · split <;> rfl
      · rfl
    · rw [if_neg (by omega)]
      obtain rfl : i = hs.length := by omega
      rw [List.drop_length]; rfl
theorem least_f (hs : List S59) (hm : hs.length ≤ 9223372036854775807) (k : Nat) (hk : hs.length < k) : epoch_Least.f k hs = some (lst hs 0 false) := by
  have := least_l0 hs hm hs.length 0 k 0 false (by omega) (by omega) hk
  simpa [epoch_Least.f] using this
/-- Have all passed e? -/
def pas (hs : List S59) (e : Int) : Bool := hs.all (fun h => decide (h.f3 = 0 → ¬ h.f4 < e))
theorem lst_pas (e : Int) : ∀ (hs : List S59) (a : Int) (b : Bool), (if (lst hs a b).2 = true then decide ((lst hs a b).1 ≥ e) else true) = ((if b = true then decide (a ≥ e) else true) && pas hs e)
  | [], a, b => by simp [lst, pas]
  | h :: r, a, b => by
    have ih := lst_pas e r
    unfold lst
    rw [show pas (h :: r) e = (decide (h.f3 = 0 → ¬ h.f4 < e) && pas r e) from rfl]
    by_cases h0 : h.f3 = 0
    · rw [if_pos h0]
      by_cases hb : b = true
      · rw [if_pos hb, ih, if_pos hb, if_pos hb, ← Bool.and_assoc]
        congr 1
        rw [← Bool.decide_and]
        apply decide_eq_decide.2
        unfold mn
        split <;> constructor <;> intro h1 <;> (try simp only [h0, true_implies, forall_const]) <;> (try simp only [h0, true_implies, forall_const] at h1) <;> omega
      · rw [if_neg hb, ih, if_neg hb, if_pos rfl, Bool.true_and]
        congr 1
        apply decide_eq_decide.2
        constructor <;> intro h1 <;> (try simp only [h0, true_implies, forall_const]) <;> (try simp only [h0, true_implies, forall_const] at h1) <;> omega
    · rw [if_neg h0, ih]
      simp [h0]
theorem passed_f (hs : List S59) (hm : hs.length ≤ 9223372036854775807) (k : Nat) (hk : hs.length < k) (e : Int) : epoch_Passed.f k hs e = some (pas hs e) := by
  unfold epoch_Passed.f
  rw [least_f hs hm k hk]
  show (if (lst hs 0 false).2 = true then some (decide ((lst hs 0 false).1 ≥ e)) else some true) = some (pas hs e)
  rw [← apply_ite some, lst_pas]
  simp
theorem rpassed_l0 (hs : List S59) (e : Int) (hm : hs.length ≤ 9223372036854775807) : ∀ (n i k : Nat), hs.length - i = n → i ≤ hs.length → n < k → budwoodref17_Passed.l0 k hs e (i : Int) = some (pas (hs.drop i) e)
  | n, i, 0, _, _, hk => by omega
  | n, i, k + 1, hn, hi, hk => by
    unfold budwoodref17_Passed.l0
    by_cases hl : i < hs.length
    · rw [if_pos (by omega), if_pos (by omega), drop_at hs z59 i hl, w64 i (by omega)]
      have e1 : rd_T59 hs (i : Int) = hs.getD i z59 := by simp [rd_T59]
      rw [e1, rpassed_l0 hs e hm (n - 1) (i + 1) k (by omega) (by omega) (by omega)]
      rw [show pas (hs.getD i z59 :: hs.drop (i + 1)) e = (decide ((hs.getD i z59).f3 = 0 → ¬ (hs.getD i z59).f4 < e) && pas (hs.drop (i + 1)) e) from rfl]
      by_cases h0 : (hs.getD i z59).f3 = 0
      · rw [if_pos h0]
        by_cases h1 : (hs.getD i z59).f4 < e
        · rw [if_pos h1]; simp only [h0, h1, true_implies, not_true, decide_false, Bool.false_and, forall_const]
        · rw [if_neg h1]; simp only [h0, h1, true_implies, not_false_iff, decide_true, Bool.true_and, forall_const]
      · rw [if_neg h0]
        simp only [h0, false_implies, decide_true, Bool.true_and]
    · rw [if_neg (by omega)]
      obtain rfl : i = hs.length := by omega
      rw [List.drop_length]; rfl
theorem rpassed_f (hs : List S59) (hm : hs.length ≤ 9223372036854775807) (k : Nat) (hk : hs.length < k) (e : Int) : budwoodref17_Passed.f k hs e = some (pas hs e) := by
  have := rpassed_l0 hs e hm hs.length 0 k (by omega) (by omega) hk
  simpa [budwoodref17_Passed.f] using this
theorem rleast_l0 (hs : List S59) (hm : hs.length ≤ 9223372036854775807) : ∀ (n i k : Nat) (a : Int) (b : Bool), hs.length - i = n → i ≤ hs.length → n < k → budwoodref17_Least.l0 k hs a b (i : Int) = some (lst (hs.drop i) a b)
  | n, i, 0, a, b, _, _, hk => by omega
  | n, i, k + 1, a, b, hn, hi, hk => by
    unfold budwoodref17_Least.l0
    by_cases hl : i < hs.length
    · rw [if_pos (by omega), drop_at hs z59 i hl, w64 i (by omega)]
      have e : rd_T59 hs (i : Int) = hs.getD i z59 := by simp [rd_T59]
      rw [e]
      have ih := fun a b => rleast_l0 hs hm (n - 1) (i + 1) k a b (by omega) (by omega) (by omega)
      unfold lst
      rw [if_pos (show (0 : Int) ≤ (i : Int) by omega)]
      simp only [ih]
      by_cases h0 : (hs.getD i z59).f3 = 0
      · rw [if_pos h0, if_pos h0]
        by_cases hb : b = true
        · subst hb
          rw [if_pos rfl, if_pos rfl]
          unfold mn
          split <;> rfl
        · rw [if_neg hb, if_neg hb]
      · rw [if_neg h0, if_neg h0]
    · rw [if_neg (by omega)]
      obtain rfl : i = hs.length := by omega
      rw [List.drop_length]; rfl
theorem rleast_f (hs : List S59) (hm : hs.length ≤ 9223372036854775807) (k : Nat) (hk : hs.length < k) : budwoodref17_Least.f k hs = some (lst hs 0 false) := by
  have := rleast_l0 hs hm hs.length 0 k 0 false (by omega) (by omega) hk
  simpa [budwoodref17_Least.f] using this
theorem owners_l0 (ws : List S46) (hm : ws.length ≤ 1000000) : ∀ (n i k : Nat) (o : List Int), ws.length - i = n → i ≤ ws.length → n < k → o.length ≤ i → epoch_owners.l0 k o ws (ws.length : Int) (i : Int) = some (o ++ (ws.drop i).map (·.f0))
  | n, i, 0, o, _, _, hk, _ => by omega
  | n, i, k + 1, o, hn, hi, hk, ho => by
    unfold epoch_owners.l0
    by_cases hl : i < ws.length
    · rw [if_pos (by omega), if_pos (by omega), if_pos (by omega), if_pos (by omega), drop_at ws z46 i hl, w64 i (by omega)]
      have e : rd_T46 ws (i : Int) = ws.getD i z46 := by simp [rd_T46]
      rw [e, owners_l0 ws hm (n - 1) (i + 1) k _ (by omega) (by omega) (by omega) (by simp; omega)]
      simp
    · rw [if_neg (by omega)]
      obtain rfl : i = ws.length := by omega
      rw [List.drop_length]; simp
theorem owners_f (ws : List S46) (hm : ws.length ≤ 1000000) (k : Nat) (hk : ws.length < k) : epoch_owners.f k ws = some (ws.map (·.f0)) := by
  have := owners_l0 ws hm ws.length 0 k [] (by omega) (by omega) hk (by simp)
  simpa [epoch_owners.f] using this
theorem same_l0 (xs : List Int) (hm : xs.length ≤ 1000000) : ∀ (n i k : Nat), xs.length - i = n → i ≤ xs.length → n < k → budwoodlaw17_sameOwners.l0 k xs xs (i : Int) = some true
  | n, i, 0, _, _, hk => by omega
  | n, i, k + 1, hn, hi, hk => by
    unfold budwoodlaw17_sameOwners.l0
    by_cases hl : i < xs.length
    · rw [if_pos (by omega), if_pos (by omega), if_pos (by omega), if_pos rfl, w64 i (by omega), same_l0 xs hm (n - 1) (i + 1) k (by omega) (by omega) (by omega)]
    · rw [if_neg (by omega)]
theorem same_f (xs : List Int) (hm : xs.length ≤ 1000000) (k : Nat) (hk : xs.length < k) : budwoodlaw17_sameOwners.f k xs xs = some true := by
  unfold budwoodlaw17_sameOwners.f
  rw [if_pos rfl]
  exact same_l0 xs hm xs.length 0 k (by omega) (by omega) hk
/-- A wait as the document has it. -/
def cv (x : S46) : S67 := ⟨x.f0, x.f1⟩
theorem take_l0 (now : Int) (ws : List S46) (hs : List S59) (hm : ws.length ≤ 1000000) (hh : hs.length ≤ 9223372036854775807) : ∀ (n i k : Nat) (o : List Int) (l : List S67), ws.length - i = n → i ≤ ws.length → n + hs.length + 1 < k → o.length ≤ i → l.length ≤ i →
    budwoodref17_Clock_Take.l0 k hs o (i : Int) now (ws.map cv) now l = some (now, l ++ ((ws.drop i).filter (fun x => !pas hs x.f1)).map cv, o ++ ((ws.drop i).filter (fun x => pas hs x.f1)).map (·.f0))
  | n, i, 0, o, l, _, _, hk, _, _ => by omega
  | n, i, k + 1, o, l, hn, hi, hk, ho, hl' => by
    unfold budwoodref17_Clock_Take.l0
    by_cases hl : i < ws.length
    · rw [if_pos (by simp; omega), if_pos (by omega), drop_at ws z46 i hl, w64 i (by omega)]
      have e : rd_T67 (ws.map cv) (i : Int) = cv (ws.getD i z46) := by
        unfold rd_T67
        rw [Int.toNat_natCast, List.getD_eq_getElem?_getD, List.getD_eq_getElem?_getD, List.getElem?_map, List.getElem?_eq_getElem hl]; rfl
      rw [e, show (cv (ws.getD i z46)).f1 = (ws.getD i z46).f1 from rfl, show (cv (ws.getD i z46)).f0 = (ws.getD i z46).f0 from rfl, rpassed_f hs hh k (by omega)]
      simp only [Option.bind_some]
      generalize ws.getD i z46 = x at *
      cases hp : pas hs x.f1 with
      | true =>
        rw [if_pos rfl, if_pos (by omega), take_l0 now ws hs hm hh (n - 1) (i + 1) k _ l (by omega) (by omega) (by omega) (by simp; omega) (by omega), List.filter_cons_of_neg (by simp [hp]), List.filter_cons_of_pos (p := fun x : S46 => pas hs x.f1) (by simp [hp])]
        simp
      | false =>
        rw [if_neg (by simp), if_pos (by omega), take_l0 now ws hs hm hh (n - 1) (i + 1) k o _ (by omega) (by omega) (by omega) (by omega) (by simp; omega), List.filter_cons_of_pos (by simp [hp]), List.filter_cons_of_neg (by simp [hp])]
        simp [cv]
    · rw [if_neg (by simp; omega)]
      obtain rfl : i = ws.length := by omega
      rw [List.drop_length]; simp
theorem take_f (now : Int) (ws : List S46) (hs : List S59) (hm : ws.length ≤ 1000000) (hh : hs.length ≤ 9223372036854775807) (k : Nat) (hk : ws.length + hs.length + 1 < k) :
    budwoodref17_Clock_Take.f k now (ws.map cv) hs = some (now, (ws.filter (fun x => !pas hs x.f1)).map cv, (ws.filter (fun x => pas hs x.f1)).map (·.f0)) := by
  have := take_l0 now ws hs hm hh ws.length 0 k [] [] (by omega) (by omega) hk (by simp) (by simp)
  simpa [budwoodref17_Clock_Take.f] using this
theorem retire_f (now : Int) (ws : List S46) (o : Int) (hm : ws.length ≤ 1000000) (h0 : 0 ≤ now) (h1 : now < 1099511627776) :
    budwoodref17_Clock_Retire.f now (ws.map cv) o = some (now + 1, (ws ++ [(⟨o, now + 1⟩ : S46)]).map cv, now + 1, 0) := by
  unfold budwoodref17_Clock_Retire.f
  have e : IntKind.u64.wrap (now + 1) = now + 1 := by simp [IntKind.wrap, IntKind.bits, IntKind.signed]; omega
  rw [if_neg (by omega), if_pos (by simp; omega)]
  simp only [Option.bind_some, List.nil_append, e]
  rw [if_pos (by simp; omega)]
  simp [cv]
end Go.Proofs.Ytajmfmgfdgdioaa.Pure
