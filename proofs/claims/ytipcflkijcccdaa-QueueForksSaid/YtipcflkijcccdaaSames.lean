/- The program's Same and the document's Same tell the same of any two requests. -/
import Derived.Test.YtipcflkijcccdaaPairs
import Derived.Test.YtipcflkijcccdaaPBx2
namespace Go.Proofs.Ytipcflkijcccdaa.Sames
open Go.RowKit Go.Proofs.Ytipcflkijcccdaa.Sep Go.Proofs.YtipcflkijcccdaaW.PrintWords Go.Proofs.YtipcflkijcccdaaW.PrintLast Go.Proofs.YtipcflkijcccdaaW.PrintMore Go.Proofs.Ytipcflkijcccdaa.PB
set_option linter.unusedVariables false
theorem equal_loop (a b : List Int) (hl : a.length = b.length) (hm : a.length < 140737488355328) : ∀ (d : Nat) (i : Nat), i + d = a.length → slices_Equal_byte_byte.l0 (d + 1) a b a.length i = some (decide (a.drop i = b.drop i))
  | 0, i, h => by
    simp only [slices_Equal_byte_byte.l0]
    rw [if_neg (by omega), List.drop_eq_nil_of_le (by omega), List.drop_eq_nil_of_le (by omega)]
    simp
  | d + 1, i, h => by
    rw [slices_Equal_byte_byte.l0]
    have hia : i < a.length := by omega
    have hib : i < b.length := by omega
    rw [if_pos (by omega), if_pos (by omega), if_pos (by omega), if_pos (by omega)]
    have hw : wrap64 ((i : Int) + 1) = ((i + 1 : Nat) : Int) := by unfold wrap64; omega
    rw [hw, equal_loop a b hl hm d (i + 1) (by omega)]
    have ea : a.drop i = a[i] :: a.drop (i + 1) := List.drop_eq_getElem_cons hia
    have eb : b.drop i = b[i] :: b.drop (i + 1) := List.drop_eq_getElem_cons hib
    rw [ea, eb]
    have ra : rd a i = a[i] := by simp [rd, List.getD_eq_getElem?_getD, List.getElem?_eq_getElem hia]
    have rb : rd b i = b[i] := by simp [rd, List.getD_eq_getElem?_getD, List.getElem?_eq_getElem hib]
    rw [ra, rb]
    by_cases he : a[i] = b[i]
    · rw [if_pos he, he]
      simp only [List.cons.injEq, true_and]
    · rw [if_neg he]
      simp only [List.cons.injEq, he, false_and, decide_false]
theorem equal_f (a b : List Int) (hm : a.length < 140737488355328) : slices_Equal_byte_byte.f (a.length + 1) a b = some (decide (a = b)) := by
  unfold slices_Equal_byte_byte.f
  by_cases hl : a.length = b.length
  · rw [if_pos (by omega)]
    have := equal_loop a b hl hm a.length 0 (by omega)
    simpa using this
  · rw [if_neg (by omega)]
    have : a ≠ b := fun e => hl (by rw [e])
    simp [this]
theorem strs_eq (a b : List Int) (ha : ∀ x ∈ a, 0 ≤ x ∧ x < 256) (hb : ∀ x ∈ b, 0 ≤ x ∧ x < 256) : ((strOfNums a).toList == (strOfNums b).toList) = decide (a = b) := by
  have key : ∀ l : List Int, (∀ x ∈ l, 0 ≤ x ∧ x < 256) → ((strOfNums l).data.toList.map fun u : UInt8 => (u.toNat : Int)) = l := by
    intro l hl
    simp only [strOfNums, List.map_map]
    conv => rhs; rw [← List.map_id l]
    refine List.map_congr_left (fun x hx => ?_)
    have := hl x hx
    simp only [Function.comp, id, UInt8.toNat_ofNat']
    omega
  have hinj : (strOfNums a).toList = (strOfNums b).toList ↔ a = b := by
    constructor
    · intro h
      have h2 : (strOfNums a).data.toList = (strOfNums b).data.toList := by
        have e1 : ∀ s : ByteArray, s.toList = s.data.toList := fun s => ByteArray.toList_eq s
        rw [← e1, ← e1, h]
      rw [← key a ha, ← key b hb, h2]
    · rintro rfl; rfl
  by_cases e : a = b
  · simp [e]
  · have : ¬ (strOfNums a).toList = (strOfNums b).toList := fun h => e (hinj.1 h)
    simp [e, this]
/-- What both tell. -/
def sameR (k1 : Int) (n1 : ByteArray) (o1 : List Int) (k2 : Int) (n2 : ByteArray) (o2 : List Int) : Bool := decide (k1 = k2) && decide (n1.toList = n2.toList) && decide (o1 = o2)
theorem same_prog {k1 k2 : Int} {n1 n2 : ByteArray} {o1 o2 : List Int} {A B : Option Addr} {c d : Nat} (w : World) (hA : Kd.C (Kd.int .u8) w A o1.length o1) (hc : o1.length ≤ c) (hB : Kd.C (Kd.int .u8) w B o2.length o2) (hd : o2.length ≤ d) (hm : o1.length < 140737488355328) :
    Calls Try.prog 17 #[.agg #[.int .u8 k1, .string n1, .slice A o1.length c], .agg #[.int .u8 k2, .string n2, .slice B o2.length d]] w fun e w' => e = .returned (.bool (sameR k1 n1 o1 k2 n2 o2)) ∧ Below w.heap.size w w' := by
  refine queue_Same.calls (o1.length + 1) k1 n1 A c o1 k2 n2 B d o2 _ w hA hc hB hd ?_
  unfold queue_Same.f sameR
  by_cases e1 : k1 = k2
  · rw [if_pos e1]
    by_cases e2 : n1.toList = n2.toList
    · rw [if_pos e2, equal_f o1 o2 hm]; simp [e1, e2]
    · rw [if_neg e2]; simp [e2]
  · rw [if_neg e1]; simp [e1]
theorem same_ref {k1 k2 : Int} {n1 n2 : ByteArray} {o1 o2 : List Int} {A B : Option Addr} {c d : Nat} (w : World) (hA : Kd.C (Kd.int .u8) w A o1.length o1) (hc : o1.length ≤ c) (hB : Kd.C (Kd.int .u8) w B o2.length o2) (hd : o2.length ≤ d) (h1 : ∀ x ∈ o1, 0 ≤ x ∧ x < 256) (h2 : ∀ x ∈ o2, 0 ≤ x ∧ x < 256) :
    Calls Try.prog 18 #[.agg #[.int .u8 k1, .string n1, .slice A o1.length c], .agg #[.int .u8 k2, .string n2, .slice B o2.length d]] w fun e w' => e = .returned (.bool (sameR k1 n1 o1 k2 n2 o2)) ∧ Below w.heap.size w w' := by
  refine budwoodref19_Same.calls k1 n1 A c o1 k2 n2 B d o2 _ w hA hc hB hd ?_
  unfold budwoodref19_Same.f sameR
  rw [strs_eq o1 o2 h1 h2]
  by_cases e1 : k1 = k2
  · rw [if_pos e1]
    by_cases e2 : n1.toList = n2.toList
    · rw [if_pos e2]; simp [e1, e2]
    · rw [if_neg e2]; simp [e2]
  · rw [if_neg e1]; simp [e1]
theorem sameR_self (k : Int) (n : ByteArray) (o : List Int) : sameR k n o k n o = true := by simp [sameR]
end Go.Proofs.Ytipcflkijcccdaa.Sames
