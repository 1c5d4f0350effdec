/- The document's graph in plain words: what the printed functions answer. -/
import Derived.Test.YtaomemhnjpemiaaPBx4
import Derived.Test.YtaomemhnjpemiaaPBx5
import Derived.Test.YtaomemhnjpemiaaPBx6
import Derived.Test.YtaomemhnjpemiaaPBx7
namespace Go.Proofs.Ytaomemhnjpemiaa.Doc
open Go.RowKit Go.Proofs.YtaomemhnjpemiaaW.PrintWords Go.Proofs.Ytaomemhnjpemiaa.PB
set_option linter.unusedVariables false
set_option linter.unusedSimpArgs false

theorem w64 (i : Nat) (h : i < 9223372036854775807) : wrap64 ((i : Int) + 1) = ((i + 1 : Nat) : Int) := by unfold wrap64; omega
theorem bytes_eq {a b : ByteArray} : a.toList = b.toList ↔ a = b := by
 constructor
 ·intro h
  apply ByteArray.ext
  apply Array.ext'
  rw [ByteArray.toList_eq, ByteArray.toList_eq] at h
  exact h
 ·rintro rfl; rfl
theorem rd_drop (xs : List ByteArray) (i : Nat) (hi : i < xs.length) : xs.drop i = rdOf ByteArray.empty xs (i : Int) :: xs.drop (i + 1) := by
 rw [List.drop_eq_getElem_cons hi]; congr 1; simp [rdOf, hi]
theorem node_drop (xs : List S73) (i : Nat) (hi : i < xs.length) : xs.drop i = rd_T73 xs (i : Int) :: xs.drop (i + 1) := by
 rw [List.drop_eq_getElem_cons hi]; congr 1; simp [rd_T73, hi]
instance memDec (a : ByteArray) (xs : List ByteArray) : Decidable (a ∈ xs) :=
 match xs with
 | [] => .isFalse (by simp)
 | x :: xs => if h : a = x then .isTrue (by simp [h]) else match memDec a xs with
  | .isTrue h' => .isTrue (by simp [h'])
  | .isFalse h' => .isFalse (by simp [h, h'])
/-- the graph's names, as they lie -/
def names (g : List S73) : List ByteArray := g.map (fun n => n.f0)
/-- the place of a name -/
def placeOf : List S73 → ByteArray → Option Nat
 | [], _ => none
 | n :: g, a => if n.f0 = a then some 0 else (placeOf g a).map (· + 1)
/-- what a node stands on -/
def depsOf : List S73 → ByteArray → List ByteArray
 | [], _ => []
 | n :: g, a => if n.f0 = a then n.f1 else depsOf g a
def placeInt (o : Option Nat) (i : Nat) : Int := match o with | none => -1 | some j => ((i + j : Nat) : Int)
theorem placeOf_none {g : List S73} {a : ByteArray} : placeOf g a = none ↔ a ∉ names g := by
 induction g with
 | nil => simp [placeOf, names]
 | cons n g ih =>
  rw [placeOf]
  by_cases e : n.f0 = a
  ·simp [e, names]
  ·rw [if_neg e]; simp only [Option.map_eq_none_iff, ih, names, List.map_cons, List.mem_cons, not_or]
   exact ⟨fun h => ⟨fun h' => e h'.symm, h⟩, fun h => h.2⟩
theorem depsOf_none {g : List S73} {a : ByteArray} (h : placeOf g a = none) : depsOf g a = [] := by
 induction g with
 | nil => rfl
 | cons n g ih =>
  rw [placeOf] at h
  by_cases e : n.f0 = a
  ·simp [e] at h
  ·rw [if_neg e] at h; rw [depsOf, if_neg e]; exact ih (by simpa using h)
theorem depsOf_some {g : List S73} {a : ByteArray} {j : Nat} (h : placeOf g a = some j) : j < g.length ∧ (rd_T73 g (j : Int)).f1 = depsOf g a := by
 induction g generalizing j with
 | nil => simp [placeOf] at h
 | cons n g ih =>
  rw [placeOf] at h
  by_cases e : n.f0 = a
  ·rw [if_pos e] at h; obtain rfl : 0 = j := by simpa using h
   exact ⟨by simp, by simp [rd_T73, depsOf, e]⟩
  ·rw [if_neg e] at h
   obtain ⟨j', h', rfl⟩ := Option.map_eq_some_iff.1 h
   have := ih h'
   refine ⟨by simp; exact this.1, ?_⟩
   rw [depsOf, if_neg e, ← this.2]
   simp [rd_T73]

theorem in_l (xs : List ByteArray) (a : ByteArray) (hs : xs.length < 9223372036854775807) : ∀ (d i k : Nat), xs.length = i + d → d < k → budwoodref14_In.l0 k xs a (i : Int) = some (decide (a ∈ xs.drop i))
 | 0, i, k + 1, h, hk => by
  rw [budwoodref14_In.l0, if_neg (by omega), List.drop_eq_nil_of_le (by omega)]; simp
 | d + 1, i, k + 1, h, hk => by
  have hd := rd_drop xs i (by omega)
  rw [budwoodref14_In.l0, if_pos (by omega), if_pos (by omega), hd]
  by_cases e : (rdOf ByteArray.empty xs i) = a
  ·rw [if_pos (bytes_eq.2 e)]; simp [e]
  ·rw [if_neg (fun h => e (bytes_eq.1 h)), w64 i (by omega), in_l xs a hs d (i + 1) k (by omega) (by omega)]
   have : ¬ a = rdOf ByteArray.empty xs (i : Int) := fun h => e h.symm
   simp [this]
theorem in_f (xs : List ByteArray) (a : ByteArray) (hs : xs.length < 9223372036854775807) (k : Nat) (hk : xs.length < k) : budwoodref14_In.f k xs a = some (decide (a ∈ xs)) := by
 have := in_l xs a hs xs.length 0 k (by omega) hk
 simpa [budwoodref14_In.f] using this
theorem same_l (xs ys : List ByteArray) (he : xs.length = ys.length) (hs : xs.length < 9223372036854775807) : ∀ (d i k : Nat), xs.length = i + d → d < k → budwoodref14_Same.l0 k xs ys (i : Int) = some (decide (xs.drop i = ys.drop i))
 | 0, i, k + 1, h, hk => by
  rw [budwoodref14_Same.l0, if_neg (by omega), List.drop_eq_nil_of_le (by omega), List.drop_eq_nil_of_le (by omega)]; simp
 | d + 1, i, k + 1, h, hk => by
  have hd := rd_drop xs i (by omega)
  have hd' := rd_drop ys i (by omega)
  rw [budwoodref14_Same.l0, if_pos (by omega), if_pos (by omega), if_pos (by omega), hd, hd']
  by_cases e : (rdOf ByteArray.empty xs i) = rdOf ByteArray.empty ys i
  ·rw [if_pos (bytes_eq.2 e), w64 i (by omega), same_l xs ys he hs d (i + 1) k (by omega) (by omega)]; simp [e]
  ·rw [if_neg (fun h => e (bytes_eq.1 h))]; simp [e]
theorem same_f (xs ys : List ByteArray) (hs : xs.length < 9223372036854775807) (k : Nat) (hk : xs.length < k) : budwoodref14_Same.f k xs ys = some (decide (xs = ys)) := by
 rw [budwoodref14_Same.f]
 by_cases h : xs.length = ys.length
 ·rw [if_pos (by omega)]
  simpa using same_l xs ys h hs xs.length 0 k (by omega) hk
 ·rw [if_neg (by omega)]
  have : xs ≠ ys := fun e => h (by rw [e])
  simp [this]
theorem place_l (xs : List S73) (a : ByteArray) (hs : xs.length < 9223372036854775807) : ∀ (d i k : Nat), xs.length = i + d → d < k → budwoodref14_Graph_place.l0 k a (i : Int) xs = some (placeInt (placeOf (xs.drop i) a) i)
 | 0, i, k + 1, h, hk => by
  rw [budwoodref14_Graph_place.l0, if_neg (by omega), List.drop_eq_nil_of_le (by omega)]; rfl
 | d + 1, i, k + 1, h, hk => by
  have hd := node_drop xs i (by omega)
  rw [budwoodref14_Graph_place.l0, if_pos (by omega), if_pos (by omega), hd, placeOf]
  by_cases e : (rd_T73 xs i).f0 = a
  ·rw [if_pos (bytes_eq.2 e), if_pos e]; simp [placeInt]
  ·rw [if_neg (fun h => e (bytes_eq.1 h)), w64 i (by omega), place_l xs a hs d (i + 1) k (by omega) (by omega), if_neg e]
   cases placeOf (xs.drop (i + 1)) a with
   | none => rfl
   | some j => simp [placeInt]; omega
theorem place_f (xs : List S73) (a : ByteArray) (hs : xs.length < 9223372036854775807) (k : Nat) (hk : xs.length < k) : budwoodref14_Graph_place.f k xs a = some (placeInt (placeOf xs a) 0) := by
 have := place_l xs a hs xs.length 0 k (by omega) hk
 simpa [budwoodref14_Graph_place.f] using this
theorem has_f (xs : List S73) (a : ByteArray) (hs : xs.length < 9223372036854775807) (k : Nat) (hk : xs.length < k) : budwoodref14_Graph_Has.f k xs a = some (decide (a ∈ names xs)) := by
 rw [budwoodref14_Graph_Has.f, place_f xs a hs k hk, Option.bind_some]
 cases h : placeOf xs a with
 | none => have := placeOf_none.1 h; simp [placeInt, this]
 | some j =>
  have : a ∈ names xs := by
   refine Classical.byContradiction fun h' => ?_
   rw [placeOf_none.2 h'] at h; cases h
  simp [placeInt, this]
theorem deps_f (xs : List S73) (a : ByteArray) (hs : xs.length < 9223372036854775807) (k : Nat) (hk : xs.length < k) : budwoodref14_Graph_Deps.f k xs a = some (depsOf xs a) := by
 rw [budwoodref14_Graph_Deps.f, place_f xs a hs k hk, Option.bind_some]
 cases h : placeOf xs a with
 | none => rw [depsOf_none h]; simp [placeInt]
 | some j =>
  obtain ⟨h1, h2⟩ := depsOf_some h
  have e : placeInt (some j) 0 = (j : Int) := by simp [placeInt]
  rw [e, if_neg (by omega), if_pos (by omega), if_pos (by omega), h2]
theorem all_l (xs : List S73) (ys : List ByteArray) (hs : xs.length < 9223372036854775807) (hy : ys.length < 9223372036854775807) : ∀ (d i k : Nat), ys.length = i + d → d + xs.length < k → budwoodref14_Graph_all.l0 k ys (i : Int) xs = some (decide (∀ a ∈ ys.drop i, a ∈ names xs))
 | 0, i, k + 1, h, hk => by
  rw [budwoodref14_Graph_all.l0, if_neg (by omega), List.drop_eq_nil_of_le (by omega)]; simp
 | d + 1, i, k + 1, h, hk => by
  have hd := rd_drop ys i (by omega)
  rw [budwoodref14_Graph_all.l0, if_pos (by omega), if_pos (by omega), hd, has_f xs _ hs k (by omega), Option.bind_some]
  by_cases e : (rdOf ByteArray.empty ys i) ∈ names xs
  ·rw [if_pos (by simp [e]), w64 i (by omega), all_l xs ys hs hy d (i + 1) k (by omega) (by omega)]; simp [e]
  ·rw [if_neg (by simp [e])]; simp [e]
theorem all_f (xs : List S73) (ys : List ByteArray) (hs : xs.length < 9223372036854775807) (hy : ys.length < 9223372036854775807) (k : Nat) (hk : ys.length + xs.length < k) : budwoodref14_Graph_all.f k xs ys = some (decide (∀ a ∈ ys, a ∈ names xs)) := by
 have := all_l xs ys hs hy ys.length 0 k (by omega) hk
 simpa [budwoodref14_Graph_all.f] using this
end Go.Proofs.Ytaomemhnjpemiaa.Doc
/- The document's graph in plain words: sets, and what changes a graph. -/
namespace Go.Proofs.Ytaomemhnjpemiaa.Doc
open Go.RowKit Go.Proofs.YtaomemhnjpemiaaW.PrintWords Go.Proofs.Ytaomemhnjpemiaa.PB
set_option linter.unusedVariables false
set_option linter.unusedSimpArgs false

/-- from some fuel on a printed function answers -/
def Fin {α : Type} (f : Nat → Option α) (v : α) : Prop := ∃ K, ∀ k, K ≤ k → f k = some v
def less (a b : ByteArray) : Bool := Op.bytesLess a.toList b.toList
/-- a text laid among others, ahead of the first that is not less -/
def insAt (a : ByteArray) : List ByteArray → List ByteArray
  | [] => [a]
  | x :: xs => if less x a then x :: insAt a xs else a :: x :: xs
/-- a text more in a set -/
def setIn (out : List ByteArray) (a : ByteArray) : List ByteArray := if a ∈ out then out else insAt a out
def setOf (l : List ByteArray) : List ByteArray := l.foldl setIn []
theorem insAt_len (a : ByteArray) (xs : List ByteArray) : (insAt a xs).length = xs.length + 1 := by
  induction xs with
  | nil => rfl
  | cons x xs ih => rw [insAt]; split <;> simp [ih]
theorem insAt_mem (a b : ByteArray) (xs : List ByteArray) : b ∈ insAt a xs ↔ b = a ∨ b ∈ xs := by
  induction xs with
  | nil => simp [insAt]
  | cons x xs ih =>
    rw [insAt]; split
    · simp only [List.mem_cons, ih]; constructor
      · rintro (h | h | h) <;> simp [h]
      · rintro (h | h | h) <;> simp [h]
    · simp
theorem setIn_len (a : ByteArray) (xs : List ByteArray) : (setIn xs a).length ≤ xs.length + 1 := by
  rw [setIn]; split
  · omega
  · rw [insAt_len]; omega
theorem setIn_mem (a b : ByteArray) (xs : List ByteArray) : b ∈ setIn xs a ↔ b = a ∨ b ∈ xs := by
  rw [setIn]; split
  · rename_i h; constructor
    · exact Or.inr
    · rintro (rfl | h') <;> assumption
  · exact insAt_mem a b xs
theorem fold_mem (b : ByteArray) (l xs : List ByteArray) : b ∈ l.foldl setIn xs ↔ b ∈ l ∨ b ∈ xs := by
  induction l generalizing xs with
  | nil => simp
  | cons a l ih => rw [List.foldl_cons, ih, setIn_mem, List.mem_cons]; constructor
                   · rintro (h | h | h) <;> simp [h]
                   · rintro ((h | h) | h) <;> simp [h]
theorem setOf_mem (b : ByteArray) (l : List ByteArray) : b ∈ setOf l ↔ b ∈ l := by rw [setOf, fold_mem]; simp

theorem take_rd (xs : List ByteArray) (i : Nat) (hi : i < xs.length) : xs.take (i + 1) = xs.take i ++ [rdOf ByteArray.empty xs (i : Int)] := by
  have e : rdOf ByteArray.empty xs (i : Int) = xs[i] := by simp [rdOf, hi]
  rw [e, List.take_succ_eq_append_getElem hi]
theorem set_l1 (xs out : List ByteArray) (j : Nat) (hj : j < xs.length) (hx : xs.length < 1000000000) (ho : out.length < 1000000000) (r : List ByteArray) : ∀ (d i : Nat), out.length = i + d →
    Fin (fun k => budwoodref14_Set.l0 k xs (out.take i ++ insAt (rdOf ByteArray.empty xs (j : Int)) (out.drop i)) ((j + 1 : Nat) : Int)) r →
    Fin (fun k => budwoodref14_Set.l1 k xs out (j : Int) (i : Int)) r
  | 0, i, h, ⟨K, H⟩ => by
    refine ⟨K + 1, fun k hk => ?_⟩
    obtain ⟨k, rfl⟩ : ∃ k', k = k' + 1 := ⟨k - 1, by omega⟩
    have H' := H k (by omega)
    have hz : out.drop i = [] := List.drop_eq_nil_of_le (by omega)
    simp only at H' ⊢
    rw [hz, insAt] at H'
    rw [budwoodref14_Set.l1, if_neg (by omega), if_pos (by omega), if_pos (by omega), Option.bind_some, if_pos (by simp; omega), Option.bind_some, if_pos (by omega), if_pos (by omega), Option.bind_some, if_pos (by simp; omega), Option.bind_some, Option.bind_some, if_pos (by simp; omega), w64 j (by omega)]
    simpa [hz] using H'
  | d + 1, i, h, ⟨K, H⟩ => by
    have hd := rd_drop out i (by omega)
    by_cases e : less (rdOf ByteArray.empty out (i : Int)) (rdOf ByteArray.empty xs (j : Int)) = true
    · have := set_l1 xs out j hj hx ho r d (i + 1) (by omega) ⟨K, fun k hk => by
        have H' := H k hk
        simp only at H' ⊢
        rw [hd, insAt, if_pos e] at H'
        rw [← H', take_rd out i (by omega), List.append_assoc]; rfl⟩
      obtain ⟨K', H'⟩ := this
      refine ⟨K' + 1, fun k hk => ?_⟩
      obtain ⟨k, rfl⟩ : ∃ k', k = k' + 1 := ⟨k - 1, by omega⟩
      simp only at H' ⊢
      rw [budwoodref14_Set.l1, if_pos (by omega), if_pos (by omega), if_pos (by omega), if_pos (by omega), if_pos (show Op.bytesLess _ _ = true from e), w64 i (by omega)]
      exact H' k (by omega)
    · refine ⟨K + 1, fun k hk => ?_⟩
      obtain ⟨k, rfl⟩ : ∃ k', k = k' + 1 := ⟨k - 1, by omega⟩
      have H' := H k (by omega)
      simp only at H' ⊢
      rw [hd, insAt, if_neg e, ← hd] at H'
      rw [budwoodref14_Set.l1, if_pos (by omega), if_pos (by omega), if_pos (by omega), if_pos (by omega), if_neg (show ¬ Op.bytesLess _ _ = true from e), if_pos (by omega), Option.bind_some, if_pos (by simp; omega), Option.bind_some, Option.bind_some, if_pos (by simp; omega), Option.bind_some, Option.bind_some, if_pos (by simp; omega), w64 j (by omega)]
      simpa using H'
theorem set_l0 (xs : List ByteArray) (hx : xs.length < 100000000) : ∀ (d j : Nat) (out : List ByteArray), xs.length = j + d → out.length + d < 100000000 → Fin (fun k => budwoodref14_Set.l0 k xs out (j : Int)) ((xs.drop j).foldl setIn out)
  | 0, j, out, h, ho => ⟨1, fun k hk => by
    obtain ⟨k, rfl⟩ : ∃ k', k = k' + 1 := ⟨k - 1, by omega⟩
    simp only
    rw [budwoodref14_Set.l0, if_neg (by omega), List.drop_eq_nil_of_le (by omega)]; rfl⟩
  | d + 1, j, out, h, ho => by
    have hd := rd_drop xs j (by omega)
    rw [hd, List.foldl_cons]
    have hl := setIn_len (rdOf ByteArray.empty xs (j : Int)) out
    have IH := set_l0 xs hx d (j + 1) (setIn out (rdOf ByteArray.empty xs (j : Int))) (by omega) (by omega)
    rw [setIn] at IH ⊢
    by_cases e : rdOf ByteArray.empty xs (j : Int) ∈ out
    · rw [if_pos e] at IH ⊢
      obtain ⟨K, H⟩ := IH
      refine ⟨K + out.length + 2, fun k hk => ?_⟩
      obtain ⟨k, rfl⟩ : ∃ k', k = k' + 1 := ⟨k - 1, by omega⟩
      simp only at H ⊢
      rw [budwoodref14_Set.l0, if_pos (by omega), if_pos (by omega), in_f out _ (by omega) k (by omega), Option.bind_some, if_pos (by simp [e]), w64 j (by omega)]
      exact H k (by omega)
    · rw [if_neg e] at IH ⊢
      obtain ⟨K, H⟩ := set_l1 xs out j (by omega) (by omega) (by omega) _ out.length 0 (by omega) (by simpa using IH)
      refine ⟨K + out.length + 2, fun k hk => ?_⟩
      obtain ⟨k, rfl⟩ : ∃ k', k = k' + 1 := ⟨k - 1, by omega⟩
      simp only at H ⊢
      rw [budwoodref14_Set.l0, if_pos (by omega), if_pos (by omega), in_f out _ (by omega) k (by omega), Option.bind_some, if_neg (by simp [e])]
      simpa using H k (by omega)
theorem set_f (xs : List ByteArray) (hx : xs.length < 50000000) : Fin (fun k => budwoodref14_Set.f k xs) (setOf xs) := by
  have := set_l0 xs (by omega) xs.length 0 [] (by omega) (by simp; omega)
  simpa [budwoodref14_Set.f, setOf] using this
/-- no node of this name -/
def without (g : List S73) (a : ByteArray) : List S73 := g.filter (fun n => decide (n.f0 ≠ a))
theorem without_l (xs : List S73) (a : ByteArray) (hs : xs.length < 1000000000) : ∀ (d i k : Nat) (out : List S73), xs.length = i + d → out.length + d < 1000000000 → d < k → budwoodref14_Graph_without.l0 k a (i : Int) xs out = some (out ++ without (xs.drop i) a)
  | 0, i, k + 1, out, h, ho, hk => by
    rw [budwoodref14_Graph_without.l0, if_neg (by omega), List.drop_eq_nil_of_le (by omega)]; simp [without]
  | d + 1, i, k + 1, out, h, ho, hk => by
    have hd := node_drop xs i (by omega)
    rw [budwoodref14_Graph_without.l0, if_pos (by omega), if_pos (by omega), hd, without, List.filter_cons]
    by_cases e : (rd_T73 xs i).f0 = a
    · rw [if_pos (bytes_eq.2 e), if_neg (by simp [e]), w64 i (by omega)]
      exact without_l xs a hs d (i + 1) k out (by omega) (by omega) (by omega)
    · rw [if_neg (fun h => e (bytes_eq.1 h)), if_pos (by omega), if_pos (by simp [e]), w64 i (by omega), without_l xs a hs d (i + 1) k _ (by omega) (by simp; omega) (by omega)]
      simp [without]
theorem without_f (xs : List S73) (a : ByteArray) (hs : xs.length < 500000000) (k : Nat) (hk : xs.length < k) : budwoodref14_Graph_without.f k xs a = some (without xs a) := by
  have := without_l xs a (by omega) xs.length 0 k [] (by omega) (by simp; omega) hk
  simpa [budwoodref14_Graph_without.f] using this
/-- a node, ahead of the first that is not less -/
def with_ (m : S73) : List S73 → List S73
  | [] => [m]
  | n :: g => if less n.f0 m.f0 then n :: with_ m g else m :: n :: g
theorem take_node (xs : List S73) (i : Nat) (hi : i < xs.length) : xs.take (i + 1) = xs.take i ++ [rd_T73 xs (i : Int)] := by
  have e : rd_T73 xs (i : Int) = xs[i] := by simp [rd_T73, hi]
  rw [e, List.take_succ_eq_append_getElem hi]
theorem with_l (xs : List S73) (m : S73) (hs : xs.length < 1000000000) : ∀ (d i k : Nat), xs.length = i + d → d < k → budwoodref14_Graph_with.l0 k (i : Int) xs m.f0 m.f1 = some (xs.take i ++ with_ m (xs.drop i))
  | 0, i, k + 1, h, hk => by
    have hz : xs.drop i = [] := List.drop_eq_nil_of_le (by omega)
    rw [budwoodref14_Graph_with.l0, if_neg (by omega), if_pos (by omega), if_pos (by omega), Option.bind_some, if_pos (by simp; omega), Option.bind_some, Option.bind_some, if_pos (by simp; omega), Option.bind_some, Option.bind_some, if_pos (by simp; omega)]
    simp [hz, with_]
  | d + 1, i, k + 1, h, hk => by
    have hd := node_drop xs i (by omega)
    rw [budwoodref14_Graph_with.l0, if_pos (by omega), if_pos (by omega), hd, with_]
    by_cases e : less (rd_T73 xs (i : Int)).f0 m.f0 = true
    · rw [if_pos (show Op.bytesLess _ _ = true from e), if_pos e, w64 i (by omega), with_l xs m hs d (i + 1) k (by omega) (by omega), take_node xs i (by omega), List.append_assoc]; rfl
    · rw [if_neg (show ¬ Op.bytesLess _ _ = true from e), if_neg e, ← hd, if_pos (by omega), Option.bind_some, if_pos (by simp; omega), Option.bind_some, Option.bind_some, if_pos (by simp; omega), Option.bind_some, Option.bind_some, if_pos (by simp; omega)]
      simp
theorem with_f (xs : List S73) (m : S73) (hs : xs.length < 1000000000) (k : Nat) (hk : xs.length < k) : budwoodref14_Graph_with.f k xs m.f0 m.f1 = some (with_ m xs) := by
  have := with_l xs m hs xs.length 0 k (by omega) hk
  simpa [budwoodref14_Graph_with.f] using this
end Go.Proofs.Ytaomemhnjpemiaa.Doc
/- The document's graph in plain words: dependents, order. -/
namespace Go.Proofs.Ytaomemhnjpemiaa.Doc
open Go.RowKit Go.Proofs.YtaomemhnjpemiaaW.PrintWords Go.Proofs.Ytaomemhnjpemiaa.PB
set_option linter.unusedVariables false
set_option linter.unusedSimpArgs false

/-- a graph of a small size -/
def Small (g : List S73) : Prop := g.length ≤ 1000 ∧ ∀ n ∈ g, n.f1.length ≤ 1000
theorem rd_mem (xs : List S73) (i : Nat) (hi : i < xs.length) : rd_T73 xs (i : Int) ∈ xs := by
 have e : rd_T73 xs (i : Int) = xs[i] := by simp [rd_T73, hi]
 rw [e]; exact List.getElem_mem hi
def dependents (g : List S73) (a : ByteArray) : List ByteArray := names (g.filter (fun n => decide (a ∈ n.f1)))
theorem dependents_l (xs : List S73) (a : ByteArray) (hs : Small xs) : ∀ (d i k : Nat) (out : List ByteArray), xs.length = i + d → out.length + d < 1000000000 → d + 1001 < k → budwoodref14_Graph_Dependents.l0 k a out (i : Int) xs = some (out ++ dependents (xs.drop i) a)
 | 0, i, k + 1, out, h, ho, hk => by
  rw [budwoodref14_Graph_Dependents.l0, if_neg (by omega), List.drop_eq_nil_of_le (by omega)]; simp [dependents, names]
 | d + 1, i, k + 1, out, h, ho, hk => by
  have hd := node_drop xs i (by omega)
  have hb := hs.2 _ (rd_mem xs i (by omega))
  have hl := hs.1
  rw [budwoodref14_Graph_Dependents.l0, if_pos (by omega), if_pos (by omega), hd, dependents, List.filter_cons, in_f _ _ (by omega) k (by omega), Option.bind_some]
  by_cases e : a ∈ (rd_T73 xs (i : Int)).f1
  ·rw [if_pos (by simp [e]), if_pos (by omega), if_pos (by simp [e]), w64 i (by omega), dependents_l xs a hs d (i + 1) k _ (by omega) (by simp; omega) (by omega)]
   simp [dependents, names]
  ·rw [if_neg (by simp [e]), if_neg (by simp [e]), w64 i (by omega), dependents_l xs a hs d (i + 1) k _ (by omega) (by omega) (by omega)]
   rfl
theorem dependents_f (xs : List S73) (a : ByteArray) (hs : Small xs) (k : Nat) (hk : 3000 ≤ k) : budwoodref14_Graph_Dependents.f k xs a = some (dependents xs a) := by
 have hl := hs.1
 have := dependents_l xs a hs xs.length 0 k [] (by omega) (by simp; omega) (by omega)
 simpa [budwoodref14_Graph_Dependents.f] using this
/-- may a node come? -/
def isReady (n : S73) (came : List ByteArray) : Bool := decide (∀ a ∈ n.f1, a ∈ came) && !decide (n.f0 ∈ came)
theorem ready_l (a : ByteArray) (xs came : List ByteArray) (hs : xs.length ≤ 1000) (hc : came.length ≤ 1000) : ∀ (d i k : Nat), xs.length = i + d → d + 1001 < k → budwoodref14_ready.l0 k came (i : Int) a xs = some (decide (∀ b ∈ xs.drop i, b ∈ came) && !decide (a ∈ came))
 | 0, i, k + 1, h, hk => by
  rw [budwoodref14_ready.l0, if_neg (by omega), List.drop_eq_nil_of_le (by omega), in_f _ _ (by omega) k (by omega)]; simp
 | d + 1, i, k + 1, h, hk => by
  have hd := rd_drop xs i (by omega)
  rw [budwoodref14_ready.l0, if_pos (by omega), if_pos (by omega), hd, in_f _ _ (by omega) k (by omega), Option.bind_some]
  by_cases e : rdOf ByteArray.empty xs (i : Int) ∈ came
  ·rw [if_pos (by simp [e]), w64 i (by omega), ready_l a xs came hs hc d (i + 1) k (by omega) (by omega)]
   simp [e]
  ·rw [if_neg (by simp [e])]; simp [e]
theorem ready_f (n : S73) (came : List ByteArray) (hs : n.f1.length ≤ 1000) (hc : came.length ≤ 1000) (k : Nat) (hk : 3000 ≤ k) : budwoodref14_ready.f k n.f0 n.f1 came = some (isReady n came) := by
 have := ready_l n.f0 n.f1 came hs hc n.f1.length 0 k (by omega) (by omega)
 simpa [budwoodref14_ready.f, isReady] using this
/-- a round: the first node that may come -/
def orderStep (g : List S73) (out : List ByteArray) : List ByteArray := match g.find? (fun n => isReady n out) with | none => out | some n => out ++ [n.f0]
def orderFrom (g : List S73) : Nat → List ByteArray → List ByteArray
 | 0, out => out
 | n + 1, out => orderFrom g n (orderStep g out)
def order (g : List S73) : List ByteArray := orderFrom g g.length []
theorem orderStep_len (g : List S73) (out : List ByteArray) : (orderStep g out).length ≤ out.length + 1 := by
 rw [orderStep]; split <;> simp
theorem order_l1 (xs : List S73) (hs : Small xs) (out : List ByteArray) (ho : out.length < 1000) (j : Nat) (hj : j < xs.length) (r : List ByteArray) : ∀ (d i : Nat), xs.length = i + d →
  Fin (fun k => budwoodref14_Graph_Order.l0 k (match (xs.drop i).find? (fun n => isReady n out) with | none => out | some n => out ++ [n.f0]) ((j + 1 : Nat) : Int) xs) r →
  Fin (fun k => budwoodref14_Graph_Order.l1 k out (j : Int) (i : Int) xs) r
 | 0, i, h, ⟨K, H⟩ => by
  refine ⟨K + 1, fun k hk => ?_⟩
  obtain ⟨k, rfl⟩ : ∃ k', k = k' + 1 := ⟨k - 1, by omega⟩
  have H' := H k (by omega)
  have hl := hs.1
  simp only at H' ⊢
  rw [List.drop_eq_nil_of_le (by omega)] at H'
  rw [budwoodref14_Graph_Order.l1, if_neg (by omega), w64 j (by omega)]
  exact H'
 | d + 1, i, h, ⟨K, H⟩ => by
  have hd := node_drop xs i (by omega)
  have hb := hs.2 _ (rd_mem xs i (by omega))
  have hl := hs.1
  by_cases e : isReady (rd_T73 xs (i : Int)) out = true
  ·refine ⟨K + 3001, fun k hk => ?_⟩
   obtain ⟨k, rfl⟩ : ∃ k', k = k' + 1 := ⟨k - 1, by omega⟩
   have H' := H k (by omega)
   simp only at H' ⊢
   rw [hd, List.find?_cons_of_pos (p := fun n => isReady n out) e] at H'
   rw [budwoodref14_Graph_Order.l1, if_pos (by omega), if_pos (by omega), ready_f _ out hb (by omega) k (by omega), Option.bind_some, if_pos e, if_pos (by omega), w64 j (by omega)]
   exact H'
  ·obtain ⟨K', H'⟩ := order_l1 xs hs out ho j hj r d (i + 1) (by omega) ⟨K, fun k hk => by
    have H' := H k hk
    simp only at H' ⊢
    rw [hd, List.find?_cons_of_neg (p := fun n => isReady n out) e] at H'
    exact H'⟩
   refine ⟨K' + 3001, fun k hk => ?_⟩
   obtain ⟨k, rfl⟩ : ∃ k', k = k' + 1 := ⟨k - 1, by omega⟩
   have H2 := H' k (by omega)
   simp only at H2 ⊢
   rw [budwoodref14_Graph_Order.l1, if_pos (by omega), if_pos (by omega), ready_f _ out hb (by omega) k (by omega), Option.bind_some, if_neg e, w64 i (by omega)]
   exact H2
theorem order_l0 (xs : List S73) (hs : Small xs) : ∀ (d j : Nat) (out : List ByteArray), xs.length = j + d → out.length + d ≤ 1000 → Fin (fun k => budwoodref14_Graph_Order.l0 k out (j : Int) xs) (orderFrom xs d out)
 | 0, j, out, h, ho => ⟨1, fun k hk => by
  obtain ⟨k, rfl⟩ : ∃ k', k = k' + 1 := ⟨k - 1, by omega⟩
  simp only
  rw [budwoodref14_Graph_Order.l0, if_neg (by omega)]; rfl⟩
 | d + 1, j, out, h, ho => by
  have hl := orderStep_len xs out
  have IH := order_l0 xs hs d (j + 1) (orderStep xs out) (by omega) (by omega)
  obtain ⟨K, H⟩ := order_l1 xs hs out (by omega) j (by omega) _ xs.length 0 (by omega) (by simpa [orderStep] using IH)
  refine ⟨K + 1, fun k hk => ?_⟩
  obtain ⟨k, rfl⟩ : ∃ k', k = k' + 1 := ⟨k - 1, by omega⟩
  have H' := H k (by omega)
  simp only at H' ⊢
  rw [budwoodref14_Graph_Order.l0, if_pos (by omega)]
  rw [orderFrom]
  exact H'
theorem order_f (xs : List S73) (hs : Small xs) : Fin (fun k => budwoodref14_Graph_Order.f k xs) (order xs) := by
 have hl := hs.1
 have := order_l0 xs hs xs.length 0 [] (by omega) (by simp; omega)
 simpa [budwoodref14_Graph_Order.f, order] using this
end Go.Proofs.Ytaomemhnjpemiaa.Doc
/- Rising texts: the order of bytes, sets, and how many of them there are. -/
namespace Go.Proofs.Ytaomemhnjpemiaa.Doc
open Go.RowKit Go.Proofs.YtaomemhnjpemiaaW.PrintWords Go.Proofs.Ytaomemhnjpemiaa.PB
set_option linter.unusedVariables false
set_option linter.unusedSimpArgs false

theorem bl_irrefl : ∀ (x : List UInt8), Op.bytesLess x x = false
 | [] => rfl
 | a :: x => by
  rw [Op.bytesLess, bl_irrefl x]
  simp only [Bool.and_false, Bool.or_false, decide_eq_false_iff_not]
  exact UInt8.lt_irrefl a
theorem bl_cons {a b : UInt8} {x y : List UInt8} : Op.bytesLess (a :: x) (b :: y) = true ↔ a.toNat < b.toNat ∨ (a.toNat = b.toNat ∧ Op.bytesLess x y = true) := by
 rw [Op.bytesLess]
 simp only [Bool.or_eq_true, decide_eq_true_eq, Bool.and_eq_true, beq_iff_eq]
 constructor
 ·rintro (h | ⟨h1, h2⟩)
  ·exact Or.inl (UInt8.lt_iff_toNat_lt.1 h)
  ·exact Or.inr ⟨by rw [h1], h2⟩
 ·rintro (h | ⟨h1, h2⟩)
  ·exact Or.inl (UInt8.lt_iff_toNat_lt.2 h)
  ·exact Or.inr ⟨UInt8.toNat_inj.1 h1, h2⟩
theorem bl_trans : ∀ (x y z : List UInt8), Op.bytesLess x y = true → Op.bytesLess y z = true → Op.bytesLess x z = true
 | _, [], _, h, _ => by simp [Op.bytesLess] at h
 | _, _ :: _, [], _, h => by simp [Op.bytesLess] at h
 | [], _ :: _, _ :: _, _, _ => rfl
 | a :: x, b :: y, c :: z, h1, h2 => by
  rw [bl_cons] at h1 h2 ⊢
  rcases h1 with h1 | ⟨h1, h1'⟩ <;> rcases h2 with h2 | ⟨h2, h2'⟩
  ·exact Or.inl (by omega)
  ·exact Or.inl (by omega)
  ·exact Or.inl (by omega)
  ·exact Or.inr ⟨by omega, bl_trans x y z h1' h2'⟩
theorem bl_tri : ∀ (x y : List UInt8), Op.bytesLess x y = true ∨ x = y ∨ Op.bytesLess y x = true
 | [], [] => Or.inr (Or.inl rfl)
 | [], _ :: _ => Or.inl rfl
 | _ :: _, [] => Or.inr (Or.inr rfl)
 | a :: x, b :: y => by
  rw [bl_cons, bl_cons]
  rcases Nat.lt_trichotomy a.toNat b.toNat with h | h | h
  ·exact Or.inl (Or.inl h)
  ·rcases bl_tri x y with h' | h' | h'
   ·exact Or.inl (Or.inr ⟨h, h'⟩)
   ·exact Or.inr (Or.inl (by rw [UInt8.toNat_inj.1 h, h']))
   ·exact Or.inr (Or.inr (Or.inr ⟨h.symm, h'⟩))
  ·exact Or.inr (Or.inr (Or.inl h))
theorem less_irrefl (a : ByteArray) : less a a = false := bl_irrefl _
theorem less_trans {a b c : ByteArray} (h : less a b = true) (h' : less b c = true) : less a c = true := bl_trans _ _ _ h h'
theorem less_tri (a b : ByteArray) : less a b = true ∨ a = b ∨ less b a = true := by
 rcases bl_tri a.toList b.toList with h | h | h
 ·exact Or.inl h
 ·exact Or.inr (Or.inl (bytes_eq.1 h))
 ·exact Or.inr (Or.inr h)
theorem less_asymm {a b : ByteArray} (h : less a b = true) : less b a = false := by
 cases e : less b a with
 | false => rfl
 | true => have := less_trans h e; rw [less_irrefl] at this; cases this

/-- rising, each once -/
def Up (xs : List ByteArray) : Prop := xs.Pairwise (fun a b => less a b = true)
theorem insAt_up (a : ByteArray) (xs : List ByteArray) (h : Up xs) (ha : a ∉ xs) : Up (insAt a xs) := by
 induction xs with
 | nil => simp [insAt, Up]
 | cons x xs ih =>
  rw [Up, List.pairwise_cons] at h
  rw [insAt]
  simp only [List.mem_cons, not_or] at ha
  split
  ·rename_i e
   rw [Up, List.pairwise_cons]
   refine ⟨fun b hb => ?_, ih h.2 ha.2⟩
   rcases (insAt_mem a b xs).1 hb with rfl | hb
   ·exact e
   ·exact h.1 b hb
  ·rename_i e
   have hax : less a x = true := by
    rcases less_tri a x with h' | h' | h'
    ·exact h'
    ·exact (ha.1 h').elim
    ·exact (e h').elim
   rw [Up, List.pairwise_cons]
   refine ⟨fun b hb => ?_, List.pairwise_cons.2 h⟩
   rcases List.mem_cons.1 hb with rfl | hb
   ·exact hax
   ·exact less_trans hax (h.1 b hb)
theorem setIn_up (a : ByteArray) (xs : List ByteArray) (h : Up xs) : Up (setIn xs a) := by
 rw [setIn]; split
 ·exact h
 ·rename_i e; exact insAt_up a xs h e
theorem fold_up (l xs : List ByteArray) (h : Up xs) : Up (l.foldl setIn xs) := by
 induction l generalizing xs with
 | nil => exact h
 | cons a l ih => exact ih _ (setIn_up a xs h)
theorem setOf_up (l : List ByteArray) : Up (setOf l) := fold_up l [] List.Pairwise.nil
theorem Up.nodup {xs : List ByteArray} (h : Up xs) : xs.Nodup := by
 refine List.Pairwise.imp ?_ h
 intro a b h e
 subst e
 rw [less_irrefl] at h; cases h
/-- two rising rows of the same texts are one -/
theorem Up.ext : ∀ {xs ys : List ByteArray}, Up xs → Up ys → (∀ a, a ∈ xs ↔ a ∈ ys) → xs = ys
 | [], [], _, _, _ => rfl
 | [], y :: ys, _, _, h => by have := (h y).2 (by simp); cases this
 | x :: xs, [], _, _, h => by have := (h x).1 (by simp); cases this
 | x :: xs, y :: ys, hx, hy, h => by
  rw [Up, List.pairwise_cons] at hx hy
  have e : x = y := by
   rcases List.mem_cons.1 ((h x).1 (by simp)) with e | h1
   ·exact e
   ·rcases List.mem_cons.1 ((h y).2 (by simp)) with e | h2
    ·exact e.symm
    ·have := less_trans (hx.1 y h2) (hy.1 x h1)
     rw [less_irrefl] at this; cases this
  subst e
  congr 1
  refine Up.ext hx.2 hy.2 (fun a => ?_)
  constructor
  ·intro ha
   rcases List.mem_cons.1 ((h a).1 (by simp [ha])) with e | h1
   ·subst e; have := hx.1 a ha; rw [less_irrefl] at this; cases this
   ·exact h1
  ·intro ha
   rcases List.mem_cons.1 ((h a).2 (by simp [ha])) with e | h1
   ·subst e; have := hy.1 a ha; rw [less_irrefl] at this; cases this
   ·exact h1
theorem nodup_len : ∀ {xs ys : List ByteArray}, xs.Nodup → (∀ a ∈ xs, a ∈ ys) → xs.length ≤ ys.length
 | [], _, _, _ => by simp
 | x :: xs, ys, hx, h => by
  have h1 := h x (by simp)
  obtain ⟨s, t, rfl⟩ := List.append_of_mem h1
  have hx' := List.nodup_cons.1 hx
  have := nodup_len (xs := xs) (ys := s ++ t) hx'.2 (fun a ha => by
   have h2 := h a (by simp [ha])
   have h3 : a ≠ x := fun e => hx'.1 (e ▸ ha)
   simp only [List.mem_append, List.mem_cons] at h2 ⊢
   rcases h2 with h2 | h2 | h2
   ·exact Or.inl h2
   ·exact (h3 h2).elim
   ·exact Or.inr h2)
  simp only [List.length_cons, List.length_append] at this ⊢
  omega
end Go.Proofs.Ytaomemhnjpemiaa.Doc
/- What a node reaches: the document's rounds are the paths. -/
namespace Go.Proofs.Ytaomemhnjpemiaa.Doc
open Go.RowKit Go.Proofs.YtaomemhnjpemiaaW.PrintWords Go.Proofs.Ytaomemhnjpemiaa.PB
set_option linter.unusedVariables false
set_option linter.unusedSimpArgs false

/-- rising names; what they stand on rises and is there -/
structure Good (g : List S73) : Prop where
 up : Up (names g)
 deps : ∀ n ∈ g, Up n.f1 ∧ ∀ d ∈ n.f1, d ∈ names g
/-- a way from one node to another, of one step or more -/
inductive Path (g : List S73) : ByteArray → ByteArray → Prop
 | one {a b : ByteArray} : b ∈ depsOf g a → Path g a b
 | step {a b c : ByteArray} : b ∈ depsOf g a → Path g b c → Path g a c
theorem Path.snoc {g : List S73} {a b c : ByteArray} (h : Path g a b) (h' : c ∈ depsOf g b) : Path g a c := by
 induction h with
 | one h => exact .step h (.one h')
 | step h _ ih => exact .step h (ih h')
theorem Path.trans {g : List S73} {a b c : ByteArray} (h : Path g a b) (h' : Path g b c) : Path g a c := by
 induction h with
 | one h => exact .step h h'
 | step h _ ih => exact .step h (ih h')
theorem depsOf_in {g : List S73} {a : ByteArray} : depsOf g a = [] ∨ ∃ n ∈ g, n.f0 = a ∧ depsOf g a = n.f1 := by
 induction g with
 | nil => exact Or.inl rfl
 | cons n g ih =>
  rw [depsOf]
  by_cases e : n.f0 = a
  ·rw [if_pos e]; exact Or.inr ⟨n, by simp, e, rfl⟩
  ·rw [if_neg e]
   rcases ih with h | ⟨m, h1, h2, h3⟩
   ·exact Or.inl h
   ·exact Or.inr ⟨m, by simp [h1], h2, h3⟩
theorem Good.sub {g : List S73} (G : Good g) {a d : ByteArray} (h : d ∈ depsOf g a) : d ∈ names g := by
 rcases depsOf_in (g := g) (a := a) with e | ⟨n, h1, _, e⟩
 ·rw [e] at h; cases h
 ·rw [e] at h; exact (G.deps n h1).2 d h
theorem Good.depsUp {g : List S73} (G : Good g) (a : ByteArray) : Up (depsOf g a) := by
 rcases depsOf_in (g := g) (a := a) with e | ⟨n, h1, _, e⟩
 ·rw [e]; exact List.Pairwise.nil
 ·rw [e]; exact (G.deps n h1).1
theorem names_len (g : List S73) : (names g).length = g.length := by simp [names]
def round (g : List S73) (l : List ByteArray) : List ByteArray := setOf (l ++ l.flatMap (depsOf g))
def rounds (g : List S73) : Nat → List ByteArray → List ByteArray
 | 0, l => l
 | n + 1, l => rounds g n (round g l)
def reached (g : List S73) (a : ByteArray) : List ByteArray := rounds g (g.length + 1) (depsOf g a)
theorem round_mem {g : List S73} {l : List ByteArray} {b : ByteArray} : b ∈ round g l ↔ b ∈ l ∨ ∃ x ∈ l, b ∈ depsOf g x := by
 rw [round, setOf_mem, List.mem_append, List.mem_flatMap]
theorem round_sub {g : List S73} (G : Good g) {l : List ByteArray} (h : ∀ b ∈ l, b ∈ names g) : ∀ b ∈ round g l, b ∈ names g := by
 intro b hb
 rcases round_mem.1 hb with h1 | ⟨x, _, h2⟩
 ·exact h b h1
 ·exact G.sub h2
def Shut (g : List S73) (l : List ByteArray) : Prop := ∀ x ∈ l, ∀ d ∈ depsOf g x, d ∈ l
theorem rounds_of_shut (g : List S73) : ∀ (n : Nat) (l : List ByteArray), Shut g l → Shut g (rounds g n l)
 | 0, l, h => h
 | n + 1, l, h => by
  refine rounds_of_shut g n (round g l) (fun x hx d hd => ?_)
  have hx' : x ∈ l := by
   rcases round_mem.1 hx with h1 | ⟨y, h1, h2⟩
   ·exact h1
   ·exact h y h1 x h2
  exact round_mem.2 (Or.inl (h x hx' d hd))
theorem rounds_shut {g : List S73} (G : Good g) : ∀ (n : Nat) (l : List ByteArray), Up l → (∀ b ∈ l, b ∈ names g) → g.length < l.length + n → Shut g (rounds g n l)
 | 0, l, hu, hs, hl => by
  have := nodup_len hu.nodup hs
  rw [names_len] at this; omega
 | n + 1, l, hu, hs, hl => by
  by_cases e : Shut g l
  ·exact rounds_of_shut g (n + 1) l e
  ·have e' : ∃ x ∈ l, ∃ d ∈ depsOf g x, d ∉ l := by
    refine Classical.byContradiction fun h => e (fun x hx d hd => ?_)
    refine Classical.byContradiction fun h' => h ⟨x, hx, d, hd, h'⟩
   obtain ⟨x, hx, d, hd, hn⟩ := e'
   have := nodup_len (xs := d :: l) (ys := round g l) (List.nodup_cons.2 ⟨hn, hu.nodup⟩) (fun b hb => by
    rcases List.mem_cons.1 hb with rfl | hb
    ·exact round_mem.2 (Or.inr ⟨x, hx, hd⟩)
    ·exact round_mem.2 (Or.inl hb))
   simp only [List.length_cons] at this
   exact rounds_shut G n (round g l) (setOf_up _) (round_sub G hs) (by omega)
theorem rounds_grow (g : List S73) : ∀ (n : Nat) (l : List ByteArray), ∀ b ∈ l, b ∈ rounds g n l
 | 0, l, b, h => h
 | n + 1, l, b, h => rounds_grow g n _ b (round_mem.2 (Or.inl h))
theorem rounds_path (g : List S73) (a : ByteArray) : ∀ (n : Nat) (l : List ByteArray), (∀ b ∈ l, Path g a b) → ∀ b ∈ rounds g n l, Path g a b
 | 0, l, h, b, hb => h b hb
 | n + 1, l, h, b, hb => rounds_path g a n (round g l) (fun c hc => by
   rcases round_mem.1 hc with h1 | ⟨x, h1, h2⟩
   ·exact h c h1
   ·exact (h x h1).snoc h2) b hb
/-- the document's rounds find just what there is a way to -/
theorem reached_iff {g : List S73} (G : Good g) (a b : ByteArray) : b ∈ reached g a ↔ Path g a b := by
 constructor
 ·exact rounds_path g a _ _ (fun c hc => .one hc) b
 ·have hS := rounds_shut G (g.length + 1) (depsOf g a) (G.depsUp a) (fun b hb => G.sub hb) (by omega)
  have key : ∀ {x c : ByteArray}, Path g x c → (∀ d ∈ depsOf g x, d ∈ reached g a) → c ∈ reached g a := by
   intro x c h
   induction h with
   | one h => exact fun H => H _ h
   | step h _ ih => exact fun H => ih (fun d hd => hS _ (H _ h) d hd)
  exact fun h => key h (fun d hd => rounds_grow g _ _ d hd)

theorem Good.depsLen {g : List S73} (G : Good g) (a : ByteArray) : (depsOf g a).length ≤ g.length := by
 have := nodup_len (G.depsUp a).nodup (fun b hb => G.sub hb)
 rwa [names_len] at this
theorem reached_l1 (xs : List S73) (G : Good xs) (hs : xs.length ≤ 1000) (l : List ByteArray) (hl : l.length ≤ 1000) (j : Nat) (hj : j ≤ xs.length) (r : List ByteArray) : ∀ (d i : Nat) (more : List ByteArray), l.length = i + d → more.length + 1000 * d ≤ 2000000 →
  Fin (fun k => budwoodref14_Graph_Reached.l0 k (setOf (more ++ (l.drop i).flatMap (depsOf xs))) ((j + 1 : Nat) : Int) xs) r →
  Fin (fun k => budwoodref14_Graph_Reached.l1 k l (j : Int) more (i : Int) xs) r
 | 0, i, more, h, hm, ⟨K, H⟩ => by
  obtain ⟨K', H'⟩ := set_f more (by omega)
  refine ⟨K + K' + 1, fun k hk => ?_⟩
  obtain ⟨k, rfl⟩ : ∃ k', k = k' + 1 := ⟨k - 1, by omega⟩
  have H1 := H k (by omega)
  have H2 := H' k (by omega)
  simp only at H1 H2 ⊢
  rw [List.drop_eq_nil_of_le (by omega), List.flatMap_nil, List.append_nil] at H1
  rw [budwoodref14_Graph_Reached.l1, if_neg (by omega), H2, Option.bind_some, w64 j (by omega)]
  exact H1
 | d + 1, i, more, h, hm, ⟨K, H⟩ => by
  have hd := rd_drop l i (by omega)
  have hb := G.depsLen (rdOf ByteArray.empty l (i : Int))
  obtain ⟨K', H'⟩ := reached_l1 xs G hs l hl j hj r d (i + 1) (more ++ depsOf xs (rdOf ByteArray.empty l (i : Int))) (by omega) (by simp; omega) ⟨K, fun k hk => by
   have H1 := H k hk
   simp only at H1 ⊢
   rw [hd, List.flatMap_cons, ← List.append_assoc] at H1
   exact H1⟩
  refine ⟨K' + 1002, fun k hk => ?_⟩
  obtain ⟨k, rfl⟩ : ∃ k', k = k' + 1 := ⟨k - 1, by omega⟩
  have H1 := H' k (by omega)
  simp only at H1 ⊢
  rw [budwoodref14_Graph_Reached.l1, if_pos (by omega), if_pos (by omega), deps_f _ _ (by omega) k (by omega), Option.bind_some, if_pos (by omega), w64 i (by omega)]
  exact H1
theorem reached_l0 (xs : List S73) (G : Good xs) (hs : xs.length ≤ 1000) : ∀ (d j : Nat) (l : List ByteArray), xs.length + 1 = j + d → Up l → (∀ b ∈ l, b ∈ names xs) → Fin (fun k => budwoodref14_Graph_Reached.l0 k l (j : Int) xs) (rounds xs d l)
 | 0, j, l, h, hu, hn => ⟨1, fun k hk => by
  obtain ⟨k, rfl⟩ : ∃ k', k = k' + 1 := ⟨k - 1, by omega⟩
  simp only
  rw [budwoodref14_Graph_Reached.l0, if_neg (by omega)]; rfl⟩
 | d + 1, j, l, h, hu, hn => by
  have hl := nodup_len hu.nodup hn
  rw [names_len] at hl
  have IH := reached_l0 xs G hs d (j + 1) (round xs l) (by omega) (setOf_up _) (round_sub G hn)
  obtain ⟨K, H⟩ := reached_l1 xs G hs l (by omega) j (by omega) _ l.length 0 l (by omega) (by omega) (by simpa [round] using IH)
  refine ⟨K + 1, fun k hk => ?_⟩
  obtain ⟨k, rfl⟩ : ∃ k', k = k' + 1 := ⟨k - 1, by omega⟩
  have H' := H k (by omega)
  simp only at H' ⊢
  rw [budwoodref14_Graph_Reached.l0, if_pos (by omega), Option.bind_some, if_pos (by simp; omega)]
  exact H'
theorem reached_f (xs : List S73) (G : Good xs) (hs : xs.length ≤ 1000) (a : ByteArray) : Fin (fun k => budwoodref14_Graph_Reached.f k xs a) (reached xs a) := by
 obtain ⟨K, H⟩ := reached_l0 xs G hs (xs.length + 1) 0 (depsOf xs a) (by omega) (G.depsUp a) (fun b hb => G.sub hb)
 refine ⟨K + 1002, fun k hk => ?_⟩
 have H' := H k (by omega)
 simp only at H' ⊢
 rw [budwoodref14_Graph_Reached.f, deps_f _ _ (by omega) k (by omega), Option.bind_some]
 exact H'
end Go.Proofs.Ytaomemhnjpemiaa.Doc
/- The document's graph: what a change leaves; the order. -/
namespace Go.Proofs.Ytaomemhnjpemiaa.Doc
open Go.RowKit Go.Proofs.YtaomemhnjpemiaaW.PrintWords Go.Proofs.Ytaomemhnjpemiaa.PB
set_option linter.unusedVariables false
set_option linter.unusedSimpArgs false

theorem in_reached {g : List S73} (G : Good g) (a : ByteArray) : (reached g a).length ≤ g.length := by
 have hs : ∀ (n : Nat) (l : List ByteArray), Up l → (∀ b ∈ l, b ∈ names g) → Up (rounds g n l) ∧ ∀ b ∈ rounds g n l, b ∈ names g := by
  intro n
  induction n with
  | zero => exact fun l h1 h2 => ⟨h1, h2⟩
  | succ n ih => exact fun l h1 h2 => ih _ (setOf_up _) (round_sub G h2)
 obtain ⟨h1, h2⟩ := hs (g.length + 1) _ (G.depsUp a) (fun b hb => G.sub hb)
 have := nodup_len h1.nodup h2
 rwa [names_len] at this
theorem reaches_f (xs : List S73) (G : Good xs) (hs : xs.length ≤ 1000) (a b : ByteArray) : Fin (fun k => budwoodref14_Graph_Reaches.f k xs a b) (decide (a ∈ names xs) && (decide (b ∈ names xs) && decide (b ∈ reached xs a))) := by
 obtain ⟨K, H⟩ := reached_f xs G hs a
 have hl := in_reached G a
 refine ⟨K + 2002, fun k hk => ?_⟩
 have H' := H k (by omega)
 simp only at H' ⊢
 rw [budwoodref14_Graph_Reaches.f, has_f _ _ (by omega) k (by omega), has_f _ _ (by omega) k (by omega), H', Option.bind_some, Option.bind_some, Option.bind_some, in_f _ _ (by omega) k (by omega), Option.bind_some]
 by_cases h1 : a ∈ names xs <;> by_cases h2 : b ∈ names xs <;> simp [h1, h2]

theorem with_mem (m : S73) (g : List S73) (n : S73) : n ∈ with_ m g ↔ n = m ∨ n ∈ g := by
 induction g with
 | nil => simp [with_]
 | cons x g ih =>
  rw [with_]; split
  ·simp only [List.mem_cons, ih]; constructor
   ·rintro (h | h | h) <;> simp [h]
   ·rintro (h | h | h) <;> simp [h]
  ·simp
theorem names_with (m : S73) (g : List S73) : names (with_ m g) = insAt m.f0 (names g) := by
 induction g with
 | nil => rfl
 | cons x g ih =>
  rw [with_]
  simp only [names, List.map_cons, insAt] at ih ⊢
  split
  ·rw [List.map_cons, ih]
  ·rfl
theorem names_without (g : List S73) (a : ByteArray) : names (without g a) = (names g).filter (fun b => decide (b ≠ a)) := by
 simp only [names, without, List.filter_map]; rfl
theorem depsOf_at {g : List S73} (U : (names g).Nodup) {n : S73} (h : n ∈ g) : depsOf g n.f0 = n.f1 := by
 induction g with
 | nil => cases h
 | cons x g ih =>
  simp only [names, List.map_cons] at U
  rw [List.nodup_cons] at U
  rw [depsOf]
  rcases List.mem_cons.1 h with rfl | h
  ·rw [if_pos rfl]
  ·have hne : ¬ x.f0 = n.f0 := fun e => U.1 (by rw [e]; exact List.mem_map.2 ⟨n, h, rfl⟩)
   rw [if_neg hne]; exact ih U.2 h
theorem depsOf_cons (n : S73) (g : List S73) (a : ByteArray) : depsOf (n :: g) a = if n.f0 = a then n.f1 else depsOf g a := rfl
theorem depsOf_with (m : S73) (g : List S73) (h : m.f0 ∉ names g) (a : ByteArray) : depsOf (with_ m g) a = if m.f0 = a then m.f1 else depsOf g a := by
 induction g with
 | nil => rfl
 | cons x g ih =>
  simp only [names, List.map_cons, List.mem_cons, not_or] at h
  rw [with_]; split
  ·rw [depsOf_cons, depsOf_cons, ih h.2]
   by_cases e : x.f0 = a
   ·rw [if_pos e, if_pos e, if_neg (fun e' => h.1 (e'.trans e.symm))]
   ·rw [if_neg e, if_neg e]
  ·rfl
theorem depsOf_without (g : List S73) (b a : ByteArray) : depsOf (without g b) a = if a = b then [] else depsOf g a := by
 induction g with
 | nil => simp [without, depsOf]
 | cons x g ih =>
  simp only [without] at ih
  rw [without, List.filter_cons]
  by_cases e : x.f0 = b
  ·rw [if_neg (by simp [e]), ih, depsOf_cons]
   by_cases e' : a = b
   ·rw [if_pos e', if_pos e']
   ·rw [if_neg e', if_neg e', if_neg (fun h => e' (h.symm.trans e))]
  ·rw [if_pos (by simp [e]), depsOf_cons, depsOf_cons, ih]
   by_cases e' : a = b
   ·rw [if_pos e', if_neg (fun h => e (h.trans e')), if_pos e']
   ·rw [if_neg e', if_neg e']
theorem Good.with_ {g : List S73} (G : Good g) (m : S73) (h : m.f0 ∉ names g) (hu : Up m.f1) (hd : ∀ d ∈ m.f1, d ∈ names g ∨ d = m.f0) : Good (with_ m g) := by
 refine ⟨?_, fun n hn => ?_⟩
 ·rw [names_with]; exact insAt_up _ _ G.up h
 ·rcases (with_mem m g n).1 hn with rfl | hn
  ·refine ⟨hu, fun d h' => ?_⟩
   rw [names_with, insAt_mem]
   exact (hd d h').symm
  ·refine ⟨(G.deps n hn).1, fun d h' => ?_⟩
   rw [names_with, insAt_mem]
   exact Or.inr ((G.deps n hn).2 d h')
theorem dependents_mem {g : List S73} {a b : ByteArray} : b ∈ dependents g a ↔ ∃ n ∈ g, n.f0 = b ∧ a ∈ n.f1 := by
 simp only [dependents, names, List.mem_map, List.mem_filter, decide_eq_true_eq]
 constructor
 ·rintro ⟨n, ⟨h1, h2⟩, h3⟩; exact ⟨n, h1, h3, h2⟩
 ·rintro ⟨n, h1, h2, h3⟩; exact ⟨n, ⟨h1, h3⟩, h2⟩
theorem Good.without {g : List S73} (G : Good g) (a : ByteArray) (h : dependents g a = []) : Good (without g a) := by
 refine ⟨?_, fun n hn => ?_⟩
 ·rw [names_without]; exact List.Pairwise.filter _ G.up
 ·have hn' := (List.mem_filter.1 hn).1
  refine ⟨(G.deps n hn').1, fun d hd => ?_⟩
  rw [names_without, List.mem_filter]
  refine ⟨(G.deps n hn').2 d hd, decide_eq_true (fun e => ?_)⟩
  have : n.f0 ∈ dependents g a := dependents_mem.2 ⟨n, hn', rfl, e ▸ hd⟩
  rw [h] at this; cases this

theorem orderFrom_still (g : List S73) (out : List ByteArray) (h : orderStep g out = out) : ∀ n, orderFrom g n out = out
 | 0 => rfl
 | n + 1 => by rw [orderFrom, h]; exact orderFrom_still g out h n
theorem orderFrom_add (g : List S73) : ∀ (m n : Nat) (out : List ByteArray), orderFrom g (m + n) out = orderFrom g n (orderFrom g m out)
 | 0, n, out => by rw [Nat.zero_add]; rfl
 | m + 1, n, out => by rw [show m + 1 + n = (m + n) + 1 by omega, orderFrom, orderFrom]; exact orderFrom_add g m n _
/-- no node reaches itself -/
def NoRound (g : List S73) : Prop := ∀ a, ¬ Path g a a
/-- where a node has not come yet, one may come -/
theorem some_ready {g : List S73} (G : Good g) (N : NoRound g) (out : List ByteArray) (a : ByteArray) (ha : a ∈ names g) (hn : a ∉ out) : ∃ n ∈ g, isReady n out = true := by
 refine Classical.byContradiction fun hno => ?_
 have next : ∀ x ∈ names g, x ∉ out → ∃ d ∈ depsOf g x, d ∉ out := by
  intro x hx hxo
  refine Classical.byContradiction fun h => hno ?_
  obtain ⟨n, h1, rfl⟩ := List.mem_map.1 hx
  have h3 := depsOf_at G.up.nodup h1
  refine ⟨n, h1, ?_⟩
  have : ∀ d ∈ n.f1, d ∈ out := fun d hd => Classical.byContradiction fun h' => h ⟨d, by rw [h3]; exact hd, h'⟩
  have hxo' : n.f0 ∉ out := hxo
  rw [isReady, decide_eq_true this]
  simp [hxo']
 have chain : ∀ n : Nat, ∃ (x : ByteArray) (xs : List ByteArray), xs.length = n ∧ (∀ y ∈ x :: xs, y ∈ names g ∧ y ∉ out) ∧ (x :: xs).Pairwise (fun p q => Path g q p) := by
  intro n
  induction n with
  | zero => exact ⟨a, [], rfl, by simp [ha, hn], by simp⟩
  | succ n ih =>
   obtain ⟨x, xs, h1, h2, h3⟩ := ih
   obtain ⟨d, hd, hdo⟩ := next x (h2 x (by simp)).1 (h2 x (by simp)).2
   refine ⟨d, x :: xs, by simp [h1], ?_, ?_⟩
   ·intro y hy
    rcases List.mem_cons.1 hy with rfl | hy
    ·exact ⟨G.sub hd, hdo⟩
    ·exact h2 y hy
   ·rw [List.pairwise_cons]
    refine ⟨fun q hq => ?_, h3⟩
    rcases List.mem_cons.1 hq with rfl | hq
    ·exact .one hd
    ·exact ((List.pairwise_cons.1 h3).1 q hq).snoc hd
 obtain ⟨x, xs, h1, h2, h3⟩ := chain g.length
 have hnd : (x :: xs).Nodup := List.Pairwise.imp (fun {p q} h e => by subst e; exact N _ h) h3
 have := nodup_len hnd (fun y hy => (h2 y hy).1)
 rw [names_len] at this
 simp only [List.length_cons] at this
 omega
end Go.Proofs.Ytaomemhnjpemiaa.Doc
/- The document's graph: what Add, Remove and Turn leave is rightly made, and goes in no round. -/
namespace Go.Proofs.Ytaomemhnjpemiaa.Doc
open Go.RowKit Go.Proofs.YtaomemhnjpemiaaW.PrintWords Go.Proofs.Ytaomemhnjpemiaa.PB
set_option linter.unusedVariables false
set_option linter.unusedSimpArgs false

theorem Path.mono {g h : List S73} (H : ∀ a b, b ∈ depsOf g a → b ∈ depsOf h a) {a b : ByteArray} (p : Path g a b) : Path h a b := by
 induction p with
 | one h => exact .one (H _ _ h)
 | step h _ ih => exact .step (H _ _ h) ih
theorem Path.last {g : List S73} {a b : ByteArray} (p : Path g a b) : ∃ c, b ∈ depsOf g c := by
 induction p with
 | one h => exact ⟨_, h⟩
 | step _ _ ih => exact ih
theorem NoRound.without {g : List S73} (N : NoRound g) (a : ByteArray) : NoRound (without g a) := by
 intro x p
 refine N x (p.mono (fun y b h => ?_))
 rw [depsOf_without] at h
 split at h
 ·cases h
 ·exact h
/-- a graph whose one node's row is another one -/
theorem round_of {g h : List S73} (a : ByteArray) (H : ∀ x, x ≠ a → depsOf h x = depsOf g x) (N : NoRound g) (D : ∀ d ∈ depsOf h a, d ≠ a ∧ ¬ Path g d a) : NoRound h := by
 have back : ∀ {d y : ByteArray}, Path h d y → y = a → d ≠ a → Path g d a := by
  intro d y p
  induction p with
  | one e => intro hy hd; subst hy; exact .one (by rw [← H _ hd]; exact e)
  | @step d b c e _ ih =>
   intro hy hd
   by_cases hb : b = a
   ·subst hb; exact .one (by rw [← H _ hd]; exact e)
   ·exact .step (by rw [← H _ hd]; exact e) (ih hy hb)
 have at_a : ¬ Path h a a := by
  intro p
  cases p with
  | one e => exact (D _ e).1 rfl
  | step e p => exact (D _ e).2 (back p rfl (D _ e).1)
 have part : ∀ {x y : ByteArray}, Path h x y → x ≠ a → Path g x y ∨ (Path h x a ∧ (a = y ∨ Path h a y)) := by
  intro x y p
  induction p with
  | one e => intro hx; exact Or.inl (.one (by rw [← H _ hx]; exact e))
  | @step x b c e p ih =>
   intro hx
   by_cases hb : b = a
   ·subst hb; exact Or.inr ⟨.one e, Or.inr p⟩
   ·rcases ih hb with h1 | ⟨h1, h2⟩
    ·exact Or.inl (.step (by rw [← H _ hx]; exact e) h1)
    ·exact Or.inr ⟨.step e h1, h2⟩
 intro x p
 by_cases hx : x = a
 ·subst hx; exact at_a p
 ·rcases part p hx with h1 | ⟨h1, h2⟩
  ·exact N x h1
  ·rcases h2 with h2 | h2
   ·exact hx h2.symm
   ·exact at_a (h2.trans h1)
theorem NoRound.with_ {g : List S73} (G : Good g) (N : NoRound g) (m : S73) (h : m.f0 ∉ names g) (hd : ∀ d ∈ m.f1, d ∈ names g) : NoRound (with_ m g) := by
 refine round_of m.f0 (fun x hx => ?_) N (fun d hd' => ?_)
 ·rw [depsOf_with m g h, if_neg (fun e => hx e.symm)]
 ·rw [depsOf_with m g h, if_pos rfl] at hd'
  refine ⟨fun e => h (e ▸ hd d hd'), fun p => ?_⟩
  obtain ⟨c, hc⟩ := p.last
  exact h (G.sub hc)
/-- a node with another row -/
def turn (g : List S73) (a : ByteArray) (ds : List ByteArray) : List S73 := Doc.with_ ⟨a, setOf ds⟩ (Doc.without g a)
theorem not_without (g : List S73) (a : ByteArray) : a ∉ names (without g a) := by
 rw [names_without, List.mem_filter]; rintro ⟨_, h⟩; simp at h
theorem depsOf_turn (g : List S73) (a : ByteArray) (ds : List ByteArray) (x : ByteArray) : depsOf (turn g a ds) x = if a = x then setOf ds else depsOf g x := by
 rw [turn, depsOf_with _ _ (not_without g a), depsOf_without]
 by_cases e : a = x
 ·rw [if_pos e, if_pos e]
 ·rw [if_neg e, if_neg e, if_neg (fun h => e h.symm)]
theorem names_turn {g : List S73} (G : Good g) (a : ByteArray) (ha : a ∈ names g) (ds : List ByteArray) : names (turn g a ds) = names g := by
 refine Up.ext ?_ G.up (fun b => ?_)
 ·rw [turn, names_with]
  refine insAt_up _ _ ?_ (not_without g a)
  rw [names_without]; exact List.Pairwise.filter _ G.up
 ·rw [turn, names_with, insAt_mem, names_without, List.mem_filter]
  constructor
  ·rintro (rfl | ⟨h, _⟩)
   ·exact ha
   ·exact h
  ·intro h
   by_cases e : b = a
   ·exact Or.inl e
   ·exact Or.inr ⟨h, decide_eq_true e⟩
theorem Good.turn {g : List S73} (G : Good g) (a : ByteArray) (ha : a ∈ names g) (ds : List ByteArray) (hd : ∀ d ∈ ds, d ∈ names g) : Good (turn g a ds) := by
 have hN := names_turn G a ha ds
 refine ⟨by rw [hN]; exact G.up, fun n hn => ?_⟩
 rw [hN]
 rcases (with_mem _ _ _).1 hn with rfl | hn
 ·exact ⟨setOf_up _, fun d h => hd d ((setOf_mem _ _).1 h)⟩
 ·exact G.deps n (List.mem_filter.1 hn).1
theorem NoRound.turn {g : List S73} (N : NoRound g) (a : ByteArray) (ds : List ByteArray) (hd : ∀ d ∈ ds, d ≠ a ∧ ¬ Path g d a) : NoRound (turn g a ds) := by
 refine round_of a (fun x hx => ?_) N (fun d h => ?_)
 ·rw [depsOf_turn, if_neg (fun e => hx e.symm)]
 ·rw [depsOf_turn, if_pos rfl] at h
  exact hd d ((setOf_mem _ _).1 h)
end Go.Proofs.Ytaomemhnjpemiaa.Doc
/- The order has each node once, behind what it stands on; a search in depth finds the ways. -/
namespace Go.Proofs.Ytaomemhnjpemiaa.Doc
open Go.RowKit Go.Proofs.YtaomemhnjpemiaaW.PrintWords Go.Proofs.Ytaomemhnjpemiaa.PB
set_option linter.unusedVariables false
set_option linter.unusedSimpArgs false

/-- texts come each once, each a node, each behind what it stands on (the last one first, reversed) -/
inductive Come (g : List S73) : List ByteArray → Prop
 | nil : Come g []
 | snoc {out : List ByteArray} {a : ByteArray} : Come g out → a ∈ names g → a ∉ out → (∀ d ∈ depsOf g a, d ∈ out) → Come g (out ++ [a])
theorem come_step {g : List S73} (G : Good g) {out : List ByteArray} (h : Come g out) : Come g (orderStep g out) := by
 rw [orderStep]
 split
 ·exact h
 ·rename_i n e
  have h1 := List.mem_of_find?_eq_some e
  have h2 := List.find?_some e
  simp only [isReady, Bool.and_eq_true, decide_eq_true_eq, Bool.not_eq_true', decide_eq_false_iff_not] at h2
  refine .snoc h (List.mem_map.2 ⟨n, h1, rfl⟩) h2.2 ?_
  rw [depsOf_at G.up.nodup h1]; exact h2.1
theorem come_from {g : List S73} (G : Good g) : ∀ (n : Nat) (out : List ByteArray), Come g out → Come g (orderFrom g n out)
 | 0, out, h => h
 | n + 1, out, h => come_from G n _ (come_step G h)
theorem order_come {g : List S73} (G : Good g) : Come g (order g) := come_from G _ _ .nil
theorem Come.names {g : List S73} {out : List ByteArray} (h : Come g out) : ∀ a ∈ out, a ∈ Doc.names g := by
 induction h with
 | nil => simp
 | snoc _ h1 _ _ ih =>
  intro a ha
  rcases List.mem_append.1 ha with h | h
  ·exact ih a h
  ·rw [List.mem_singleton] at h; exact h ▸ h1
theorem Come.nodup {g : List S73} {out : List ByteArray} (h : Come g out) : out.Nodup := by
 induction h with
 | nil => simp
 | snoc _ _ h2 _ ih =>
  rw [List.nodup_append]
  refine ⟨ih, by simp, fun a ha b hb e => ?_⟩
  rw [List.mem_singleton] at hb
  subst e; subst hb; exact h2 ha
theorem Come.at {g : List S73} {out : List ByteArray} (h : Come g out) : ∀ (i : Nat) (hi : i < out.length), out[i] ∈ Doc.names g ∧ out[i] ∉ out.take i ∧ ∀ d ∈ depsOf g out[i], d ∈ out.take i := by
 induction h with
 | nil => intro i hi; simp at hi
 | @snoc out a _ h1 h2 h3 ih =>
  intro i hi
  by_cases e : i < out.length
  ·rw [List.getElem_append_left e, List.take_append_of_le_length (by omega)]
   exact ih i e
  ·have e' : i = out.length := by simp at hi; omega
   subst e'
   simp only [List.getElem_concat_length, List.take_left']
   exact ⟨h1, h2, h3⟩
theorem order_grow {g : List S73} (G : Good g) (N : NoRound g) : ∀ (n : Nat) (out : List ByteArray), (∀ a ∈ names g, a ∈ orderFrom g n out) ∨ (orderFrom g n out).length = out.length + n
 | 0, out => Or.inr rfl
 | n + 1, out => by
  by_cases h : ∃ a ∈ names g, a ∉ out
  ·obtain ⟨a, h1, h2⟩ := h
   obtain ⟨m, hm, hr⟩ := some_ready G N out a h1 h2
   have hl : (orderStep g out).length = out.length + 1 := by
    rw [orderStep]
    split
    ·rename_i e
     exact absurd hr (by simpa using List.find?_eq_none.1 e m hm)
    ·simp
   rcases order_grow G N n (orderStep g out) with h | h
   ·exact Or.inl h
   ·exact Or.inr (by rw [orderFrom, h, hl]; omega)
  ·left
   have hst : orderStep g out = out := by
    rw [orderStep]
    split
    ·rfl
    ·rename_i m e
     have h1 := List.mem_of_find?_eq_some e
     have h2 := List.find?_some e
     simp only [isReady, Bool.and_eq_true, decide_eq_true_eq, Bool.not_eq_true', decide_eq_false_iff_not] at h2
     exact (h ⟨m.f0, List.mem_map.2 ⟨m, h1, rfl⟩, h2.2⟩).elim
   rw [orderFrom_still g out hst]
   exact fun a ha => Classical.byContradiction fun h' => h ⟨a, ha, h'⟩
/-- the order has every node -/
theorem order_all {g : List S73} (G : Good g) (N : NoRound g) : ∀ a ∈ names g, a ∈ order g := by
 rcases order_grow G N g.length [] with h | h
 ·exact h
 ·intro a ha
  refine Classical.byContradiction fun hn => ?_
  have C := order_come G
  have := nodup_len (xs := a :: order g) (ys := names g) (List.nodup_cons.2 ⟨hn, C.nodup⟩) (fun b hb => by
   rcases List.mem_cons.1 hb with rfl | hb
   ·exact ha
   ·exact C.names b hb)
  rw [names_len] at this
  simp only [List.length_cons, order] at this
  simp only [List.length_nil] at h
  omega

/-- what a search in depth from n leaves where it has not met b: M: what was met ahead of it, M': behind it -/
structure Missed (g : List S73) (b n : ByteArray) (M M' : ByteArray → Prop) : Prop where
 sub : ∀ x, M x → M' x
 deps : ∀ d ∈ depsOf g n, M' d ∧ d ≠ b
 shut : ∀ x, M' x → ¬ M x → ∀ d ∈ depsOf g x, M' d ∧ d ≠ b
theorem Missed.no_path {g : List S73} {b a : ByteArray} {M' : ByteArray → Prop} (h : Missed g b a (fun _ => False) M') : ¬ Path g a b := by
 intro p
 have key : ∀ {x y : ByteArray}, Path g x y → (∀ d ∈ depsOf g x, M' d ∧ d ≠ b) → y ≠ b := by
  intro x y p
  induction p with
  | one e => exact fun H => (H _ e).2
  | step e _ ih => exact fun H => ih (h.shut _ (H _ e).1 (fun h => h))
 exact key p h.deps rfl
/-- the search under way: S: what n stands on and has been looked at -/
structure Missing (g : List S73) (b : ByteArray) (S M M' : ByteArray → Prop) : Prop where
 sub : ∀ x, M x → M' x
 deps : ∀ d, S d → M' d ∧ d ≠ b
 shut : ∀ x, M' x → ¬ M x → ∀ d ∈ depsOf g x, M' d ∧ d ≠ b
theorem Missing.start (g : List S73) (b : ByteArray) (M : ByteArray → Prop) : Missing g b (fun _ => False) M M :=
 ⟨fun _ h => h, fun _ h => h.elim, fun _ h h' => (h' h).elim⟩
theorem Missing.met {g : List S73} {b : ByteArray} {S M M' : ByteArray → Prop} (h : Missing g b S M M') {d : ByteArray} (hd : M' d) (hb : d ≠ b) : Missing g b (fun x => S x ∨ x = d) M M' :=
 ⟨h.sub, fun x hx => hx.elim (h.deps x) (fun e => e ▸ ⟨hd, hb⟩), h.shut⟩
theorem Missing.new {g : List S73} {b : ByteArray} {S M M' M2 : ByteArray → Prop} (h : Missing g b S M M') {d : ByteArray} (hb : d ≠ b) (h2 : Missed g b d (fun x => M' x ∨ x = d) M2) : Missing g b (fun x => S x ∨ x = d) M M2 := by
 refine ⟨fun x hx => h2.sub x (Or.inl (h.sub x hx)), fun x hx => ?_, fun x hx hM e he => ?_⟩
 ·rcases hx with hx | rfl
  ·exact ⟨h2.sub x (Or.inl (h.deps x hx).1), (h.deps x hx).2⟩
  ·exact ⟨h2.sub x (Or.inr rfl), hb⟩
 ·by_cases h1 : M' x
  ·have := h.shut x h1 hM e he
   exact ⟨h2.sub e (Or.inl this.1), this.2⟩
  ·by_cases h3 : x = d
   ·subst h3; exact h2.deps e he
   ·exact h2.shut x hx (fun h => h.elim h1 h3) e he
theorem Missing.done {g : List S73} {b n : ByteArray} {S M M' : ByteArray → Prop} (h : Missing g b S M M') (hS : ∀ d ∈ depsOf g n, S d) : Missed g b n M M' :=
 ⟨h.sub, fun d hd => h.deps d (hS d hd), h.shut⟩
end Go.Proofs.Ytaomemhnjpemiaa.Doc
