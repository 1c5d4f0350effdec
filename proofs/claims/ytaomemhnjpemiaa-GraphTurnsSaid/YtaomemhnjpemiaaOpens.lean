/- What an argument that reads as data is, kind by kind: numbers, bools, strings, slices, structs, arrays, one in the other; no slice or string of more than 2^47 - 4096 bytes. -/
import Derived.Test.YtaomemhnjpemiaaWWords
import Derived.Test.YtaomemhnjpemiaaWArr
import Derived.Deep.Slices
import Derived.OpenShut
import Derived.ProofKit
import Derived.SizedLaws
namespace Go.Proofs.Ytaomemhnjpemiaa.Opens
open Go.RowKit Go.Deep Go.ChangeShapes Go.WideShapes Go.ChangeAt Go.Proofs.YtaomemhnjpemiaaW.PrintWords

/-- No weight is beyond the reach. -/
def Light {H : Type} (P : Program) (t : TypeId) (d : DataW H) : Prop := ∀ n, n ∈ d.weights P t → n ≤ 140737488351232

theorem light_of {H : Type} {P : Program} {ts : List TypeId} {ds : List (DataW H)} (h : (DataW.weightsEach P ts ds).all (· ≤ reachBytes) = true) : ∀ (j : Nat) t d, ts[j]? = some t → ds[j]? = some d → Light P t d := by
 induction ts generalizing ds with
 | nil => intro j t d ht; simp at ht
 | cons t0 ts ih =>
  cases ds with
  | nil => intro j t d _ hd; simp at hd
  | cons d0 ds =>
   rw [DataW.weightsEach, List.all_append, Bool.and_eq_true] at h
   intro j t d ht hd
   cases j with
   | zero =>
    simp at ht hd
    subst ht hd
    intro n hn
    have := List.all_eq_true.1 h.1 n hn
    exact of_decide_eq_true this
   | succ j => exact ih h.2 j t d (by simpa using ht) (by simpa using hd)

/-- Whatever reads at type t is told by d, and G holds of what it tells. -/
def Opn (P : Program) (t : TypeId) {α : Type} (d : Kd α) (G : α → Prop) : Prop :=
 P.cellsOf t = d.sz ∧ ∀ (H : Type) (enc : TypeId × Value → H) (W : World) (fuel : Nat) (cs : List Value) (y : DataW H × List MemPlace),
  DataW.trod enc P W 0 (fun _ => true) true fuel t cs = some y → Light P t y.1 → ∃ x : α, d.K W x cs ∧ G x

section
variable {P : Program} {t e : TypeId}
theorem Opn.int {k : IntKind} (ht : P.underlying t = some (.int k)) (hc : P.cellsOf t = 1) : Opn P t (Kd.int k) (fun x => (Lit.int k x).wf = true) :=
 ⟨hc, fun H enc W fuel cs y h _ => by
  obtain ⟨n, rfl, _, hw⟩ := DataW.trod_int ht h
  exact ⟨n, rfl, hw⟩⟩
theorem Opn.bool (ht : P.underlying t = some .bool) (hc : P.cellsOf t = 1) : Opn P t Kd.bool (fun _ => True) :=
 ⟨hc, fun H enc W fuel cs y h _ => by
  obtain ⟨n, rfl, _⟩ := DataW.trod_bool ht h
  exact ⟨n, rfl, trivial⟩⟩
theorem Opn.string (ht : P.underlying t = some .string) (hc : P.cellsOf t = 1) : Opn P t Kd.string (fun x => x.size ≤ 140737488351232) :=
 ⟨hc, fun H enc W fuel cs y h hl => by
  obtain ⟨n, rfl, rfl, hw⟩ := DataW.trod_string ht h
  refine ⟨n, rfl, ?_⟩
  have := hl n.data.toList.length (by simp [DataW.weights])
  rw [Array.length_toList] at this
  exact this⟩
theorem Opn.slice {α : Type} {d : Kd α} {G : α → Prop} (hd : Opn P e d G) (ht : P.underlying t = some (.slice e)) (hc : P.cellsOf t = 1) {B : Nat} (hB : P.bytesOf e = B) :
  Opn P t (Kd.slice e d) (fun l => l.length * B ≤ 140737488351232 ∧ ∀ x, x ∈ l → G x) := by
 refine ⟨hc, fun H enc W fuel cs y h hl => ?_⟩
 rcases open_slice ht h with ⟨rfl, rfl⟩ | ⟨a, len, cap, m, n, D, Pl, rfl, _, hlc, hcm, hm, rfl, hel⟩
 ·exact ⟨[], ⟨none, 0, rfl, Nat.le_refl _, rfl, by simp, fun h => by simp at h⟩, by simp, fun x hx => by simp at hx⟩
 ·simp only [if_true] at hm
  subst hm   -- the capacity
  have hG : ∀ i, i < len → Light P e (D i) := by
   intro i hi n hn
   refine hl n ?_
   simp only [DataW.weights, ht]
   refine List.mem_cons_of_mem _ (List.mem_append_left _ ?_)
   have hall : ∀ (l : List Nat), i ∈ l → n ∈ DataW.weightsAll P e (l.map D) := by
    intro l hil
    induction l with
    | nil => simp at hil
    | cons j l ih =>
     simp only [List.map_cons, DataW.weightsAll]
     rcases List.mem_cons.1 hil with rfl | hil
     ·exact List.mem_append_left _ hn
     ·exact List.mem_append_right _ (ih hil)
   exact hall _ (List.mem_range.2 hi)
  have hx : ∀ i, i < len → ∃ x : α, (∃ c, c.length = d.sz ∧ d.K W x c ∧ ∀ j u, c[j]? = some u → W.cell? (a.add (i * d.sz + j)) = some u) ∧ G x := by
   intro i hi
   obtain ⟨c, hcs, htr⟩ := hel i (by omega)
   obtain ⟨x, hk, hg⟩ := hd.2 H enc W n c _ htr (hG i hi)
   obtain ⟨_, hlen, hcell⟩ := World.cells?_some hcs
   rw [hd.1] at hlen hcell
   refine ⟨x, ⟨c, hlen, hk, fun j u hu => ?_⟩, hg⟩
   have hj : j < d.sz := by rw [← hlen]; exact (List.getElem?_eq_some_iff.1 hu).1
   rw [← Go.Deep.add_add, hcell j hj, hu]
  obtain ⟨xs, hxl, hxs⟩ : ∃ xs : List α, xs.length = len ∧ ∀ i x, xs[i]? = some x → (∃ c, c.length = d.sz ∧ d.K W x c ∧ ∀ j u, c[j]? = some u → W.cell? (a.add (i * d.sz + j)) = some u) ∧ G x := by
   clear hl hel hG hlc h
   induction len with
   | zero => exact ⟨[], rfl, fun i x hix => by simp at hix⟩
   | succ k ih =>
    obtain ⟨xs, h1, h2⟩ := ih (fun i hi => hx i (by omega))
    obtain ⟨x, hx'⟩ := hx k (by omega)
    refine ⟨xs ++ [x], by simp [h1], fun i y hiy => ?_⟩
    by_cases hik : i < xs.length
    ·rw [List.getElem?_append_left hik] at hiy
     exact h2 i y hiy
    ·have hlt := (List.getElem?_eq_some_iff.1 hiy).1
     simp at hlt
     obtain rfl : i = k := by omega
     rw [← h1, List.getElem?_concat_length] at hiy
     injection hiy with hiy
     subst hiy
     exact hx'
  refine ⟨xs, ⟨some a, m, by rw [hxl], by omega, rfl, ?_, fun _ => ⟨a, rfl, fun j p hj => (hxs j p hj).1⟩⟩, ?_, fun x hx' => ?_⟩
  ·rw [hxl]; unfold maxLen at hcm; omega
  ·have hw := hl _ (by simp only [DataW.weights, ht]; exact List.mem_cons_self)
   simp only [List.length_map, List.length_range, hB] at hw
   rw [hxl]
   exact Nat.le_trans (Nat.mul_le_mul_right _ (by omega)) hw
  ·obtain ⟨i, hi, rfl⟩ := List.mem_iff_getElem.1 hx'
   exact (hxs i _ (List.getElem?_eq_getElem hi)).2

/-- The same for the fields of a struct, from cell 'off' on. -/
def OpnFs (P : Program) (fs : List Field) (off : Nat) {α : Type} (d : Kd α) (G : α → Prop) : Prop :=
 ∀ (H : Type) (enc : TypeId × Value → H) (W : World) (fuel : Nat) (cs : List Value) (xs : List (DataW H × List MemPlace)), cs.length = off + d.sz → xs.length = fs.length →
  (∀ (i : Nat) (f : Field), fs[i]? = some f → DataW.trod enc P W 0 (fun _ => true) true fuel f.type ((cs.drop f.offset).take (P.cellsOf f.type)) = xs[i]?) →
  (∀ n, n ∈ DataW.weightsEach P (fs.map (·.type)) (xs.map (·.1)) → n ≤ 140737488351232) → ∃ x : α, d.K W x (cs.drop off) ∧ G x
theorem OpnFs.one {f : Field} {off : Nat} {α : Type} {d : Kd α} {G : α → Prop} (hf : f.offset = off) (h : Opn P f.type d G) : OpnFs P [f] off d G := by
 intro H enc W fuel cs xs hl hxl hx hw
 match xs, hxl with
 | [y], _ =>
  have h0 := hx 0 f rfl
  rw [hf, h.1, List.take_of_length_le (by rw [List.length_drop]; omega)] at h0
  exact h.2 H enc W fuel _ y h0 (fun n hn => hw n (by simpa [DataW.weightsEach] using hn))
theorem OpnFs.cons {f : Field} {fs : List Field} {off : Nat} {α β : Type} {d : Kd α} {d' : Kd β} {G : α → Prop} {G' : β → Prop} (hf : f.offset = off) (h : Opn P f.type d G) (h' : OpnFs P fs (off + d.sz) d' G') :
  OpnFs P (f :: fs) off (Kd.pair d d') (fun x => G x.1 ∧ G' x.2) := by
 intro H enc W fuel cs xs hl hxl hx hw
 match xs, hxl with
 | y :: ys, hxl =>
  have hl' : cs.length = off + (d.sz + d'.sz) := hl
  have h0 := hx 0 f rfl
  rw [hf, h.1] at h0
  obtain ⟨x, hk, hg⟩ := h.2 H enc W fuel _ y h0 (fun n hn => hw n (by simp only [List.map_cons, DataW.weightsEach]; exact List.mem_append_left _ hn))
  obtain ⟨x', hk', hg'⟩ := h' H enc W fuel cs ys (by omega) (by simpa using hxl) (fun i f' hf' => hx (i + 1) f' (by simpa using hf')) (fun n hn => hw n (by simp only [List.map_cons, DataW.weightsEach]; exact List.mem_append_right _ hn))
  refine ⟨(x, x'), ⟨_, _, ?_, hk, hk'⟩, hg, hg'⟩
  rw [← List.drop_drop, List.take_append_drop]
theorem Opn.struct {fs : Array Field} {α : Type} {d : Kd α} {G : α → Prop} (h : OpnFs P fs.toList 0 d G) (ht : P.underlying t = some (.struct fs)) (hc : P.cellsOf t = d.sz) : Opn P t d G := by
 refine ⟨hc, fun H enc W fuel cs y htr hl => ?_⟩
 obtain ⟨xs, n, _, rfl, hcl, hxl, hx⟩ := DataW.trod_struct ht htr
 have := h H enc W n cs xs (by omega) (by simpa using hxl) (fun i f hf => hx i f (by simpa using hf)) (fun n hn => hl n (by simp only [DataW.weights, ht]; exact hn))
 simpa using this
theorem Opn.iso {α β : Type} {d : Kd α} {G : α → Prop} (h : Opn P t d G) (f : β → α) (g : α → β) (hfg : ∀ a, f (g a) = a) : Opn P t (Kd.iso d f) (fun x => G (f x)) := by
 refine ⟨h.1, fun H enc W fuel cs y htr hl => ?_⟩
 obtain ⟨x, hk, hg⟩ := h.2 H enc W fuel cs y htr hl
 exact ⟨g x, by show d.K W (f (g x)) cs; rw [hfg]; exact hk, by show G (f (g x)); rw [hfg]; exact hg⟩
theorem Opn.imp {α : Type} {d : Kd α} {G G' : α → Prop} (h : Opn P t d G) (hi : ∀ x, G x → G' x) : Opn P t d G' :=
 ⟨h.1, fun H enc W fuel cs y htr hl => let ⟨x, hk, hg⟩ := h.2 H enc W fuel cs y htr hl; ⟨x, hk, hi x hg⟩⟩
end

section
variable {H : Type} {enc : TypeId × Value → H} {P : Program} {W : World} {base : Nat} {t : TypeId} {v : Value} {y : DataW H} {p : List MemPlace} {α : Type} {d : Kd α} {G : α → Prop}
/-- A struct that came in. -/
theorem open_struct {fs : Array Field} (hs : P.underlying t = some (.struct fs)) (ho : Opn P t d G) (hv : Value.okWide P W .any base t v) (h : DataW.Trod enc P W 0 (fun _ => true) true t v y p) (hl : Light P t y) :
  ∃ x cs, v = .agg cs.toArray ∧ d.K W x cs ∧ G x := by
 obtain ⟨cs, rfl, _⟩ := okWide_struct hs hv
 obtain ⟨fuel, hf⟩ := h
 obtain ⟨x, hk, hg⟩ := ho.2 H enc W fuel cs.toList _ (by simpa [Value.cells] using hf) hl
 exact ⟨x, cs.toList, by simp, hk, hg⟩
/-- A slice that came in. -/
theorem open_slice_ {e : TypeId} (hs : P.underlying t = some (.slice e)) (ho : Opn P t d G) (hv : Value.okWide P W .any base t v) (h : DataW.Trod enc P W 0 (fun _ => true) true t v y p) (hl : Light P t y) :
  ∃ x, d.K W x [v] ∧ G x := by
 obtain ⟨a, len, cap, rfl⟩ := okWide_slice hs hv
 obtain ⟨fuel, hf⟩ := h
 exact ho.2 H enc W fuel _ _ (by simpa [Value.cells] using hf) hl
end
end Go.Proofs.Ytaomemhnjpemiaa.Opens
