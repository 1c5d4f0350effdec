/- Assertions on memory with a footprint, kept one beside the other along a walk: what a call, a new block or a store does to them. -/
import Derived.Test.YtaomemhnjpemiaaProg
import Derived.WalkKit
import Derived.Below
import Derived.Laws.Rows
import Derived.Deep.QuietTactic
import Derived.BigQuiet
import Derived.Maps.AppendAt
import Derived.Lib.Hide
import Derived.Outline
import Derived.Deep.Draws
import Derived.Test.YtaomemhnjpemiaaWLast
import Derived.Test.YtaomemhnjpemiaaWMore
import Derived.Test.YtaomemhnjpemiaaWN
namespace Go.Proofs.Ytaomemhnjpemiaa.Sep

open Go.RowKit

/-- What is told of some blocks of memory (its footprint), and of no other. -/
structure Asn where
 foot : Nat → Prop
 pred : World → Prop
 move : ∀ {W W' : World}, (∀ k, foot k → W'.heap[k]? = W.heap[k]?) → pred W → pred W'
 lt : ∀ {W : World}, pred W → ∀ k, foot k → k < W.heap.size

/-- A block of cells, known whole. -/
def Blk (g : Nat) (cs : Array Value) (t : TypeId) : Asn where
 foot k := k = g
 pred W := W.heap[g]? = some (.cells cs t (0, 0))
 move h hp := (h g rfl).trans hp
 lt hp k hk := by subst hk; exact (Array.getElem?_eq_some_iff.1 hp).1

def Apart (a b : Asn) : Prop := ∀ k, a.foot k → b.foot k → False

/-- From w to W: what lay at w below B lies; beside it lie these, apart from each other, all of them at B or above. -/
structure St (B : Nat) (w W : World) (L : List Asn) : Prop where
 le : B ≤ w.heap.size
 below : Below B w W
 holds : ∀ a, a ∈ L → a.pred W
 new : ∀ a, a ∈ L → ∀ k, a.foot k → B ≤ k
 apart : L.Pairwise Apart
section
variable {B : Nat} {w W W' : World} {L : List Asn}
theorem St.start (w : World) : St w.heap.size w w [] := ⟨Nat.le_refl _, Below.refl _ _, fun _ h => (by cases h), fun _ h => (by cases h), List.Pairwise.nil⟩
theorem St.start0 (w : World) : St 0 w w [] := ⟨Nat.zero_le _, Below.refl _ _, fun _ h => (by cases h), fun _ h => (by cases h), List.Pairwise.nil⟩
theorem St.leW (h : St B w W L) : B ≤ W.heap.size := Nat.le_trans h.le h.below.size
theorem St.keep (h : St B w W L) (hb : Below W.heap.size W W') : St B w W' L :=
 ⟨h.le, h.below.trans (hb.mono h.leW), fun a ha => a.move (fun k hk => hb.block k (a.lt (h.holds a ha) k hk)) (h.holds a ha), h.new, h.apart⟩
theorem St.drewN (h : St B w W L) (n : Nat) : St B w (W.drewN n) L :=
 h.keep ⟨rfl, rfl, rfl, Nat.le_refl _, fun _ _ => rfl⟩
theorem St.drew (h : St B w W L) : St B w W.drew L := h.keep (Below.refl _ _).drew
/-- One more assertion, apart from all. -/
theorem St.cons (h : St B w W L) (a : Asn) (ha : a.pred W) (hn : ∀ k, a.foot k → B ≤ k) (hp : ∀ b, b ∈ L → Apart a b) : St B w W (a :: L) := by
 refine ⟨h.le, h.below, fun x hx => ?_, fun x hx => ?_, List.Pairwise.cons hp h.apart⟩
 ·rcases List.mem_cons.1 hx with rfl | hx
  ·exact ha
  ·exact h.holds x hx
 ·rcases List.mem_cons.1 hx with rfl | hx
  ·exact hn
  ·exact h.new x hx
/-- A new assertion, over blocks that W had not. -/
theorem St.add (h : St B w W L) (hb : Below W.heap.size W W') (a : Asn) (ha : a.pred W') (hn : ∀ k, a.foot k → W.heap.size ≤ k) : St B w W' (a :: L) :=
 (h.keep hb).cons a ha (fun k hk => Nat.le_trans h.leW (hn k hk)) (fun b hb' k hk hk' => by
  have := b.lt (h.holds b hb') k hk'
  have := hn k hk
  omega)
theorem St.alloc (h : St B w W L) (cs : Array Value) (t : TypeId) : St B w (W.alloc (.cells cs t (0, 0))) (Blk W.heap.size cs t :: L) :=
 h.add ((Below.refl _ _).alloc (Nat.le_refl _) _) _ (by show (W.alloc _).heap[_]? = _; exact heap_alloc_new _ _) (fun k hk => by have : k = W.heap.size := hk; omega)
/-- One assertion is turned: nothing but its own blocks and new ones. -/
theorem St.turn {pre post : List Asn} {a a' : Asn} (h : St B w W (pre ++ a :: post)) (hos : W'.os = W.os) (htape : W'.tape = W.tape) (hout : W'.output = W.output) (hsz : W.heap.size ≤ W'.heap.size)
  (hk : ∀ k, k < W.heap.size → ¬ a.foot k → W'.heap[k]? = W.heap[k]?) (ha : a'.pred W') (hf : ∀ k, a'.foot k → a.foot k ∨ W.heap.size ≤ k) : St B w W' (pre ++ a' :: post) := by
 have hp := List.pairwise_append.1 h.apart
 have hpc := List.pairwise_cons.1 hp.2.1
 have hmem : ∀ x, x ∈ pre ++ a' :: post → x = a' ∨ (x ∈ pre ++ a :: post ∧ Apart x a) := by
  intro x hx
  rcases List.mem_append.1 hx with hx | hx
  ·exact .inr ⟨List.mem_append_left _ hx, hp.2.2 x hx a List.mem_cons_self⟩
  ·rcases List.mem_cons.1 hx with rfl | hx
   ·exact .inl rfl
   ·exact .inr ⟨List.mem_append_right _ (List.mem_cons_of_mem _ hx), fun k h1 h2 => hpc.1 x hx k h2 h1⟩
 have ham : a ∈ pre ++ a :: post := List.mem_append_right _ List.mem_cons_self
 have hap : ∀ x, x ∈ pre ++ a :: post → Apart x a → Apart x a' := by
  intro x hx hxa k h1 h2
  rcases hf k h2 with h3 | h3
  ·exact hxa k h1 h3
  ·have := x.lt (h.holds x hx) k h1
   omega
 have hle := h.leW
 refine ⟨h.le, ⟨hos.trans h.below.os, htape.trans h.below.tape, hout.trans h.below.output, Nat.le_trans h.below.size hsz, fun k hk' => ?_⟩, fun x hx => ?_, fun x hx k hk' => ?_, ?_⟩
 ·refine (hk k (Nat.lt_of_lt_of_le hk' hle) (fun hf' => ?_)).trans (h.below.block k hk')
  have := h.new a ham k hf'
  omega
 ·rcases hmem x hx with rfl | ⟨hx, hxa⟩
  ·exact ha
  ·exact x.move (fun k hk' => hk k (x.lt (h.holds x hx) k hk') (fun hc => hxa k hk' hc)) (h.holds x hx)
 ·rcases hmem x hx with rfl | ⟨hx, hxa⟩
  ·rcases hf k hk' with h3 | h3
   ·exact h.new a ham k h3
   ·exact Nat.le_trans hle h3
  ·exact h.new x hx k hk'
 ·refine List.pairwise_append.2 ⟨hp.1, List.pairwise_cons.2 ⟨fun x hx k h1 h2 => ?_, hpc.2⟩, fun x hx y hy => ?_⟩
  ·exact hap x (List.mem_append_right _ (List.mem_cons_of_mem _ hx)) (fun k h1 h2 => hpc.1 x hx k h2 h1) k h2 h1
  ·rcases List.mem_cons.1 hy with rfl | hy
   ·exact hap x (List.mem_append_left _ hx) (hp.2.2 x hx a List.mem_cons_self)
   ·exact hp.2.2 x hx y (List.mem_cons_of_mem _ hy)
theorem St.set {pre post : List Asn} {g : Nat} {cs : Array Value} {t : TypeId} (h : St B w W (pre ++ Blk g cs t :: post)) (i : Nat) (v : Value) :
  St B w (W.setCell ⟨g, i, none⟩ v) (pre ++ Blk g (cs.setIfInBounds i v) t :: post) := by
 have hg : W.heap[g]? = some (.cells cs t (0, 0)) := h.holds (Blk g cs t) (List.mem_append_right _ List.mem_cons_self)
 refine h.turn rfl rfl rfl (by simp [World.setCell]) (fun k _ hne => Below.heap_setCell _ _ _ _ hne) ?_ (fun k hk => .inl hk)
 have hl := (Array.getElem?_eq_some_iff.1 hg).1
 show (W.setCell ⟨g, i, none⟩ v).heap[g]? = _
 have he : W.heap[g] = .cells cs t (0, 0) := by have := (Array.getElem?_eq_some_iff.1 hg).2; exact this
 unfold World.setCell
 simp [hl, Array.getElem_modify, he]
theorem St.blk (h : St B w W L) {g : Nat} {cs : Array Value} {t : TypeId} (hm : Blk g cs t ∈ L) : W.heap[g]? = some (.cells cs t (0, 0)) := h.holds _ hm
theorem St.swap {L' : List Asn} (h : St B w W L) (hp : L.Perm L') : St B w W L' :=
 ⟨h.le, h.below, fun a ha => h.holds a (hp.mem_iff.2 ha), fun a ha => h.new a (hp.mem_iff.2 ha), (hp.pairwise_iff (fun h k h1 h2 => h k h2 h1)).1 h.apart⟩
theorem St.drop {L' : List Asn} (h : St B w W L) (hs : L'.Sublist L) : St B w W L' :=
 ⟨h.le, h.below, fun a ha => h.holds a (hs.subset ha), fun a ha => h.new a (hs.subset ha), h.apart.sublist hs⟩
theorem St.boxed {g : Nat} {cs : Array Value} {t : TypeId} (h : St B w W L) (hg : g = W.heap.size) (hb : W'.heap[g]? = some (.cells cs t (0, 0))) (hB : Below W.heap.size W W') : St B w W' (Blk g cs t :: L) :=
 h.add hB _ hb (fun k hk => by have : k = g := hk; omega)
theorem St.pred {a : Asn} (h : St B w W L) (hm : a ∈ L) : a.pred W := h.holds a hm
end
/-- All that lay at w and is among P lies as it lay. -/
def Still (w : World) (P : Nat → Prop) : Asn where
 foot k := P k ∧ k < w.heap.size
 pred W := ∀ k, P k → k < w.heap.size → W.heap[k]? = w.heap[k]?
 move h hp := fun k h1 h2 => (h k ⟨h1, h2⟩).trans (hp k h1 h2)
 lt hp k hk := by
  have h1 := hp k hk.1 hk.2
  rw [Array.getElem?_eq_getElem hk.2] at h1
  exact (Array.getElem?_eq_some_iff.1 h1).1

theorem cell_blk {W : World} {g : Nat} {cs : Array Value} {t : TypeId} (h : W.heap[g]? = some (.cells cs t (0, 0))) (i : Nat) : W.cell? ⟨g, i, none⟩ = cs[i]? := cell_of_row W g i cs t (0, 0) h
theorem frozen_blk {W : World} {g : Nat} {cs : Array Value} {t : TypeId} (h : W.heap[g]? = some (.cells cs t (0, 0))) (i : Nat) : W.frozen? ⟨g, i, none⟩ = false := by simp [World.frozen?, h]
end Go.Proofs.Ytaomemhnjpemiaa.Sep
/- Steps of a walk over assertions with footprints: a new block, a load, a store, each where it stands. -/
namespace Go.Proofs.Ytaomemhnjpemiaa.Ev
open Go.RowKit Go.Proofs.Ytaomemhnjpemiaa.Sep Go.Proofs.YtaomemhnjpemiaaW.PrintWords Go.Proofs.YtaomemhnjpemiaaW.PrintLast Go.Proofs.YtaomemhnjpemiaaW.PrintMore
set_option linter.unusedVariables false
set_option linter.unusedSimpArgs false

/-- The walk stands here. -/
structure Stop_ (p : Prop) : Prop where mk :: (out : p)
/-- A block of cells, known whole. -/
def Bk (g : Nat) (cs : Array Value) (t : TypeId) : Asn := Blk g cs t
theorem Bk.heap {W : World} {g : Nat} {cs : Array Value} {t : TypeId} (h : (Bk g cs t).pred W) : W.heap[g]? = some (.cells cs t (0, 0)) := h
theorem Bk.of {W : World} {g : Nat} {cs : Array Value} {t : TypeId} (h : W.heap[g]? = some (.cells cs t (0, 0))) : (Bk g cs t).pred W := h
theorem Bk.foot {g k : Nat} {cs : Array Value} {t : TypeId} (h : (Bk g cs t).foot k) : k = g := h
theorem Bk.at {g : Nat} {cs : Array Value} {t : TypeId} : (Bk g cs t).foot g := rfl
theorem St.newBk {B : Nat} {w W : World} {L : List Asn} (h : St B w W L) (cs : Array Value) (t : TypeId) : St B w (W.alloc (.cells cs t (0, 0))) (Bk W.heap.size cs t :: L) := h.alloc cs t
attribute [irreducible] Bk
/-- A place of a list, and the list with another one at that place. -/
inductive Spot : List Asn → Asn → (Asn → List Asn) → Prop
 | here (a : Asn) (l : List Asn) : Spot (a :: l) a (fun b => b :: l)
 | there (x : Asn) {l : List Asn} {a : Asn} {F : Asn → List Asn} : Spot l a F → Spot (x :: l) a (fun b => x :: F b)
theorem Spot.split {l : List Asn} {a : Asn} {F : Asn → List Asn} (h : Spot l a F) : ∃ pre post, l = pre ++ a :: post ∧ ∀ b, F b = pre ++ b :: post := by
 induction h with
 | here a l => exact ⟨[], l, rfl, fun _ => rfl⟩
 | there x _ ih =>
  obtain ⟨pre, post, h1, h2⟩ := ih
  exact ⟨x :: pre, post, by rw [h1]; rfl, fun b => by show x :: _ = _; rw [h2]; rfl⟩
theorem Spot.mem {l : List Asn} {a : Asn} {F : Asn → List Asn} (h : Spot l a F) : a ∈ l := by
 obtain ⟨pre, post, h1, _⟩ := h.split
 rw [h1]
 exact List.mem_append_right _ List.mem_cons_self
/-- A list without one of its members. -/
inductive Less : List Asn → Asn → List Asn → Prop
 | here (a : Asn) (l : List Asn) : Less (a :: l) a l
 | there (x : Asn) {l l' : List Asn} {a : Asn} : Less l a l' → Less (x :: l) a (x :: l')
theorem Less.sub {l l' : List Asn} {a : Asn} (h : Less l a l') : l'.Sublist l := by
 induction h with
 | here a l => exact List.sublist_cons_self _ _
 | there x _ ih => exact ih.cons_cons x
/-- Two that stand beside each other. -/
inductive Two : List Asn → Asn → Asn → Prop
 | first {a b : Asn} {l : List Asn} {F : Asn → List Asn} : Spot l b F → Two (a :: l) a b
 | second {a b : Asn} {l : List Asn} {F : Asn → List Asn} : Spot l a F → Two (b :: l) a b
 | there (x : Asn) {l : List Asn} {a b : Asn} : Two l a b → Two (x :: l) a b
section
variable {B : Nat} {w W W' : World} {L : List Asn} {F : Asn → List Asn} {a b : Asn}
theorem Two.apart (h : Two L a b) (hp : L.Pairwise Apart) : Apart a b := by
 induction h with
 | first hs => exact (List.pairwise_cons.1 hp).1 _ hs.mem
 | second hs => exact fun k h1 h2 => (List.pairwise_cons.1 hp).1 _ hs.mem k h2 h1
 | there x _ ih => exact ih (List.pairwise_cons.1 hp).2
/-- They share nothing. -/
theorem apart_at (h : St B w W L) (ht : Two L a b) : Apart a b := ht.apart h.apart
theorem turn_at (h : St B w W L) (hs : Spot L a F) (hos : W'.os = W.os) (htape : W'.tape = W.tape) (hout : W'.output = W.output) (hsz : W.heap.size ≤ W'.heap.size)
  (hk : ∀ k, k < W.heap.size → ¬ a.foot k → W'.heap[k]? = W.heap[k]?) (hb : b.pred W') (hf : ∀ k, b.foot k → a.foot k ∨ W.heap.size ≤ k) : St B w W' (F b) := by
 obtain ⟨pre, post, rfl, h2⟩ := hs.split
 rw [h2]
 exact h.turn hos htape hout hsz hk hb hf
/-- What stands there is told in other words. -/
theorem swap_at (h : St B w W L) (hs : Spot L a F) (hb : b.pred W) (hf : ∀ k, b.foot k → a.foot k) : St B w W (F b) :=
 turn_at h hs rfl rfl rfl (Nat.le_refl _) (fun _ _ _ => rfl) hb (fun k hk => .inl (hf k hk))
theorem pred_at (h : St B w W L) (hs : Spot L a F) : a.pred W := h.holds a hs.mem
theorem new_at (h : St B w W L) (hs : Spot L a F) : ∀ k, a.foot k → B ≤ k := h.new a hs.mem
end
/-- Cells that stand one behind the other. -/
def Has (W : World) (ad : Addr) (vs : List Value) : Prop := ∀ j v, vs[j]? = some v → W.cell? (ad.add j) = some v
theorem Has.of_blk {W : World} {g i : Nat} {cs : Array Value} {t : TypeId} {vs : List Value} (h : W.heap[g]? = some (.cells cs t (0, 0))) (hv : ∀ j v, vs[j]? = some v → cs[i + j]? = some v) : Has W ⟨g, i, none⟩ vs := by
 intro j v hj
 have : (⟨g, i, none⟩ : Addr).add j = ⟨g, i + j, none⟩ := by unfold Addr.add; split <;> simp_all
 rw [this]
 exact (cell_blk h _).trans (hv j v hj)
theorem Has.one {W : World} {ad : Addr} {v : Value} (h : W.cell? ad = some v) : Has W ad [v] := by
 intro j u hj
 have hj0 : j = 0 := by
  have := (List.getElem?_eq_some_iff.1 hj).1
  simp at this
  exact this
 subst hj0
 simp at hj
 subst hj
 have : ad.add 0 = ad := by unfold Addr.add; simp
 rw [this]
 exact h
theorem Has.below {w W : World} {ad : Addr} {vs : List Value} (h : Has w ad vs) (hb : Below w.heap.size w W) : Has W ad vs := fun j v hj => by
 have h1 := h j v hj
 exact (hb.cell (World.block_lt_of_cell? w _ h1)).trans h1
/-- A place of a list (it tells the element itself). -/
def nth {α : Type} : List α → Nat → Option α
 | [], _ => none
 | x :: _, 0 => some x
 | _ :: l, n + 1 => nth l n
theorem nth_eq {α : Type} : ∀ (l : List α) (n : Nat), nth l n = l[n]?
 | [], _ => rfl
 | _ :: _, 0 => rfl
 | _ :: l, n + 1 => nth_eq l n
/-- What an operand holds. -/
def holds (a : Act) : Operand → Option Value
 | .tmp t => nth a.tmps.toList t
 | .const v => some v
 | .global g => some (.pointer (some ⟨g, 0, none⟩))
 | .func f => some (.func (.func f) #[] #[])
theorem eval_of {a : Act} {x : Operand} {u : Value} (h : holds a x = some u) : a.eval x = u := by
 cases x with
 | tmp t => simp only [holds, nth_eq, Array.getElem?_toList] at h; simp [Act.eval, Array.getD_eq_getD_getElem?, h]
 | const v => simp only [holds, Option.some.injEq] at h; simp [Act.eval, h]
 | global g => simp only [holds, Option.some.injEq] at h; simp [Act.eval, h]
 | func f => simp only [holds, Option.some.injEq] at h; simp [Act.eval, h]
/-- An element of a row that is read: its cells. -/
theorem has_of {α : Type} {d : Kd α} {w : World} {A : Option Addr} {n : Nat} {xs : List α} (h : d.C w A n xs) (z : α) (i : Nat) (hi : i < n) : ∃ ad cs, A = some ad ∧ d.K w (xs.getD i z) cs ∧ Has w (ad.add (i * d.sz)) cs := by
 obtain ⟨ad, cs, e, _, hK, hc⟩ := Kd.C_get h z (i : Int) (by omega) (by omega)
 rw [Int.toNat_natCast] at hK hc
 exact ⟨ad, cs, e, hK, fun j v hj => by rw [add_add]; exact hc j v hj⟩
/-- One cell, and more: how a type's variable is read. -/
def One (P : Program) (t : TypeId) : Prop := ∃ d, P.underlying t = some d ∧ (match d with | .struct _ | .array _ _ => true | _ => false) = false
def Many (P : Program) (t : TypeId) (n : Nat) : Prop := (∃ d, P.underlying t = some d ∧ (match d with | .struct _ | .array _ _ => true | _ => false) = true) ∧ (P.info? t).map (·.size) = some n
theorem run_load_one {P : Program} {t : TypeId} {W : World} {ad : Addr} {v : Value} (ht : One P t) (h : W.cell? ad = some v) : (loadVar t ad).run P W = .ok v W := by
 obtain ⟨d, hu, hd⟩ := ht
 have hagg : (isAgg t).run P W = .ok false W := by
  unfold isAgg
  rw [Sem.run_bind, run_underlying hu W]
  cases d <;> simp_all
 simp [loadVar, Sem.run_bind, hagg, h, load, Sem.run]
theorem run_load_many {P : Program} {t : TypeId} {W : World} {ad : Addr} {vs : List Value} (ht : Many P t vs.length) (h : Has W ad vs) : (loadVar t ad).run P W = .ok (.agg vs.toArray) W := by
 obtain ⟨⟨d, hu, hd⟩, hi⟩ := ht
 have hl : (loadCells ad vs.length).run P W = .ok vs.toArray W := run_loadCells_list (P := P) W ad vs h
 cases hq : P.info? t with
 | none => simp [hq] at hi
 | some i =>
  have hs : i.size = vs.length := by simpa [hq] using hi
  have hagg : (isAgg t).run P W = .ok true W := by
   unfold isAgg
   rw [Sem.run_bind, run_underlying hu W]
   cases d <;> simp_all
  simp [loadVar, Sem.run_bind, hagg, sizeOf, typeInfo, hq, hs, hl]
section
variable {P : Program} {ops : Array Oper} {rest : List Oper} {o : Oper} {a : Act} {Q : Exit → Act → World → Prop} {B : Nat} {w W : World} {L : List Asn} {F : Asn → List Asn}
theorem want0 {o : Oper} {y : Nat → Option Bool} (h : o.guard = none) : Region.wanted o y = true := by simp only [Region.wanted, h]
theorem want1 {o : Oper} {ops : Array Oper} {tmps : Array Value} {j d : Nat} {b : Bool} {oj : Oper} (h : o.guard = some (j, b)) (hj : nth ops.toList j = some oj) (hd : oj.dst = some d) (hv : nth tmps.toList d = some (.bool b)) : Region.wanted o (yielded ops tmps) = true := by
 rw [nth_eq, Array.getElem?_toList] at hj hv
 simp only [Region.wanted, h, yielded, hj, Option.bind_some, hd, hv]
 simp
/-- A value that reads as told: the world stays. -/
theorem ev_load1 {t : TypeId} {p : Operand} {ad : Addr} {v : Value} (hw : Region.wanted o (yielded ops a.tmps) = true) (ho : o.op = .load t p) (ht : One P t) (hx : a.eval p = .pointer (some ad)) (hc : W.cell? ad = some v)
  (h : wpList P ops Q rest (a.put o.dst v) W) : wpList P ops Q (o :: rest) a W := by
 refine wpList_step fun K hK => ?_
 rw [if_pos hw]
 unfold Oper.wp execOp
 simp only [ho, hx, Instr.loadAt, Instr.sureAddr, Sem.run_bind, Sem.run_pure, Result.andThen_ok, run_load_one ht hc]
 exact hK _ _ h
theorem ev_loads {t : TypeId} {p : Operand} {ad : Addr} {vs : List Value} (hw : Region.wanted o (yielded ops a.tmps) = true) (ho : o.op = .load t p) (ht : Many P t vs.length) (hx : a.eval p = .pointer (some ad)) (hc : Has W ad vs)
  (h : wpList P ops Q rest (a.put o.dst (.agg vs.toArray)) W) : wpList P ops Q (o :: rest) a W := by
 refine wpList_step fun K hK => ?_
 rw [if_pos hw]
 unfold Oper.wp execOp
 simp only [ho, hx, Instr.loadAt, Instr.sureAddr, Sem.run_bind, Sem.run_pure, Result.andThen_ok, run_load_many ht hc]
 exact hK _ _ h
theorem run_ {cs : Array Value} {i : Nat} {vs tl : List Value} (h : cs.toList.drop i = vs ++ tl) : ∀ j v, vs[j]? = some v → cs[i + j]? = some v := by
 intro j v hj
 have hl := (List.getElem?_eq_some_iff.1 hj).1
 have h1 : (cs.toList.drop i)[j]? = some v := by rw [h, List.getElem?_append_left hl]; exact hj
 simpa [List.getElem?_drop] using h1
/-- From a block of one's own. -/
theorem ev_own1 {t : TypeId} {p : Operand} {g i : Nat} {cs : Array Value} {T : TypeId} {v : Value} (S : Aside0 (St B w W L)) (hw : Region.wanted o (yielded ops a.tmps) = true) (ho : o.op = .load t p) (ht : One P t) (hx : a.eval p = .pointer (some ⟨g, i, none⟩)) (hs : Spot L (Bk g cs T) F) {tl : List Value} (hv : cs.toList.drop i = v :: tl)
  (h : wpList P ops Q rest (a.put o.dst v) W) : wpList P ops Q (o :: rest) a W :=
 ev_load1 hw ho ht hx ((cell_blk (Bk.heap (pred_at S.out hs)) i).trans (by have := run_ (vs := [v]) hv 0 v rfl; simpa using this)) h
theorem ev_owns {t : TypeId} {p : Operand} {g i : Nat} {cs : Array Value} {T : TypeId} {vs : List Value} (S : Aside0 (St B w W L)) (hw : Region.wanted o (yielded ops a.tmps) = true) (ho : o.op = .load t p) (ht : Many P t vs.length) (hx : a.eval p = .pointer (some ⟨g, i, none⟩)) (hs : Spot L (Bk g cs T) F) {tl : List Value} (hv : cs.toList.drop i = vs ++ tl)
  (h : wpList P ops Q rest (a.put o.dst (.agg vs.toArray)) W) : wpList P ops Q (o :: rest) a W :=
 ev_loads hw ho ht hx (Has.of_blk (Bk.heap (pred_at S.out hs)) (run_ hv)) h
/-- A whole block. -/
theorem ev_whole {t : TypeId} {p : Operand} {g : Nat} {cs : Array Value} {T : TypeId} (S : Aside0 (St B w W L)) (hw : Region.wanted o (yielded ops a.tmps) = true) (ho : o.op = .load t p) (hx : a.eval p = .pointer (some ⟨g, 0, none⟩)) (hs : Spot L (Bk g cs T) F) (ht : Many P t cs.toList.length)
  (h : wpList P ops Q rest (a.put o.dst (.agg cs)) W) : wpList P ops Q (o :: rest) a W := by
 have := ev_loads (P := P) (ops := ops) (Q := Q) (rest := rest) hw ho ht hx (Has.of_blk (Bk.heap (pred_at S.out hs)) (fun j v hj => by simpa using hj)) (by simpa using h)
 exact this
/-- A new block. -/
theorem ev_alloc {T : TypeId} {z : Value} (cs : Array Value) (hc : z.cells = cs) (S : Aside0 (St B w W L)) (hw : Region.wanted o (yielded ops a.tmps) = true) (N : Tmp) (hN : o.dst = some N) (ho : o.op = .alloc T) (hz : (P.info? T).map (·.zero) = some (some z))
  (h : ∀ g w1, Aside0 (St B w w1 (Bk g cs T :: L)) → wpList P ops Q rest (a.put (some N) (.pointer (some ⟨g, 0, none⟩))) w1) : wpList P ops Q (o :: rest) a W := by
 refine wpList_step fun K hK => ?_
 rw [if_pos hw]
 obtain ⟨i, hi, hzz⟩ := Option.map_eq_some_iff.1 hz
 have hr : (Instr.alloc T true (.tuple #[])).run P W = .ok (.pointer (some ⟨W.heap.size, 0, none⟩)) (W.alloc (.cells z.cells T (0, 0))) := by
  simp [Instr.alloc, zeroValue, typeInfo, hi, hzz, newVar, newRow, newObj, go_sem]
  rfl
 unfold Oper.wp execOp
 simp only [ho, Sem.run_bind, Sem.run_pure, Result.andThen_ok, hr]
 refine hK _ _ ?_
 rw [hN]
 subst hc
 exact h _ _ ⟨St.newBk S.out z.cells T⟩
theorem ev_boxs {T : TypeId} {x : Operand} {cs : Array Value} (S : Aside0 (St B w W L)) (hw : Region.wanted o (yielded ops a.tmps) = true) (N : Tmp) (hN : o.dst = some N) (ho : o.op = .box T x) (hx : holds a x = some (.agg cs))
  (h : ∀ g w1, Aside0 (St B w w1 (Bk g cs T :: L)) → wpList P ops Q rest (a.put (some N) (.pointer (some ⟨g, 0, none⟩))) w1) : wpList P ops Q (o :: rest) a W := by
 refine wpList_step fun K hK => ?_
 rw [if_pos hw]
 have hr : (Instr.box T (.agg cs)).run P W = .ok (.pointer (some ⟨W.heap.size, 0, none⟩)) (W.alloc (.cells cs T (0, 0))) := by
  simp [Instr.box, newVar, newRow, newObj, go_sem]
  rfl
 unfold Oper.wp execOp
 simp only [ho, eval_of hx, Sem.run_bind, Sem.run_pure, Result.andThen_ok, hr]
 refine hK _ _ ?_
 rw [hN]
 exact h _ _ ⟨St.newBk S.out cs T⟩
theorem ev_box1 {T : TypeId} {x : Operand} {v : Value} (S : Aside0 (St B w W L)) (hw : Region.wanted o (yielded ops a.tmps) = true) (N : Tmp) (hN : o.dst = some N) (ho : o.op = .box T x) (hx : holds a x = some v) (hv : v.oneCell' = true)
  (h : ∀ g w1, Aside0 (St B w w1 (Bk g #[v] T :: L)) → wpList P ops Q rest (a.put (some N) (.pointer (some ⟨g, 0, none⟩))) w1) : wpList P ops Q (o :: rest) a W := by
 refine wpList_step fun K hK => ?_
 rw [if_pos hw]
 have hc : v.cells = #[v] := by cases v <;> first | rfl | (simp [Value.oneCell'] at hv)
 have hr : (Instr.box T v).run P W = .ok (.pointer (some ⟨W.heap.size, 0, none⟩)) (W.alloc (.cells v.cells T (0, 0))) := by
  simp [Instr.box, newVar, newRow, newObj, go_sem]
  rfl
 rw [hc] at hr
 unfold Oper.wp execOp
 simp only [ho, eval_of hx, Sem.run_bind, Sem.run_pure, Result.andThen_ok, hr]
 refine hK _ _ ?_
 rw [hN]
 exact h _ _ ⟨St.newBk S.out #[v] T⟩
end
/-- A run of cells written. -/
def putAt (cs : List Value) : Nat → List Value → List Value
 | _, [] => cs
 | i, v :: r => putAt (cs.set i v) (i + 1) r
theorem putAt_length : ∀ (r cs : List Value) (i : Nat), (putAt cs i r).length = cs.length
 | [], _, _ => rfl
 | v :: r, cs, i => by rw [putAt, putAt_length r]; simp
theorem blk_puts {g : Nat} {e : TypeId} : ∀ (r : List Value) (i : Nat) (W : World) (cs : List Value), W.heap[g]? = some (.cells cs.toArray e (0, 0)) → (W.setCells g i r).heap[g]? = some (.cells (putAt cs i r).toArray e (0, 0))
 | [], _, _, _, h => h
 | v :: r, i, W, cs, h => by
  rw [World.setCells, putAt]
  refine blk_puts r (i + 1) _ _ ?_
  have := blk_set h i v
  simpa using this
section
variable {P : Program} {ops : Array Oper} {rest : List Oper} {o : Oper} {a : Act} {Q : Exit → Act → World → Prop} {B : Nat} {w W : World} {L : List Asn} {F : Asn → List Asn}
/-- A store into a block of one's own. -/
theorem ev_store {t : TypeId} {p x : Operand} {g i n : Nat} {cs : List Value} {T : TypeId} {u : Value} {seg : List Value} (S : Aside0 (St B w W L)) (hw : Region.wanted o (yielded ops a.tmps) = true) (hN : o.dst = none) (ho : o.op = .store t p x) (ht : (P.info? t).map (·.size) = some n)
  (hp : a.eval p = .pointer (some ⟨g, i, none⟩)) (hx : holds a x = some u) (hs : Spot L (Bk g cs.toArray T) F) (hu : u.cells.toList = seg) (hn : seg.length = n) (hfit : Nat.ble (i + n) cs.length = true) (h1 : seg.all (fun q => q.oneCell') = true)
  (h : ∀ w1, Aside0 (St B w w1 (F (Bk g (putAt cs i seg).toArray T))) → wpList P ops Q rest a w1) : wpList P ops Q (o :: rest) a W := by
 have hg : W.heap[g]? = some (.cells cs.toArray T (0, 0)) := Bk.heap (pred_at S.out hs)
 have hr : (Instr.storeAt t (.pointer (some ⟨g, i, none⟩)) u).run P W = .ok () (W.setCells g i seg) :=
  run_store_run t u seg hg hu (by rw [hn]; exact ht) (by have := Nat.le_of_ble_eq_true hfit; rw [hn]; simpa using this) (fun q hq => List.all_eq_true.1 h1 q hq)
 refine wpList_step fun K hK => ?_
 rw [if_pos hw]
 unfold Oper.wp execOp
 simp only [ho, hp, eval_of hx, Sem.run_bind, Sem.run_pure, Result.andThen_ok, hr]
 show K (a.put o.dst undef) _
 rw [hN]
 obtain ⟨s1, s2, s3, s4⟩ := setCells_same g seg i W
 exact hK _ _ (h _ ⟨turn_at S.out hs s1 s2 s3 (by omega) (fun k _ hne => setCells_far seg i k (fun e => hne (by rw [e]; exact Bk.at))) (Bk.of (blk_puts seg i W cs hg)) (fun k hk => .inl (by rw [Bk.foot hk]; exact Bk.at))⟩)
theorem ev_puts {t : TypeId} {p x : Operand} {g i n : Nat} {cs seg : List Value} {T : TypeId} (S : Aside0 (St B w W L)) (hw : Region.wanted o (yielded ops a.tmps) = true) (hN : o.dst = none) (ho : o.op = .store t p x) (ht : (P.info? t).map (·.size) = some n)
  (hp : a.eval p = .pointer (some ⟨g, i, none⟩)) (hx : holds a x = some (.agg seg.toArray)) (hs : Spot L (Bk g cs.toArray T) F) (hn : seg.length = n) (hfit : Nat.ble (i + n) cs.length = true) (h1 : seg.all (fun q => q.oneCell') = true)
  (h : ∀ w1, Aside0 (St B w w1 (F (Bk g (putAt cs i seg).toArray T))) → wpList P ops Q rest a w1) : wpList P ops Q (o :: rest) a W :=
 ev_store S hw hN ho ht hp hx hs (by simp [Value.cells]) hn hfit h1 h
theorem ev_put1 {t : TypeId} {p x : Operand} {g i : Nat} {cs : List Value} {T : TypeId} {u : Value} (S : Aside0 (St B w W L)) (hw : Region.wanted o (yielded ops a.tmps) = true) (hN : o.dst = none) (ho : o.op = .store t p x) (ht : (P.info? t).map (·.size) = some 1)
  (hp : a.eval p = .pointer (some ⟨g, i, none⟩)) (hx : holds a x = some u) (hs : Spot L (Bk g cs.toArray T) F) (hfit : Nat.ble (i + 1) cs.length = true) (h1 : u.oneCell' = true)
  (h : ∀ w1, Aside0 (St B w w1 (F (Bk g (cs.set i u).toArray T))) → wpList P ops Q rest a w1) : wpList P ops Q (o :: rest) a W := by
 have hc : u.cells.toList = [u] := by cases u <;> first | rfl | (simp [Value.oneCell'] at h1)
 exact ev_store S hw hN ho ht hp hx hs hc rfl hfit (by simp [h1]) (fun w1 h2 => h w1 h2)
end
theorem own_cell {B : Nat} {w W : World} {L : List Asn} {F : Asn → List Asn} {g : Nat} {cs : Array Value} {T : TypeId} (S : Aside0 (St B w W L)) (hs : Spot L (Bk g cs T) F) (i : Nat) : W.cell? ⟨g, i, none⟩ = cs[i]? := cell_blk (Bk.heap (pred_at S.out hs)) i
theorem own_free {B : Nat} {w W : World} {L : List Asn} {F : Asn → List Asn} {g : Nat} {cs : Array Value} {T : TypeId} (S : Aside0 (St B w W L)) (hs : Spot L (Bk g cs T) F) (i : Nat) : W.frozen? ⟨g, i, none⟩ = false := frozen_blk (Bk.heap (pred_at S.out hs)) i
/-- What lay at the beginning reads as it did. -/
theorem old_ {w W : World} {L : List Asn} (S : Aside0 (St w.heap.size w W L)) {ad : Addr} {v : Value} (k : w.cell? ad = some v) : W.cell? ad = some v := (S.out.below.cell (World.block_lt_of_cell? w _ k)).trans k
theorem olds_ {w W : World} {L : List Asn} (S : Aside0 (St w.heap.size w W L)) {ad : Addr} {vs : List Value} (k : Has w ad vs) : Has W ad vs := k.below S.out.below
/-- Two that share blocks, told as one. -/
def both (a b : Asn) : Asn where
 foot k := a.foot k ∨ b.foot k
 pred W := a.pred W ∧ b.pred W
 move h hp := ⟨a.move (fun k hk => h k (.inl hk)) hp.1, b.move (fun k hk => h k (.inr hk)) hp.2⟩
 lt hp k hk := hk.elim (a.lt hp.1 k) (b.lt hp.2 k)
theorem both_l {B : Nat} {w W : World} {L : List Asn} {F : Asn → List Asn} {a b : Asn} (S : Aside0 (St B w W L)) (hs : Spot L (both a b) F) : a.pred W := (pred_at S.out hs).1
theorem both_r {B : Nat} {w W : World} {L : List Asn} {F : Asn → List Asn} {a b : Asn} (S : Aside0 (St B w W L)) (hs : Spot L (both a b) F) : b.pred W := (pred_at S.out hs).2
/-- A row that is only read. -/
def View {α : Type} (d : Kd α) (e : Nat) (D : Nat → Prop) (v : Value) (xs : List α) : Asn where
 foot := D
 pred W := Kd.V d e W 0 D v xs ∧ ∀ k, D k → k < W.heap.size
 move {W W'} h hp := ⟨Kd.V_step hp.1 (fun k hk _ => h k hk), fun k hk => by
  have h1 := h k hk
  rw [Array.getElem?_eq_getElem (hp.2 k hk)] at h1
  exact (Array.getElem?_eq_some_iff.1 h1).1⟩
 lt hp k hk := hp.2 k hk
theorem View.v {α : Type} {d : Kd α} {e : Nat} {D : Nat → Prop} {v : Value} {xs : List α} {W : World} (h : (View d e D v xs).pred W) (b : Nat) : Kd.V d e W b D v xs := h.1
theorem View.lt' {α : Type} {d : Kd α} {e : Nat} {D : Nat → Prop} {v : Value} {xs : List α} {W : World} (h : (View d e D v xs).pred W) : ∀ k, D k → k < W.heap.size := h.2
theorem View.mk {α : Type} {d : Kd α} {e b : Nat} {D : Nat → Prop} {v : Value} {xs : List α} {W : World} (h : Kd.V d e W b D v xs) : (View d e (fun k => D k ∧ k < W.heap.size) v xs).pred W := ⟨Kd.V_bound h, fun _ hk => hk.2⟩
theorem View.foot {α : Type} {d : Kd α} {e : Nat} {D : Nat → Prop} {v : Value} {xs : List α} {k : Nat} (h : (View d e D v xs).foot k) : D k := h
theorem View.at {α : Type} {d : Kd α} {e : Nat} {D : Nat → Prop} {v : Value} {xs : List α} {k : Nat} (h : D k) : (View d e D v xs).foot k := h
theorem View.slice {α : Type} {d : Kd α} {e : Nat} {D : Nat → Prop} {v : Value} {xs : List α} {W : World} (h : (View d e D v xs).pred W) : ∃ A c, v = .slice A xs.length c ∧ xs.length ≤ c ∧ d.C W A xs.length xs := by
 obtain ⟨A, c, rfl⟩ := Kd.V_slice (View.v h 0)
 exact ⟨A, c, rfl, (Kd.V_reads' (View.v h 0)).2⟩
theorem View.nil {α : Type} (d : Kd α) (e : Nat) (W : World) : (View d e (fun _ => False) (.slice none 0 0) []).pred W := ⟨Kd.V_nil _ _ _ _ _, fun _ h => h.elim⟩
attribute [irreducible] View
section
variable {P : Program} {ops : Array Oper} {o : Oper} {a : Act} {Q : Exit → Act → World → Prop} {K : Act → World → Prop} {B : Nat} {w W : World} {L : List Asn} {F : Asn → List Asn}
/-- The same steps in a region that draws its order. -/
theorem put_st {g i : Nat} {cs seg : List Value} {T : TypeId} (S : Aside0 (St B w W L)) (hs : Spot L (Bk g cs.toArray T) F) : Aside0 (St B w (W.setCells g i seg) (F (Bk g (putAt cs i seg).toArray T))) := by
 have hg : W.heap[g]? = some (.cells cs.toArray T (0, 0)) := Bk.heap (pred_at S.out hs)
 obtain ⟨s1, s2, s3, s4⟩ := setCells_same g seg i W
 exact ⟨turn_at S.out hs s1 s2 s3 (by omega) (fun k _ hne => setCells_far seg i k (fun e => hne (by rw [e]; exact Bk.at))) (Bk.of (blk_puts seg i W cs hg)) (fun k hk => .inl (by rw [Bk.foot hk]; exact Bk.at))⟩
theorem st_store {t : TypeId} {p x : Operand} {g i n : Nat} {cs : List Value} {T : TypeId} {u : Value} {seg : List Value} (S : Aside0 (St B w W L)) (hw : Region.wanted o (yielded ops a.tmps) = true) (hN : o.dst = none) (ho : o.op = .store t p x) (ht : (P.info? t).map (·.size) = some n)
  (hp : a.eval p = .pointer (some ⟨g, i, none⟩)) (hx : holds a x = some u) (hs : Spot L (Bk g cs.toArray T) F) (hu : u.cells.toList = seg) (hn : seg.length = n) (hfit : Nat.ble (i + n) cs.length = true) (h1 : seg.all (fun q => q.oneCell') = true)
  (h : ∀ w1, Aside0 (St B w w1 (F (Bk g (putAt cs i seg).toArray T))) → K a w1) : if Region.wanted o (yielded ops a.tmps) = true then Oper.wp P o a W K Q else K (a.put none undef) W := by
 have hg : W.heap[g]? = some (.cells cs.toArray T (0, 0)) := Bk.heap (pred_at S.out hs)
 have hr : (Instr.storeAt t (.pointer (some ⟨g, i, none⟩)) u).run P W = .ok () (W.setCells g i seg) :=
  run_store_run t u seg hg hu (by rw [hn]; exact ht) (by have := Nat.le_of_ble_eq_true hfit; rw [hn]; simpa using this) (fun q hq => List.all_eq_true.1 h1 q hq)
 rw [if_pos hw]
 unfold Oper.wp execOp
 simp only [ho, hp, eval_of hx, Sem.run_bind, Sem.run_pure, Result.andThen_ok, hr]
 show K (a.put o.dst undef) _
 rw [hN]
 exact h _ (put_st S hs)
theorem st_puts {t : TypeId} {p x : Operand} {g i n : Nat} {cs seg : List Value} {T : TypeId} (S : Aside0 (St B w W L)) (hw : Region.wanted o (yielded ops a.tmps) = true) (hN : o.dst = none) (ho : o.op = .store t p x) (ht : (P.info? t).map (·.size) = some n)
  (hp : a.eval p = .pointer (some ⟨g, i, none⟩)) (hx : holds a x = some (.agg seg.toArray)) (hs : Spot L (Bk g cs.toArray T) F) (hn : seg.length = n) (hfit : Nat.ble (i + n) cs.length = true) (h1 : seg.all (fun q => q.oneCell') = true)
  (h : ∀ w1, Aside0 (St B w w1 (F (Bk g (putAt cs i seg).toArray T))) → K a w1) : if Region.wanted o (yielded ops a.tmps) = true then Oper.wp P o a W K Q else K (a.put none undef) W :=
 st_store S hw hN ho ht hp hx hs (by simp [Value.cells]) hn hfit h1 h
theorem st_put1 {t : TypeId} {p x : Operand} {g i : Nat} {cs : List Value} {T : TypeId} {u : Value} (S : Aside0 (St B w W L)) (hw : Region.wanted o (yielded ops a.tmps) = true) (hN : o.dst = none) (ho : o.op = .store t p x) (ht : (P.info? t).map (·.size) = some 1)
  (hp : a.eval p = .pointer (some ⟨g, i, none⟩)) (hx : holds a x = some u) (hs : Spot L (Bk g cs.toArray T) F) (hfit : Nat.ble (i + 1) cs.length = true) (h1 : u.oneCell' = true)
  (h : ∀ w1, Aside0 (St B w w1 (F (Bk g (cs.set i u).toArray T))) → K a w1) : if Region.wanted o (yielded ops a.tmps) = true then Oper.wp P o a W K Q else K (a.put none undef) W := by
 have hc : u.cells.toList = [u] := by cases u <;> first | rfl | (simp [Value.oneCell'] at h1)
 exact st_store S hw hN ho ht hp hx hs hc rfl hfit (by simp [h1]) (fun w1 h2 => h w1 h2)
theorem st_loads {t : TypeId} {p : Operand} {ad : Addr} {vs : List Value} {N : Option Tmp} (hw : Region.wanted o (yielded ops a.tmps) = true) (hN : o.dst = N) (ho : o.op = .load t p) (ht : Many P t vs.length) (hx : a.eval p = .pointer (some ad)) (hc : Has W ad vs)
  (h : K (a.put N (.agg vs.toArray)) W) : if Region.wanted o (yielded ops a.tmps) = true then Oper.wp P o a W K Q else K (a.put N undef) W := by
 rw [if_pos hw]
 subst hN
 unfold Oper.wp execOp
 simp only [ho, hx, Instr.loadAt, Instr.sureAddr, Sem.run_bind, Sem.run_pure, Result.andThen_ok, run_load_many ht hc]
 exact h
theorem st_load1 {t : TypeId} {p : Operand} {ad : Addr} {v : Value} {N : Option Tmp} (hw : Region.wanted o (yielded ops a.tmps) = true) (hN : o.dst = N) (ho : o.op = .load t p) (ht : One P t) (hx : a.eval p = .pointer (some ad)) (hc : W.cell? ad = some v)
  (h : K (a.put N v) W) : if Region.wanted o (yielded ops a.tmps) = true then Oper.wp P o a W K Q else K (a.put N undef) W := by
 rw [if_pos hw]
 subst hN
 unfold Oper.wp execOp
 simp only [ho, hx, Instr.loadAt, Instr.sureAddr, Sem.run_bind, Sem.run_pure, Result.andThen_ok, run_load_one ht hc]
 exact h
theorem st_alloc {T : TypeId} {z : Value} (cs : Array Value) (hc : z.cells = cs) (S : Aside0 (St B w W L)) (hw : Region.wanted o (yielded ops a.tmps) = true) (N : Tmp) (hN : o.dst = some N) (ho : o.op = .alloc T) (hz : (P.info? T).map (·.zero) = some (some z))
  (h : ∀ g w1, Aside0 (St B w w1 (Bk g cs T :: L)) → K (a.put (some N) (.pointer (some ⟨g, 0, none⟩))) w1) : if Region.wanted o (yielded ops a.tmps) = true then Oper.wp P o a W K Q else K (a.put (some N) undef) W := by
 rw [if_pos hw]
 obtain ⟨i, hi, hzz⟩ := Option.map_eq_some_iff.1 hz
 have hr : (Instr.alloc T true (.tuple #[])).run P W = .ok (.pointer (some ⟨W.heap.size, 0, none⟩)) (W.alloc (.cells z.cells T (0, 0))) := by
  simp [Instr.alloc, zeroValue, typeInfo, hi, hzz, newVar, newRow, newObj, go_sem]
  rfl
 unfold Oper.wp execOp
 simp only [ho, Sem.run_bind, Sem.run_pure, Result.andThen_ok, hr]
 show K (a.put o.dst _) _
 rw [hN]
 subst hc
 exact h _ _ ⟨St.newBk S.out z.cells T⟩
end
/-- A row of one-cell elements that is one's own: it may be written and appended to. -/
def Own {α : Type} (d : Kd α) (e : Nat) (A : Option Addr) (c : Nat) (xs : List α) : Asn where
 foot k := (Value.slice A xs.length c).ownBlock = some k
 pred W := Kd.R d e W 0 (fun k => (Value.slice A xs.length c).ownBlock = some k) (.slice A xs.length c) xs
 move h hp := Kd.R_move hp h
 lt hp k hk := Kd.R_lt hp k hk
section
variable {α : Type} {d : Kd α} {e c n base q : Nat} {ok : Nat → Prop} {W : World} {A : Option Addr} {xs : List α}
theorem Own.row (h : (Own d e A c xs).pred W) : Kd.R d e W 0 (fun k => (Value.slice A xs.length c).ownBlock = some k) (.slice A xs.length c) xs := h
theorem Own.ofK (h : Kd.R d e W 0 (fun k => (Value.slice A xs.length c).ownBlock = some k) (.slice A xs.length c) xs) : (Own d e A c xs).pred W := h
theorem Own.foot_iff : (Own d e A c xs).foot q ↔ (Value.slice A xs.length c).ownBlock = some q := Iff.rfl
theorem Own.mk (hE : d.E = []) (h : Kd.R d e W base ok (.slice A xs.length c) xs) : (Own d e A c xs).pred W := Kd.R_lower (Kd.R_reok hE h (fun _ hk => hk)) (Nat.zero_le _)
theorem Own.new (h : Kd.R d e W base ok (.slice A xs.length c) xs) : ∀ k, (Own d e A c xs).foot k → base ≤ k := Kd.R_base h
theorem Own.reads (h : (Own d e A c xs).pred W) : d.C W A xs.length xs := (Kd.R_reads' (Own.row h)).2.2
theorem Own.cap (h : (Own d e A c xs).pred W) : xs.length ≤ c := (Kd.R_reads' (Own.row h)).2.1
theorem Own.nil (d : Kd α) (e : Nat) (W : World) : (Own d e none 0 ([] : List α)).pred W := Kd.R_nil _ _ _ _ _
theorem Own.nil_foot (d : Kd α) (e : Nat) (P : Nat → Prop) : ∀ k, (Own d e none 0 ([] : List α)).foot k → P k := fun k h => by cases (Own.foot_iff.1 h)
theorem Own.form (h : (Own d e A c xs).pred W) (hp : 0 < xs.length) : ∃ g, A = some ⟨g, 0, none⟩ := by
 obtain ⟨g, cap, e1, _⟩ := Kd.R_form (Own.row h) hp
 injection e1 with e1 _ _
 exact ⟨g, e1⟩
theorem Own.max (h : (Own d e A c xs).pred W) : xs.length ≤ 9223372036854775807 := Kd.C_max (Own.reads h)
end
attribute [irreducible] Own
theorem reps_scalar {α : Type} {enc : α → Value} {h1 : ∀ x, (enc x).oneCell' = true} (W : World) (base : Nat) (ok : Nat → Prop) (xs : List α) : Reps ((Kd.scalar enc h1).M W base ok) (Kd.scalar enc h1).sz xs (xs.map enc) := by
 refine ⟨by show _ = xs.length * 1; simp, fun j p hj => ?_⟩
 have hj' := (List.getElem?_eq_some_iff.1 hj)
 show _ = [enc p]
 have e1 : (Kd.scalar enc h1).sz = 1 := rfl
 rw [e1, Nat.mul_one]
 obtain ⟨hl, he⟩ := hj'
 rw [List.drop_eq_getElem_cons (by simpa using hl)]
 simp [he]
section
variable {α : Type} {P : Program} {ops : Array Oper} {rest : List Oper} {o : Oper} {a : Act} {Q : Exit → Act → World → Prop} {B : Nat} {w W : World} {L : List Asn} {F F' : Asn → List Asn} {enc : α → Value} {h1 : ∀ x, (enc x).oneCell' = true} {e : Nat}
/-- A literal of one-cell elements. -/
theorem ev_lit (xs : List α) (S : Aside0 (St B w W L)) (hgd : o.guard = none) (N : Tmp) (hN : o.dst = some N)
  (hrun : (execOp a.eval o).run P W = .ok (.value (.slice (some ⟨W.heap.size, 0, none⟩) xs.length xs.length)) (W.alloc (.cells (xs.map enc).toArray e))) (hm : xs.length ≤ 9223372036854775807)
  (h : ∀ A c w1, Aside0 (St B w w1 (Own (Kd.scalar enc h1) e A c xs :: L)) → wpList P ops Q rest (a.put (some N) (.slice A xs.length c)) w1) : wpList P ops Q (o :: rest) a W := by
 refine Kd.R_lit (Kd.scalar enc h1) (w0 := W) W.heap.size e hgd (N := N) hN (ok := fun _ => True) (okp := fun _ => True) hrun (reps_scalar W _ _ xs) (fun _ hk => hk) trivial (Below.refl _ _) (Nat.le_refl _) hm ?_
 intro v1 w1 hR hb hg hat
 obtain ⟨A, c, rfl, _⟩ := Kd.R_reads hR
 rw [hN]
 exact h A c w1 ⟨St.add S.out hb _ (Own.mk rfl hR) (Own.new hR)⟩
/-- A row that is read, appended to one's own. -/
theorem ev_rows (z : α) (s x : Operand) (t : TypeId) (zv : Value) (bytes : Nat) {A A1 : Option Addr} {n m c c1 : Nat} {xs ys : List α} (S : Aside0 (St B w W L)) (hgd : o.guard = none) (ho : o.op = .call { callee := .builtin .append, args := #[s, x], argTypes := #[t, t] })
  (ht : P.underlying t = some (.slice e)) (hinfo : (P.info? e).map (fun i => (i.zero, i.size, i.bytes)) = some (some zv, 1, bytes)) (hz : zv.cells.size = 1) (hb0 : 0 < bytes) (hs : a.eval s = .slice A n c) (hx : a.eval x = .slice A1 m c1)
  (hsp : Spot L (Own (Kd.scalar enc h1) e A c xs) F) (hn : xs.length = n) (hC : (Kd.scalar enc h1).C W A1 m ys) (hl : (xs.length + m) * bytes ≤ 140737488355328)
  (h : ∀ A' c' w1, Aside0 (St B w w1 (F (Own (Kd.scalar enc h1) e A' c' (xs ++ ys)))) → wpList P ops Q rest (a.put o.dst (.slice A' (xs ++ ys).length c')) w1) : wpList P ops Q (o :: rest) a W := by
 subst hn
 have hO := pred_at S.out hsp
 refine Kd.R_append_row enc z (h1 := h1) (w0 := W) 0 hgd s x t e zv bytes ho ht hinfo hz hb0 _ xs ys A1 m c1 (fun _ => True) hs hx (fun _ _ => trivial) (Kd.R_mono (Own.row hO) (fun _ _ => trivial)) hC (Below.refl 0 W) (Nat.zero_le _) hl ?_
 intro v1 w1 hR hb hg hat
 obtain ⟨A', c', rfl, _⟩ := Kd.R_reads hR
 refine h A' c' w1 ⟨turn_at S.out hsp hg.os hg.tape hg.output hg.size (fun k hk hne => hg.block k hk (fun e_ => hne (Own.foot_iff.2 e_.symm))) (Own.mk rfl hR) (fun k hk => ?_)⟩
 have hk' := Own.foot_iff.1 hk
 rcases hat with e1 | ⟨b, e1, hbb⟩
 ·exact .inl (Own.foot_iff.2 (e1.symm.trans hk'))
 ·rw [e1] at hk'
  injection hk' with hk'
  exact .inr (hk' ▸ hbb)
/-- An element of one's own row, read. -/
theorem ev_row1 (d : α) {t : TypeId} {p : Operand} {g i c : Nat} {xs : List α} (S : Aside0 (St B w W L)) (hw : Region.wanted o (yielded ops a.tmps) = true) (ho : o.op = .load t p) (ht : One P t) (hx : a.eval p = .pointer (some ⟨g, i, none⟩)) (hs : Spot L (Own (Kd.scalar enc h1) e (some ⟨g, 0, none⟩) c xs) F) (hi : i < xs.length)
  (h : wpList P ops Q rest (a.put o.dst (enc (rdOf d xs i))) W) : wpList P ops Q (o :: rest) a W := by
 have h1 := Kd.R_celln d (Own.row (pred_at S.out hs)) (i : Int) (by omega) (by omega)
 rw [Int.toNat_natCast] at h1
 exact ev_load1 hw ho ht hx h1.1 h
/-- An element of it, written. -/
theorem ev_rowput (d v : α) {t : TypeId} {p x : Operand} {g i c : Nat} {xs : List α} (S : Aside0 (St B w W L)) (hw : Region.wanted o (yielded ops a.tmps) = true) (hN : o.dst = none) (ho : o.op = .store t p x) (ht : (P.info? t).map (·.size) = some 1) (hp : a.eval p = .pointer (some ⟨g, i, none⟩)) (hx : holds a x = some (enc v))
  (hs : Spot L (Own (Kd.scalar enc h1) e (some ⟨g, 0, none⟩) c xs) F) (hi : i < xs.length)
  (h : ∀ w1, Aside0 (St B w w1 (F (Own (Kd.scalar enc h1) e (some ⟨g, 0, none⟩) c (xs.set i v)))) → wpList P ops Q rest a w1) : wpList P ops Q (o :: rest) a W := by
 have hR := Own.row (pred_at S.out hs)
 have k1 := Kd.R_celln d hR (i : Int) (by omega) (by omega)
 have h2 := Kd.R_putg hR (i : Int) v
 rw [Int.toNat_natCast] at k1 h2
 obtain ⟨i0, hi0, hsz⟩ := Option.map_eq_some_iff.1 ht
 have hc : (enc v).cells.toList = [enc v] := by
  have := h1 v
  cases hv : enc v <;> first | rfl | (rw [hv] at this; simp [Value.oneCell'] at this)
 have hr : (Instr.storeAt t (.pointer (some ⟨g, i, none⟩)) (enc v)).run P W = .ok () (W.setCell ⟨g, i, none⟩ (enc v)) := by
  have e0 : (⟨g, i, none⟩ : Addr).add 0 = ⟨g, i, none⟩ := by unfold Addr.add; simp
  have hsz' : (enc v).cells.size = i0.size := by rw [← Array.length_toList, hc, hsz]; rfl
  have hst : (store (⟨g, i, none⟩ : Addr) (enc v)).run P W = .ok () (W.setCell ⟨g, i, none⟩ (enc v)) := by
   rw [run_store P W _ _ _ (h1 v), k1.1]
   simp [k1.2]
  simp [Instr.storeAt, Instr.sureAddr, storeVar, sizeOf, typeInfo, hi0, hsz', hc, storeCells, e0, hst]
 refine wpList_step fun K hK => ?_
 rw [if_pos hw]
 unfold Oper.wp execOp
 simp only [ho, hp, eval_of hx, Sem.run_bind, Sem.run_pure, Result.andThen_ok, hr]
 show K (a.put o.dst undef) _
 rw [hN]
 have hl : (xs.set i v).length = xs.length := List.length_set ..
 refine hK _ _ (h _ ⟨turn_at S.out hs rfl rfl rfl h2.2.size (fun k hk hne => h2.2.block k hk (fun e => hne ?_)) (Own.ofK ?_) (fun k hk => .inl ?_)⟩)
 ·rw [Own.foot_iff, e]; rfl
 ·rw [hl]; exact h2.1
 ·rw [Own.foot_iff] at hk ⊢; rw [hl] at hk; exact hk
end
/-- The results: what each variable holds. -/
theorem ret1 {P : Program} {fn : Func} {R : Ending → World → Prop} {a : Act} {w : World} {v : Value} {r : ResultVar} (hr : fn.results = #[r]) (hd : a.defers = []) (hv : Vals P a.tmps w [r] [v]) (h : R (.returned v) w) : bodyPost P fn R .ret a w :=
 ⟨hd, v, results_single hr hv, h⟩
theorem retN {P : Program} {fn : Func} {R : Ending → World → Prop} {a : Act} {w : World} {vs : List Value} {rs : List ResultVar} (hr : fn.results = rs.toArray) (hd : a.defers = []) (hl : vs.length ≠ 1) (hv : Vals P a.tmps w rs vs) (h : R (.returned (.tuple vs.toArray)) w) : bodyPost P fn R .ret a w :=
 ⟨hd, _, results_list hr hl hv, h⟩
theorem Bk.vals {P : Program} {tmps : Array Value} {W : World} {p g : Nat} {ty t : TypeId} {cs : Array Value} {rs : List ResultVar} {vs : List Value} {L : List Asn} {B : Nat} {w : World} {F : Asn → List Asn} (S : Aside0 (St B w W L)) (hp : tmps.getD p undef = .pointer (some ⟨g, 0, none⟩)) (hs : Spot L (Bk g cs t) F) {n : Nat} (hm : Many P ty n) (hn : cs.toList.length = n)
  (h : Vals P tmps W rs vs) : Vals P tmps W (.cell p ty :: rs) (.agg cs :: vs) := by
 subst hn
 obtain ⟨⟨d, h1, h2⟩, h3⟩ := hm
 exact .cell g t cs (0, 0) d hp (Bk.heap (pred_at S.out hs)) h1 (by cases d <;> first | rfl | simp at h2) (by simpa using h3) h
end Go.Proofs.Ytaomemhnjpemiaa.Ev
/- Rows of structs that are one's own: an element read, written; a row cut, cleared behind, appended to. -/
namespace Go.Proofs.Ytaomemhnjpemiaa.Ev
open Go.RowKit Go.Proofs.Ytaomemhnjpemiaa.Sep Go.Proofs.YtaomemhnjpemiaaW.PrintWords Go.Proofs.YtaomemhnjpemiaaW.PrintLast Go.Proofs.YtaomemhnjpemiaaW.PrintMore
set_option linter.unusedVariables false
set_option linter.unusedSimpArgs false
section
variable {α : Type} {d : Kd α} {e c n base base' g : Nat} {ok ok' : Nat → Prop} {W W' : World} {A : Option Addr} {xs : List α}
/-- Elements that lead nowhere read the same in every world. -/
theorem flat_M {x : α} {cs : List Value} (hE : d.E = []) (h : d.M W base ok x cs) : d.M W' base ok' x cs := by
 have h1 : d.M W base (fun _ => False) x cs := d.M_mono (fun k hk => by obtain ⟨_, _, _, q, hq, _⟩ := hk; rw [hE] at hq; cases hq) (d.M_bound h)
 exact d.M_mono (fun k hk => hk.elim) (d.M_move (fun k hk => hk.elim) h1)
theorem Own.elem (h : (Own d e (some ⟨g, 0, none⟩) c xs).pred W) (z : α) (i : Nat) (hi : i < xs.length) : ∃ cs, d.K W (xs.getD i z) cs ∧ Has W ⟨g, i * d.sz, none⟩ cs := by
 obtain ⟨cs, hcl, hM, hc, _⟩ := Kd.R_elem (Own.row h) z (i : Int) (by omega) (by omega)
 rw [Int.toNat_natCast] at hM hc
 refine ⟨cs, d.K_of_M hM, fun j u hu => ?_⟩
 have : (⟨g, i * d.sz, none⟩ : Addr).add j = ⟨g, i * d.sz + j, none⟩ := by unfold Addr.add; split <;> simp_all
 rw [this]
 exact hc j u hu
theorem Own.blk (h : (Own d e (some ⟨g, 0, none⟩) c xs).pred W) : ∃ cur, W.heap[g]? = some (.cells cur e (0, 0)) ∧ cur.size = c * d.sz := by
 obtain ⟨_, inner, ho, hr⟩ := Own.row h
 rcases ho.2 with ⟨hv, _⟩ | ⟨g', cap', cur, hv, hb, hh, hnc', hcm, hcs, ht⟩
 ·cases hv
 ·injection hv with ha _ hc
  injection ha with ha
  injection ha with hg
  subst hg; subst hc
  exact ⟨cur, hh, hcs⟩
theorem Own.put (hE : d.E = []) (h : (Own d e (some ⟨g, 0, none⟩) c xs).pred W) (i : Nat) (hi : i < xs.length) {x : α} {seg : List Value} (hM : d.M W 0 (fun _ => False) x seg) (hl : seg.length = d.sz) :
  (Own d e (some ⟨g, 0, none⟩) c (xs.set i x)).pred (W.setCells g (i * d.sz) seg) := by
 obtain ⟨cs, hcl, _, hc, _⟩ := Kd.R_elem (Own.row h) x (i : Int) (by omega) (by omega)
 have h2 := (Kd.R_seg (okp := fun _ => False) (j := 0) (seg := seg) (x' := x) (Own.row h) (i : Int) (by omega) (by omega) hcl hc (by omega) (by simpa [hl, ← hcl] using hM) (fun _ hk => hk.elim)).1
 rw [Int.toNat_natCast, Nat.add_zero] at h2
 have e1 : (xs.set i x).length = xs.length := List.length_set ..
 refine Own.ofK ?_
 rw [e1]
 exact h2
theorem Own.take (hE : d.E = []) {m : Nat} (h : (Own d e A c xs).pred W) (hm : m ≤ xs.length) : (Own d e A c (xs.take m)).pred W := by
 have h1 := Kd.R_take (Own.row h) hm
 have e1 : (xs.take m).length = m := by rw [List.length_take]; omega
 refine Own.mk (ok := fun _ => True) (base := 0) hE ?_
 rw [e1]
 exact Kd.R_mono h1 (fun _ _ => trivial)
/-- What stands behind a row's end may be written. -/
theorem Own.behind (hE : d.E = []) (h : (Own d e (some ⟨g, 0, none⟩) c xs).pred W) {o : Nat} {seg : List Value} (ho : xs.length * d.sz ≤ o) (hf : o + seg.length ≤ c * d.sz) : (Own d e (some ⟨g, 0, none⟩) c xs).pred (W.setCells g o seg) := by
 obtain ⟨h0, inner, hown, hr⟩ := Own.row h
 refine Own.ofK ⟨h0, inner, ⟨hown.1, ?_⟩, hr.imp_ (fun p cs hp => flat_M hE hp)⟩
 rcases hown.2 with ⟨hv, _⟩ | ⟨g', cap', cur, hv, hb, hh, hnc', hcm, hcs, ht⟩
 ·cases hv
 ·injection hv with ha _ hc
  injection ha with ha
  injection ha with hg
  subst hg; subst hc
  obtain ⟨cur', h3, h4, h5⟩ := setCells_row seg o W cur hh (by omega)
  refine .inr ⟨g, c, cur', rfl, hb, h3, hnc', hcm, by rw [h4]; exact hcs, ?_⟩
  have hL : xs.length * d.sz ≤ cur.toList.length := Nat.le_trans (Nat.mul_le_mul_right _ (Own.cap h)) (Nat.le_of_eq (hcs.symm.trans (Array.length_toList (xs := cur)).symm))
  rw [h5, List.append_assoc, List.take_append_of_le_length (by rw [List.length_take]; omega), List.take_take, Nat.min_eq_left (by simpa using ho)]
  exact ht
end
section
variable {α : Type} {P : Program} {ops : Array Oper} {rest : List Oper} {o : Oper} {a : Act} {Q : Exit → Act → World → Prop} {B : Nat} {w W : World} {L : List Asn} {F F' : Asn → List Asn} {d : Kd α} {e : Nat}
/-- A store of a whole element. -/
theorem ev_rowputs {t : TypeId} {p x : Operand} {g i c n : Nat} {v : α} {xs : List α} {seg : List Value} (hE : d.E = []) (S : Aside0 (St B w W L)) (hw : Region.wanted o (yielded ops a.tmps) = true) (hN : o.dst = none) (ho : o.op = .store t p x) (ht : (P.info? t).map (·.size) = some n)
  (hp : a.eval p = .pointer (some ⟨g, i * d.sz, none⟩)) (hx : holds a x = some (.agg seg.toArray)) (hs : Spot L (Own d e (some ⟨g, 0, none⟩) c xs) F) (hi : i < xs.length) (hM : ∀ W, d.M W 0 (fun _ => False) v seg) (hl : seg.length = d.sz) (hn : n = d.sz)
  (h : ∀ w1, Aside0 (St B w w1 (F (Own d e (some ⟨g, 0, none⟩) c (xs.set i v)))) → wpList P ops Q rest a w1) : wpList P ops Q (o :: rest) a W := by
 have hO := pred_at S.out hs
 obtain ⟨cur, hg, hcs⟩ := Own.blk hO
 have hcap := Own.cap hO
 have h1 : ∀ q ∈ seg, q.oneCell' = true := d.K_one (d.K_of_M (hM W))
 have hmul : (i + 1) * d.sz ≤ c * d.sz := Nat.mul_le_mul_right _ (by omega)
 rw [Nat.succ_mul] at hmul
 have hr : (Instr.storeAt t (.pointer (some ⟨g, i * d.sz, none⟩)) (.agg seg.toArray)).run P W = .ok () (W.setCells g (i * d.sz) seg) :=
  run_store_run t _ seg hg (by simp [Value.cells]) (by rw [hl, ← hn]; exact ht) (by omega) h1
 refine wpList_step fun K hK => ?_
 rw [if_pos hw]
 unfold Oper.wp execOp
 simp only [ho, hp, eval_of hx, Sem.run_bind, Sem.run_pure, Result.andThen_ok, hr]
 show K (a.put o.dst undef) _
 rw [hN]
 obtain ⟨s1, s2, s3, s4⟩ := setCells_same g seg (i * d.sz) W
 have e1 : (xs.set i v).length = xs.length := List.length_set ..
 refine hK _ _ (h _ ⟨turn_at S.out hs s1 s2 s3 (by omega) (fun k _ hne => setCells_far seg _ k (fun e => hne (Own.foot_iff.2 (by rw [e]; rfl)))) (Own.put hE hO i hi (hM W) hl) (fun k hk => .inl ?_)⟩)
 rw [Own.foot_iff] at hk ⊢
 rw [e1] at hk
 exact hk
theorem mem_zeroCells {z : Array Value} {n : Nat} {v : Value} (h : v ∈ (Builtin.zeroCells z n).toList) : v ∈ z.toList := by
 unfold Builtin.zeroCells at h
 simp only [Array.toList_map, List.mem_map] at h
 obtain ⟨i, hi, rfl⟩ := h
 rw [Array.mem_toList_iff, Array.mem_range] at hi
 have hz : 0 < z.size := by
  rcases Nat.eq_zero_or_pos z.size with h0 | h0
  ·rw [h0, Nat.mul_zero] at hi; omega
  ·exact h0
 have hlt : i % z.size < z.size := Nat.mod_lt _ hz
 rw [getElem!_pos z _ hlt, Array.mem_toList_iff]
 exact Array.getElem_mem hlt
/-- clear of what stands behind a row's end. -/
theorem ev_clear {t et : TypeId} {x : Operand} {g c n c1 q : Nat} {xs : List α} {z : Value} (hE : d.E = []) (S : Aside0 (St B w W L)) (hgd : o.guard = none) (hN : o.dst = none) (ho : o.op = .call { callee := .builtin .clear, args := #[x], argTypes := #[t] })
  (ht : P.underlying t = some (.slice et)) (hz : (P.info? et).map (·.zero) = some (some z)) (hx : a.eval x = .slice (some ⟨g, q, none⟩) n c1) (hn : 0 < n) (hs : Spot L (Own d e (some ⟨g, 0, none⟩) c xs) F) (hq : xs.length * d.sz ≤ q) (hf : q + n * d.sz ≤ c * d.sz) (hzs : z.cells.size = d.sz) (h1 : z.cells.toList.all (fun v => v.oneCell') = true)
  (h : ∀ w1, Aside0 (St B w w1 (F (Own d e (some ⟨g, 0, none⟩) c xs))) → wpList P ops Q rest a w1) : wpList P ops Q (o :: rest) a W := by
 have hO := pred_at S.out hs
 obtain ⟨cur, hg, hcs⟩ := Own.blk hO
 obtain ⟨i0, hi0, hzz⟩ := Option.map_eq_some_iff.1 hz
 obtain ⟨m, rfl⟩ : ∃ m, n = m + 1 := ⟨n - 1, by omega⟩
 generalize hseg : (Builtin.zeroCells z.cells (m + 1)).toList = seg
 have hlen : seg.length = (m + 1) * d.sz := by rw [← hseg, Array.length_toList, size_zeroCells, hzs]
 have hone : ∀ v ∈ seg, v.oneCell' = true := by
  intro v hv
  rw [← hseg] at hv
  exact List.all_eq_true.1 h1 v (mem_zeroCells hv)
 have hst := run_storeCells_cells (P := P) g q seg 0 W (fun j hj => by rw [cell_of_row W g _ cur e (0, 0) hg]; simp; omega) (fun j _ => blk_frozen hg _) hone
 simp only [Nat.add_zero] at hst
 have hr : (Builtin.clear_ #[t] o.type #[.slice (some ⟨g, q, none⟩) (m + 1) c1]).run P W = .ok (.tuple #[]) (W.setCells g q seg) := by
  simp [Builtin.clear_, run_underlying ht, zeroValue, typeInfo, hi0, hzz, hseg, hst]
 refine wpList_plain hgd fun K hK => ?_
 unfold Oper.wp execOp
 simp only [ho, resolve, invoke, builtin, Sem.run_bind, Sem.run_pure, Result.andThen_ok, List.map_toArray, List.map_cons, List.map_nil, hx, hr]
 show K (a.put o.dst _) _
 rw [hN]
 obtain ⟨s1, s2, s3, s4⟩ := setCells_same g seg q W
 refine hK _ _ (h _ ⟨turn_at S.out hs s1 s2 s3 (by omega) (fun k _ hne => setCells_far seg _ k (fun e => hne (Own.foot_iff.2 (by rw [e]; rfl)))) (Own.behind hE hO hq (by omega)) (fun k hk => .inl hk)⟩)
/-- A literal of structs. -/
theorem ev_litS (xs : List α) {inner : List Value} (hE : d.E = []) (S : Aside0 (St B w W L)) (hgd : o.guard = none) (N : Tmp) (hN : o.dst = some N)
  (hrun : (execOp a.eval o).run P W = .ok (.value (.slice (some ⟨W.heap.size, 0, none⟩) xs.length xs.length)) (W.alloc (.cells inner.toArray e))) (hrep : Reps (d.M W W.heap.size (fun _ => True)) d.sz xs inner) (hm : xs.length ≤ 9223372036854775807)
  (h : ∀ A c w1, Aside0 (St B w w1 (Own d e A c xs :: L)) → wpList P ops Q rest (a.put (some N) (.slice A xs.length c)) w1) : wpList P ops Q (o :: rest) a W := by
 refine Kd.R_lit d (w0 := W) W.heap.size e hgd (N := N) hN (ok := fun _ => True) (okp := fun _ => True) hrun hrep (fun _ hk => hk) trivial (Below.refl _ _) (Nat.le_refl _) hm ?_
 intro v1 w1 hR hb hg hat
 obtain ⟨A, c, rfl, _⟩ := Kd.R_reads hR
 rw [hN]
 exact h A c w1 ⟨St.add S.out hb _ (Own.mk hE hR) (Own.new hR)⟩
/-- A row of structs that is read, appended to one's own. -/
theorem ev_rowsS (s x : Operand) (t : TypeId) (zv : Value) (bytes : Nat) {A A1 : Option Addr} {n m c c1 : Nat} {xs ys : List α} (hE : d.E = []) (hKM : ∀ W x cs, d.K W x cs → d.M W 0 (fun _ => False) x cs) (hs0 : 0 < d.sz) (S : Aside0 (St B w W L)) (hgd : o.guard = none) (ho : o.op = .call { callee := .builtin .append, args := #[s, x], argTypes := #[t, t] })
  (ht : P.underlying t = some (.slice e)) (hinfo : (P.info? e).map (fun i => (i.zero, i.size, i.bytes)) = some (some zv, d.sz, bytes)) (hz : zv.cells.size = d.sz) (hb0 : 0 < bytes) (hs : a.eval s = .slice A n c) (hx : a.eval x = .slice A1 m c1)
  (hsp : Spot L (Own d e A c xs) F) (hn : xs.length = n) (hC : d.C W A1 m ys) (hl : (xs.length + m) * bytes ≤ 140737488355328)
  (h : ∀ A' c' w1, Aside0 (St B w w1 (F (Own d e A' c' (xs ++ ys)))) → wpList P ops Q rest (a.put o.dst (.slice A' (xs ++ ys).length c')) w1) : wpList P ops Q (o :: rest) a W := by
 subst hn
 have hO := pred_at S.out hsp
 refine Kd.R_append_rows d (Rr := d.K W) (w0 := W) 0 hgd s x t e zv bytes ho ht hinfo hz hs0 hb0 _ xs ys A1 m c1 (fun _ => True) (fun _ => False) hs hx (Kd.R_mono (Own.row hO) (fun _ _ => trivial)) hC (fun x cs hk => hKM W x cs hk) (fun _ hk => hk.elim) (fun _ _ => trivial) (Below.refl 0 W) (Nat.zero_le _) hl ?_
 intro v1 w1 hR hb hg hat
 obtain ⟨A', c', rfl, _⟩ := Kd.R_reads hR
 refine h A' c' w1 ⟨turn_at S.out hsp hg.os hg.tape hg.output hg.size (fun k hk hne => hg.block k hk (fun e_ => hne (Own.foot_iff.2 e_.symm))) (Own.mk hE hR) (fun k hk => ?_)⟩
 have hk' := Own.foot_iff.1 hk
 rcases hat with e1 | ⟨b, e1, hbb⟩
 ·exact .inl (Own.foot_iff.2 (e1.symm.trans hk'))
 ·rw [e1] at hk'
  injection hk' with hk'
  exact .inr (hk' ▸ hbb)
end
section
variable {α : Type} {d : Kd α} {e : Nat} {W : World} {xs : List α} {inner : List Value}
theorem lit_R (hE : d.E = []) (hrep : Reps (d.M W W.heap.size (fun _ => True)) d.sz xs inner) (hm : xs.length ≤ 9223372036854775807) : Kd.R d e (W.alloc (.cells inner.toArray e)) W.heap.size (fun _ => True) (.slice (some ⟨W.heap.size, 0, none⟩) xs.length xs.length) xs :=
 ⟨fun _ _ => trivial, inner, by
  have h2 := World.ownsRow_lit (base := W.heap.size) (e := e) (size := d.sz) W inner.toArray xs.length (Nat.le_refl _) (by simpa [maxLen] using hm) (by simpa using hrep.1)
  simpa using h2, hrep.imp_ (fun p cs hp => flat_M hE hp)⟩
end
section
variable {α : Type} {P : Program} {ops : Array Oper} {o : Oper} {a : Act} {Q : Exit → Act → World → Prop} {K : Act → World → Prop} {B : Nat} {w W : World} {L : List Asn} {F : Asn → List Asn} {d : Kd α} {e : Nat}
/-- The same in a region that draws its order: a literal of structs, a row appended. -/
theorem st_litS (xs : List α) {inner : List Value} (hE : d.E = []) (S : Aside0 (St B w W L)) (hw : Region.wanted o (yielded ops a.tmps) = true) (N : Tmp) (hN : o.dst = some N)
  (hrun : (execOp a.eval o).run P W = .ok (.value (.slice (some ⟨W.heap.size, 0, none⟩) xs.length xs.length)) (W.alloc (.cells inner.toArray e))) (hrep : Reps (d.M W W.heap.size (fun _ => True)) d.sz xs inner) (hm : xs.length ≤ 9223372036854775807)
  (h : ∀ A c w1, Aside0 (St B w w1 (Own d e A c xs :: L)) → K (a.put (some N) (.slice A xs.length c)) w1) : if Region.wanted o (yielded ops a.tmps) = true then Oper.wp P o a W K Q else K (a.put (some N) undef) W := by
 rw [if_pos hw]
 unfold Oper.wp
 simp only [hrun]
 show K (a.put o.dst _) _
 rw [hN]
 have hR := lit_R (e := e) hE hrep hm
 exact h _ _ _ ⟨St.add S.out (below_alloc (Below.refl _ _) _) _ (Own.mk hE hR) (Own.new hR)⟩
theorem st_rowsS (s x : Operand) (t : TypeId) (zv : Value) (bytes : Nat) {A A1 : Option Addr} {N : Option Tmp} {n m c c1 : Nat} {xs ys : List α} (hE : d.E = []) (hKM : ∀ W x cs, d.K W x cs → d.M W 0 (fun _ => False) x cs) (hs0 : 0 < d.sz) (S : Aside0 (St B w W L)) (hw : Region.wanted o (yielded ops a.tmps) = true) (hN : o.dst = N) (ho : o.op = .call { callee := .builtin .append, args := #[s, x], argTypes := #[t, t] })
  (ht : P.underlying t = some (.slice e)) (hinfo : (P.info? e).map (fun i => (i.zero, i.size, i.bytes)) = some (some zv, d.sz, bytes)) (hz : zv.cells.size = d.sz) (hb0 : 0 < bytes) (hs : a.eval s = .slice A n c) (hx : a.eval x = .slice A1 m c1)
  (hsp : Spot L (Own d e A c xs) F) (hn : xs.length = n) (hC : d.C W A1 m ys) (hl : (xs.length + m) * bytes ≤ 140737488355328)
  (h : ∀ A' c' w1, Aside0 (St B w w1 (F (Own d e A' c' (xs ++ ys)))) → (∀ k, (Value.slice A' 0 0).ownBlock = some k → (Value.slice A 0 0).ownBlock = some k ∨ W.heap.size ≤ k) → K (a.put N (.slice A' (xs ++ ys).length c')) w1) : if Region.wanted o (yielded ops a.tmps) = true then Oper.wp P o a W K Q else K (a.put N undef) W := by
 subst hn hN
 have hO := pred_at S.out hsp
 refine Kd.R_append_rows_step d (Rr := d.K W) (w0 := W) 0 hw s x t e zv bytes ho ht hinfo hz hs0 hb0 _ xs ys A1 m c1 (fun _ => True) (fun _ => False) hs hx (Kd.R_mono (Own.row hO) (fun _ _ => trivial)) hC (fun x cs hk => hKM W x cs hk) (fun _ hk => hk.elim) (fun _ _ => trivial) (Below.refl 0 W) (Nat.zero_le _) hl ?_
 intro v1 w1 hR hb hg hat
 obtain ⟨A', c', rfl, _⟩ := Kd.R_reads hR
 refine h A' c' w1 ⟨turn_at S.out hsp hg.os hg.tape hg.output hg.size (fun k hk hne => hg.block k hk (fun e_ => hne (Own.foot_iff.2 e_.symm))) (Own.mk hE hR) (fun k hk => ?_)⟩ (fun k hk => ?_)
 ·have hk' := Own.foot_iff.1 hk
  rcases hat with e1 | ⟨b, e1, hbb⟩
  ·exact .inl (Own.foot_iff.2 (e1.symm.trans hk'))
  ·rw [e1] at hk'
   injection hk' with hk'
   exact .inr (hk' ▸ hbb)
 ·have hk' : (Value.slice A' (xs ++ ys).length c').ownBlock = some k := by cases A' <;> exact hk
  rcases hat with e1 | ⟨b, e1, hbb⟩
  ·exact .inl (by have := e1.symm.trans hk'; cases A <;> exact this)
  ·rw [e1] at hk'
   injection hk' with hk'
   exact .inr (hk' ▸ hbb)
end
end Go.Proofs.Ytaomemhnjpemiaa.Ev
/- Closed facts on the types of this translation. -/
namespace Go.Proofs.Ytaomemhnjpemiaa.Ty
open Go.Proofs.Ytaomemhnjpemiaa.Ev
theorem z2 : (Try.prog.info? 2).map (·.zero) = some (some (.int .i64 0)) := by kernel_rfl
theorem s2 : (Try.prog.info? 2).map (·.size) = some 1 := by kernel_rfl
theorem o2 : One Try.prog 2 := ⟨_, Try.underlying2, rfl⟩
theorem z3 : (Try.prog.info? 3).map (·.zero) = some (some (.int .i64 0)) := by kernel_rfl
theorem s3 : (Try.prog.info? 3).map (·.size) = some 1 := by kernel_rfl
theorem o3 : One Try.prog 3 := ⟨_, Try.underlying3, rfl⟩
theorem z4 : (Try.prog.info? 4).map (·.zero) = some (some (.bool false)) := by kernel_rfl
theorem s4 : (Try.prog.info? 4).map (·.size) = some 1 := by kernel_rfl
theorem o4 : One Try.prog 4 := ⟨_, Try.underlying4, rfl⟩
theorem z5 : (Try.prog.info? 5).map (·.zero) = some (some (.int .u8 0)) := by kernel_rfl
theorem s5 : (Try.prog.info? 5).map (·.size) = some 1 := by kernel_rfl
theorem o5 : One Try.prog 5 := ⟨_, Try.underlying5, rfl⟩
theorem z9 : (Try.prog.info? 9).map (·.zero) = some (some (.string ⟨#[]⟩)) := by kernel_rfl
theorem s9 : (Try.prog.info? 9).map (·.size) = some 1 := by kernel_rfl
theorem o9 : One Try.prog 9 := ⟨_, Try.underlying9, rfl⟩
theorem z22 : (Try.prog.info? 22).map (·.zero) = some (some (.slice none 0 0)) := by kernel_rfl
theorem s22 : (Try.prog.info? 22).map (·.size) = some 1 := by kernel_rfl
theorem o22 : One Try.prog 22 := ⟨_, Try.underlying22, rfl⟩
theorem z25 : (Try.prog.info? 25).map (·.zero) = some (some (.pointer none)) := by kernel_rfl
theorem s25 : (Try.prog.info? 25).map (·.size) = some 1 := by kernel_rfl
theorem o25 : One Try.prog 25 := ⟨_, Try.underlying25, rfl⟩
theorem z29 : (Try.prog.info? 29).map (·.zero) = some (some (.agg #[.slice none 0 0])) := by kernel_rfl
theorem s29 : (Try.prog.info? 29).map (·.size) = some 1 := by kernel_rfl
theorem m29 : Many Try.prog 29 1 := ⟨⟨_, Try.underlying29, rfl⟩, s29⟩
theorem z32 : (Try.prog.info? 32).map (·.zero) = some (some (.slice none 0 0)) := by kernel_rfl
theorem s32 : (Try.prog.info? 32).map (·.size) = some 1 := by kernel_rfl
theorem o32 : One Try.prog 32 := ⟨_, Try.underlying32, rfl⟩
theorem z34 : (Try.prog.info? 34).map (·.zero) = some (some (.agg #[.int .u8 0, .string ⟨#[]⟩, .slice none 0 0])) := by kernel_rfl
theorem s34 : (Try.prog.info? 34).map (·.size) = some 3 := by kernel_rfl
theorem m34 : Many Try.prog 34 3 := ⟨⟨_, Try.underlying34, rfl⟩, s34⟩
theorem z40 : (Try.prog.info? 40).map (·.zero) = some (some (.nilFunc)) := by kernel_rfl
theorem s40 : (Try.prog.info? 40).map (·.size) = some 1 := by kernel_rfl
theorem o40 : One Try.prog 40 := ⟨_, Try.underlying40, rfl⟩
theorem z42 : (Try.prog.info? 42).map (·.zero) = some (some (.int .i64 0)) := by kernel_rfl
theorem s42 : (Try.prog.info? 42).map (·.size) = some 1 := by kernel_rfl
theorem o42 : One Try.prog 42 := ⟨_, Try.underlying42, rfl⟩
theorem z50 : (Try.prog.info? 50).map (·.zero) = some (some (.map none)) := by kernel_rfl
theorem s50 : (Try.prog.info? 50).map (·.size) = some 1 := by kernel_rfl
theorem o50 : One Try.prog 50 := ⟨_, Try.underlying50, rfl⟩
theorem z52 : (Try.prog.info? 52).map (·.zero) = some (some (.agg #[.map none])) := by kernel_rfl
theorem s52 : (Try.prog.info? 52).map (·.size) = some 1 := by kernel_rfl
theorem m52 : Many Try.prog 52 1 := ⟨⟨_, Try.underlying52, rfl⟩, s52⟩
theorem z60 : (Try.prog.info? 60).map (·.zero) = some (some (.map none)) := by kernel_rfl
theorem s60 : (Try.prog.info? 60).map (·.size) = some 1 := by kernel_rfl
theorem o60 : One Try.prog 60 := ⟨_, Try.underlying60, rfl⟩
theorem z73 : (Try.prog.info? 73).map (·.zero) = some (some (.agg #[.string ⟨#[]⟩, .slice none 0 0])) := by kernel_rfl
theorem s73 : (Try.prog.info? 73).map (·.size) = some 2 := by kernel_rfl
theorem m73 : Many Try.prog 73 2 := ⟨⟨_, Try.underlying73, rfl⟩, s73⟩
end Go.Proofs.Ytaomemhnjpemiaa.Ty
