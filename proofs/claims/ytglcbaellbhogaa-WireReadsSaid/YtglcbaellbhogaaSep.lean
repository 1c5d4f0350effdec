/- Assertions on memory with a footprint, kept one beside the other along a walk: what a call, a new block or a store does to them. -/
import Derived.Test.YtglcbaellbhogaaProg
import Derived.WalkKit
import Derived.Below
import Derived.Laws.Rows
import Derived.Deep.QuietTactic
import Derived.BigQuiet
import Derived.Maps.AppendAt
import Derived.Lib.Hide
import Derived.Outline
import Derived.Deep.Draws
namespace Go.Proofs.Ytglcbaellbhogaa.Sep

open Go.RowKit

/-- What is told of some blocks of memory (its footprint), and of no other. -/
structure Asn where
  foot : Nat → Prop
  pred : World → Prop
  move : ∀ {W W' : World}, (∀ k, foot k → W'.heap[k]? = W.heap[k]?) → pred W → pred W'
  lt : ∀ {W : World}, pred W → ∀ k, foot k → k < W.heap.size

/-- A block of cells, known whole. -/
def Blk (g : Nat) (cs : Array Value) (t : TypeId) : Asn where
  foot k := k = g
  pred W := W.heap[g]? = some (.cells cs t (0, 0))
  move h hp := (h g rfl).trans hp
  lt hp k hk := by subst hk; exact (Array.getElem?_eq_some_iff.1 hp).1

def Apart (a b : Asn) : Prop := ∀ k, a.foot k → b.foot k → False

/-- From w to W: what lay at w lies; beside it lie these, apart from each other, all of them new. -/
structure St (w W : World) (L : List Asn) : Prop where
  below : Below w.heap.size w W
  holds : ∀ a, a ∈ L → a.pred W
  new : ∀ a, a ∈ L → ∀ k, a.foot k → w.heap.size ≤ k
  apart : L.Pairwise Apart

theorem St.start (w : World) : St w w [] := ⟨Below.refl _ _, fun _ h => (by cases h), fun _ h => (by cases h), List.Pairwise.nil⟩

theorem St.keep {w W W' : World} {L : List Asn} (h : St w W L) (hb : Below W.heap.size W W') : St w W' L :=
  ⟨h.below.trans (hb.mono h.below.size), fun a ha => a.move (fun k hk => hb.block k (a.lt (h.holds a ha) k hk)) (h.holds a ha), h.new, h.apart⟩

theorem St.drewN {w W : World} {L : List Asn} (h : St w W L) (n : Nat) : St w (W.drewN n) L :=
  h.keep ⟨rfl, rfl, rfl, Nat.le_refl _, fun _ _ => rfl⟩

theorem St.drew {w W : World} {L : List Asn} (h : St w W L) : St w W.drew L := h.keep (Below.refl _ _).drew

/-- A new assertion, over blocks that W had not. -/
theorem St.add {w W W' : World} {L : List Asn} (h : St w W L) (hb : Below W.heap.size W W') (a : Asn) (ha : a.pred W') (hn : ∀ k, a.foot k → W.heap.size ≤ k) : St w W' (a :: L) := by
  have h1 := h.keep hb
  refine ⟨h1.below, fun x hx => ?_, fun x hx => ?_, List.Pairwise.cons (fun b hb' k hk hk' => ?_) h.apart⟩
  · rcases List.mem_cons.1 hx with rfl | hx
    · exact ha
    · exact h1.holds x hx
  · rcases List.mem_cons.1 hx with rfl | hx
    · exact fun k hk => Nat.le_trans h.below.size (hn k hk)
    · exact h.new x hx
  · have := b.lt (h.holds b hb') k hk'
    have := hn k hk
    omega

theorem St.alloc {w W : World} {L : List Asn} (h : St w W L) (cs : Array Value) (t : TypeId) : St w (W.alloc (.cells cs t (0, 0))) (Blk W.heap.size cs t :: L) :=
  h.add ((Below.refl _ _).alloc (Nat.le_refl _) _) _ (by show (W.alloc _).heap[_]? = _; exact heap_alloc_new _ _) (fun k hk => by have : k = W.heap.size := hk; omega)

/-- One assertion is turned: nothing but its own blocks and new ones. -/
theorem St.turn {w W W' : World} {pre post : List Asn} {a a' : Asn} (h : St w W (pre ++ a :: post)) (hos : W'.os = W.os) (htape : W'.tape = W.tape) (hout : W'.output = W.output) (hsz : W.heap.size ≤ W'.heap.size)
    (hk : ∀ k, k < W.heap.size → ¬ a.foot k → W'.heap[k]? = W.heap[k]?) (ha : a'.pred W') (hf : ∀ k, a'.foot k → a.foot k ∨ W.heap.size ≤ k) : St w W' (pre ++ a' :: post) := by
  have hp := List.pairwise_append.1 h.apart
  have hpc := List.pairwise_cons.1 hp.2.1
  have hmem : ∀ x, x ∈ pre ++ a' :: post → x = a' ∨ (x ∈ pre ++ a :: post ∧ Apart x a) := by
    intro x hx
    rcases List.mem_append.1 hx with hx | hx
    · exact .inr ⟨List.mem_append_left _ hx, hp.2.2 x hx a List.mem_cons_self⟩
    · rcases List.mem_cons.1 hx with rfl | hx
      · exact .inl rfl
      · exact .inr ⟨List.mem_append_right _ (List.mem_cons_of_mem _ hx), fun k h1 h2 => hpc.1 x hx k h2 h1⟩
  have ham : a ∈ pre ++ a :: post := List.mem_append_right _ List.mem_cons_self
  have hap : ∀ x, x ∈ pre ++ a :: post → Apart x a → Apart x a' := by
    intro x hx hxa k h1 h2
    rcases hf k h2 with h3 | h3
    · exact hxa k h1 h3
    · have := x.lt (h.holds x hx) k h1
      omega
  refine ⟨⟨hos.trans h.below.os, htape.trans h.below.tape, hout.trans h.below.output, Nat.le_trans h.below.size hsz, fun k hk' => ?_⟩, fun x hx => ?_, fun x hx k hk' => ?_, ?_⟩
  · refine (hk k (Nat.lt_of_lt_of_le hk' h.below.size) (fun hf' => ?_)).trans (h.below.block k hk')
    have := h.new a ham k hf'
    omega
  · rcases hmem x hx with rfl | ⟨hx, hxa⟩
    · exact ha
    · exact x.move (fun k hk' => hk k (x.lt (h.holds x hx) k hk') (fun hc => hxa k hk' hc)) (h.holds x hx)
  · rcases hmem x hx with rfl | ⟨hx, hxa⟩
    · rcases hf k hk' with h3 | h3
      · exact h.new a ham k h3
      · exact Nat.le_trans h.below.size h3
    · exact h.new x hx k hk'
  · refine List.pairwise_append.2 ⟨hp.1, List.pairwise_cons.2 ⟨fun x hx k h1 h2 => ?_, hpc.2⟩, fun x hx y hy => ?_⟩
    · exact hap x (List.mem_append_right _ (List.mem_cons_of_mem _ hx)) (fun k h1 h2 => hpc.1 x hx k h2 h1) k h2 h1
    · rcases List.mem_cons.1 hy with rfl | hy
      · exact hap x (List.mem_append_left _ hx) (hp.2.2 x hx a List.mem_cons_self)
      · exact hp.2.2 x hx y (List.mem_cons_of_mem _ hy)

theorem St.set {w W : World} {pre post : List Asn} {g : Nat} {cs : Array Value} {t : TypeId} (h : St w W (pre ++ Blk g cs t :: post)) (i : Nat) (v : Value) :
    St w (W.setCell ⟨g, i, none⟩ v) (pre ++ Blk g (cs.setIfInBounds i v) t :: post) := by
  have hg : W.heap[g]? = some (.cells cs t (0, 0)) := h.holds (Blk g cs t) (List.mem_append_right _ List.mem_cons_self)
  refine h.turn rfl rfl rfl (by simp [World.setCell]) (fun k _ hne => Below.heap_setCell _ _ _ _ hne) ?_ (fun k hk => .inl hk)
  have hl := (Array.getElem?_eq_some_iff.1 hg).1
  show (W.setCell ⟨g, i, none⟩ v).heap[g]? = _
  have he : W.heap[g] = .cells cs t (0, 0) := by have := (Array.getElem?_eq_some_iff.1 hg).2; exact this
  unfold World.setCell
  simp [hl, Array.getElem_modify, he]

theorem St.blk {w W : World} {L : List Asn} (h : St w W L) {g : Nat} {cs : Array Value} {t : TypeId} (hm : Blk g cs t ∈ L) : W.heap[g]? = some (.cells cs t (0, 0)) := h.holds _ hm

theorem St.swap {w W : World} {L L' : List Asn} (h : St w W L) (hp : L.Perm L') : St w W L' :=
  ⟨h.below, fun a ha => h.holds a (hp.mem_iff.2 ha), fun a ha => h.new a (hp.mem_iff.2 ha), (hp.pairwise_iff (fun h k h1 h2 => h k h2 h1)).1 h.apart⟩

theorem St.drop {w W : World} {L L' : List Asn} (h : St w W L) (hs : L'.Sublist L) : St w W L' :=
  ⟨h.below, fun a ha => h.holds a (hs.subset ha), fun a ha => h.new a (hs.subset ha), h.apart.sublist hs⟩

theorem St.boxed {w W W' : World} {L : List Asn} {g : Nat} {cs : Array Value} {t : TypeId} (h : St w W L) (hg : g = W.heap.size) (hb : W'.heap[g]? = some (.cells cs t (0, 0))) (hB : Below W.heap.size W W') : St w W' (Blk g cs t :: L) :=
  h.add hB _ hb (fun k hk => by have : k = g := hk; omega)

theorem cell_blk {W : World} {g : Nat} {cs : Array Value} {t : TypeId} (h : W.heap[g]? = some (.cells cs t (0, 0))) (i : Nat) : W.cell? ⟨g, i, none⟩ = cs[i]? := cell_of_row W g i cs t (0, 0) h
theorem frozen_blk {W : World} {g : Nat} {cs : Array Value} {t : TypeId} (h : W.heap[g]? = some (.cells cs t (0, 0))) (i : Nat) : W.frozen? ⟨g, i, none⟩ = false := by simp [World.frozen?, h]
end Go.Proofs.Ytglcbaellbhogaa.Sep
