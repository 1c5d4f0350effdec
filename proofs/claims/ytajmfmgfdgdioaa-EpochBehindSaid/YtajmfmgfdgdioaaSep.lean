/- Assertions on memory with a footprint, kept one beside the other along a walk: what a call, a new block or a store does to them. -/
import Derived.Test.YtajmfmgfdgdioaaProg
import Derived.WalkKit
import Derived.Below
import Derived.Laws.Rows
import Derived.Deep.QuietTactic
import Derived.BigQuiet
import Derived.Maps.AppendAt
import Derived.Lib.Hide
import Derived.Outline
import Derived.Deep.Draws
namespace Go.Proofs.Ytajmfmgfdgdioaa.Sep

open Go.RowKit

/-- What is told of some blocks of memory (its footprint), and of no other. -/
structure Asn where
  foot : Nat → Prop
  pred : World → Prop
  move : ∀ {W W' : World}, (∀ k, foot k → W'.heap[k]? = W.heap[k]?) → pred W → pred W'
  lt : ∀ {W : World}, pred W → ∀ k, foot k → k < W.heap.size

/-- A block of cells, known whole. -/
def Blk (g : Nat) (cs : Array Value) (t : TypeId) : Asn where
  foot k := k = g
  pred W := W.heap[g]? = some (.cells cs t (0, 0))
  move h hp := (h g rfl).trans hp
  lt hp k hk := by subst hk; exact (Array.getElem?_eq_some_iff.1 hp).1

def Apart (a b : Asn) : Prop := ∀ k, a.foot k → b.foot k → False

/-- From w to W: what lay at w below B lies; beside it lie these, apart from each other, all of them at B or above. -/
structure St (B : Nat) (w W : World) (L : List Asn) : Prop where
  le : B ≤ w.heap.size
  below : Below B w W
  holds : ∀ a, a ∈ L → a.pred W
  new : ∀ a, a ∈ L → ∀ k, a.foot k → B ≤ k
  apart : L.Pairwise Apart
section
variable {B : Nat} {w W W' : World} {L : List Asn}
theorem St.start (w : World) : St w.heap.size w w [] := ⟨Nat.le_refl _, Below.refl _ _, fun _ h => (by cases h), fun _ h => (by cases h), List.Pairwise.nil⟩
theorem St.start0 (w : World) : St 0 w w [] := ⟨Nat.zero_le _, Below.refl _ _, fun _ h => (by cases h), fun _ h => (by cases h), List.Pairwise.nil⟩
theorem St.leW (h : St B w W L) : B ≤ W.heap.size := Nat.le_trans h.le h.below.size
theorem St.keep (h : St B w W L) (hb : Below W.heap.size W W') : St B w W' L :=
  ⟨h.le, h.below.trans (hb.mono h.leW), fun a ha => a.move (fun k hk => hb.block k (a.lt (h.holds a ha) k hk)) (h.holds a ha), h.new, h.apart⟩
theorem St.drewN (h : St B w W L) (n : Nat) : St B w (W.drewN n) L :=
  h.keep ⟨rfl, rfl, rfl, Nat.le_refl _, fun _ _ => rfl⟩
theorem St.drew (h : St B w W L) : St B w W.drew L := h.keep (Below.refl _ _).drew
/-- One more assertion, apart from all. -/
theorem St.cons (h : St B w W L) (a : Asn) (ha : a.pred W) (hn : ∀ k, a.foot k → B ≤ k) (hp : ∀ b, b ∈ L → Apart a b) : St B w W (a :: L) := by
  refine ⟨h.le, h.below, fun x hx => ?_, fun x hx => ?_, List.Pairwise.cons hp h.apart⟩
  · rcases List.mem_cons.1 hx with rfl | hx
    · exact ha
    · exact h.holds x hx
  · rcases List.mem_cons.1 hx with rfl | hx
    · exact hn
    · exact h.new x hx
/-- A new assertion, over blocks that W had not. -/
theorem St.add (h : St B w W L) (hb : Below W.heap.size W W') (a : Asn) (ha : a.pred W') (hn : ∀ k, a.foot k → W.heap.size ≤ k) : St B w W' (a :: L) :=
  (h.keep hb).cons a ha (fun k hk => Nat.le_trans h.leW (hn k hk)) (fun b hb' k hk hk' => by
    have := b.lt (h.holds b hb') k hk'
    have := hn k hk
    omega)
theorem St.alloc (h : St B w W L) (cs : Array Value) (t : TypeId) : St B w (W.alloc (.cells cs t (0, 0))) (Blk W.heap.size cs t :: L) :=
  h.add ((Below.refl _ _).alloc (Nat.le_refl _) _) _ (by show (W.alloc _).heap[_]? = _; exact heap_alloc_new _ _) (fun k hk => by have : k = W.heap.size := hk; omega)
/-- One assertion is turned: nothing but its own blocks and new ones. -/
theorem St.turn {pre post : List Asn} {a a' : Asn} (h : St B w W (pre ++ a :: post)) (hos : W'.os = W.os) (htape : W'.tape = W.tape) (hout : W'.output = W.output) (hsz : W.heap.size ≤ W'.heap.size)
    (hk : ∀ k, k < W.heap.size → ¬ a.foot k → W'.heap[k]? = W.heap[k]?) (ha : a'.pred W') (hf : ∀ k, a'.foot k → a.foot k ∨ W.heap.size ≤ k) : St B w W' (pre ++ a' :: post) := by
  have hp := List.pairwise_append.1 h.apart
  have hpc := List.pairwise_cons.1 hp.2.1
  have hmem : ∀ x, x ∈ pre ++ a' :: post → x = a' ∨ (x ∈ pre ++ a :: post ∧ Apart x a) := by
    intro x hx
    rcases List.mem_append.1 hx with hx | hx
    · exact .inr ⟨List.mem_append_left _ hx, hp.2.2 x hx a List.mem_cons_self⟩
    · rcases List.mem_cons.1 hx with rfl | hx
      · exact .inl rfl
      · exact .inr ⟨List.mem_append_right _ (List.mem_cons_of_mem _ hx), fun k h1 h2 => hpc.1 x hx k h2 h1⟩
  have ham : a ∈ pre ++ a :: post := List.mem_append_right _ List.mem_cons_self
  have hap : ∀ x, x ∈ pre ++ a :: post → Apart x a → Apart x a' := by
    intro x hx hxa k h1 h2
    rcases hf k h2 with h3 | h3
    · exact hxa k h1 h3
    · have := x.lt (h.holds x hx) k h1
      omega
  have hle := h.leW
  refine ⟨h.le, ⟨hos.trans h.below.os, htape.trans h.below.tape, hout.trans h.below.output, Nat.le_trans h.below.size hsz, fun k hk' => ?_⟩, fun x hx => ?_, fun x hx k hk' => ?_, ?_⟩
  · refine (hk k (Nat.lt_of_lt_of_le hk' hle) (fun hf' => ?_)).trans (h.below.block k hk')
    have := h.new a ham k hf'
    omega
  · rcases hmem x hx with rfl | ⟨hx, hxa⟩
    · exact ha
    · exact x.move (fun k hk' => hk k (x.lt (h.holds x hx) k hk') (fun hc => hxa k hk' hc)) (h.holds x hx)
  · rcases hmem x hx with rfl | ⟨hx, hxa⟩
    · rcases hf k hk' with h3 | h3
      · exact h.new a ham k h3
      · exact Nat.le_trans hle h3
    · exact h.new x hx k hk'
  · refine List.pairwise_append.2 ⟨hp.1, List.pairwise_cons.2 ⟨fun x hx k h1 h2 => ?_, hpc.2⟩, fun x hx y hy => ?_⟩
    · exact hap x (List.mem_append_right _ (List.mem_cons_of_mem _ hx)) (fun k h1 h2 => hpc.1 x hx k h2 h1) k h2 h1
    · rcases List.mem_cons.1 hy with rfl | hy
      · exact hap x (List.mem_append_left _ hx) (hp.2.2 x hx a List.mem_cons_self)
      · exact hp.2.2 x hx y (List.mem_cons_of_mem _ hy)
theorem St.set {pre post : List Asn} {g : Nat} {cs : Array Value} {t : TypeId} (h : St B w W (pre ++ Blk g cs t :: post)) (i : Nat) (v : Value) :
    St B w (W.setCell ⟨g, i, none⟩ v) (pre ++ Blk g (cs.setIfInBounds i v) t :: post) := by
  have hg : W.heap[g]? = some (.cells cs t (0, 0)) := h.holds (Blk g cs t) (List.mem_append_right _ List.mem_cons_self)
  refine h.turn rfl rfl rfl (by simp [World.setCell]) (fun k _ hne => Below.heap_setCell _ _ _ _ hne) ?_ (fun k hk => .inl hk)
  have hl := (Array.getElem?_eq_some_iff.1 hg).1
  show (W.setCell ⟨g, i, none⟩ v).heap[g]? = _
  have he : W.heap[g] = .cells cs t (0, 0) := by have := (Array.getElem?_eq_some_iff.1 hg).2; exact this
  unfold World.setCell
  simp [hl, Array.getElem_modify, he]
theorem St.blk (h : St B w W L) {g : Nat} {cs : Array Value} {t : TypeId} (hm : Blk g cs t ∈ L) : W.heap[g]? = some (.cells cs t (0, 0)) := h.holds _ hm
theorem St.swap {L' : List Asn} (h : St B w W L) (hp : L.Perm L') : St B w W L' :=
  ⟨h.le, h.below, fun a ha => h.holds a (hp.mem_iff.2 ha), fun a ha => h.new a (hp.mem_iff.2 ha), (hp.pairwise_iff (fun h k h1 h2 => h k h2 h1)).1 h.apart⟩
theorem St.drop {L' : List Asn} (h : St B w W L) (hs : L'.Sublist L) : St B w W L' :=
  ⟨h.le, h.below, fun a ha => h.holds a (hs.subset ha), fun a ha => h.new a (hs.subset ha), h.apart.sublist hs⟩
theorem St.boxed {g : Nat} {cs : Array Value} {t : TypeId} (h : St B w W L) (hg : g = W.heap.size) (hb : W'.heap[g]? = some (.cells cs t (0, 0))) (hB : Below W.heap.size W W') : St B w W' (Blk g cs t :: L) :=
  h.add hB _ hb (fun k hk => by have : k = g := hk; omega)
theorem St.pred {a : Asn} (h : St B w W L) (hm : a ∈ L) : a.pred W := h.holds a hm
end
/-- All that lay at w and is among P lies as it lay. -/
def Still (w : World) (P : Nat → Prop) : Asn where
  foot k := P k ∧ k < w.heap.size
  pred W := ∀ k, P k → k < w.heap.size → W.heap[k]? = w.heap[k]?
  move h hp := fun k h1 h2 => (h k ⟨h1, h2⟩).trans (hp k h1 h2)
  lt hp k hk := by
    have h1 := hp k hk.1 hk.2
    rw [Array.getElem?_eq_getElem hk.2] at h1
    exact (Array.getElem?_eq_some_iff.1 h1).1

theorem cell_blk {W : World} {g : Nat} {cs : Array Value} {t : TypeId} (h : W.heap[g]? = some (.cells cs t (0, 0))) (i : Nat) : W.cell? ⟨g, i, none⟩ = cs[i]? := cell_of_row W g i cs t (0, 0) h
theorem frozen_blk {W : World} {g : Nat} {cs : Array Value} {t : TypeId} (h : W.heap[g]? = some (.cells cs t (0, 0))) (i : Nat) : W.frozen? ⟨g, i, none⟩ = false := by simp [World.frozen?, h]
end Go.Proofs.Ytajmfmgfdgdioaa.Sep
