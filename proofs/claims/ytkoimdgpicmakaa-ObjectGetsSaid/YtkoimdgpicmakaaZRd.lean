/- Assertions on memory with a footprint, kept one beside the other along a walk: what a call, a new block or a store does to them. -/
import Derived.Test.YtkoimdgpicmakaaProg
import Derived.WalkKit
import Derived.Below
import Derived.Laws.Rows
import Derived.Deep.QuietTactic
import Derived.BigQuiet
import Derived.Maps.AppendAt
import Derived.Lib.Hide
import Derived.Outline
import Derived.Deep.Draws
import Derived.RangeFuncNested
import Derived.RangeFuncBound
import Derived.RangeFuncCalls
import Derived.RangeFuncLeaves
import Derived.RangeFuncFrom
import Derived.RangeFuncBox
import Derived.Shelf.Abstract
import Derived.Shelf.RegionOpen
import Derived.OwnWalkIn
import Derived.TacticsInMore
import Derived.LoopNIn
import Derived.LoopIn
import Derived.Test.YtkoimdgpicmakaaZPb
import Derived.Test.YtkoimdgpicmakaaZPe
namespace Go.Proofs.Ytkoimdgpicmakaa.Sep3

open Go.RowKit

/-- What is told of some blocks of memory (its footprint), and of no other. -/
structure Asn where
  foot : Nat → Prop
  pred : World → Prop
  move : ∀ {W W' : World}, (∀ k, foot k → W'.heap[k]? = W.heap[k]?) → pred W → pred W'
  lt : ∀ {W : World}, pred W → ∀ k, foot k → k < W.heap.size

/-- A block of cells, known whole. -/
def Blk (g : Nat) (cs : Array Value) (t : TypeId) : Asn where
  foot k := k = g
  pred W := W.heap[g]? = some (.cells cs t (0, 0))
  move h hp := (h g rfl).trans hp
  lt hp k hk := by subst hk; exact (Array.getElem?_eq_some_iff.1 hp).1

def Apart (a b : Asn) : Prop := ∀ k, a.foot k → b.foot k → False

/-- From w to W: what lay at w lies; beside it lie these, apart from each other, all of them new. -/
structure St (w W : World) (L : List Asn) : Prop where
  below : Below w.heap.size w W
  holds : ∀ a, a ∈ L → a.pred W
  new : ∀ a, a ∈ L → ∀ k, a.foot k → w.heap.size ≤ k
  apart : L.Pairwise Apart

theorem St.start (w : World) : St w w [] := ⟨Below.refl _ _, fun _ h => (by cases h), fun _ h => (by cases h), List.Pairwise.nil⟩

theorem St.keep {w W W' : World} {L : List Asn} (h : St w W L) (hb : Below W.heap.size W W') : St w W' L :=
  ⟨h.below.trans (hb.mono h.below.size), fun a ha => a.move (fun k hk => hb.block k (a.lt (h.holds a ha) k hk)) (h.holds a ha), h.new, h.apart⟩

theorem St.drewN {w W : World} {L : List Asn} (h : St w W L) (n : Nat) : St w (W.drewN n) L :=
  h.keep ⟨rfl, rfl, rfl, Nat.le_refl _, fun _ _ => rfl⟩

theorem St.drew {w W : World} {L : List Asn} (h : St w W L) : St w W.drew L := h.keep (Below.refl _ _).drew

/-- A new assertion, over blocks that W had not. -/
theorem St.add {w W W' : World} {L : List Asn} (h : St w W L) (hb : Below W.heap.size W W') (a : Asn) (ha : a.pred W') (hn : ∀ k, a.foot k → W.heap.size ≤ k) : St w W' (a :: L) := by
  have h1 := h.keep hb
  refine ⟨h1.below, fun x hx => ?_, fun x hx => ?_, List.Pairwise.cons (fun b hb' k hk hk' => ?_) h.apart⟩
  · rcases List.mem_cons.1 hx with rfl | hx
    · exact ha
    · exact h1.holds x hx
  · rcases List.mem_cons.1 hx with rfl | hx
    · exact fun k hk => Nat.le_trans h.below.size (hn k hk)
    · exact h.new x hx
  · have := b.lt (h.holds b hb') k hk'
    have := hn k hk
    omega

theorem St.alloc {w W : World} {L : List Asn} (h : St w W L) (cs : Array Value) (t : TypeId) : St w (W.alloc (.cells cs t (0, 0))) (Blk W.heap.size cs t :: L) :=
  h.add ((Below.refl _ _).alloc (Nat.le_refl _) _) _ (by show (W.alloc _).heap[_]? = _; exact heap_alloc_new _ _) (fun k hk => by have : k = W.heap.size := hk; omega)

/-- One assertion is turned: nothing but its own blocks and new ones. -/
theorem St.turn {w W W' : World} {pre post : List Asn} {a a' : Asn} (h : St w W (pre ++ a :: post)) (hos : W'.os = W.os) (htape : W'.tape = W.tape) (hout : W'.output = W.output) (hsz : W.heap.size ≤ W'.heap.size)
    (hk : ∀ k, k < W.heap.size → ¬ a.foot k → W'.heap[k]? = W.heap[k]?) (ha : a'.pred W') (hf : ∀ k, a'.foot k → a.foot k ∨ W.heap.size ≤ k) : St w W' (pre ++ a' :: post) := by
  have hp := List.pairwise_append.1 h.apart
  have hpc := List.pairwise_cons.1 hp.2.1
  have hmem : ∀ x, x ∈ pre ++ a' :: post → x = a' ∨ (x ∈ pre ++ a :: post ∧ Apart x a) := by
    intro x hx
    rcases List.mem_append.1 hx with hx | hx
    · exact .inr ⟨List.mem_append_left _ hx, hp.2.2 x hx a List.mem_cons_self⟩
    · rcases List.mem_cons.1 hx with rfl | hx
      · exact .inl rfl
      · exact .inr ⟨List.mem_append_right _ (List.mem_cons_of_mem _ hx), fun k h1 h2 => hpc.1 x hx k h2 h1⟩
  have ham : a ∈ pre ++ a :: post := List.mem_append_right _ List.mem_cons_self
  have hap : ∀ x, x ∈ pre ++ a :: post → Apart x a → Apart x a' := by
    intro x hx hxa k h1 h2
    rcases hf k h2 with h3 | h3
    · exact hxa k h1 h3
    · have := x.lt (h.holds x hx) k h1
      omega
  refine ⟨⟨hos.trans h.below.os, htape.trans h.below.tape, hout.trans h.below.output, Nat.le_trans h.below.size hsz, fun k hk' => ?_⟩, fun x hx => ?_, fun x hx k hk' => ?_, ?_⟩
  · refine (hk k (Nat.lt_of_lt_of_le hk' h.below.size) (fun hf' => ?_)).trans (h.below.block k hk')
    have := h.new a ham k hf'
    omega
  · rcases hmem x hx with rfl | ⟨hx, hxa⟩
    · exact ha
    · exact x.move (fun k hk' => hk k (x.lt (h.holds x hx) k hk') (fun hc => hxa k hk' hc)) (h.holds x hx)
  · rcases hmem x hx with rfl | ⟨hx, hxa⟩
    · rcases hf k hk' with h3 | h3
      · exact h.new a ham k h3
      · exact Nat.le_trans h.below.size h3
    · exact h.new x hx k hk'
  · refine List.pairwise_append.2 ⟨hp.1, List.pairwise_cons.2 ⟨fun x hx k h1 h2 => ?_, hpc.2⟩, fun x hx y hy => ?_⟩
    · exact hap x (List.mem_append_right _ (List.mem_cons_of_mem _ hx)) (fun k h1 h2 => hpc.1 x hx k h2 h1) k h2 h1
    · rcases List.mem_cons.1 hy with rfl | hy
      · exact hap x (List.mem_append_left _ hx) (hp.2.2 x hx a List.mem_cons_self)
      · exact hp.2.2 x hx y (List.mem_cons_of_mem _ hy)

theorem St.set {w W : World} {pre post : List Asn} {g : Nat} {cs : Array Value} {t : TypeId} (h : St w W (pre ++ Blk g cs t :: post)) (i : Nat) (v : Value) :
    St w (W.setCell ⟨g, i, none⟩ v) (pre ++ Blk g (cs.setIfInBounds i v) t :: post) := by
  have hg : W.heap[g]? = some (.cells cs t (0, 0)) := h.holds (Blk g cs t) (List.mem_append_right _ List.mem_cons_self)
  refine h.turn rfl rfl rfl (by simp [World.setCell]) (fun k _ hne => Below.heap_setCell _ _ _ _ hne) ?_ (fun k hk => .inl hk)
  have hl := (Array.getElem?_eq_some_iff.1 hg).1
  show (W.setCell ⟨g, i, none⟩ v).heap[g]? = _
  have he : W.heap[g] = .cells cs t (0, 0) := by have := (Array.getElem?_eq_some_iff.1 hg).2; exact this
  unfold World.setCell
  simp [hl, Array.getElem_modify, he]

theorem St.blk {w W : World} {L : List Asn} (h : St w W L) {g : Nat} {cs : Array Value} {t : TypeId} (hm : Blk g cs t ∈ L) : W.heap[g]? = some (.cells cs t (0, 0)) := h.holds _ hm

theorem St.swap {w W : World} {L L' : List Asn} (h : St w W L) (hp : L.Perm L') : St w W L' :=
  ⟨h.below, fun a ha => h.holds a (hp.mem_iff.2 ha), fun a ha => h.new a (hp.mem_iff.2 ha), (hp.pairwise_iff (fun h k h1 h2 => h k h2 h1)).1 h.apart⟩

theorem St.drop {w W : World} {L L' : List Asn} (h : St w W L) (hs : L'.Sublist L) : St w W L' :=
  ⟨h.below, fun a ha => h.holds a (hs.subset ha), fun a ha => h.new a (hs.subset ha), h.apart.sublist hs⟩

theorem St.boxed {w W W' : World} {L : List Asn} {g : Nat} {cs : Array Value} {t : TypeId} (h : St w W L) (hg : g = W.heap.size) (hb : W'.heap[g]? = some (.cells cs t (0, 0))) (hB : Below W.heap.size W W') : St w W' (Blk g cs t :: L) :=
  h.add hB _ hb (fun k hk => by have : k = g := hk; omega)

theorem cell_blk {W : World} {g : Nat} {cs : Array Value} {t : TypeId} (h : W.heap[g]? = some (.cells cs t (0, 0))) (i : Nat) : W.cell? ⟨g, i, none⟩ = cs[i]? := cell_of_row W g i cs t (0, 0) h
theorem frozen_blk {W : World} {g : Nat} {cs : Array Value} {t : TypeId} (h : W.heap[g]? = some (.cells cs t (0, 0))) (i : Nat) : W.frozen? ⟨g, i, none⟩ = false := by simp [World.frozen?, h]
end Go.Proofs.Ytkoimdgpicmakaa.Sep3
namespace Go.Proofs.Ytkoimdgpicmakaa.Back
open Go.RowKit Go.Shelf
attribute [local go_sem] Oper.semAt_some
set_option linter.unusedVariables false

/-- A byte of a row. -/
def at0 (zs : List Int) (k : Nat) : Int := zs[k]?.getD 0
/-- The slice value sv holds the bytes zs, in a block below n₀; or there are none. -/
def Bytes (n₀ : Nat) (W : World) (sv : Value) (zs : List Int) : Prop :=
  (∃ a c, sv = .slice a 0 c ∧ zs = []) ∨ ∃ b off cap, sv = .slice (some ⟨b, off, none⟩) zs.length cap ∧ 0 < zs.length ∧ b < n₀ ∧ ∀ j, j < zs.length → W.cell? ⟨b, off + j, none⟩ = some (.int .u8 (at0 zs j))
theorem Bytes.below {n₀ : Nat} {A B : World} (h : Below n₀ A B) {sv : Value} {zs : List Int} : Bytes n₀ A sv zs → Bytes n₀ B sv zs
  | .inl e => .inl e
  | .inr ⟨b, off, cap, e, h0, hb, hc⟩ => .inr ⟨b, off, cap, e, h0, hb, fun j hj => (h.cell (p := ⟨b, off + j, none⟩) hb).trans (hc j hj)⟩

/-- What a round keeps: all that lay below n₀, and the iterator's own box Bs. -/
def Kp (n₀ Bs : Nat) (A B : World) : Prop := Below n₀ A B ∧ ∀ cs t fr, A.heap[Bs]? = some (.cells cs t fr) → B.heap[Bs]? = some (.cells cs t fr)
theorem kp_t {n₀ Bs : Nat} {A B C : World} (h : Kp n₀ Bs A B) (k : Kp n₀ Bs B C) : Kp n₀ Bs A C := ⟨h.1.trans k.1, fun cs t fr e => k.2 _ _ _ (h.2 _ _ _ e)⟩
theorem kp_b {n₀ Bs : Nat} {w : World} (hn : n₀ ≤ w.heap.size) (W : World) (l : Nat) (o o' : Obj) (hl : w.heap.size ≤ l) (h : W.heap[l]? = some o) (h1 : o.isCells = false) (h2 : o.isWalk = false) : Kp n₀ Bs W (W.putObj l o') :=
  ⟨belowK_b hn W l o o' hl h h1 h2, fun cs t fr e => by
    have hne : Bs ≠ l := by rintro rfl; rw [h] at e; injection e with e; subst e; cases h1
    exact (World.putObj_heap_other hne).trans e⟩
theorem cell_of_box {W : World} {B : Nat} {v : Value} {t : TypeId} {fr : Nat × Nat} (h : W.heap[B]? = some (.cells #[v] t fr)) : W.cell? ⟨B, 0, none⟩ = some v := (cell_of_row W B 0 #[v] t fr h).trans rfl

def enc2 (x : Nat × Int) : Array Value := #[.int .i64 (x.1 : Int), .int .u8 x.2]
/-- The first k bytes from behind, each with its place. -/
def back (zs : List Int) : Nat → List (Nat × Int)
  | 0 => []
  | k + 1 => (k, at0 zs k) :: back zs k
theorem back_length (zs : List Int) (k : Nat) : (back zs k).length = k := by induction k <;> simp_all [back]

set_option maxRecDepth 100000 in
set_option maxHeartbeats 2000000 in
theorem back1_in (F : Fence) (n : Nat) (h37 : F.fn 75) (hro : F.round = none) (hn : 1 ≤ n) (l Bs n₀ b off cap : Nat) (zs : List Int) (hreach : zs.length ≤ 9223372036854775807) (hb : b < n₀) (J Jx : List (Nat × Int) → World → Prop)
    (hY : ∀ pre x W, J pre W → pre.length < zs.length → YieldAt F (n - 1) Try.prog l (enc2 x) W fun e W' =>
      (e = .returned (.bool true) ∧ J (pre ++ [x]) W' ∧ Kp n₀ Bs W W') ∨ (e = .returned (.bool false) ∧ Jx (pre ++ [x]) W'))
    (W : World) (hBs : W.heap[Bs]? = some (.cells #[.slice (some ⟨b, off, none⟩) zs.length cap] 30 (0, 0))) (hc : ∀ j, j < zs.length → W.cell? ⟨b, off + j, none⟩ = some (.int .u8 (at0 zs j))) (h0 : J [] W) :
    CallsIn F n Try.prog 75 #[.func (.yield l) #[] #[], .pointer (some ⟨Bs, 0, none⟩)] W fun e W' => (∃ v, e = .returned v) ∧
      ((∃ ys, ys = back zs zs.length ∧ J ys W') ∨ (∃ pre, pre <+: back zs zs.length ∧ Jx pre W')) := by
  refine callsIn_of_wp Try.func75 rfl h37 ?_ hro
  simp only [Try.ntmps75, List.size_toArray, List.length_cons, List.length_nil, Nat.reduceAdd, Nat.reduceSub, Array.replicate_succ, Array.replicate_zero, List.push_toArray, List.append_toArray, List.nil_append, List.cons_append]
  have hB0 := cell_of_box hBs
  gi_wp2
  gi_loopw [3] (fun i wr => ∃ (k : Nat) (pre : List (Nat × Int)) (m : Int), k ≤ zs.length ∧ i = .int .i64 m ∧ Hid (m = (k : Int) - 1) ∧ J pre wr ∧ Below n₀ W wr ∧ wr.heap[Bs]? = some (.cells #[.slice (some ⟨b, off, none⟩) zs.length cap] 30 (0, 0)) ∧ Hid (pre ++ back zs k = back zs zs.length))
    (fun i _ => (intOf i + 1).toNat)
  case atStart => exact ⟨zs.length, [], _, Nat.le_refl _, rfl, Lib.hid rfl, h0, Below.refl _ _, hBs, Lib.hid rfl⟩
  case round =>
    obtain ⟨k, pre, m, hk, rfl, hm, hJs, hnx, hbx, hpre⟩ := hrel
    have hBx := cell_of_box hbx
    have HBX := Lib.hid hbx; clear hbx hB0
    cases k with
    | zero =>
      obtain rfl : m = -1 := by rw [hm.out]; rfl
      gi_wp2
      go_end0
      exact ⟨⟨_, rfl⟩, .inl ⟨_, by rw [← hpre.out, back, List.append_nil], hJs⟩⟩
    | succ k =>
      obtain rfl : m = (k : Int) := by rw [hm.out]; omega
      have hlt : k < zs.length := by omega
      have hce : wr.cell? ⟨b, off + k, none⟩ = some (.int .u8 (at0 zs k)) := (hnx.cell (p := ⟨b, off + k, none⟩) hb).trans (hc k hlt)
      have hplen : pre.length < zs.length := by
        have h1 := back_length zs zs.length
        rw [← hpre.out, List.length_append, back_length] at h1
        omega
      obtain ⟨fn, tmps, assign, body, hy, hR⟩ := hY pre (k, at0 zs k) wr hJs hplen
      dsimp only [enc2] at hy
      gi_wp2
      refine hR.mono ?_
      rintro e3 W3 (⟨rfl, hJ3, hk3⟩ | ⟨rfl, hJx3⟩)
      · gi_wp2
        go_roundw
        case rel => exact ⟨k, pre ++ [(k, at0 zs k)], _, by omega, rfl, Lib.hid rfl, hJ3, hnx.trans hk3.1, hk3.2 _ _ _ HBX.out, Lib.hid (by rw [← hpre.out, List.append_assoc]; rfl)⟩
        case measure => simp [intOf]
      · gi_wp2
        refine bodyPost_ret (results_none rfl _ _ _) rfl ?_
        exact ⟨⟨_, rfl⟩, .inr ⟨_, ⟨back zs k, by rw [← hpre.out, List.append_assoc]; rfl⟩, hJx3⟩⟩

set_option maxRecDepth 100000 in
set_option maxHeartbeats 1000000 in
theorem back1_nil (F : Fence) (n : Nat) (h37 : F.fn 75) (hro : F.round = none) (l Bs : Nat) (a : Option Addr) (c : Nat) (J : List (Nat × Int) → World → Prop) (W : World) (hBs : W.cell? ⟨Bs, 0, none⟩ = some (.slice a 0 c)) (h0 : J [] W) :
    CallsIn F n Try.prog 75 #[.func (.yield l) #[] #[], .pointer (some ⟨Bs, 0, none⟩)] W fun e W' => (∃ v, e = .returned v) ∧ J [] W' := by
  refine callsIn_of_wp Try.func75 rfl h37 ?_ hro
  simp only [Try.ntmps75, List.size_toArray, List.length_cons, List.length_nil, Nat.reduceAdd, Nat.reduceSub, Array.replicate_succ, Array.replicate_zero, List.push_toArray, List.append_toArray, List.nil_append, List.cons_append]
  gi_wp2
  gi_loopw [3] (fun i wr => i = .int .i64 (-1) ∧ J [] wr ∧ wr = W) (fun _ _ => 0)
  case atStart => exact ⟨rfl, h0, rfl⟩
  case round =>
    obtain ⟨rfl, hJs, rfl⟩ := hrel
    gi_wp2
    go_end0
    exact ⟨⟨_, rfl⟩, hJs⟩

set_option maxHeartbeats 1000000 in
theorem backward_in (F : Fence) (n : Nat) (h34 : F.fn 74) (hro : F.round = none) (a : Option Addr) (len cap : Nat) (w : World) :
    CallsIn F n Try.prog 74 #[.slice a len cap] w fun e w' => e = .returned (.func (.func 75) #[] #[.pointer (some ⟨w.heap.size, 0, none⟩)]) ∧ w' = w.alloc (.cells #[.slice a len cap] 30) := by
  refine callsIn_of_wp Try.func74 rfl h34 ?_ hro
  simp only [Try.ntmps74, List.size_toArray, List.length_cons, List.length_nil, Nat.reduceAdd, Nat.reduceSub, Array.replicate_succ, Array.replicate_zero, List.push_toArray, List.append_toArray, List.nil_append, List.cons_append]
  gi_wp2
  go_ret
  exact ⟨rfl, rfl⟩

theorem back_stops (F : Fence) (n : Nat) (h37 : F.fn 75) (hro : F.round = none) (hn : 1 ≤ n) (Bs n₀ : Nat) (sv : Value) (zs : List Int) (hreach : zs.length ≤ 9223372036854775807) (w : World) (hn₀ : n₀ ≤ w.heap.size)
    (hc : w.heap[Bs]? = some (.cells #[sv] 30 (0, 0))) (hI : Bytes n₀ w sv zs) :
    SeqStopsK F n Try.prog 75 #[.pointer (some ⟨Bs, 0, none⟩)] enc2 (Kp n₀ Bs) (fun ys => ys = back zs zs.length) (fun pre => pre <+: back zs zs.length) zs.length w := fun l J Jx W hW _ _ hY h0 => by
  have hc' := (hW.block Bs (Array.getElem?_eq_some_iff.1 hc).1).trans hc
  rcases hI.below (hW.mono hn₀) with ⟨a, c, rfl, rfl⟩ | ⟨b, off, cap, rfl, hpos, hb, hcs⟩
  · exact (back1_nil F n h37 hro l Bs a c J W (cell_of_box hc') h0).mono fun e W' ⟨he, hj⟩ => ⟨he, .inl ⟨_, rfl, hj⟩⟩
  · refine (back1_in F n h37 hro hn l Bs n₀ b off cap zs hreach hb J Jx hY W hc' hcs h0).mono ?_
    rintro e W' ⟨he, ⟨ys, rfl, hj⟩ | ⟨pre, hk, hj⟩⟩
    · exact ⟨he, .inl ⟨_, rfl, hj⟩⟩
    · exact ⟨he, .inr ⟨_, hk, hj⟩⟩
end Go.Proofs.Ytkoimdgpicmakaa.Back
namespace Go.Proofs.Ytkoimdgpicmakaa.Reader
open Go.RowKit Go.Proofs.Ytkoimdgpicmakaa.Sep3 Go.Proofs.YtkoimdgpicmakaaW.PrintWords Go.Proofs.YtkoimdgpicmakaaW.PrintLast Go.Proofs.Ytkoimdgpicmakaa.Wm
set_option linter.unusedVariables false
set_option linter.unusedSimpArgs false

/-- A reader lies at block g. -/
def At (W : World) (g : Nat) (A : Option Addr) (n c : Nat) (e : Int) : Prop := W.heap[g]? = some (.cells #[.slice A n c, .int .i64 e] 98 (0, 0))
theorem At.c0 {W : World} {g : Nat} {A : Option Addr} {n c : Nat} {e : Int} (h : At W g A n c e) : W.cell? ⟨g, 0, none⟩ = some (.slice A n c) := (cell_blk h 0).trans rfl
theorem At.c1 {W : World} {g : Nat} {A : Option Addr} {n c : Nat} {e : Int} (h : At W g A n c e) : W.cell? ⟨g, 1, none⟩ = some (.int .i64 e) := (cell_blk h 1).trans rfl
theorem At.f {W : World} {g : Nat} {A : Option Addr} {n c : Nat} {e : Int} (h : At W g A n c e) (i : Nat) : W.frozen? ⟨g, i, none⟩ = false := frozen_blk h i

/-- From w to w' nothing but block g has changed, and there may be new blocks. -/
structure Turn (w w' : World) (g : Nat) : Prop where
  os : w'.os = w.os
  tape : w'.tape = w.tape
  output : w'.output = w.output
  size : w.heap.size ≤ w'.heap.size
  block : ∀ k, k < w.heap.size → k ≠ g → w'.heap[k]? = w.heap[k]?
theorem Turn.of_below {w w' : World} (g : Nat) (h : Below w.heap.size w w') : Turn w w' g := ⟨h.os, h.tape, h.output, h.size, fun k hk _ => h.block k hk⟩
theorem Turn.refl (w : World) (g : Nat) : Turn w w g := Turn.of_below g (Below.refl _ _)
theorem Turn.trans {w w1 w2 : World} {g : Nat} (h : Turn w w1 g) (k : Turn w1 w2 g) : Turn w w2 g :=
  ⟨k.os.trans h.os, k.tape.trans h.tape, k.output.trans h.output, Nat.le_trans h.size k.size, fun i hi hg => (k.block i (Nat.lt_of_lt_of_le hi h.size) hg).trans (h.block i hi hg)⟩
theorem Turn.set (w : World) (g i : Nat) (v : Value) : Turn w (w.setCell ⟨g, i, none⟩ v) g :=
  ⟨rfl, rfl, rfl, by simp [World.setCell], fun k _ hg => Below.heap_setCell w ⟨g, i, none⟩ v k hg⟩
theorem At.below {W W1 : World} {g : Nat} {A : Option Addr} {n c : Nat} {e : Int} (h : At W g A n c e) (hb : Below W.heap.size W W1) : At W1 g A n c e :=
  (hb.block g (Array.getElem?_eq_some_iff.1 h).1).trans h
theorem At.set0 {W : World} {g : Nat} {A : Option Addr} {n c : Nat} {e : Int} (h : At W g A n c e) (A' : Option Addr) (n' c' : Nat) : At (W.setCell ⟨g, 0, none⟩ (.slice A' n' c')) g A' n' c' e := by
  have hl := (Array.getElem?_eq_some_iff.1 h).1
  have he := (Array.getElem?_eq_some_iff.1 h).2
  unfold At World.setCell
  simp [hl, Array.getElem_modify, he]
theorem At.set1 {W : World} {g : Nat} {A : Option Addr} {n c : Nat} {e : Int} (h : At W g A n c e) (e' : Int) : At (W.setCell ⟨g, 1, none⟩ (.int .i64 e')) g A n c e' := by
  have hl := (Array.getElem?_eq_some_iff.1 h).1
  have he := (Array.getElem?_eq_some_iff.1 h).2
  unfold At World.setCell
  simp [hl, Array.getElem_modify, he]

theorem up_calls (g : Nat) (A : Option Addr) (n c : Nat) (e : Int) (w : World) (h : At w g A n c e) :
    Calls Try.prog 67 #[.pointer (some ⟨g, 0, none⟩)] w fun z w' => z = .returned (.bool (e == 0)) ∧ w' = w := by
  have h0 := h.c0; have h1 := h.c1; have f0 := h.f 0; have f1 := h.f 1
  go_enter Try.func67, Try.ntmps67
  go_wp2
  go_ret
  exact ⟨rfl, rfl⟩
theorem up_nil (w : World) : Calls Try.prog 67 #[.pointer none] w fun z w' => z = .returned (.bool false) ∧ w' = w := by
  go_enter Try.func67, Try.ntmps67
  go_wp2
  go_ret
  exact ⟨rfl, rfl⟩
theorem err_calls (g : Nat) (A : Option Addr) (n c : Nat) (e : Int) (w : World) (h : At w g A n c e) :
    Calls Try.prog 47 #[.pointer (some ⟨g, 0, none⟩)] w fun z w' => z = .returned (.int .i64 e) ∧ w' = w := by
  have h0 := h.c0; have h1 := h.c1; have f0 := h.f 0; have f1 := h.f 1
  go_enter Try.func47, Try.ntmps47
  go_wp2
  go_ret
  exact ⟨rfl, rfl⟩
theorem err_nil (w : World) : Calls Try.prog 47 #[.pointer none] w fun z w' => z = .returned (.int .i64 1) ∧ w' = w := by
  go_enter Try.func47, Try.ntmps47
  go_wp2
  go_ret
  exact ⟨rfl, rfl⟩


theorem stop_calls (g : Nat) (A : Option Addr) (n c : Nat) (e e' : Int) (w : World) (h : At w g A n c e) :
    Calls Try.prog 68 #[.pointer (some ⟨g, 0, none⟩), .int .i64 e'] w fun z w' => z = .returned (.tuple #[]) ∧ At w' g none 0 0 e' ∧ Turn w w' g := by
  have h0 := h.c0; have h1 := h.c1; have f0 := h.f 0; have f1 := h.f 1
  go_enter Try.func68, Try.ntmps68
  go_wp2
  refine bodyPost_end (results_none rfl _ _ _) rfl ?_
  exact ⟨rfl, (h.set0 _ _ _).set1 _, (Turn.set w g 0 _).trans (Turn.set _ g 1 _)⟩
theorem new_calls (A : Option Addr) (n c : Nat) (w : World) :
    Calls Try.prog 38 #[.slice A n c] w fun z w' => z = .returned (.pointer (some ⟨w.heap.size, 0, none⟩)) ∧ At w' w.heap.size A n c 0 ∧ Below w.heap.size w w' := by
  go_enter Try.func38, Try.ntmps38
  go_wp2
  go_ret
  exact ⟨rfl, heap_alloc_new _ _, (Below.refl _ _).alloc (Nat.le_refl _) _⟩
/-- One more byte of a number. -/
abbrev nx (b nv : Int) (i : Nat) : Int := bits BinOp.or IntKind.u64 nv (IntKind.u64.wrap (IntKind.u64.wrap (bits BinOp.andNot IntKind.u8 b 128) * 2 ^ (7 * i)))
/-- What reading a number does, from byte i on: by how much the reader goes on (none: it stops), its error, the number. -/
def vr (xs : List Int) (most : Int) : Nat → Nat → Int → Option Nat × Int × Int
  | 0, _, _ => (none, 4, 0)
  | k + 1, i, nv => match xs[i]? with
    | none => (none, 3, 0)
    | some b => if (bits BinOp.and IntKind.u8 b 128 != 0) = true then vr xs most k (i + 1) (nx b nv i)
      else if nx b nv i / 4294967296 = 0 ∧ ¬ (0 < i ∧ b = 0) then (if IntKind.u64.wrap most < nx b nv i then (none, 5, 0) else (some (i + 1), 0, nx b nv i)) else (none, 4, 0)
/-- The reader behind it. -/
def Aft (W : World) (g : Nat) (A : Option Addr) (n c : Nat) : Option Nat → Int → Prop
  | none, e => At W g none 0 0 e
  | some j, e => At W g (if c = j then A else A.map (·.add j)) (n - j) (c - j) e
theorem vr_go {xs : List Int} {most : Int} {k i : Nat} {nv b : Int} (h : xs[i]? = some b) (h1 : (bits BinOp.and IntKind.u8 b 128 != 0) = true) : vr xs most (k + 1) i nv = vr xs most k (i + 1) (nx b nv i) := by
  simp only [vr, h]; rw [if_pos h1]
theorem vr_form {xs : List Int} {most : Int} {k i : Nat} {nv b : Int} (h : xs[i]? = some b) (h1 : (bits BinOp.and IntKind.u8 b 128 != 0) = false) (h2 : nx b nv i / 4294967296 = 0) (h3 : 0 < i) (h4 : (b == 0) = true) : vr xs most (k + 1) i nv = (none, 4, 0) := by
  simp only [vr, h]; rw [if_neg (by rw [h1]; simp), if_neg (fun q => q.2 ⟨h3, by simpa using h4⟩)]
theorem vr_big {xs : List Int} {most : Int} {k i : Nat} {nv b : Int} (h : xs[i]? = some b) (h1 : (bits BinOp.and IntKind.u8 b 128 != 0) = false) (h2 : ¬ nx b nv i / 4294967296 = 0) : vr xs most (k + 1) i nv = (none, 4, 0) := by
  simp only [vr, h]; rw [if_neg (by rw [h1]; simp), if_neg (fun q => h2 q.1)]
theorem vr_long {xs : List Int} {most : Int} {k i : Nat} {nv b : Int} (h : xs[i]? = some b) (h1 : (bits BinOp.and IntKind.u8 b 128 != 0) = false) (h2 : nx b nv i / 4294967296 = 0) (h3 : ¬ 0 < i ∨ (b == 0) = false) (h5 : IntKind.u64.wrap most < nx b nv i) : vr xs most (k + 1) i nv = (none, 5, 0) := by
  simp only [vr, h]; rw [if_neg (by rw [h1]; simp), if_pos ⟨h2, fun q => h3.elim (fun h => h q.1) (fun h => by simp [q.2] at h)⟩, if_pos h5]
theorem vr_done {xs : List Int} {most : Int} {k i : Nat} {nv b : Int} (h : xs[i]? = some b) (h1 : (bits BinOp.and IntKind.u8 b 128 != 0) = false) (h2 : nx b nv i / 4294967296 = 0) (h3 : ¬ 0 < i ∨ (b == 0) = false) (h5 : nx b nv i ≤ IntKind.u64.wrap most) : vr xs most (k + 1) i nv = (some (i + 1), 0, nx b nv i) := by
  simp only [vr, h]; rw [if_neg (by rw [h1]; simp), if_pos ⟨h2, fun q => h3.elim (fun h => h q.1) (fun h => by simp [q.2] at h)⟩, if_neg (by omega)]
/-- A byte of a row of bytes. -/
theorem byte_at {W : World} {A : Option Addr} {xs : List Int} (h : Kd.C (Kd.int .u8) W A xs.length xs) (i : Nat) (hi : i < xs.length) :
    ∃ ad b, A = some ad ∧ xs[i]? = some b ∧ W.cell? (ad.add i) = some (.int .u8 b) := by
  obtain ⟨ad, e, hc⟩ := h.2.2 (by omega)
  obtain ⟨c, _, hr, hcell⟩ := hc i _ (List.getElem?_eq_getElem hi)
  subst hr
  exact ⟨ad, xs[i], e, List.getElem?_eq_getElem hi, by simpa [Kd.int, Kd.scalar] using hcell 0 _ rfl⟩
set_option maxHeartbeats 8000000 in
theorem var_calls (g : Nat) (A : Option Addr) (xs : List Int) (c : Nat) (e : Int) (most : Int) (w : World) (h : At w g A xs.length c e) (he : (e == 0) = true) (hC : Kd.C (Kd.int .u8) w A xs.length xs) (hc : xs.length ≤ c) (adv : Option Nat) (e' r : Int)
    (H0 : vr xs most 5 0 0 = (adv, e', r)) :
    Calls Try.prog 43 #[.pointer (some ⟨g, 0, none⟩), .int .u32 most] w fun z w' => z = .returned (.int .u32 r) ∧ Aft w' g A xs.length c adv e' ∧ Turn w w' g := by
  have h0 := h.c0; have h1 := h.c1; have f0 := h.f 0; have f1 := h.f 1
  have HR := Aside0.mk hC; clear hC
  obtain rfl : e = 0 := by simpa using he
  have HA := Aside0.mk h
  go_enter Try.func43, Try.ntmps43
  go_wp2_with (go_at_call 67; refine (up_calls g A _ c 0 _ h).mono ?_; rintro z w1 ⟨rfl, rfl⟩)
  clear h
  go_loopg [6, 14] 5 (fun k v6 v14 w' => ∃ (nv : Int) (i : Nat), v6 = .int .u64 nv ∧ v14 = .int .i64 i ∧ k + i = 5 ∧ i ≤ xs.length ∧ w' = w1 ∧ Aside0 (vr xs most k i nv = (adv, e', r)))
  case atStart => exact ⟨0, 0, rfl, rfl, rfl, Nat.zero_le _, rfl, ⟨H0⟩⟩
  case round =>
    clear H0
    obtain ⟨nv, i, rfl, rfl, hki, hix, rfl, H⟩ := hrel
    have HC := Aside0.mk hc
    clear hc he
    cases gk with
    | zero =>
      obtain rfl : i = 5 := by omega
      obtain ⟨H⟩ := H
      simp only [vr] at H
      injection H with H1 H2; injection H2 with H2 H3; subst H1; subst H2; subst H3
      go_wp2_with (go_at_call 68; refine (stop_calls g _ _ c 0 _ _ HA.out).mono ?_; rintro z w2 ⟨rfl, hA, hT⟩; have hA2 := Aside0.mk hA; have hT2 := Aside0.mk hT; clear hA hT)
      go_ret
      exact ⟨rfl, hA2.out, hT2.out⟩
    | succ k =>
    have hc1 : decide ((i : Int) < 5) = true := decide_eq_true (by omega)
    by_cases hi : i < xs.length
    · obtain ⟨ad, b, rfl, hb, hx⟩ : ∃ ad b, A = some ad ∧ xs[i]? = some b ∧ wr.cell? (ad.add i) = some (.int .u8 b)   := byte_at HR.out i hi
      have HB := Aside0.mk hb
      have hc2 : ((i : Int) == (xs.length : Int)) = false := beq_eq_false_iff_ne.mpr (by omega)
      have hc3 : decide ((i : Int) < (xs.length : Int)) = true := decide_eq_true (by omega)
      clear hb
      go_wp2_with (go_at_call 68; refine (stop_calls g _ _ c 0 _ _ HA.out).mono ?_; rintro z w2 ⟨rfl, hA, hT⟩; have hA2 := Aside0.mk hA; have hT2 := Aside0.mk hT; clear hA hT)
      case _ h1 =>
        go_roundg k
        case measure => omega
        case rel => exact ⟨_, i + 1, rfl, rfl, by omega, by omega, rfl, ⟨(vr_go HB.out h1).symm.trans H.out⟩⟩
      all_goals first
        | (have h9 := (vr_form (k := k) HB.out ‹(bits BinOp.and IntKind.u8 b 128 != 0) = false› ‹nx b nv i / 4294967296 = 0› ‹0 < i› ‹(b == 0) = true›).symm.trans H.out
           injection h9 with H1 H2; injection H2 with H2 H3; subst H1; subst H2; subst H3
           go_ret
           exact ⟨rfl, hA2.out, hT2.out⟩)
        | (have h9 := (vr_big (k := k) HB.out ‹(bits BinOp.and IntKind.u8 b 128 != 0) = false› ‹¬ nx b nv i / 4294967296 = 0›).symm.trans H.out
           injection h9 with H1 H2; injection H2 with H2 H3; subst H1; subst H2; subst H3
           go_ret
           exact ⟨rfl, hA2.out, hT2.out⟩)
        | (have h9 := (vr_long (k := k) HB.out ‹(bits BinOp.and IntKind.u8 b 128 != 0) = false› ‹nx b nv i / 4294967296 = 0› (by first | exact .inr ‹(b == 0) = false› | exact .inl ‹¬ 0 < i›) ‹IntKind.u64.wrap most < nx b nv i›).symm.trans H.out
           injection h9 with H1 H2; injection H2 with H2 H3; subst H1; subst H2; subst H3
           go_ret
           exact ⟨rfl, hA2.out, hT2.out⟩)
        | (have h9 := (vr_done (k := k) HB.out ‹(bits BinOp.and IntKind.u8 b 128 != 0) = false› ‹nx b nv i / 4294967296 = 0› (by first | exact .inr ‹(b == 0) = false› | exact .inl ‹¬ 0 < i›) ‹nx b nv i ≤ IntKind.u64.wrap most›).symm.trans H.out
           injection h9 with H1 H2; injection H2 with H2 H3; subst H1; subst H2; subst H3
           go_ret
           refine ⟨rfl, ?_, Turn.set _ _ _ _⟩
           first
             | (have h8 : c = i + 1 := ‹c = i + 1›
                have h7 := HA.out.set0 (some ad) (xs.length - (i + 1)) 0
                simp only [Aft, h8, if_true, Nat.sub_self]
                exact h7)
             | (have h8 : ¬ c = i + 1 := ‹¬ c = i + 1›
                simp only [Aft, if_neg h8]
                exact HA.out.set0 _ _ _))
    · obtain ⟨H⟩ := H
      simp only [vr, List.getElem?_eq_none (Nat.le_of_not_lt hi)] at H
      injection H with H1 H2; injection H2 with H2 H3; subst H1; subst H2; subst H3
      have hc2 : ((i : Int) == (xs.length : Int)) = true := beq_iff_eq.mpr (by omega)
      go_wp2_with (go_at_call 68; refine (stop_calls g _ _ c 0 _ _ HA.out).mono ?_; rintro z w2 ⟨rfl, hA, hT⟩; have hA2 := Aside0.mk hA; have hT2 := Aside0.mk hT; clear hA hT)
      go_ret
      exact ⟨rfl, hA2.out, hT2.out⟩
end Go.Proofs.Ytkoimdgpicmakaa.Reader
namespace Go.Proofs.Ytkoimdgpicmakaa.Reader
open Go.RowKit Go.Proofs.Ytkoimdgpicmakaa.Sep3 Go.Proofs.YtkoimdgpicmakaaW.PrintWords Go.Proofs.YtkoimdgpicmakaaW.PrintLast Go.Proofs.Ytkoimdgpicmakaa.Wm Go.Proofs.Ytkoimdgpicmakaa.PB
set_option linter.unusedVariables false
set_option linter.unusedSimpArgs false

/-- A reader at block g with these bytes left and this error; the reader and the bytes lie below B. -/
def Rd (B : Nat) (w : World) (g : Nat) (xs : List Int) (e : Int) : Prop :=
  ∃ A c, At w g A xs.length c e ∧ xs.length ≤ c ∧ Kd.C (Kd.int .u8) w A xs.length xs ∧ (∀ ad, A = some ad → 0 < xs.length → ad.block ≠ g ∧ ad.block < B) ∧ g < B
theorem Turn.keep {w w' : World} {g : Nat} (h : Turn w w' g) : KeepBut w w' g none := ⟨h.size, fun i hi hg _ => h.block i hi hg⟩
theorem C_turn {w w' : World} {g : Nat} {A : Option Addr} {n : Nat} {xs : List Int} (h : Kd.C (Kd.int .u8) w A n xs) (t : Turn w w' g) (hf : ∀ ad, A = some ad → 0 < n → ad.block ≠ g) : Kd.C (Kd.int .u8) w' A n xs :=
  Kd.C_keep (enc := Value.int .u8) (h1 := fun _ => rfl) (0 : Int) h t.keep hf
theorem C_under {B : Nat} {w w' : World} {A : Option Addr} {n : Nat} {xs : List Int} (h : Kd.C (Kd.int .u8) w A n xs) (hb : Below B w w') (hf : ∀ ad, A = some ad → 0 < n → ad.block < B) : Kd.C (Kd.int .u8) w' A n xs := by
  refine ⟨h.1, h.2.1, fun hn => ?_⟩
  obtain ⟨ad, e, hc⟩ := h.2.2 hn
  have hB := hf ad e hn
  refine ⟨ad, e, fun j p hj => ?_⟩
  obtain ⟨cs, h1, h2, h3⟩ := hc j p hj
  refine ⟨cs, h1, h2, fun i u hu => ?_⟩
  have := h3 i u hu
  rw [← this]
  refine hb.cell ?_
  unfold Addr.add
  split <;> simpa using hB
theorem At.under {B : Nat} {W W1 : World} {g : Nat} {A : Option Addr} {n c : Nat} {e : Int} (h : At W g A n c e) (hb : Below B W W1) (hg : g < B) : At W1 g A n c e := (hb.block g hg).trans h
theorem Rd.below {B : Nat} {w w' : World} {g : Nat} {xs : List Int} {e : Int} (h : Rd B w g xs e) (hb : Below B w w') : Rd B w' g xs e := by
  obtain ⟨A, c, h1, h2, h3, h4, h5⟩ := h
  exact ⟨A, c, h1.under hb h5, h2, C_under h3 hb (fun ad ha hp => (h4 ad ha hp).2), h4, h5⟩
theorem Rd.mono {B B' : Nat} {w : World} {g : Nat} {xs : List Int} {e : Int} (h : Rd B w g xs e) (hB : B ≤ B') : Rd B' w g xs e := by
  obtain ⟨A, c, h1, h2, h3, h4, h5⟩ := h
  exact ⟨A, c, h1, h2, h3, fun ad ha hp => ⟨(h4 ad ha hp).1, Nat.lt_of_lt_of_le (h4 ad ha hp).2 hB⟩, by omega⟩
theorem Rd.len {B : Nat} {w : World} {g : Nat} {xs : List Int} {e : Int} (h : Rd B w g xs e) : xs.length ≤ 9223372036854775807 := by
  obtain ⟨A, c, h1, h2, h3, h4, h5⟩ := h
  exact h3.2.1
theorem Rd.stopped {B : Nat} {w : World} {g : Nat} {e : Int} (h : At w g none 0 0 e) (hg : g < B) : Rd B w g [] e := ⟨none, 0, h, Nat.zero_le _, Kd.C_nil _ _, (fun ad h => by cases h), hg⟩
theorem Turn.below_then {w w1 w2 : World} {g : Nat} (h : Turn w w1 g) (k : Below w1.heap.size w1 w2) : Turn w w2 g := h.trans (Turn.of_below g k)
/-- Behind a turn: blocks that w had are as they were. -/
theorem Turn.under {w w1 w2 : World} {g : Nat} (h : Turn w w1 g) (k : Below w.heap.size w1 w2) : Turn w w2 g :=
  ⟨k.os.trans h.os, k.tape.trans h.tape, k.output.trans h.output, Nat.le_trans h.size k.size, fun i hi hg => (k.block i hi).trans (h.block i hi hg)⟩

theorem take_at (g : Nat) (A : Option Addr) (xs : List Int) (c : Nat) (n : Nat) (w : World) (h : At w g A xs.length c 0) (hc : xs.length ≤ c) (hn : n ≤ xs.length) (hm : xs.length ≤ 9223372036854775807) :
    Calls Try.prog 65 #[.pointer (some ⟨g, 0, none⟩), .int .i64 (n : Int)] w fun z w' => z = .returned (.slice A n c) ∧ Aft w' g A xs.length c (some n) 0 ∧ Turn w w' g := by
  have h0 := h.c0; have h1 := h.c1; have f0 := h.f 0; have f1 := h.f 1
  have HA := Aside0.mk h
  have hn1 : decide (xs.length < n) = false := decide_eq_false (by omega)
  by_cases hcn : c = n
  · go_enter Try.func65, Try.ntmps65
    go_wp2_with (go_at_call 67; refine (up_calls g A _ c 0 _ h).mono ?_; rintro z w1 ⟨rfl, rfl⟩)
    go_ret
    refine ⟨by rw [hcn]; rfl, ?_, Turn.set _ _ _ _⟩
    have h7 := HA.out.set0 A (xs.length - n) 0
    simp only [Aft, hcn, if_true, Nat.sub_self]
    exact h7
  · go_enter Try.func65, Try.ntmps65
    go_wp2_with (go_at_call 67; refine (up_calls g A _ c 0 _ h).mono ?_; rintro z w1 ⟨rfl, rfl⟩)
    go_ret
    refine ⟨rfl, ?_, Turn.set _ _ _ _⟩
    simp only [Aft, if_neg hcn]
    exact HA.out.set0 _ _ _
theorem take_cut (g : Nat) (A : Option Addr) (xs : List Int) (c : Nat) (n : Nat) (w : World) (h : At w g A xs.length c 0) (hn : xs.length < n) :
    Calls Try.prog 65 #[.pointer (some ⟨g, 0, none⟩), .int .i64 (n : Int)] w fun z w' => z = .returned (.slice none 0 0) ∧ At w' g none 0 0 3 ∧ Turn w w' g := by
  have h0 := h.c0; have h1 := h.c1; have f0 := h.f 0; have f1 := h.f 1
  have HA := Aside0.mk h
  have hn1 : decide (xs.length < n) = true := decide_eq_true (by omega)
  go_enter Try.func65, Try.ntmps65
  go_wp2_with (first | (go_at_call 67; refine (up_calls g A _ c 0 _ h).mono ?_; rintro z w1 ⟨rfl, rfl⟩) | (go_at_call 68; refine (stop_calls g _ _ c 0 _ _ HA.out).mono ?_; rintro z w2 ⟨rfl, hA, hT⟩; have hA2 := Aside0.mk hA; have hT2 := Aside0.mk hT; clear hA hT))
  go_ret
  exact ⟨rfl, hA2.out, hT2.out⟩
theorem take_down (g : Nat) (A : Option Addr) (m c : Nat) (e n : Int) (w : World) (h : At w g A m c e) (he : (e == 0) = false) :
    Calls Try.prog 65 #[.pointer (some ⟨g, 0, none⟩), .int .i64 n] w fun z w' => z = .returned (.slice none 0 0) ∧ w' = w := by
  go_enter Try.func65, Try.ntmps65
  go_wp2_with (go_at_call 67; refine (up_calls g A _ c e _ h).mono ?_; rintro z w1 ⟨rfl, rfl⟩)
  go_ret
  exact ⟨rfl, rfl⟩
theorem take_nil (n : Int) (w : World) : Calls Try.prog 65 #[.pointer none, .int .i64 n] w fun z w' => z = .returned (.slice none 0 0) ∧ w' = w := by
  go_enter Try.func65, Try.ntmps65
  go_wp2_with (go_at_call 67; refine (up_nil _).mono ?_; rintro z w1 ⟨rfl, rfl⟩)
  go_ret
  exact ⟨rfl, rfl⟩
theorem var_down (g : Nat) (A : Option Addr) (m c : Nat) (e n : Int) (w : World) (h : At w g A m c e) (he : (e == 0) = false) :
    Calls Try.prog 43 #[.pointer (some ⟨g, 0, none⟩), .int .u32 n] w fun z w' => z = .returned (.int .u32 0) ∧ w' = w := by
  go_enter Try.func43, Try.ntmps43
  go_wp2_with (go_at_call 67; refine (up_calls g A _ c e _ h).mono ?_; rintro z w1 ⟨rfl, rfl⟩)
  go_ret
  exact ⟨rfl, rfl⟩
theorem var_nil (n : Int) (w : World) : Calls Try.prog 43 #[.pointer none, .int .u32 n] w fun z w' => z = .returned (.int .u32 0) ∧ w' = w := by
  go_enter Try.func43, Try.ntmps43
  go_wp2_with (go_at_call 67; refine (up_nil _).mono ?_; rintro z w1 ⟨rfl, rfl⟩)
  go_ret
  exact ⟨rfl, rfl⟩

/-- What reading a number does: what is left, the error, the number. -/
def rVar (xs : List Int) (e most : Int) : List Int × Int × Int :=
  if e = 0 then (match vr xs most 5 0 0 with | (some j, e', r) => (xs.drop j, e', r) | (none, e', r) => ([], e', r)) else (xs, e, 0)
/-- What taking some bytes does. -/
def rTake (xs : List Int) (e : Int) (n : Nat) : List Int × Int × List Int :=
  if e = 0 then (if n ≤ xs.length then (xs.drop n, 0, xs.take n) else ([], 3, [])) else (xs, e, [])
theorem vr_le {xs : List Int} {most : Int} : ∀ {k i : Nat} {nv : Int} {j : Nat} {e r : Int}, vr xs most k i nv = (some j, e, r) → j ≤ xs.length
  | 0, i, nv, j, e, r, h => by simp [vr] at h
  | k + 1, i, nv, j, e, r, h => by
    simp only [vr] at h
    cases hx : xs[i]? with
    | none => rw [hx] at h; simp at h
    | some b =>
      rw [hx] at h
      have hi : i < xs.length := (List.getElem?_eq_some_iff.1 hx).1
      simp only at h
      split at h
      · exact vr_le h
      · split at h
        · split at h
          · simp at h
          · injection h with h1 h2; injection h1 with h1; omega
        · simp at h
theorem vr_bd {xs : List Int} {most : Int} : ∀ {k i : Nat} {nv : Int} {j : Option Nat} {e r : Int}, vr xs most k i nv = (j, e, r) → 0 ≤ r ∧ r < 4294967296
  | 0, i, nv, j, e, r, h => by simp only [vr] at h; injection h with h1 h2; injection h2 with h2 h3; omega
  | k + 1, i, nv, j, e, r, h => by
    simp only [vr] at h
    cases hx : xs[i]? with
    | none => rw [hx] at h; simp at h; omega
    | some b =>
      rw [hx] at h
      simp only at h
      split at h
      · exact vr_bd h
      · split at h
        · rename_i hq
          split at h
          · injection h with h1 h2; injection h2 with h2 h3; omega
          · injection h with h1 h2; injection h2 with h2 h3; subst h3; have := hq.1; omega
        · injection h with h1 h2; injection h2 with h2 h3; omega
theorem rVar_bd (xs : List Int) (e most : Int) : 0 ≤ (rVar xs e most).2.2 ∧ (rVar xs e most).2.2 < 4294967296 := by
  unfold rVar
  split
  · rcases h : vr xs most 5 0 0 with ⟨j, e', r⟩
    have := vr_bd h
    cases j <;> exact this
  · exact ⟨by simp, by simp⟩
theorem Rd.of_aft {B : Nat} {w w' : World} {g : Nat} {A : Option Addr} {xs : List Int} {c : Nat} {j : Nat} {e : Int} (h : Aft w' g A xs.length c (some j) e) (t : Turn w w' g) (hc : xs.length ≤ c) (hC : Kd.C (Kd.int .u8) w A xs.length xs) (hf : ∀ ad, A = some ad → 0 < xs.length → ad.block ≠ g ∧ ad.block < B) (hg : g < B) (hj : j ≤ xs.length) : Rd B w' g (xs.drop j) e := by
  have hC' := Kd.C_drop (c := c) (C_turn hC t (fun ad ha hp => (hf ad ha hp).1)) hj hc
  have hl : (xs.drop j).length = xs.length - j := List.length_drop
  refine ⟨(if c = j then A else A.map (·.add j)), c - j, ?_, by omega, ?_, ?_, hg⟩
  · rw [hl]; exact h
  · simpa [Kd.int, Kd.scalar] using hC'
  · intro ad he hp
    rw [hl] at hp
    rw [if_neg (by omega)] at he
    cases A with
    | none => cases he
    | some a =>
      simp only [Option.map_some, Option.some.injEq] at he
      subst he
      have := hf a rfl (by omega)
      unfold Addr.add
      split <;> simpa using this
theorem varR {B : Nat} (g : Nat) (xs : List Int) (e most : Int) (w : World) (h : Rd B w g xs e) :
    Calls Try.prog 43 #[.pointer (some ⟨g, 0, none⟩), .int .u32 most] w fun z w' => z = .returned (.int .u32 (rVar xs e most).2.2) ∧ Rd B w' g (rVar xs e most).1 (rVar xs e most).2.1 ∧ Turn w w' g := by
  obtain ⟨A, c, h1, h2, h3, h4, h5⟩ := h
  by_cases he : e = 0
  · subst he
    rcases hv : vr xs most 5 0 0 with ⟨j, e', r⟩
    refine (var_calls g A xs c 0 most w h1 rfl h3 h2 j e' r hv).mono ?_
    rintro z w' ⟨rfl, hA, hT⟩
    cases j with
    | none => simp only [rVar, hv, if_true]; exact ⟨trivial, Rd.stopped hA h5, hT⟩
    | some j => simp only [rVar, hv, if_true]; exact ⟨trivial, Rd.of_aft hA hT h2 h3 h4 h5 (vr_le hv), hT⟩
  · refine (var_down g A _ c e most w h1 (by simpa using he)).mono ?_
    rintro z w' ⟨rfl, rfl⟩
    simp only [rVar, if_neg he]
    exact ⟨trivial, ⟨A, c, h1, h2, h3, h4, h5⟩, Turn.refl _ _⟩
theorem takeR {B : Nat} (g : Nat) (xs : List Int) (e : Int) (n : Nat) (w : World) (h : Rd B w g xs e) :
    Calls Try.prog 65 #[.pointer (some ⟨g, 0, none⟩), .int .i64 (n : Int)] w fun z w' => (∃ A c, z = .returned (.slice A (rTake xs e n).2.2.length c) ∧ (rTake xs e n).2.2.length ≤ c ∧ Kd.C (Kd.int .u8) w' A (rTake xs e n).2.2.length (rTake xs e n).2.2 ∧ (∀ ad, A = some ad → 0 < (rTake xs e n).2.2.length → ad.block ≠ g ∧ ad.block < B)) ∧ Rd B w' g (rTake xs e n).1 (rTake xs e n).2.1 ∧ Turn w w' g := by
  obtain ⟨A, c, h1, h2, h3, h4, h5⟩ := h
  by_cases he : e = 0
  · subst he
    by_cases hn : n ≤ xs.length
    · refine (take_at g A xs c n w h1 h2 hn h3.2.1).mono ?_
      rintro z w' ⟨rfl, hA, hT⟩
      have hl : (xs.take n).length = n := by rw [List.length_take]; omega
      have := Kd.C_take (C_turn h3 hT (fun ad ha hp => (h4 ad ha hp).1)) hn
      simp only [rTake, if_pos hn, if_true]
      exact ⟨⟨A, c, by rw [hl], by omega, this, fun ad h hp => h4 ad h (by omega)⟩, Rd.of_aft hA hT h2 h3 h4 h5 hn, hT⟩
    · refine (take_cut g A xs c n w h1 (by omega)).mono ?_
      rintro z w' ⟨rfl, hA, hT⟩
      simp only [rTake, if_neg hn, if_true]
      exact ⟨⟨none, 0, rfl, Nat.le_refl _, Kd.C_nil _ _, fun ad h => by cases h⟩, Rd.stopped hA h5, hT⟩
  · refine (take_down g A _ c e n w h1 (by simpa using he)).mono ?_
    rintro z w' ⟨rfl, rfl⟩
    simp only [rTake, if_neg he]
    exact ⟨⟨none, 0, rfl, Nat.le_refl _, Kd.C_nil _ _, fun ad h => by cases h⟩, ⟨A, c, h1, h2, h3, h4, h5⟩, Turn.refl _ _⟩
/-- A bound as a number. -/
def atM (most : Int) : Int := mx 0 (mn most 4294967295)
/-- What reading a text does. -/
def rText (xs : List Int) (e most : Int) : List Int × Int × List Int :=
  rTake (rVar xs e (atM most)).1 (rVar xs e (atM most)).2.1 (rVar xs e (atM most)).2.2.toNat
theorem textR {B : Nat} (g : Nat) (xs : List Int) (e most : Int) (w : World) (h : Rd B w g xs e) (hB : B ≤ w.heap.size) :
    Calls Try.prog 40 #[.pointer (some ⟨g, 0, none⟩), .int .i64 most] w fun z w' => z = .returned (.string (strOfNums (rText xs e most).2.2)) ∧ Rd B w' g (rText xs e most).1 (rText xs e most).2.1 ∧ Turn w w' g := by
  obtain ⟨n, hn⟩ : ∃ n : Nat, ((rVar xs e (atM most)).2.2 = (n : Int)) := ⟨_, (Int.toNat_of_nonneg (rVar_bd _ _ _).1).symm⟩
  have hb : n < 4294967296 := by have := (rVar_bd xs e (atM most)).2; omega
  have HN := Aside0.mk hn
  have HD := Aside0.mk h
  have HB := Aside0.mk hB
  clear hn h hB
  go_enter Try.func40, Try.ntmps40
  go_wp2_with (first
    | (go_at_call 66; refine (wire_atMost.calls most _ _ rfl).mono ?_; rintro z w1 ⟨rfl, hb1⟩; have B1 := Aside0.mk hb1; clear hb1)
    | (go_at_call 43; refine (varR (B := B) g xs e (atM most) _ (HD.out.below (B1.out.mono HB.out))).mono ?_; rw [HN.out]; rintro z w2 ⟨rfl, hR, hT⟩; have R2 := Aside0.mk hR; have T2 := Aside0.mk ((Turn.of_below g B1.out).trans hT); clear hR hT)
    | (go_at_call 65; refine (takeR (B := B) g _ _ n _ R2.out).mono ?_; rintro z w3 ⟨⟨A3, c3, rfl, hc3, hC3, hf3⟩, hR, hT⟩; have R3 := Aside0.mk hR; have T3 := Aside0.mk (T2.out.trans hT); have hs := Kd.C_string (P := Try.prog) (src := 30) (dst := 9) (e := 5) (c := c3) Try.underlying30 Try.underlying5 Try.underlying9 hC3; clear hR hT hC3 hf3 hc3))
  go_ret
  have e1 : (rVar xs e (atM most)).2.2.toNat = n := by rw [HN.out]; rfl
  simp only [rText, e1]
  exact ⟨rfl, R3.out, T3.out⟩
theorem text_nil (most : Int) (w : World) : Calls Try.prog 40 #[.pointer none, .int .i64 most] w fun z w' => z = .returned (.string (strOfNums [])) ∧ Below w.heap.size w w' := by
  have hs := fun w => run_convert_bytes_nil (P := Try.prog) w 30 5 Try.underlying30 Try.underlying5 0 0 9 Try.underlying9
  go_enter Try.func40, Try.ntmps40
  go_wp2_with (first
    | (go_at_call 66; refine (wire_atMost.calls most _ _ rfl).mono ?_; rintro z w1 ⟨rfl, hb1⟩; have B1 := Aside0.mk hb1; clear hb1)
    | (go_at_call 43; refine (var_nil _ _).mono ?_; rintro z w2 ⟨rfl, rfl⟩)
    | (go_at_call 65; refine (take_nil _ _).mono ?_; rintro z w3 ⟨rfl, rfl⟩))
  go_ret
  exact ⟨rfl, B1.out⟩
theorem upR {B : Nat} (g : Nat) (xs : List Int) (e : Int) (w : World) (h : Rd B w g xs e) :
    Calls Try.prog 67 #[.pointer (some ⟨g, 0, none⟩)] w fun z w' => z = .returned (.bool (e == 0)) ∧ w' = w := by
  obtain ⟨A, c, h1, h2, h3, h4, h5⟩ := h
  exact up_calls g A _ c e w h1
theorem errR {B : Nat} (g : Nat) (xs : List Int) (e : Int) (w : World) (h : Rd B w g xs e) :
    Calls Try.prog 47 #[.pointer (some ⟨g, 0, none⟩)] w fun z w' => z = .returned (.int .i64 e) ∧ w' = w := by
  obtain ⟨A, c, h1, h2, h3, h4, h5⟩ := h
  exact err_calls g A _ c e w h1

theorem stopR {B : Nat} (g : Nat) (xs : List Int) (e e' : Int) (w : World) (h : Rd B w g xs e) :
    Calls Try.prog 68 #[.pointer (some ⟨g, 0, none⟩), .int .i64 e'] w fun z w' => z = .returned (.tuple #[]) ∧ Rd B w' g [] e' ∧ Turn w w' g := by
  obtain ⟨A, c, h1, h2, h3, h4, h5⟩ := h
  refine (stop_calls g A _ c e e' w h1).mono ?_
  rintro z w' ⟨rfl, hA, hT⟩
  exact ⟨rfl, Rd.stopped hA h5, hT⟩
theorem newR (A : Option Addr) (xs : List Int) (c : Nat) (w : World) (hC : Kd.C (Kd.int .u8) w A xs.length xs) (hc : xs.length ≤ c) :
    Calls Try.prog 38 #[.slice A xs.length c] w fun z w' => z = .returned (.pointer (some ⟨w.heap.size, 0, none⟩)) ∧ Rd (w.heap.size + 1) w' w.heap.size xs 0 ∧ Below w.heap.size w w' ∧ w.heap.size < w'.heap.size := by
  refine (new_calls A xs.length c w).mono ?_
  rintro z w' ⟨rfl, hA, hB⟩
  refine ⟨rfl, ⟨A, c, hA, hc, Kd.C_below hC hB, fun ad ha hp => ?_, by omega⟩, hB, (Array.getElem?_eq_some_iff.1 hA).1⟩
  subst ha
  have := Kd.C_lt hC hp (by decide)
  omega
end Go.Proofs.Ytkoimdgpicmakaa.Reader
namespace Go.Proofs.Ytkoimdgpicmakaa.Reader
open Go.RowKit Go.Shelf Go.Proofs.Ytkoimdgpicmakaa.Sep3 Go.Proofs.YtkoimdgpicmakaaW.PrintWords Go.Proofs.YtkoimdgpicmakaaW.PrintLast Go.Proofs.Ytkoimdgpicmakaa.Wm Go.Proofs.Ytkoimdgpicmakaa.PB Go.Proofs.Ytkoimdgpicmakaa.Back
attribute [local go_sem] Oper.semAt_some
set_option linter.unusedVariables false
set_option linter.unusedSimpArgs false

theorem bytes_of_C {w : World} {A : Option Addr} {c : Nat} {l : List Int} (h : Kd.C (Kd.int .u8) w A l.length l) : Bytes w.heap.size w (.slice A l.length c) l := by
  rcases Nat.eq_zero_or_pos l.length with h0 | h0
  · exact .inl ⟨A, c, by rw [h0], List.eq_nil_of_length_eq_zero h0⟩
  · obtain ⟨ad, rfl, _⟩ := h.2.2 h0
    have hcell : ∀ j, j < l.length → w.cell? (ad.add j) = some (.int .u8 (at0 l j)) := fun j hj => by
      obtain ⟨ad', b, e, hb, hc⟩ := byte_at h j hj
      injection e with e; subst e
      rw [hc, at0, hb]; rfl
    obtain ⟨b, off, spot⟩ := ad
    have hspot : spot = none := by simpa [Addr.add] using World.cell?_spot (hcell 0 h0)
    subst hspot
    have hc' : ∀ j, j < l.length → w.cell? ⟨b, off + j, none⟩ = some (.int .u8 (at0 l j)) := fun j hj => by rw [← Go.WideShapes.add_plain]; exact hcell j hj
    exact .inr ⟨b, off, c, rfl, h0, World.block_lt_of_cell? w _ (hc' 0 h0), hc'⟩
/-- The word that bytes make, the last one first. -/
def wsum (xs : List (Nat × Int)) : Int := xs.foldl (fun m x => bits BinOp.or IntKind.u32 (m * 256 % 4294967296) (x.2 % 4294967296)) 0
theorem wsum_snoc (xs : List (Nat × Int)) (x : Nat × Int) : wsum (xs ++ [x]) = bits BinOp.or IntKind.u32 (wsum xs * 256 % 4294967296) (x.2 % 4294967296) := by simp [wsum, List.foldl_append]
theorem cell_of_box_l {W : World} {B : Nat} {v : Value} {t : TypeId} (h : W.heap[B]? = some (.cells #[v] t (0, 0))) : W.cell? ⟨B, 0, none⟩ = some v ∧ W.frozen? ⟨B, 0, none⟩ = false := by
  constructor <;> simp [World.cell?, World.frozen?, h]
theorem cell_new_l (W : World) (v : Value) (t : TypeId) : (W.alloc (.cells #[v] t)).cell? ⟨W.heap.size, 0, none⟩ = some v ∧ (W.alloc (.cells #[v] t)).frozen? ⟨W.heap.size, 0, none⟩ = false :=
  cell_of_box_l (World.alloc_heap_new W _)
theorem cell_alloc_l {W : World} {a : Addr} {v : Value} (o : Obj) (h : W.cell? a = some v) : (W.alloc o).cell? a = some v := cell_kept h (World.grownBy_alloc W o none) (fun r e => by cases e)
theorem frozen_alloc_l {W : World} {a : Addr} {v : Value} (o : Obj) (h : W.cell? a = some v) (hf : W.frozen? a = false) : (W.alloc o).frozen? a = false := (frozen_kept h (World.grownBy_alloc W o none) (fun r e => by cases e)).trans hf
theorem kp_set {n₀ Bs : Nat} {W : World} {b o : Nat} (hb : n₀ ≤ b) (hne : Bs ≠ b) (v : Value) : Kp n₀ Bs W (W.setCell ⟨b, o, none⟩ v) :=
  ⟨(Below.refl n₀ W).setCell (p := ⟨b, o, none⟩) hb _, fun cs t fr e => (Below.heap_setCell W ⟨b, o, none⟩ v Bs hne).trans e⟩

def rWord (xs : List Int) (e : Int) : List Int × Int × Int :=
  ((rTake xs e 4).1, (rTake xs e 4).2.1, wsum (back (rTake xs e 4).2.2 (rTake xs e 4).2.2.length))

theorem rTake_len (xs : List Int) (e : Int) (n : Nat) : (rTake xs e n).2.2.length ≤ n := by
  unfold rTake
  split
  · split
    · simp; omega
    · simp
  · simp
set_option maxRecDepth 100000 in
set_option maxHeartbeats 2000000 in
theorem word_in (F : Fence) (n : Nat) (hf : F.fn 69) (h32 : F.fn 65) (h34 : F.fn 74) (h37 : F.fn 75) (hro : F.round = none) (hn : 3 ≤ n) (P : Value) (w : World) (n₀ : Nat) (hn₀ : n₀ ≤ w.heap.size) (G : World → Prop) (ys : List Int) (hl4 : ys.length ≤ 4)
    (hT : CallsIn F (n - 1) Try.prog 65 #[P, .int .i64 4] (w.alloc (.cells #[.int .u32 0] 43)) fun z w' => (∃ A c, z = .returned (.slice A ys.length c) ∧ Bytes n₀ w' (.slice A ys.length c) ys) ∧ G w' ∧ w.heap.size < w'.heap.size ∧ w'.heap[w.heap.size]? = some (.cells #[.int .u32 0] 43 (0, 0))) :
    CallsIn F n Try.prog 69 #[P] w fun e W' => e = .returned (.int .u32 (wsum (back ys ys.length))) ∧ ∃ w1, G w1 ∧ w.heap.size < w1.heap.size ∧ Below n₀ w1 W' := by
  have h1 : 1 ≤ n := by omega
  refine callsIn_of_wp_marks Try.func69 rfl hf ?_ hro
  simp only [Try.ntmps69, List.size_toArray, List.length_cons, List.length_nil, Nat.reduceAdd, Nat.reduceSub, Array.replicate_succ, Array.replicate_zero, List.push_toArray, List.append_toArray, List.nil_append, List.cons_append]
  gi_wp2_with (first
    | (gi_at_call 65; refine hT.mono ?_; rintro z w1 ⟨⟨A, c, rfl, hBy⟩, hG, hsz, hbx⟩; have HG := Aside0.mk hG; have HY := Aside0.mk hBy; have HX := Aside0.mk hbx; have HS := Aside0.mk hsz; clear hG hBy hbx hsz)
    | (gi_at_call 74; refine (backward_in F (n - 1) h34 hro _ _ _ _).mono ?_; rintro e w' ⟨rfl, rfl⟩))
  have hsz : w.heap.size < w1.heap.size := HS.out
  have c0 : w1.cell? ⟨w.heap.size, 0, none⟩ = some (.int .u32 0) ∧ w1.frozen? ⟨w.heap.size, 0, none⟩ = false := cell_of_box_l HX.out
  have hB0 : Below n₀ w1 (w1.alloc (.cells #[.slice A ys.length c] 30)) := (Below.refl n₀ w1).alloc (by omega) _
  have hbox : (w1.alloc (.cells #[.slice A ys.length c] 30)).heap[w1.heap.size]? = some (.cells #[.slice A ys.length c] 30 (0, 0)) := World.alloc_heap_new w1 _
  refine wpIn_rangeFunc_ownF hro h1 (gf := 75) (lb := #[.pointer (some ⟨w1.heap.size, 0, none⟩)]) rfl h37 (enters_of Try.func75 (by kernel_rfl) rfl)
    (back_stops F (n - 1) h37 hro (by omega) w1.heap.size n₀ (.slice A ys.length c) ys (by omega) _ (by simp; omega) hbox (HY.out.below hB0)) kp_t (kp_b (by simp; omega)) (Below.refl _ _) (fun _ => rfl)
    (fun pre W => (W.cell? ⟨w.heap.size, 0, none⟩ = some (.int .u32 (wsum pre)) ∧ W.frozen? ⟨w.heap.size, 0, none⟩ = false) ∧ Below n₀ w1 W)
    (fun _ _ _ => False)
    (OwnFrom.and (Own.from (fun s A B row hs hg hr => ⟨cell_kept hs.1 hg hr, (frozen_kept hs.1 hg hr).trans hs.2⟩) _) (ownFrom_below (by omega) (by simp; omega)))
    (fun _ _ _ _ _ hs _ _ => hs)
    ⟨⟨cell_alloc_l _ c0.1, frozen_alloc_l _ c0.1 c0.2⟩, hB0⟩
    (fun x => { tmps := #[P, undef, .int .u32 0, .pointer (some ⟨w.heap.size, 0, none⟩), undef, .int .u8 x.2, P, .slice A ys.length c, .func (.func 75) #[] #[.pointer (some ⟨w1.heap.size, 0, none⟩)], .int .i64 (x.1 : Int), .int .u8 x.2, undef, undef, undef, undef, undef, undef], defers := [] }) ?assign ?body ?done ?stop
  case assign =>
    intro l x W K hK
    simp only [enc2]
    gi_wp2
    exact hK
  case body =>
    rintro l pre x W ⟨⟨hc, hf⟩, hB⟩ _
    gi_wp2
    have e := wsum_snoc pre x
    exact ⟨KeepsOthers.setCell _ _ _, kp_set (by omega) (by omega) _, ⟨(World.cell?_setCell_same' _ _ _ (by rw [hc]; rfl)).trans (by rw [e]), by rw [World.frozen?_setCell]; exact hf⟩, hB.setCell (p := ⟨w.heap.size, 0, none⟩) hn₀ _⟩
  case done =>
    rintro D ys' W hD rfl ⟨⟨hc, _⟩, hB⟩ hK
    gi_wp2
    refine ⟨by simp, .inl ⟨_, _, rfl, run_takeDeferred hK, ?_⟩⟩
    exact ⟨_, results_tmp rfl _ _ _, rfl, _, HG.out, hsz, hB.trans (belowK_b (w := w1) (by omega) W D _ _ (by simp at hD; omega) hK rfl rfl)⟩
  case stop =>
    rintro D c pre W _ _ h _
    exact h.elim
theorem C_bytes {B : Nat} {w : World} {A : Option Addr} {c : Nat} {l : List Int} (h : Kd.C (Kd.int .u8) w A l.length l) (hB : ∀ ad, A = some ad → 0 < l.length → ad.block < B) : Bytes B w (.slice A l.length c) l := by
  rcases bytes_of_C (c := c) h with ⟨a, c', h1, rfl⟩ | ⟨b, off, cap, e, h0, hb, hc⟩
  · exact .inl ⟨a, c', h1, rfl⟩
  · injection e with e1 e2 e3
    exact .inr ⟨b, off, cap, by rw [e1, e3], h0, hB _ e1 h0, hc⟩
theorem wordR {B : Nat} (g : Nat) (xs : List Int) (e : Int) (w : World) (h : Rd B w g xs e) (hB : B ≤ w.heap.size) :
    Calls Try.prog 69 #[.pointer (some ⟨g, 0, none⟩)] w fun z w' => z = .returned (.int .u32 (rWord xs e).2.2) ∧ Rd B w' g (rWord xs e).1 (rWord xs e).2.1 ∧ Turn w w' g := by
  have hg : g < B := by obtain ⟨A, c, h1, h2, h3, h4, h5⟩ := h; exact h5
  have hb := (Below.refl w.heap.size w).alloc (Nat.le_refl _) (.cells #[.int .u32 0] 43)
  refine (callsIn_wide.1 (word_in Fence.wide 3 trivial trivial trivial trivial rfl (Nat.le_refl _) (.pointer (some ⟨g, 0, none⟩)) w w.heap.size (Nat.le_refl _) (fun w1 => Rd B w1 g (rTake xs e 4).1 (rTake xs e 4).2.1 ∧ Turn (w.alloc (.cells #[.int .u32 0] 43)) w1 g) (rTake xs e 4).2.2 (rTake_len _ _ _) ?_)).mono ?_
  · refine callsIn_wide.2 ((takeR (B := B) g xs e 4 _ (h.below (hb.mono hB))).mono ?_)
    rintro z w' ⟨⟨A, c, rfl, hc, hC, hf⟩, hR, hT⟩
    have hsz := hT.size
    rw [World.size_alloc] at hsz
    refine ⟨⟨A, c, rfl, C_bytes hC (fun ad ha hp => by have := (hf ad ha hp).2; omega)⟩, ⟨hR, hT⟩, by omega, ?_⟩
    rw [hT.block w.heap.size (by rw [World.size_alloc]; omega) (by omega)]
    exact World.alloc_heap_new w _
  · rintro z w' ⟨rfl, w1, ⟨hR, hT⟩, hsz, hb1⟩
    have hT2 : Turn w w1 g := (Turn.of_below g hb).trans hT
    exact ⟨rfl, hR.below (hb1.mono hB), hT2.under hb1⟩
end Go.Proofs.Ytkoimdgpicmakaa.Reader
namespace Go.Proofs.Ytkoimdgpicmakaa.Reader
open Go.RowKit Go.Shelf Go.Proofs.Ytkoimdgpicmakaa.Sep3 Go.Proofs.YtkoimdgpicmakaaW.PrintWords Go.Proofs.YtkoimdgpicmakaaW.PrintLast Go.Proofs.Ytkoimdgpicmakaa.Wm Go.Proofs.Ytkoimdgpicmakaa.PB Go.Proofs.Ytkoimdgpicmakaa.Back
set_option linter.unusedVariables false
set_option linter.unusedSimpArgs false

theorem R_turn {α : Type} {d : Kd α} {e base g : Nat} {w w' : World} {v : Value} {xs : List α} (h : Kd.R d e w base (fun _ => True) v xs) (t : Turn w w' g) (hg : g < base) : Kd.R d e w' base (fun _ => True) v xs :=
  Kd.R_mono (Kd.R_step (Kd.R_bound h) (fun k hk hlt => t.block k hlt (by have := hk.2.1; omega))) (fun _ _ => trivial)
theorem vr_err {xs : List Int} {most : Int} : ∀ {k i : Nat} {nv : Int} {j : Option Nat} {e r : Int}, vr xs most k i nv = (j, e, r) → e ≠ 0 → r = 0
  | 0, i, nv, j, e, r, h, _ => by simp only [vr] at h; injection h with h1 h2; injection h2 with h2 h3; omega
  | k + 1, i, nv, j, e, r, h, he => by
    simp only [vr] at h
    cases hx : xs[i]? with
    | none => rw [hx] at h; simp at h; omega
    | some b =>
      rw [hx] at h
      simp only at h
      split at h
      · exact vr_err h he
      · split at h
        · split at h
          · injection h with h1 h2; injection h2 with h2 h3; omega
          · injection h with h1 h2; injection h2 with h2 h3; omega
        · injection h with h1 h2; injection h2 with h2 h3; omega
theorem rVar_err {xs : List Int} {e most : Int} (h : (rVar xs e most).2.1 ≠ 0) : (rVar xs e most).2.2 = 0 := by
  unfold rVar at h ⊢
  split
  · rename_i he
    rw [if_pos he] at h
    rcases hv : vr xs most 5 0 0 with ⟨j, e', r⟩
    rw [hv] at h
    cases j with
    | none => exact vr_err hv h
    | some j => exact vr_err hv h
  · rfl
theorem rVar_len (xs : List Int) (e most : Int) : (rVar xs e most).1.length ≤ xs.length := by
  unfold rVar
  split
  · rcases hv : vr xs most 5 0 0 with ⟨j, e', r⟩
    cases j <;> simp
  · exact Nat.le_refl _
/-- The words that so many calls of Word tell. -/
def wordsK (xs : List Int) (e : Int) : Nat → List Int × Int × List Int
  | 0 => (xs, e, [])
  | k + 1 => ((rWord (wordsK xs e k).1 (wordsK xs e k).2.1).1, (rWord (wordsK xs e k).1 (wordsK xs e k).2.1).2.1, (wordsK xs e k).2.2 ++ [(rWord (wordsK xs e k).1 (wordsK xs e k).2.1).2.2])
theorem wordsK_len (xs : List Int) (e : Int) (k : Nat) : (wordsK xs e k).2.2.length = k := by induction k <;> simp_all [wordsK]
/-- What reading words does. -/
def rWords (xs : List Int) (e most : Int) : List Int × Int × List Int :=
  if (rVar xs e (atM most)).2.1 = 0 ∧ (rVar xs e (atM most)).1.length / 4 < (rVar xs e (atM most)).2.2.toNat then ([], 3, [])
  else wordsK (rVar xs e (atM most)).1 (rVar xs e (atM most)).2.1 (rVar xs e (atM most)).2.2.toNat
theorem info22 : (Try.prog.info? 43).map (fun i => (i.zero, i.size, i.bytes)) = some (some (.int .u32 0), 1, 4) := by kernel_rfl
set_option maxHeartbeats 2000000 in
theorem words_cut {B : Nat} (g : Nat) (xs : List Int) (e most : Int) (w : World) (h : Rd B w g xs e) (hB : B ≤ w.heap.size) (h1 : (rVar xs e (atM most)).2.1 = 0) (h2 : (rVar xs e (atM most)).1.length / 4 < (rVar xs e (atM most)).2.2.toNat) :
    Calls Try.prog 45 #[.pointer (some ⟨g, 0, none⟩), .int .i64 most] w fun z w' => z = .returned (.slice none 0 0) ∧ Rd B w' g [] 3 ∧ Turn w w' g := by
  obtain ⟨n, hn⟩ : ∃ n : Nat, ((rVar xs e (atM most)).2.2 = (n : Int)) := ⟨_, (Int.toNat_of_nonneg (rVar_bd _ _ _).1).symm⟩
  have hb : n < 4294967296 := by have := (rVar_bd xs e (atM most)).2; omega
  rw [hn] at h2
  simp only [Int.toNat_natCast] at h2
  obtain ⟨ys, hys⟩ : ∃ ys, (rVar xs e (atM most)).1 = ys := ⟨_, rfl⟩
  rw [hys] at h2
  have hlt : (ys.length : Int) / 4 < n := by omega
  have HN := Aside0.mk hn
  have HE := Aside0.mk h1
  have HY := Aside0.mk hys
  have HD := Aside0.mk h
  have HB := Aside0.mk hB
  clear hn h hB h1 hys h2
  go_enter Try.func45, Try.ntmps45
  go_wp2_with (first
    | (go_at_call 66; refine (wire_atMost.calls most _ _ rfl).mono ?_; rintro z w1 ⟨rfl, hb1⟩; have B1 := Aside0.mk hb1; clear hb1)
    | (go_at_call 43; refine (varR (B := B) g xs e (atM most) _ (HD.out.below (B1.out.mono HB.out))).mono ?_; rw [HN.out, HE.out, HY.out]; rintro z w2 ⟨rfl, hR, hT⟩; have R2 := Aside0.mk hR; have T2 := Aside0.mk ((Turn.of_below g B1.out).trans hT); obtain ⟨A2, c2, hA2, _, _, _, _⟩ := hR; have k0 := hA2.c0; have k1 := hA2.c1; have k2 := hA2.f 0; clear hA2 hT)
    | (go_at_call 67; refine (upR (B := B) g _ _ _ R2.out).mono ?_; rintro z w3 ⟨rfl, rfl⟩)
    | (go_at_call 68; refine (stopR (B := B) g _ _ _ _ R2.out).mono ?_; rintro z w4 ⟨rfl, hR, hT⟩; have R4 := Aside0.mk hR; have T4 := Aside0.mk (T2.out.trans hT); clear hR hT))
  go_ret
  exact ⟨rfl, R4.out, T4.out⟩
set_option maxHeartbeats 2000000 in
theorem words_go {B : Nat} (g : Nat) (xs : List Int) (e most : Int) (w : World) (h : Rd B w g xs e) (hB : B ≤ w.heap.size) (n : Nat) (hn : (rVar xs e (atM most)).2.2 = (n : Int)) (hb : n * 4 ≤ 140737488351232)
    (b2 : Bool) (h1 : ((rVar xs e (atM most)).2.1 == 0) = b2) (h2 : b2 = true → ((rVar xs e (atM most)).1.length : Int) / 4 < n → False) (e2 : Int) (he2 : (rVar xs e (atM most)).2.1 = e2) (h3 : (e2 == 0) = b2) :
    Calls Try.prog 45 #[.pointer (some ⟨g, 0, none⟩), .int .i64 most] w fun z w' => (∃ v, z = .returned v ∧ Kd.R (Kd.int .u32) 43 w' w.heap.size (fun _ => True) v (wordsK (rVar xs e (atM most)).1 e2 n).2.2) ∧
      Rd B w' g (wordsK (rVar xs e (atM most)).1 e2 n).1 (wordsK (rVar xs e (atM most)).1 e2 n).2.1 ∧ Turn w w' g := by
  obtain ⟨ys, hys⟩ : ∃ ys, (rVar xs e (atM most)).1 = ys := ⟨_, rfl⟩
  rw [hys] at h2 ⊢
  have hg : g < w.heap.size := by obtain ⟨A, c, h1, h2, h3, h4, h5⟩ := h; omega
  have hyl : ys.length ≤ 9223372036854775807 := by have := rVar_len xs e (atM most); have := h.len; rw [hys] at *; omega
  have HN := Aside0.mk hn
  have HE := Aside0.mk he2
  have HY := Aside0.mk hys
  have HD := Aside0.mk h
  have HB := Aside0.mk hB
  have HG := Aside0.mk hg
  clear hn h hB h1 hys he2 hg
  cases b2 with
  | true =>
    obtain ⟨z2, hz2⟩ : ∃ z : Int, z = e2 := ⟨_, rfl⟩
    obtain rfl : e2 = 0 := by simpa using h3
    clear hz2 z2
    have h4 := h2 rfl
    have h5 : decide ((ys.length : Int) / 4 < (n : Int)) = false := decide_eq_false h4
    clear h2 h4
    go_enter Try.func45, Try.ntmps45
    go_wp2_with (first
      | (go_at_call 66; refine (wire_atMost.calls most _ _ rfl).mono ?_; rintro z w1 ⟨rfl, hb1⟩; have B1 := Aside0.mk hb1; clear hb1)
      | (go_at_call 43; refine (varR (B := B) g xs e (atM most) _ (HD.out.below (B1.out.mono HB.out))).mono ?_; rw [HN.out, HE.out, HY.out]; rintro z w2 ⟨rfl, hR, hT⟩; have R2 := Aside0.mk hR; have T2 := Aside0.mk ((Turn.of_below g B1.out).trans hT); obtain ⟨A2, c2, hA2, _, _, _, _⟩ := hR; have k0 := hA2.c0; have k1 := hA2.c1; have k2 := hA2.f 0; clear hA2 hT)
      | (go_at_call 67; refine (upR (B := B) g _ _ _ R2.out).mono ?_; rintro z w3 ⟨rfl, rfl⟩))
    go_loopw [6, 27] (fun v6 v27 wr => ∃ k : Nat, k ≤ n ∧ v27 = .int .i64 k ∧ Aside0 (Kd.R (Kd.int .u32) 43 wr w.heap.size (fun _ => True) v6 (wordsK ys 0 k).2.2) ∧ Aside0 (Rd B wr g (wordsK ys 0 k).1 (wordsK ys 0 k).2.1) ∧ Aside0 (Turn w wr g)) (fun _ v27 _ => n - (intOf v27).toNat)
    case atStart => exact ⟨0, Nat.zero_le _, rfl, ⟨Kd.R_nil _ _ _ _ _⟩, R2, T2⟩
    case round =>
      obtain ⟨k, hk, rfl, HO, HR, HT⟩ := hrel
      clear R2 T2
      by_cases hkn : k < n
      · have hkd : decide (k < n) = true := decide_eq_true hkn
        have hki : decide ((k : Int) < (n : Int)) = true := decide_eq_true (by omega)
        have HL := Aside0.mk (wordsK_len ys 0 k)
        obtain ⟨v, hv⟩ : ∃ v, (rWord (wordsK ys 0 k).1 (wordsK ys 0 k).2.1).2.2 = v := ⟨_, rfl⟩
        have HV := Aside0.mk hv
        clear hv
        go_wp2_with (first
          | (go_at_call 69; refine (wordR (B := B) g _ _ _ HR.out (Nat.le_trans HB.out HT.out.size)).mono ?_; rw [HV.out]; rintro z w5 ⟨rfl, hR, hT⟩; have n0_ := Aside0.mk hR; have n1_ := Aside0.mk (HT.out.trans hT); have n2_ := Aside0.mk (R_turn HO.out hT HG.out); clear HR HT HO hR hT; have HR := n0_; have HT := n1_; have HO := n2_; clear n0_ n1_ n2_)
          | ((with_reducible refine gate_builtin (b := .append) (xs := #[.tmp 29, .tmp 32]) rfl ?_); at_builtin; refine Kd.R_append (Kd.int .u32) (w0 := w5) w.heap.size rfl (.tmp 29) (.tmp 32) 23 43 (.int .u32 0) 4 rfl Try.underlying23 info22 rfl (by decide) (by omega) u6 (wordsK ys 0 k).2.2 v [.int .u32 v] (fun _ => True) (fun _ => False) rfl rfl ?aP (fun _ hk => hk.elim) ?aF ?aO ?aB ?aS ?aL ?_; (case aP => exact rfl); (case aB => exact Below.refl _ _); (case aF => exact (fun _ _ => trivial)); (case aO => exact HO.out); (case aS => exact HT.out.size); (case aL => have := HL.out; omega); intro v7 w7 ho hb hg hat; have n0_ := Aside0.mk ho; have n1_ := Aside0.mk (HR.out.below (hb.mono HB.out)); have n2_ := Aside0.mk (HT.out.under hb); clear HO HR HT ho hb hg hat; have HO := n0_; have HR := n1_; have HT := n2_; clear n0_ n1_ n2_))
        go_roundw
        case rel => exact ⟨k + 1, by omega, by go_num, ⟨by rw [wordsK, HV.out]; exact HO.out⟩, ⟨by rw [wordsK]; exact HR.out⟩, HT⟩
        case measure => simp [intOf]; omega
      · obtain rfl : k = n := by omega
        go_wp2
        go_ret
        exact ⟨⟨_, rfl, HO.out⟩, HR.out, HT.out⟩
  | false =>
    clear h2
    go_enter Try.func45, Try.ntmps45
    go_wp2_with (first
      | (go_at_call 66; refine (wire_atMost.calls most _ _ rfl).mono ?_; rintro z w1 ⟨rfl, hb1⟩; have B1 := Aside0.mk hb1; clear hb1)
      | (go_at_call 43; refine (varR (B := B) g xs e (atM most) _ (HD.out.below (B1.out.mono HB.out))).mono ?_; rw [HN.out, HE.out, HY.out]; rintro z w2 ⟨rfl, hR, hT⟩; have R2 := Aside0.mk hR; have T2 := Aside0.mk ((Turn.of_below g B1.out).trans hT); clear hR hT)
      | (go_at_call 67; refine (upR (B := B) g _ _ _ R2.out).mono ?_; rw [h3]; rintro z w3 ⟨rfl, rfl⟩))
    go_loopw [6, 27] (fun v6 v27 wr => ∃ k : Nat, k ≤ n ∧ v27 = .int .i64 k ∧ Aside0 (Kd.R (Kd.int .u32) 43 wr w.heap.size (fun _ => True) v6 (wordsK ys e2 k).2.2) ∧ Aside0 (Rd B wr g (wordsK ys e2 k).1 (wordsK ys e2 k).2.1) ∧ Aside0 (Turn w wr g)) (fun _ v27 _ => n - (intOf v27).toNat)
    case atStart => exact ⟨0, Nat.zero_le _, rfl, ⟨Kd.R_nil _ _ _ _ _⟩, R2, T2⟩
    case round =>
      obtain ⟨k, hk, rfl, HO, HR, HT⟩ := hrel
      clear R2 T2
      by_cases hkn : k < n
      · have hkd : decide (k < n) = true := decide_eq_true hkn
        have hki : decide ((k : Int) < (n : Int)) = true := decide_eq_true (by omega)
        have HL := Aside0.mk (wordsK_len ys e2 k)
        obtain ⟨v, hv⟩ : ∃ v, (rWord (wordsK ys e2 k).1 (wordsK ys e2 k).2.1).2.2 = v := ⟨_, rfl⟩
        have HV := Aside0.mk hv
        clear hv
        go_wp2_with (first
          | (go_at_call 69; refine (wordR (B := B) g _ _ _ HR.out (Nat.le_trans HB.out HT.out.size)).mono ?_; rw [HV.out]; rintro z w5 ⟨rfl, hR, hT⟩; have n0_ := Aside0.mk hR; have n1_ := Aside0.mk (HT.out.trans hT); have n2_ := Aside0.mk (R_turn HO.out hT HG.out); clear HR HT HO hR hT; have HR := n0_; have HT := n1_; have HO := n2_; clear n0_ n1_ n2_)
          | ((with_reducible refine gate_builtin (b := .append) (xs := #[.tmp 29, .tmp 32]) rfl ?_); at_builtin; refine Kd.R_append (Kd.int .u32) (w0 := w5) w.heap.size rfl (.tmp 29) (.tmp 32) 23 43 (.int .u32 0) 4 rfl Try.underlying23 info22 rfl (by decide) (by omega) u6 (wordsK ys e2 k).2.2 v [.int .u32 v] (fun _ => True) (fun _ => False) rfl rfl ?aP (fun _ hk => hk.elim) ?aF ?aO ?aB ?aS ?aL ?_; (case aP => exact rfl); (case aB => exact Below.refl _ _); (case aF => exact (fun _ _ => trivial)); (case aO => exact HO.out); (case aS => exact HT.out.size); (case aL => have := HL.out; omega); intro v7 w7 ho hb hg hat; have n0_ := Aside0.mk ho; have n1_ := Aside0.mk (HR.out.below (hb.mono HB.out)); have n2_ := Aside0.mk (HT.out.under hb); clear HO HR HT ho hb hg hat; have HO := n0_; have HR := n1_; have HT := n2_; clear n0_ n1_ n2_))
        go_roundw
        case rel => exact ⟨k + 1, by omega, by go_num, ⟨by rw [wordsK, HV.out]; exact HO.out⟩, ⟨by rw [wordsK]; exact HR.out⟩, HT⟩
        case measure => simp [intOf]; omega
      · obtain rfl : k = n := by omega
        go_wp2
        go_ret
        exact ⟨⟨_, rfl, HO.out⟩, HR.out, HT.out⟩
theorem wordsR {B : Nat} (g : Nat) (xs : List Int) (e most : Int) (w : World) (h : Rd B w g xs e) (hB : B ≤ w.heap.size) (hx : xs.length ≤ 140737488351232) :
    Calls Try.prog 45 #[.pointer (some ⟨g, 0, none⟩), .int .i64 most] w fun z w' => (∃ v, z = .returned v ∧ Kd.R (Kd.int .u32) 43 w' w.heap.size (fun _ => True) v (rWords xs e most).2.2) ∧
      Rd B w' g (rWords xs e most).1 (rWords xs e most).2.1 ∧ Turn w w' g := by
  have hl := rVar_len xs e (atM most)
  have hbd := rVar_bd xs e (atM most)
  have hn : (rVar xs e (atM most)).2.2 = (((rVar xs e (atM most)).2.2.toNat : Nat) : Int) := (Int.toNat_of_nonneg hbd.1).symm
  by_cases h1 : (rVar xs e (atM most)).2.1 = 0 ∧ (rVar xs e (atM most)).1.length / 4 < (rVar xs e (atM most)).2.2.toNat
  · refine (words_cut g xs e most w h hB h1.1 h1.2).mono ?_
    rintro z w' ⟨rfl, hR, hT⟩
    unfold rWords
    rw [if_pos h1]
    exact ⟨⟨_, rfl, Kd.R_nil _ _ _ _ _⟩, hR, hT⟩
  · have hb : (rVar xs e (atM most)).2.2.toNat * 4 ≤ 140737488351232 := by
      by_cases he : (rVar xs e (atM most)).2.1 = 0
      · have : ¬ _ := fun q => h1 ⟨he, q⟩
        omega
      · rw [rVar_err he]; simp
    refine (words_go g xs e most w h hB _ hn hb _ rfl (fun q1 q2 => h1 ⟨by simpa using q1, by omega⟩) _ rfl rfl).mono ?_
    rintro z w' ⟨hv, hR, hT⟩
    unfold rWords
    rw [if_neg h1]
    exact ⟨hv, hR, hT⟩
theorem words_nil (most : Int) (w : World) : Calls Try.prog 45 #[.pointer none, .int .i64 most] w fun z w' => z = .returned (.slice none 0 0) ∧ Below w.heap.size w w' := by
  go_enter Try.func45, Try.ntmps45
  go_wp2_with (first
    | (go_at_call 66; refine (wire_atMost.calls most _ _ rfl).mono ?_; rintro z w1 ⟨rfl, hb1⟩; have B1 := Aside0.mk hb1; clear hb1)
    | (go_at_call 43; refine (var_nil _ _).mono ?_; rintro z w2 ⟨rfl, rfl⟩)
    | (go_at_call 67; refine (up_nil _).mono ?_; rintro z w3 ⟨rfl, rfl⟩))
  go_loopw [6, 27] (fun v6 v27 wr => v6 = .slice none 0 0 ∧ v27 = .int .i64 0 ∧ Aside0 (Below w.heap.size w wr)) (fun _ _ _ => 0)
  case atStart => exact ⟨rfl, rfl, B1⟩
  case round =>
    obtain ⟨rfl, rfl, HB⟩ := hrel
    go_wp2
    go_ret
    exact ⟨rfl, HB.out⟩
theorem word_nil (w : World) : Calls Try.prog 69 #[.pointer none] w fun z w' => z = .returned (.int .u32 0) ∧ Below w.heap.size w w' := by
  refine (callsIn_wide.1 (word_in Fence.wide 3 trivial trivial trivial trivial rfl (Nat.le_refl _) (.pointer none) w w.heap.size (Nat.le_refl _) (fun w1 => w1 = w.alloc (.cells #[.int .u32 0] 43)) [] (by simp) ?_)).mono ?_
  · refine callsIn_wide.2 ((take_nil 4 _).mono ?_)
    rintro z w' ⟨rfl, rfl⟩
    refine ⟨⟨none, 0, rfl, .inl ⟨_, _, rfl, rfl⟩⟩, rfl, by rw [World.size_alloc]; omega, World.alloc_heap_new w _⟩
  · rintro z w' ⟨rfl, w1, rfl, _, hb⟩
    exact ⟨rfl, ((Below.refl _ w).alloc (Nat.le_refl _) _).trans hb⟩
end Go.Proofs.Ytkoimdgpicmakaa.Reader
