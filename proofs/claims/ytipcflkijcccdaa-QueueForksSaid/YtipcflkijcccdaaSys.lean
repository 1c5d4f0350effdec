/- The queue, the document's queue and all that lay at the beginning, told as one. -/
import Derived.Test.YtipcflkijcccdaaAwake
import Derived.Test.YtipcflkijcccdaaEv
import Derived.Test.YtipcflkijcccdaaPBx1
namespace Go.Proofs.Ytipcflkijcccdaa.Sys
open Go.RowKit Go.Proofs.Ytipcflkijcccdaa.Sep Go.Proofs.YtipcflkijcccdaaW.PrintWords Go.Proofs.YtipcflkijcccdaaW.PrintLast Go.Proofs.YtipcflkijcccdaaW.PrintMore Go.Proofs.Ytipcflkijcccdaa.X Go.Proofs.Ytipcflkijcccdaa.Qu Go.Proofs.Ytipcflkijcccdaa.Ev Go.Proofs.Ytipcflkijcccdaa.PB
set_option linter.unusedVariables false
set_option linter.unusedSimpArgs false

def it (x : S57) : It := ⟨x.f0, x.f1.f0, x.f1.f1, x.f1.f2⟩
/-- The ring in block g and the list v of the document; their data lie in D. -/
structure Pair (W : World) (g : Nat) (m : Int) (L : List It) (v : Value) (R : List S57) (D : Nat → Prop) : Prop where
  ring : Ring W g m L D
  view : Kd.V k57 57 W 0 D v R
theorem Pair.move {W W' : World} {g : Nat} {m : Int} {L : List It} {v : Value} {R : List S57} {D : Nat → Prop} (h : Pair W g m L v R D) (hb : ∀ b, b = g ∨ D b → W'.heap[b]? = W.heap[b]?) : Pair W' g m L v R D :=
  ⟨h.ring.move hb, Kd.V_step h.view (fun k hk _ => hb k (.inr hk))⟩
def SysA (w : World) (D0 : Nat → Prop) (g : Nat) (m : Int) (L : List It) (v : Value) (R : List S57) (D : Nat → Prop) : Asn where
  foot k := k < w.heap.size ∨ D k
  pred W := g < w.heap.size ∧ (∀ k, k < w.heap.size → k ≠ g → W.heap[k]? = w.heap[k]?) ∧ Pair W g m L v R D ∧ ∀ b, D b → D0 b ∨ w.heap.size ≤ b
  move h hp := ⟨hp.1, fun k hk hg => (h k (.inl hk)).trans (hp.2.1 k hk hg), hp.2.2.1.move (fun b hb => h b (by rcases hb with e | hb; exact .inl (by rw [e]; exact hp.1); exact .inr hb)), hp.2.2.2⟩
  lt {W} hp k hk := by
    by_cases hg : k = g
    · subst hg
      exact hp.2.2.1.ring.lt
    · rcases hk with hk | hk
      · have h1 := hp.2.1 k hk hg
        rw [Array.getElem?_eq_getElem hk] at h1
        exact (Array.getElem?_eq_some_iff.1 h1).1
      · exact (hp.2.2.1.ring.away k hk).2
section
variable {B : Nat} {w w0 W W' : World} {g : Nat} {m m' : Int} {L L' : List It} {v v' : Value} {R R' : List S57} {D D' D0 : Nat → Prop} {La : List Asn} {F : Asn → List Asn}
theorem SysA.pair (h : (SysA w D0 g m L v R D).pred W) : Pair W g m L v R D := h.2.2.1
theorem SysA.grew (h : (SysA w D0 g m L v R D).pred W) : ∀ b, D b → D0 b ∨ w.heap.size ≤ b := h.2.2.2
theorem SysA.still (h : (SysA w D0 g m L v R D).pred W) : ∀ k, k < w.heap.size → k ≠ g → W.heap[k]? = w.heap[k]? := h.2.1
theorem SysA.gl (h : (SysA w D0 g m L v R D).pred W) : g < w.heap.size := h.1
theorem SysA.foot_iff {k : Nat} : (SysA w D0 g m L v R D).foot k ↔ (k < w.heap.size ∨ D k) := Iff.rfl
theorem SysA.mk (h1 : g < w.heap.size) (h2 : ∀ k, k < w.heap.size → k ≠ g → W.heap[k]? = w.heap[k]?) (h3 : Pair W g m L v R D) (h4 : ∀ b, D b → D0 b ∨ w.heap.size ≤ b) : (SysA w D0 g m L v R D).pred W := ⟨h1, h2, h3, h4⟩
theorem SysA.start (h : Pair w g m L v R D) : Aside0 (St 0 w w [SysA w D g m L v R D]) :=
  ⟨(St.start0 w).cons _ (SysA.mk h.ring.lt (fun _ _ _ => rfl) h (fun _ hb => .inl hb)) (fun _ _ => Nat.zero_le _) (fun b hb => by cases hb)⟩
theorem SysA.turn (S : Aside0 (St 0 w W La)) (hs : Spot La (SysA w D0 g m L v R D) F) : Turn w W g :=
  ⟨S.out.below.os, S.out.below.tape, S.out.below.output, S.out.below.size, SysA.still (pred_at S.out hs)⟩
attribute [irreducible] SysA
/-- A call that turns the ring or makes something new, and what it leaves of both. -/
theorem SysA.step (S : Aside0 (St 0 w W La)) (hs : Spot La (SysA w D0 g m L v R D) F) (T : Turn W W' g) (hp : Pair W' g m' L' v' R' D') (hd : ∀ b, D' b → D b ∨ W.heap.size ≤ b) : Aside0 (St 0 w W' (F (SysA w D0 g m' L' v' R' D'))) := by
  have h0 := pred_at S.out hs
  have hg := SysA.gl h0
  refine ⟨turn_at S.out hs T.os T.tape T.output T.size (fun k hk hn => T.block k hk (fun e => hn (SysA.foot_iff.2 (.inl (e ▸ hg))))) (SysA.mk hg (fun k hk hne => ?_) hp (fun b hb => ?_)) (fun k hk => ?_)⟩
  · exact (T.block k (Nat.lt_of_lt_of_le hk S.out.below.size) hne).trans (SysA.still h0 k hk hne)
  · rcases hd b hb with h | h
    · exact SysA.grew h0 b h
    · exact .inr (Nat.le_trans S.out.below.size h)
  · rcases SysA.foot_iff.1 hk with h | h
    · exact .inl (SysA.foot_iff.2 (.inl h))
    · exact (hd k h).imp_left (fun h => SysA.foot_iff.2 (.inr h))
/-- The same with a row made beside it. -/
theorem SysA.step2 {a : Asn} (S : Aside0 (St 0 w W La)) (hs : Spot La (SysA w D0 g m L v R D) F) (T : Turn W W' g) (hp : Pair W' g m' L' v' R' D) (ha : a.pred W') (hf : ∀ k, a.foot k → W.heap.size ≤ k) : Aside0 (St 0 w W' (a :: F (SysA w D0 g m' L' v' R' D))) := by
  have h0 := pred_at S.out hs
  obtain ⟨pre, post, e1, e2⟩ := hs.split
  refine ⟨(SysA.step S hs T hp (fun b hb => .inl hb)).out.cons a ha (fun k _ => Nat.zero_le k) (fun b hb k h1 h2 => ?_)⟩
  have h3 := hf k h1
  rw [e2] at hb
  have key : ∀ c, c ∈ La → c.foot k → False := fun c hc hk => by have := c.lt (S.out.holds c hc) k hk; omega
  rcases List.mem_append.1 hb with hb | hb
  · exact key b (e1 ▸ List.mem_append_left _ hb) h2
  · rcases List.mem_cons.1 hb with rfl | hb
    · exact key _ hs.mem (SysA.foot_iff.2 (SysA.foot_iff.1 h2))
    · exact key b (e1 ▸ List.mem_append_right _ (List.mem_cons_of_mem _ hb)) h2
/-- What a call leaves of both, all else being as it was. -/
def Done (w : World) (g : Nat) (m : Int) (L : List It) (v : Value) (R : List S57) (D : Nat → Prop) (w' : World) : Prop :=
  Turn w w' g ∧ ∃ D', (∀ b, D' b → D b ∨ w.heap.size ≤ b) ∧ Pair w' g m L v R D'
theorem SysA.done (S : Aside0 (St 0 w W La)) (hs : Spot La (SysA w D g m L v R D') F) : Done w g m L v R D W :=
  ⟨SysA.turn S hs, D', SysA.grew (pred_at S.out hs), SysA.pair (pred_at S.out hs)⟩
end
end Go.Proofs.Ytipcflkijcccdaa.Sys
