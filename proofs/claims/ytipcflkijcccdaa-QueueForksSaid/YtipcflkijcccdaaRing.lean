/- The queue as a list of what waits. -/
import Derived.Test.YtipcflkijcccdaaQ4
namespace Go.Proofs.Ytipcflkijcccdaa.Qu
open Go.RowKit Go.Proofs.Ytipcflkijcccdaa.Sep Go.Proofs.YtipcflkijcccdaaW.PrintWords Go.Proofs.YtipcflkijcccdaaW.PrintLast Go.Proofs.YtipcflkijcccdaaW.PrintMore Go.Proofs.Ytipcflkijcccdaa.X
set_option linter.unusedVariables false
set_option linter.unusedSimpArgs false

structure It where
  num : Int
  kind : Int
  name : ByteArray
  obj : List Int

/-- A place of the ring holds an item, whose bytes lie in D. -/
def Holds (W : World) (D : Nat → Prop) (x : Slot) (p : It) : Prop :=
  ∃ A c, x = ⟨p.num, p.kind, p.name, A, p.obj.length, c⟩ ∧ (Row A p.obj).pred W ∧ p.obj.length ≤ c ∧ p.obj.length < 140737488355328 ∧ ∀ b, (Row A p.obj).foot b → D b

structure Ring (W : World) (g : Nat) (m : Int) (L : List It) (D : Nat → Prop) : Prop where
  away : ∀ b, D b → b ≠ g ∧ b < W.heap.size
  lies : ∃ s k, k < 8 ∧ Lies W g s (k : Nat) (L.length : Nat) m ∧ L.length ≤ 8 ∧ ∀ j p, L[j]? = some p → Holds W D (s ((k + j) % 8)) p

theorem Holds.move {W W' : World} {D D' : Nat → Prop} {x : Slot} {p : It} (h : Holds W D x p) (hb : ∀ b, D b → W'.heap[b]? = W.heap[b]?) (hd : ∀ b, D b → D' b) : Holds W' D' x p := by
  obtain ⟨A, c, e, h1, h2, h3, h4⟩ := h
  exact ⟨A, c, e, (Row A p.obj).move (fun b hf => hb b (h4 b hf)) h1, h2, h3, fun b hf => hd b (h4 b hf)⟩
theorem Ring.lt {W : World} {g : Nat} {m : Int} {L : List It} {D : Nat → Prop} (h : Ring W g m L D) : g < W.heap.size := by
  obtain ⟨s, k, hk, hl, _⟩ := h.lies
  exact hl.lt
theorem Ring.move {W W' : World} {g : Nat} {m : Int} {L : List It} {D : Nat → Prop} (h : Ring W g m L D) (hb : ∀ b, b = g ∨ D b → W'.heap[b]? = W.heap[b]?) : Ring W' g m L D := by
  obtain ⟨s, k, hk, hl, h8, hh⟩ := h.lies
  refine ⟨fun b hd => ⟨(h.away b hd).1, ?_⟩, s, k, hk, hl.move (hb g (.inl rfl)), h8, fun j p hj => (hh j p hj).move (fun b hd => hb b (.inr hd)) (fun b hd => hd)⟩
  have h1 := hb b (.inr hd)
  have h2 := (h.away b hd).2
  rw [Array.getElem?_eq_getElem h2] at h1
  exact (Array.getElem?_eq_some_iff.1 h1).1
/-- The ring as an assertion. -/
def RingA (g : Nat) (m : Int) (L : List It) (D : Nat → Prop) : Asn where
  foot b := b = g ∨ D b
  pred W := Ring W g m L D
  move h hp := hp.move h
  lt hp b hb := by
    rcases hb with rfl | hb
    · exact hp.lt
    · exact (hp.away b hb).2
theorem Ring.new {w' : World} {g : Nat} (h : Lies w' g (fun _ => Slot.zero) (0 : Nat) (0 : Nat) 0) : Ring w' g 0 [] (fun _ => False) :=
  ⟨fun b hb => hb.elim, _, 0, by omega, h, by simp, fun j p hj => by simp at hj⟩

theorem ring_push (g : Nat) (m : Int) (L : List It) (D : Nat → Prop) (kind : Int) (name : ByteArray) (A : Option Addr) (c : Nat) (o : List Int) (w : World) (h : Ring w g m L D) (hm0 : 0 ≤ m) (hm1 : m < 4611686018427387904) (hC : (Row A o).pred w) (hA : ∀ k, (Row A o).foot k → k ≠ g) (hc : o.length ≤ c) (hm : o.length < 140737488355328) :
    Calls Try.prog 11 #[.pointer (some ⟨g, 0, none⟩), .agg #[.int .u8 kind, .string name, .slice A o.length c]] w fun z w' => z = .returned (.tuple #[.int .i64 m, .int .i64 (if L.length < 8 then 0 else 31)]) ∧
      Ring w' g (m + 1) (if L.length < 8 then L ++ [⟨m, kind, name, o⟩] else L) (fun b => D b ∨ (w.heap.size ≤ b ∧ b < w'.heap.size)) ∧ Turn w w' g := by
  obtain ⟨s, k, hk, hl, h8, hh⟩ := h.lies
  have hg := h.lt
  by_cases hf : L.length < 8
  · refine (push_ok g s k L.length m kind name A c o w hl hk hf hm0 hm1 hC hA hc hm).mono ?_
    rintro z w' ⟨A', c', rfl, hc', hR, hn, hl', hT⟩
    rw [if_pos hf, if_pos hf]
    refine ⟨rfl, ⟨fun b hb => ?_, (fun i => if i = (k + L.length) % 8 then ⟨m, kind, name, A', o.length, c'⟩ else s i), k, hk, ?_, ?_, fun j p hj => ?_⟩, hT⟩
    · rcases hb with hb | hb
      · exact ⟨(h.away b hb).1, Nat.lt_of_lt_of_le (h.away b hb).2 hT.size⟩
      · exact ⟨by omega, hb.2⟩
    · have : ((L ++ [(⟨m, kind, name, o⟩ : It)]).length : Nat) = L.length + 1 := by simp
      rw [this]
      exact hl'
    · simp; omega
    · by_cases hj' : j < L.length
      · rw [List.getElem?_append_left hj'] at hj
        simp only [if_neg (show (k + j) % 8 ≠ (k + L.length) % 8 by omega)]
        exact (hh j p hj).move (fun b hb => hT.block b (h.away b hb).2 (h.away b hb).1) (fun b hb => .inl hb)
      · rw [List.getElem?_append_right (by omega)] at hj
        have : j = L.length := by
          have := (List.getElem?_eq_some_iff.1 hj).1
          simp at this
          omega
        subst this
        simp at hj
        subst hj
        simp only [if_true]
        exact ⟨A', c', rfl, hR, hc', hm, fun b hb => .inr ⟨hn b hb, (Row A' o).lt hR b hb⟩⟩
  · have h8' : L.length = 8 := by omega
    rw [h8'] at hl
    refine (push_full g s k m kind name A c o w hl hm0 hm1).mono ?_
    rintro z w' ⟨rfl, hl', hT⟩
    rw [if_neg hf, if_neg hf]
    refine ⟨rfl, ⟨fun b hb => ?_, s, k, hk, by rw [h8']; exact hl', h8, fun j p hj => ?_⟩, hT⟩
    · rcases hb with hb | hb
      · exact ⟨(h.away b hb).1, Nat.lt_of_lt_of_le (h.away b hb).2 hT.size⟩
      · exact ⟨by omega, hb.2⟩
    · exact (hh j p hj).move (fun b hb => hT.block b (h.away b hb).2 (h.away b hb).1) (fun b hb => .inl hb)

theorem ring_pop (g : Nat) (m : Int) (p : It) (L : List It) (D : Nat → Prop) (w : World) (h : Ring w g m (p :: L) D) :
    Calls Try.prog 12 #[.pointer (some ⟨g, 0, none⟩)] w fun z w' => ∃ A c, z = .returned (.tuple #[.agg #[.int .i64 p.num, .int .u8 p.kind, .string p.name, .slice A p.obj.length c], .bool true]) ∧ p.obj.length ≤ c ∧ (Row A p.obj).pred w' ∧ (∀ k, (RowW A c p.obj).foot k → w.heap.size ≤ k) ∧
      (RowW A c p.obj).pred w' ∧ Ring w' g m L D ∧ Turn w w' g := by
  obtain ⟨s, k, hk, hl, h8, hh⟩ := h.lies
  obtain ⟨A, c, hx, hR, hc, hm, hd⟩ := hh 0 p rfl
  rw [Nat.add_zero, Nat.mod_eq_of_lt hk] at hx
  refine (pop_some g s k _ m p.num p.kind p.name A c p.obj w hl hk (by simp; omega) hx hR (fun b hb => (h.away b (hd b hb)).1) hc hm (by simp at h8 ⊢; omega)).mono ?_
  rintro z w' ⟨A', c', rfl, hc', hR', hn, hb, hl', hT⟩
  refine ⟨A', c', rfl, hc', hR', hn, hb, ⟨fun b hb => ⟨(h.away b hb).1, Nat.lt_of_lt_of_le (h.away b hb).2 hT.size⟩, (fun i => if i = k then Slot.zero else s i), (k + 1) % 8, by omega, ?_, by simp at h8; omega, fun j q hj => ?_⟩, hT⟩
  · have e1 : ((((k + 1) % 8 : Nat)) : Int) = ((k : Int) + 1) % 8 := by omega
    have e2 : ((L.length : Nat) : Int) = (((p :: L).length : Nat) : Int) - 1 := by simp
    rw [e1, e2]
    exact hl'
  · have hj8 : j + 1 < 8 := by
      have := (List.getElem?_eq_some_iff.1 hj).1
      simp at h8
      omega
    simp only [if_neg (show ((k + 1) % 8 + j) % 8 ≠ k by omega)]
    rw [show ((k + 1) % 8 + j) % 8 = (k + (j + 1)) % 8 by omega]
    exact (hh (j + 1) q hj).move (fun b hb => hT.block b (h.away b hb).2 (h.away b hb).1) (fun b hb => hb)
theorem ring_pop0 (g : Nat) (m : Int) (D : Nat → Prop) (w : World) (h : Ring w g m [] D) :
    Calls Try.prog 12 #[.pointer (some ⟨g, 0, none⟩)] w fun z w' => z = .returned (.tuple #[.agg #[.int .i64 0, .int .u8 0, .string ⟨#[]⟩, .slice none 0 0], .bool false]) ∧ Below w.heap.size w w' := by
  obtain ⟨s, k, hk, hl, h8, hh⟩ := h.lies
  exact pop_none g s k m w hl
theorem ring_peek (g : Nat) (m : Int) (p : It) (L : List It) (D : Nat → Prop) (w : World) (h : Ring w g m (p :: L) D) :
    Calls Try.prog 16 #[.pointer (some ⟨g, 0, none⟩)] w fun z w' => ∃ A c, z = .returned (.tuple #[.agg #[.int .i64 p.num, .int .u8 p.kind, .string p.name, .slice A p.obj.length c], .bool true]) ∧ p.obj.length ≤ c ∧ (Row A p.obj).pred w' ∧ (∀ k, (RowW A c p.obj).foot k → w.heap.size ≤ k) ∧
      (RowW A c p.obj).pred w' ∧ Below w.heap.size w w' := by
  obtain ⟨s, k, hk, hl, h8, hh⟩ := h.lies
  obtain ⟨A, c, hx, hR, hc, hm, hd⟩ := hh 0 p rfl
  rw [Nat.add_zero, Nat.mod_eq_of_lt hk] at hx
  exact peek_some g s k _ m p.num p.kind p.name A c p.obj w hl hk (by simp; omega) hx hR hc hm
theorem ring_peek0 (g : Nat) (m : Int) (D : Nat → Prop) (w : World) (h : Ring w g m [] D) :
    Calls Try.prog 16 #[.pointer (some ⟨g, 0, none⟩)] w fun z w' => z = .returned (.tuple #[.agg #[.int .i64 0, .int .u8 0, .string ⟨#[]⟩, .slice none 0 0], .bool false]) ∧ Below w.heap.size w w' := by
  obtain ⟨s, k, hk, hl, h8, hh⟩ := h.lies
  exact peek_none g s k m w hl
theorem ring_len (g : Nat) (m : Int) (L : List It) (D : Nat → Prop) (w : World) (h : Ring w g m L D) :
    Calls Try.prog 14 #[.pointer (some ⟨g, 0, none⟩)] w fun z w' => z = .returned (.int .i64 (L.length : Nat)) ∧ w' = w := by
  obtain ⟨s, k, hk, hl, h8, hh⟩ := h.lies
  exact len_calls g s k _ m w hl
theorem ring_came (g : Nat) (m : Int) (L : List It) (D : Nat → Prop) (w : World) (h : Ring w g m L D) :
    Calls Try.prog 13 #[.pointer (some ⟨g, 0, none⟩)] w fun z w' => z = .returned (.int .i64 m) ∧ w' = w := by
  obtain ⟨s, k, hk, hl, h8, hh⟩ := h.lies
  exact came_calls g s k _ m w hl
theorem St.ring {B : Nat} {w W W' : World} {pre post : List Asn} {g : Nat} {m m' : Int} {L L' : List It} {D D' : Nat → Prop} (h : St B w W (pre ++ RingA g m L D :: post)) (T : Turn W W' g) (hr : Ring W' g m' L' D') (hd : ∀ b, D' b → D b ∨ W.heap.size ≤ b) : St B w W' (pre ++ RingA g m' L' D' :: post) :=
  h.turn T.os T.tape T.output T.size (fun k h1 h2 => T.block k h1 (fun e => h2 (.inl e))) hr (fun k hk => by
    rcases hk with hk | hk
    · exact .inl (.inl hk)
    · rcases hd k hk with h1 | h1
      · exact .inl (.inr h1)
      · exact .inr h1)
theorem ring_conv {W : World} {g : Nat} {m m' : Int} {L L' : List It} {D : Nat → Prop} (h : Ring W g m L D) (hm : m = m') (hl : L = L') : Ring W g m' L' D := by
  subst hm hl
  exact h
theorem St.ringOf {B : Nat} {w W : World} {La : List Asn} {g : Nat} {m : Int} {L : List It} {D : Nat → Prop} (h : St B w W La) (hm : RingA g m L D ∈ La) : Ring W g m L D := h.holds _ hm
theorem RingA.mk {W : World} {g : Nat} {m : Int} {L : List It} {D : Nat → Prop} (h : Ring W g m L D) : (RingA g m L D).pred W := h
theorem RingA.at {P : Nat → Prop} {g : Nat} {m : Int} {L : List It} {D : Nat → Prop} (hg : P g) (hd : ∀ b, D b → P b) : ∀ k, (RingA g m L D).foot k → P k := by
  rintro k (rfl | h)
  · exact hg
  · exact hd k h
theorem RingA.foot_iff {g : Nat} {m : Int} {L : List It} {D : Nat → Prop} {k : Nat} : (RingA g m L D).foot k ↔ (k = g ∨ D k) := Iff.rfl
attribute [irreducible] RingA
theorem ring_push_ok (g : Nat) (m : Int) (L : List It) (D : Nat → Prop) (kind : Int) (name : ByteArray) (A : Option Addr) (c : Nat) (o : List Int) (w : World) (h : Ring w g m L D) (hf : L.length < 8) (hm0 : 0 ≤ m) (hm1 : m < 4611686018427387904) (hC : (Row A o).pred w) (hA : ∀ k, (Row A o).foot k → k ≠ g) (hc : o.length ≤ c) (hm : o.length < 140737488355328) :
    Calls Try.prog 11 #[.pointer (some ⟨g, 0, none⟩), .agg #[.int .u8 kind, .string name, .slice A o.length c]] w fun z w' => z = .returned (.tuple #[.int .i64 m, .int .i64 0]) ∧
      ∃ D', (∀ b, D' b → D b ∨ w.heap.size ≤ b) ∧ Ring w' g (m + 1) (L ++ [⟨m, kind, name, o⟩]) D' ∧ Turn w w' g := by
  refine (ring_push g m L D kind name A c o w h hm0 hm1 hC hA hc hm).mono ?_
  rintro z w' ⟨rfl, hR, hT⟩
  rw [if_pos hf] at hR ⊢
  exact ⟨rfl, _, fun b hb => hb.imp_right (fun h => h.1), hR, hT⟩
theorem ring_push_full (g : Nat) (m : Int) (L : List It) (D : Nat → Prop) (kind : Int) (name : ByteArray) (A : Option Addr) (c : Nat) (o : List Int) (w : World) (h : Ring w g m L D) (hf : ¬ L.length < 8) (hm0 : 0 ≤ m) (hm1 : m < 4611686018427387904) (hC : (Row A o).pred w) (hA : ∀ k, (Row A o).foot k → k ≠ g) (hc : o.length ≤ c) (hm : o.length < 140737488355328) :
    Calls Try.prog 11 #[.pointer (some ⟨g, 0, none⟩), .agg #[.int .u8 kind, .string name, .slice A o.length c]] w fun z w' => z = .returned (.tuple #[.int .i64 m, .int .i64 31]) ∧
      ∃ D', (∀ b, D' b → D b ∨ w.heap.size ≤ b) ∧ Ring w' g (m + 1) L D' ∧ Turn w w' g := by
  refine (ring_push g m L D kind name A c o w h hm0 hm1 hC hA hc hm).mono ?_
  rintro z w' ⟨rfl, hR, hT⟩
  rw [if_neg hf] at hR ⊢
  exact ⟨rfl, _, fun b hb => hb.imp_right (fun h => h.1), hR, hT⟩
theorem row_nil (w : World) : (Row none []).pred w := Kd.C_nil _ _
theorem row_nil_foot {P : Nat → Prop} : ∀ k, (Row none []).foot k → P k := by
  rintro k ⟨ad, h, _⟩
  cases h
theorem ring_push_nil (g : Nat) (m : Int) (L : List It) (D : Nat → Prop) (kind : Int) (name : ByteArray) (w : World) (h : Ring w g m L D) (hf : L.length < 8) (hm0 : 0 ≤ m) (hm1 : m < 4611686018427387904) :
    Calls Try.prog 11 #[.pointer (some ⟨g, 0, none⟩), .agg #[.int .u8 kind, .string name, .slice none 0 0]] w fun z w' => z = .returned (.tuple #[.int .i64 m, .int .i64 0]) ∧
      ∃ D', (∀ b, D' b → D b ∨ w.heap.size ≤ b) ∧ Ring w' g (m + 1) (L ++ [⟨m, kind, name, []⟩]) D' ∧ Turn w w' g :=
  ring_push_ok g m L D kind name none 0 [] w h hf hm0 hm1 (row_nil w) row_nil_foot (by simp) (by simp)
theorem ring_push_nil_full (g : Nat) (m : Int) (L : List It) (D : Nat → Prop) (kind : Int) (name : ByteArray) (w : World) (h : Ring w g m L D) (hf : ¬ L.length < 8) (hm0 : 0 ≤ m) (hm1 : m < 4611686018427387904) :
    Calls Try.prog 11 #[.pointer (some ⟨g, 0, none⟩), .agg #[.int .u8 kind, .string name, .slice none 0 0]] w fun z w' => z = .returned (.tuple #[.int .i64 m, .int .i64 31]) ∧
      ∃ D', (∀ b, D' b → D b ∨ w.heap.size ≤ b) ∧ Ring w' g (m + 1) L D' ∧ Turn w w' g :=
  ring_push_full g m L D kind name none 0 [] w h hf hm0 hm1 (row_nil w) row_nil_foot (by simp) (by simp)
end Go.Proofs.Ytipcflkijcccdaa.Qu
