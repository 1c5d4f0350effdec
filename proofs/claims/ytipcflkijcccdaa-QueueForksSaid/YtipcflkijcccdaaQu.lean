/- The queue: its block as a ring of slots. -/
import Derived.Test.YtipcflkijcccdaaSep
import Derived.Test.YtipcflkijcccdaaX
namespace Go.Proofs.Ytipcflkijcccdaa.Qu
open Go.RowKit Go.Proofs.Ytipcflkijcccdaa.Sep Go.Proofs.YtipcflkijcccdaaW.PrintWords Go.Proofs.YtipcflkijcccdaaW.PrintLast Go.Proofs.YtipcflkijcccdaaW.PrintMore
set_option linter.unusedVariables false
set_option linter.unusedSimpArgs false

/-- A place of the ring as it lies: a number, a kind, a name, a slice of bytes. -/
structure Slot where
  num : Int
  kind : Int
  name : ByteArray
  A : Option Addr
  n : Nat
  c : Nat
def Slot.zero : Slot := ⟨0, 0, ⟨#[]⟩, none, 0, 0⟩

/-- The ring's block. -/
structure Lies (W : World) (g : Nat) (s : Nat → Slot) (f n m : Int) : Prop where
  cs : ∃ cs : Array Value, W.heap[g]? = some (.cells cs 56 (0, 0)) ∧ cs.size = 35 ∧ (∀ k, k < 8 → cs[k * 4]? = some (.int .i64 (s k).num) ∧ cs[k * 4 + 1]? = some (.int .u8 (s k).kind) ∧ cs[k * 4 + 2]? = some (.string (s k).name) ∧ cs[k * 4 + 3]? = some (.slice (s k).A (s k).n (s k).c)) ∧
    cs[32]? = some (.int .i64 f) ∧ cs[33]? = some (.int .i64 n) ∧ cs[34]? = some (.int .i64 m)
section
variable {W : World} {g : Nat} {s : Nat → Slot} {f n m : Int}
theorem Lies.cell (h : Lies W g s f n m) : W.cell? ⟨g, 32, none⟩ = some (.int .i64 f) ∧ W.cell? ⟨g, 33, none⟩ = some (.int .i64 n) ∧ W.cell? ⟨g, 34, none⟩ = some (.int .i64 m) := by
  obtain ⟨cs, h1, h2, h3, h4, h5, h6⟩ := h.cs
  exact ⟨(cell_blk h1 _).trans h4, (cell_blk h1 _).trans h5, (cell_blk h1 _).trans h6⟩
theorem Lies.slot (h : Lies W g s f n m) {k : Nat} (hk : k < 8) : W.cell? ⟨g, k * 4, none⟩ = some (.int .i64 (s k).num) ∧ W.cell? ⟨g, k * 4 + 1, none⟩ = some (.int .u8 (s k).kind) ∧ W.cell? ⟨g, k * 4 + 2, none⟩ = some (.string (s k).name) ∧ W.cell? ⟨g, k * 4 + 3, none⟩ = some (.slice (s k).A (s k).n (s k).c) := by
  obtain ⟨cs, h1, h2, h3, h4, h5, h6⟩ := h.cs
  obtain ⟨a, b, c, d⟩ := h3 k hk
  exact ⟨(cell_blk h1 _).trans a, (cell_blk h1 _).trans b, (cell_blk h1 _).trans c, (cell_blk h1 _).trans d⟩
theorem Lies.free (h : Lies W g s f n m) (i : Nat) : W.frozen? ⟨g, i, none⟩ = false := by
  obtain ⟨cs, h1, _⟩ := h.cs
  exact frozen_blk h1 i
theorem Lies.lt (h : Lies W g s f n m) : g < W.heap.size := by
  obtain ⟨cs, h1, _⟩ := h.cs
  exact (Array.getElem?_eq_some_iff.1 h1).1
theorem Lies.move {W' : World} (h : Lies W g s f n m) (hb : W'.heap[g]? = W.heap[g]?) : Lies W' g s f n m := by
  obtain ⟨cs, h1, r⟩ := h.cs
  exact ⟨cs, hb.trans h1, r⟩
end
/-- From w to w' nothing but block g has changed, and there may be new blocks. -/
structure Turn (w w' : World) (g : Nat) : Prop where
  os : w'.os = w.os
  tape : w'.tape = w.tape
  output : w'.output = w.output
  size : w.heap.size ≤ w'.heap.size
  block : ∀ k, k < w.heap.size → k ≠ g → w'.heap[k]? = w.heap[k]?
theorem Turn.of_below {w w' : World} (g : Nat) (h : Below w.heap.size w w') : Turn w w' g := ⟨h.os, h.tape, h.output, h.size, fun k hk _ => h.block k hk⟩
theorem Turn.refl (w : World) (g : Nat) : Turn w w g := Turn.of_below g (Below.refl _ _)
theorem Turn.trans {w w1 w2 : World} {g : Nat} (h : Turn w w1 g) (k : Turn w1 w2 g) : Turn w w2 g :=
  ⟨k.os.trans h.os, k.tape.trans h.tape, k.output.trans h.output, Nat.le_trans h.size k.size, fun i hi hg => (k.block i (Nat.lt_of_lt_of_le hi h.size) hg).trans (h.block i hi hg)⟩
theorem Turn.set (w : World) (g i : Nat) (v : Value) : Turn w (w.setCell ⟨g, i, none⟩ v) g :=
  ⟨rfl, rfl, rfl, by simp [World.setCell], fun k _ hg => Below.heap_setCell w ⟨g, i, none⟩ v k hg⟩
theorem blk_set {W : World} {g i : Nat} {cs : Array Value} {t : TypeId} (v : Value) (hg : W.heap[g]? = some (.cells cs t (0, 0))) : (W.setCell ⟨g, i, none⟩ v).heap[g]? = some (.cells (cs.setIfInBounds i v) t (0, 0)) := by
  have hl := (Array.getElem?_eq_some_iff.1 hg).1
  have he : W.heap[g] = .cells cs t (0, 0) := (Array.getElem?_eq_some_iff.1 hg).2
  unfold World.setCell
  simp [hl, Array.getElem_modify, he]
section
variable {W : World} {g : Nat} {s : Nat → Slot} {f n m : Int}
theorem Lies.setF (h : Lies W g s f n m) (x : Int) : Lies (W.setCell ⟨g, 32, none⟩ (.int .i64 x)) g s x n m := by
  obtain ⟨cs, h1, h2, h3, h4, h5, h6⟩ := h.cs
  refine ⟨_, blk_set _ h1, by simp [h2], fun k hk => ?_, by simp [Array.getElem?_setIfInBounds, h2], by simpa [Array.getElem?_setIfInBounds] using h5, by simpa [Array.getElem?_setIfInBounds] using h6⟩
  obtain ⟨a, b, c, d⟩ := h3 k hk
  refine ⟨?_, ?_, ?_, ?_⟩ <;> rw [Array.getElem?_setIfInBounds, if_neg (by omega)] <;> assumption
theorem Lies.setN (h : Lies W g s f n m) (x : Int) : Lies (W.setCell ⟨g, 33, none⟩ (.int .i64 x)) g s f x m := by
  obtain ⟨cs, h1, h2, h3, h4, h5, h6⟩ := h.cs
  refine ⟨_, blk_set _ h1, by simp [h2], fun k hk => ?_, by simpa [Array.getElem?_setIfInBounds] using h4, by simp [Array.getElem?_setIfInBounds, h2], by simpa [Array.getElem?_setIfInBounds] using h6⟩
  obtain ⟨a, b, c, d⟩ := h3 k hk
  refine ⟨?_, ?_, ?_, ?_⟩ <;> rw [Array.getElem?_setIfInBounds, if_neg (by omega)] <;> assumption
theorem Lies.setM (h : Lies W g s f n m) (x : Int) : Lies (W.setCell ⟨g, 34, none⟩ (.int .i64 x)) g s f n x := by
  obtain ⟨cs, h1, h2, h3, h4, h5, h6⟩ := h.cs
  refine ⟨_, blk_set _ h1, by simp [h2], fun k hk => ?_, by simpa [Array.getElem?_setIfInBounds] using h4, by simpa [Array.getElem?_setIfInBounds] using h5, by simp [Array.getElem?_setIfInBounds, h2]⟩
  obtain ⟨a, b, c, d⟩ := h3 k hk
  refine ⟨?_, ?_, ?_, ?_⟩ <;> rw [Array.getElem?_setIfInBounds, if_neg (by omega)] <;> assumption
theorem Lies.put (h : Lies W g s f n m) {k : Nat} (hk : k < 8) (x : Slot) :
    Lies ((((W.setCell ⟨g, k * 4, none⟩ (.int .i64 x.num)).setCell ⟨g, k * 4 + 1, none⟩ (.int .u8 x.kind)).setCell ⟨g, k * 4 + 2, none⟩ (.string x.name)).setCell ⟨g, k * 4 + 3, none⟩ (.slice x.A x.n x.c)) g (fun i => if i = k then x else s i) f n m := by
  obtain ⟨cs, h1, h2, h3, h4, h5, h6⟩ := h.cs
  refine ⟨_, blk_set _ (blk_set _ (blk_set _ (blk_set _ h1))), by simp [h2], fun i hi => ?_, ?_, ?_, ?_⟩
  · obtain ⟨a, b, c, d⟩ := h3 i hi
    by_cases he : i = k
    · subst he
      simp only [if_true, Array.getElem?_setIfInBounds, Array.size_setIfInBounds, h2]
      refine ⟨?_, ?_, ?_, ?_⟩
      · rw [if_neg (by omega), if_neg (by omega), if_neg (by omega), if_pos (by omega)]
      · rw [if_neg (by omega), if_neg (by omega), if_pos (by omega)]
      · rw [if_neg (by omega), if_pos (by omega)]
      · rw [if_pos (by omega)]
    · simp only [if_neg he, Array.getElem?_setIfInBounds, Array.size_setIfInBounds, h2]
      refine ⟨?_, ?_, ?_, ?_⟩ <;> rw [if_neg (by omega), if_neg (by omega), if_neg (by omega), if_neg (by omega)] <;> assumption
  all_goals (simp only [Array.getElem?_setIfInBounds]; rw [if_neg (by omega), if_neg (by omega), if_neg (by omega), if_neg (by omega)]; assumption)
theorem Turn.put (w : World) (g k : Nat) (a b c d : Value) : Turn w ((((w.setCell ⟨g, k * 4, none⟩ a).setCell ⟨g, k * 4 + 1, none⟩ b).setCell ⟨g, k * 4 + 2, none⟩ c).setCell ⟨g, k * 4 + 3, none⟩ d) g :=
  (((Turn.set _ _ _ _).trans (Turn.set _ _ _ _)).trans (Turn.set _ _ _ _)).trans (Turn.set _ _ _ _)
end
/-- The queue as an assertion. -/
def Que (g : Nat) (s : Nat → Slot) (f n m : Int) : Asn where
  foot k := k = g
  pred W := Lies W g s f n m
  move h hp := hp.move (h g rfl)
  lt hp k hk := by subst hk; exact hp.lt
theorem St.que {B : Nat} {w W W' : World} {pre post : List Asn} {g : Nat} {s s' : Nat → Slot} {f n m f' n' m' : Int} (h : St B w W (pre ++ Que g s f n m :: post)) (T : Turn W W' g) (hl : Lies W' g s' f' n' m') : St B w W' (pre ++ Que g s' f' n' m' :: post) :=
  h.turn T.os T.tape T.output T.size (fun k h1 h2 => T.block k h1 h2) hl (fun k hk => .inl hk)
theorem C_same {k : IntKind} {W W' : World} {A : Option Addr} {n : Nat} {xs : List Int} (h : Kd.C (Kd.int k) W A n xs) (hb : ∀ ad, A = some ad → 0 < n → W'.heap[ad.block]? = W.heap[ad.block]?) : Kd.C (Kd.int k) W' A n xs := by
  refine ⟨h.1, h.2.1, fun hn => ?_⟩
  obtain ⟨ad, e, hc⟩ := h.2.2 hn
  have hB := hb ad e hn
  refine ⟨ad, e, fun j p hj => ?_⟩
  obtain ⟨cs, h1, h2, h3⟩ := hc j p hj
  refine ⟨cs, h1, h2, fun i u hu => ?_⟩
  have := h3 i u hu
  rw [← this]
  have hbl : (ad.add (j * (Kd.int k).sz + i)).block = ad.block := by unfold Addr.add; split <;> rfl
  simp only [World.cell?, hbl, hB]
/-- A row of numbers. -/
def Row (A : Option Addr) (o : List Int) : Asn where
  foot k := ∃ ad, A = some ad ∧ 0 < o.length ∧ k = ad.block
  pred W := Kd.C (Kd.int .u8) W A o.length o
  move h hp := C_same hp (fun ad h1 h2 => h ad.block ⟨ad, h1, h2, rfl⟩)
  lt := by
    rintro W hp k ⟨ad, h1, h2, rfl⟩
    obtain ⟨ad', e, hc⟩ := hp.2.2 h2
    obtain rfl : ad = ad' := by rw [h1] at e; exact Option.some.inj e
    obtain ⟨cs, h3, h4, h5⟩ := hc 0 _ (List.getElem?_eq_getElem h2)
    have hcl : cs = [.int .u8 o[0]] := h4
    subst hcl
    exact World.block_lt_of_cell? W _ (h5 0 _ rfl)
theorem came_calls (g : Nat) (s : Nat → Slot) (f n m : Int) (w : World) (h : Lies w g s f n m) :
    Calls Try.prog 13 #[.pointer (some ⟨g, 0, none⟩)] w fun z w' => z = .returned (.int .i64 m) ∧ w' = w := by
  obtain ⟨h0, h1, h2⟩ := h.cell
  have f2 := h.free 34
  go_enter Try.func13, Try.ntmps13
  go_wp2
  go_ret
  exact ⟨rfl, rfl⟩
theorem came_nil (w : World) : Calls Try.prog 13 #[.pointer none] w fun z w' => z = .returned (.int .i64 0) ∧ w' = w := by
  go_enter Try.func13, Try.ntmps13
  go_wp2
  go_ret
  exact ⟨rfl, rfl⟩
theorem len_calls (g : Nat) (s : Nat → Slot) (f n m : Int) (w : World) (h : Lies w g s f n m) :
    Calls Try.prog 14 #[.pointer (some ⟨g, 0, none⟩)] w fun z w' => z = .returned (.int .i64 n) ∧ w' = w := by
  obtain ⟨h0, h1, h2⟩ := h.cell
  have f2 := h.free 33
  go_enter Try.func14, Try.ntmps14
  go_wp2
  go_ret
  exact ⟨rfl, rfl⟩
theorem len_nil (w : World) : Calls Try.prog 14 #[.pointer none] w fun z w' => z = .returned (.int .i64 0) ∧ w' = w := by
  go_enter Try.func14, Try.ntmps14
  go_wp2
  go_ret
  exact ⟨rfl, rfl⟩
end Go.Proofs.Ytipcflkijcccdaa.Qu
