/- A block that is a set of texts. -/
import Derived.Test.YtaomemhnjpemiaaZDoc
import Derived.Maps.OwnSet
import Derived.StringKeys
import Derived.Maps.OwnOps
import Derived.Test.YtaomemhnjpemiaaZEv
import Derived.Maps.RangeWalk
import Derived.Sort.KeysCollected
namespace Go.Proofs.Ytaomemhnjpemiaa.Mp
open Go Go.Maps Go.WideMaps Go.Proofs.Ytaomemhnjpemiaa.Doc
set_option linter.unusedVariables false

theorem und9 : Try.prog.underlying 9 = some .string := by kernel_rfl
theorem und4 : Try.prog.underlying 4 = some .bool := by kernel_rfl
theorem und60 : Try.prog.underlying 60 = some (.map 9 4) := by kernel_rfl
theorem und50 : Try.prog.underlying 50 = some (.map 9 60) := by kernel_rfl
theorem law9 : Keyed Try.prog 9 := string_keyed und9
theorem zero4 (w : World) : (zeroValue 4).run Try.prog w = .ok (.bool false) w := by kernel_rfl
theorem zero60 (w : World) : (zeroValue 60).run Try.prog w = .ok (.map none) w := by kernel_rfl
def lit (s : ByteArray) : Lit := .string s.data.toList
theorem lit_inj {a b : ByteArray} (h : lit a = lit b) : a = b := by
 apply ByteArray.ext
 apply Array.ext'
 simpa [lit] using h
theorem key9 {s : ByteArray} (h : s.size ≤ maxLen) : keyOf Try.prog 9 (.string s) = some (lit s) := keyOf_string_mk und9 h
noncomputable abbrev Rb : Value → Option (DataW Unit × List MemPlace) := plainElem Try.prog 4
/-- block b is a set of at most n texts, just those of S -/
def SetAt (w : World) (b n : Nat) (S : List ByteArray) : Prop :=
 ∃ D, w.ownsMap Try.prog 9 Rb b n D ∧ ∀ s : ByteArray, Maps.has D (lit s) = decide (s ∈ S) ∧ D.atKey (lit s) (.lit (.bool false)) = .lit (.bool (decide (s ∈ S)))
theorem SetAt.made (w : World) : SetAt (w.alloc (.map #[] 0)) w.heap.size 0 [] :=
 ⟨_, World.ownsMap_made w Try.prog 9 Rb, fun s => ⟨rfl, rfl⟩⟩
theorem SetAt.kept {w w' : World} {b n : Nat} {S : List ByteArray} (h : SetAt w b n S) {row : Option Nat} (hg : w.grownBy w' row) (hne : some b ≠ row) : SetAt w' b n S :=
 let ⟨D, h1, h2⟩ := h; ⟨D, h1.kept hg hne, h2⟩
theorem SetAt.look {w : World} {b n : Nat} {S : List ByteArray} (h : SetAt w b n S) {s : ByteArray} (hs : s.size ≤ maxLen) : (Instr.lookup 60 (.map (some b)) (.string s) false).run Try.prog w = .ok (.bool (decide (s ∈ S))) w := by
 obtain ⟨D, h1, h2⟩ := h
 obtain ⟨v, ps, h3, h4⟩ := h1.lookup law9 und60 (zero4 w) (plainElem_bool und4 false) (key9 hs)
 rw [(h2 s).2] at h4
 have : v = .bool (decide (s ∈ S)) := by
  unfold Rb plainElem at h4
  rw [und4] at h4
  cases v <;> simp at h4
  rw [h4.1]
 rw [h3, this]
theorem SetAt.put {w : World} {b n : Nat} {S : List ByteArray} (h : SetAt w b n S) (hn : n < maxLen) {s : ByteArray} (hs : s.size ≤ maxLen) : ∃ w', (Instr.mapUpdate 60 (.map (some b)) (.string s) (.bool true)).run Try.prog w = .ok () w' ∧ SetAt w' b (n + 1) (S ++ [s]) ∧ w.mapTurned w' b := by
 obtain ⟨D, h1, h2⟩ := h
 obtain ⟨w', h3, h4, h5⟩ := h1.store law9 und60 hn (key9 hs) (plainElem_bool und4 true)
 refine ⟨w', h3, ⟨_, h4, fun x => ?_⟩, h5⟩
 by_cases e : x = s
 ·subst e
  rw [has_put_same h1.isMap (by exact trivial), atKey_put_same h1.isMap (by exact trivial)]
  simp
 ·have e' : lit x ≠ lit s := fun h => e (lit_inj h)
  rw [has_put_other e', atKey_put_other e', (h2 x).1, (h2 x).2]
  simp [e]

/-- how a set in a map reads: by its block -/
def Rm : Value → Option (DataW Unit × List MemPlace)
 | .map (some b) => some (.lit (.int .u64 (b : Int)), [])
 | .map none => some (.nil, [])
 | _ => none
def blk : Option Nat → DataW Unit
 | none => .nil
 | some b => .lit (.int .u64 (b : Int))
theorem Rm_inv {v : Value} {o : Option Nat} {ps : List MemPlace} (h : Rm v = some (blk o, ps)) : v = .map o := by
 unfold Rm at h
 split at h
 ·rename_i b
  cases o with
  | none => simp [blk] at h
  | some c =>
   simp [blk] at h
   obtain rfl : b = c := by omega
   rfl
 ·cases o <;> simp [blk] at h
  rfl
 ·cases h
/-- block b is a map of at most n sets: the set of a name lies in the block that f tells -/
def MapAt (w : World) (b n : Nat) (f : ByteArray → Option Nat) : Prop :=
 ∃ D, w.ownsMap Try.prog 9 Rm b n D ∧ ∀ s : ByteArray, Maps.has D (lit s) = (f s).isSome ∧ D.atKey (lit s) .nil = blk (f s)
theorem MapAt.made (w : World) : MapAt (w.alloc (.map #[] 0)) w.heap.size 0 (fun _ => none) :=
 ⟨_, World.ownsMap_made w Try.prog 9 Rm, fun s => ⟨rfl, rfl⟩⟩
theorem MapAt.kept {w w' : World} {b n : Nat} {f : ByteArray → Option Nat} (h : MapAt w b n f) {row : Option Nat} (hg : w.grownBy w' row) (hne : some b ≠ row) : MapAt w' b n f :=
 let ⟨D, h1, h2⟩ := h; ⟨D, h1.kept hg hne, h2⟩
theorem MapAt.look {w : World} {b n : Nat} {f : ByteArray → Option Nat} (h : MapAt w b n f) {s : ByteArray} (hs : s.size ≤ maxLen) : (Instr.lookup 50 (.map (some b)) (.string s) false).run Try.prog w = .ok (.map (f s)) w := by
 obtain ⟨D, h1, h2⟩ := h
 obtain ⟨v, ps, h3, h4⟩ := h1.lookup law9 und50 (zero60 w) (zd := .nil) (zp := []) rfl (key9 hs)
 rw [(h2 s).2] at h4
 rw [h3, Rm_inv h4]
theorem MapAt.look_ok {w : World} {b n : Nat} {f : ByteArray → Option Nat} (h : MapAt w b n f) {s : ByteArray} (hs : s.size ≤ maxLen) : (Instr.lookup 50 (.map (some b)) (.string s) true).run Try.prog w = .ok (.tuple #[.map (f s), .bool (f s).isSome]) w := by
 obtain ⟨D, h1, h2⟩ := h
 obtain ⟨v, ps, h3, h4⟩ := h1.look_ok law9 und50 (zero60 w) (zd := .nil) (zp := []) rfl (key9 hs)
 rw [(h2 s).2] at h4
 rw [(h2 s).1] at h3
 rw [h3, Rm_inv h4]
theorem MapAt.put {w : World} {b n : Nat} {f : ByteArray → Option Nat} (h : MapAt w b n f) (hn : n < maxLen) {s : ByteArray} (hs : s.size ≤ maxLen) (c : Nat) : ∃ w', (Instr.mapUpdate 50 (.map (some b)) (.string s) (.map (some c))).run Try.prog w = .ok () w' ∧ MapAt w' b (n + 1) (fun x => if x = s then some c else f x) ∧ w.mapTurned w' b := by
 obtain ⟨D, h1, h2⟩ := h
 obtain ⟨w', h3, h4, h5⟩ := h1.store law9 und50 hn (key9 hs) (val := .map (some c)) (d := .lit (.int .u64 (c : Int))) (ps := []) rfl
 refine ⟨w', h3, ⟨_, h4, fun x => ?_⟩, h5⟩
 by_cases e : x = s
 ·subst e
  rw [has_put_same h1.isMap (by exact trivial), atKey_put_same h1.isMap (by exact trivial)]
  simp [blk]
 ·have e' : lit x ≠ lit s := fun h => e (lit_inj h)
  rw [has_put_other e', atKey_put_other e', (h2 x).1, (h2 x).2]
  simp [e]
theorem MapAt.drop {w : World} {b n : Nat} {f : ByteArray → Option Nat} (h : MapAt w b n f) {s : ByteArray} (hs : s.size ≤ maxLen) (ty : TypeId) : ∃ w', (Builtin.delete_ #[50, 9] ty #[.map (some b), .string s]).run Try.prog w = .ok (.tuple #[]) w' ∧ MapAt w' b n (fun x => if x = s then none else f x) ∧ w.mapTurned w' b := by
 obtain ⟨D, h1, h2⟩ := h
 obtain ⟨w', h3, h4, h5⟩ := h1.drop law9 und50 (key9 hs) ty
 refine ⟨w', h3, ⟨_, h4, fun x => ?_⟩, h5⟩
 by_cases e : x = s
 ·subst e
  rw [has_del_same, atKey_del_same]
  simp [blk]
 ·have e' : lit x ≠ lit s := fun h => e (lit_inj h)
  rw [has_del_other e', atKey_del_other e', (h2 x).1, (h2 x).2]
  simp [e]
end Go.Proofs.Ytaomemhnjpemiaa.Mp
/- The look-ups and stores of Mp at the operation, for a walk. -/
namespace Go.Proofs.Ytaomemhnjpemiaa.Mp
open Go Go.Maps Go.Proofs.Ytaomemhnjpemiaa.Doc
set_option linter.unusedVariables false
section
variable (w : World) {ops : Array Oper} {rest : List Oper} {o : Oper} {a : Act} {Q : Exit → Act → World → Prop}
theorem wp_set_look (hg : o.guard = none) (m x : Operand) (hop : o.op = Op.lookup 60 m x false) (b n : Nat) (S : List ByteArray) (hm : a.eval m = .map (some b)) (h : SetAt w b n S) (s : ByteArray) (hx : a.eval x = .string s) (hs : s.size ≤ maxLen)
  (hK : wpList Try.prog ops Q rest (a.put o.dst (.bool (decide (s ∈ S)))) w) : wpList Try.prog ops Q (o :: rest) a w := by
 refine wpList_plain hg fun K' hK' => ?_
 have hrun := h.look hs
 unfold Oper.wp
 simp [execOp, hop, hm, hx, hrun, Result.andThen]
 exact hK' _ _ (by simpa using hK)
theorem wp_map_look (hg : o.guard = none) (m x : Operand) (hop : o.op = Op.lookup 50 m x false) (b n : Nat) (f : ByteArray → Option Nat) (hm : a.eval m = .map (some b)) (h : MapAt w b n f) (s : ByteArray) (hx : a.eval x = .string s) (hs : s.size ≤ maxLen)
  (hK : wpList Try.prog ops Q rest (a.put o.dst (.map (f s))) w) : wpList Try.prog ops Q (o :: rest) a w := by
 refine wpList_plain hg fun K' hK' => ?_
 have hrun := h.look hs
 unfold Oper.wp
 simp [execOp, hop, hm, hx, hrun, Result.andThen]
 exact hK' _ _ hK
theorem wp_map_look_ok (hg : o.guard = none) (m x : Operand) (hop : o.op = Op.lookup 50 m x true) (b n : Nat) (f : ByteArray → Option Nat) (hm : a.eval m = .map (some b)) (h : MapAt w b n f) (s : ByteArray) (hx : a.eval x = .string s) (hs : s.size ≤ maxLen)
  (hK : wpList Try.prog ops Q rest (a.put o.dst (.tuple #[.map (f s), .bool (f s).isSome])) w) : wpList Try.prog ops Q (o :: rest) a w := by
 refine wpList_plain hg fun K' hK' => ?_
 have hrun := h.look_ok hs
 unfold Oper.wp
 simp [execOp, hop, hm, hx, hrun, Result.andThen]
 exact hK' _ _ hK
theorem wp_set_put (hg : o.guard = none) (m x v : Operand) (hop : o.op = Op.mapUpdate 60 m x v) (b n : Nat) (S : List ByteArray) (hm : a.eval m = .map (some b)) (h : SetAt w b n S) (hn : n < maxLen) (s : ByteArray) (hx : a.eval x = .string s) (hv : a.eval v = .bool true) (hs : s.size ≤ maxLen)
  (hK : ∀ w', SetAt w' b (n + 1) (S ++ [s]) → w.mapTurned w' b → wpList Try.prog ops Q rest (a.put o.dst undef) w') : wpList Try.prog ops Q (o :: rest) a w := by
 refine wpList_plain hg fun K' hK' => ?_
 obtain ⟨w', hrun, r1, r2⟩ := h.put hn hs
 unfold Oper.wp
 simp [execOp, hop, hm, hx, hv, hrun, Result.andThen]
 exact hK' _ _ (hK w' r1 r2)
theorem wp_map_put (hg : o.guard = none) (m x v : Operand) (hop : o.op = Op.mapUpdate 50 m x v) (b n : Nat) (f : ByteArray → Option Nat) (hm : a.eval m = .map (some b)) (h : MapAt w b n f) (hn : n < maxLen) (s : ByteArray) (hx : a.eval x = .string s) (c : Nat) (hv : a.eval v = .map (some c)) (hs : s.size ≤ maxLen)
  (hK : ∀ w', MapAt w' b (n + 1) (fun y => if y = s then some c else f y) → w.mapTurned w' b → wpList Try.prog ops Q rest (a.put o.dst undef) w') : wpList Try.prog ops Q (o :: rest) a w := by
 refine wpList_plain hg fun K' hK' => ?_
 obtain ⟨w', hrun, r1, r2⟩ := h.put hn hs c
 unfold Oper.wp
 simp [execOp, hop, hm, hx, hv, hrun, Result.andThen]
 exact hK' _ _ (hK w' r1 r2)
end
end Go.Proofs.Ytaomemhnjpemiaa.Mp
/- (*Graph).Has. -/
namespace Go.Proofs.Ytaomemhnjpemiaa.Mp
open Go Go.RowKit Go.Proofs.Ytaomemhnjpemiaa.Doc
set_option linter.unusedVariables false
set_option maxHeartbeats 4000000 in
theorem has_calls (g bm n : Nat) (f : ByteArray → Option Nat) (s : ByteArray) (w : World) (hc : w.cell? ⟨g, 0, none⟩ = some (.map (some bm))) (h : MapAt w bm n f) (hs : s.size ≤ maxLen) :
  Calls Try.prog 15 #[.pointer (some ⟨g, 0, none⟩), .string s] w fun z w' => z = .returned (.bool (f s).isSome) ∧ w' = w := by
 go_enter Try.func15, Try.ntmps15
 go_wp2_with (first | (at_lookup; refine wp_map_look_ok _ rfl _ _ rfl bm n f rfl h s rfl hs ?_) | go_in)
 go_ret
 exact ⟨rfl, rfl⟩
end Go.Proofs.Ytaomemhnjpemiaa.Mp
/- Sets and maps as assertions with footprints; the range over one. -/
namespace Go.Proofs.Ytaomemhnjpemiaa.Mp
open Go Go.Maps Go.RowKit Go.Proofs.Ytaomemhnjpemiaa.Doc Go.Proofs.Ytaomemhnjpemiaa.Sep Go.Proofs.Ytaomemhnjpemiaa.Ev Go.Proofs.YtaomemhnjpemiaaW.PrintWords Go.Proofs.YtaomemhnjpemiaaW.PrintLast Go.Proofs.YtaomemhnjpemiaaW.PrintMore
set_option linter.unusedVariables false

section
variable {w w' : World} {b n : Nat} {S T : List ByteArray} {f : ByteArray → Option Nat}
theorem SetAt.lt (h : SetAt w b n S) : b < w.heap.size := let ⟨_, h1, _⟩ := h; h1.lt
theorem MapAt.lt (h : MapAt w b n f) : b < w.heap.size := let ⟨_, h1, _⟩ := h; h1.lt
theorem SetAt.of_block (h : SetAt w b n S) (hb : w'.heap[b]? = w.heap[b]?) : SetAt w' b n S := by
 obtain ⟨D, ⟨es, clock, h1, h2⟩, h3⟩ := h
 exact ⟨D, ⟨es, clock, hb.trans h1, h2⟩, h3⟩
theorem MapAt.of_block (h : MapAt w b n f) (hb : w'.heap[b]? = w.heap[b]?) : MapAt w' b n f := by
 obtain ⟨D, ⟨es, clock, h1, h2⟩, h3⟩ := h
 exact ⟨D, ⟨es, clock, hb.trans h1, h2⟩, h3⟩
theorem SetAt.ext (h : SetAt w b n S) (e : ∀ x, x ∈ S ↔ x ∈ T) : SetAt w b n T := by
 obtain ⟨D, h1, h2⟩ := h
 refine ⟨D, h1, fun s => ?_⟩
 have : decide (s ∈ T) = decide (s ∈ S) := by simp [e]
 rw [this]; exact h2 s
theorem MapAt.ext {f' : ByteArray → Option Nat} (h : MapAt w b n f) (e : ∀ x, f x = f' x) : MapAt w b n f' := by
 have : f' = f := funext fun x => (e x).symm
 rw [this]; exact h
theorem SetAt.mono {m : Nat} (h : SetAt w b n S) (hn : n ≤ m) : SetAt w b m S := let ⟨D, h1, h2⟩ := h; ⟨D, h1.mono hn, h2⟩
theorem MapAt.mono {m : Nat} (h : MapAt w b n f) (hn : n ≤ m) : MapAt w b m f := let ⟨D, h1, h2⟩ := h; ⟨D, h1.mono hn, h2⟩
theorem MapAt.isMap (h : MapAt w b n f) : ∃ es c, w.heap[b]? = some (.map es c) := by
 obtain ⟨D, ⟨es, clock, h1, h2⟩, h3⟩ := h
 exact ⟨es, clock, h1⟩
theorem SetAt.isMap (h : SetAt w b n S) : ∃ es c, w.heap[b]? = some (.map es c) := by
 obtain ⟨D, ⟨es, clock, h1, h2⟩, h3⟩ := h
 exact ⟨es, clock, h1⟩
end
/-- A set, as an assertion. -/
def SetB (b n : Nat) (S : List ByteArray) : Asn where
 foot k := k = b
 pred W := SetAt W b n S
 move h hp := hp.of_block (h b rfl)
 lt hp k hk := by subst hk; exact hp.lt
/-- The graph's map, as an assertion. -/
def MapB (b n : Nat) (f : ByteArray → Option Nat) : Asn where
 foot k := k = b
 pred W := MapAt W b n f
 move h hp := hp.of_block (h b rfl)
 lt hp k hk := by subst hk; exact hp.lt
section
variable {W : World} {b n k : Nat} {S : List ByteArray} {f : ByteArray → Option Nat}
theorem SetB.out (h : (SetB b n S).pred W) : SetAt W b n S := h
theorem SetB.mk (h : SetAt W b n S) : (SetB b n S).pred W := h
theorem SetB.foot_iff : (SetB b n S).foot k ↔ k = b := Iff.rfl
theorem MapB.out (h : (MapB b n f).pred W) : MapAt W b n f := h
theorem MapB.mk (h : MapAt W b n f) : (MapB b n f).pred W := h
theorem MapB.foot_iff : (MapB b n f).foot k ↔ k = b := Iff.rfl
end
attribute [irreducible] SetB MapB

/-- A range over a set under way: left: what is still to come. -/
def SetIt (w : World) (b r n : Nat) (S : List ByteArray) (left : ByteArray → Bool) (cnt : Nat) : Prop :=
 ∃ D leftL, w.ranges Try.prog 9 Rb b r n D leftL cnt ∧ (∀ s : ByteArray, Maps.has D (lit s) = decide (s ∈ S) ∧ D.atKey (lit s) (.lit (.bool false)) = .lit (.bool (decide (s ∈ S)))) ∧ (∀ s, leftL (lit s) = left s) ∧ ∀ s, left s = true → s ∈ S
section
variable {w w' : World} {b r n cnt : Nat} {S : List ByteArray} {left : ByteArray → Bool}
theorem SetIt.of_block (h : SetIt w b r n S left cnt) (hb : w'.heap[b]? = w.heap[b]?) (hr : w'.heap[r]? = w.heap[r]?) : SetIt w' b r n S left cnt := by
 obtain ⟨D, leftL, ⟨es, clock, since, seen, c0, h1, h2, h3, h4, h5, h6⟩, h7⟩ := h
 exact ⟨D, leftL, ⟨es, clock, since, seen, c0, hb.trans h1, h2, h3, h4, hr.trans h5, h6⟩, h7⟩
theorem SetIt.lt (h : SetIt w b r n S left cnt) : r < w.heap.size := let ⟨_, _, h1, _⟩ := h; h1.lt
end
/-- .. as an assertion on the iterator's block alone, the set's block being o. -/
def ItA (o : Option Obj) (b r n : Nat) (S : List ByteArray) (left : ByteArray → Bool) (cnt : Nat) : Asn where
 foot k := k = r
 pred W := ∃ W1, SetIt W1 b r n S left cnt ∧ W1.heap[r]? = W.heap[r]? ∧ W1.heap[b]? = o
 move h hp := let ⟨W1, h1, h2, h3⟩ := hp; ⟨W1, h1, h2.trans (h r rfl).symm, h3⟩
 lt hp k hk := by
  obtain ⟨W1, h1, h2, h3⟩ := hp
  subst hk
  have h4 := h1.lt
  rw [Array.getElem?_eq_getElem h4] at h2
  exact (Array.getElem?_eq_some_iff.1 h2.symm).1
section
variable {W : World} {o : Option Obj} {b r n cnt k : Nat} {S : List ByteArray} {left : ByteArray → Bool}
theorem ItA.out (h : (ItA o b r n S left cnt).pred W) (hb : W.heap[b]? = o) : SetIt W b r n S left cnt := by
 obtain ⟨W1, h1, h2, h3⟩ := h
 exact h1.of_block (hb.trans h3.symm) h2.symm
theorem ItA.mk (h : SetIt W b r n S left cnt) : (ItA (W.heap[b]?) b r n S left cnt).pred W := ⟨W, h, rfl, rfl⟩
theorem ItA.foot_iff : (ItA o b r n S left cnt).foot k ↔ k = r := Iff.rfl
end
attribute [irreducible] ItA
section
variable {ops : Array Oper} {rest : List Oper} {o : Oper} {a : Act} {Q : Exit → Act → World → Prop} {B : Nat} {w W : World} {L : List Asn} {F : Asn → List Asn}
theorem turn_block {a' : Asn} {x : Asn} {b : Nat} {W' : World} (S : Aside0 (St B w W L)) (hs : Spot L x F) (hg : W.grownBy W' (some b)) (hx : x.foot b) (hp : a'.pred W') (hf : ∀ k, a'.foot k → x.foot k ∨ W.heap.size ≤ k) : Aside0 (St B w W' (F a')) :=
 ⟨turn_at S.out hs hg.os hg.tape hg.output hg.size (fun k hk hn => hg.block k hk (fun e => hn (by injection e with e; exact e ▸ hx))) hp hf⟩
theorem below_grown {W W' : World} (h : W.grownBy W' none) : Below W.heap.size W W' := ⟨h.os, h.tape, h.output, h.size, fun k hk => h.block k hk (by simp)⟩
theorem ev_make60 (S : Aside0 (St B w W L)) (hg : o.guard = none) (N : Tmp) (hN : o.dst = some N) (hop : o.op = Op.makeMap 60 none)
  (hK : ∀ g w1, Aside0 (St B w w1 (SetB g 0 [] :: L)) → wpList Try.prog ops Q rest (a.put (some N) (.map (some g))) w1) : wpList Try.prog ops Q (o :: rest) a W := by
 refine wpList_plain hg fun K' hK' => ?_
 have hrun := run_makeMap (P := Try.prog) 60 W
 unfold Oper.wp
 simp [execOp, hop, hrun, Result.andThen, Oper.upon, hN]
 exact hK' _ _ (hK _ _ ⟨St.add S.out (below_grown (World.grownBy_alloc W _ none)) _ (SetB.mk (SetAt.made W)) (fun k hk => by rw [SetB.foot_iff.1 hk]; exact Nat.le_refl _)⟩)
theorem ev_make50 (S : Aside0 (St B w W L)) (hg : o.guard = none) (N : Tmp) (hN : o.dst = some N) (hop : o.op = Op.makeMap 50 none)
  (hK : ∀ g w1, Aside0 (St B w w1 (MapB g 0 (fun _ => none) :: L)) → wpList Try.prog ops Q rest (a.put (some N) (.map (some g))) w1) : wpList Try.prog ops Q (o :: rest) a W := by
 refine wpList_plain hg fun K' hK' => ?_
 have hrun := run_makeMap (P := Try.prog) 50 W
 unfold Oper.wp
 simp [execOp, hop, hrun, Result.andThen, Oper.upon, hN]
 exact hK' _ _ (hK _ _ ⟨St.add S.out (below_grown (World.grownBy_alloc W _ none)) _ (MapB.mk (MapAt.made W)) (fun k hk => by rw [MapB.foot_iff.1 hk]; exact Nat.le_refl _)⟩)
theorem ev_set_look (S : Aside0 (St B w W L)) (hg : o.guard = none) (m x : Operand) (hop : o.op = Op.lookup 60 m x false) (b n : Nat) (T : List ByteArray) (hm : a.eval m = .map (some b)) (hs : Spot L (SetB b n T) F) (s : ByteArray) (hx : a.eval x = .string s) (hsz : s.size ≤ maxLen)
  (hK : wpList Try.prog ops Q rest (a.put o.dst (.bool (decide (s ∈ T)))) W) : wpList Try.prog ops Q (o :: rest) a W :=
 wp_set_look W hg m x hop b n T hm (SetB.out (pred_at S.out hs)) s hx hsz hK
theorem ev_set_put (S : Aside0 (St B w W L)) (hg : o.guard = none) (m x v : Operand) (hop : o.op = Op.mapUpdate 60 m x v) (b n : Nat) (T : List ByteArray) (hm : a.eval m = .map (some b)) (hs : Spot L (SetB b n T) F) (hn : n < maxLen) (s : ByteArray) (hx : a.eval x = .string s) (hv : a.eval v = .bool true) (hsz : s.size ≤ maxLen)
  (hK : ∀ w1, Aside0 (St B w w1 (F (SetB b (n + 1) (T ++ [s])))) → wpList Try.prog ops Q rest (a.put o.dst undef) w1) : wpList Try.prog ops Q (o :: rest) a W :=
 wp_set_put W hg m x v hop b n T hm (SetB.out (pred_at S.out hs)) hn s hx hv hsz fun w1 r1 r2 =>
  hK w1 (turn_block S hs r2.grown (SetB.foot_iff.2 rfl) (SetB.mk r1) (fun k hk => .inl (SetB.foot_iff.2 (SetB.foot_iff.1 hk))))
theorem lit_of {key : Value} {kl : Lit} (h : keyOf Try.prog 9 key = some kl) : ∃ x : ByteArray, key = .string x ∧ kl = lit x ∧ x.size ≤ maxLen := by
 obtain ⟨l, h1, h2, h3⟩ := Maps.keyOf_str und9 h
 exact ⟨⟨l.toArray⟩, h1, by rw [h2]; simp [lit], by simpa [ByteArray.size] using h3⟩
theorem ev_range (S : Aside0 (St B w W L)) (hg : o.guard = none) (N : Tmp) (hN : o.dst = some N) (m : Operand) (hop : o.op = Op.range 60 m) (b n : Nat) (T : List ByteArray) (hm : a.eval m = .map (some b)) (hset : SetAt W b n T)
  (hK : ∀ g w1 cnt, Aside0 (St B w w1 (ItA (W.heap[b]?) b g n T (fun s => decide (s ∈ T)) cnt :: L)) → wpList Try.prog ops Q rest (a.put (some N) (.pointer (some ⟨g, 0, none⟩))) w1) : wpList Try.prog ops Q (o :: rest) a W := by
 have hb := hset.lt
 obtain ⟨D, h1, h2⟩ := hset
 refine wpList_range_own W hg m 60 hop 9 4 law9 und60 Rb b n D hm h1 fun w1 r1 r2 r3 => ?_
 rw [hN]
 refine hK _ _ (Maps.size D) ⟨St.add S.out (below_grown r2) _ ?_ (fun k hk => by rw [ItA.foot_iff.1 hk]; exact Nat.le_refl _)⟩
 rw [show W.heap[b]? = w1.heap[b]? from (r2.block b hb (by simp)).symm]
 exact ItA.mk ⟨D, _, r1, h2, fun s => (h2 s).1, fun s hs => of_decide_eq_true hs⟩
theorem ev_next (S : Aside0 (St B w W L)) (hg : o.guard = none) (it : Operand) (hop : o.op = Op.next it false) (ob : Option Obj) (b r n : Nat) (T : List ByteArray) (left : ByteArray → Bool) (cnt : Nat) (hit : a.eval it = .pointer (some ⟨r, 0, none⟩))
  (hs : Spot L (ItA ob b r n T left cnt) F) (hb : W.heap[b]? = ob)
  (hDone : (∀ s, s.size ≤ maxLen → left s = false) → wpList Try.prog ops Q rest (a.put o.dst (.tuple #[.bool false])) W)
  (hMore : ∀ (x : ByteArray) w1 cnt', x.size ≤ maxLen → x ∈ T → left x = true → cnt' < cnt → (Instr.entry (.pointer (some ⟨r, 0, none⟩))).run Try.prog w1 = .ok (.tuple #[.string x, .bool true]) w1 → Aside0 (St B w w1 (F (ItA ob b r n T (fun z => left z && !decide (z = x)) cnt'))) →
   wpList Try.prog ops Q rest (a.put o.dst (.tuple #[.bool true, .string x, .bool true])) w1) : wpList Try.prog ops Q (o :: rest) a W := by
 obtain ⟨D, leftL, h1, h2, h3, h4⟩ := ItA.out (pred_at S.out hs) hb
 refine wpList_next_ranges W hg it hop 9 law9 Rb Value.string Value.bool (fun key kl hk => by obtain ⟨x, hx, _⟩ := lit_of hk; exact ⟨x, hx⟩) (fun v y hv => ?_) b r n D leftL cnt hit h1 (fun _ hl => hDone fun s _ => (h3 s).symm.trans (hl _)) ?_
 ·unfold Rb plainElem at hv
  rw [und4] at hv
  cases v <;> simp at hv
  exact ⟨_, rfl⟩
 ·intro x c kl yd w1 cnt1 hkey hlk hv hat hrg hlt hgr hsz hen
  obtain ⟨x', ex, rfl, hx⟩ := lit_of hkey
  injection ex with ex
  subst ex
  have hleft : left x = true := (h3 x).symm.trans hlk
  have hT := h4 x hleft
  have hc : c = true := by
   have h5 := hat (.lit (.bool false))
   rw [(h2 x).2] at h5
   unfold Rb plainElem at hv
   rw [und4] at hv
   simp at hv
   rw [← hv] at h5
   simpa [hT] using h5.symm
  subst hc
  have hne : r ≠ b := h1.ne
  refine hMore x w1 cnt1 hx hT hleft hlt hen (turn_block S hs hgr (ItA.foot_iff.2 rfl) ?_ (fun k hk => .inl (ItA.foot_iff.2 (ItA.foot_iff.1 hk))))
  have hb1 : w1.heap[b]? = ob := (hgr.block b h1.owns.lt (fun e => hne (Option.some.inj e).symm)).trans hb
  rw [← hb1]
  refine ItA.mk ⟨D, _, hrg, h2, fun s => ?_, fun s hs' => h4 s ?_⟩
  ·show (leftL (lit s) && !(lit s).sameKey (lit x)) = _
   rw [h3 s]
   have : (lit s).sameKey (lit x) = decide (s = x) := by
    by_cases e : s = x
    ·subst e
     rw [decide_eq_true rfl]
     exact WideAt.sameKey_self trivial
    ·rw [decide_eq_false e]
     cases hk : (lit s).sameKey (lit x)
     ·rfl
     ·exact absurd (lit_inj (WideAt.sameKey_eq hk)) e
   rw [this]
  ·have := hs'
   simp only [Bool.and_eq_true] at this
   exact this.1
end
section
variable {B : Nat} {w W w0 : World} {L : List Asn} {F : Asn → List Asn} {P : Nat → Prop} {b n : Nat} {T : List ByteArray} {f : ByteArray → Option Nat}
theorem Still.at (h : (Still w0 P).pred W) {k : Nat} (hp : P k) (hk : k < w0.heap.size) : W.heap[k]? = w0.heap[k]? := h k hp hk
theorem still_cell (S : Aside0 (St B w W L)) (hs : Spot L (Still w0 P) F) {ad : Addr} {v : Value} (h : w0.cell? ad = some v) (hp : P ad.block) : W.cell? ad = some v := by
 have h1 := Still.at (pred_at S.out hs) hp (World.block_lt_of_cell? w0 _ h)
 unfold World.cell? at h ⊢
 rw [h1]; exact h
theorem still_set (S : Aside0 (St B w W L)) (hs : Spot L (Still w0 P) F) (h : SetAt w0 b n T) (hp : P b) : SetAt W b n T := h.of_block (Still.at (pred_at S.out hs) hp h.lt)
theorem still_map (S : Aside0 (St B w W L)) (hs : Spot L (Still w0 P) F) (h : MapAt w0 b n f) (hp : P b) : MapAt W b n f := h.of_block (Still.at (pred_at S.out hs) hp h.lt)
end
end Go.Proofs.Ytaomemhnjpemiaa.Mp
