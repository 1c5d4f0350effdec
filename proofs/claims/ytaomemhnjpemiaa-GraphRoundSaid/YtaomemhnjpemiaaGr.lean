/- The graph in memory; what a call leaves. -/
import Derived.Test.YtaomemhnjpemiaaKs
import Derived.Test.YtaomemhnjpemiaaZEv
namespace Go.Proofs.Ytaomemhnjpemiaa.Mp
open Go Go.Maps Go.RowKit Go.Proofs.Ytaomemhnjpemiaa.PB Go.Proofs.Ytaomemhnjpemiaa.Doc Go.Proofs.Ytaomemhnjpemiaa.Sep Go.Proofs.Ytaomemhnjpemiaa.Ev Go.Proofs.Ytaomemhnjpemiaa.Ty Go.Proofs.YtaomemhnjpemiaaW.PrintWords Go.Proofs.YtaomemhnjpemiaaW.PrintLast Go.Proofs.YtaomemhnjpemiaaW.PrintMore
set_option linter.unusedVariables false
set_option linter.unusedSimpArgs false

/-- a graph lies at block g: its map at bm, each node's set where f tells -/
structure Gr (w : World) (g bm n : Nat) (f : ByteArray → Option Nat) (G : List S73) : Prop where
 good : Doc.Good G
 blk : w.heap[g]? = some (.cells #[.map (some bm)] 52 (0, 0))
 map : MapAt w bm n f
 cnt : n ≤ 1000000
 dom : ∀ s, (f s).isSome = decide (s ∈ names G)
 set : ∀ s c, f s = some c → ∃ m, m ≤ 1000000 ∧ SetAt w c m (depsOf G s)
 small : ∀ s ∈ names G, s.size ≤ maxLen
 len : G.length ≤ 1000
section
variable {w w' : World} {g bm n : Nat} {f : ByteArray → Option Nat} {G : List S73}
theorem Gr.below (h : Gr w g bm n f G) (hb : Below w.heap.size w w') : Gr w' g bm n f G :=
 ⟨h.good, (hb.block g (Array.getElem?_eq_some_iff.1 h.blk).1).trans h.blk, h.map.of_block (hb.block bm h.map.lt), h.cnt, h.dom, fun s c hs => by
  obtain ⟨m, h1, h2⟩ := h.set s c hs
  exact ⟨m, h1, h2.of_block (hb.block c h2.lt)⟩, h.small, h.len⟩
theorem Gr.cell (h : Gr w g bm n f G) : w.cell? ⟨g, 0, none⟩ = some (.map (some bm)) := (cell_blk h.blk 0).trans rfl
theorem Gr.lt (h : Gr w g bm n f G) : g < w.heap.size := (Array.getElem?_eq_some_iff.1 h.blk).1
theorem Gr.at (h : Gr w g bm n f G) {a : ByteArray} (ha : a ∈ names G) : ∃ c m, f a = some c ∧ m ≤ 1000000 ∧ SetAt w c m (depsOf G a) := by
 have h1 := h.dom a
 rw [decide_eq_true ha] at h1
 obtain ⟨c, hc⟩ := Option.isSome_iff_exists.1 h1
 obtain ⟨m, h2, h3⟩ := h.set a c hc
 exact ⟨c, m, hc, h2, h3⟩
theorem Gr.at_none (h : Gr w g bm n f G) {a : ByteArray} (ha : a ∉ names G) : f a = none := by
 have h1 := h.dom a
 rw [decide_eq_false ha] at h1
 simpa using h1
end
theorem St.only {w : World} {K : Nat → Prop} {a : Asn} (h : a.pred w) (hf : ∀ k, a.foot k → K k) : Aside0 (St 0 w w [a, Still w (fun k => ¬ K k)]) :=
 ⟨((St.start0 w).cons (Still w (fun k => ¬ K k)) (fun _ _ _ => rfl) (fun k _ => Nat.zero_le k) (fun b hb => by cases hb)).cons a h (fun k _ => Nat.zero_le k)
  (fun b hb k h1 h2 => by
   rcases List.mem_singleton.1 hb with rfl
   exact h2.1 (hf k h1))⟩
section
variable {B : Nat} {w W : World} {L : List Asn} {F : Asn → List Asn}
/-- all but block b lies as it lay -/
theorem grown_of {b : Nat} (S : Aside0 (St 0 w W L)) (hs : Spot L (Still w (fun k => ¬ k = b)) F) : w.grownBy W (some b) :=
 ⟨S.out.below.os, S.out.below.tape, S.out.below.output, S.out.below.size, fun k hk hn => Still.at (pred_at S.out hs) (fun e => hn (by rw [e])) hk⟩
theorem below_grownBy {w0 W W' : World} {b : Nat} (h : Below w0.heap.size w0 W) (hg : W.grownBy W' (some b)) (hb : w0.heap.size ≤ b) : Below w0.heap.size w0 W' :=
 ⟨hg.os.trans h.os, hg.tape.trans h.tape, hg.output.trans h.output, Nat.le_trans h.size hg.size, fun k hk => (hg.block k (Nat.lt_of_lt_of_le hk h.size) (fun e => by have := Option.some.inj e; omega)).trans (h.block k hk)⟩
variable {ops : Array Oper} {rest : List Oper} {o : Oper} {a : Act} {Q : Exit → Act → World → Prop}
theorem wp_map_lookf (w : World) (hg : o.guard = none) (m x : Operand) (hop : o.op = Op.lookup 50 m x false) (b n : Nat) (f : ByteArray → Option Nat) (hm : a.eval m = .map (some b)) (h : MapAt w b n f) (s : ByteArray) (hx : a.eval x = .string s) (hs : s.size ≤ maxLen) (c : Option Nat) (hf : f s = c)
  (hK : wpList Try.prog ops Q rest (a.put o.dst (.map c)) w) : wpList Try.prog ops Q (o :: rest) a w := by
 subst hf
 exact wp_map_look w hg m x hop b n f hm h s hx hs hK
end
theorem strC_drop {w : World} {A : Option Addr} {xs : List ByteArray} (h : Kd.C Kd.string w A xs.length xs) (i : Nat) (hi : i < xs.length) : ∃ ad, A = some ad ∧ w.cell? (ad.add i) = some (.string (xs.getD i ByteArray.empty)) := by
 obtain ⟨ad, cs, e, hK, hH⟩ := has_of h ByteArray.empty i hi
 obtain rfl : cs = [.string (xs.getD i ByteArray.empty)] := hK
 refine ⟨ad, e, ?_⟩
 have := hH 0 _ rfl
 rw [show Kd.string.sz = 1 from rfl, Nat.mul_one] at this
 rw [show (ad.add i).add 0 = ad.add i by unfold Addr.add; split <;> simp_all] at this
 exact this
end Go.Proofs.Ytaomemhnjpemiaa.Mp
