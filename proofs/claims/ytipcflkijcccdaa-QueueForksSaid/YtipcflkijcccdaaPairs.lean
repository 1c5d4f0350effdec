/- A queue and the document's queue side by side: what any call makes of both. -/
import Derived.Test.YtipcflkijcccdaaSame
import Derived.Test.YtipcflkijcccdaaDo
namespace Go.Proofs.Ytipcflkijcccdaa.Pairs
open Go.RowKit Go.Proofs.Ytipcflkijcccdaa.Sep Go.Proofs.YtipcflkijcccdaaW.PrintWords Go.Proofs.YtipcflkijcccdaaW.PrintLast Go.Proofs.YtipcflkijcccdaaW.PrintMore Go.Proofs.Ytipcflkijcccdaa.X Go.Proofs.Ytipcflkijcccdaa.Qu Go.Proofs.Ytipcflkijcccdaa.Ev Go.Proofs.Ytipcflkijcccdaa.PB Go.Proofs.Ytipcflkijcccdaa.Sys
set_option linter.unusedVariables false
set_option linter.unusedSimpArgs false
theorem do_any (g : Nat) (m : Int) (R : List S57) (A : Option Addr) (n c : Nat) (D : Nat → Prop) (kd rk : Int) (nm : ByteArray) (Ao : Option Addr) (o : List Int) (co : Nat) (w : World) (h : Pair w g m (R.map it) (.slice A n c) R D) (h8 : R.length ≤ 8) (hm0 : 0 ≤ m) (hm1 : m < 4611686018427387904)
    (hk0 : 0 ≤ kd) (hk1 : kd < 256) (hr : (Row Ao o).pred w) (hg : ∀ k, (Row Ao o).foot k → k ≠ g) (hc : o.length ≤ co) (hl : o.length < 140737488355328) :
    Calls Try.prog 9 #[.pointer (some ⟨g, 0, none⟩), .agg #[.slice A n c, .int .i64 m], .agg #[.int .u8 kd, .int .u8 rk, .string nm, .slice Ao o.length co]] w fun z w' => ∃ (m' : Int) (R' : List S57), m ≤ m' ∧ m' ≤ m + 1 ∧ R'.length ≤ 8 ∧ Did w g m' R' D z w' := by
  by_cases hk : kd % 3 = 2
  · cases R with
    | nil => exact (Do.pop_none g m A n c D kd rk nm Ao o.length co w h hk0 hk1 hk).mono fun z w' hd => ⟨m, [], by omega, by omega, by simp, hd⟩
    | cons x R => exact (Do.pop_some g m x R A n c D kd rk nm Ao o.length co w h (by simp at h8; omega) hk0 hk1 hk).mono fun z w' hd => ⟨m, R, by omega, by omega, by simp at h8; omega, hd⟩
  · by_cases hf : R.length < 8
    · exact (Do.push_ok g m R A n c D kd rk nm Ao o co w h hf hm0 hm1 hk0 hk1 hk hr hg hc hl).mono fun z w' hd => ⟨m + 1, _, by omega, by omega, by simp; omega, hd⟩
    · exact (Do.push_full g m R A n c D kd rk nm Ao o co w h hf hm0 hm1 hk0 hk1 hk hr hg hc hl).mono fun z w' hd => ⟨m + 1, _, by omega, by omega, h8, hd⟩
theorem same_any (g : Nat) (m : Int) (R : List S57) (A : Option Addr) (n c : Nat) (D : Nat → Prop) (w : World) (h : Pair w g m (R.map it) (.slice A n c) R D) (h8 : R.length ≤ 8) :
    Calls Try.prog 10 #[.pointer (some ⟨g, 0, none⟩), .agg #[.slice A n c, .int .i64 m]] w fun z w' => z = .returned (.bool true) ∧ Done w g m (R.map it) (.slice A n c) R D w' := by
  have hn : n = R.length := (Kd.V_reads' h.view).1
  cases R with
  | nil => exact Same.same_nil g m A n c D w h hn
  | cons x R => exact Same.same_some g m x R A n c D w h (by simp at h8; omega) (by simpa using hn)
/-- Both as an assertion. -/
def PairA (g : Nat) (m : Int) (L : List It) (v : Value) (R : List S57) (D : Nat → Prop) : Asn where
  foot k := k = g ∨ D k
  pred W := Pair W g m L v R D
  move h hp := hp.move h
  lt hp k hk := by
    rcases hk with rfl | hk
    · exact hp.ring.lt
    · exact (hp.ring.away k hk).2
section
variable {B : Nat} {w W W' : World} {g : Nat} {m m' : Int} {L L' : List It} {v v' : Value} {R R' : List S57} {D D' : Nat → Prop} {La : List Asn} {F : Asn → List Asn}
theorem PairA.pair (h : (PairA g m L v R D).pred W) : Pair W g m L v R D := h
theorem PairA.mk (h : Pair W g m L v R D) : (PairA g m L v R D).pred W := h
theorem PairA.foot_iff {k : Nat} : (PairA g m L v R D).foot k ↔ (k = g ∨ D k) := Iff.rfl
attribute [irreducible] PairA
theorem PairA.step (S : Aside0 (St B w W La)) (hs : Spot La (PairA g m L v R D) F) (hd : Done W g m' L' v' R' D W') : ∃ D', Aside0 (St B w W' (F (PairA g m' L' v' R' D'))) := by
  obtain ⟨T, D', h1, h2⟩ := hd
  refine ⟨D', ⟨turn_at S.out hs T.os T.tape T.output T.size (fun k hk hn => T.block k hk (fun e => hn (PairA.foot_iff.2 (.inl e)))) (PairA.mk h2) (fun k hk => ?_)⟩⟩
  rcases PairA.foot_iff.1 hk with h | h
  · exact .inl (PairA.foot_iff.2 (.inl h))
  · exact (h1 k h).imp_left (fun h => PairA.foot_iff.2 (.inr h))
theorem new_ev (S : Aside0 (St B w W La)) :
    Calls Try.prog 8 #[] W fun z W' => ∃ g, z = .returned (.pointer (some ⟨g, 0, none⟩)) ∧ Aside0 (St B w W' (PairA g 0 [] (.slice none 0 0) [] (fun _ => False) :: La)) := by
  refine (new_calls W).mono ?_
  rintro z W' ⟨g, rfl, hg, hl, hb⟩
  exact ⟨g, rfl, ⟨St.add S.out hb _ (PairA.mk ⟨Ring.new hl, Kd.V_nil _ _ _ _ _⟩) (fun k hk => by rcases PairA.foot_iff.1 hk with h | h; exact h ▸ hg; exact h.elim)⟩⟩
theorem do_ev {n c : Nat} {A : Option Addr} {kd rk : Int} {nm : ByteArray} {Ao : Option Addr} {o : List Int} {co : Nat} (S : Aside0 (St w.heap.size w W La)) (hs : Spot La (PairA g m (R.map it) (.slice A n c) R D) F) (h8 : R.length ≤ 8) (hm0 : 0 ≤ m) (hm1 : m < 4611686018427387904)
    (hk0 : 0 ≤ kd) (hk1 : kd < 256) (hr : Kd.C (Kd.int .u8) w Ao o.length o) (hc : o.length ≤ co) (hl : o.length < 140737488355328) :
    Calls Try.prog 9 #[.pointer (some ⟨g, 0, none⟩), .agg #[.slice A n c, .int .i64 m], .agg #[.int .u8 kd, .int .u8 rk, .string nm, .slice Ao o.length co]] W fun z W' => ∃ A' n' c' m' R' D', z = .returned (.tuple #[.agg #[.slice A' n' c', .int .i64 m'], .bool true]) ∧ m ≤ m' ∧ m' ≤ m + 1 ∧ R'.length ≤ 8 ∧ Aside0 (St w.heap.size w W' (F (PairA g m' (R'.map it) (.slice A' n' c') R' D'))) := by
  have hg : w.heap.size ≤ g := new_at S.out hs g (PairA.foot_iff.2 (.inl rfl))
  have hrow : (Row Ao o).pred w := hr
  refine (do_any g m R A n c D kd rk nm Ao o co W (PairA.pair (pred_at S.out hs)) h8 hm0 hm1 hk0 hk1 (Kd.C_below hr S.out.below) (fun k hk e => by have := (Row Ao o).lt hrow k hk; omega) hc hl).mono ?_
  rintro z W' ⟨m', R', h1, h2, h3, A', n', c', rfl, _, hd⟩
  obtain ⟨D', S'⟩ := PairA.step S hs hd
  exact ⟨A', n', c', m', R', D', rfl, h1, h2, h3, S'⟩
theorem same_ev {n c : Nat} {A : Option Addr} (S : Aside0 (St B w W La)) (hs : Spot La (PairA g m (R.map it) (.slice A n c) R D) F) (h8 : R.length ≤ 8) :
    Calls Try.prog 10 #[.pointer (some ⟨g, 0, none⟩), .agg #[.slice A n c, .int .i64 m]] W fun z W' => z = .returned (.bool true) ∧ ∃ D', Aside0 (St B w W' (F (PairA g m (R.map it) (.slice A n c) R D'))) := by
  refine (same_any g m R A n c D W (PairA.pair (pred_at S.out hs)) h8).mono ?_
  rintro z W' ⟨rfl, hd⟩
  exact ⟨rfl, PairA.step S hs hd⟩
end
end Go.Proofs.Ytipcflkijcccdaa.Pairs
