/- Small words of our own: the lesser and the greater of two numbers, gates, rows that lead to nothing. -/
import Derived.Test.YtkoimdgpicmakaaWWords
import Derived.Test.YtkoimdgpicmakaaWLast
import Derived.Test.YtkoimdgpicmakaaWEqStruct
import Derived.Test.YtkoimdgpicmakaaWRepsOne
namespace Go.Proofs.Ytkoimdgpicmakaa.Wm
open Go.RowKit Go.Proofs.YtkoimdgpicmakaaW.PrintWords Go.Proofs.YtkoimdgpicmakaaW.PrintLast
theorem two_hi (k k' : IntKind) (x y : Int) : Builtin.max2 (.int k x) (.int k' y) = pure (.int k (if x < y then y else x)) := by
  unfold Builtin.max2
  rfl
theorem two_lo (k k' : IntKind) (x y : Int) : Builtin.min2 (.int k x) (.int k' y) = pure (.int k (if y < x then y else x)) := by
  unfold Builtin.min2
  rfl
theorem hi_two (ats : Array TypeId) (ty : TypeId) (a b : Value) : Builtin.max_ ats ty #[a, b] = (Builtin.max2 a b >>= fun s => pure s) := by
  unfold Builtin.max_
  simp
theorem lo_two (ats : Array TypeId) (ty : TypeId) (a b : Value) : Builtin.min_ ats ty #[a, b] = (Builtin.min2 a b >>= fun s => pure s) := by
  unfold Builtin.min_
  simp
def mx (a b : Int) : Int := if a < b then b else a
def mn (a b : Int) : Int := if b < a then b else a
section
variable {P : Program} {ops : Array Oper} {rest : List Oper} {o : Oper} {a : Act} {Q : Exit → Act → World → Prop} {W : World}
theorem gate_builtin {b : Builtin} {xs : Array Operand} {ts : Array TypeId} (_ : o.op = .call { callee := .builtin b, args := xs, argTypes := ts }) (h : wpList P ops Q (o :: rest) a W) : wpList P ops Q (o :: rest) a W := h
theorem gate_callee {f : FuncId} {xs : Array Operand} {ts : Array TypeId} (_ : o.op = .call { callee := .value (.func f), args := xs, argTypes := ts }) (h : wpList P ops Q (o :: rest) a W) : wpList P ops Q (o :: rest) a W := h
end
/-- Elements that lead nowhere: whatever blocks are named. -/
theorem Kd.R_reok {α : Type} {d : Kd α} {e base : Nat} {ok ok1 : Nat → Prop} {W : World} {v : Value} {xs : List α} (hE : d.E = []) (h : d.R e W base ok1 v xs) (hok : ∀ k, v.ownBlock = some k → ok k) : d.R e W base ok v xs :=
  ⟨hok, by
    obtain ⟨_, cells, hown, hreps⟩ := h
    refine ⟨cells, hown, hreps.imp_ (fun p c hp => ?_)⟩
    exact d.M_mono (fun k hk => by obtain ⟨_, _, _, q, hq, _⟩ := hk; rw [hE] at hq; cases hq) (d.M_bound hp)⟩
/-- A row that reads lies in a block that stands. -/
theorem Kd.C_lt {α : Type} {d : Kd α} {W : World} {ad : Addr} {n : Nat} {xs : List α} (h : d.C W (some ad) n xs) (hn : 0 < n) (hs : 0 < d.sz) : ad.block < W.heap.size := by
  obtain ⟨ad', e, hr⟩ := h.2.2 hn
  injection e with e
  subst e
  obtain ⟨p, hp⟩ : ∃ p, xs[0]? = some p := ⟨_, List.getElem?_eq_getElem (by rw [h.1]; exact hn)⟩
  obtain ⟨cs, h1, h2, h3⟩ := hr 0 p hp
  obtain ⟨u, hu⟩ : ∃ u, cs[0]? = some u := ⟨_, List.getElem?_eq_getElem (by omega)⟩
  have h4 := World.block_lt_of_cell? W _ (h3 0 u hu)
  have e2 : (ad.add (0 * d.sz + 0)).block = ad.block := by unfold Addr.add; split <;> rfl
  rw [e2] at h4
  exact h4
end Go.Proofs.Ytkoimdgpicmakaa.Wm
