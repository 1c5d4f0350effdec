/- A list of numbers to which one appends behind and from which one takes ahead, as an assertion. -/
import Derived.Test.YtipcflkijcccdaaAwake
namespace Go.Proofs.Ytipcflkijcccdaa.Qu
open Go.RowKit Go.Proofs.Ytipcflkijcccdaa.Sep Go.Proofs.YtipcflkijcccdaaW.PrintWords Go.Proofs.YtipcflkijcccdaaW.PrintLast Go.Proofs.YtipcflkijcccdaaW.PrintMore
set_option linter.unusedVariables false
set_option linter.unusedSimpArgs false
theorem info3 : (Try.prog.info? 3).map (fun i => (i.zero, i.size, i.bytes)) = some (some (.int .i64 0), 1, 8) := by kernel_rfl
theorem Q_tight {k : IntKind} {e base : Nat} {w : World} {ok : Nat → Prop} {v : Value} {xs : List Int} (h : (Kd.int k).Q e w base ok v xs) (ok' : Nat → Prop) (hv : ∀ b, v.ownBlock = some b → ok' b) : (Kd.int k).Q e w base ok' v xs := by
  obtain ⟨h0, inner, ho, hr⟩ := h
  exact ⟨hv, inner, ho, hr⟩
def WQ (B : Nat) (v : Value) (ws : List Int) : Asn where
  foot k := v.ownBlock = some k
  pred W := (Kd.int .i64).Q 3 W B (fun k => v.ownBlock = some k) v ws
  move h hp := Kd.Q_move hp h
  lt hp k hk := Kd.Q_lt hp k hk
theorem WQ.nil (B : Nat) (W : World) : (WQ B (.slice none 0 0) []).pred W := Kd.Q_nil _ _ _ _ _
theorem St.wq {B : Nat} {w W W' : World} {pre post : List Asn} {v v' : Value} {ws ws' : List Int} (h : St B w W (pre ++ WQ B v ws :: post)) (T : W.grownBy W' v.ownBlock) (hr : (WQ B v' ws').pred W') (hat : v'.ownBlock = v.ownBlock ∨ ∃ b, v'.ownBlock = some b ∧ W.heap.size ≤ b) : St B w W' (pre ++ WQ B v' ws' :: post) :=
  h.turn T.os T.tape T.output T.size (fun k h1 h2 => T.block k h1 (fun e => h2 e.symm)) hr (fun k hk => by
    have hk' : v'.ownBlock = some k := hk
    rcases hat with e | ⟨b, e, hb⟩
    · exact .inl (e.symm.trans hk')
    · rw [e] at hk'
      have := Option.some.inj hk'
      exact .inr (by omega))
theorem WQ.nilf {B k : Nat} (h : (WQ B (.slice none 0 0) []).foot k) : False := by cases h
theorem WQ.foot_iff {B k : Nat} {v : Value} {ws : List Int} : (WQ B v ws).foot k ↔ v.ownBlock = some k := Iff.rfl
theorem WQ.q {B : Nat} {W : World} {v : Value} {ws : List Int} (h : (WQ B v ws).pred W) : (Kd.int .i64).Q 3 W B (fun k => v.ownBlock = some k) v ws := h
theorem WQ.ofQ {B : Nat} {W : World} {v : Value} {ws : List Int} (h : (Kd.int .i64).Q 3 W B (fun k => v.ownBlock = some k) v ws) : (WQ B v ws).pred W := h
attribute [irreducible] WQ
end Go.Proofs.Ytipcflkijcccdaa.Qu
