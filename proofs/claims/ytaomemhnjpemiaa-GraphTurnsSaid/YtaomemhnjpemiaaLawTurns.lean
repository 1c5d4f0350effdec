/- GraphTurns answers true at every input; its arguments read behind the call as they read before. No condition. -/
import Derived.Test.YtaomemhnjpemiaaRows
import Derived.Test.YtaomemhnjpemiaaTu
import Derived.Test.YtaomemhnjpemiaaOpens
import Derived.WalkKit
import Derived.ProofKit
import Derived.OpenShut
import Derived.ShutString
import Derived.ChangeOld
import Derived.Below
import Derived.SizedLaws
namespace Go.Proofs.Ytaomemhnjpemiaa.graphTurns
open Go.ChangeShapes Go.WideShapes Go.ChangeAt Go.RowKit Go.Proofs.Ytaomemhnjpemiaa.Opens Go.Proofs.YtaomemhnjpemiaaW.PrintWords Go.Proofs.Ytaomemhnjpemiaa.PB
open Go.ChangeMaps (open_string shut_string)
set_option linter.unusedVariables false
set_option linter.unusedSimpArgs false
theorem own : ownKnob Try.prog.godebug = none := by kernel_rfl
theorem laidOut : laidOutB Try.prog = true := by kernel_rfl
theorem opn34 : Opn Try.prog 34 k34 (fun x => x.f1.size ≤ maxLen ∧ ∀ y ∈ x.f2, y.size ≤ maxLen) :=
 ((Opn.struct (OpnFs.cons rfl (Opn.int Try.underlying5 (by kernel_rfl)) (OpnFs.cons rfl (Opn.string Try.underlying9 (by kernel_rfl)) (OpnFs.one rfl (Opn.slice (B := 16) (Opn.string Try.underlying9 (by kernel_rfl)) Try.underlying32 (by kernel_rfl) (by kernel_rfl))))) Try.underlying34 (by kernel_rfl)).iso (fun x : S34 => (x.f0, x.f1, x.f2)) (fun p => ⟨p.1, p.2.1, p.2.2⟩) (fun _ => rfl)).imp fun x h => ⟨Nat.le_trans h.2.1 (by unfold maxLen; omega), fun y hy => Nat.le_trans (h.2.2.2 y hy) (by unfold maxLen; omega)⟩
theorem opnA : Opn Try.prog 22 (Kd.slice 34 k34) (fun l => l.length * 48 ≤ 140737488351232 ∧ ∀ x, x ∈ l → x.f1.size ≤ maxLen ∧ ∀ y ∈ x.f2, y.size ≤ maxLen) :=
 Opn.slice (B := 48) opn34 Try.underlying22 (by kernel_rfl) (by kernel_rfl)
set_option maxRecDepth 100000 in
theorem lifted (os : Os) (started : os.Started) (H : Type) (enc : TypeId × Value → H) :
  ReturnsInHanded {} Try.checked os 5 .any (Rows.graphTurnsSpec.pre6 enc Try.prog Try.f5 Rows.graphTurnsRow.domain false) (Rows.graphTurnsSpec.post enc Try.prog Try.f5 false true false false) := by
 refine returnsInHanded_of_change_sized (C := Try.checked) own started (by kernel_rfl) Try.func5
  (ChangeSpec.witness6 (enc := enc) (C := Try.checked) false ⟨#[], #[.slice none 0 0, .agg #[.int .u8 0, .string ByteArray.empty, .slice none 0 0]], []⟩ 8 (by kernel_rfl) (by kernel_rfl) (by kernel_rfl) (by kernel_rfl)) ?_
 intro W base args ds gs before hval0 hW hcnd hsz0 _
 have hsz : (DataW.weightsEach Try.prog (Try.f5.params.toList ++ Rows.graphTurnsSpec.plain.varTypes Try.prog) (ds ++ gs)).all (· ≤ reachBytes) = true := hsz0
 have hval : ∀ (j : Nat) t v, Try.f5.params[j]? = some t → args[j]? = some v → Value.okWide Try.prog W .any base t v := hval0
 have hW' := hW
 obtain ⟨p, q, hA0, hV, rfl, hfz, hnd⟩ := hW
 have hA : DataW.TrodAll enc Try.prog W 0 (fun _ => true) true Try.f5.params.toList args.toList ds p := hA0
 rw [Try.params5] at hA hval hsz
 have hli := light_of hsz
 obtain ⟨v0, vs0, d0, ds0, p0, q0, hargs, rfl, rfl, h0, r0⟩ := trodAll_cons hA
 obtain ⟨v1, vs1, d1, ds1, p1, q1, rfl, rfl, rfl, h1, r1⟩ := trodAll_cons r0
 obtain ⟨rfl, rfl, rfl⟩ := trodAll_nil r1
 obtain rfl : args = #[v0, v1] := by cases args; simp_all
 obtain ⟨rfl, rfl⟩ := trodVars_none hV
 have k0 := h0
 have lt0 : ∀ x ∈ p0, x.block < W.heap.size := by obtain ⟨m, hm⟩ := k0; exact DataW.trod_lt m _ _ _ hm
 have k1 := h1
 have lt1 : ∀ x ∈ p1, x.block < W.heap.size := by obtain ⟨m, hm⟩ := k1; exact DataW.trod_lt m _ _ _ hm
 obtain ⟨x0, hk0, hg0⟩ := open_slice_ Try.underlying22 opnA (hval 0 22 v0 rfl rfl) h0 (hli 0 22 d0 rfl rfl)
 obtain ⟨A0, c0, e0, hc0, hC0⟩ := hk0
 injection e0 with e0; subst e0
 obtain ⟨x1, cs1, rfl, hk1, hg1⟩ := open_struct Try.underlying34 opn34 (hval 1 34 v1 rfl rfl) h1 (hli 1 34 d1 rfl rfl)
 obtain ⟨A1, c1, rfl, hc1, hC1⟩ := k34_open hk1
 clear hA0 hval0 hsz0 hsz hli
 refine (Mp.turns A0 x0 c0 x1.f0 x1.f1 A1 c1 x1.f2 W hC0 hc0 hg0.2 hC1 hc1 hg1.1 hg1.2).mono fun e W' ⟨he, bel⟩ => ?_
 subst he
 exact ⟨_, rfl, _, _, _, [], _, [], hW', trodAll_mk1 (shut_bool Try.underlying4 _), (trodAll_cons_mk (Below.trod laidOut (by kernel_rfl) (of_decide_eq_true (by kernel_rfl)) k0 bel lt0) (trodAll_cons_mk (Below.trod laidOut (by kernel_rfl) (of_decide_eq_true (by kernel_rfl)) k1 bel lt1) trodAll_mk0)), rfl, bel.frame _, fun h => by cases h⟩
theorem over : Rows.graphTurnsRow.holds Try.pinned (OpenSpec.ofChange Rows.graphTurnsSpec) :=
 OpenClaim.holds_of_wide 5 Try.f5 rfl rfl rfl rfl rfl rfl rfl ⟨rfl, rfl, rfl, rfl, rfl⟩ rfl rfl rfl rfl rfl (by kernel_rfl) Try.func5 (by kernel_rfl)
  (of_decide_eq_true (by kernel_rfl)) (by unfold Func.isWrapper; first | (rw [if_pos (by decide +kernel)]; kernel_rfl) | (rw [if_neg (by decide +kernel)]; exact ⟨rfl, rfl⟩))
  (fun os started H enc _ => lifted os started H enc)
theorem proved : Rows.GraphTurnsSaid := over
#print axioms proved
end Go.Proofs.Ytaomemhnjpemiaa.graphTurns
