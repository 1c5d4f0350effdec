/- ObjectSames answers true at every input; its arguments read behind the call as they read before. No condition. -/
import Derived.Test.YtkoimdgpicmakaaRows
import Derived.Test.YtkoimdgpicmakaaSm
import Derived.Test.YtkoimdgpicmakaaOpn
import Derived.WalkKit
import Derived.ProofKit
import Derived.OpenShut
import Derived.ShutString
import Derived.ChangeOld
import Derived.Below
import Derived.SizedLaws
namespace Go.Proofs.Ytkoimdgpicmakaa.objectSames
open Go.ChangeShapes Go.WideShapes Go.ChangeAt Go.RowKit Go.Proofs.Ytkoimdgpicmakaa.Opens Go.Proofs.YtkoimdgpicmakaaW.PrintWords Go.Proofs.Ytkoimdgpicmakaa
open Go.ChangeMaps (open_string shut_string)
set_option linter.unusedVariables false
set_option linter.unusedSimpArgs false
theorem own : ownKnob Try.prog.godebug = none := by kernel_rfl
theorem laidOut : laidOutB Try.prog = true := by kernel_rfl
theorem wf32 {l : List Int} (h : ∀ y, y ∈ l → (Lit.int .u32 y).wf = true) : ∀ x ∈ l, 0 ≤ x ∧ x < 4294967296 := fun x hx => by have := bounds_u32 (h x hx); omega
theorem wfR {l : List PB.S50} (h : ∀ y, y ∈ l → (Lit.int .u8 y.f0).wf = true ∧ (Lit.int .u16 y.f1).wf = true ∧ (Lit.int .u16 y.f2).wf = true) : ∀ r ∈ l, 0 ≤ r.f0 ∧ 0 ≤ r.f1 ∧ r.f1 < 65536 ∧ 0 ≤ r.f2 ∧ r.f2 < 65536 := fun r hr => by
  have h1 := bounds_u8 (h r hr).1
  have h2 := bounds_u16 (h r hr).2.1
  have h3 := bounds_u16 (h r hr).2.2
  omega
set_option maxRecDepth 100000 in
theorem lifted (os : Os) (started : os.Started) (H : Type) (enc : TypeId × Value → H) :
    ReturnsInHanded {} Try.checked os 8 .any (Rows.objectSamesSpec.pre6 enc Try.prog Try.f8 Rows.objectSamesRow.domain false) (Rows.objectSamesSpec.post enc Try.prog Try.f8 false true false false) := by
  refine returnsInHanded_of_change_sized (C := Try.checked) own started (by kernel_rfl) Try.func8
    (ChangeSpec.witness6 (enc := enc) (C := Try.checked) false ⟨#[], #[.agg #[.string ByteArray.empty, .slice none 0 0, .slice none 0 0, .slice none 0 0, .slice none 0 0, .slice none 0 0], .agg #[.string ByteArray.empty, .slice none 0 0, .slice none 0 0, .slice none 0 0, .slice none 0 0, .slice none 0 0]], []⟩ 8 (by kernel_rfl) (by kernel_rfl) (by kernel_rfl) (by kernel_rfl)) ?_
  intro W base args ds gs before hval0 hW hcnd hsz0 _
  have hsz : (DataW.weightsEach Try.prog (Try.f8.params.toList ++ Rows.objectSamesSpec.plain.varTypes Try.prog) (ds ++ gs)).all (· ≤ reachBytes) = true := hsz0
  have hval : ∀ (j : Nat) t v, Try.f8.params[j]? = some t → args[j]? = some v → Value.okWide Try.prog W .any base t v := hval0
  have hW' := hW
  obtain ⟨p, q, hA0, hV, rfl, hfz, hnd⟩ := hW
  have hA : DataW.TrodAll enc Try.prog W 0 (fun _ => true) true Try.f8.params.toList args.toList ds p := hA0
  rw [Try.params8] at hA hval hsz
  have hli := light_of hsz
  obtain ⟨v0, vs0, d0, ds0, p0, q0, hargs, rfl, rfl, h0, r0⟩ := trodAll_cons hA
  obtain ⟨v1, vs1, d1, ds1, p1, q1, rfl, rfl, rfl, h1, r1⟩ := trodAll_cons r0
  obtain ⟨rfl, rfl, rfl⟩ := trodAll_nil r1
  obtain rfl : args = #[v0, v1] := by cases args; simp_all
  obtain ⟨rfl, rfl⟩ := trodVars_none hV
  have k0 := h0
  have lt0 : ∀ x ∈ p0, x.block < W.heap.size := by obtain ⟨m, hm⟩ := k0; exact DataW.trod_lt m _ _ _ hm
  have k1 := h1
  have lt1 : ∀ x ∈ p1, x.block < W.heap.size := by obtain ⟨m, hm⟩ := k1; exact DataW.trod_lt m _ _ _ hm
  obtain ⟨x0, cs0, rfl, hk0, hg0⟩ := open_struct Try.underlying26 opnMod (hval 0 26 v0 rfl rfl) h0 (hli 0 26 d0 rfl rfl)
  obtain ⟨Aa1, ca1, Aa2, ca2, Aa3, ca3, Aa4, ca4, Aa5, ca5, rfl, ⟨hCa1, hca1⟩, ⟨hCa2, hca2⟩, ⟨hCa3, hca3⟩, ⟨hCa4, hca4⟩, ⟨hCa5, hca5⟩⟩ := kMod_open hk0
  obtain ⟨an0, al1, al2, al3, al4, al5⟩ := x0
  obtain ⟨_, _, _, ⟨_, ga3⟩, ⟨_, ga4⟩, ⟨_, ga5⟩⟩ := hg0
  dsimp only at *
  obtain ⟨x1, cs1, rfl, hk1, hg1⟩ := open_struct Try.underlying26 opnMod (hval 1 26 v1 rfl rfl) h1 (hli 1 26 d1 rfl rfl)
  obtain ⟨Ab1, cb1, Ab2, cb2, Ab3, cb3, Ab4, cb4, Ab5, cb5, rfl, ⟨hCb1, hcb1⟩, ⟨hCb2, hcb2⟩, ⟨hCb3, hcb3⟩, ⟨hCb4, hcb4⟩, ⟨hCb5, hcb5⟩⟩ := kMod_open hk1
  obtain ⟨bn0, bl1, bl2, bl3, bl4, bl5⟩ := x1
  obtain ⟨_, _, _, ⟨_, gb3⟩, ⟨_, gb4⟩, ⟨_, gb5⟩⟩ := hg1
  dsimp only at *
  clear hA0 hval0 hsz0 hsz hli
  refine (Ob.sames ⟨an0, al1, al2, al3, al4, al5⟩ Aa1 ca1 Aa2 ca2 Aa3 ca3 Aa4 ca4 Aa5 ca5 ⟨bn0, bl1, bl2, bl3, bl4, bl5⟩ Ab1 cb1 Ab2 cb2 Ab3 cb3 Ab4 cb4 Ab5 cb5 W ⟨hCa1, hca1, hCa2, hca2, hCa3, hca3, hCa4, hca4, hCa5, hca5⟩ ⟨hCb1, hcb1, hCb2, hcb2, hCb3, hcb3, hCb4, hcb4, hCb5, hcb5⟩ ⟨wf32 ga3, wf32 ga4, wfR ga5⟩ ⟨wf32 gb3, wf32 gb4, wfR gb5⟩).mono fun e W' ⟨he, bel⟩ => ?_
  subst he
  exact ⟨_, rfl, _, _, _, [], _, [], hW', trodAll_mk1 (shut_bool Try.underlying4 _), (trodAll_cons_mk (Below.trod laidOut (by kernel_rfl) (of_decide_eq_true (by kernel_rfl)) k0 bel lt0) (trodAll_cons_mk (Below.trod laidOut (by kernel_rfl) (of_decide_eq_true (by kernel_rfl)) k1 bel lt1) trodAll_mk0)), rfl, bel.frame _, fun h => by cases h⟩
theorem over : Rows.objectSamesRow.holds Try.pinned (OpenSpec.ofChange Rows.objectSamesSpec) :=
  OpenClaim.holds_of_wide 8 Try.f8 rfl rfl rfl rfl rfl rfl rfl ⟨rfl, rfl, rfl, rfl, rfl⟩ rfl rfl rfl rfl rfl (by kernel_rfl) Try.func8 (by kernel_rfl)
    (of_decide_eq_true (by kernel_rfl)) (by unfold Func.isWrapper; first | (rw [if_pos (by decide +kernel)]; kernel_rfl) | (rw [if_neg (by decide +kernel)]; exact ⟨rfl, rfl⟩))
    (fun os started H enc _ => lifted os started H enc)
theorem proved : Rows.ObjectSamesSaid := over
#print axioms proved
end Go.Proofs.Ytkoimdgpicmakaa.objectSames
