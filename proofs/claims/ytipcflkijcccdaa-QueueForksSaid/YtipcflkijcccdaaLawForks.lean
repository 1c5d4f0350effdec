/- QueueForks answers true at every input; its arguments read behind the call as they read before. No condition. -/
import Derived.Test.YtipcflkijcccdaaRows
import Derived.Test.YtipcflkijcccdaaForks
import Derived.Test.YtipcflkijcccdaaTwoOf
import Derived.WalkKit
import Derived.ProofKit
import Derived.OpenShut
import Derived.ShutString
import Derived.ChangeOld
import Derived.Below
import Derived.SizedLaws
namespace Go.Proofs.Ytipcflkijcccdaa.queueForks
open Go.ChangeShapes Go.WideShapes Go.ChangeAt Go.RowKit Go.Proofs.Ytipcflkijcccdaa.Opens Go.Proofs.YtipcflkijcccdaaW.PrintWords
open Go.ChangeMaps (open_string shut_string)
set_option linter.unusedVariables false
set_option linter.unusedSimpArgs false
theorem own : ownKnob Try.prog.godebug = none := by kernel_rfl
theorem laidOut : laidOutB Try.prog = true := by kernel_rfl
theorem opn33 : Opn Try.prog 33 K.k33 (fun x => (Lit.int .u8 x.f0).wf = true ∧ x.f1.size ≤ 140737488351232 ∧ (x.f2.length * 1 ≤ 140737488351232 ∧ ∀ y, y ∈ x.f2 → (Lit.int .u8 y).wf = true)) :=
  ((Opn.struct (OpnFs.cons rfl (Opn.int Try.underlying5 (by kernel_rfl)) (OpnFs.cons rfl (Opn.string Try.underlying9 (by kernel_rfl)) (OpnFs.one rfl (Opn.slice (B := 1) (Opn.int Try.underlying5 (by kernel_rfl)) Try.underlying31 (by kernel_rfl) (by kernel_rfl))))) Try.underlying33 (by kernel_rfl)).iso
    (fun x : K.S33 => (x.f0, x.f1, x.f2)) (fun a => ⟨a.1, a.2.1, a.2.2⟩) (fun _ => rfl)).imp fun _ h => h
theorem opn35 : Opn Try.prog 35 K.k35 (fun x => (Lit.int .u8 x.f0).wf = true ∧ (Lit.int .u8 x.f1.f0).wf = true ∧ x.f1.f1.size ≤ 140737488351232 ∧ (x.f1.f2.length * 1 ≤ 140737488351232 ∧ ∀ y, y ∈ x.f1.f2 → (Lit.int .u8 y).wf = true)) :=
  ((Opn.struct (OpnFs.cons rfl (Opn.int Try.underlying5 (by kernel_rfl)) (OpnFs.one rfl opn33)) Try.underlying35 (by kernel_rfl)).iso
    (fun x : K.S35 => (x.f0, x.f1)) (fun a => ⟨a.1, a.2⟩) (fun _ => rfl)).imp fun _ h => h
theorem opnA : Opn Try.prog 22 (Kd.slice 35 K.k35) (fun l => l.length * 56 ≤ 140737488351232 ∧ ∀ x, x ∈ l → ((Lit.int .u8 x.f0).wf = true ∧ (Lit.int .u8 x.f1.f0).wf = true ∧ x.f1.f1.size ≤ 140737488351232 ∧ (x.f1.f2.length * 1 ≤ 140737488351232 ∧ ∀ y, y ∈ x.f1.f2 → (Lit.int .u8 y).wf = true))) :=
  Opn.slice (B := 56) opn35 Try.underlying22 (by kernel_rfl) (by kernel_rfl)
theorem opnT : Opn Try.prog 51 (Kd.pair K.k33 K.k33) (fun x => ((Lit.int .u8 x.1.f0).wf = true ∧ x.1.f1.size ≤ 140737488351232 ∧ (x.1.f2.length * 1 ≤ 140737488351232 ∧ ∀ y, y ∈ x.1.f2 → (Lit.int .u8 y).wf = true)) ∧ ((Lit.int .u8 x.2.f0).wf = true ∧ x.2.f1.size ≤ 140737488351232 ∧ (x.2.f2.length * 1 ≤ 140737488351232 ∧ ∀ y, y ∈ x.2.f2 → (Lit.int .u8 y).wf = true))) := Opn.two opn33 Try.underlying51 (by kernel_rfl)
set_option maxRecDepth 100000 in
theorem lifted (os : Os) (started : os.Started) (H : Type) (enc : TypeId × Value → H) :
    ReturnsInHanded {} Try.checked os 6 .any (Rows.queueForksSpec.pre6 enc Try.prog Try.f6 Rows.queueForksRow.domain false) (Rows.queueForksSpec.post enc Try.prog Try.f6 false true false false) := by
  refine returnsInHanded_of_change_sized (C := Try.checked) own started (by kernel_rfl) Try.func6
    (ChangeSpec.witness6 (enc := enc) (C := Try.checked) false ⟨#[], #[.slice none 0 0, .slice none 0 0, .agg #[.int .u8 0, .string ⟨#[]⟩, .slice none 0 0, .int .u8 0, .string ⟨#[]⟩, .slice none 0 0]], []⟩ 8 (by kernel_rfl) (by kernel_rfl) (by kernel_rfl) (by kernel_rfl)) ?_
  intro W base args ds gs before hval0 hW hcnd hsz0 _
  have hsz : (DataW.weightsEach Try.prog (Try.f6.params.toList ++ Rows.queueForksSpec.plain.varTypes Try.prog) (ds ++ gs)).all (· ≤ reachBytes) = true := hsz0
  have hval : ∀ (j : Nat) t v, Try.f6.params[j]? = some t → args[j]? = some v → Value.okWide Try.prog W .any base t v := hval0
  have hW' := hW
  obtain ⟨p, q, hA0, hV, rfl, hfz, hnd⟩ := hW
  have hA : DataW.TrodAll enc Try.prog W 0 (fun _ => true) true Try.f6.params.toList args.toList ds p := hA0
  rw [Try.params6] at hA hval hsz
  have hli := light_of hsz
  obtain ⟨v0, vs0, d0, ds0, p0, q0, hargs, rfl, rfl, h0, r0⟩ := trodAll_cons hA
  obtain ⟨v1, vs1, d1, ds1, p1, q1, rfl, rfl, rfl, h1, r1⟩ := trodAll_cons r0
  obtain ⟨v2, vs2, d2, ds2, p2, q2, rfl, rfl, rfl, h2, r2⟩ := trodAll_cons r1
  obtain ⟨rfl, rfl, rfl⟩ := trodAll_nil r2
  obtain rfl : args = #[v0, v1, v2] := by cases args; simp_all
  obtain ⟨rfl, rfl⟩ := trodVars_none hV
  have k0 := h0
  have lt0 : ∀ x ∈ p0, x.block < W.heap.size := by obtain ⟨m, hm⟩ := k0; exact DataW.trod_lt m _ _ _ hm
  have k1 := h1
  have lt1 : ∀ x ∈ p1, x.block < W.heap.size := by obtain ⟨m, hm⟩ := k1; exact DataW.trod_lt m _ _ _ hm
  have k2 := h2
  have lt2 : ∀ x ∈ p2, x.block < W.heap.size := by obtain ⟨m, hm⟩ := k2; exact DataW.trod_lt m _ _ _ hm
  obtain ⟨x0, hk0, hg0⟩ := open_slice_ Try.underlying22 opnA (hval 0 22 v0 rfl rfl) h0 (hli 0 22 d0 rfl rfl)
  obtain ⟨A0, c0, e0, hc0, hC0⟩ := hk0
  injection e0 with e0; subst e0
  have hac0 : ∀ x ∈ x0, 0 ≤ x.f0 ∧ x.f0 < 256 ∧ x.f1.f2.length < 140737488355328 := fun x hx => by have h1 := bounds_u8 (hg0.2 x hx).1; have h2 := (hg0.2 x hx).2.2.2.1; omega
  obtain ⟨x1, hk1, hg1⟩ := open_slice_ Try.underlying22 opnA (hval 1 22 v1 rfl rfl) h1 (hli 1 22 d1 rfl rfl)
  obtain ⟨A1, c1, e1, hc1, hC1⟩ := hk1
  injection e1 with e1; subst e1
  have hac1 : ∀ x ∈ x1, 0 ≤ x.f0 ∧ x.f0 < 256 ∧ x.f1.f2.length < 140737488355328 := fun x hx => by have h1 := bounds_u8 (hg1.2 x hx).1; have h2 := (hg1.2 x hx).2.2.2.1; omega
  obtain ⟨x2, cs2, rfl, hk2, hg2⟩ := open_two Try.underlying51 opnT (hval 2 51 v2 rfl rfl) h2 (hli 2 51 d2 rfl rfl)
  obtain ⟨cs_a, cs_b, rfl, ka, kb⟩ := hk2
  obtain ⟨Aa, ca, rfl, hca, hra⟩ := K.k33_open ka
  obtain ⟨Ab, cb, rfl, hcb, hrb⟩ := K.k33_open kb
  have hba : ∀ y ∈ x2.1.f2, 0 ≤ y ∧ y < 256 := fun y hy => by have := bounds_u8 (hg2.1.2.2.2 y hy); omega
  have hbb : ∀ y ∈ x2.2.f2, 0 ≤ y ∧ y < 256 := fun y hy => by have := bounds_u8 (hg2.2.2.2.2 y hy); omega
  have hla : x2.1.f2.length < 140737488355328 := by have := hg2.1.2.2.1; omega
  clear hA0 hval0 hsz0 hsz hli
  refine (Forks.forks A0 x0 c0 A1 x1 c1 x2.1.f0 x2.1.f1 Aa x2.1.f2 ca x2.2.f0 x2.2.f1 Ab x2.2.f2 cb W hC0 hC1 hac0 hac1 hra hca hla hba hrb hcb hbb).mono fun e W' ⟨he, bel⟩ => ?_
  subst he
  exact ⟨_, rfl, _, _, _, [], _, [], hW', trodAll_mk1 (shut_bool Try.underlying4 _), (trodAll_cons_mk (Below.trod laidOut (by kernel_rfl) (of_decide_eq_true (by kernel_rfl)) k0 bel lt0) (trodAll_cons_mk (Below.trod laidOut (by kernel_rfl) (of_decide_eq_true (by kernel_rfl)) k1 bel lt1) (trodAll_cons_mk (Below.trod laidOut (by kernel_rfl) (of_decide_eq_true (by kernel_rfl)) k2 bel lt2) trodAll_mk0))), rfl, bel.frame _, fun h => by cases h⟩
theorem over : Rows.queueForksRow.holds Try.pinned (OpenSpec.ofChange Rows.queueForksSpec) :=
  OpenClaim.holds_of_wide 6 Try.f6 rfl rfl rfl rfl rfl rfl rfl ⟨rfl, rfl, rfl, rfl, rfl⟩ rfl rfl rfl rfl rfl (by kernel_rfl) Try.func6 (by kernel_rfl)
    (of_decide_eq_true (by kernel_rfl)) (by unfold Func.isWrapper; first | (rw [if_pos (by decide +kernel)]; kernel_rfl) | (rw [if_neg (by decide +kernel)]; exact ⟨rfl, rfl⟩))
    (fun os started H enc _ => lifted os started H enc)
theorem proved : Rows.QueueForksSaid := over
#print axioms proved
end Go.Proofs.Ytipcflkijcccdaa.queueForks
