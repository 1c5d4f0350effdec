/- An array of eight numbers that came in; a hart. -/
import Derived.Test.YtajmfmgfdgdioaaOpens
import Derived.Test.YtajmfmgfdgdioaaPCx0
import Derived.OpenShut
namespace Go.Proofs.Ytajmfmgfdgdioaa.Opens
open Go.ChangeShapes Go.WideShapes Go.ChangeAt Go.RowKit Go.Proofs.YtajmfmgfdgdioaaW.PrintWords Go.Proofs.Ytajmfmgfdgdioaa.PC
theorem opn55 : Opn Try.prog 55 k55 (fun _ => True) := by
  refine ⟨by kernel_rfl, fun H enc W fuel cs y htr hl => ?_⟩
  obtain ⟨xs, n, _, rfl, hcl, hxl, hx⟩ := DataW.trod_array Try.underlying55 htr
  have hce : Try.prog.cellsOf 54 = 1 := by kernel_rfl
  have hc8 : Try.prog.cellsOf 55 = 8 := by kernel_rfl
  rw [hc8] at hcl
  have hi : ∀ i c, cs[i]? = some c → i < 8 → ∃ m, c = .int .u32 m := by
    intro i c hc h8
    obtain ⟨y0, hy0⟩ : ∃ y0, xs[i]? = some y0 := ⟨_, List.getElem?_eq_getElem (by omega)⟩
    have h1 := hx i (by omega)
    rw [hce, Nat.mul_one] at h1
    have h2 : (cs.drop i).take 1 = [c] := by
      obtain ⟨hl1, hl2⟩ := List.getElem?_eq_some_iff.1 hc
      rw [List.drop_eq_getElem_cons hl1, hl2]; rfl
    rw [h2] at h1
    obtain ⟨m, hm, _⟩ := DataW.trod_int Try.underlying54 (h1.trans hy0)
    exact ⟨m, (List.cons.inj hm).1⟩
  clear hx htr
  match cs, hcl, hi with
  | [c0, c1, c2, c3, c4, c5, c6, c7], _, hi =>
    obtain ⟨m0, rfl⟩ := hi 0 c0 rfl (by omega)
    obtain ⟨m1, rfl⟩ := hi 1 c1 rfl (by omega)
    obtain ⟨m2, rfl⟩ := hi 2 c2 rfl (by omega)
    obtain ⟨m3, rfl⟩ := hi 3 c3 rfl (by omega)
    obtain ⟨m4, rfl⟩ := hi 4 c4 rfl (by omega)
    obtain ⟨m5, rfl⟩ := hi 5 c5 rfl (by omega)
    obtain ⟨m6, rfl⟩ := hi 6 c6 rfl (by omega)
    obtain ⟨m7, rfl⟩ := hi 7 c7 rfl (by omega)
    exact ⟨⟨m0, m1, m2, m3, m4, m5, m6, m7⟩, k55_mk W _, trivial⟩
theorem opn59 : Opn Try.prog 59 k59 (fun _ => True) :=
  ((Opn.struct (OpnFs.cons rfl (Opn.int Try.underlying54 (by kernel_rfl)) (OpnFs.cons rfl opn55 (OpnFs.cons rfl (Opn.slice (B := 4) (Opn.int Try.underlying54 (by kernel_rfl)) Try.underlying56 (by kernel_rfl) (by kernel_rfl)) (OpnFs.cons rfl (Opn.int Try.underlying57 (by kernel_rfl)) (OpnFs.cons rfl (Opn.int Try.underlying23 (by kernel_rfl)) (OpnFs.one rfl (Opn.int Try.underlying54 (by kernel_rfl)))))))) Try.underlying59 (by kernel_rfl)).iso
    (fun x : S59 => (x.f0, x.f1, x.f2, x.f3, x.f4, x.f5)) (fun a => ⟨a.1, a.2.1, a.2.2.1, a.2.2.2.1, a.2.2.2.2.1, a.2.2.2.2.2⟩) (fun _ => rfl)).imp fun _ h => trivial
theorem opnH : Opn Try.prog 22 (Kd.slice 59 k59) (fun l => l.length * 88 ≤ 140737488351232 ∧ ∀ x, x ∈ l → True) :=
  Opn.slice (B := 88) opn59 Try.underlying22 (by kernel_rfl) (by kernel_rfl)
end Go.Proofs.Ytajmfmgfdgdioaa.Opens
