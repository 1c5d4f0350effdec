/- An array of two that came in. -/
import Derived.Test.YtipcflkijcccdaaOpens
import Derived.OpenShut
namespace Go.Proofs.Ytipcflkijcccdaa.Opens
open Go.ChangeShapes Go.WideShapes Go.ChangeAt Go.RowKit Go.Proofs.YtipcflkijcccdaaW.PrintWords
section
variable {P : Program} {t e : TypeId}
theorem Opn.two {α : Type} {d : Kd α} {G : α → Prop} (h : Opn P e d G) (ht : P.underlying t = some (.array 2 e)) (hc : P.cellsOf t = d.sz + d.sz) : Opn P t (Kd.pair d d) (fun x => G x.1 ∧ G x.2) := by
  refine ⟨hc, fun H enc W fuel cs y htr hl => ?_⟩
  obtain ⟨xs, n, _, rfl, hcl, hxl, hx⟩ := DataW.trod_array ht htr
  match xs, hxl with
  | [y0, y1], _ =>
    have h0 := hx 0 (by omega)
    have h1 := hx 1 (by omega)
    rw [h.1] at h0 h1
    simp only [Nat.zero_mul, List.drop_zero, Nat.one_mul] at h0 h1
    rw [List.take_of_length_le (by rw [List.length_drop]; omega)] at h1
    obtain ⟨a, ka, ga⟩ := h.2 H enc W n _ y0 h0 (fun q hq => hl q (by simp only [DataW.weights, ht, List.map_cons, DataW.weightsAll]; exact List.mem_append_left _ hq))
    obtain ⟨b, kb, gb⟩ := h.2 H enc W n _ y1 h1 (fun q hq => hl q (by simp only [DataW.weights, ht, List.map_cons, DataW.weightsAll]; exact List.mem_append_right _ (List.mem_append_left _ hq)))
    exact ⟨(a, b), ⟨_, _, (List.take_append_drop d.sz cs).symm, ka, kb⟩, ga, gb⟩
end
section
variable {H : Type} {enc : TypeId × Value → H} {P : Program} {W : World} {base : Nat} {t e : TypeId} {v : Value} {y : DataW H} {p : List MemPlace} {α : Type} {d : Kd α} {G : α → Prop}
theorem open_two (hs : P.underlying t = some (.array 2 e)) (ho : Opn P t d G) (hv : Value.okWide P W .any base t v) (h : DataW.Trod enc P W 0 (fun _ => true) true t v y p) (hl : Light P t y) :
    ∃ x cs, v = .agg cs.toArray ∧ d.K W x cs ∧ G x := by
  have hv' : ∃ cs, v = .agg cs := by
    simp only [Value.okWide, hs] at hv
    obtain ⟨cs, h1, _⟩ := hv
    exact ⟨cs, h1⟩
  obtain ⟨cs, rfl⟩ := hv'
  obtain ⟨fuel, hf⟩ := h
  obtain ⟨x, hk, hg⟩ := ho.2 H enc W fuel cs.toList _ (by simpa [Value.cells] using hf) hl
  exact ⟨x, cs.toList, by simp, hk, hg⟩
end
end Go.Proofs.Ytipcflkijcccdaa.Opens
