/- A module, as it came in: its text, its lists of texts, its words and its relocations. -/
import Derived.Test.YtmjompmepicnhaaOpens
import Derived.Test.YtmjompmepicnhaaPBx0
namespace Go.Proofs.Ytmjompmepicnhaa.Opens
open Go.RowKit Go.Proofs.Ytmjompmepicnhaa.PB Go.Proofs.YtmjompmepicnhaaW.PrintWords
theorem opn9 : Opn Try.prog 9 Kd.string (fun x => x.size ≤ 140737488351232) := Opn.string Try.underlying9 (by kernel_rfl)
theorem opn24 : Opn Try.prog 24 (Kd.int .u32) (fun x => (Lit.int .u32 x).wf = true) := Opn.int Try.underlying24 (by kernel_rfl)
theorem opn75 : Opn Try.prog 75 k75 (fun x => (Lit.int .u8 x.f0).wf = true ∧ (Lit.int .u16 x.f1).wf = true ∧ (Lit.int .u16 x.f2).wf = true) :=
  ((Opn.struct (OpnFs.cons rfl (Opn.int Try.underlying72 (by kernel_rfl)) (OpnFs.cons rfl (Opn.int Try.underlying73 (by kernel_rfl)) (OpnFs.one rfl (Opn.int Try.underlying73 (by kernel_rfl))))) Try.underlying75 (by kernel_rfl)).iso
    (fun x : S75 => (x.f0, x.f1, x.f2)) (fun a => ⟨a.1, a.2.1, a.2.2⟩) (fun _ => rfl)).imp fun _ h => h
/-- A module's parts. -/
def kMod : Kd (ByteArray × List ByteArray × List ByteArray × List Int × List Int × List S75) :=
  Kd.pair Kd.string (Kd.pair (Kd.slice 9 Kd.string) (Kd.pair (Kd.slice 9 Kd.string) (Kd.pair (Kd.slice 24 (Kd.int .u32)) (Kd.pair (Kd.slice 24 (Kd.int .u32)) (Kd.slice 75 k75)))))
theorem opnMod : Opn Try.prog 42 kMod (fun x => x.1.size ≤ 140737488351232 ∧ (x.2.1.length * 16 ≤ 140737488351232 ∧ ∀ y, y ∈ x.2.1 → y.size ≤ 140737488351232) ∧ (x.2.2.1.length * 16 ≤ 140737488351232 ∧ ∀ y, y ∈ x.2.2.1 → y.size ≤ 140737488351232) ∧
    (x.2.2.2.1.length * 4 ≤ 140737488351232 ∧ ∀ y, y ∈ x.2.2.2.1 → (Lit.int .u32 y).wf = true) ∧ (x.2.2.2.2.1.length * 4 ≤ 140737488351232 ∧ ∀ y, y ∈ x.2.2.2.2.1 → (Lit.int .u32 y).wf = true) ∧
    (x.2.2.2.2.2.length * 6 ≤ 140737488351232 ∧ ∀ y, y ∈ x.2.2.2.2.2 → (Lit.int .u8 y.f0).wf = true ∧ (Lit.int .u16 y.f1).wf = true ∧ (Lit.int .u16 y.f2).wf = true)) :=
  (Opn.struct (OpnFs.cons rfl opn9 (OpnFs.cons rfl (Opn.slice (B := 16) opn9 Try.underlying38 (by kernel_rfl) (by kernel_rfl)) (OpnFs.cons rfl (Opn.slice (B := 16) opn9 Try.underlying38 (by kernel_rfl) (by kernel_rfl)) (OpnFs.cons rfl (Opn.slice (B := 4) opn24 Try.underlying39 (by kernel_rfl) (by kernel_rfl))
    (OpnFs.cons rfl (Opn.slice (B := 4) opn24 Try.underlying39 (by kernel_rfl) (by kernel_rfl)) (OpnFs.one rfl (Opn.slice (B := 6) opn75 Try.underlying40 (by kernel_rfl) (by kernel_rfl)))))))) Try.underlying42 (by kernel_rfl)).imp fun _ h => h
theorem kMod_open {W : World} {x : ByteArray × List ByteArray × List ByteArray × List Int × List Int × List S75} {cs : List Value} (h : kMod.K W x cs) :
    ∃ A1 c1 A2 c2 A3 c3 A4 c4 A5 c5, cs = [.string x.1, .slice A1 x.2.1.length c1, .slice A2 x.2.2.1.length c2, .slice A3 x.2.2.2.1.length c3, .slice A4 x.2.2.2.2.1.length c4, .slice A5 x.2.2.2.2.2.length c5] ∧
      (Kd.C Kd.string W A1 x.2.1.length x.2.1 ∧ x.2.1.length ≤ c1) ∧ (Kd.C Kd.string W A2 x.2.2.1.length x.2.2.1 ∧ x.2.2.1.length ≤ c2) ∧ (Kd.C (Kd.int .u32) W A3 x.2.2.2.1.length x.2.2.2.1 ∧ x.2.2.2.1.length ≤ c3) ∧
      (Kd.C (Kd.int .u32) W A4 x.2.2.2.2.1.length x.2.2.2.2.1 ∧ x.2.2.2.2.1.length ≤ c4) ∧ (Kd.C k75 W A5 x.2.2.2.2.2.length x.2.2.2.2.2 ∧ x.2.2.2.2.2.length ≤ c5) := by
  obtain ⟨_, _, rfl, rfl, ⟨_, _, rfl, ⟨A1, c1, rfl, l1, h1⟩, ⟨_, _, rfl, ⟨A2, c2, rfl, l2, h2⟩, ⟨_, _, rfl, ⟨A3, c3, rfl, l3, h3⟩, ⟨_, _, rfl, ⟨A4, c4, rfl, l4, h4⟩, ⟨A5, c5, rfl, l5, h5⟩⟩⟩⟩⟩⟩ := h
  exact ⟨A1, c1, A2, c2, A3, c3, A4, c4, A5, c5, rfl, ⟨h1, l1⟩, ⟨h2, l2⟩, ⟨h3, l3⟩, ⟨h4, l4⟩, ⟨h5, l5⟩⟩
end Go.Proofs.Ytmjompmepicnhaa.Opens
