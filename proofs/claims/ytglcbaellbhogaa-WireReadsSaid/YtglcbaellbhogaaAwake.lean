/- What every right program lays and reads (awake). -/
import Derived.Test.YtglcbaellbhogaaReader4
namespace Go.Proofs.Ytglcbaellbhogaa.Awake
open Go.RowKit Go.Proofs.Ytglcbaellbhogaa.Sep Go.Proofs.YtglcbaellbhogaaW.PrintWords Go.Proofs.YtglcbaellbhogaaW.PrintLast Go.Proofs.YtglcbaellbhogaaW.PrintMore Go.Proofs.Ytglcbaellbhogaa.PB Go.Proofs.Ytglcbaellbhogaa.Reader
set_option linter.unusedVariables false
set_option linter.unusedSimpArgs false

/-- A whole block of bytes reads as these. -/
theorem C_block {W : World} {b : Nat} {cs : Array Value} {t : TypeId} (xs : List Int) (h : W.heap[b]? = some (.cells cs t (0, 0))) (hx : cs = (xs.map (Value.int .u8)).toArray) (hl : xs.length ≤ 9223372036854775807) : Kd.C (Kd.int .u8) W (some ⟨b, 0, none⟩) xs.length xs := by
  subst hx
  refine ⟨rfl, hl, fun hn => ⟨_, rfl, fun j p hj => ⟨[.int .u8 p], rfl, rfl, fun i u hu => ?_⟩⟩⟩
  cases i with
  | zero =>
    simp at hu
    subst hu
    have : (⟨b, 0, none⟩ : Addr).add (j * (Kd.int .u8).sz + 0) = ⟨b, j, none⟩ := by rw [add_plain]; simp [Kd.int, Kd.scalar]
    rw [this]
    refine (cell_of_row W b j _ t (0, 0) h).trans ?_
    simp [hj]
  | succ i => simp at hu
theorem v300 : wire_Var.f 3 300 = some [172, 2] := by decide +kernel
theorem tab : wire_Text.f 3 ⟨#[97, 98]⟩ = some [2, 97, 98] := by decide +kernel
theorem rv9 : rVar [128, 0] 0 9 = ([], 4, 0) := by decide +kernel
theorem var9 {B : Nat} (g : Nat) (w : World) (h : Rd B w g [128, 0] 0) : Calls Try.prog 12 #[.pointer (some ⟨g, 0, none⟩), .int .u32 9] w fun z w' => z = .returned (.int .u32 0) ∧ Rd B w' g [] 4 ∧ Turn w w' g := by
  have := varR g [128, 0] 0 9 w h
  rw [rv9] at this
  exact this
theorem Turn.below2 {w w' : World} {g B : Nat} (h : Turn w w' g) (hg : B ≤ g) (hB : B ≤ w.heap.size) : Below B w w' := ⟨h.os, h.tape, h.output, h.size, fun k hk => h.block k (by omega) (by omega)⟩
set_option maxHeartbeats 1000000 in
theorem awake_calls (w : World) : Calls Try.prog 10 #[] w fun z w' => z = .returned (.bool true) ∧ Below w.heap.size w w' := by
  have hb0 := World.alloc_heap_new w (.cells #[.int .u8 128, .int .u8 0] 5 (0, 0))
  have HC := Aside0.mk (C_block [128, 0] hb0 rfl (by decide))
  clear hb0
  have HB0 := Aside0.mk ((Below.refl w.heap.size w).alloc (Nat.le_refl _) (.cells #[.int .u8 128, .int .u8 0] 5 (0, 0)))
  have e1 : (strOfNums [172, 2]).toList = [172, 2] := by decide +kernel
  have e2 : (strOfNums [2, 97, 98]).toList = [2, 97, 98] := by decide +kernel
  go_enter Try.func10, Try.ntmps10
  go_wp2_with (first
    | (go_at_call 11; refine (newR (some ⟨w.heap.size, 0, none⟩) [128, 0] 2 _ HC.out (Nat.le_refl _)).mono ?_; rintro z w1 ⟨rfl, hR, hB, hlt⟩; rw [World.size_alloc] at hR hlt; have HR := Aside0.mk hR; have HB := Aside0.mk (HB0.out.trans (hB.mono (by simp))); have HL := Aside0.mk (Nat.succ_le_of_lt hlt); clear hR hB hlt HC)
    | (go_at_call 9; refine (wire_Var.calls 3 300 _ _ v300).mono ?_; rintro z w2 ⟨v, rfl, hR, hB⟩; have n0_ := Aside0.mk (HR.out.below (hB.mono HL.out)); have n1_ := Aside0.mk (HB.out.trans (hB.mono HB.out.size)); have n2_ := Aside0.mk (Nat.le_trans HL.out hB.size); obtain ⟨A2, c2, rfl, _, hC2⟩ := Kd.R_reads hR; have hs := Kd.C_string (P := Try.prog) (src := 23) (dst := 9) (e := 5) (n := 2) (c := c2) Try.underlying23 Try.underlying5 Try.underlying9 hC2; clear HR HB HL hR hB hC2; have HR := n0_; have HB := n1_; have HL := n2_; clear n0_ n1_ n2_)
    | (go_at_call 18; refine (wire_Text.calls 3 _ _ _ tab).mono ?_; rintro z w3 ⟨v, rfl, hR, hB⟩; have n0_ := Aside0.mk (HR.out.below (hB.mono HL.out)); have n1_ := Aside0.mk (HB.out.trans (hB.mono HB.out.size)); have n2_ := Aside0.mk (Nat.le_trans HL.out hB.size); obtain ⟨A3, c3, rfl, _, hC3⟩ := Kd.R_reads hR; have hs3 := Kd.C_string (P := Try.prog) (src := 23) (dst := 9) (e := 5) (n := 3) (c := c3) Try.underlying23 Try.underlying5 Try.underlying9 hC3; clear HR HB HL hR hB hC3; have HR := n0_; have HB := n1_; have HL := n2_; clear n0_ n1_ n2_)
    | (go_at_call 12; refine (var9 _ _ HR.out).mono ?_; rintro z w4 ⟨rfl, hR, hT⟩; have HR4 := Aside0.mk hR; have HT := Aside0.mk hT; clear hR hT)
    | (go_at_call 13; refine (errR _ _ _ _ HR4.out).mono ?_; rintro z w5 ⟨rfl, rfl⟩))
  go_ret
  exact ⟨rfl, HB.out.trans (Turn.below2 HT.out (by omega) HB.out.size)⟩
end Go.Proofs.Ytglcbaellbhogaa.Awake
