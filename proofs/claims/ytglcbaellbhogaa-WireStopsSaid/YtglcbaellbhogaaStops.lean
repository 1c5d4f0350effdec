/- The walk of WireStops. -/
import Derived.Test.YtglcbaellbhogaaPure4
import Derived.Test.YtglcbaellbhogaaAwake
import Derived.Test.YtglcbaellbhogaaK45
namespace Go.Proofs.Ytglcbaellbhogaa.Stops
open Go.RowKit Go.Proofs.Ytglcbaellbhogaa.Sep Go.Proofs.YtglcbaellbhogaaW.PrintWords Go.Proofs.YtglcbaellbhogaaW.PrintLast Go.Proofs.YtglcbaellbhogaaW.PrintMore Go.Proofs.Ytglcbaellbhogaa.PB Go.Proofs.Ytglcbaellbhogaa.Reader Go.Proofs.Ytglcbaellbhogaa.Awake
open Go.Proofs.Ytglcbaellbhogaa.Pure1 Go.Proofs.Ytglcbaellbhogaa.Pure2 Go.Proofs.Ytglcbaellbhogaa.Pure4 Go.Proofs.Ytglcbaellbhogaa.K
set_option linter.unusedVariables false
set_option linter.unusedSimpArgs false

theorem w0 : wsum (Back.back [] 0) = 0 := rfl
theorem varS {B : Nat} (g : Nat) (m : Int) (w : World) (h : Rd B w g [] 4) : Calls Try.prog 12 #[.pointer (some ⟨g, 0, none⟩), .int .u32 m] w fun z w' => z = .returned (.int .u32 0) ∧ Rd B w' g [] 4 ∧ Turn w w' g := by
  have := varR g [] 4 m w h
  exact this
theorem textS {B : Nat} (g : Nat) (m : Int) (w : World) (h : Rd B w g [] 4) (hB : B ≤ w.heap.size) : Calls Try.prog 23 #[.pointer (some ⟨g, 0, none⟩), .int .i64 m] w fun z w' => z = .returned (.string ⟨#[]⟩) ∧ Rd B w' g [] 4 ∧ Turn w w' g := by
  have := textR g [] 4 m w h hB
  exact this
theorem wordS {B : Nat} (g : Nat) (w : World) (h : Rd B w g [] 4) (hB : B ≤ w.heap.size) : Calls Try.prog 24 #[.pointer (some ⟨g, 0, none⟩)] w fun z w' => z = .returned (.int .u32 0) ∧ Rd B w' g [] 4 ∧ Turn w w' g := by
  have := wordR g [] 4 w h hB
  exact this
theorem wordsS {B : Nat} (g : Nat) (m : Int) (w : World) (h : Rd B w g [] 4) (hB : B ≤ w.heap.size) : Calls Try.prog 25 #[.pointer (some ⟨g, 0, none⟩), .int .i64 m] w fun z w' => (∃ A c, z = .returned (.slice A 0 c)) ∧ Rd B w' g [] 4 ∧ Turn w w' g := by
  refine (wordsR g [] 4 m w h hB (by simp)).mono ?_
  rintro z w' ⟨⟨v, rfl, hR⟩, h1, h2⟩
  obtain ⟨A, c, rfl, _, _⟩ := Kd.R_reads hR
  exact ⟨⟨A, c, rfl⟩, h1, h2⟩
theorem leftS {B : Nat} (g : Nat) (w : World) (h : Rd B w g [] 4) : Calls Try.prog 14 #[.pointer (some ⟨g, 0, none⟩)] w fun z w' => z = .returned (.int .i64 0) ∧ w' = w := leftR g [] 4 w h
theorem bit255 : (bits BinOp.and IntKind.u8 255 128 != 0) = true := by decide +kernel
theorem var0 (b : List Int) (m : Int) : rVar ([255, 255, 255, 255, 255] ++ b) 0 m = ([], 4, 0) := by
  simp [rVar, vr, bit255]
theorem textN (most : Int) (w : World) : Calls Try.prog 23 #[.pointer none, .int .i64 most] w fun z w' => z = .returned (.string ⟨#[]⟩) ∧ Below w.heap.size w w' := text_nil most w
set_option maxHeartbeats 8000000 in
theorem stops (A : Option Addr) (b : List Int) (c : Nat) (A1 : Option Addr) (l : List S45) (c1 : Nat) (w : World) (hC : Kd.C (Kd.int .u8) w A b.length b) (hc : b.length ≤ c) (hb : b.length ≤ 140737488351232) (hC1 : Kd.C k45 w A1 l.length l) (hc1 : l.length ≤ c1)
    (hl : l.length ≤ 140737488351232) (hx : ∀ x ∈ l, -2147483648 ≤ x.f1 ∧ x.f1 < 2147483648) :
    Calls Try.prog 7 #[.slice A b.length c, .slice A1 l.length c1] w fun z w' => z = .returned (.bool true) ∧ Below w.heap.size w w' := by
  have HR0 := Aside0.mk hC
  have LM := Aside0.mk hb
  have HL1 := Aside0.mk hC1
  have HX := Aside0.mk hx
  have HB := Aside0.mk (Below.refl w.heap.size w)
  clear hC hc hb hC1 hc1 hx
  go_enter Try.func7, Try.ntmps7
  go_wp2_with (first
    | ((with_reducible refine gate_dst (N := 9) rfl ?_); refine Kd.R_lit (Kd.int .u8) _ 5 ?hg (N := 9) ?hd (xs := ([255, 255, 255, 255, 255] : List Int)) (inner := [.int .u8 255, .int .u8 255, .int .u8 255, .int .u8 255, .int .u8 255]) (ok := fun _ => True) (okp := fun _ => True) ?hr ?hp (fun _ hk => hk) trivial (Below.refl _ _) (Nat.le_refl _) (by simp) ?_; (case hd => rfl); (case hg => rfl); (case hr => first | (go_simp; done) | (go_simp; rfl)); (case hp => exact (Reps.one rfl (Reps.one rfl (Reps.one rfl (Reps.one rfl (Reps.one rfl (Reps.none _ _))))))); intro v5 w5 ho5 hb hg_ hnew_; clear hg_ hnew_; have n0_ := Aside0.mk (Kd.R_lower ho5 (below_size (by repeat (first | (with_reducible first | exact HB.out | apply below_alloc | apply pw_below_drewN | apply below_drew1) | exact HB.out)))); have n1_ := Aside0.mk (below_step (by repeat (first | (with_reducible first | exact HB.out | apply below_alloc | apply pw_below_drewN | apply below_drew1) | exact HB.out)) hb); clear HB; have HO := n0_; have HB := n1_; clear n0_ n1_; clear hb ho5)
    | ((with_reducible refine gate_builtin (b := .append) (xs := #[.tmp 9, .tmp 10]) rfl ?_); at_builtin; refine Kd.R_append_rows (Kd.int .u8) (w0 := w) w.heap.size rfl (.tmp 9) (.tmp 10) 23 5 (.int .u8 0) 1 rfl Try.underlying23 info5 rfl (by decide) (by omega) v5 [255, 255, 255, 255, 255] b _ _ _ (fun _ => True) (fun _ => False) rfl rfl ?aO ?aR (fun _ _ h => h) (fun _ h => h.elim) ?aF ?aB ?aS ?aL ?_; (case aR => repeat (first | exact (Kd.C_below HR0.out HB.out) | (with_reducible refine Kd.C_alloc ?_ _) | (with_reducible refine Kd.C_drewN ?_ _) | (with_reducible refine Kd.C_drew ?_))); (case aB => exact (by repeat (first | (with_reducible first | exact HB.out | apply below_alloc | apply pw_below_drewN | apply below_drew1) | exact HB.out))); (case aF => exact (fun _ _ => trivial)); (case aO => exact (by (with_reducible repeat (first | apply Kd.R_alloc | apply Kd.R_drewN | apply Kd.R_drew)); exact HO.out)); (case aS => exact (below_size (by repeat (first | (with_reducible first | exact HB.out | apply below_alloc | apply pw_below_drewN | apply below_drew1) | exact HB.out)))); (case aL => have := LM.out; simp only [List.length_cons, List.length_nil]; omega); intro v7 w7 ho hb hg hat; obtain ⟨y7, hy7⟩ : ∃ y : List Int, [255, 255, 255, 255, 255] ++ b = y := ⟨_, rfl⟩; rw [hy7] at ho; have HY7 := Aside0.mk hy7; clear hy7; obtain ⟨A7, c7, rfl, hl7, hC7⟩ := Kd.R_reads ho; have HC7 := Aside0.mk hC7; have HL7 := Aside0.mk hl7; have n0_ := Aside0.mk (hb); clear HB; clear HO; have HB := n0_; clear n0_; clear ho hb hg hat hC7 hl7)
    | (go_at_call 11; refine (newR A7 y7 c7 _ HC7.out HL7.out).mono ?_; rintro z w8 ⟨rfl, hR, hB, hlt⟩; obtain ⟨g, hg⟩ : ∃ g, w7.heap.size = g := ⟨_, rfl⟩; rw [hg] at hR hlt ⊢; have HG := Aside0.mk (show w.heap.size ≤ g by have := HB.out.size; omega); have HR := Aside0.mk hR; have n1_ := Aside0.mk (HB.out.trans (hB.mono HB.out.size)); have HS := Aside0.mk (Nat.succ_le_of_lt hlt); clear HB hR hB hlt hg; have HB := n1_; clear n1_)
    | (go_at_call 12; refine (varR _ _ _ 4294967295 _ HR.out).mono ?_; rw [← HY7.out, var0]; rintro z w9 ⟨rfl, hR, hT⟩; have n0_ := Aside0.mk hR; have n1_ := Aside0.mk (HB.out.trans (Turn.below2 hT HG.out HB.out.size)); have n2_ := Aside0.mk (Nat.le_trans HS.out hT.size); clear HR HB HS hR hT; have HR := n0_; have HB := n1_; have HS := n2_; clear n0_ n1_ n2_)
    | (go_at_call 13; refine (errR _ _ _ _ HR.out).mono ?_; rintro z w5 ⟨rfl, rfl⟩))
  go_loopw [7] (fun v7 wr => ∃ i : Nat, i ≤ l.length ∧ v7 = .int .i64 i ∧ Aside0 (Rd (g + 1) wr g [] 4) ∧ Aside0 (Below w.heap.size w wr) ∧ Aside0 (g + 1 ≤ wr.heap.size)) (fun v7 _ => l.length - (intOf v7).toNat)
  case atStart => exact ⟨0, Nat.zero_le _, rfl, HR, HB, HS⟩
  case round =>
    clear HR HB HS
    obtain ⟨i, hi, rfl, HR, HB, HS⟩ := hrel
    by_cases hil : i < l.length
    · have hil' : (i : Int) < (l.length : Int) := by omega
      obtain ⟨ad, rfl, k0, k1⟩ := at_T45 (Kd.C_below HL1.out HB.out) (i : Int) (by omega) hil'
      obtain ⟨m, hm⟩ : ∃ m, (rd_T45 l (i : Int)).f1 = m := ⟨_, rfl⟩
      have hmb : -2147483648 ≤ m ∧ m < 2147483648 := by
        rw [← hm]
        refine HX.out _ ?_
        simp [rd_T45, List.getElem?_eq_getElem hil]
      rw [hm, Int.toNat_natCast] at k1
      obtain ⟨m0, m1⟩ := hmb
      have q0 : (0 : Int) ≤ (i : Int) := by omega
      have hd : decide ((i : Int) < (l.length : Int)) = true := decide_eq_true hil'
      have hd2 : decide (i < l.length) = true := decide_eq_true hil
      clear hm k0
      go_wp2_with (first | (go_at_call 12; (with_reducible refine (varS _ _ _ HR.out).mono ?_); rintro z w2 ⟨rfl, hR, hT⟩; have n0_ := Aside0.mk hR; have n1_ := Aside0.mk (HB.out.trans (Turn.below2 hT HG.out HB.out.size)); have n2_ := Aside0.mk (Nat.le_trans HS.out hT.size); clear HR HB HS hR hT; have HR := n0_; have HB := n1_; have HS := n2_; clear n0_ n1_ n2_) | (go_at_call 23; (with_reducible refine (textS _ _ _ HR.out HS.out).mono ?_); rintro z w3 ⟨rfl, hR, hT⟩; have n0_ := Aside0.mk hR; have n1_ := Aside0.mk (HB.out.trans (Turn.below2 hT HG.out HB.out.size)); have n2_ := Aside0.mk (Nat.le_trans HS.out hT.size); clear HR HB HS hR hT; have HR := n0_; have HB := n1_; have HS := n2_; clear n0_ n1_ n2_) | (go_at_call 24; (with_reducible refine (wordS _ _ HR.out HS.out).mono ?_); rintro z w4 ⟨rfl, hR, hT⟩; have n0_ := Aside0.mk hR; have n1_ := Aside0.mk (HB.out.trans (Turn.below2 hT HG.out HB.out.size)); have n2_ := Aside0.mk (Nat.le_trans HS.out hT.size); clear HR HB HS hR hT; have HR := n0_; have HB := n1_; have HS := n2_; clear n0_ n1_ n2_) | (go_at_call 25; (with_reducible refine (wordsS _ _ _ HR.out HS.out).mono ?_); rintro z w5 ⟨⟨A5, c5, rfl⟩, hR, hT⟩; have n0_ := Aside0.mk hR; have n1_ := Aside0.mk (HB.out.trans (Turn.below2 hT HG.out HB.out.size)); have n2_ := Aside0.mk (Nat.le_trans HS.out hT.size); clear HR HB HS hR hT; have HR := n0_; have HB := n1_; have HS := n2_; clear n0_ n1_ n2_) | (go_at_call 14; (with_reducible refine (leftS _ _ HR.out).mono ?_); rintro z w6 ⟨rfl, rfl⟩) | (go_at_call 13; (with_reducible refine (errR _ _ _ _ HR.out).mono ?_); rintro z w7 ⟨rfl, rfl⟩))
      go_roundw
      case rel => exact ⟨i + 1, by omega, by go_num, HR, HB, HS⟩
      case measure => simp [intOf]; omega
    · obtain rfl : i = l.length := by omega
      go_wp2_with (first | (go_at_call 12; (with_reducible refine (var_nil _ _).mono ?_); rintro z w2 ⟨rfl, rfl⟩) | (go_at_call 23; (with_reducible refine (textN _ _).mono ?_); rintro z w9 ⟨rfl, hb⟩; have n1_ := Aside0.mk (HB.out.trans (hb.mono HB.out.size)); clear HB hb; have HB := n1_; clear n1_) | (go_at_call 24; (with_reducible refine (word_nil _).mono ?_); rintro z w9 ⟨rfl, hb⟩; have n1_ := Aside0.mk (HB.out.trans (hb.mono HB.out.size)); clear HB hb; have HB := n1_; clear n1_) | (go_at_call 25; (with_reducible refine (words_nil _ _).mono ?_); rintro z w9 ⟨rfl, hb⟩; have n1_ := Aside0.mk (HB.out.trans (hb.mono HB.out.size)); clear HB hb; have HB := n1_; clear n1_) | (go_at_call 14; (with_reducible refine (left_nil _).mono ?_); rintro z w6 ⟨rfl, rfl⟩) | (go_at_call 13; (with_reducible refine (err_nil _).mono ?_); rintro z w7 ⟨rfl, rfl⟩) | (go_at_call 10; (with_reducible refine (awake_calls _).mono ?_); rintro z w9 ⟨rfl, hb⟩; have n1_ := Aside0.mk (HB.out.trans (hb.mono HB.out.size)); clear HB hb; have HB := n1_; clear n1_))
      go_ret
      exact ⟨rfl, HB.out⟩
end Go.Proofs.Ytglcbaellbhogaa.Stops
