/- A call on both readers (do), of Words. -/
import Derived.Test.YtglcbaellbhogaaDo
namespace Go.Proofs.Ytglcbaellbhogaa.Do
open Go.RowKit Go.Proofs.Ytglcbaellbhogaa.Sep Go.Proofs.YtglcbaellbhogaaW.PrintWords Go.Proofs.YtglcbaellbhogaaW.PrintLast Go.Proofs.YtglcbaellbhogaaW.PrintMore Go.Proofs.Ytglcbaellbhogaa.PB Go.Proofs.Ytglcbaellbhogaa.Reader Go.Proofs.Ytglcbaellbhogaa.Awake
open Go.Proofs.Ytglcbaellbhogaa.Pure1 Go.Proofs.Ytglcbaellbhogaa.RefR
set_option linter.unusedVariables false
set_option linter.unusedSimpArgs false

theorem R_blk {α : Type} {d : Kd α} {e base : Nat} {ok : Nat → Prop} {w : World} {A : Option Addr} {n c : Nat} {xs : List α} (h : Kd.R d e w base ok (.slice A n c) xs) : ∀ ad, A = some ad → 0 < n → base ≤ ad.block ∧ ad.block < w.heap.size ∧ ad = ⟨ad.block, 0, none⟩ := by
  intro ad ha hn
  obtain ⟨h0, inner, ho, hr⟩ := h
  rcases ho.2 with ⟨h1, _⟩ | ⟨g, cap, cur, h1, hb, hh, _⟩
  · injection h1 with h1 h2; omega
  · injection h1 with h1 h2
    rw [h1] at ha
    injection ha with ha
    subst ha
    exact ⟨hb, (Array.getElem?_eq_some_iff.1 hh).1, rfl⟩
theorem C_same {k : IntKind} {W W' : World} {A : Option Addr} {n : Nat} {xs : List Int} (h : Kd.C (Kd.int k) W A n xs) (hb : ∀ ad, A = some ad → 0 < n → W'.heap[ad.block]? = W.heap[ad.block]?) : Kd.C (Kd.int k) W' A n xs := by
  refine ⟨h.1, h.2.1, fun hn => ?_⟩
  obtain ⟨ad, e, hc⟩ := h.2.2 hn
  have hB := hb ad e hn
  refine ⟨ad, e, fun j p hj => ?_⟩
  obtain ⟨cs, h1, h2, h3⟩ := hc j p hj
  refine ⟨cs, h1, h2, fun i u hu => ?_⟩
  have := h3 i u hu
  rw [← this]
  have hbl : (ad.add (j * (Kd.int k).sz + i)).block = ad.block := by unfold Addr.add; split <;> rfl
  simp only [World.cell?, hbl, hB]
theorem rWords_len (xs : List Int) (e most : Int) (hx : xs.length ≤ 140737488351232) : (rWords xs e most).2.2.length ≤ 140737488351232 := by
  unfold rWords
  have hl := rVar_len xs e (atM most)
  split
  · simp
  · rename_i h
    rw [wordsK_len]
    by_cases he : (rVar xs e (atM most)).2.1 = 0
    · have : ¬ _ := fun q => h ⟨he, q⟩
      omega
    · rw [rVar_err he]; simp
set_option maxHeartbeats 8000000 in
theorem do3 {B0 B g : Nat} (A : Option Addr) (c : Nat) (xs : List Int) (e kd most : Int) (w : World) (hB0 : B0 ≤ g) (hB : B ≤ w.heap.size) (hV : RS B0 w (.agg #[.slice A xs.length c, .int .i64 e]) xs e) (hR : Rd B w g xs e) (hbd : ∀ x ∈ xs, 0 ≤ x ∧ x < 256)
    (hk0 : 0 ≤ kd) (hk1 : kd < 256) (hk : kd % 4 = 3) (hm0 : -2147483648 ≤ most) (hm1 : most < 2147483648) (hxl : xs.length ≤ 140737488351232) :
    Calls Try.prog 22 #[.pointer (some ⟨g, 0, none⟩), .agg #[.slice A xs.length c, .int .i64 e], .agg #[.int .u8 kd, .int .i32 most]] w (Done B0 B g w (rWords xs e most).1 (rWords xs e most).2.1) := by
  have hgB : g < B := by obtain ⟨A', c', h1, h2, h3, h4, h5⟩ := hR; exact h5
  obtain ⟨ls, hls⟩ : ∃ ls, (rWords xs e most).2.2 = ls := ⟨_, rfl⟩
  have hll : ls.length ≤ 140737488351232 := by rw [← hls]; exact rWords_len xs e most hxl
  have HLS := Aside0.mk hls
  have HXL := Aside0.mk hxl
  have HG := Aside0.mk (show g < w.heap.size by omega)
  have HBB := Aside0.mk hB
  have HB := Aside0.mk (show B0 ≤ w.heap.size by omega)
  have HB0 := Aside0.mk hB0
  have HV := Aside0.mk hV
  have HR := Aside0.mk hR
  have HBD := Aside0.mk hbd
  clear hV hR hbd hB hgB hB0 hls hxl
  have S := Aside0.mk (St.start w)
  go_enter Try.func22, Try.ntmps22
  go_wp2_with (first
    | ((with_reducible refine gate_dst (N := 4) rfl ?_); refine box_event ?hg (N := 4) ?hd (cs := #[.slice A xs.length c, .int .i64 e]) (t := 41) ?hr ?_; (case hd => rfl); (case hg => rfl); (case hr => first | (go_simp; done) | (go_simp; rfl)); intro g4 hgN w1 hbox hbN; have n0_ := Aside0.mk (St.boxed (by repeat (first | exact S.out | apply St.drewN | apply St.drew)) hgN hbox hbN); clear S; have S := n0_; clear n0_ hgN hbox hbN; have hB_g4 := S.out.blk (g := g4) (cs := #[.slice A xs.length c, .int .i64 e]) (t := 41) (List.mem_of_getElem? (i := 0) rfl); have hc_g4_0 : w1.cell? ⟨g4, 0, none⟩ = some (.slice A xs.length c) := (cell_blk hB_g4 0).trans rfl; have hf_g4_0 := frozen_blk hB_g4 0; have hc_g4_1 : w1.cell? ⟨g4, 1, none⟩ = some (.int .i64 e) := (cell_blk hB_g4 1).trans rfl; have hf_g4_1 := frozen_blk hB_g4 1; clear hB_g4)
    | ((with_reducible refine gate_dst (N := 5) rfl ?_); refine box_event ?hg (N := 5) ?hd (cs := #[.int .u8 kd, .int .i32 most]) (t := 45) ?hr ?_; (case hd => rfl); (case hg => rfl); (case hr => first | (go_simp; done) | (go_simp; rfl)); intro g5 hgN w2 hbox hbN; have n0_ := Aside0.mk (St.boxed (by repeat (first | exact S.out | apply St.drewN | apply St.drew)) hgN hbox hbN); clear S; have S := n0_; clear n0_ hgN hbox hbN; clear hc_g4_0 hf_g4_0 hc_g4_1 hf_g4_1; have hB_g5 := S.out.blk (g := g5) (cs := #[.int .u8 kd, .int .i32 most]) (t := 45) (List.mem_of_getElem? (i := 0) rfl); have hc_g5_0 : w2.cell? ⟨g5, 0, none⟩ = some (.int .u8 kd) := (cell_blk hB_g5 0).trans rfl; have hf_g5_0 := frozen_blk hB_g5 0; have hc_g5_1 : w2.cell? ⟨g5, 1, none⟩ = some (.int .i32 most) := (cell_blk hB_g5 1).trans rfl; have hf_g5_1 := frozen_blk hB_g5 1; clear hB_g5; have hB_g4 := S.out.blk (g := g4) (cs := #[.slice A xs.length c, .int .i64 e]) (t := 41) (List.mem_of_getElem? (i := 1) rfl); have hc_g4_0 : w2.cell? ⟨g4, 0, none⟩ = some (.slice A xs.length c) := (cell_blk hB_g4 0).trans rfl; have hf_g4_0 := frozen_blk hB_g4 0; have hc_g4_1 : w2.cell? ⟨g4, 1, none⟩ = some (.int .i64 e) := (cell_blk hB_g4 1).trans rfl; have hf_g4_1 := frozen_blk hB_g4 1; clear hB_g4)
    | ((with_reducible refine gate_dst (N := 6) rfl ?_); refine box_event ?hg (N := 6) ?hd (cs := #[.slice none 0 0, .int .i64 0]) (t := 41) ?hr ?_; (case hd => rfl); (case hg => rfl); (case hr => first | (go_simp; done) | (go_simp; rfl)); intro g6 hgN w3 hbox hbN; have n0_ := Aside0.mk (St.boxed (by repeat (first | exact S.out | apply St.drewN | apply St.drew)) hgN hbox hbN); clear S; have S := n0_; clear n0_ hgN hbox hbN; clear hc_g5_0 hf_g5_0 hc_g5_1 hf_g5_1 hc_g4_0 hf_g4_0 hc_g4_1 hf_g4_1; have hB_g6 := S.out.blk (g := g6) (cs := #[.slice none 0 0, .int .i64 0]) (t := 41) (List.mem_of_getElem? (i := 0) rfl); have hc_g6_0 : w3.cell? ⟨g6, 0, none⟩ = some (.slice none 0 0) := (cell_blk hB_g6 0).trans rfl; have hf_g6_0 := frozen_blk hB_g6 0; have hc_g6_1 : w3.cell? ⟨g6, 1, none⟩ = some (.int .i64 0) := (cell_blk hB_g6 1).trans rfl; have hf_g6_1 := frozen_blk hB_g6 1; clear hB_g6; have hB_g5 := S.out.blk (g := g5) (cs := #[.int .u8 kd, .int .i32 most]) (t := 45) (List.mem_of_getElem? (i := 1) rfl); have hc_g5_0 : w3.cell? ⟨g5, 0, none⟩ = some (.int .u8 kd) := (cell_blk hB_g5 0).trans rfl; have hf_g5_0 := frozen_blk hB_g5 0; have hc_g5_1 : w3.cell? ⟨g5, 1, none⟩ = some (.int .i32 most) := (cell_blk hB_g5 1).trans rfl; have hf_g5_1 := frozen_blk hB_g5 1; clear hB_g5; have hB_g4 := S.out.blk (g := g4) (cs := #[.slice A xs.length c, .int .i64 e]) (t := 41) (List.mem_of_getElem? (i := 2) rfl); have hc_g4_0 : w3.cell? ⟨g4, 0, none⟩ = some (.slice A xs.length c) := (cell_blk hB_g4 0).trans rfl; have hf_g4_0 := frozen_blk hB_g4 0; have hc_g4_1 : w3.cell? ⟨g4, 1, none⟩ = some (.int .i64 e) := (cell_blk hB_g4 1).trans rfl; have hf_g4_1 := frozen_blk hB_g4 1; clear hB_g4)
    | (go_at_call 31; refine (rwordsR (B := B0) (v := .agg #[.slice A xs.length c, .int .i64 e]) (xs := xs) (e := e) most _ (Nat.le_trans HB.out S.out.below.size) (HV.out.under (S.out.below.mono HB.out)) HBD.out HXL.out).mono ?_; have BW := Aside0.mk S.out.below; have SZ := Aside0.mk (show g4 < _ from (Array.getElem?_eq_some_iff.1 (S.out.blk (g := g4) (List.mem_of_getElem? (i := 2) rfl))).1); rintro z w4 ⟨v2, u2, rfl, hRS, hRl, hb⟩; have n0_ := Aside0.mk (St.keep (by repeat (first | exact S.out | apply St.drewN | apply St.drew)) hb); clear S; have S := n0_; clear n0_ hb; clear hc_g6_0 hf_g6_0 hc_g6_1 hf_g6_1 hc_g5_0 hf_g5_0 hc_g5_1 hf_g5_1 hc_g4_0 hf_g4_0 hc_g4_1 hf_g4_1; rw [HLS.out] at hRl; have HV2 := Aside0.mk (hRS.back (BW.out.mono HB.out)); obtain ⟨A2, c2, rfl, _, _, _⟩ := hRS; obtain ⟨Al, cl, rfl, hcl, hCl⟩ := Kd.R_reads hRl; have HKl := Aside0.mk (R_blk hRl); have HCl := Aside0.mk hCl; have HBl := Aside0.mk S.out.below; clear hRl hcl hCl; have hB_g6 := S.out.blk (g := g6) (cs := #[.slice none 0 0, .int .i64 0]) (t := 41) (List.mem_of_getElem? (i := 0) rfl); have hc_g6_0 : w4.cell? ⟨g6, 0, none⟩ = some (.slice none 0 0) := (cell_blk hB_g6 0).trans rfl; have hf_g6_0 := frozen_blk hB_g6 0; have hc_g6_1 : w4.cell? ⟨g6, 1, none⟩ = some (.int .i64 0) := (cell_blk hB_g6 1).trans rfl; have hf_g6_1 := frozen_blk hB_g6 1; clear hB_g6; have hB_g5 := S.out.blk (g := g5) (cs := #[.int .u8 kd, .int .i32 most]) (t := 45) (List.mem_of_getElem? (i := 1) rfl); have hc_g5_0 : w4.cell? ⟨g5, 0, none⟩ = some (.int .u8 kd) := (cell_blk hB_g5 0).trans rfl; have hf_g5_0 := frozen_blk hB_g5 0; have hc_g5_1 : w4.cell? ⟨g5, 1, none⟩ = some (.int .i32 most) := (cell_blk hB_g5 1).trans rfl; have hf_g5_1 := frozen_blk hB_g5 1; clear hB_g5; have hB_g4 := S.out.blk (g := g4) (cs := #[.slice A xs.length c, .int .i64 e]) (t := 41) (List.mem_of_getElem? (i := 2) rfl); have hc_g4_0 : w4.cell? ⟨g4, 0, none⟩ = some (.slice A xs.length c) := (cell_blk hB_g4 0).trans rfl; have hf_g4_0 := frozen_blk hB_g4 0; have hc_g4_1 : w4.cell? ⟨g4, 1, none⟩ = some (.int .i64 e) := (cell_blk hB_g4 1).trans rfl; have hf_g4_1 := frozen_blk hB_g4 1; clear hB_g4)
    | ((with_reducible refine gate_store (t := 41) (p := 4) rfl ?_); refine store_event (t := 41) (p := 4) (v := ?_) (w1 := ?_) ?hg ?ho ?hn ?hr ?_; (case ho => rfl); (case hg => rfl); (case hn => rfl); (case hr => first | (go_simp; done) | (go_simp; rfl)); intro w5 hw; have n0_ : Aside0 (St w w5 [Blk g6 #[.slice none 0 0, .int .i64 0] 41, Blk g5 #[.int .u8 kd, .int .i32 most] 45, Blk g4 #[.slice A2 (rWords xs e most).1.length c2, .int .i64 (rWords xs e most).2.1] 41]) := ⟨by rw [hw]; exact (St.set (pre := [Blk g6 #[.slice none 0 0, .int .i64 0] 41, Blk g5 #[.int .u8 kd, .int .i32 most] 45]) (post := []) (g := g4) (cs := #[.slice A2 (rWords xs e most).1.length c2, .int .i64 e]) (t := 41) (St.set (pre := [Blk g6 #[.slice none 0 0, .int .i64 0] 41, Blk g5 #[.int .u8 kd, .int .i32 most] 45]) (post := []) (g := g4) (cs := #[.slice A xs.length c, .int .i64 e]) (t := 41) (by repeat (first | exact S.out | apply St.drewN | apply St.drew)) 0 (.slice A2 (rWords xs e most).1.length c2)) 1 (.int .i64 (rWords xs e most).2.1))⟩; clear S; have S := n0_; have n1_ : Aside0 (Kd.C (Kd.int .u32) w5 Al ls.length ls) := ⟨by rw [hw]; exact C_same HCl.out (fun ad ha hp => by have h1 := HKl.out ad ha hp; have h2 := SZ.out; rw [Below.heap_setCell _ _ _ _ (by show ad.block ≠ g4; omega), Below.heap_setCell _ _ _ _ (by show ad.block ≠ g4; omega)])⟩; have n2_ := Aside0.mk (show w5.heap.size = w4.heap.size by rw [hw]; simp [World.setCell]); clear HCl; have HCl := n1_; have HSZ := n2_; clear n1_ n2_ n0_ hw; clear hc_g6_0 hf_g6_0 hc_g6_1 hf_g6_1 hc_g5_0 hf_g5_0 hc_g5_1 hf_g5_1 hc_g4_0 hf_g4_0 hc_g4_1 hf_g4_1; have hB_g6 := S.out.blk (g := g6) (cs := #[.slice none 0 0, .int .i64 0]) (t := 41) (List.mem_of_getElem? (i := 0) rfl); have hc_g6_0 : w5.cell? ⟨g6, 0, none⟩ = some (.slice none 0 0) := (cell_blk hB_g6 0).trans rfl; have hf_g6_0 := frozen_blk hB_g6 0; have hc_g6_1 : w5.cell? ⟨g6, 1, none⟩ = some (.int .i64 0) := (cell_blk hB_g6 1).trans rfl; have hf_g6_1 := frozen_blk hB_g6 1; clear hB_g6; have hB_g5 := S.out.blk (g := g5) (cs := #[.int .u8 kd, .int .i32 most]) (t := 45) (List.mem_of_getElem? (i := 1) rfl); have hc_g5_0 : w5.cell? ⟨g5, 0, none⟩ = some (.int .u8 kd) := (cell_blk hB_g5 0).trans rfl; have hf_g5_0 := frozen_blk hB_g5 0; have hc_g5_1 : w5.cell? ⟨g5, 1, none⟩ = some (.int .i32 most) := (cell_blk hB_g5 1).trans rfl; have hf_g5_1 := frozen_blk hB_g5 1; clear hB_g5; have hB_g4 := S.out.blk (g := g4) (cs := #[.slice A2 (rWords xs e most).1.length c2, .int .i64 (rWords xs e most).2.1]) (t := 41) (List.mem_of_getElem? (i := 2) rfl); have hc_g4_0 : w5.cell? ⟨g4, 0, none⟩ = some (.slice A2 (rWords xs e most).1.length c2) := (cell_blk hB_g4 0).trans rfl; have hf_g4_0 := frozen_blk hB_g4 0; have hc_g4_1 : w5.cell? ⟨g4, 1, none⟩ = some (.int .i64 (rWords xs e most).2.1) := (cell_blk hB_g4 1).trans rfl; have hf_g4_1 := frozen_blk hB_g4 1; clear hB_g4)
    | (go_at_call 25; (with_reducible refine (wordsR (B := B) g xs e most _ (HR.out.below (S.out.below.mono HBB.out)) (Nat.le_trans HBB.out S.out.below.size) HXL.out).mono ?_); rw [HLS.out]; rintro z w6 ⟨⟨v6, rfl, hRm⟩, hR6, hT⟩; obtain ⟨Am, cm, rfl⟩ := Kd.R_slice hRm; have q4 := S.out.blk (g := g4) (List.mem_of_getElem? (i := 2) rfl); have q6 := S.out.blk (g := g6) (List.mem_of_getElem? (i := 0) rfl); have n4 := S.out.new _ (List.mem_of_getElem? (i := 2) rfl) g4 rfl; have n6 := S.out.new _ (List.mem_of_getElem? (i := 0) rfl) g6 rfl; have L4 := (Array.getElem?_eq_some_iff.1 q4).1; have L6 := (Array.getElem?_eq_some_iff.1 q6).1; have N4 : g4 ≠ g := (by have := HG.out; omega); have N6 : g6 ≠ g := (by have := HG.out; omega); have p4 := (hT.block g4 L4 N4).trans q4; have p6 := (hT.block g6 L6 N6).trans q6; have HM := Aside0.mk hRm; have HR6 := Aside0.mk hR6; have HT6 := Aside0.mk hT; have B5 := Aside0.mk S.out.below; have P4 := Aside0.mk p4; have P6 := Aside0.mk p6; have M6 := Aside0.mk n6; have Q4 := Aside0.mk L4; have Q6 := Aside0.mk L6; have HCl6 := Aside0.mk (C_same HCl.out (fun ad ha hp => hT.block ad.block (by have := HKl.out ad ha hp; have := HSZ.out; omega) (by have h1 := HKl.out ad ha hp; have h2 := BW.out.size; have h3 := HG.out; omega))); have HKm := Aside0.mk (fun ad ha hp => (R_blk hRm ad ha hp).1); clear hRm hR6 hT q4 q6 n4 n6 L4 L6 N4 N6 p4 p6 S HCl hc_g6_0 hf_g6_0 hc_g6_1 hf_g6_1 hc_g5_0 hf_g5_0 hc_g5_1 hf_g5_1 hc_g4_0 hf_g4_0 hc_g4_1 hf_g4_1))
  obtain ⟨NN, hNN⟩ : ∃ NN, w5.heap.size = NN := ⟨_, rfl⟩
  have HNN := Aside0.mk hNN
  clear hNN
  go_loopw [16] (fun v16 wr => ∃ (i : Nat) (ys : List Int), i ≤ ls.length ∧ v16 = .int .i64 i ∧ Aside0 (ys.length = ls.length ∧ ∀ j, i ≤ j → ys.getD j 0 = ls.getD j 0) ∧ Aside0 (Kd.R (Kd.int .u32) 22 wr w5.heap.size (fun _ => True) (.slice Am ls.length cm) ys) ∧ Aside0 (Below w5.heap.size w6 wr) ∧ Aside0 (Kd.C (Kd.int .u32) wr Al ls.length ls)) (fun v16 _ => ls.length - (intOf v16).toNat)
  case atStart => exact ⟨0, ls, Nat.zero_le _, rfl, ⟨rfl, fun _ _ => rfl⟩, HM, ⟨Below.refl _ _⟩, HCl6⟩
  case round =>
    obtain ⟨i, ys, hi, rfl, HY, HO, HB6, HCl⟩ := hrel
    clear HM HCl6
    by_cases hil : i < ls.length
    · have hil' : (i : Int) < (ls.length : Int) := by omega
      have q0 : (0 : Int) ≤ (i : Int) := by omega
      have hd : decide ((i : Int) < (ls.length : Int)) = true := decide_eq_true hil'
      have hd2 : decide (i < ls.length) = true := decide_eq_true hil
      have hd3 : decide ((ls.length : Int) ≤ (i : Int)) = false := decide_eq_false (by omega)
      have hd4 : decide (ls.length ≤ i) = false := decide_eq_false (by omega)
      obtain ⟨adl, rfl, kl⟩ := Lay.word_at HCl.out i hil
      have hRO := HO.out
      obtain ⟨cc, rfl, hblk⟩ : ∃ b, Am = some ⟨b, 0, none⟩ ∧ w5.heap.size ≤ b := by
        obtain ⟨ad, rfl⟩ : ∃ ad, Am = some ad := by
          obtain ⟨ad, e, _⟩ := (Kd.R_reads' hRO).2.2.2.2 (by have := HY.out.1; omega)
          exact ⟨ad, e⟩
        have h1 := R_blk hRO ad rfl (by omega)
        exact ⟨ad.block, by rw [← h1.2.2], h1.1⟩
      obtain ⟨km, fm⟩ := Kd.R_celln (enc := Value.int .u32) (h1 := fun _ => rfl) (0 : Int) hRO (i : Int) q0 hil'
      obtain ⟨x, hx⟩ : ∃ x, ls.getD i 0 = x := ⟨_, rfl⟩
      have hxm : rdOf (0 : Int) ys (i : Int) = x := by rw [← hx, ← HY.out.2 i (Nat.le_refl _)]; simp [rdOf]
      rw [hxm, Int.toNat_natCast] at km
      rw [Int.toNat_natCast] at fm
      rw [hx] at kl
      have HBK := Aside0.mk hblk
      clear hxm hx hRO hblk
      go_wp2
      go_quiet (fail)
      go_wp2
      go_roundw
      case rel => exact ⟨i + 1, ys.set i ((x + 1) % 4294967296), by omega, by go_num, ⟨⟨by rw [List.length_set]; exact HY.out.1, fun j hj => by
          rw [List.getD_eq_getElem?_getD, List.getElem?_set_ne (by omega), ← List.getD_eq_getElem?_getD]; exact HY.out.2 j (by omega)⟩⟩,
        ⟨by have := (Kd.R_putg (enc := Value.int .u32) (h1 := fun _ => rfl) (Kd.R_drewN HO.out nq) (i : Int) ((x + 1) % 4294967296)).1; rw [Int.toNat_natCast] at this; exact this⟩,
        ⟨(pw_below_drewN HB6.out nq).setCell (p := ⟨cc, i, none⟩) HBK.out _⟩,
        ⟨C_same HCl.out (fun ad ha hp => Below.heap_setCell _ _ _ _ (by have h1 := HKl.out ad ha hp; have h2 := HSZ.out; have h3 := HBK.out; show ad.block ≠ cc; omega))⟩⟩
      case measure => simp [intOf]; omega
    · obtain rfl : i = ls.length := by omega
      have r4 := (HB6.out.block g4 Q4.out).trans P4.out
      have r6 := (HB6.out.block g6 Q6.out).trans P6.out
      have k40 : wr.cell? ⟨g4, 0, none⟩ = some (.slice A2 (rWords xs e most).1.length c2) := (cell_blk r4 0).trans rfl
      have k41 : wr.cell? ⟨g4, 1, none⟩ = some (.int .i64 (rWords xs e most).2.1) := (cell_blk r4 1).trans rfl
      have k60 : wr.cell? ⟨g6, 0, none⟩ = some (.slice none 0 0) := (cell_blk r6 0).trans rfl
      have k61 : wr.cell? ⟨g6, 1, none⟩ = some (.int .i64 0) := (cell_blk r6 1).trans rfl
      have f60 := frozen_blk r6 0
      have f61 := frozen_blk r6 1
      clear r4 r6
      have U0 : B0 ≤ w5.heap.size := Nat.le_trans HB.out B5.out.size
      have U1 : B ≤ w5.heap.size := Nat.le_trans HBB.out B5.out.size
      have HU0 := Aside0.mk U0
      have HU1 := Aside0.mk U1
      clear U0 U1
      go_wp2
      exact bodyPost_ret (v := .tuple #[.agg #[.slice A2 (rWords xs e most).1.length c2, .int .i64 (rWords xs e most).2.1], .bool true]) (by simp [results, Try.results22, go_sem, k60, k61]) rfl ⟨_, rfl,
        RS.under HV2.out ((B5.out.mono HB.out).trans ((Turn.below2 HT6.out HB0.out HU0.out).trans ((HB6.out.mono HU0.out).trans (((Below.refl B0 _).setCell (p := ⟨g6, 0, none⟩) (Nat.le_trans HB.out M6.out) _).setCell (p := ⟨g6, 1, none⟩) (Nat.le_trans HB.out M6.out) _)))),
        Rd.below HR6.out ((HB6.out.mono HU1.out).trans (((Below.refl B _).setCell (p := ⟨g6, 0, none⟩) (Nat.le_trans HBB.out M6.out) _).setCell (p := ⟨g6, 1, none⟩) (Nat.le_trans HBB.out M6.out) _)),
        (((Turn.of_below g B5.out).trans HT6.out).under (HB6.out.mono B5.out.size)).under (((Below.refl w.heap.size _).setCell (p := ⟨g6, 0, none⟩) M6.out _).setCell (p := ⟨g6, 1, none⟩) M6.out _)⟩
end Go.Proofs.Ytglcbaellbhogaa.Do
