/- The document's reader (budwoodref03.Reader): what it tells is what the program's reader tells. -/
import Derived.Test.YtglcbaellbhogaaPure1
namespace Go.Proofs.Ytglcbaellbhogaa.RefR
open Go.RowKit Go.Proofs.Ytglcbaellbhogaa.Sep Go.Proofs.YtglcbaellbhogaaW.PrintWords Go.Proofs.YtglcbaellbhogaaW.PrintLast Go.Proofs.YtglcbaellbhogaaW.PrintMore Go.Proofs.Ytglcbaellbhogaa.PB Go.Proofs.Ytglcbaellbhogaa.Reader Go.Proofs.Ytglcbaellbhogaa.Pure1
attribute [local go_sem] max2_int min2_int max_two min_two max_three min_three max_four min_four
set_option linter.unusedVariables false
set_option linter.unusedSimpArgs false

theorem rvarR {B : Nat} {v : Value} {xs : List Int} {e : Int} (most : Int) (w : World) (h : RS B w v xs e) (hbd : ∀ x ∈ xs, 0 ≤ x ∧ x < 256) :
    Calls Try.prog 28 #[v, .int .u32 most] w (Two B w (rVar xs e most).1 (rVar xs e most).2.1 (fun u => u = .int .u32 (rVar xs e most).2.2)) := by
  obtain ⟨A, c, rfl, h2, h3, h4⟩ := h
  by_cases he : e = 0
  · subst he
    rcases hv : vr xs most 5 0 0 with ⟨j, e', r⟩
    have hv' := hv
    rw [vr_eq xs most hbd 5 0 0 rfl (by omega) (by decide)] at hv'
    refine (rvar_calls A xs c most w h3 h2 h3.2.1 hbd h4 j e' r hv').mono ?_
    rintro z w' hz
    cases j with
    | none => simpa only [rVar, hv, if_true, lft] using hz
    | some j => simpa only [rVar, hv, if_true, lft] using hz
  · have hd : (e != 0) = true := by simpa using he
    go_enter Try.func28, Try.ntmps28
    go_wp2
    exact bodyPost_ret (v := .tuple #[.agg #[.slice A xs.length c, .int .i64 e], .int .u32 0]) (by simp [results, Try.results28, go_sem]) rfl ⟨_, _, rfl, by
      simp only [rVar, if_neg he]
      exact ⟨A, c, rfl, h2, h3, h4⟩, by simp only [rVar, if_neg he], ((Below.refl _ _).alloc (Nat.le_refl _) _).alloc (by simp) _⟩
theorem rtakeR {B : Nat} {v : Value} {xs : List Int} {e : Int} (n : Nat) (w : World) (h : RS B w v xs e) :
    Calls Try.prog 36 #[v, .int .i64 (n : Int)] w (Two B w (rTake xs e n).1 (rTake xs e n).2.1 (fun u => ∃ A c, u = .slice A (rTake xs e n).2.2.length c ∧ (rTake xs e n).2.2.length ≤ c ∧ Kd.C (Kd.int .u8) w A (rTake xs e n).2.2.length (rTake xs e n).2.2 ∧ (∀ ad, A = some ad → 0 < (rTake xs e n).2.2.length → ad.block < B))) := by
  obtain ⟨A, c, rfl, h2, h3, h4⟩ := h
  by_cases he : e = 0
  · subst he
    by_cases hn : n ≤ xs.length
    · refine (rtake_go A xs c n w h2 hn h3.2.1).mono ?_
      rintro z w' ⟨rfl, hb⟩
      have hl : (xs.take n).length = n := by rw [List.length_take]; omega
      have hl2 : (xs.drop n).length = xs.length - n := List.length_drop
      simp only [rTake, if_pos hn, if_true]
      refine ⟨_, _, rfl, ⟨_, _, by rw [hl2], by omega, ?_, ?_⟩, ⟨A, c, by rw [hl], by omega, Kd.C_take h3 hn, fun ad ha hp => h4 ad ha (by omega)⟩, hb⟩
      · have := Kd.C_drop (c := c) h3 hn h2
        simpa [Kd.int, Kd.scalar] using this
      · intro ad ha hp
        rw [hl2] at hp
        rw [if_neg (by omega)] at ha
        cases A with
        | none => cases ha
        | some a =>
          simp only [Option.map_some, Option.some.injEq] at ha
          subst ha
          have := h4 a rfl (by omega)
          unfold Addr.add; split <;> simpa using this
    · refine (rtake_cut A xs c n w (by omega)).mono ?_
      rintro z w' ⟨rfl, hb⟩
      simp only [rTake, if_neg hn, if_true]
      exact ⟨_, _, rfl, RS.stopped _ _ _, ⟨none, 0, rfl, Nat.le_refl _, Kd.C_nil _ _, fun ad h => (by cases h)⟩, hb⟩
  · refine (rtake_down A _ c n e w (by simpa using he)).mono ?_
    rintro z w' ⟨rfl, hb⟩
    simp only [rTake, if_neg he]
    exact ⟨_, _, rfl, ⟨A, c, rfl, h2, h3, h4⟩, ⟨none, 0, rfl, Nat.le_refl _, Kd.C_nil _ _, fun ad h => (by cases h)⟩, hb⟩
theorem rvarM {B : Nat} {v : Value} {xs : List Int} {e : Int} (m most : Int) (hm : m = atM most) (w : World) (h : RS B w v xs e) (hbd : ∀ x ∈ xs, 0 ≤ x ∧ x < 256) :
    Calls Try.prog 28 #[v, .int .u32 m] w (Two B w (rVar xs e (atM most)).1 (rVar xs e (atM most)).2.1 (fun u => u = .int .u32 (rVar xs e (atM most)).2.2)) := by subst hm; exact rvarR _ w h hbd
theorem rVar_byte {xs : List Int} {e most : Int} (h : ∀ x ∈ xs, 0 ≤ x ∧ x < 256) : ∀ x ∈ (rVar xs e most).1, 0 ≤ x ∧ x < 256 := by
  unfold rVar
  split
  · rcases hv : vr xs most 5 0 0 with ⟨j, e', r⟩
    cases j with
    | none => intro x hx; cases hx
    | some j => exact fun x hx => h x (List.mem_of_mem_drop hx)
  · exact h
theorem rTake_byte {xs : List Int} {e : Int} {n : Nat} (h : ∀ x ∈ xs, 0 ≤ x ∧ x < 256) : (∀ x ∈ (rTake xs e n).1, 0 ≤ x ∧ x < 256) ∧ ∀ x ∈ (rTake xs e n).2.2, 0 ≤ x ∧ x < 256 := by
  unfold rTake
  split
  · split
    · exact ⟨fun x hx => h x (List.mem_of_mem_drop hx), fun x hx => h x (List.mem_of_mem_take hx)⟩
    · exact ⟨fun x hx => (by cases hx), fun x hx => (by cases hx)⟩
  · exact ⟨h, fun x hx => (by cases hx)⟩
set_option maxHeartbeats 2000000 in
theorem rtextR {B : Nat} {v : Value} {xs : List Int} {e : Int} (most : Int) (w : World) (hB : B ≤ w.heap.size) (h : RS B w v xs e) (hbd : ∀ x ∈ xs, 0 ≤ x ∧ x < 256) :
    Calls Try.prog 29 #[v, .int .i64 most] w (Two B w (rText xs e most).1 (rText xs e most).2.1 (fun u => u = .string (strOfNums (rText xs e most).2.2))) := by
  obtain ⟨A, c, rfl, h2, h3, h4⟩ := h
  obtain ⟨n, hn⟩ : ∃ n : Nat, ((rVar xs e (atM most)).2.2 = (n : Int)) := ⟨_, (Int.toNat_of_nonneg (rVar_bd _ _ _).1).symm⟩
  have hb : n < 4294967296 := by have := (rVar_bd xs e (atM most)).2; omega
  have HN := Aside0.mk hn
  have HB := Aside0.mk hB
  have HBD := Aside0.mk hbd
  have HV : Aside0 (RS B w (.agg #[.slice A xs.length c, .int .i64 e]) xs e) := ⟨⟨A, c, rfl, h2, h3, h4⟩⟩
  clear hn hbd h2 h3 h4 hB
  have S := Aside0.mk (St.start w)
  go_enter Try.func29, Try.ntmps29
  go_wp2_with (first | ((with_reducible refine gate_dst (N := 2) rfl ?_); refine box_event ?hg (N := 2) ?hd (cs := #[.slice A xs.length c, .int .i64 e]) (t := 41) ?hr ?_; (case hd => rfl); (case hg => rfl); (case hr => first | (go_simp; done) | (go_simp; rfl)); intro g1 hgN w1 hbox hbN; have n0_ := Aside0.mk (St.boxed (by repeat (first | exact S.out | apply St.drewN | apply St.drew)) hgN hbox hbN); clear S; have S := n0_; clear n0_ hgN hbox hbN; have hB_g1 := S.out.blk (g := g1) (cs := #[.slice A xs.length c, .int .i64 e]) (t := 41) (List.mem_of_getElem? (i := 0) rfl); have hc_g1_0 : w1.cell? ⟨g1, 0, none⟩ = some (.slice A xs.length c) := (cell_blk hB_g1 0).trans rfl; have hf_g1_0 := frozen_blk hB_g1 0; have hc_g1_1 : w1.cell? ⟨g1, 1, none⟩ = some (.int .i64 e) := (cell_blk hB_g1 1).trans rfl; have hf_g1_1 := frozen_blk hB_g1 1; clear hB_g1) | ((with_reducible refine gate_dst (N := 4) rfl ?_); refine box_event ?hg (N := 4) ?hd (cs := #[.slice none 0 0, .int .i64 0]) (t := 41) ?hr ?_; (case hd => rfl); (case hg => rfl); (case hr => first | (go_simp; done) | (go_simp; rfl)); intro g2 hgN w2 hbox hbN; have n0_ := Aside0.mk (St.boxed (by repeat (first | exact S.out | apply St.drewN | apply St.drew)) hgN hbox hbN); clear S; have S := n0_; clear n0_ hgN hbox hbN; clear hc_g1_0 hf_g1_0 hc_g1_1 hf_g1_1; have hB_g2 := S.out.blk (g := g2) (cs := #[.slice none 0 0, .int .i64 0]) (t := 41) (List.mem_of_getElem? (i := 0) rfl); have hc_g2_0 : w2.cell? ⟨g2, 0, none⟩ = some (.slice none 0 0) := (cell_blk hB_g2 0).trans rfl; have hf_g2_0 := frozen_blk hB_g2 0; have hc_g2_1 : w2.cell? ⟨g2, 1, none⟩ = some (.int .i64 0) := (cell_blk hB_g2 1).trans rfl; have hf_g2_1 := frozen_blk hB_g2 1; clear hB_g2; have hB_g1 := S.out.blk (g := g1) (cs := #[.slice A xs.length c, .int .i64 e]) (t := 41) (List.mem_of_getElem? (i := 1) rfl); have hc_g1_0 : w2.cell? ⟨g1, 0, none⟩ = some (.slice A xs.length c) := (cell_blk hB_g1 0).trans rfl; have hf_g1_0 := frozen_blk hB_g1 0; have hc_g1_1 : w2.cell? ⟨g1, 1, none⟩ = some (.int .i64 e) := (cell_blk hB_g1 1).trans rfl; have hf_g1_1 := frozen_blk hB_g1 1; clear hB_g1) | (go_at_call 28; refine (rvarM (B := B) (v := .agg #[.slice A xs.length c, .int .i64 e]) (xs := xs) (e := e) _ most ?hm _ (HV.out.under (S.out.below.mono HB.out)) HBD.out).mono ?_; (case hm => unfold atM mx mn; omega); have BW := Aside0.mk S.out.below; rintro z w3 ⟨v2, u2, rfl, hRS, hu2, hb⟩; have n0_ := Aside0.mk (St.keep (by repeat (first | exact S.out | apply St.drewN | apply St.drew)) hb); clear S; have S := n0_; clear n0_ hb; clear hc_g2_0 hf_g2_0 hc_g2_1 hf_g2_1 hc_g1_0 hf_g1_0 hc_g1_1 hf_g1_1; rw [HN.out] at hu2; subst hu2; have HV2 := Aside0.mk (hRS.back (BW.out.mono HB.out)); obtain ⟨A2, c2, rfl, _, _, _⟩ := hRS; have hB_g2 := S.out.blk (g := g2) (cs := #[.slice none 0 0, .int .i64 0]) (t := 41) (List.mem_of_getElem? (i := 0) rfl); have hc_g2_0 : w3.cell? ⟨g2, 0, none⟩ = some (.slice none 0 0) := (cell_blk hB_g2 0).trans rfl; have hf_g2_0 := frozen_blk hB_g2 0; have hc_g2_1 : w3.cell? ⟨g2, 1, none⟩ = some (.int .i64 0) := (cell_blk hB_g2 1).trans rfl; have hf_g2_1 := frozen_blk hB_g2 1; clear hB_g2; have hB_g1 := S.out.blk (g := g1) (cs := #[.slice A xs.length c, .int .i64 e]) (t := 41) (List.mem_of_getElem? (i := 1) rfl); have hc_g1_0 : w3.cell? ⟨g1, 0, none⟩ = some (.slice A xs.length c) := (cell_blk hB_g1 0).trans rfl; have hf_g1_0 := frozen_blk hB_g1 0; have hc_g1_1 : w3.cell? ⟨g1, 1, none⟩ = some (.int .i64 e) := (cell_blk hB_g1 1).trans rfl; have hf_g1_1 := frozen_blk hB_g1 1; clear hB_g1) | ((with_reducible refine gate_store (t := 41) (p := 2) rfl ?_); refine store_event (t := 41) (p := 2) (v := ?vo_w4) (w1 := ?w1_w4) ?hg ?ho ?hn ?hr ?_; (case ho => rfl); (case hg => rfl); (case hn => rfl); (case hr => first | (go_simp; done) | (go_simp; rfl)); intro w4 hw; have n0_ : Aside0 (St w w4 [Blk g2 #[.slice none 0 0, .int .i64 0] 41, Blk g1 #[.slice A2 (rVar xs e (atM most)).1.length c2, .int .i64 (rVar xs e (atM most)).2.1] 41]) := ⟨by rw [hw]; exact (St.set (pre := [Blk g2 #[.slice none 0 0, .int .i64 0] 41]) (post := []) (g := g1) (cs := #[.slice A2 (rVar xs e (atM most)).1.length c2, .int .i64 e]) (t := 41) (St.set (pre := [Blk g2 #[.slice none 0 0, .int .i64 0] 41]) (post := []) (g := g1) (cs := #[.slice A xs.length c, .int .i64 e]) (t := 41) (by repeat (first | exact S.out | apply St.drewN | apply St.drew)) 0 (.slice A2 (rVar xs e (atM most)).1.length c2)) 1 (.int .i64 (rVar xs e (atM most)).2.1))⟩; clear S; have S := n0_; clear n0_ hw; clear hc_g2_0 hf_g2_0 hc_g2_1 hf_g2_1 hc_g1_0 hf_g1_0 hc_g1_1 hf_g1_1; have hB_g2 := S.out.blk (g := g2) (cs := #[.slice none 0 0, .int .i64 0]) (t := 41) (List.mem_of_getElem? (i := 0) rfl); have hc_g2_0 : w4.cell? ⟨g2, 0, none⟩ = some (.slice none 0 0) := (cell_blk hB_g2 0).trans rfl; have hf_g2_0 := frozen_blk hB_g2 0; have hc_g2_1 : w4.cell? ⟨g2, 1, none⟩ = some (.int .i64 0) := (cell_blk hB_g2 1).trans rfl; have hf_g2_1 := frozen_blk hB_g2 1; clear hB_g2; have hB_g1 := S.out.blk (g := g1) (cs := #[.slice A2 (rVar xs e (atM most)).1.length c2, .int .i64 (rVar xs e (atM most)).2.1]) (t := 41) (List.mem_of_getElem? (i := 1) rfl); have hc_g1_0 : w4.cell? ⟨g1, 0, none⟩ = some (.slice A2 (rVar xs e (atM most)).1.length c2) := (cell_blk hB_g1 0).trans rfl; have hf_g1_0 := frozen_blk hB_g1 0; have hc_g1_1 : w4.cell? ⟨g1, 1, none⟩ = some (.int .i64 (rVar xs e (atM most)).2.1) := (cell_blk hB_g1 1).trans rfl; have hf_g1_1 := frozen_blk hB_g1 1; clear hB_g1) | (go_at_call 36; refine (rtakeR (B := B) (v := .agg #[.slice A2 (rVar xs e (atM most)).1.length c2, .int .i64 (rVar xs e (atM most)).2.1]) (xs := (rVar xs e (atM most)).1) (e := (rVar xs e (atM most)).2.1) n _ (HV2.out.under (S.out.below.mono HB.out))).mono ?_; have BW2 := Aside0.mk S.out.below; rintro z w5 ⟨v3, u3, rfl, hRS, ⟨A4, c4, rfl, hc4, hC4, hf4⟩, hb⟩; have n0_ := Aside0.mk (St.keep (by repeat (first | exact S.out | apply St.drewN | apply St.drew)) hb); clear S; have S := n0_; clear n0_ hb; clear hc_g2_0 hf_g2_0 hc_g2_1 hf_g2_1 hc_g1_0 hf_g1_0 hc_g1_1 hf_g1_1; have HV3 := Aside0.mk (hRS.back (BW2.out.mono HB.out)); have HC4 := Aside0.mk (C_back hC4 (BW2.out.mono HB.out) hf4); have HF4 := Aside0.mk hf4; obtain ⟨A3, c3, rfl, _, _, _⟩ := hRS; clear hC4 hc4 hf4; have hB_g2 := S.out.blk (g := g2) (cs := #[.slice none 0 0, .int .i64 0]) (t := 41) (List.mem_of_getElem? (i := 0) rfl); have hc_g2_0 : w5.cell? ⟨g2, 0, none⟩ = some (.slice none 0 0) := (cell_blk hB_g2 0).trans rfl; have hf_g2_0 := frozen_blk hB_g2 0; have hc_g2_1 : w5.cell? ⟨g2, 1, none⟩ = some (.int .i64 0) := (cell_blk hB_g2 1).trans rfl; have hf_g2_1 := frozen_blk hB_g2 1; clear hB_g2; have hB_g1 := S.out.blk (g := g1) (cs := #[.slice A2 (rVar xs e (atM most)).1.length c2, .int .i64 (rVar xs e (atM most)).2.1]) (t := 41) (List.mem_of_getElem? (i := 1) rfl); have hc_g1_0 : w5.cell? ⟨g1, 0, none⟩ = some (.slice A2 (rVar xs e (atM most)).1.length c2) := (cell_blk hB_g1 0).trans rfl; have hf_g1_0 := frozen_blk hB_g1 0; have hc_g1_1 : w5.cell? ⟨g1, 1, none⟩ = some (.int .i64 (rVar xs e (atM most)).2.1) := (cell_blk hB_g1 1).trans rfl; have hf_g1_1 := frozen_blk hB_g1 1; clear hB_g1) | ((with_reducible refine gate_store (t := 41) (p := 2) rfl ?_); refine store_event (t := 41) (p := 2) (v := ?vo_w6) (w1 := ?w1_w6) ?hg ?ho ?hn ?hr ?_; (case ho => rfl); (case hg => rfl); (case hn => rfl); (case hr => first | (go_simp; done) | (go_simp; rfl)); intro w6 hw; have n0_ : Aside0 (St w w6 [Blk g2 #[.slice none 0 0, .int .i64 0] 41, Blk g1 #[.slice A3 (rTake (rVar xs e (atM most)).1 (rVar xs e (atM most)).2.1 n).1.length c3, .int .i64 (rTake (rVar xs e (atM most)).1 (rVar xs e (atM most)).2.1 n).2.1] 41]) := ⟨by rw [hw]; exact (St.set (pre := [Blk g2 #[.slice none 0 0, .int .i64 0] 41]) (post := []) (g := g1) (cs := #[.slice A3 (rTake (rVar xs e (atM most)).1 (rVar xs e (atM most)).2.1 n).1.length c3, .int .i64 (rVar xs e (atM most)).2.1]) (t := 41) (St.set (pre := [Blk g2 #[.slice none 0 0, .int .i64 0] 41]) (post := []) (g := g1) (cs := #[.slice A2 (rVar xs e (atM most)).1.length c2, .int .i64 (rVar xs e (atM most)).2.1]) (t := 41) (by repeat (first | exact S.out | apply St.drewN | apply St.drew)) 0 (.slice A3 (rTake (rVar xs e (atM most)).1 (rVar xs e (atM most)).2.1 n).1.length c3)) 1 (.int .i64 (rTake (rVar xs e (atM most)).1 (rVar xs e (atM most)).2.1 n).2.1))⟩; clear S; have S := n0_; clear n0_ hw; clear hc_g2_0 hf_g2_0 hc_g2_1 hf_g2_1 hc_g1_0 hf_g1_0 hc_g1_1 hf_g1_1; have hB_g2 := S.out.blk (g := g2) (cs := #[.slice none 0 0, .int .i64 0]) (t := 41) (List.mem_of_getElem? (i := 0) rfl); have hc_g2_0 : w6.cell? ⟨g2, 0, none⟩ = some (.slice none 0 0) := (cell_blk hB_g2 0).trans rfl; have hf_g2_0 := frozen_blk hB_g2 0; have hc_g2_1 : w6.cell? ⟨g2, 1, none⟩ = some (.int .i64 0) := (cell_blk hB_g2 1).trans rfl; have hf_g2_1 := frozen_blk hB_g2 1; clear hB_g2; have hB_g1 := S.out.blk (g := g1) (cs := #[.slice A3 (rTake (rVar xs e (atM most)).1 (rVar xs e (atM most)).2.1 n).1.length c3, .int .i64 (rTake (rVar xs e (atM most)).1 (rVar xs e (atM most)).2.1 n).2.1]) (t := 41) (List.mem_of_getElem? (i := 1) rfl); have hc_g1_0 : w6.cell? ⟨g1, 0, none⟩ = some (.slice A3 (rTake (rVar xs e (atM most)).1 (rVar xs e (atM most)).2.1 n).1.length c3) := (cell_blk hB_g1 0).trans rfl; have hf_g1_0 := frozen_blk hB_g1 0; have hc_g1_1 : w6.cell? ⟨g1, 1, none⟩ = some (.int .i64 (rTake (rVar xs e (atM most)).1 (rVar xs e (atM most)).2.1 n).2.1) := (cell_blk hB_g1 1).trans rfl; have hf_g1_1 := frozen_blk hB_g1 1; clear hB_g1))
  all_goals
    have hs := fun W (hC : Kd.C (Kd.int .u8) W A4 (rTake (rVar xs e (atM most)).1 (rVar xs e (atM most)).2.1 n).2.2.length (rTake (rVar xs e (atM most)).1 (rVar xs e (atM most)).2.1 n).2.2) => Kd.C_string (P := Try.prog) (src := 23) (dst := 9) (e := 5) (c := c4) Try.underlying23 Try.underlying5 Try.underlying9 hC
    have hC6 := C_under HC4.out (S.out.below.mono HB.out) HF4.out
    have h6 := hs _ hC6
    have h6' := hs _ (Kd.C_drew hC6)
    have HG2 : w.heap.size ≤ g2 := S.out.new (Blk g2 #[.slice none 0 0, .int .i64 0] 41) (List.mem_of_getElem? (i := 0) rfl) g2 rfl
    have hB7 := (S.out.below.setCell (p := ⟨g2, 0, none⟩) HG2 (.slice A3 (rTake (rVar xs e (atM most)).1 (rVar xs e (atM most)).2.1 n).1.length c3)).setCell (p := ⟨g2, 1, none⟩) HG2 (.int .i64 (rTake (rVar xs e (atM most)).1 (rVar xs e (atM most)).2.1 n).2.1)
    have hC7 := C_under HC4.out (hB7.mono HB.out) HF4.out
    have h7 := hs _ hC7
    have h7' := hs _ (Kd.C_drew hC7)
    have HC7 := Aside0.mk hC7; have HB7 := Aside0.mk hB7
    clear hs hC7 hC6 hB7
    go_region
    all_goals
      go_wp2
      exact bodyPost_ret (v := .tuple #[.agg #[.slice A3 (rTake (rVar xs e (atM most)).1 (rVar xs e (atM most)).2.1 n).1.length c3, .int .i64 (rTake (rVar xs e (atM most)).1 (rVar xs e (atM most)).2.1 n).2.1], .string (strOfNums (rTake (rVar xs e (atM most)).1 (rVar xs e (atM most)).2.1 n).2.2)]) (by simp [results, Try.results29, go_sem, hc_g2_0, hc_g2_1]) rfl ⟨_, _, rfl, by rw [rText, HN.out]; exact HV3.out, by rw [rText, HN.out]; rfl, HB7.out.drew⟩
theorem rTake_4 (xs : List Int) (e : Int) (n : Nat) : (rTake xs e n).2.2.length = 0 ∨ (rTake xs e n).2.2.length = n := by
  unfold rTake
  split
  · split
    · right; simp; omega
    · left; rfl
  · left; rfl
theorem quad {w : World} {A : Option Addr} {l : List Int} (h : Kd.C (Kd.int .u8) w A l.length l) (hl : l.length = 4) : ∃ b off b0 b1 b2 b3, A = some ⟨b, off, none⟩ ∧ l = [b0, b1, b2, b3] ∧ w.cell? ⟨b, off, none⟩ = some (.int .u8 b0) ∧ w.cell? ⟨b, off + 1, none⟩ = some (.int .u8 b1) ∧ w.cell? ⟨b, off + 2, none⟩ = some (.int .u8 b2) ∧ w.cell? ⟨b, off + 3, none⟩ = some (.int .u8 b3) := by
  match l, hl with
  | [b0, b1, b2, b3], _ =>
    obtain ⟨ad, x0, rfl, e0, k0⟩ := byte_at h 0 (by simp)
    obtain ⟨ad1, x1, e, e1, k1⟩ := byte_at h 1 (by simp)
    injection e with e; subst e
    obtain ⟨ad2, x2, e, e2, k2⟩ := byte_at h 2 (by simp)
    injection e with e; subst e
    obtain ⟨ad3, x3, e, e3, k3⟩ := byte_at h 3 (by simp)
    injection e with e; subst e
    injection e0 with e0; injection e1 with e1; injection e2 with e2; injection e3 with e3
    subst e0 e1 e2 e3
    obtain ⟨b, off, spot⟩ := ad
    have hspot : spot = none := by simpa [Addr.add] using World.cell?_spot k0
    subst hspot
    exact ⟨_, _, _, _, _, _, rfl, rfl, by simpa [Addr.add] using k0, by simpa [Addr.add] using k1, by simpa [Addr.add] using k2, by simpa [Addr.add] using k3⟩
set_option maxHeartbeats 4000000 in
theorem rword_go {B : Nat} {v : Value} {xs : List Int} {e : Int} (w : World) (hB : B ≤ w.heap.size) (h : RS B w v xs e) (hbd : ∀ x ∈ xs, 0 ≤ x ∧ x < 256) (L : Nat) (hL : (rTake xs e 4).2.2.length = L) (h4 : L = 4) :
    Calls Try.prog 30 #[v] w (Two B w (rWord xs e).1 (rWord xs e).2.1 (fun u => u = .int .u32 (rWord xs e).2.2)) := by
  obtain ⟨A, c, rfl, h2, h3, h4'⟩ := h
  have HB := Aside0.mk hB
  have HBD := Aside0.mk hbd
  have HL := Aside0.mk hL
  have HV : Aside0 (RS B w (.agg #[.slice A xs.length c, .int .i64 e]) xs e) := ⟨⟨A, c, rfl, h2, h3, h4'⟩⟩
  clear hbd h2 h3 h4' hB hL
  subst h4
  have S := Aside0.mk (St.start w)
  go_enter Try.func30, Try.ntmps30
  go_wp2_with (first | ((with_reducible refine gate_dst (N := 1) rfl ?_); refine box_event ?hg (N := 1) ?hd (cs := #[.slice A xs.length c, .int .i64 e]) (t := 41) ?hr ?_; (case hd => rfl); (case hg => rfl); (case hr => first | (go_simp; done) | (go_simp; rfl)); intro g1 hgN w1 hbox hbN; have n0_ := Aside0.mk (St.boxed (by repeat (first | exact S.out | apply St.drewN | apply St.drew)) hgN hbox hbN); clear S; have S := n0_; clear n0_ hgN hbox hbN; have hB_g1 := S.out.blk (g := g1) (cs := #[.slice A xs.length c, .int .i64 e]) (t := 41) (List.mem_of_getElem? (i := 0) rfl); have hc_g1_0 : w1.cell? ⟨g1, 0, none⟩ = some (.slice A xs.length c) := (cell_blk hB_g1 0).trans rfl; have hf_g1_0 := frozen_blk hB_g1 0; have hc_g1_1 : w1.cell? ⟨g1, 1, none⟩ = some (.int .i64 e) := (cell_blk hB_g1 1).trans rfl; have hf_g1_1 := frozen_blk hB_g1 1; clear hB_g1) | ((with_reducible refine gate_dst (N := 2) rfl ?_); refine box_event ?hg (N := 2) ?hd (cs := #[.slice none 0 0, .int .i64 0]) (t := 41) ?hr ?_; (case hd => rfl); (case hg => rfl); (case hr => first | (go_simp; done) | (go_simp; rfl)); intro g2 hgN w2 hbox hbN; have n0_ := Aside0.mk (St.boxed (by repeat (first | exact S.out | apply St.drewN | apply St.drew)) hgN hbox hbN); clear S; have S := n0_; clear n0_ hgN hbox hbN; clear hc_g1_0 hf_g1_0 hc_g1_1 hf_g1_1; have hB_g2 := S.out.blk (g := g2) (cs := #[.slice none 0 0, .int .i64 0]) (t := 41) (List.mem_of_getElem? (i := 0) rfl); have hc_g2_0 : w2.cell? ⟨g2, 0, none⟩ = some (.slice none 0 0) := (cell_blk hB_g2 0).trans rfl; have hf_g2_0 := frozen_blk hB_g2 0; have hc_g2_1 : w2.cell? ⟨g2, 1, none⟩ = some (.int .i64 0) := (cell_blk hB_g2 1).trans rfl; have hf_g2_1 := frozen_blk hB_g2 1; clear hB_g2; have hB_g1 := S.out.blk (g := g1) (cs := #[.slice A xs.length c, .int .i64 e]) (t := 41) (List.mem_of_getElem? (i := 1) rfl); have hc_g1_0 : w2.cell? ⟨g1, 0, none⟩ = some (.slice A xs.length c) := (cell_blk hB_g1 0).trans rfl; have hf_g1_0 := frozen_blk hB_g1 0; have hc_g1_1 : w2.cell? ⟨g1, 1, none⟩ = some (.int .i64 e) := (cell_blk hB_g1 1).trans rfl; have hf_g1_1 := frozen_blk hB_g1 1; clear hB_g1) | (go_at_call 36; refine (rtakeR (B := B) (v := .agg #[.slice A xs.length c, .int .i64 e]) (xs := xs) (e := e) 4 _ (HV.out.under (S.out.below.mono HB.out))).mono ?_; have BW2 := Aside0.mk S.out.below; rintro z w3 ⟨v3, u3, rfl, hRS, ⟨A4, c4, rfl, hc4, hC4, hf4⟩, hb⟩; have n0_ := Aside0.mk (St.keep (by repeat (first | exact S.out | apply St.drewN | apply St.drew)) hb); clear S; have S := n0_; clear n0_ hb; clear hc_g2_0 hf_g2_0 hc_g2_1 hf_g2_1 hc_g1_0 hf_g1_0 hc_g1_1 hf_g1_1; have HV3 := Aside0.mk (hRS.back (BW2.out.mono HB.out)); have HC4 := Aside0.mk (C_back hC4 (BW2.out.mono HB.out) hf4); have HF4 := Aside0.mk hf4; rw [HL.out]; obtain ⟨A3, c3, rfl, _, _, _⟩ := hRS; clear hC4 hc4 hf4; have hB_g2 := S.out.blk (g := g2) (cs := #[.slice none 0 0, .int .i64 0]) (t := 41) (List.mem_of_getElem? (i := 0) rfl); have hc_g2_0 : w3.cell? ⟨g2, 0, none⟩ = some (.slice none 0 0) := (cell_blk hB_g2 0).trans rfl; have hf_g2_0 := frozen_blk hB_g2 0; have hc_g2_1 : w3.cell? ⟨g2, 1, none⟩ = some (.int .i64 0) := (cell_blk hB_g2 1).trans rfl; have hf_g2_1 := frozen_blk hB_g2 1; clear hB_g2; have hB_g1 := S.out.blk (g := g1) (cs := #[.slice A xs.length c, .int .i64 e]) (t := 41) (List.mem_of_getElem? (i := 1) rfl); have hc_g1_0 : w3.cell? ⟨g1, 0, none⟩ = some (.slice A xs.length c) := (cell_blk hB_g1 0).trans rfl; have hf_g1_0 := frozen_blk hB_g1 0; have hc_g1_1 : w3.cell? ⟨g1, 1, none⟩ = some (.int .i64 e) := (cell_blk hB_g1 1).trans rfl; have hf_g1_1 := frozen_blk hB_g1 1; clear hB_g1) | ((with_reducible refine gate_store (t := 41) (p := 1) rfl ?_); refine store_event (t := 41) (p := 1) (v := ?vo_w4) (w1 := ?w1_w4) ?hg ?ho ?hn ?hr ?_; (case ho => rfl); (case hg => rfl); (case hn => rfl); (case hr => first | (go_simp; done) | (go_simp; rfl)); intro w4 hw; have n0_ : Aside0 (St w w4 [Blk g2 #[.slice none 0 0, .int .i64 0] 41, Blk g1 #[.slice A3 (rTake xs e 4).1.length c3, .int .i64 (rTake xs e 4).2.1] 41]) := ⟨by rw [hw]; exact (St.set (pre := [Blk g2 #[.slice none 0 0, .int .i64 0] 41]) (post := []) (g := g1) (cs := #[.slice A3 (rTake xs e 4).1.length c3, .int .i64 e]) (t := 41) (St.set (pre := [Blk g2 #[.slice none 0 0, .int .i64 0] 41]) (post := []) (g := g1) (cs := #[.slice A xs.length c, .int .i64 e]) (t := 41) (by repeat (first | exact S.out | apply St.drewN | apply St.drew)) 0 (.slice A3 (rTake xs e 4).1.length c3)) 1 (.int .i64 (rTake xs e 4).2.1))⟩; clear S; have S := n0_; clear n0_ hw; clear hc_g2_0 hf_g2_0 hc_g2_1 hf_g2_1 hc_g1_0 hf_g1_0 hc_g1_1 hf_g1_1; have hB_g2 := S.out.blk (g := g2) (cs := #[.slice none 0 0, .int .i64 0]) (t := 41) (List.mem_of_getElem? (i := 0) rfl); have hc_g2_0 : w4.cell? ⟨g2, 0, none⟩ = some (.slice none 0 0) := (cell_blk hB_g2 0).trans rfl; have hf_g2_0 := frozen_blk hB_g2 0; have hc_g2_1 : w4.cell? ⟨g2, 1, none⟩ = some (.int .i64 0) := (cell_blk hB_g2 1).trans rfl; have hf_g2_1 := frozen_blk hB_g2 1; clear hB_g2; have hB_g1 := S.out.blk (g := g1) (cs := #[.slice A3 (rTake xs e 4).1.length c3, .int .i64 (rTake xs e 4).2.1]) (t := 41) (List.mem_of_getElem? (i := 1) rfl); have hc_g1_0 : w4.cell? ⟨g1, 0, none⟩ = some (.slice A3 (rTake xs e 4).1.length c3) := (cell_blk hB_g1 0).trans rfl; have hf_g1_0 := frozen_blk hB_g1 0; have hc_g1_1 : w4.cell? ⟨g1, 1, none⟩ = some (.int .i64 (rTake xs e 4).2.1) := (cell_blk hB_g1 1).trans rfl; have hf_g1_1 := frozen_blk hB_g1 1; clear hB_g1))
  obtain ⟨b, off, b0, b1, b2, b3, rfl, hl, k0, k1, k2, k3⟩ := quad HC4.out HL.out
  have HQ := Aside0.mk hl
  have hbb := (rTake_byte (e := e) (n := 4) HBD.out).2
  rw [hl] at hbb
  have p0 := hbb b0 (by simp); have p1 := hbb b1 (by simp); have p2 := hbb b2 (by simp); have p3 := hbb b3 (by simp)
  obtain ⟨p00, p01⟩ := p0; obtain ⟨p10, p11⟩ := p1; obtain ⟨p20, p21⟩ := p2; obtain ⟨p30, p31⟩ := p3
  clear hl hbb
  have HG2 : w.heap.size ≤ g2 := S.out.new (Blk g2 #[.slice none 0 0, .int .i64 0] 41) (List.mem_of_getElem? (i := 0) rfl) g2 rfl
  have hb4 := S.out.below.mono HB.out
  have hb7 := ((S.out.below.setCell (p := ⟨g2, 0, none⟩) HG2 (.slice A3 (rTake xs e 4).1.length c3)).setCell (p := ⟨g2, 1, none⟩) HG2 (.int .i64 (rTake xs e 4).2.1))
  have HB7 := Aside0.mk hb7
  have hlt : b < B := HF4.out ⟨b, off, none⟩ rfl (by rw [HL.out]; omega)
  have k40 := (hb4.cell (p := ⟨b, off, none⟩) hlt).trans k0
  have k41 := (hb4.cell (p := ⟨b, off + 1, none⟩) hlt).trans k1
  have k42 := (hb4.cell (p := ⟨b, off + 2, none⟩) hlt).trans k2
  have k43 := (hb4.cell (p := ⟨b, off + 3, none⟩) hlt).trans k3
  have k70 := ((hb7.mono HB.out).cell (p := ⟨b, off, none⟩) hlt).trans k0
  have k71 := ((hb7.mono HB.out).cell (p := ⟨b, off + 1, none⟩) hlt).trans k1
  have k72 := ((hb7.mono HB.out).cell (p := ⟨b, off + 2, none⟩) hlt).trans k2
  have k73 := ((hb7.mono HB.out).cell (p := ⟨b, off + 3, none⟩) hlt).trans k3
  clear k0 k1 k2 k3 hb4 hb7 hlt
  go_region
  all_goals
    go_wp2
    exact bodyPost_ret (v := .tuple #[.agg #[.slice A3 (rTake xs e 4).1.length c3, .int .i64 (rTake xs e 4).2.1], .int .u32 (bits BinOp.or IntKind.u32 (bits BinOp.or IntKind.u32 (bits BinOp.or IntKind.u32 b0 (b1 * 256)) (b2 * 65536)) (b3 * 16777216))]) (by simp [results, Try.results30, go_sem, hc_g2_0, hc_g2_1]) rfl
      ⟨_, _, rfl, HV3.out, by rw [or4 _ _ _ _ p00 p01 p10 p11 p20 p21 p30 p31, rWord, HQ.out]; show _ = Value.int .u32 (wsum (Back.back [b0, b1, b2, b3] 4)); rw [wsum4 _ _ _ _ p00 p01 p10 p11 p20 p21 p30 p31], HB7.out.drew⟩
theorem rword_cut {B : Nat} {v : Value} {xs : List Int} {e : Int} (w : World) (hB : B ≤ w.heap.size) (h : RS B w v xs e) (L : Nat) (hL : (rTake xs e 4).2.2.length = L) (h4 : L = 0) :
    Calls Try.prog 30 #[v] w (Two B w (rWord xs e).1 (rWord xs e).2.1 (fun u => u = .int .u32 (rWord xs e).2.2)) := by
  obtain ⟨A, c, rfl, h2, h3, h4'⟩ := h
  have HB := Aside0.mk hB
  have HL := Aside0.mk hL
  have HV : Aside0 (RS B w (.agg #[.slice A xs.length c, .int .i64 e]) xs e) := ⟨⟨A, c, rfl, h2, h3, h4'⟩⟩
  clear h2 h3 h4' hB hL
  subst h4
  have S := Aside0.mk (St.start w)
  go_enter Try.func30, Try.ntmps30
  go_wp2_with (first | ((with_reducible refine gate_dst (N := 1) rfl ?_); refine box_event ?hg (N := 1) ?hd (cs := #[.slice A xs.length c, .int .i64 e]) (t := 41) ?hr ?_; (case hd => rfl); (case hg => rfl); (case hr => first | (go_simp; done) | (go_simp; rfl)); intro g1 hgN w1 hbox hbN; have n0_ := Aside0.mk (St.boxed (by repeat (first | exact S.out | apply St.drewN | apply St.drew)) hgN hbox hbN); clear S; have S := n0_; clear n0_ hgN hbox hbN; have hB_g1 := S.out.blk (g := g1) (cs := #[.slice A xs.length c, .int .i64 e]) (t := 41) (List.mem_of_getElem? (i := 0) rfl); have hc_g1_0 : w1.cell? ⟨g1, 0, none⟩ = some (.slice A xs.length c) := (cell_blk hB_g1 0).trans rfl; have hf_g1_0 := frozen_blk hB_g1 0; have hc_g1_1 : w1.cell? ⟨g1, 1, none⟩ = some (.int .i64 e) := (cell_blk hB_g1 1).trans rfl; have hf_g1_1 := frozen_blk hB_g1 1; clear hB_g1) | ((with_reducible refine gate_dst (N := 2) rfl ?_); refine box_event ?hg (N := 2) ?hd (cs := #[.slice none 0 0, .int .i64 0]) (t := 41) ?hr ?_; (case hd => rfl); (case hg => rfl); (case hr => first | (go_simp; done) | (go_simp; rfl)); intro g2 hgN w2 hbox hbN; have n0_ := Aside0.mk (St.boxed (by repeat (first | exact S.out | apply St.drewN | apply St.drew)) hgN hbox hbN); clear S; have S := n0_; clear n0_ hgN hbox hbN; clear hc_g1_0 hf_g1_0 hc_g1_1 hf_g1_1; have hB_g2 := S.out.blk (g := g2) (cs := #[.slice none 0 0, .int .i64 0]) (t := 41) (List.mem_of_getElem? (i := 0) rfl); have hc_g2_0 : w2.cell? ⟨g2, 0, none⟩ = some (.slice none 0 0) := (cell_blk hB_g2 0).trans rfl; have hf_g2_0 := frozen_blk hB_g2 0; have hc_g2_1 : w2.cell? ⟨g2, 1, none⟩ = some (.int .i64 0) := (cell_blk hB_g2 1).trans rfl; have hf_g2_1 := frozen_blk hB_g2 1; clear hB_g2; have hB_g1 := S.out.blk (g := g1) (cs := #[.slice A xs.length c, .int .i64 e]) (t := 41) (List.mem_of_getElem? (i := 1) rfl); have hc_g1_0 : w2.cell? ⟨g1, 0, none⟩ = some (.slice A xs.length c) := (cell_blk hB_g1 0).trans rfl; have hf_g1_0 := frozen_blk hB_g1 0; have hc_g1_1 : w2.cell? ⟨g1, 1, none⟩ = some (.int .i64 e) := (cell_blk hB_g1 1).trans rfl; have hf_g1_1 := frozen_blk hB_g1 1; clear hB_g1) | (go_at_call 36; refine (rtakeR (B := B) (v := .agg #[.slice A xs.length c, .int .i64 e]) (xs := xs) (e := e) 4 _ (HV.out.under (S.out.below.mono HB.out))).mono ?_; have BW2 := Aside0.mk S.out.below; rintro z w3 ⟨v3, u3, rfl, hRS, ⟨A4, c4, rfl, hc4, hC4, hf4⟩, hb⟩; have n0_ := Aside0.mk (St.keep (by repeat (first | exact S.out | apply St.drewN | apply St.drew)) hb); clear S; have S := n0_; clear n0_ hb; clear hc_g2_0 hf_g2_0 hc_g2_1 hf_g2_1 hc_g1_0 hf_g1_0 hc_g1_1 hf_g1_1; have HV3 := Aside0.mk (hRS.back (BW2.out.mono HB.out)); have HC4 := Aside0.mk (C_back hC4 (BW2.out.mono HB.out) hf4); have HF4 := Aside0.mk hf4; rw [HL.out]; obtain ⟨A3, c3, rfl, _, _, _⟩ := hRS; clear hC4 hc4 hf4; have hB_g2 := S.out.blk (g := g2) (cs := #[.slice none 0 0, .int .i64 0]) (t := 41) (List.mem_of_getElem? (i := 0) rfl); have hc_g2_0 : w3.cell? ⟨g2, 0, none⟩ = some (.slice none 0 0) := (cell_blk hB_g2 0).trans rfl; have hf_g2_0 := frozen_blk hB_g2 0; have hc_g2_1 : w3.cell? ⟨g2, 1, none⟩ = some (.int .i64 0) := (cell_blk hB_g2 1).trans rfl; have hf_g2_1 := frozen_blk hB_g2 1; clear hB_g2; have hB_g1 := S.out.blk (g := g1) (cs := #[.slice A xs.length c, .int .i64 e]) (t := 41) (List.mem_of_getElem? (i := 1) rfl); have hc_g1_0 : w3.cell? ⟨g1, 0, none⟩ = some (.slice A xs.length c) := (cell_blk hB_g1 0).trans rfl; have hf_g1_0 := frozen_blk hB_g1 0; have hc_g1_1 : w3.cell? ⟨g1, 1, none⟩ = some (.int .i64 e) := (cell_blk hB_g1 1).trans rfl; have hf_g1_1 := frozen_blk hB_g1 1; clear hB_g1) | ((with_reducible refine gate_store (t := 41) (p := 1) rfl ?_); refine store_event (t := 41) (p := 1) (v := ?vo_w4) (w1 := ?w1_w4) ?hg ?ho ?hn ?hr ?_; (case ho => rfl); (case hg => rfl); (case hn => rfl); (case hr => first | (go_simp; done) | (go_simp; rfl)); intro w4 hw; have n0_ : Aside0 (St w w4 [Blk g2 #[.slice none 0 0, .int .i64 0] 41, Blk g1 #[.slice A3 (rTake xs e 4).1.length c3, .int .i64 (rTake xs e 4).2.1] 41]) := ⟨by rw [hw]; exact (St.set (pre := [Blk g2 #[.slice none 0 0, .int .i64 0] 41]) (post := []) (g := g1) (cs := #[.slice A3 (rTake xs e 4).1.length c3, .int .i64 e]) (t := 41) (St.set (pre := [Blk g2 #[.slice none 0 0, .int .i64 0] 41]) (post := []) (g := g1) (cs := #[.slice A xs.length c, .int .i64 e]) (t := 41) (by repeat (first | exact S.out | apply St.drewN | apply St.drew)) 0 (.slice A3 (rTake xs e 4).1.length c3)) 1 (.int .i64 (rTake xs e 4).2.1))⟩; clear S; have S := n0_; clear n0_ hw; clear hc_g2_0 hf_g2_0 hc_g2_1 hf_g2_1 hc_g1_0 hf_g1_0 hc_g1_1 hf_g1_1; have hB_g2 := S.out.blk (g := g2) (cs := #[.slice none 0 0, .int .i64 0]) (t := 41) (List.mem_of_getElem? (i := 0) rfl); have hc_g2_0 : w4.cell? ⟨g2, 0, none⟩ = some (.slice none 0 0) := (cell_blk hB_g2 0).trans rfl; have hf_g2_0 := frozen_blk hB_g2 0; have hc_g2_1 : w4.cell? ⟨g2, 1, none⟩ = some (.int .i64 0) := (cell_blk hB_g2 1).trans rfl; have hf_g2_1 := frozen_blk hB_g2 1; clear hB_g2; have hB_g1 := S.out.blk (g := g1) (cs := #[.slice A3 (rTake xs e 4).1.length c3, .int .i64 (rTake xs e 4).2.1]) (t := 41) (List.mem_of_getElem? (i := 1) rfl); have hc_g1_0 : w4.cell? ⟨g1, 0, none⟩ = some (.slice A3 (rTake xs e 4).1.length c3) := (cell_blk hB_g1 0).trans rfl; have hf_g1_0 := frozen_blk hB_g1 0; have hc_g1_1 : w4.cell? ⟨g1, 1, none⟩ = some (.int .i64 (rTake xs e 4).2.1) := (cell_blk hB_g1 1).trans rfl; have hf_g1_1 := frozen_blk hB_g1 1; clear hB_g1) | ((with_reducible refine gate_store (t := 41) (p := 2) rfl ?_); refine store_event (t := 41) (p := 2) (v := ?vo_w5) (w1 := ?w1_w5) ?hg ?ho ?hn ?hr ?_; (case ho => rfl); (case hg => rfl); (case hn => rfl); (case hr => first | (go_simp; done) | (go_simp; rfl)); intro w5 hw; have n0_ : Aside0 (St w w5 [Blk g2 #[.slice A3 (rTake xs e 4).1.length c3, .int .i64 (rTake xs e 4).2.1] 41, Blk g1 #[.slice A3 (rTake xs e 4).1.length c3, .int .i64 (rTake xs e 4).2.1] 41]) := ⟨by rw [hw]; exact (St.set (pre := []) (post := [Blk g1 #[.slice A3 (rTake xs e 4).1.length c3, .int .i64 (rTake xs e 4).2.1] 41]) (g := g2) (cs := #[.slice A3 (rTake xs e 4).1.length c3, .int .i64 0]) (t := 41) (St.set (pre := []) (post := [Blk g1 #[.slice A3 (rTake xs e 4).1.length c3, .int .i64 (rTake xs e 4).2.1] 41]) (g := g2) (cs := #[.slice none 0 0, .int .i64 0]) (t := 41) (by repeat (first | exact S.out | apply St.drewN | apply St.drew)) 0 (.slice A3 (rTake xs e 4).1.length c3)) 1 (.int .i64 (rTake xs e 4).2.1))⟩; clear S; have S := n0_; clear n0_ hw; clear hc_g2_0 hf_g2_0 hc_g2_1 hf_g2_1 hc_g1_0 hf_g1_0 hc_g1_1 hf_g1_1; have hB_g2 := S.out.blk (g := g2) (cs := #[.slice A3 (rTake xs e 4).1.length c3, .int .i64 (rTake xs e 4).2.1]) (t := 41) (List.mem_of_getElem? (i := 0) rfl); have hc_g2_0 : w5.cell? ⟨g2, 0, none⟩ = some (.slice A3 (rTake xs e 4).1.length c3) := (cell_blk hB_g2 0).trans rfl; have hf_g2_0 := frozen_blk hB_g2 0; have hc_g2_1 : w5.cell? ⟨g2, 1, none⟩ = some (.int .i64 (rTake xs e 4).2.1) := (cell_blk hB_g2 1).trans rfl; have hf_g2_1 := frozen_blk hB_g2 1; clear hB_g2; have hB_g1 := S.out.blk (g := g1) (cs := #[.slice A3 (rTake xs e 4).1.length c3, .int .i64 (rTake xs e 4).2.1]) (t := 41) (List.mem_of_getElem? (i := 1) rfl); have hc_g1_0 : w5.cell? ⟨g1, 0, none⟩ = some (.slice A3 (rTake xs e 4).1.length c3) := (cell_blk hB_g1 0).trans rfl; have hf_g1_0 := frozen_blk hB_g1 0; have hc_g1_1 : w5.cell? ⟨g1, 1, none⟩ = some (.int .i64 (rTake xs e 4).2.1) := (cell_blk hB_g1 1).trans rfl; have hf_g1_1 := frozen_blk hB_g1 1; clear hB_g1))
  exact bodyPost_ret (v := .tuple #[.agg #[.slice A3 (rTake xs e 4).1.length c3, .int .i64 (rTake xs e 4).2.1], .int .u32 0]) (by simp [results, Try.results30, go_sem, hc_g2_0, hc_g2_1]) rfl
    ⟨_, _, rfl, HV3.out, by rw [rWord, HL.out]; rfl, S.out.below⟩
theorem rwordR {B : Nat} {v : Value} {xs : List Int} {e : Int} (w : World) (hB : B ≤ w.heap.size) (h : RS B w v xs e) (hbd : ∀ x ∈ xs, 0 ≤ x ∧ x < 256) :
    Calls Try.prog 30 #[v] w (Two B w (rWord xs e).1 (rWord xs e).2.1 (fun u => u = .int .u32 (rWord xs e).2.2)) :=
  (rTake_4 xs e 4).elim (fun h4 => rword_cut w hB h _ rfl h4) (fun h4 => rword_go w hB h hbd _ rfl h4)
end Go.Proofs.Ytglcbaellbhogaa.RefR
