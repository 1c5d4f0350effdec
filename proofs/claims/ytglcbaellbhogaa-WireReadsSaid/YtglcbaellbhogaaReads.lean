/- The walk of WireReads. -/
import Derived.Test.YtglcbaellbhogaaDo3
import Derived.Test.YtglcbaellbhogaaK45
namespace Go.Proofs.Ytglcbaellbhogaa.Reads
open Go.RowKit Go.Proofs.Ytglcbaellbhogaa.Sep Go.Proofs.YtglcbaellbhogaaW.PrintWords Go.Proofs.YtglcbaellbhogaaW.PrintLast Go.Proofs.YtglcbaellbhogaaW.PrintMore Go.Proofs.Ytglcbaellbhogaa.PB Go.Proofs.Ytglcbaellbhogaa.Reader Go.Proofs.Ytglcbaellbhogaa.Awake
open Go.Proofs.Ytglcbaellbhogaa.Pure1 Go.Proofs.Ytglcbaellbhogaa.RefR Go.Proofs.Ytglcbaellbhogaa.Do Go.Proofs.Ytglcbaellbhogaa.K
set_option linter.unusedVariables false
set_option linter.unusedSimpArgs false

theorem rTake_shr (xs : List Int) (e : Int) (n : Nat) : (rTake xs e n).1.length ≤ xs.length := by
  unfold rTake
  split
  · split <;> simp
  · exact Nat.le_refl _
theorem wordsK_shr (xs : List Int) (e : Int) (k : Nat) : (wordsK xs e k).1.length ≤ xs.length := by
  induction k with
  | zero => exact Nat.le_refl _
  | succ k ih => exact Nat.le_trans (rTake_shr _ _ _) ih
theorem rWords_shr (xs : List Int) (e most : Int) : (rWords xs e most).1.length ≤ xs.length := by
  unfold rWords
  split
  · simp
  · exact Nat.le_trans (wordsK_shr _ _ _) (rVar_len _ _ _)
theorem rWords_byte {xs : List Int} {e most : Int} (h : ∀ x ∈ xs, 0 ≤ x ∧ x < 256) : ∀ x ∈ (rWords xs e most).1, 0 ≤ x ∧ x < 256 := by
  unfold rWords
  split
  · intro x hx; cases hx
  · exact wordsK_byte (rVar_byte h) _
theorem do_calls {B0 B g : Nat} (A : Option Addr) (c : Nat) (xs : List Int) (e kd most : Int) (w : World) (hB0 : B0 ≤ g) (hB : B ≤ w.heap.size) (hV : RS B0 w (.agg #[.slice A xs.length c, .int .i64 e]) xs e) (hR : Rd B w g xs e) (hbd : ∀ x ∈ xs, 0 ≤ x ∧ x < 256)
    (hk0 : 0 ≤ kd) (hk1 : kd < 256) (hm0 : -2147483648 ≤ most) (hm1 : most < 2147483648) (hxl : xs.length ≤ 140737488351232) :
    Calls Try.prog 22 #[.pointer (some ⟨g, 0, none⟩), .agg #[.slice A xs.length c, .int .i64 e], .agg #[.int .u8 kd, .int .i32 most]] w fun z w' => ∃ xs2 e2, Done B0 B g w xs2 e2 z w' ∧ (∀ x ∈ xs2, 0 ≤ x ∧ x < 256) ∧ xs2.length ≤ 140737488351232 := by
  rcases (show kd % 4 = 0 ∨ kd % 4 = 1 ∨ kd % 4 = 2 ∨ kd % 4 = 3 by omega) with hk | hk | hk | hk
  · exact (do0 A c xs e kd most w hB0 hB hV hR hbd hk0 hk1 hk hm0 hm1).mono fun z w' hz => ⟨_, _, hz, rVar_byte hbd, Nat.le_trans (rVar_len _ _ _) hxl⟩
  · exact (do1 A c xs e kd most w hB0 hB hV hR hbd hk0 hk1 hk hm0 hm1).mono fun z w' hz => ⟨_, _, hz, (rTake_byte (rVar_byte hbd)).1, Nat.le_trans (rTake_shr _ _ _) (Nat.le_trans (rVar_len _ _ _) hxl)⟩
  · exact (do2 A c xs e kd most w hB0 hB hV hR hbd hk0 hk1 hk hm0 hm1).mono fun z w' hz => ⟨_, _, hz, (rTake_byte hbd).1, Nat.le_trans (rTake_shr _ _ _) hxl⟩
  · exact (do3 A c xs e kd most w hB0 hB hV hR hbd hk0 hk1 hk hm0 hm1 hxl).mono fun z w' hz => ⟨_, _, hz, rWords_byte hbd, Nat.le_trans (rWords_shr _ _ _) hxl⟩
theorem blk_set {W : World} {g i : Nat} {cs : Array Value} {t : TypeId} (v : Value) (hg : W.heap[g]? = some (.cells cs t (0, 0))) : (W.setCell ⟨g, i, none⟩ v).heap[g]? = some (.cells (cs.setIfInBounds i v) t (0, 0)) := by
  have hl := (Array.getElem?_eq_some_iff.1 hg).1
  have he : W.heap[g] = .cells cs t (0, 0) := (Array.getElem?_eq_some_iff.1 hg).2
  unfold World.setCell
  simp [hl, Array.getElem_modify, he]
set_option maxHeartbeats 16000000 in
theorem reads (A : Option Addr) (b : List Int) (c : Nat) (A1 : Option Addr) (l : List S45) (c1 : Nat) (w : World) (hC : Kd.C (Kd.int .u8) w A b.length b) (hc : b.length ≤ c) (hb : b.length ≤ 140737488351232) (hby : ∀ x ∈ b, 0 ≤ x ∧ x < 256) (hC1 : Kd.C k45 w A1 l.length l) (hc1 : l.length ≤ c1)
    (hl : l.length ≤ 140737488351232) (hx : ∀ x ∈ l, (0 ≤ x.f0 ∧ x.f0 < 256) ∧ -2147483648 ≤ x.f1 ∧ x.f1 < 2147483648) :
    Calls Try.prog 6 #[.slice A b.length c, .slice A1 l.length c1] w fun z w' => z = .returned (.bool true) ∧ Below w.heap.size w w' := by
  have HR0 := Aside0.mk hC
  have HCc := Aside0.mk hc
  have LM := Aside0.mk hb
  have HBY := Aside0.mk hby
  have HL1 := Aside0.mk hC1
  have HX := Aside0.mk hx
  have HB := Aside0.mk (Below.refl w.heap.size w)
  clear hC hc hb hC1 hc1 hx hby
  go_enter Try.func6, Try.ntmps6
  go_wp2_with (first
    | ((with_reducible refine gate_dst (N := 10) rfl ?_); refine Kd.R_lit (Kd.int .u8) _ 5 ?hg (N := 10) ?hd (xs := ([] : List Int)) (inner := []) (ok := fun _ => True) (okp := fun _ => True) ?hr ?hp (fun _ hk => hk) trivial (Below.refl _ _) (Nat.le_refl _) (by simp) ?_; (case hd => rfl); (case hg => rfl); (case hr => first | (go_simp; done) | (go_simp; rfl)); (case hp => exact (Reps.none _ _)); intro v5 w5 ho5 hb hg_ hnew_; clear hg_ hnew_; have n0_ := Aside0.mk (Kd.R_lower ho5 (below_size (by repeat (first | (with_reducible first | exact HB.out | apply below_alloc | apply pw_below_drewN | apply below_drew1) | exact HB.out)))); have n1_ := Aside0.mk (below_step (by repeat (first | (with_reducible first | exact HB.out | apply below_alloc | apply pw_below_drewN | apply below_drew1) | exact HB.out)) hb); clear HB; have HO := n0_; have HB := n1_; clear n0_ n1_; clear hb ho5)
    | ((with_reducible refine gate_builtin (b := .append) (xs := #[.tmp 10, .tmp 11]) rfl ?_); at_builtin; refine Kd.R_append_rows (Kd.int .u8) (w0 := w) w.heap.size rfl (.tmp 10) (.tmp 11) 23 5 (.int .u8 0) 1 rfl Try.underlying23 info5 rfl (by decide) (by omega) v5 [] b _ _ _ (fun _ => True) (fun _ => False) rfl rfl ?aO ?aR (fun _ _ h => h) (fun _ h => h.elim) ?aF ?aB ?aS ?aL ?_; (case aR => repeat (first | exact (Kd.C_below HR0.out HB.out) | (with_reducible refine Kd.C_alloc ?_ _) | (with_reducible refine Kd.C_drewN ?_ _) | (with_reducible refine Kd.C_drew ?_))); (case aB => exact (by repeat (first | (with_reducible first | exact HB.out | apply below_alloc | apply pw_below_drewN | apply below_drew1) | exact HB.out))); (case aF => exact (fun _ _ => trivial)); (case aO => exact (by (with_reducible repeat (first | apply Kd.R_alloc | apply Kd.R_drewN | apply Kd.R_drew)); exact HO.out)); (case aS => exact (below_size (by repeat (first | (with_reducible first | exact HB.out | apply below_alloc | apply pw_below_drewN | apply below_drew1) | exact HB.out)))); (case aL => have := LM.out; simp only [List.length_nil]; omega); intro v7 w7 ho hb hg hat; rw [List.nil_append] at ho; obtain ⟨A7, c7, rfl, hl7, hC7⟩ := Kd.R_reads ho; have HK7 := Aside0.mk (R_blk ho); have HC7 := Aside0.mk hC7; have HL7 := Aside0.mk hl7; have n0_ := Aside0.mk (hb); clear HB; clear HO; have HB := n0_; clear n0_; clear ho hb hg hat hC7 hl7)
    | (go_at_call 11; refine (newR A7 b c7 _ HC7.out HL7.out).mono ?_; rintro z w8 ⟨rfl, hR, hB, hlt⟩; obtain ⟨g, hg⟩ : ∃ g, w7.heap.size = g := ⟨_, rfl⟩; have HC8 := Aside0.mk (Kd.C_below HC7.out hB); rw [hg] at hR hlt ⊢; have HK8 := Aside0.mk (show ∀ ad, A7 = some ad → 0 < b.length → w.heap.size ≤ ad.block ∧ ad.block < g from fun ad ha hp => ⟨(HK7.out ad ha hp).1, hg ▸ (HK7.out ad ha hp).2.1⟩); have HG := Aside0.mk (show w.heap.size ≤ g by have := HB.out.size; omega); have HR := Aside0.mk hR; have n1_ := Aside0.mk (HB.out.trans (hB.mono HB.out.size)); have HS := Aside0.mk (Nat.succ_le_of_lt hlt); clear HB hR hB hlt hg; have HB := n1_; clear n1_)
    | ((with_reducible refine gate_dst (N := 7) rfl ?_); refine box_event ?hg (N := 7) ?hd (cs := #[.slice none 0 0, .int .i64 0]) (t := 41) ?hr ?_; (case hd => rfl); (case hg => rfl); (case hr => first | (go_simp; done) | (go_simp; rfl)); intro g7 hgN w9 hbox hbN; have n0_ := Aside0.mk (HR.out.below (hbN.mono HS.out)); have n1_ := Aside0.mk (HB.out.trans (hbN.mono HB.out.size)); have n2_ := Aside0.mk (Nat.le_trans HS.out hbN.size); have n3_ := Aside0.mk (Kd.C_below HC8.out hbN); have HG7 := Aside0.mk (show g + 1 ≤ g7 by have := HS.out; omega); have P7 := Aside0.mk hbox; have k70 : w9.cell? ⟨g7, 0, none⟩ = some (.slice none 0 0) := (cell_blk hbox 0).trans rfl; have k71 : w9.cell? ⟨g7, 1, none⟩ = some (.int .i64 0) := (cell_blk hbox 1).trans rfl; have f70 := frozen_blk hbox 0; have f71 := frozen_blk hbox 1; clear HR HB HS HC8 hgN hbox hbN; have HR := n0_; have HB := n1_; have HS := n2_; have HC8 := n3_; clear n0_ n1_ n2_ n3_))
  have hp1 := blk_set (i := 1) (.int .i64 0) (blk_set (i := 0) (.slice A b.length c) P7.out)
  have P1 : Aside0 (_ = some (Obj.cells #[.slice A b.length c, .int .i64 0] 41 (0, 0))) := ⟨hp1⟩
  clear hp1 k70 k71 f70 f71
  have BS := Aside0.mk (((Below.refl (g + 1) w9).setCell (p := ⟨g7, 0, none⟩) HG7.out (.slice A b.length c)).setCell (p := ⟨g7, 1, none⟩) HG7.out (.int .i64 0))
  go_loopw [8, 9] (fun v8 v9 wr => ∃ (i : Nat) (xs : List Int) (e : Int) (A' : Option Addr) (c' : Nat), i ≤ l.length ∧ v8 = .bool true ∧ v9 = .int .i64 i ∧ Aside0 (wr.heap[g7]? = some (.cells #[.slice A' xs.length c', .int .i64 e] 41 (0, 0))) ∧ Aside0 (RS w.heap.size wr (.agg #[.slice A' xs.length c', .int .i64 e]) xs e) ∧ Aside0 (Rd (g + 1) wr g xs e) ∧
      Aside0 (∀ x ∈ xs, 0 ≤ x ∧ x < 256) ∧ Aside0 (xs.length ≤ 140737488351232) ∧ Aside0 (Below w.heap.size w wr) ∧ Aside0 (g + 1 ≤ wr.heap.size) ∧ Aside0 (Kd.C (Kd.int .u8) wr A7 b.length b)) (fun _ v9 _ => l.length - (intOf v9).toNat)
  case atStart =>
    have hbw := HB.out.trans (BS.out.mono (Nat.le_trans HG.out (Nat.le_succ g)))
    exact ⟨0, b, 0, A, c, Nat.zero_le _, rfl, rfl, P1, ⟨RS.under ⟨A, c, rfl, HCc.out, HR0.out, fun ad ha hp => by subst ha; exact Kd.C_lt HR0.out hp (by decide)⟩ hbw⟩, ⟨HR.out.below BS.out⟩, HBY, LM, ⟨hbw⟩, ⟨Nat.le_trans HS.out BS.out.size⟩,
      ⟨C_under HC8.out BS.out (fun ad ha hp => by have := HK8.out ad ha hp; omega)⟩⟩
  case round =>
    clear P1 BS HR HB HS HC8 P7
    obtain ⟨i, xs, e, A', c', hi, rfl, rfl, P7, HVr, HR, HBD, HXL, HB, HS, HC8⟩ := hrel
    by_cases hil : i < l.length
    · have hil' : (i : Int) < (l.length : Int) := by omega
      obtain ⟨ad, rfl, k0, k1⟩ := at_T45 HL1.out (i : Int) (by omega) hil'
      obtain ⟨kd, hkd⟩ : ∃ m, (rd_T45 l (i : Int)).f0 = m := ⟨_, rfl⟩
      obtain ⟨most, hm⟩ : ∃ m, (rd_T45 l (i : Int)).f1 = m := ⟨_, rfl⟩
      have hmb : (0 ≤ kd ∧ kd < 256) ∧ -2147483648 ≤ most ∧ most < 2147483648 := by
        rw [← hkd, ← hm]
        refine HX.out _ ?_
        simp [rd_T45, List.getElem?_eq_getElem hil]
      rw [hkd, Int.toNat_natCast] at k0
      rw [hm, Int.toNat_natCast] at k1
      obtain ⟨⟨hkd0, hkd1⟩, hm0, hm1⟩ := hmb
      have z0 := World.block_lt_of_cell? w _ k0
      have kk0 := (HB.out.cell z0).trans k0
      have kk1 := (HB.out.cell (p := ⟨(ad.add (i * 2)).block, (ad.add (i * 2)).off + 1, none⟩) z0).trans k1
      have Z0 := Aside0.mk z0
      have q0 : (0 : Int) ≤ (i : Int) := by omega
      have hd : decide ((i : Int) < (l.length : Int)) = true := decide_eq_true hil'
      have hd2 : decide (i < l.length) = true := decide_eq_true hil
      have k70 : wr.cell? ⟨g7, 0, none⟩ = some (.slice A' xs.length c') := (cell_blk P7.out 0).trans rfl
      have k71 : wr.cell? ⟨g7, 1, none⟩ = some (.int .i64 e) := (cell_blk P7.out 1).trans rfl
      have HVd := Aside0.mk (RS.under HVr.out (below_drew (Below.refl _ _)))
      clear hm hkd k0 k1 z0
      go_wp2
      refine start_ (n := 12) (S := fun w' => w'.cell? ⟨g7, 0, none⟩ = some (.slice A' xs.length c') ∧ w'.cell? ⟨g7, 1, none⟩ = some (.int .i64 e) ∧ w'.cell? (ad.add (i * 2)) = some (.int .u8 kd) ∧ w'.cell? ⟨(ad.add (i * 2)).block, (ad.add (i * 2)).off + 1, none⟩ = some (.int .i32 most)) (ds := [10]) #[false, false, false, false, false, false, false, false, false, false, false, false] (by kernel_rfl) rfl rfl ⟨(by rw [World.cell?_drew]; exact k70), (by rw [World.cell?_drew]; exact k71), (by rw [World.cell?_drew]; exact kk0), (by rw [World.cell?_drew]; exact kk1)⟩ (fun hHeld => ?_)
      refine pure_ (i := 0) (N := some 26) (v := ?_) (a' := ?_) #[true, false, false, false, false, false, false, false, false, false, false, false] rfl rfl (by kernel_rfl) (fun _ _ _ h => h) (Or.inl ⟨by rfl, ?_⟩) ?_ ?_
      rotate_left
      · intro w'
        go_simp
        with_reducible rfl
      rotate_left
      · simp only [Act.put, List.setIfInBounds_toArray, List.set_cons_zero, List.set_cons_succ, i64_w, i32_w]
        rfl
      refine pure_ (i := 2) (N := some 28) (v := ?_) (a' := ?_) #[true, false, true, false, false, false, false, false, false, false, false, false] rfl rfl (by kernel_rfl) (fun _ _ _ h => h) (Or.inl ⟨by rfl, ?_⟩) ?_ ?_
      rotate_left
      · intro w'
        go_simp
        with_reducible rfl
      rotate_left
      · simp only [Act.put, List.setIfInBounds_toArray, List.set_cons_zero, List.set_cons_succ, i64_w, i32_w]
        rfl
      refine pure_ (i := 3) (N := some 29) (v := ?_) (a' := ?_) #[true, false, true, true, false, false, false, false, false, false, false, false] rfl rfl (by kernel_rfl) (fun _ _ _ h => h) (Or.inl ⟨by rfl, ?_⟩) ?_ ?_
      rotate_left
      · intro w'
        go_simp
        with_reducible rfl
      rotate_left
      · simp only [Act.put, List.setIfInBounds_toArray, List.set_cons_zero, List.set_cons_succ, i64_w, i32_w]
        rfl
      refine pure_ (i := 4) (N := some 30) (v := ?_) (a' := ?_) #[true, false, true, true, true, false, false, false, false, false, false, false] rfl rfl (by kernel_rfl) (fun _ _ _ h => h) (Or.inl ⟨by rfl, ?_⟩) ?_ ?_
      rotate_left
      · intro w'
        go_simp
        with_reducible rfl
      rotate_left
      · simp only [Act.put, List.setIfInBounds_toArray, List.set_cons_zero, List.set_cons_succ, i64_w, i32_w]
        rfl
      refine take_ (i := 1) (N := some 27) (v := ?_) (a' := ?_) #[true, true, true, true, true, false, false, false, false, false, false, false] rfl rfl (by kernel_rfl) (fun _ _ _ h => h) (Or.inl ⟨by rfl, ?_⟩) hHeld ?_ ?_
      rotate_left
      · rintro w' ⟨s0, s1, s2, s3⟩
        go_simp
        with_reducible rfl
      rotate_left
      · simp only [Act.put, List.setIfInBounds_toArray, List.set_cons_zero, List.set_cons_succ, i64_w, i32_w]
        rfl
      refine take_ (i := 5) (N := some 31) (v := ?_) (a' := ?_) #[true, true, true, true, true, true, false, false, false, false, false, false] rfl rfl (by kernel_rfl) (fun _ _ _ h => h) (Or.inl ⟨by rfl, ?_⟩) hHeld ?_ ?_
      rotate_left
      · rintro w' ⟨s0, s1, s2, s3⟩
        go_simp
        with_reducible rfl
      rotate_left
      · simp only [Act.put, List.setIfInBounds_toArray, List.set_cons_zero, List.set_cons_succ, i64_w, i32_w]
        rfl
      refine one_ (i := 6) (N := some 32) #[true, true, true, true, true, true, true, false, false, false, false, false] rfl rfl (by kernel_rfl) (by decide) (fun K hK => ?_)
      refine goes_ Try.func22 (by kernel_rfl) rfl #[.pointer (some ⟨g, 0, none⟩), .agg #[.slice A' xs.length c', .int .i64 e], .agg #[.int .u8 kd, .int .i32 most]] (by rfl) rfl rfl (by simp only [List.map_toArray, List.map_cons, List.map_nil]; rfl) ?_
      with_reducible refine (do_calls A' c' xs e kd most _ HG.out (Nat.le_trans HS.out (below_drew (Below.refl wr.heap.size wr)).size) (HVd.out) (HR.out.below (below_drew (Below.refl _ _))) HBD.out hkd0 hkd1 hm0 hm1 HXL.out).mono ?_
      rintro z w9 ⟨xs2, e2, ⟨v2, rfl, hV2, hR2, hT2⟩, hb2, hl2⟩
      have hT3 := (Turn.of_below g (below_drew (Below.refl wr.heap.size wr))).trans hT2
      have L7 : g7 < wr.heap.size := (Array.getElem?_eq_some_iff.1 P7.out).1
      have N7 : g7 ≠ g := (by have := HG7.out; omega)
      have p9 := (hT3.block g7 L7 N7).trans P7.out
      have j70 : w9.cell? ⟨g7, 0, none⟩ = some (.slice A' xs.length c') := (cell_blk p9 0).trans rfl
      have j71 : w9.cell? ⟨g7, 1, none⟩ = some (.int .i64 e) := (cell_blk p9 1).trans rfl
      have j7f := frozen_blk p9 0
      have j7g := frozen_blk p9 1
      have hbw := Turn.below2 hT3 HG.out HB.out.size
      have kk0' := (hbw.cell Z0.out).trans kk0
      have kk1' := (hbw.cell (p := ⟨(ad.add (i * 2)).block, (ad.add (i * 2)).off + 1, none⟩) Z0.out).trans kk1
      obtain ⟨A'', c'', rfl, hcc'', hCC'', hFF''⟩ := hV2
      have HV9 : Aside0 (RS w.heap.size w9 (.agg #[.slice A'' xs2.length c'', .int .i64 e2]) xs2 e2) := ⟨⟨A'', c'', rfl, hcc'', hCC'', hFF''⟩⟩
      have HR9 := Aside0.mk hR2
      have HP9 := Aside0.mk p9
      have HT9 := Aside0.mk hT3
      have HBD2 := Aside0.mk hb2
      have HXL2 := Aside0.mk hl2
      have HC9 := Aside0.mk (C_same HC8.out (fun ad ha hp => hT3.block ad.block (by have h1 := HK8.out ad ha hp; have h2 := HS.out; omega) (by have h1 := HK8.out ad ha hp; omega)))
      have HN7 := Aside0.mk N7
      clear hR2 hT2 hT3 L7 N7 p9 hbw hb2 hl2 hcc'' hCC'' hFF''
      refine ⟨_, rfl, ?_⟩
      refine hK.out _ _ ⟨j70, j71, kk0', kk1'⟩ (fun hHeld => ?_)
      clear hK K
      refine norm_ (a' := ?_) ?_ ?_
      rotate_left
      · show Act.put _ (some 32) _ = _
        simp only [Act.put, List.setIfInBounds_toArray, List.set_cons_zero, List.set_cons_succ, i64_w, i32_w]
        rfl
      refine pure_ (i := 7) (N := some 25) (v := ?_) (a' := ?_) #[true, true, true, true, true, true, true, true, false, false, false, false] rfl rfl (by kernel_rfl) (fun _ _ _ h => h) (Or.inl ⟨by rfl, ?_⟩) ?_ ?_
      rotate_left
      · intro w'
        go_simp
        with_reducible rfl
      rotate_left
      · simp only [Act.put, List.setIfInBounds_toArray, List.set_cons_zero, List.set_cons_succ, i64_w, i32_w]
        rfl
      refine pure_ (i := 8) (N := some 33) (v := ?_) (a' := ?_) #[true, true, true, true, true, true, true, true, true, false, false, false] rfl rfl (by kernel_rfl) (fun _ _ _ h => h) (Or.inl ⟨by rfl, ?_⟩) ?_ ?_
      rotate_left
      · intro w'
        go_simp
        with_reducible rfl
      rotate_left
      · simp only [Act.put, List.setIfInBounds_toArray, List.set_cons_zero, List.set_cons_succ, i64_w, i32_w]
        rfl
      refine pure_ (i := 9) (N := some 34) (v := ?_) (a' := ?_) #[true, true, true, true, true, true, true, true, true, true, false, false] rfl rfl (by kernel_rfl) (fun _ _ _ h => h) (Or.inl ⟨by rfl, ?_⟩) ?_ ?_
      rotate_left
      · intro w'
        go_simp
        with_reducible rfl
      rotate_left
      · simp only [Act.put, List.setIfInBounds_toArray, List.set_cons_zero, List.set_cons_succ, i64_w, i32_w]
        rfl
      refine last_ (i := 10) (N := none) #[true, true, true, true, true, true, true, true, true, true, true, false] rfl rfl (by kernel_rfl) (by decide) (fun K hK => ?_)
      refine skip_ (w1 := ?_) (by rfl) rfl ?_ ?_
      rotate_left
      · go_simp
        rfl
      refine hK.out _ _ ?_
      clear hK K
      refine pure_ (i := 11) (N := some 8) (v := ?_) (a' := ?_) #[true, true, true, true, true, true, true, true, true, true, true, true] rfl rfl (by kernel_rfl) (fun _ _ _ h => h) (Or.inl ⟨by rfl, ?_⟩) ?_ ?_
      rotate_left
      · intro w'
        go_simp
        with_reducible rfl
      rotate_left
      · simp only [Act.put, List.setIfInBounds_toArray, List.set_cons_zero, List.set_cons_succ, i64_w, i32_w]
        rfl
      refine done_ (by kernel_rfl) ?_
      have hp1 := blk_set (i := 1) (.int .i64 e2) (blk_set (i := 0) (.slice A'' xs2.length c'') HP9.out)
      have P10 : Aside0 (_ = some (Obj.cells #[.slice A'' xs2.length c'', .int .i64 e2] 41 (0, 0))) := ⟨hp1⟩
      have b10 := (((Below.refl (g + 1) w9).setCell (p := ⟨g7, 0, none⟩) HG7.out (.slice A'' xs2.length c'')).setCell (p := ⟨g7, 1, none⟩) HG7.out (.int .i64 e2))
      have HR10 := Aside0.mk (HR9.out.below b10)
      have HV10 := Aside0.mk (RS.under HV9.out (b10.mono (Nat.le_trans HG.out (Nat.le_succ g))))
      have HB10 := Aside0.mk ((HB.out.trans (Turn.below2 HT9.out HG.out HB.out.size)).trans (b10.mono (Nat.le_trans HG.out (Nat.le_succ g))))
      have HS10 := Aside0.mk (Nat.le_trans (Nat.le_trans HS.out HT9.out.size) b10.size)
      have HC10 := Aside0.mk (C_under HC9.out b10 (fun ad ha hp => by have := HK8.out ad ha hp; omega))
      clear hp1 b10 j70 j71 j7f j7g kk0 kk1 kk0' kk1' k70 k71
      generalize ((w9.setCell ⟨g7, 0, none⟩ (.slice A'' xs2.length c'')).setCell ⟨g7, 1, none⟩ (.int .i64 e2)) = W10 at *
      have m70 : W10.cell? ⟨g7, 0, none⟩ = some (.slice A'' xs2.length c'') := (cell_blk P10.out 0).trans rfl
      have m71 : W10.cell? ⟨g7, 1, none⟩ = some (.int .i64 e2) := (cell_blk P10.out 1).trans rfl
      have m7f := frozen_blk P10.out 0
      have m7g := frozen_blk P10.out 1
      go_wp2
      refine start_ (n := 17) (S := fun w' => w'.cell? ⟨g7, 0, none⟩ = some (.slice A'' xs2.length c'') ∧ w'.cell? ⟨g7, 1, none⟩ = some (.int .i64 e2)) (ds := []) #[false, false, false, false, false, false, false, false, false, false, false, false, false, false, false, false, false] (by kernel_rfl) rfl rfl ⟨(by rw [World.cell?_drew]; exact m70), (by rw [World.cell?_drew]; exact m71)⟩ (fun hHeld => ?_)
      refine pure_ (i := 0) (N := some 35) (v := ?_) (a' := ?_) #[true, false, false, false, false, false, false, false, false, false, false, false, false, false, false, false, false] rfl rfl (by kernel_rfl) (fun _ _ _ h => h) (Or.inl ⟨by rfl, ?_⟩) ?_ ?_
      rotate_left
      · intro w'
        go_simp
        with_reducible rfl
      rotate_left
      · simp only [Act.put, List.setIfInBounds_toArray, List.set_cons_zero, List.set_cons_succ, i64_w, i32_w]
        rfl
      refine pure_ (i := 1) (N := some 36) (v := ?_) (a' := ?_) #[true, true, false, false, false, false, false, false, false, false, false, false, false, false, false, false, false] rfl rfl (by kernel_rfl) (fun _ _ _ h => h) (Or.inl ⟨by rfl, ?_⟩) ?_ ?_
      rotate_left
      · intro w'
        go_simp
        with_reducible rfl
      rotate_left
      · simp only [Act.put, List.setIfInBounds_toArray, List.set_cons_zero, List.set_cons_succ, i64_w, i32_w]
        rfl
      refine pure_ (i := 2) (N := some 37) (v := ?_) (a' := ?_) #[true, true, true, false, false, false, false, false, false, false, false, false, false, false, false, false, false] rfl rfl (by kernel_rfl) (fun _ _ _ h => h) (Or.inl ⟨by rfl, ?_⟩) ?_ ?_
      rotate_left
      · intro w'
        go_simp
        with_reducible rfl
      rotate_left
      · simp only [Act.put, List.setIfInBounds_toArray, List.set_cons_zero, List.set_cons_succ, i64_w, i32_w]
        rfl
      refine pure_ (i := 3) (N := some 38) (v := ?_) (a' := ?_) #[true, true, true, true, false, false, false, false, false, false, false, false, false, false, false, false, false] rfl rfl (by kernel_rfl) (fun _ _ _ h => h) (Or.inl ⟨by rfl, ?_⟩) ?_ ?_
      rotate_left
      · intro w'
        go_simp
        with_reducible rfl
      rotate_left
      · simp only [Act.put, List.setIfInBounds_toArray, List.set_cons_zero, List.set_cons_succ, i64_w, i32_w]
        rfl
      refine pure_ (i := 5) (N := some 40) (v := ?_) (a' := ?_) #[true, true, true, true, false, true, false, false, false, false, false, false, false, false, false, false, false] rfl rfl (by kernel_rfl) (fun _ _ _ h => h) (Or.inl ⟨by rfl, ?_⟩) ?_ ?_
      rotate_left
      · intro w'
        go_simp
        with_reducible rfl
      rotate_left
      · simp only [Act.put, List.setIfInBounds_toArray, List.set_cons_zero, List.set_cons_succ, i64_w, i32_w]
        rfl
      refine take_ (i := 6) (N := some 41) (v := ?_) (a' := ?_) #[true, true, true, true, false, true, true, false, false, false, false, false, false, false, false, false, false] rfl rfl (by kernel_rfl) (fun _ _ _ h => h) (Or.inl ⟨by rfl, ?_⟩) hHeld ?_ ?_
      rotate_left
      · rintro w' ⟨s0, s1⟩
        go_simp
        with_reducible rfl
      rotate_left
      · simp only [Act.put, List.setIfInBounds_toArray, List.set_cons_zero, List.set_cons_succ, i64_w, i32_w]
        rfl
      refine one_ (i := 4) (N := some 39) #[true, true, true, true, true, true, true, false, false, false, false, false, false, false, false, false, false] rfl rfl (by kernel_rfl) (by decide) (fun K hK => ?_)
      refine goes_ Try.func13 (by kernel_rfl) rfl #[.pointer (some ⟨g, 0, none⟩)] (by rfl) rfl rfl (by simp only [List.map_toArray, List.map_cons, List.map_nil]; rfl) ?_
      with_reducible refine (errR (B := g + 1) g xs2 e2 _ (HR10.out.below (below_drew (Below.refl _ _)))).mono ?_
      rintro z w11 ⟨rfl, rfl⟩
      refine ⟨_, rfl, ?_⟩
      refine hK.out _ _ ⟨hHeld.1, hHeld.2⟩ (fun hHeld => ?_)
      clear hK K
      refine norm_ (a' := ?_) ?_ ?_
      rotate_left
      · show Act.put _ (some 39) _ = _
        simp only [Act.put, List.setIfInBounds_toArray, List.set_cons_zero, List.set_cons_succ, i64_w, i32_w]
        rfl
      refine pure_ (i := 7) (N := some 42) (v := ?_) (a' := ?_) #[true, true, true, true, true, true, true, true, false, false, false, false, false, false, false, false, false] rfl rfl (by kernel_rfl) (fun _ _ _ h => h) (Or.inl ⟨by rfl, ?_⟩) ?_ ?_
      rotate_left
      · intro w'
        go_simp
        with_reducible rfl
      rotate_left
      · simp only [Act.put, List.setIfInBounds_toArray, List.set_cons_zero, List.set_cons_succ, i64_w, i32_w]
        rfl
      refine pure_ (i := 8) (N := some 43) (v := ?_) (a' := ?_) #[true, true, true, true, true, true, true, true, true, false, false, false, false, false, false, false, false] rfl rfl (by kernel_rfl) (fun _ _ _ h => h) (Or.inl ⟨by rfl, ?_⟩) ?_ ?_
      rotate_left
      · intro w'
        go_simp
        with_reducible rfl
      rotate_left
      · simp only [Act.put, List.setIfInBounds_toArray, List.set_cons_zero, List.set_cons_succ, i64_w, i32_w]
        rfl
      refine pure_ (i := 9) (N := some 44) (v := ?_) (a' := ?_) #[true, true, true, true, true, true, true, true, true, true, false, false, false, false, false, false, false] rfl rfl (by kernel_rfl) (fun _ _ _ h => h) (Or.inl ⟨by rfl, ?_⟩) ?_ ?_
      rotate_left
      · intro w'
        go_simp
        with_reducible rfl
      rotate_left
      · simp only [Act.put, List.setIfInBounds_toArray, List.set_cons_zero, List.set_cons_succ, i64_w, i32_w]
        rfl
      refine pure_ (i := 10) (N := some 45) (v := ?_) (a' := ?_) #[true, true, true, true, true, true, true, true, true, true, true, false, false, false, false, false, false] rfl rfl (by kernel_rfl) (fun _ _ _ h => h) (Or.inl ⟨by rfl, ?_⟩) ?_ ?_
      rotate_left
      · intro w'
        go_simp
        with_reducible rfl
      rotate_left
      · simp only [Act.put, List.setIfInBounds_toArray, List.set_cons_zero, List.set_cons_succ, i64_w, i32_w]
        rfl
      refine pure_ (i := 12) (N := some 47) (v := ?_) (a' := ?_) #[true, true, true, true, true, true, true, true, true, true, true, false, true, false, false, false, false] rfl rfl (by kernel_rfl) (fun _ _ _ h => h) (Or.inl ⟨by rfl, ?_⟩) ?_ ?_
      rotate_left
      · intro w'
        go_simp
        with_reducible rfl
      rotate_left
      · simp only [Act.put, List.setIfInBounds_toArray, List.set_cons_zero, List.set_cons_succ, i64_w, i32_w]
        rfl
      refine take_ (i := 13) (N := some 48) (v := ?_) (a' := ?_) #[true, true, true, true, true, true, true, true, true, true, true, false, true, true, false, false, false] rfl rfl (by kernel_rfl) (fun _ _ _ h => h) (Or.inl ⟨by rfl, ?_⟩) hHeld ?_ ?_
      rotate_left
      · rintro w' ⟨s0, s1⟩
        go_simp
        with_reducible rfl
      rotate_left
      · simp only [Act.put, List.setIfInBounds_toArray, List.set_cons_zero, List.set_cons_succ, i64_w, i32_w]
        rfl
      refine pure_ (i := 14) (N := some 49) (v := ?_) (a' := ?_) #[true, true, true, true, true, true, true, true, true, true, true, false, true, true, true, false, false] rfl rfl (by kernel_rfl) (fun _ _ _ h => h) (Or.inl ⟨by rfl, ?_⟩) ?_ ?_
      rotate_left
      · intro w'
        go_simp
        with_reducible rfl
      rotate_left
      · simp only [Act.put, List.setIfInBounds_toArray, List.set_cons_zero, List.set_cons_succ, i64_w, i32_w]
        rfl
      refine one_ (i := 11) (N := some 46) #[true, true, true, true, true, true, true, true, true, true, true, true, true, true, true, false, false] rfl rfl (by kernel_rfl) (by decide) (fun K hK => ?_)
      refine goes_ Try.func14 (by kernel_rfl) rfl #[.pointer (some ⟨g, 0, none⟩)] (by rfl) rfl rfl (by simp only [List.map_toArray, List.map_cons, List.map_nil]; rfl) ?_
      with_reducible refine (leftR (B := g + 1) g xs2 e2 _ (HR10.out.below (below_drew (Below.refl _ _)))).mono ?_
      rintro z w12 ⟨rfl, rfl⟩
      refine ⟨_, rfl, ?_⟩
      refine hK.out _ _ ⟨hHeld.1, hHeld.2⟩ (fun hHeld => ?_)
      clear hK K
      refine norm_ (a' := ?_) ?_ ?_
      rotate_left
      · show Act.put _ (some 46) _ = _
        simp only [Act.put, List.setIfInBounds_toArray, List.set_cons_zero, List.set_cons_succ, i64_w, i32_w]
        rfl
      refine pure_ (i := 15) (N := some 50) (v := ?_) (a' := ?_) #[true, true, true, true, true, true, true, true, true, true, true, true, true, true, true, true, false] rfl rfl (by kernel_rfl) (fun _ _ _ h => h) (Or.inl ⟨by rfl, ?_⟩) ?_ ?_
      rotate_left
      · intro w'
        go_simp
        with_reducible rfl
      rotate_left
      · simp only [Act.put, List.setIfInBounds_toArray, List.set_cons_zero, List.set_cons_succ, i64_w, i32_w]
        rfl
      refine pure_ (i := 16) (N := some 51) (v := ?_) (a' := ?_) #[true, true, true, true, true, true, true, true, true, true, true, true, true, true, true, true, true] rfl rfl (by kernel_rfl) (fun _ _ _ h => h) (Or.inl ⟨by rfl, ?_⟩) ?_ ?_
      rotate_left
      · intro w'
        go_simp
        with_reducible rfl
      rotate_left
      · simp only [Act.put, List.setIfInBounds_toArray, List.set_cons_zero, List.set_cons_succ, i64_w, i32_w]
        rfl
      refine done_ (by kernel_rfl) ?_
      go_wp2
      go_wp2
      refine ⟨⟨i + 1, xs2, e2, A'', c'', by omega, rfl, by simp, ⟨P10.out⟩, ⟨RS.under HV10.out (below_drew (Below.refl _ _))⟩, ⟨HR10.out.below (below_drew (Below.refl _ _))⟩, HBD2, HXL2, ⟨below_drew HB10.out⟩, ⟨Nat.le_trans HS10.out (below_drew (Below.refl W10.heap.size W10)).size⟩, ⟨C_under HC10.out (below_drew (Below.refl (g + 1) W10)) (fun ad ha hp => by have := HK8.out ad ha hp; omega)⟩⟩, ?_⟩
      simp [intOf]; omega
    · obtain rfl : i = l.length := by omega
      have hs1 := Kd.C_string (P := Try.prog) (src := 23) (dst := 9) (e := 5) (c := c7) Try.underlying23 Try.underlying5 Try.underlying9 HC8.out
      have hs2 := Kd.C_string (P := Try.prog) (src := 23) (dst := 9) (e := 5) (c := c) Try.underlying23 Try.underlying5 Try.underlying9 (Kd.C_below HR0.out HB.out)
      go_wp2_with (first
        | (go_at_call 10; (with_reducible refine (awake_calls _).mono ?_); rintro z w9 ⟨rfl, hb⟩; have n1_ := Aside0.mk (HB.out.trans (hb.mono HB.out.size)); clear HB hb; have HB := n1_; clear n1_))
      go_ret
      exact ⟨rfl, HB.out⟩
end Go.Proofs.Ytglcbaellbhogaa.Reads
