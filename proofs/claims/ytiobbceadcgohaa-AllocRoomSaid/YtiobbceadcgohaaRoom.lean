/- The walk of AllocRoom (laid by a program, two facts on its first test added). -/
import Derived.Test.YtiobbceadcgohaaX
import Derived.Test.YtiobbceadcgohaaPBx0
import Derived.Test.YtiobbceadcgohaaPBx1
namespace Go.Proofs.Ytiobbceadcgohaa.PB
open Go.Proofs.Ytiobbceadcgohaa.X
open Go.RowKit Go.Proofs.YtiobbceadcgohaaW.PrintWords Go.Proofs.YtiobbceadcgohaaW.PrintLast Go.Proofs.YtiobbceadcgohaaW.PrintMore
attribute [local go_sem] max2_int min2_int max_two min_two max_three min_three max_four min_four   -- for this text's walks alone
set_option linter.unusedVariables false
set_option linter.unusedSimpArgs false

/-! ### budwoodlaw07_AllocRoom: function 4 -/
mutual
def budwoodlaw07_AllocRoom.j0 : Nat → List Bool → Int → Int → Bool → Option (Bool)
  | 0, _, _, _, _ => none
  | k + 1, x0, x5, x6, x52 => if x52 = true then (some false) else (budwoodlaw07_AllocRoom.l0 k x0 x5 x6 0)
def budwoodlaw07_AllocRoom.l0 : Nat → List Bool → Int → Int → Int → Option (Bool)
  | 0, _, _, _, _ => none
  | k + 1, x0, x5, x6, x8 => if x8 < (wrap64 (x6 + x5)) then (budwoodlaw07_AllocRoom.l1 k x0 x5 x6 x8 false x8) else ((budwoodlaw07_awake.f).bind fun t131 => (some t131))
def budwoodlaw07_AllocRoom.l1 : Nat → List Bool → Int → Int → Int → Bool → Int → Option (Bool)
  | 0, _, _, _, _, _, _ => none
  | k + 1, x0, x5, x6, x8, x9, x10 => if x10 < (wrap64 (x8 + x5)) then (if x10 < (x0.length : Int) then (if x9 = true then (budwoodlaw07_AllocRoom.l1 k x0 x5 x6 x8 true (wrap64 (x10 + 1))) else (if 0 ≤ x10 then (budwoodlaw07_AllocRoom.l1 k x0 x5 x6 x8 (rdOf false x0 x10) (wrap64 (x10 + 1))) else (none))) else (if x8 < x6 then (if x9 = true then (if x8 ≥ x6 then (if 0 ≤ x8 then (if x8 < (x0.length : Int) then (if rdOf false x0 x8 = true then (some false) else (budwoodlaw07_AllocRoom.l0 k x0 x5 x6 (wrap64 (x8 + 1)))) else (none)) else (none)) else (budwoodlaw07_AllocRoom.l0 k x0 x5 x6 (wrap64 (x8 + 1)))) else (some false)) else (if x8 ≥ x6 then (if 0 ≤ x8 then (if x8 < (x0.length : Int) then (if rdOf false x0 x8 = true then (some false) else (budwoodlaw07_AllocRoom.l0 k x0 x5 x6 (wrap64 (x8 + 1)))) else (none)) else (none)) else (budwoodlaw07_AllocRoom.l0 k x0 x5 x6 (wrap64 (x8 + 1)))))) else (if x8 < x6 then (if x9 = true then (if x8 ≥ x6 then (if 0 ≤ x8 then (if x8 < (x0.length : Int) then (if rdOf false x0 x8 = true then (some false) else (budwoodlaw07_AllocRoom.l0 k x0 x5 x6 (wrap64 (x8 + 1)))) else (none)) else (none)) else (budwoodlaw07_AllocRoom.l0 k x0 x5 x6 (wrap64 (x8 + 1)))) else (some false)) else (if x8 ≥ x6 then (if 0 ≤ x8 then (if x8 < (x0.length : Int) then (if rdOf false x0 x8 = true then (some false) else (budwoodlaw07_AllocRoom.l0 k x0 x5 x6 (wrap64 (x8 + 1)))) else (none)) else (none)) else (budwoodlaw07_AllocRoom.l0 k x0 x5 x6 (wrap64 (x8 + 1)))))
end
def budwoodlaw07_AllocRoom.f (k : Nat) (l0 : List Bool) (a1 : Int) : Option (Bool) := if (l0.length : Int) > 200 then ((budwoodlaw07_awake.f).bind fun t126 => (some t126)) else ((alloc_Find.f l0 (wrap64 (1 + (Int.tmod (wrap64 (a1)) 20)))).bind fun bt127 => ((alloc_Longest.f l0).bind fun t129 => (if ((bt127.2 == 0) != (decide (t129 ≥ (wrap64 (1 + (Int.tmod (wrap64 (a1)) 20)))))) = true then (some false) else (if bt127.2 = 0 then (if bt127.1 < 0 then (budwoodlaw07_AllocRoom.j0 k l0 (wrap64 (1 + (Int.tmod (wrap64 (a1)) 20))) bt127.1 true) else (budwoodlaw07_AllocRoom.j0 k l0 (wrap64 (1 + (Int.tmod (wrap64 (a1)) 20))) bt127.1 (decide ((wrap64 (1 + (Int.tmod (wrap64 (a1)) 20))) > (wrap64 ((l0.length : Int) - bt127.1)))))) else (if bt127.1 = 0 then (if bt127.2 = 7 then ((budwoodlaw07_awake.f).bind fun t130 => (some t130)) else (some false)) else (some false))))))
theorem budwoodlaw07_AllocRoom.mono_l : ∀ k, (∀ y0 y1 y2 y3, LeO (budwoodlaw07_AllocRoom.j0 k y0 y1 y2 y3) (budwoodlaw07_AllocRoom.j0 (k + 1) y0 y1 y2 y3)) ∧ (∀ y0 y1 y2 y3, LeO (budwoodlaw07_AllocRoom.l0 k y0 y1 y2 y3) (budwoodlaw07_AllocRoom.l0 (k + 1) y0 y1 y2 y3)) ∧ (∀ y0 y1 y2 y3 y4 y5, LeO (budwoodlaw07_AllocRoom.l1 k y0 y1 y2 y3 y4 y5) (budwoodlaw07_AllocRoom.l1 (k + 1) y0 y1 y2 y3 y4 y5))
  | 0 => ⟨fun _ _ _ _ r h => by simp [budwoodlaw07_AllocRoom.j0] at h, fun _ _ _ _ r h => by simp [budwoodlaw07_AllocRoom.l0] at h, fun _ _ _ _ _ _ r h => by simp [budwoodlaw07_AllocRoom.l1] at h⟩
  | k + 1 => by
    obtain ⟨ih0, ih1, ih2⟩ := budwoodlaw07_AllocRoom.mono_l k
    refine ⟨?_, ?_, ?_⟩
    · intro y0 y1 y2 y3
      unfold budwoodlaw07_AllocRoom.j0
      repeat' first
      | (with_reducible exact ih0 _ _ _ _)
      | (with_reducible exact ih1 _ _ _ _)
      | (with_reducible exact ih2 _ _ _ _ _ _)
      | (with_reducible exact LeO.refl _)
      | (with_reducible exact LeO.none _)
      | (with_reducible refine LeO.ite ?_ ?_)
      | (with_reducible refine LeO.bind ?_ (fun _ => ?_))
      | exact ih0 _ _ _ _
      | exact ih1 _ _ _ _
      | exact ih2 _ _ _ _ _ _
      | exact LeO.none _
      | refine LeO.ite ?_ ?_
      | refine LeO.bind ?_ (fun _ => ?_)
    · intro y0 y1 y2 y3
      unfold budwoodlaw07_AllocRoom.l0
      repeat' first
      | (with_reducible exact ih0 _ _ _ _)
      | (with_reducible exact ih1 _ _ _ _)
      | (with_reducible exact ih2 _ _ _ _ _ _)
      | (with_reducible exact LeO.refl _)
      | (with_reducible exact LeO.none _)
      | (with_reducible refine LeO.ite ?_ ?_)
      | (with_reducible refine LeO.bind ?_ (fun _ => ?_))
      | exact ih0 _ _ _ _
      | exact ih1 _ _ _ _
      | exact ih2 _ _ _ _ _ _
      | exact LeO.none _
      | refine LeO.ite ?_ ?_
      | refine LeO.bind ?_ (fun _ => ?_)
    · intro y0 y1 y2 y3 y4 y5
      unfold budwoodlaw07_AllocRoom.l1
      repeat' first
      | (with_reducible exact ih0 _ _ _ _)
      | (with_reducible exact ih1 _ _ _ _)
      | (with_reducible exact ih2 _ _ _ _ _ _)
      | (with_reducible exact LeO.refl _)
      | (with_reducible exact LeO.none _)
      | (with_reducible refine LeO.ite ?_ ?_)
      | (with_reducible refine LeO.bind ?_ (fun _ => ?_))
      | exact ih0 _ _ _ _
      | exact ih1 _ _ _ _
      | exact ih2 _ _ _ _ _ _
      | exact LeO.none _
      | refine LeO.ite ?_ ?_
      | refine LeO.bind ?_ (fun _ => ?_)
theorem budwoodlaw07_AllocRoom.mono : ∀ a0 a1 k, LeO (budwoodlaw07_AllocRoom.f k a0 a1) (budwoodlaw07_AllocRoom.f (k + 1) a0 a1) := by
  intro a0 a1 k
  obtain ⟨ih0, ih1, ih2⟩ := budwoodlaw07_AllocRoom.mono_l k
  unfold budwoodlaw07_AllocRoom.f
  repeat' first
      | (with_reducible exact ih0 _ _ _ _)
      | (with_reducible exact ih1 _ _ _ _)
      | (with_reducible exact ih2 _ _ _ _ _ _)
      | (with_reducible exact LeO.refl _)
      | (with_reducible exact LeO.none _)
      | (with_reducible refine LeO.ite ?_ ?_)
      | (with_reducible refine LeO.bind ?_ (fun _ => ?_))
      | exact ih0 _ _ _ _
      | exact ih1 _ _ _ _
      | exact ih2 _ _ _ _ _ _
      | exact LeO.none _
      | refine LeO.ite ?_ ?_
      | refine LeO.bind ?_ (fun _ => ?_)
set_option maxHeartbeats 8000000 in
set_option maxRecDepth 100000 in
theorem budwoodlaw07_AllocRoom.calls (k : Nat) (A0 : Option Addr) (c0 : Nat) (l0 : List Bool) (a1 : Int) (r : Bool) (w : World) (hr0 : Kd.C Kd.bool w A0 l0.length l0) (hc0 : l0.length ≤ c0) (h : budwoodlaw07_AllocRoom.f k l0 a1 = some r) :
    Calls Try.prog 4 #[.slice A0 l0.length c0, .int .u8 a1] w fun e w' => e = .returned (.bool r) ∧ Below w.heap.size w w' := by
  have HR0 := Aside0.mk hr0
  have HC0 := Aside0.mk hc0
  clear hr0 hc0
  have HB := Aside0.mk (Below.refl w.heap.size w)
  have H : (if (l0.length : Int) > 200 then ((budwoodlaw07_awake.f).bind fun t126 => (some t126)) else ((alloc_Find.f l0 (wrap64 (1 + (Int.tmod (wrap64 (a1)) 20)))).bind fun bt127 => ((alloc_Longest.f l0).bind fun t129 => (if ((bt127.2 == 0) != (decide (t129 ≥ (wrap64 (1 + (Int.tmod (wrap64 (a1)) 20)))))) = true then (some false) else (if bt127.2 = 0 then (if bt127.1 < 0 then (budwoodlaw07_AllocRoom.j0 k l0 (wrap64 (1 + (Int.tmod (wrap64 (a1)) 20))) bt127.1 true) else (budwoodlaw07_AllocRoom.j0 k l0 (wrap64 (1 + (Int.tmod (wrap64 (a1)) 20))) bt127.1 (decide ((wrap64 (1 + (Int.tmod (wrap64 (a1)) 20))) > (wrap64 ((l0.length : Int) - bt127.1)))))) else (if bt127.1 = 0 then (if bt127.2 = 7 then ((budwoodlaw07_awake.f).bind fun t130 => (some t130)) else (some false)) else (some false))))))) = some r := h
  clear h
  by_cases c3 : (l0.length : Int) > 200
  · rw [if_pos c3] at H
    have c3b0 : decide (200 < (l0.length : Int)) = true := decide_eq_true c3
    have c3b1 : decide (200 < l0.length) = true := decide_eq_true (by omega)
    clear c3
    replace H := Option.bind_eq_some_iff.mp H
    obtain ⟨t126, A40, H⟩ := H
    replace H : (some t126) = some r := H
    have A4 := Aside0.mk A40
    clear A40
    obtain rfl := Option.some.inj H
    go_enter Try.func4, Try.ntmps4
    go_wp2_with (first | ((with_reducible refine gate_callee (f := 9) rfl ?_); refine goesL_ (some 14) rfl rfl Try.func9 (by kernel_rfl) rfl #[] rfl (by (try simp only [List.map_toArray, List.map_cons, List.map_nil]); first | done | rfl | (simp only [List.length_drop, List.length_take]; rfl)) ?_; (with_reducible refine (budwoodlaw07_awake.calls  t126 _ A4.out).mono ?_); rintro e w5 ⟨rfl, hb⟩; refine ⟨_, rfl, ?_⟩; have n0_ := Aside0.mk (below_step (by repeat (first | (with_reducible first | exact HB.out | apply below_alloc | apply pw_below_drewN | apply below_drew1) | exact HB.out)) hb); clear HB; have HB := n0_; clear n0_; (try clear hb); (try clear hb2); (try clear hk); (try clear hi)))
    go_ret
    exact ⟨by first | rfl | (simp [errW_none, errW_some] <;> rfl) | (simp [*, errW_none, errW_some] <;> rfl), by repeat (first | (with_reducible first | exact HB.out | apply below_alloc | apply pw_below_drewN | apply below_drew1) | exact HB.out)⟩
  · rw [if_neg c3] at H
    have c3b0 : decide (200 < (l0.length : Int)) = false := decide_eq_false c3
    have c3b1 : decide (200 < l0.length) = false := decide_eq_false (by omega)
    clear c3
    replace H := Option.bind_eq_some_iff.mp H
    obtain ⟨⟨t127, t128⟩, A60, H⟩ := H
    replace H : ((alloc_Longest.f l0).bind fun t129 => (if ((t128 == 0) != (decide (t129 ≥ (wrap64 (1 + (Int.tmod (wrap64 (a1)) 20)))))) = true then (some false) else (if t128 = 0 then (if t127 < 0 then (budwoodlaw07_AllocRoom.j0 k l0 (wrap64 (1 + (Int.tmod (wrap64 (a1)) 20))) t127 true) else (budwoodlaw07_AllocRoom.j0 k l0 (wrap64 (1 + (Int.tmod (wrap64 (a1)) 20))) t127 (decide ((wrap64 (1 + (Int.tmod (wrap64 (a1)) 20))) > (wrap64 ((l0.length : Int) - t127)))))) else (if t127 = 0 then (if t128 = 7 then ((budwoodlaw07_awake.f).bind fun t130 => (some t130)) else (some false)) else (some false))))) = some r := H
    have A6 := Aside0.mk A60
    clear A60
    replace H := Option.bind_eq_some_iff.mp H
    obtain ⟨t129, A70, H⟩ := H
    replace H : (if ((t128 == 0) != (decide (t129 ≥ (wrap64 (1 + (Int.tmod (wrap64 (a1)) 20)))))) = true then (some false) else (if t128 = 0 then (if t127 < 0 then (budwoodlaw07_AllocRoom.j0 k l0 (wrap64 (1 + (Int.tmod (wrap64 (a1)) 20))) t127 true) else (budwoodlaw07_AllocRoom.j0 k l0 (wrap64 (1 + (Int.tmod (wrap64 (a1)) 20))) t127 (decide ((wrap64 (1 + (Int.tmod (wrap64 (a1)) 20))) > (wrap64 ((l0.length : Int) - t127)))))) else (if t127 = 0 then (if t128 = 7 then ((budwoodlaw07_awake.f).bind fun t130 => (some t130)) else (some false)) else (some false)))) = some r := H
    have A7 := Aside0.mk A70
    clear A70
    by_cases c8 : ((t128 == 0) != (decide (t129 ≥ (wrap64 (1 + (Int.tmod (wrap64 (a1)) 20)))))) = true
    · rw [if_pos c8] at H
      have c8b0 : ((t128 == 0) != (decide (t129 ≥ (wrap64 (1 + (Int.tmod (wrap64 (a1)) 20)))))) = true := c8
      (try (have c8b1 : decide ((t128 == 0) = (decide (t129 ≥ (wrap64 (1 + (Int.tmod (wrap64 (a1)) 20)))))) = false := by simpa using c8))
      (try (have c8b2 : ((t128 == 0) == (decide (t129 ≥ (wrap64 (1 + (Int.tmod (wrap64 (a1)) 20)))))) = false := by simpa using c8))
      (try (have c8b3 : ¬ ((t128 == 0) = (decide (t129 ≥ (wrap64 (1 + (Int.tmod (wrap64 (a1)) 20)))))) := by simpa using c8))
      clear c8
      obtain rfl := Option.some.inj H
      go_enter Try.func4, Try.ntmps4
      go_wp2_with (first | ((with_reducible refine gate_callee (f := 10) rfl ?_); refine goesL_ (some 22) rfl rfl Try.func10 (by kernel_rfl) rfl #[.slice A0 l0.length c0, .int .i64 (wrap64 (1 + (Int.tmod (wrap64 (a1)) 20)))] rfl (by (try simp only [List.map_toArray, List.map_cons, List.map_nil]); first | done | rfl | (simp only [List.length_drop, List.length_take]; rfl)) ?_; (with_reducible refine (alloc_Find.calls _ _ l0 (wrap64 (1 + (Int.tmod (wrap64 (a1)) 20))) t127 t128 _ ?side1 ?side2 A6.out).mono ?_); (case side1 => repeat (first | exact HR0.out | (with_reducible refine Kd.C_alloc ?_ _) | (with_reducible refine Kd.C_drewN ?_ _) | (with_reducible refine Kd.C_drew ?_))); (case side2 => exact HC0.out); rintro e w9 ⟨rfl, hb⟩; refine ⟨_, rfl, ?_⟩; have n0_ := Aside0.mk (below_step (by repeat (first | (with_reducible first | exact HB.out | apply below_alloc | apply pw_below_drewN | apply below_drew1) | exact HB.out)) hb); clear HB; have HB := n0_; clear n0_; (try clear hb); (try clear hb2); (try clear hk); (try clear hi)) | ((with_reducible refine gate_callee (f := 13) rfl ?_); refine goesL_ (some 28) rfl rfl Try.func13 (by kernel_rfl) rfl #[.slice A0 l0.length c0] rfl (by (try simp only [List.map_toArray, List.map_cons, List.map_nil]); first | done | rfl | (simp only [List.length_drop, List.length_take]; rfl)) ?_; (with_reducible refine (alloc_Longest.calls _ _ l0 t129 _ ?side1 ?side2 A7.out).mono ?_); (case side1 => repeat (first | exact (Kd.C_below HR0.out HB.out) | (with_reducible refine Kd.C_alloc ?_ _) | (with_reducible refine Kd.C_drewN ?_ _) | (with_reducible refine Kd.C_drew ?_))); (case side2 => exact HC0.out); rintro e w10 ⟨rfl, hb⟩; refine ⟨_, rfl, ?_⟩; have n0_ := Aside0.mk (below_step (by repeat (first | (with_reducible first | exact HB.out | apply below_alloc | apply pw_below_drewN | apply below_drew1) | exact HB.out)) hb); clear HB; have HB := n0_; clear n0_; (try clear hb); (try clear hb2); (try clear hk); (try clear hi)))
      go_ret
      exact ⟨by first | rfl | (simp [errW_none, errW_some] <;> rfl) | (simp [*, errW_none, errW_some] <;> rfl), by repeat (first | (with_reducible first | exact HB.out | apply below_alloc | apply pw_below_drewN | apply below_drew1) | exact HB.out)⟩
    · rw [if_neg c8] at H
      have c8b0 : ((t128 == 0) != (decide (t129 ≥ (wrap64 (1 + (Int.tmod (wrap64 (a1)) 20)))))) = false := by simpa using c8
      (try (have c8b1 : decide ((t128 == 0) = (decide (t129 ≥ (wrap64 (1 + (Int.tmod (wrap64 (a1)) 20)))))) = true := by simpa using c8))
      (try (have c8b2 : ((t128 == 0) == (decide (t129 ≥ (wrap64 (1 + (Int.tmod (wrap64 (a1)) 20)))))) = true := by simpa using c8))
      clear c8
      by_cases c11 : t128 = 0
      · rw [if_pos c11] at H
        have c11b0 : (t128 == 0) = true := beq_iff_eq.mpr c11
        have c11b1 : (t128 != 0) = false := bne_eq_false_iff_eq.mpr c11
        clear c11
        have hdx : decide ((wrap64 (1 + (Int.tmod (wrap64 (a1)) 20))) ≤ t129) = true := by have q := c8b0; rw [c11b0] at q; simpa using q
        have HC12 := Aside0.mk H
        clear H
        go_enter Try.func4, Try.ntmps4
        go_upto_region 9 with (first | ((with_reducible refine gate_callee (f := 10) rfl ?_); refine goesL_ (some 22) rfl rfl Try.func10 (by kernel_rfl) rfl #[.slice A0 l0.length c0, .int .i64 (wrap64 (1 + (Int.tmod (wrap64 (a1)) 20)))] rfl (by (try simp only [List.map_toArray, List.map_cons, List.map_nil]); first | done | rfl | (simp only [List.length_drop, List.length_take]; rfl)) ?_; (with_reducible refine (alloc_Find.calls _ _ l0 (wrap64 (1 + (Int.tmod (wrap64 (a1)) 20))) t127 t128 _ ?side1 ?side2 A6.out).mono ?_); (case side1 => repeat (first | exact HR0.out | (with_reducible refine Kd.C_alloc ?_ _) | (with_reducible refine Kd.C_drewN ?_ _) | (with_reducible refine Kd.C_drew ?_))); (case side2 => exact HC0.out); rintro e w13 ⟨rfl, hb⟩; refine ⟨_, rfl, ?_⟩; have n0_ := Aside0.mk (below_step (by repeat (first | (with_reducible first | exact HB.out | apply below_alloc | apply pw_below_drewN | apply below_drew1) | exact HB.out)) hb); clear HB; have HB := n0_; clear n0_; (try clear hb); (try clear hb2); (try clear hk); (try clear hi)) | ((with_reducible refine gate_callee (f := 13) rfl ?_); refine goesL_ (some 28) rfl rfl Try.func13 (by kernel_rfl) rfl #[.slice A0 l0.length c0] rfl (by (try simp only [List.map_toArray, List.map_cons, List.map_nil]); first | done | rfl | (simp only [List.length_drop, List.length_take]; rfl)) ?_; (with_reducible refine (alloc_Longest.calls _ _ l0 t129 _ ?side1 ?side2 A7.out).mono ?_); (case side1 => repeat (first | exact (Kd.C_below HR0.out HB.out) | (with_reducible refine Kd.C_alloc ?_ _) | (with_reducible refine Kd.C_drewN ?_ _) | (with_reducible refine Kd.C_drew ?_))); (case side2 => exact HC0.out); rintro e w14 ⟨rfl, hb⟩; refine ⟨_, rfl, ?_⟩; have n0_ := Aside0.mk (below_step (by repeat (first | (with_reducible first | exact HB.out | apply below_alloc | apply pw_below_drewN | apply below_drew1) | exact HB.out)) hb); clear HB; have HB := n0_; clear n0_; (try clear hb); (try clear hb2); (try clear hk); (try clear hi)))
        (try simp only [Act.put, List.setIfInBounds_toArray, List.set_cons_zero, List.set_cons_succ])
        go_cut [52] (fun v52 wc => ∃ (kq : Nat) (x52_11 : Bool), v52 = .bool x52_11 ∧ Aside0 (budwoodlaw07_AllocRoom.j0 kq l0 (wrap64 (1 + (Int.tmod (wrap64 (a1)) 20))) t127 x52_11 = some r) ∧ Aside0 (kq ≤ k) ∧ Aside0 (Below w.heap.size w wc))
        case first =>
          have H := HC12.out
          clear HC12
          by_cases c15 : t127 < 0
          · rw [if_pos c15] at H
            have c15b0 : decide (t127 < 0) = true := decide_eq_true c15
            clear c15
            (first | rw [c15b0] | (simp only [i64_w, i32_w]; rw [c15b0]) | skip)
            have H' := Aside0.mk H
            clear H
            go_wp2
            go_meet
            case rel => exact ⟨_, (true), (by first | rfl | (simp; done) | (simp [*]; done)), H', ⟨by first | omega | exact Nat.le_refl _⟩, ⟨by repeat (first | (with_reducible first | exact HB.out | apply below_alloc | apply pw_below_drewN | apply below_drew1) | exact HB.out)⟩⟩
          · rw [if_neg c15] at H
            have c15b0 : decide (t127 < 0) = false := decide_eq_false c15
            clear c15
            (first | rw [c15b0] | (simp only [i64_w, i32_w]; rw [c15b0]) | skip)
            have H' := Aside0.mk H
            clear H
            go_wp2
            go_meet
            case rel => exact ⟨_, (decide ((wrap64 (1 + (Int.tmod (wrap64 (a1)) 20))) > (wrap64 ((l0.length : Int) - t127)))), (by first | rfl | (simp; done) | (simp [*]; done)), H', ⟨by first | omega | exact Nat.le_refl _⟩, ⟨by repeat (first | (with_reducible first | exact HB.out | apply below_alloc | apply pw_below_drewN | apply below_drew1) | exact HB.out)⟩⟩
        case rest =>
          clear HC12
          try clear c1
          try clear p2
          try clear c3
          try clear c3b0
          try clear c3b1
          try clear c4
          try clear p6
          try clear c8
          try clear c8b0
          try clear c8b1
          try clear c8b2
          try clear c9
          try clear c10
          try clear c11
          try clear c11b0
          try clear c11b1
          try clear c13
          try clear c15
          try clear c15b0
          obtain ⟨kq, x52_11, rfl, HA, HJ11, HB⟩ := hcut
          cases kq with
          | zero => exact absurd HA.out (by simp [budwoodlaw07_AllocRoom.j0])
          | succ kj11 =>
            have H := HA.out
            clear HA
            simp only [budwoodlaw07_AllocRoom.j0] at H
            by_cases c16 : x52_11 = true
            · subst c16
              have H1 : (some false) = some r := by rw [if_pos rfl] at H; exact H
              clear H
              have H := H1
              clear H1
              obtain rfl := Option.some.inj H
              go_wp2
              go_ret
              exact ⟨by first | rfl | (simp [errW_none, errW_some] <;> rfl) | (simp [*, errW_none, errW_some] <;> rfl), by repeat (first | (with_reducible first | exact HB.out | apply below_alloc | apply pw_below_drewN | apply below_drew1) | exact HB.out)⟩
            · replace c16 := Bool.eq_false_iff.mpr c16
              subst c16
              have H1 : (budwoodlaw07_AllocRoom.l0 kj11 l0 (wrap64 (1 + (Int.tmod (wrap64 (a1)) 20))) t127 0) = some r := by rw [if_neg (show ¬ (false = true) by decide)] at H; exact H
              clear H
              have H := H1
              clear H1
              have H' := Aside0.mk H
              clear H
              go_wp2
              go_loopg [8] kj11 (fun kq v8 w' => ∃ (x8_2 : Int), v8 = .int .i64 x8_2 ∧ Aside0 (budwoodlaw07_AllocRoom.l0 kq l0 (wrap64 (1 + (Int.tmod (wrap64 (a1)) 20))) t127 x8_2 = some r) ∧ Aside0 (kq ≤ kj11) ∧ Aside0 (Below w.heap.size w w'))
              case atStart => exact ⟨(0), (by first | rfl | (simp; done) | (simp [*]; done)), H', ⟨Nat.le_refl _⟩, ⟨by repeat (first | (with_reducible first | exact HB.out | apply below_alloc | apply pw_below_drewN | apply below_drew1) | exact HB.out)⟩⟩
              case round =>
                clear H'
                try clear c1
                try clear p2
                try clear c3
                try clear c3b0
                try clear c3b1
                try clear c4
                try clear p6
                try clear c8
                try clear c8b0
                try clear c8b1
                try clear c8b2
                try clear c9
                try clear c10
                try clear c11
                try clear c11b0
                try clear c11b1
                try clear c13
                try clear c15
                try clear c15b0
                try clear c16
                try clear p2
                try clear p6
                obtain ⟨x8_2, rfl, HA, HK2, HB⟩ := hrel
                cases gk with
                | zero => exact absurd HA.out (by simp [budwoodlaw07_AllocRoom.l0])
                | succ k2 =>
                  have H := HA.out
                  clear HA
                  simp only [budwoodlaw07_AllocRoom.l0] at H
                  by_cases c17 : x8_2 < (wrap64 (t127 + (wrap64 (1 + (Int.tmod (wrap64 (a1)) 20)))))
                  · rw [if_pos c17] at H
                    have c17b0 : decide (x8_2 < (wrap64 (t127 + (wrap64 (1 + (Int.tmod (wrap64 (a1)) 20)))))) = true := decide_eq_true c17
                    clear c17
                    have H' := Aside0.mk H
                    clear H
                    go_wp2
                    go_loopg [9, 10] k2 (fun kq v9 v10 w' => ∃ (x9_3 : Bool) (x10_3 : Int), v9 = .bool x9_3 ∧ v10 = .int .i64 x10_3 ∧ Aside0 (budwoodlaw07_AllocRoom.l1 kq l0 (wrap64 (1 + (Int.tmod (wrap64 (a1)) 20))) t127 x8_2 x9_3 x10_3 = some r) ∧ Aside0 (kq ≤ k2) ∧ Aside0 (Below w.heap.size w w'))
                    case atStart => exact ⟨(false), (x8_2), (by first | rfl | (simp; done) | (simp [*]; done)), (by first | rfl | (simp; done) | (simp [*]; done)), H', ⟨Nat.le_refl _⟩, ⟨by repeat (first | (with_reducible first | exact HB.out | apply below_alloc | apply pw_below_drewN | apply below_drew1) | exact HB.out)⟩⟩
                    case round =>
                      clear H'
                      try clear c1
                      try clear p2
                      try clear c3
                      try clear c3b0
                      try clear c3b1
                      try clear c4
                      try clear p6
                      try clear c8
                      try clear c8b0
                      try clear c8b1
                      try clear c8b2
                      try clear c9
                      try clear c10
                      try clear c11
                      try clear c11b0
                      try clear c11b1
                      try clear c13
                      try clear c15
                      try clear c15b0
                      try clear c16
                      try clear c17
                      try clear c17b0
                      try clear p2
                      try clear p6
                      obtain ⟨x9_3, x10_3, rfl, rfl, HA, HK3, HB⟩ := hrel
                      cases gk with
                      | zero => exact absurd HA.out (by simp [budwoodlaw07_AllocRoom.l1])
                      | succ k3 =>
                        have H := HA.out
                        clear HA
                        simp only [budwoodlaw07_AllocRoom.l1] at H
                        by_cases c18 : x10_3 < (wrap64 (x8_2 + (wrap64 (1 + (Int.tmod (wrap64 (a1)) 20)))))
                        · rw [if_pos c18] at H
                          have c18b0 : decide (x10_3 < (wrap64 (x8_2 + (wrap64 (1 + (Int.tmod (wrap64 (a1)) 20)))))) = true := decide_eq_true c18
                          clear c18
                          by_cases c19 : x10_3 < (l0.length : Int)
                          · rw [if_pos c19] at H
                            have c19b0 : decide (x10_3 < (l0.length : Int)) = true := decide_eq_true c19
                            clear c19
                            by_cases c20 : x9_3 = true
                            · subst c20
                              have H1 : (budwoodlaw07_AllocRoom.l1 k3 l0 (wrap64 (1 + (Int.tmod (wrap64 (a1)) 20))) t127 x8_2 true (wrap64 (x10_3 + 1))) = some r := by rw [if_pos rfl] at H; exact H
                              clear H
                              have H := H1
                              clear H1
                              have H' := Aside0.mk H
                              clear H
                              go_wp2
                              go_roundg k3
                              case measure => have := HJ11.out; have := HK2.out; have := HK3.out; omega
                              case rel => exact ⟨(true), (wrap64 (x10_3 + 1)), (by first | rfl | (simp; done) | (simp [*]; done)), (by first | rfl | (simp; done) | (simp [*]; done)), H', ⟨by have := HJ11.out; have := HK2.out; have := HK3.out; omega⟩, ⟨by repeat (first | (with_reducible first | exact HB.out | apply below_alloc | apply pw_below_drewN | apply below_drew1) | exact HB.out)⟩⟩
                            · replace c20 := Bool.eq_false_iff.mpr c20
                              subst c20
                              have H1 : (if 0 ≤ x10_3 then (budwoodlaw07_AllocRoom.l1 k3 l0 (wrap64 (1 + (Int.tmod (wrap64 (a1)) 20))) t127 x8_2 (rdOf false l0 x10_3) (wrap64 (x10_3 + 1))) else (none)) = some r := by rw [if_neg (show ¬ (false = true) by decide)] at H; exact H
                              clear H
                              have H := H1
                              clear H1
                              by_cases c21 : 0 ≤ x10_3
                              · rw [if_pos c21] at H
                                have c21b0 : decide (0 ≤ x10_3) = true := decide_eq_true c21
                                clear c21
                                have H' := Aside0.mk H
                                clear H
                                have p132 : 0 ≤ (x10_3 : Int) := of_decide_eq_true (by first | (with_reducible assumption) | assumption)
                                have q132 : x10_3 < (l0.length : Int) := of_decide_eq_true (by first | (with_reducible assumption) | assumption)
                                obtain ⟨ad132, e132, hx132_0⟩ := Kd.at_bool HR0.out x10_3 p132 q132
                                cases e132
                                replace hx132_0 := (HB.out.cell (World.block_lt_of_cell? w _ hx132_0)).trans hx132_0
                                replace p132 := eq_true p132
                                replace q132 := eq_true q132
                                go_wp2
                                go_roundg k3
                                case measure => have := HJ11.out; have := HK2.out; have := HK3.out; omega
                                case rel => exact ⟨(rdOf false l0 x10_3), (wrap64 (x10_3 + 1)), (by first | rfl | (simp; done) | (simp [*]; done)), (by first | rfl | (simp; done) | (simp [*]; done)), H', ⟨by have := HJ11.out; have := HK2.out; have := HK3.out; omega⟩, ⟨by repeat (first | (with_reducible first | exact HB.out | apply below_alloc | apply pw_below_drewN | apply below_drew1) | exact HB.out)⟩⟩
                              · rw [if_neg c21] at H
                                exact absurd H (by simp)
                          · rw [if_neg c19] at H
                            have c19b0 : decide (x10_3 < (l0.length : Int)) = false := decide_eq_false c19
                            clear c19
                            by_cases c22 : x8_2 < t127
                            · rw [if_pos c22] at H
                              have c22b0 : decide (x8_2 < t127) = true := decide_eq_true c22
                              clear c22
                              by_cases c23 : x9_3 = true
                              · subst c23
                                have H1 : (if x8_2 ≥ t127 then (if 0 ≤ x8_2 then (if x8_2 < (l0.length : Int) then (if rdOf false l0 x8_2 = true then (some false) else (budwoodlaw07_AllocRoom.l0 k3 l0 (wrap64 (1 + (Int.tmod (wrap64 (a1)) 20))) t127 (wrap64 (x8_2 + 1)))) else (none)) else (none)) else (budwoodlaw07_AllocRoom.l0 k3 l0 (wrap64 (1 + (Int.tmod (wrap64 (a1)) 20))) t127 (wrap64 (x8_2 + 1)))) = some r := by rw [if_pos rfl] at H; exact H
                                clear H
                                have H := H1
                                clear H1
                                by_cases c24 : x8_2 ≥ t127
                                · rw [if_pos c24] at H
                                  have c24b0 : decide (t127 ≤ x8_2) = true := decide_eq_true c24
                                  clear c24
                                  by_cases c25 : 0 ≤ x8_2
                                  · rw [if_pos c25] at H
                                    have c25b0 : decide (0 ≤ x8_2) = true := decide_eq_true c25
                                    clear c25
                                    by_cases c26 : x8_2 < (l0.length : Int)
                                    · rw [if_pos c26] at H
                                      have c26b0 : decide (x8_2 < (l0.length : Int)) = true := decide_eq_true c26
                                      clear c26
                                      obtain ⟨bq27, hbq27⟩ : ∃ b_ : Bool, b_ = (rdOf false l0 x8_2) := ⟨_, rfl⟩
                                      replace H : (if bq27 = true then (some false) else (budwoodlaw07_AllocRoom.l0 k3 l0 (wrap64 (1 + (Int.tmod (wrap64 (a1)) 20))) t127 (wrap64 (x8_2 + 1)))) = some r := by rw [← hbq27] at H; exact H
                                      have Nbq27 := Aside0.mk hbq27
                                      clear hbq27
                                      by_cases c28 : bq27 = true
                                      · subst c28
                                        have H1 : (some false) = some r := by rw [if_pos rfl] at H; exact H
                                        clear H
                                        have H := H1
                                        clear H1
                                        obtain rfl := Option.some.inj H
                                        have p133 : 0 ≤ (x8_2 : Int) := of_decide_eq_true (by first | (with_reducible assumption) | assumption)
                                        have q133 : x8_2 < (l0.length : Int) := of_decide_eq_true (by first | (with_reducible assumption) | assumption)
                                        obtain ⟨ad133, e133, hx133_0⟩ := Kd.at_bool HR0.out x8_2 p133 q133
                                        (try rw [← Nbq27.out] at hx133_0)
                                        cases e133
                                        replace hx133_0 := (HB.out.cell (World.block_lt_of_cell? w _ hx133_0)).trans hx133_0
                                        replace p133 := eq_true p133
                                        replace q133 := eq_true q133
                                        go_wp2
                                        go_ret
                                        exact ⟨by first | rfl | (simp [errW_none, errW_some] <;> rfl) | (simp [*, errW_none, errW_some] <;> rfl), by repeat (first | (with_reducible first | exact HB.out | apply below_alloc | apply pw_below_drewN | apply below_drew1) | exact HB.out)⟩
                                      · replace c28 := Bool.eq_false_iff.mpr c28
                                        subst c28
                                        have H1 : (budwoodlaw07_AllocRoom.l0 k3 l0 (wrap64 (1 + (Int.tmod (wrap64 (a1)) 20))) t127 (wrap64 (x8_2 + 1))) = some r := by rw [if_neg (show ¬ (false = true) by decide)] at H; exact H
                                        clear H
                                        have H := H1
                                        clear H1
                                        have H' := Aside0.mk H
                                        clear H
                                        have p133 : 0 ≤ (x8_2 : Int) := of_decide_eq_true (by first | (with_reducible assumption) | assumption)
                                        have q133 : x8_2 < (l0.length : Int) := of_decide_eq_true (by first | (with_reducible assumption) | assumption)
                                        obtain ⟨ad133, e133, hx133_0⟩ := Kd.at_bool HR0.out x8_2 p133 q133
                                        (try rw [← Nbq27.out] at hx133_0)
                                        cases e133
                                        replace hx133_0 := (HB.out.cell (World.block_lt_of_cell? w _ hx133_0)).trans hx133_0
                                        replace p133 := eq_true p133
                                        replace q133 := eq_true q133
                                        go_wp2
                                        go_roundg k3
                                        case measure => have := HJ11.out; have := HK2.out; have := HK3.out; omega
                                        case rel => exact ⟨(wrap64 (x8_2 + 1)), (by first | rfl | (simp; done) | (simp [*]; done)), H', ⟨by have := HJ11.out; have := HK2.out; have := HK3.out; omega⟩, ⟨by repeat (first | (with_reducible first | exact HB.out | apply below_alloc | apply pw_below_drewN | apply below_drew1) | exact HB.out)⟩⟩
                                    · rw [if_neg c26] at H
                                      exact absurd H (by simp)
                                  · rw [if_neg c25] at H
                                    exact absurd H (by simp)
                                · rw [if_neg c24] at H
                                  have c24b0 : decide (t127 ≤ x8_2) = false := decide_eq_false c24
                                  clear c24
                                  have H' := Aside0.mk H
                                  clear H
                                  go_wp2
                                  go_roundg k3
                                  case measure => have := HJ11.out; have := HK2.out; have := HK3.out; omega
                                  case rel => exact ⟨(wrap64 (x8_2 + 1)), (by first | rfl | (simp; done) | (simp [*]; done)), H', ⟨by have := HJ11.out; have := HK2.out; have := HK3.out; omega⟩, ⟨by repeat (first | (with_reducible first | exact HB.out | apply below_alloc | apply pw_below_drewN | apply below_drew1) | exact HB.out)⟩⟩
                              · replace c23 := Bool.eq_false_iff.mpr c23
                                subst c23
                                have H1 : (some false) = some r := by rw [if_neg (show ¬ (false = true) by decide)] at H; exact H
                                clear H
                                have H := H1
                                clear H1
                                obtain rfl := Option.some.inj H
                                go_wp2
                                go_ret
                                exact ⟨by first | rfl | (simp [errW_none, errW_some] <;> rfl) | (simp [*, errW_none, errW_some] <;> rfl), by repeat (first | (with_reducible first | exact HB.out | apply below_alloc | apply pw_below_drewN | apply below_drew1) | exact HB.out)⟩
                            · rw [if_neg c22] at H
                              have c22b0 : decide (x8_2 < t127) = false := decide_eq_false c22
                              clear c22
                              by_cases c29 : x8_2 ≥ t127
                              · rw [if_pos c29] at H
                                have c29b0 : decide (t127 ≤ x8_2) = true := decide_eq_true c29
                                clear c29
                                by_cases c30 : 0 ≤ x8_2
                                · rw [if_pos c30] at H
                                  have c30b0 : decide (0 ≤ x8_2) = true := decide_eq_true c30
                                  clear c30
                                  by_cases c31 : x8_2 < (l0.length : Int)
                                  · rw [if_pos c31] at H
                                    have c31b0 : decide (x8_2 < (l0.length : Int)) = true := decide_eq_true c31
                                    clear c31
                                    obtain ⟨bq32, hbq32⟩ : ∃ b_ : Bool, b_ = (rdOf false l0 x8_2) := ⟨_, rfl⟩
                                    replace H : (if bq32 = true then (some false) else (budwoodlaw07_AllocRoom.l0 k3 l0 (wrap64 (1 + (Int.tmod (wrap64 (a1)) 20))) t127 (wrap64 (x8_2 + 1)))) = some r := by rw [← hbq32] at H; exact H
                                    have Nbq32 := Aside0.mk hbq32
                                    clear hbq32
                                    by_cases c33 : bq32 = true
                                    · subst c33
                                      have H1 : (some false) = some r := by rw [if_pos rfl] at H; exact H
                                      clear H
                                      have H := H1
                                      clear H1
                                      obtain rfl := Option.some.inj H
                                      have p134 : 0 ≤ (x8_2 : Int) := of_decide_eq_true (by first | (with_reducible assumption) | assumption)
                                      have q134 : x8_2 < (l0.length : Int) := of_decide_eq_true (by first | (with_reducible assumption) | assumption)
                                      obtain ⟨ad134, e134, hx134_0⟩ := Kd.at_bool HR0.out x8_2 p134 q134
                                      (try rw [← Nbq32.out] at hx134_0)
                                      cases e134
                                      replace hx134_0 := (HB.out.cell (World.block_lt_of_cell? w _ hx134_0)).trans hx134_0
                                      replace p134 := eq_true p134
                                      replace q134 := eq_true q134
                                      go_wp2
                                      go_ret
                                      exact ⟨by first | rfl | (simp [errW_none, errW_some] <;> rfl) | (simp [*, errW_none, errW_some] <;> rfl), by repeat (first | (with_reducible first | exact HB.out | apply below_alloc | apply pw_below_drewN | apply below_drew1) | exact HB.out)⟩
                                    · replace c33 := Bool.eq_false_iff.mpr c33
                                      subst c33
                                      have H1 : (budwoodlaw07_AllocRoom.l0 k3 l0 (wrap64 (1 + (Int.tmod (wrap64 (a1)) 20))) t127 (wrap64 (x8_2 + 1))) = some r := by rw [if_neg (show ¬ (false = true) by decide)] at H; exact H
                                      clear H
                                      have H := H1
                                      clear H1
                                      have H' := Aside0.mk H
                                      clear H
                                      have p134 : 0 ≤ (x8_2 : Int) := of_decide_eq_true (by first | (with_reducible assumption) | assumption)
                                      have q134 : x8_2 < (l0.length : Int) := of_decide_eq_true (by first | (with_reducible assumption) | assumption)
                                      obtain ⟨ad134, e134, hx134_0⟩ := Kd.at_bool HR0.out x8_2 p134 q134
                                      (try rw [← Nbq32.out] at hx134_0)
                                      cases e134
                                      replace hx134_0 := (HB.out.cell (World.block_lt_of_cell? w _ hx134_0)).trans hx134_0
                                      replace p134 := eq_true p134
                                      replace q134 := eq_true q134
                                      go_wp2
                                      go_roundg k3
                                      case measure => have := HJ11.out; have := HK2.out; have := HK3.out; omega
                                      case rel => exact ⟨(wrap64 (x8_2 + 1)), (by first | rfl | (simp; done) | (simp [*]; done)), H', ⟨by have := HJ11.out; have := HK2.out; have := HK3.out; omega⟩, ⟨by repeat (first | (with_reducible first | exact HB.out | apply below_alloc | apply pw_below_drewN | apply below_drew1) | exact HB.out)⟩⟩
                                  · rw [if_neg c31] at H
                                    exact absurd H (by simp)
                                · rw [if_neg c30] at H
                                  exact absurd H (by simp)
                              · rw [if_neg c29] at H
                                have c29b0 : decide (t127 ≤ x8_2) = false := decide_eq_false c29
                                clear c29
                                have H' := Aside0.mk H
                                clear H
                                go_wp2
                                go_roundg k3
                                case measure => have := HJ11.out; have := HK2.out; have := HK3.out; omega
                                case rel => exact ⟨(wrap64 (x8_2 + 1)), (by first | rfl | (simp; done) | (simp [*]; done)), H', ⟨by have := HJ11.out; have := HK2.out; have := HK3.out; omega⟩, ⟨by repeat (first | (with_reducible first | exact HB.out | apply below_alloc | apply pw_below_drewN | apply below_drew1) | exact HB.out)⟩⟩
                        · rw [if_neg c18] at H
                          have c18b0 : decide (x10_3 < (wrap64 (x8_2 + (wrap64 (1 + (Int.tmod (wrap64 (a1)) 20)))))) = false := decide_eq_false c18
                          clear c18
                          by_cases c34 : x8_2 < t127
                          · rw [if_pos c34] at H
                            have c34b0 : decide (x8_2 < t127) = true := decide_eq_true c34
                            clear c34
                            by_cases c35 : x9_3 = true
                            · subst c35
                              have H1 : (if x8_2 ≥ t127 then (if 0 ≤ x8_2 then (if x8_2 < (l0.length : Int) then (if rdOf false l0 x8_2 = true then (some false) else (budwoodlaw07_AllocRoom.l0 k3 l0 (wrap64 (1 + (Int.tmod (wrap64 (a1)) 20))) t127 (wrap64 (x8_2 + 1)))) else (none)) else (none)) else (budwoodlaw07_AllocRoom.l0 k3 l0 (wrap64 (1 + (Int.tmod (wrap64 (a1)) 20))) t127 (wrap64 (x8_2 + 1)))) = some r := by rw [if_pos rfl] at H; exact H
                              clear H
                              have H := H1
                              clear H1
                              by_cases c36 : x8_2 ≥ t127
                              · rw [if_pos c36] at H
                                have c36b0 : decide (t127 ≤ x8_2) = true := decide_eq_true c36
                                clear c36
                                by_cases c37 : 0 ≤ x8_2
                                · rw [if_pos c37] at H
                                  have c37b0 : decide (0 ≤ x8_2) = true := decide_eq_true c37
                                  clear c37
                                  by_cases c38 : x8_2 < (l0.length : Int)
                                  · rw [if_pos c38] at H
                                    have c38b0 : decide (x8_2 < (l0.length : Int)) = true := decide_eq_true c38
                                    clear c38
                                    obtain ⟨bq39, hbq39⟩ : ∃ b_ : Bool, b_ = (rdOf false l0 x8_2) := ⟨_, rfl⟩
                                    replace H : (if bq39 = true then (some false) else (budwoodlaw07_AllocRoom.l0 k3 l0 (wrap64 (1 + (Int.tmod (wrap64 (a1)) 20))) t127 (wrap64 (x8_2 + 1)))) = some r := by rw [← hbq39] at H; exact H
                                    have Nbq39 := Aside0.mk hbq39
                                    clear hbq39
                                    by_cases c40 : bq39 = true
                                    · subst c40
                                      have H1 : (some false) = some r := by rw [if_pos rfl] at H; exact H
                                      clear H
                                      have H := H1
                                      clear H1
                                      obtain rfl := Option.some.inj H
                                      have p135 : 0 ≤ (x8_2 : Int) := of_decide_eq_true (by first | (with_reducible assumption) | assumption)
                                      have q135 : x8_2 < (l0.length : Int) := of_decide_eq_true (by first | (with_reducible assumption) | assumption)
                                      obtain ⟨ad135, e135, hx135_0⟩ := Kd.at_bool HR0.out x8_2 p135 q135
                                      (try rw [← Nbq39.out] at hx135_0)
                                      cases e135
                                      replace hx135_0 := (HB.out.cell (World.block_lt_of_cell? w _ hx135_0)).trans hx135_0
                                      replace p135 := eq_true p135
                                      replace q135 := eq_true q135
                                      go_wp2
                                      go_ret
                                      exact ⟨by first | rfl | (simp [errW_none, errW_some] <;> rfl) | (simp [*, errW_none, errW_some] <;> rfl), by repeat (first | (with_reducible first | exact HB.out | apply below_alloc | apply pw_below_drewN | apply below_drew1) | exact HB.out)⟩
                                    · replace c40 := Bool.eq_false_iff.mpr c40
                                      subst c40
                                      have H1 : (budwoodlaw07_AllocRoom.l0 k3 l0 (wrap64 (1 + (Int.tmod (wrap64 (a1)) 20))) t127 (wrap64 (x8_2 + 1))) = some r := by rw [if_neg (show ¬ (false = true) by decide)] at H; exact H
                                      clear H
                                      have H := H1
                                      clear H1
                                      have H' := Aside0.mk H
                                      clear H
                                      have p135 : 0 ≤ (x8_2 : Int) := of_decide_eq_true (by first | (with_reducible assumption) | assumption)
                                      have q135 : x8_2 < (l0.length : Int) := of_decide_eq_true (by first | (with_reducible assumption) | assumption)
                                      obtain ⟨ad135, e135, hx135_0⟩ := Kd.at_bool HR0.out x8_2 p135 q135
                                      (try rw [← Nbq39.out] at hx135_0)
                                      cases e135
                                      replace hx135_0 := (HB.out.cell (World.block_lt_of_cell? w _ hx135_0)).trans hx135_0
                                      replace p135 := eq_true p135
                                      replace q135 := eq_true q135
                                      go_wp2
                                      go_roundg k3
                                      case measure => have := HJ11.out; have := HK2.out; have := HK3.out; omega
                                      case rel => exact ⟨(wrap64 (x8_2 + 1)), (by first | rfl | (simp; done) | (simp [*]; done)), H', ⟨by have := HJ11.out; have := HK2.out; have := HK3.out; omega⟩, ⟨by repeat (first | (with_reducible first | exact HB.out | apply below_alloc | apply pw_below_drewN | apply below_drew1) | exact HB.out)⟩⟩
                                  · rw [if_neg c38] at H
                                    exact absurd H (by simp)
                                · rw [if_neg c37] at H
                                  exact absurd H (by simp)
                              · rw [if_neg c36] at H
                                have c36b0 : decide (t127 ≤ x8_2) = false := decide_eq_false c36
                                clear c36
                                have H' := Aside0.mk H
                                clear H
                                go_wp2
                                go_roundg k3
                                case measure => have := HJ11.out; have := HK2.out; have := HK3.out; omega
                                case rel => exact ⟨(wrap64 (x8_2 + 1)), (by first | rfl | (simp; done) | (simp [*]; done)), H', ⟨by have := HJ11.out; have := HK2.out; have := HK3.out; omega⟩, ⟨by repeat (first | (with_reducible first | exact HB.out | apply below_alloc | apply pw_below_drewN | apply below_drew1) | exact HB.out)⟩⟩
                            · replace c35 := Bool.eq_false_iff.mpr c35
                              subst c35
                              have H1 : (some false) = some r := by rw [if_neg (show ¬ (false = true) by decide)] at H; exact H
                              clear H
                              have H := H1
                              clear H1
                              obtain rfl := Option.some.inj H
                              go_wp2
                              go_ret
                              exact ⟨by first | rfl | (simp [errW_none, errW_some] <;> rfl) | (simp [*, errW_none, errW_some] <;> rfl), by repeat (first | (with_reducible first | exact HB.out | apply below_alloc | apply pw_below_drewN | apply below_drew1) | exact HB.out)⟩
                          · rw [if_neg c34] at H
                            have c34b0 : decide (x8_2 < t127) = false := decide_eq_false c34
                            clear c34
                            by_cases c41 : x8_2 ≥ t127
                            · rw [if_pos c41] at H
                              have c41b0 : decide (t127 ≤ x8_2) = true := decide_eq_true c41
                              clear c41
                              by_cases c42 : 0 ≤ x8_2
                              · rw [if_pos c42] at H
                                have c42b0 : decide (0 ≤ x8_2) = true := decide_eq_true c42
                                clear c42
                                by_cases c43 : x8_2 < (l0.length : Int)
                                · rw [if_pos c43] at H
                                  have c43b0 : decide (x8_2 < (l0.length : Int)) = true := decide_eq_true c43
                                  clear c43
                                  obtain ⟨bq44, hbq44⟩ : ∃ b_ : Bool, b_ = (rdOf false l0 x8_2) := ⟨_, rfl⟩
                                  replace H : (if bq44 = true then (some false) else (budwoodlaw07_AllocRoom.l0 k3 l0 (wrap64 (1 + (Int.tmod (wrap64 (a1)) 20))) t127 (wrap64 (x8_2 + 1)))) = some r := by rw [← hbq44] at H; exact H
                                  have Nbq44 := Aside0.mk hbq44
                                  clear hbq44
                                  by_cases c45 : bq44 = true
                                  · subst c45
                                    have H1 : (some false) = some r := by rw [if_pos rfl] at H; exact H
                                    clear H
                                    have H := H1
                                    clear H1
                                    obtain rfl := Option.some.inj H
                                    have p136 : 0 ≤ (x8_2 : Int) := of_decide_eq_true (by first | (with_reducible assumption) | assumption)
                                    have q136 : x8_2 < (l0.length : Int) := of_decide_eq_true (by first | (with_reducible assumption) | assumption)
                                    obtain ⟨ad136, e136, hx136_0⟩ := Kd.at_bool HR0.out x8_2 p136 q136
                                    (try rw [← Nbq44.out] at hx136_0)
                                    cases e136
                                    replace hx136_0 := (HB.out.cell (World.block_lt_of_cell? w _ hx136_0)).trans hx136_0
                                    replace p136 := eq_true p136
                                    replace q136 := eq_true q136
                                    go_wp2
                                    go_ret
                                    exact ⟨by first | rfl | (simp [errW_none, errW_some] <;> rfl) | (simp [*, errW_none, errW_some] <;> rfl), by repeat (first | (with_reducible first | exact HB.out | apply below_alloc | apply pw_below_drewN | apply below_drew1) | exact HB.out)⟩
                                  · replace c45 := Bool.eq_false_iff.mpr c45
                                    subst c45
                                    have H1 : (budwoodlaw07_AllocRoom.l0 k3 l0 (wrap64 (1 + (Int.tmod (wrap64 (a1)) 20))) t127 (wrap64 (x8_2 + 1))) = some r := by rw [if_neg (show ¬ (false = true) by decide)] at H; exact H
                                    clear H
                                    have H := H1
                                    clear H1
                                    have H' := Aside0.mk H
                                    clear H
                                    have p136 : 0 ≤ (x8_2 : Int) := of_decide_eq_true (by first | (with_reducible assumption) | assumption)
                                    have q136 : x8_2 < (l0.length : Int) := of_decide_eq_true (by first | (with_reducible assumption) | assumption)
                                    obtain ⟨ad136, e136, hx136_0⟩ := Kd.at_bool HR0.out x8_2 p136 q136
                                    (try rw [← Nbq44.out] at hx136_0)
                                    cases e136
                                    replace hx136_0 := (HB.out.cell (World.block_lt_of_cell? w _ hx136_0)).trans hx136_0
                                    replace p136 := eq_true p136
                                    replace q136 := eq_true q136
                                    go_wp2
                                    go_roundg k3
                                    case measure => have := HJ11.out; have := HK2.out; have := HK3.out; omega
                                    case rel => exact ⟨(wrap64 (x8_2 + 1)), (by first | rfl | (simp; done) | (simp [*]; done)), H', ⟨by have := HJ11.out; have := HK2.out; have := HK3.out; omega⟩, ⟨by repeat (first | (with_reducible first | exact HB.out | apply below_alloc | apply pw_below_drewN | apply below_drew1) | exact HB.out)⟩⟩
                                · rw [if_neg c43] at H
                                  exact absurd H (by simp)
                              · rw [if_neg c42] at H
                                exact absurd H (by simp)
                            · rw [if_neg c41] at H
                              have c41b0 : decide (t127 ≤ x8_2) = false := decide_eq_false c41
                              clear c41
                              have H' := Aside0.mk H
                              clear H
                              go_wp2
                              go_roundg k3
                              case measure => have := HJ11.out; have := HK2.out; have := HK3.out; omega
                              case rel => exact ⟨(wrap64 (x8_2 + 1)), (by first | rfl | (simp; done) | (simp [*]; done)), H', ⟨by have := HJ11.out; have := HK2.out; have := HK3.out; omega⟩, ⟨by repeat (first | (with_reducible first | exact HB.out | apply below_alloc | apply pw_below_drewN | apply below_drew1) | exact HB.out)⟩⟩
                  · rw [if_neg c17] at H
                    have c17b0 : decide (x8_2 < (wrap64 (t127 + (wrap64 (1 + (Int.tmod (wrap64 (a1)) 20)))))) = false := decide_eq_false c17
                    clear c17
                    replace H := Option.bind_eq_some_iff.mp H
                    obtain ⟨t131, A460, H⟩ := H
                    replace H : (some t131) = some r := H
                    have A46 := Aside0.mk A460
                    clear A460
                    obtain rfl := Option.some.inj H
                    go_wp2_with (first | ((with_reducible refine gate_callee (f := 9) rfl ?_); refine goesL_ (some 99) rfl rfl Try.func9 (by kernel_rfl) rfl #[] rfl (by (try simp only [List.map_toArray, List.map_cons, List.map_nil]); first | done | rfl | (simp only [List.length_drop, List.length_take]; rfl)) ?_; (with_reducible refine (budwoodlaw07_awake.calls  t131 _ A46.out).mono ?_); rintro e w47 ⟨rfl, hb⟩; refine ⟨_, rfl, ?_⟩; have n0_ := Aside0.mk (below_step (by repeat (first | (with_reducible first | exact HB.out | apply below_alloc | apply pw_below_drewN | apply below_drew1) | exact HB.out)) hb); clear HB; have HB := n0_; clear n0_; (try clear hb); (try clear hb2); (try clear hk); (try clear hi)))
                    go_ret
                    exact ⟨by first | rfl | (simp [errW_none, errW_some] <;> rfl) | (simp [*, errW_none, errW_some] <;> rfl), by repeat (first | (with_reducible first | exact HB.out | apply below_alloc | apply pw_below_drewN | apply below_drew1) | exact HB.out)⟩
      · rw [if_neg c11] at H
        have c11b0 : (t128 == 0) = false := beq_eq_false_iff_ne.mpr c11
        have c11b1 : (t128 != 0) = true := bne_iff_ne.mpr c11
        have hdx : decide ((wrap64 (1 + (Int.tmod (wrap64 (a1)) 20))) ≤ t129) = false := by have q := c8b0; rw [c11b0] at q; simpa using q
        by_cases c48 : t127 = 0
        · rw [if_pos c48] at H
          have c48b0 : (t127 == 0) = true := beq_iff_eq.mpr c48
          have c48b1 : (t127 != 0) = false := bne_eq_false_iff_eq.mpr c48
          clear c48
          by_cases c49 : t128 = 7
          · rw [if_pos c49] at H
            have c49b0 : (t128 == 7) = true := beq_iff_eq.mpr c49
            have c49b1 : (t128 != 7) = false := bne_eq_false_iff_eq.mpr c49
            clear c49
            replace H := Option.bind_eq_some_iff.mp H
            obtain ⟨t130, A500, H⟩ := H
            replace H : (some t130) = some r := H
            have A50 := Aside0.mk A500
            clear A500
            obtain rfl := Option.some.inj H
            go_enter Try.func4, Try.ntmps4
            go_wp2_with (first | ((with_reducible refine gate_callee (f := 10) rfl ?_); refine goesL_ (some 22) rfl rfl Try.func10 (by kernel_rfl) rfl #[.slice A0 l0.length c0, .int .i64 (wrap64 (1 + (Int.tmod (wrap64 (a1)) 20)))] rfl (by (try simp only [List.map_toArray, List.map_cons, List.map_nil]); first | done | rfl | (simp only [List.length_drop, List.length_take]; rfl)) ?_; (with_reducible refine (alloc_Find.calls _ _ l0 (wrap64 (1 + (Int.tmod (wrap64 (a1)) 20))) t127 t128 _ ?side1 ?side2 A6.out).mono ?_); (case side1 => repeat (first | exact HR0.out | (with_reducible refine Kd.C_alloc ?_ _) | (with_reducible refine Kd.C_drewN ?_ _) | (with_reducible refine Kd.C_drew ?_))); (case side2 => exact HC0.out); rintro e w51 ⟨rfl, hb⟩; refine ⟨_, rfl, ?_⟩; have n0_ := Aside0.mk (below_step (by repeat (first | (with_reducible first | exact HB.out | apply below_alloc | apply pw_below_drewN | apply below_drew1) | exact HB.out)) hb); clear HB; have HB := n0_; clear n0_; (try clear hb); (try clear hb2); (try clear hk); (try clear hi)) | ((with_reducible refine gate_callee (f := 13) rfl ?_); refine goesL_ (some 28) rfl rfl Try.func13 (by kernel_rfl) rfl #[.slice A0 l0.length c0] rfl (by (try simp only [List.map_toArray, List.map_cons, List.map_nil]); first | done | rfl | (simp only [List.length_drop, List.length_take]; rfl)) ?_; (with_reducible refine (alloc_Longest.calls _ _ l0 t129 _ ?side1 ?side2 A7.out).mono ?_); (case side1 => repeat (first | exact (Kd.C_below HR0.out HB.out) | (with_reducible refine Kd.C_alloc ?_ _) | (with_reducible refine Kd.C_drewN ?_ _) | (with_reducible refine Kd.C_drew ?_))); (case side2 => exact HC0.out); rintro e w52 ⟨rfl, hb⟩; refine ⟨_, rfl, ?_⟩; have n0_ := Aside0.mk (below_step (by repeat (first | (with_reducible first | exact HB.out | apply below_alloc | apply pw_below_drewN | apply below_drew1) | exact HB.out)) hb); clear HB; have HB := n0_; clear n0_; (try clear hb); (try clear hb2); (try clear hk); (try clear hi)) | (go_at_call 9; (with_reducible refine (budwoodlaw07_awake.calls  t130 _ A50.out).mono ?_); rintro e w53 ⟨rfl, hb⟩; have n0_ := Aside0.mk (below_step (by repeat (first | (with_reducible first | exact HB.out | apply below_alloc | apply pw_below_drewN | apply below_drew1) | exact HB.out)) hb); clear HB; have HB := n0_; clear n0_; (try clear hb); (try clear hb2); (try clear hk); (try clear hi)))
            go_ret
            exact ⟨by first | rfl | (simp [errW_none, errW_some] <;> rfl) | (simp [*, errW_none, errW_some] <;> rfl), by repeat (first | (with_reducible first | exact HB.out | apply below_alloc | apply pw_below_drewN | apply below_drew1) | exact HB.out)⟩
          · rw [if_neg c49] at H
            have c49b0 : (t128 == 7) = false := beq_eq_false_iff_ne.mpr c49
            have c49b1 : (t128 != 7) = true := bne_iff_ne.mpr c49
            obtain rfl := Option.some.inj H
            go_enter Try.func4, Try.ntmps4
            go_wp2_with (first | ((with_reducible refine gate_callee (f := 10) rfl ?_); refine goesL_ (some 22) rfl rfl Try.func10 (by kernel_rfl) rfl #[.slice A0 l0.length c0, .int .i64 (wrap64 (1 + (Int.tmod (wrap64 (a1)) 20)))] rfl (by (try simp only [List.map_toArray, List.map_cons, List.map_nil]); first | done | rfl | (simp only [List.length_drop, List.length_take]; rfl)) ?_; (with_reducible refine (alloc_Find.calls _ _ l0 (wrap64 (1 + (Int.tmod (wrap64 (a1)) 20))) t127 t128 _ ?side1 ?side2 A6.out).mono ?_); (case side1 => repeat (first | exact HR0.out | (with_reducible refine Kd.C_alloc ?_ _) | (with_reducible refine Kd.C_drewN ?_ _) | (with_reducible refine Kd.C_drew ?_))); (case side2 => exact HC0.out); rintro e w54 ⟨rfl, hb⟩; refine ⟨_, rfl, ?_⟩; have n0_ := Aside0.mk (below_step (by repeat (first | (with_reducible first | exact HB.out | apply below_alloc | apply pw_below_drewN | apply below_drew1) | exact HB.out)) hb); clear HB; have HB := n0_; clear n0_; (try clear hb); (try clear hb2); (try clear hk); (try clear hi)) | ((with_reducible refine gate_callee (f := 13) rfl ?_); refine goesL_ (some 28) rfl rfl Try.func13 (by kernel_rfl) rfl #[.slice A0 l0.length c0] rfl (by (try simp only [List.map_toArray, List.map_cons, List.map_nil]); first | done | rfl | (simp only [List.length_drop, List.length_take]; rfl)) ?_; (with_reducible refine (alloc_Longest.calls _ _ l0 t129 _ ?side1 ?side2 A7.out).mono ?_); (case side1 => repeat (first | exact (Kd.C_below HR0.out HB.out) | (with_reducible refine Kd.C_alloc ?_ _) | (with_reducible refine Kd.C_drewN ?_ _) | (with_reducible refine Kd.C_drew ?_))); (case side2 => exact HC0.out); rintro e w55 ⟨rfl, hb⟩; refine ⟨_, rfl, ?_⟩; have n0_ := Aside0.mk (below_step (by repeat (first | (with_reducible first | exact HB.out | apply below_alloc | apply pw_below_drewN | apply below_drew1) | exact HB.out)) hb); clear HB; have HB := n0_; clear n0_; (try clear hb); (try clear hb2); (try clear hk); (try clear hi)))
            go_ret
            exact ⟨by first | rfl | (simp [errW_none, errW_some] <;> rfl) | (simp [*, errW_none, errW_some] <;> rfl), by repeat (first | (with_reducible first | exact HB.out | apply below_alloc | apply pw_below_drewN | apply below_drew1) | exact HB.out)⟩
        · rw [if_neg c48] at H
          have c48b0 : (t127 == 0) = false := beq_eq_false_iff_ne.mpr c48
          have c48b1 : (t127 != 0) = true := bne_iff_ne.mpr c48
          obtain rfl := Option.some.inj H
          go_enter Try.func4, Try.ntmps4
          go_wp2_with (first | ((with_reducible refine gate_callee (f := 10) rfl ?_); refine goesL_ (some 22) rfl rfl Try.func10 (by kernel_rfl) rfl #[.slice A0 l0.length c0, .int .i64 (wrap64 (1 + (Int.tmod (wrap64 (a1)) 20)))] rfl (by (try simp only [List.map_toArray, List.map_cons, List.map_nil]); first | done | rfl | (simp only [List.length_drop, List.length_take]; rfl)) ?_; (with_reducible refine (alloc_Find.calls _ _ l0 (wrap64 (1 + (Int.tmod (wrap64 (a1)) 20))) t127 t128 _ ?side1 ?side2 A6.out).mono ?_); (case side1 => repeat (first | exact HR0.out | (with_reducible refine Kd.C_alloc ?_ _) | (with_reducible refine Kd.C_drewN ?_ _) | (with_reducible refine Kd.C_drew ?_))); (case side2 => exact HC0.out); rintro e w56 ⟨rfl, hb⟩; refine ⟨_, rfl, ?_⟩; have n0_ := Aside0.mk (below_step (by repeat (first | (with_reducible first | exact HB.out | apply below_alloc | apply pw_below_drewN | apply below_drew1) | exact HB.out)) hb); clear HB; have HB := n0_; clear n0_; (try clear hb); (try clear hb2); (try clear hk); (try clear hi)) | ((with_reducible refine gate_callee (f := 13) rfl ?_); refine goesL_ (some 28) rfl rfl Try.func13 (by kernel_rfl) rfl #[.slice A0 l0.length c0] rfl (by (try simp only [List.map_toArray, List.map_cons, List.map_nil]); first | done | rfl | (simp only [List.length_drop, List.length_take]; rfl)) ?_; (with_reducible refine (alloc_Longest.calls _ _ l0 t129 _ ?side1 ?side2 A7.out).mono ?_); (case side1 => repeat (first | exact (Kd.C_below HR0.out HB.out) | (with_reducible refine Kd.C_alloc ?_ _) | (with_reducible refine Kd.C_drewN ?_ _) | (with_reducible refine Kd.C_drew ?_))); (case side2 => exact HC0.out); rintro e w57 ⟨rfl, hb⟩; refine ⟨_, rfl, ?_⟩; have n0_ := Aside0.mk (below_step (by repeat (first | (with_reducible first | exact HB.out | apply below_alloc | apply pw_below_drewN | apply below_drew1) | exact HB.out)) hb); clear HB; have HB := n0_; clear n0_; (try clear hb); (try clear hb2); (try clear hk); (try clear hi)))
          go_ret
          exact ⟨by first | rfl | (simp [errW_none, errW_some] <;> rfl) | (simp [*, errW_none, errW_some] <;> rfl), by repeat (first | (with_reducible first | exact HB.out | apply below_alloc | apply pw_below_drewN | apply below_drew1) | exact HB.out)⟩

end Go.Proofs.Ytiobbceadcgohaa.PB
