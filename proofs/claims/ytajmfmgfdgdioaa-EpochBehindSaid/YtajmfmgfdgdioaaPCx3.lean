-- The walks of single Go functions, laid by a program (ppx.py over the kit's print.py).
import Derived.Test.YtajmfmgfdgdioaaX
import Derived.Test.YtajmfmgfdgdioaaPCx0
namespace Go.Proofs.Ytajmfmgfdgdioaa.PC
open Go.Proofs.Ytajmfmgfdgdioaa.X
open Go.RowKit Go.Proofs.YtajmfmgfdgdioaaW.PrintWords Go.Proofs.YtajmfmgfdgdioaaW.PrintLast Go.Proofs.YtajmfmgfdgdioaaW.PrintMore
attribute [local go_sem] max2_int min2_int max_two min_two max_three min_three max_four min_four   -- for this text's walks alone
set_option linter.unusedVariables false
set_option linter.unusedSimpArgs false

/-! ### budwoodref17_Least: function 9 -/
def budwoodref17_Least.l0 : Nat → List (S59) → Int → Bool → Int → Option (Int × Bool)
  | 0, _, _, _, _ => none
  | k + 1, x0, x4, x5, x6 => if x6 < (x0.length : Int) then (if 0 ≤ x6 then (if ((rd_T59 x0 x6).f3) = 0 then (if x5 = true then (if ((rd_T59 x0 x6).f4) < x4 then (budwoodref17_Least.l0 k x0 ((rd_T59 x0 x6).f4) true (wrap64 (x6 + 1))) else (budwoodref17_Least.l0 k x0 x4 x5 (wrap64 (x6 + 1)))) else (budwoodref17_Least.l0 k x0 ((rd_T59 x0 x6).f4) true (wrap64 (x6 + 1)))) else (budwoodref17_Least.l0 k x0 x4 x5 (wrap64 (x6 + 1)))) else (none)) else (some (x4, x5))
def budwoodref17_Least.f (k : Nat) (l0 : List (S59)) : Option (Int × Bool) := budwoodref17_Least.l0 k l0 0 false 0
theorem budwoodref17_Least.mono_l : ∀ k, (∀ y0 y1 y2 y3, LeO (budwoodref17_Least.l0 k y0 y1 y2 y3) (budwoodref17_Least.l0 (k + 1) y0 y1 y2 y3))
  | 0 => fun _ _ _ _ r h => by simp [budwoodref17_Least.l0] at h
  | k + 1 => by
    have ih0 := budwoodref17_Least.mono_l k
    · intro y0 y1 y2 y3
      unfold budwoodref17_Least.l0
      repeat' first
      | (with_reducible exact ih0 _ _ _ _)
      | (with_reducible exact LeO.refl _)
      | (with_reducible exact LeO.none _)
      | (with_reducible refine LeO.ite ?_ ?_)
      | (with_reducible refine LeO.bind ?_ (fun _ => ?_))
      | exact ih0 _ _ _ _
      | exact LeO.none _
      | refine LeO.ite ?_ ?_
      | refine LeO.bind ?_ (fun _ => ?_)
theorem budwoodref17_Least.mono : ∀ a0 k, LeO (budwoodref17_Least.f k a0) (budwoodref17_Least.f (k + 1) a0) := by
  intro a0 k
  have ih0 := budwoodref17_Least.mono_l k
  unfold budwoodref17_Least.f
  repeat' first
      | (with_reducible exact ih0 _ _ _ _)
      | (with_reducible exact LeO.refl _)
      | (with_reducible exact LeO.none _)
      | (with_reducible refine LeO.ite ?_ ?_)
      | (with_reducible refine LeO.bind ?_ (fun _ => ?_))
      | exact ih0 _ _ _ _
      | exact LeO.none _
      | refine LeO.ite ?_ ?_
      | refine LeO.bind ?_ (fun _ => ?_)
set_option maxHeartbeats 8000000 in
set_option maxRecDepth 100000 in
theorem budwoodref17_Least.calls (k : Nat) (A0 : Option Addr) (c0 : Nat) (l0 : List (S59)) (r1 : Int) (r2 : Bool) (w : World) (hr0 : Kd.C k59 w A0 l0.length l0) (hc0 : l0.length ≤ c0) (h : budwoodref17_Least.f k l0 = some (r1, r2)) :
    Calls Try.prog 9 #[.slice A0 l0.length c0] w fun e w' => e = .returned (.tuple #[.int .u64 r1, .bool r2]) ∧ Drawn0 w w' := by
  have HR0 := Aside0.mk hr0
  have HC0 := Aside0.mk hc0
  clear hr0 hc0
  have H : (budwoodref17_Least.l0 k l0 0 false 0) = some (r1, r2) := h
  clear h
  have H' := Aside0.mk H
  clear H
  go_enter Try.func9, Try.ntmps9
  go_wp2
  go_loopg [4, 5, 6] k (fun kq v4 v5 v6 w' => ∃ (x4_1 : Int) (x5_1 : Bool) (x6_1 : Int), v4 = .int .u64 x4_1 ∧ v5 = .bool x5_1 ∧ v6 = .int .i64 x6_1 ∧ Aside0 (budwoodref17_Least.l0 kq l0 x4_1 x5_1 x6_1 = some (r1, r2)) ∧ Aside0 (kq ≤ k) ∧ Drawn0 w w')
  case atStart => exact ⟨(0), (false), (0), (by first | rfl | (simp; done) | (simp [*]; done)), (by first | rfl | (simp; done) | (simp [*]; done)), (by first | rfl | (simp; done) | (simp [*]; done)), H', ⟨Nat.le_refl _⟩, by repeat (first | exact Drawn0.refl _ | apply Drawn0.step)⟩
  case round =>
    clear H'
    obtain ⟨x4_1, x5_1, x6_1, rfl, rfl, rfl, HA, HK1, ⟨m1, rfl⟩⟩ := hrel
    cases gk with
    | zero => exact absurd HA.out (by simp [budwoodref17_Least.l0])
    | succ k1 =>
      have H := HA.out
      clear HA
      simp only [budwoodref17_Least.l0] at H
      by_cases c2 : x6_1 < (l0.length : Int)
      · rw [if_pos c2] at H
        have c2b0 : decide (x6_1 < (l0.length : Int)) = true := decide_eq_true c2
        clear c2
        by_cases c3 : 0 ≤ x6_1
        · rw [if_pos c3] at H
          have c3b0 : decide (0 ≤ x6_1) = true := decide_eq_true c3
          clear c3
          by_cases c4 : ((rd_T59 l0 x6_1).f3) = 0
          · rw [if_pos c4] at H
            have c4b0 : (((rd_T59 l0 x6_1).f3) == 0) = true := beq_iff_eq.mpr c4
            have c4b1 : (((rd_T59 l0 x6_1).f3) != 0) = false := bne_eq_false_iff_eq.mpr c4
            clear c4
            by_cases c5 : x5_1 = true
            · subst c5
              have H1 : (if ((rd_T59 l0 x6_1).f4) < x4_1 then (budwoodref17_Least.l0 k1 l0 ((rd_T59 l0 x6_1).f4) true (wrap64 (x6_1 + 1))) else (budwoodref17_Least.l0 k1 l0 x4_1 true (wrap64 (x6_1 + 1)))) = some (r1, r2) := by rw [if_pos rfl] at H; exact H
              clear H
              have H := H1
              clear H1
              by_cases c6 : ((rd_T59 l0 x6_1).f4) < x4_1
              · rw [if_pos c6] at H
                have c6b0 : decide (((rd_T59 l0 x6_1).f4) < x4_1) = true := decide_eq_true c6
                clear c6
                have H' := Aside0.mk H
                clear H
                have p146 : 0 ≤ (x6_1 : Int) := of_decide_eq_true (by first | (with_reducible assumption) | assumption)
                have q146 : x6_1 < (l0.length : Int) := of_decide_eq_true (by first | (with_reducible assumption) | assumption)
                obtain ⟨ad146, A146_9, c146_9, e146, hx146_0, hx146_1, hx146_2, hx146_3, hx146_4, hx146_5, hx146_6, hx146_7, hx146_8, hx146_9, hx146_10, hx146_11, hx146_12, hl146_9, hi146_9⟩ := at_T59 HR0.out x6_1 p146 q146
                cases e146
                have HR146_9 := Aside0.mk hi146_9
                have HC146_9 := Aside0.mk hl146_9
                clear hi146_9 hl146_9
                replace p146 := eq_true p146
                replace q146 := eq_true q146
                have p147 : 0 ≤ (x6_1 : Int) := of_decide_eq_true (by first | (with_reducible assumption) | assumption)
                have q147 : x6_1 < (l0.length : Int) := of_decide_eq_true (by first | (with_reducible assumption) | assumption)
                obtain ⟨ad147, A147_9, c147_9, e147, hx147_0, hx147_1, hx147_2, hx147_3, hx147_4, hx147_5, hx147_6, hx147_7, hx147_8, hx147_9, hx147_10, hx147_11, hx147_12, hl147_9, hi147_9⟩ := at_T59 HR0.out x6_1 p147 q147
                obtain rfl : ad146 = ad147 := (by injection e147)
                have HR147_9 := Aside0.mk hi147_9
                have HC147_9 := Aside0.mk hl147_9
                clear hi147_9 hl147_9
                replace p147 := eq_true p147
                replace q147 := eq_true q147
                have ea_ := Option.some.inj (hx146_9.symm.trans hx147_9)
                injection ea_ with ea_ en_ ec_
                subst ea_
                subst ec_
                clear en_
                have p148 : 0 ≤ (x6_1 : Int) := of_decide_eq_true (by first | (with_reducible assumption) | assumption)
                have q148 : x6_1 < (l0.length : Int) := of_decide_eq_true (by first | (with_reducible assumption) | assumption)
                obtain ⟨ad148, A148_9, c148_9, e148, hx148_0, hx148_1, hx148_2, hx148_3, hx148_4, hx148_5, hx148_6, hx148_7, hx148_8, hx148_9, hx148_10, hx148_11, hx148_12, hl148_9, hi148_9⟩ := at_T59 HR0.out x6_1 p148 q148
                obtain rfl : ad146 = ad148 := (by injection e148)
                have HR148_9 := Aside0.mk hi148_9
                have HC148_9 := Aside0.mk hl148_9
                clear hi148_9 hl148_9
                replace p148 := eq_true p148
                replace q148 := eq_true q148
                have ea_ := Option.some.inj (hx146_9.symm.trans hx148_9)
                injection ea_ with ea_ en_ ec_
                subst ea_
                subst ec_
                clear en_
                go_wp2
                go_roundg k1
                case measure => have := HK1.out; omega
                case rel => exact ⟨((rd_T59 l0 x6_1).f4), (true), (wrap64 (x6_1 + 1)), (by first | rfl | (simp; done) | (simp [*]; done)), (by first | rfl | (simp; done) | (simp [*]; done)), (by first | rfl | (simp; done) | (simp [*]; done)), H', ⟨by have := HK1.out; omega⟩, by repeat (first | exact Drawn0.refl _ | apply Drawn0.step)⟩
              · rw [if_neg c6] at H
                have c6b0 : decide (((rd_T59 l0 x6_1).f4) < x4_1) = false := decide_eq_false c6
                clear c6
                have H' := Aside0.mk H
                clear H
                have p146 : 0 ≤ (x6_1 : Int) := of_decide_eq_true (by first | (with_reducible assumption) | assumption)
                have q146 : x6_1 < (l0.length : Int) := of_decide_eq_true (by first | (with_reducible assumption) | assumption)
                obtain ⟨ad146, A146_9, c146_9, e146, hx146_0, hx146_1, hx146_2, hx146_3, hx146_4, hx146_5, hx146_6, hx146_7, hx146_8, hx146_9, hx146_10, hx146_11, hx146_12, hl146_9, hi146_9⟩ := at_T59 HR0.out x6_1 p146 q146
                cases e146
                have HR146_9 := Aside0.mk hi146_9
                have HC146_9 := Aside0.mk hl146_9
                clear hi146_9 hl146_9
                replace p146 := eq_true p146
                replace q146 := eq_true q146
                have p147 : 0 ≤ (x6_1 : Int) := of_decide_eq_true (by first | (with_reducible assumption) | assumption)
                have q147 : x6_1 < (l0.length : Int) := of_decide_eq_true (by first | (with_reducible assumption) | assumption)
                obtain ⟨ad147, A147_9, c147_9, e147, hx147_0, hx147_1, hx147_2, hx147_3, hx147_4, hx147_5, hx147_6, hx147_7, hx147_8, hx147_9, hx147_10, hx147_11, hx147_12, hl147_9, hi147_9⟩ := at_T59 HR0.out x6_1 p147 q147
                obtain rfl : ad146 = ad147 := (by injection e147)
                have HR147_9 := Aside0.mk hi147_9
                have HC147_9 := Aside0.mk hl147_9
                clear hi147_9 hl147_9
                replace p147 := eq_true p147
                replace q147 := eq_true q147
                have ea_ := Option.some.inj (hx146_9.symm.trans hx147_9)
                injection ea_ with ea_ en_ ec_
                subst ea_
                subst ec_
                clear en_
                go_wp2
                go_roundg k1
                case measure => have := HK1.out; omega
                case rel => exact ⟨(x4_1), (true), (wrap64 (x6_1 + 1)), (by first | rfl | (simp; done) | (simp [*]; done)), (by first | rfl | (simp; done) | (simp [*]; done)), (by first | rfl | (simp; done) | (simp [*]; done)), H', ⟨by have := HK1.out; omega⟩, by repeat (first | exact Drawn0.refl _ | apply Drawn0.step)⟩
            · replace c5 := Bool.eq_false_iff.mpr c5
              subst c5
              have H1 : (budwoodref17_Least.l0 k1 l0 ((rd_T59 l0 x6_1).f4) true (wrap64 (x6_1 + 1))) = some (r1, r2) := by rw [if_neg (show ¬ (false = true) by decide)] at H; exact H
              clear H
              have H := H1
              clear H1
              have H' := Aside0.mk H
              clear H
              have p146 : 0 ≤ (x6_1 : Int) := of_decide_eq_true (by first | (with_reducible assumption) | assumption)
              have q146 : x6_1 < (l0.length : Int) := of_decide_eq_true (by first | (with_reducible assumption) | assumption)
              obtain ⟨ad146, A146_9, c146_9, e146, hx146_0, hx146_1, hx146_2, hx146_3, hx146_4, hx146_5, hx146_6, hx146_7, hx146_8, hx146_9, hx146_10, hx146_11, hx146_12, hl146_9, hi146_9⟩ := at_T59 HR0.out x6_1 p146 q146
              cases e146
              have HR146_9 := Aside0.mk hi146_9
              have HC146_9 := Aside0.mk hl146_9
              clear hi146_9 hl146_9
              replace p146 := eq_true p146
              replace q146 := eq_true q146
              have p149 : 0 ≤ (x6_1 : Int) := of_decide_eq_true (by first | (with_reducible assumption) | assumption)
              have q149 : x6_1 < (l0.length : Int) := of_decide_eq_true (by first | (with_reducible assumption) | assumption)
              obtain ⟨ad149, A149_9, c149_9, e149, hx149_0, hx149_1, hx149_2, hx149_3, hx149_4, hx149_5, hx149_6, hx149_7, hx149_8, hx149_9, hx149_10, hx149_11, hx149_12, hl149_9, hi149_9⟩ := at_T59 HR0.out x6_1 p149 q149
              obtain rfl : ad146 = ad149 := (by injection e149)
              have HR149_9 := Aside0.mk hi149_9
              have HC149_9 := Aside0.mk hl149_9
              clear hi149_9 hl149_9
              replace p149 := eq_true p149
              replace q149 := eq_true q149
              have ea_ := Option.some.inj (hx146_9.symm.trans hx149_9)
              injection ea_ with ea_ en_ ec_
              subst ea_
              subst ec_
              clear en_
              go_wp2
              go_roundg k1
              case measure => have := HK1.out; omega
              case rel => exact ⟨((rd_T59 l0 x6_1).f4), (true), (wrap64 (x6_1 + 1)), (by first | rfl | (simp; done) | (simp [*]; done)), (by first | rfl | (simp; done) | (simp [*]; done)), (by first | rfl | (simp; done) | (simp [*]; done)), H', ⟨by have := HK1.out; omega⟩, by repeat (first | exact Drawn0.refl _ | apply Drawn0.step)⟩
          · rw [if_neg c4] at H
            have c4b0 : (((rd_T59 l0 x6_1).f3) == 0) = false := beq_eq_false_iff_ne.mpr c4
            have c4b1 : (((rd_T59 l0 x6_1).f3) != 0) = true := bne_iff_ne.mpr c4
            have H' := Aside0.mk H
            clear H
            have p146 : 0 ≤ (x6_1 : Int) := of_decide_eq_true (by first | (with_reducible assumption) | assumption)
            have q146 : x6_1 < (l0.length : Int) := of_decide_eq_true (by first | (with_reducible assumption) | assumption)
            obtain ⟨ad146, A146_9, c146_9, e146, hx146_0, hx146_1, hx146_2, hx146_3, hx146_4, hx146_5, hx146_6, hx146_7, hx146_8, hx146_9, hx146_10, hx146_11, hx146_12, hl146_9, hi146_9⟩ := at_T59 HR0.out x6_1 p146 q146
            cases e146
            have HR146_9 := Aside0.mk hi146_9
            have HC146_9 := Aside0.mk hl146_9
            clear hi146_9 hl146_9
            replace p146 := eq_true p146
            replace q146 := eq_true q146
            go_wp2
            go_roundg k1
            case measure => have := HK1.out; omega
            case rel => exact ⟨(x4_1), (x5_1), (wrap64 (x6_1 + 1)), (by first | rfl | (simp; done) | (simp [*]; done)), (by first | rfl | (simp; done) | (simp [*]; done)), (by first | rfl | (simp; done) | (simp [*]; done)), H', ⟨by have := HK1.out; omega⟩, by repeat (first | exact Drawn0.refl _ | apply Drawn0.step)⟩
        · rw [if_neg c3] at H
          exact absurd H (by simp)
      · rw [if_neg c2] at H
        have c2b0 : decide (x6_1 < (l0.length : Int)) = false := decide_eq_false c2
        clear c2
        simp only [Option.some.injEq, Prod.mk.injEq] at H
        obtain ⟨rfl, rfl⟩ := H
        go_wp2
        go_ret2
        exact ⟨by first | rfl | (simp; done) | (simp [*]; done), by repeat (first | exact Drawn0.refl _ | apply Drawn0.step)⟩

-- NOT PRINTED: function 3 (budwoodlaw17_EpochLeasts)

-- NOT PRINTED: function 5 (budwoodlaw17_EpochBehind)

end Go.Proofs.Ytajmfmgfdgdioaa.PC
