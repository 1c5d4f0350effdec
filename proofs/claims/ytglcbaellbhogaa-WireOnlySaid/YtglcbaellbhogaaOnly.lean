/- The walk of WireOnly. -/
import Derived.Test.YtglcbaellbhogaaPure4
import Derived.Test.YtglcbaellbhogaaAwake
import Derived.Test.YtglcbaellbhogaaRefR2
namespace Go.Proofs.Ytglcbaellbhogaa.Only
open Go.RowKit Go.Proofs.Ytglcbaellbhogaa.Sep Go.Proofs.YtglcbaellbhogaaW.PrintWords Go.Proofs.YtglcbaellbhogaaW.PrintLast Go.Proofs.YtglcbaellbhogaaW.PrintMore Go.Proofs.Ytglcbaellbhogaa.PB Go.Proofs.Ytglcbaellbhogaa.Reader Go.Proofs.Ytglcbaellbhogaa.Awake
open Go.Proofs.Ytglcbaellbhogaa.Pure1 Go.Proofs.Ytglcbaellbhogaa.Pure2 Go.Proofs.Ytglcbaellbhogaa.Pure4 Go.Proofs.Ytglcbaellbhogaa.RefR
set_option linter.unusedVariables false
set_option linter.unusedSimpArgs false

theorem vr_none {xs : List Int} {most : Int} : ∀ {k i : Nat} {nv : Int} {e r : Int}, vr xs most k i nv = (none, e, r) → e ≠ 0
  | 0, i, nv, e, r, h => by simp only [vr] at h; injection h with h1 h2; injection h2 with h2 h3; omega
  | k + 1, i, nv, e, r, h => by
    simp only [vr] at h
    cases hx : xs[i]? with
    | none => rw [hx] at h; simp at h; omega
    | some b =>
      rw [hx] at h
      simp only at h
      split at h
      · exact vr_none h
      · split at h
        · split at h
          · injection h with h1 h2; injection h2 with h2 h3; omega
          · injection h with h1 h2; cases h1
        · injection h with h1 h2; injection h2 with h2 h3; omega
theorem err_case (A : Option Addr) (xs : List Int) (c : Nat) (most : Int) (w : World) (hC : Kd.C (Kd.int .u8) w A xs.length xs) (hc : xs.length ≤ c) (e : Int) (he : (e != 0) = true) (hv : rVar xs 0 most = ([], e, 0)) :
    Calls Try.prog 4 #[.slice A xs.length c, .int .u32 most] w fun z w' => z = .returned (.bool true) ∧ Below w.heap.size w w' := by
  have HC := Aside0.mk hC
  have HCc := Aside0.mk hc
  have HV := Aside0.mk hv
  clear hC hc hv
  go_enter Try.func4, Try.ntmps4
  go_wp2_with (first
    | (go_at_call 11; refine (newR A xs c _ HC.out HCc.out).mono ?_; rintro z w1 ⟨rfl, hR, hB, hlt⟩; have HR := Aside0.mk hR; have HB := Aside0.mk hB; have HL := Aside0.mk (Nat.succ_le_of_lt hlt); clear hR hB hlt)
    | (go_at_call 12; refine (varR _ _ _ most _ HR.out).mono ?_; rw [HV.out]; rintro z w4 ⟨rfl, hR, hT⟩; have n0_ := Aside0.mk hR; have n1_ := Aside0.mk (HB.out.trans (Turn.below2 hT (Nat.le_refl _) HB.out.size)); clear HR HB hR hT; have HR := n0_; have HB := n1_; clear n0_ n1_)
    | (go_at_call 13; refine (errR _ _ _ _ HR.out).mono ?_; rintro z w5 ⟨rfl, rfl⟩)
    | (go_at_call 14; refine (leftR _ _ _ _ HR.out).mono ?_; rintro z w6 ⟨rfl, rfl⟩)
    | (go_at_call 10; refine (awake_calls _).mono ?_; rintro z w7 ⟨rfl, hB⟩; have n1_ := Aside0.mk (HB.out.trans (hB.mono HB.out.size)); clear HB hB; have HB := n1_; clear n1_))
  go_ret
  exact ⟨rfl, HB.out⟩
theorem good_case (A : Option Addr) (xs : List Int) (c : Nat) (most : Int) (w : World) (hC : Kd.C (Kd.int .u8) w A xs.length xs) (hc : xs.length ≤ c) (j : Nat) (n : Int) (hj : 1 ≤ j) (hjl : j ≤ xs.length) (hn : n ≤ most)
    (hv : rVar xs 0 most = (xs.drop j, 0, n)) (hw : wire_Var.f 5 n = some (xs.take j)) :
    Calls Try.prog 4 #[.slice A xs.length c, .int .u32 most] w fun z w' => z = .returned (.bool true) ∧ Below w.heap.size w w' := by
  have hm := hC.2.1
  have HC := Aside0.mk hC
  have HCc := Aside0.mk hc
  have HV := Aside0.mk hv
  have HW := Aside0.mk hw
  have hl : (xs.drop j).length = xs.length - j := List.length_drop
  have HD := Aside0.mk hl
  have hd1 : decide (n ≤ most) = true := decide_eq_true hn
  have hxj : ((xs.length : Int) - ((xs.length - j : Nat) : Int)) = (j : Int) := by omega
  have hd2 : decide ((1 : Int) ≤ (j : Int)) = true := decide_eq_true (by omega)
  have hd3 : decide (1 ≤ j) = true := decide_eq_true (by omega)
  have hd4 : decide (j ≤ xs.length) = true := decide_eq_true (by omega)
  have hd5 : decide ((j : Int) ≤ (xs.length : Int)) = true := decide_eq_true (by omega)
  clear hC hc hv hw hl
  go_enter Try.func4, Try.ntmps4
  go_wp2_with (first
    | (go_at_call 11; refine (newR A xs c _ HC.out HCc.out).mono ?_; rintro z w1 ⟨rfl, hR, hB, hlt⟩; have HR := Aside0.mk hR; have HB := Aside0.mk hB; have HL := Aside0.mk (Nat.succ_le_of_lt hlt); clear hR hB hlt)
    | (go_at_call 12; refine (varR _ _ _ most _ HR.out).mono ?_; rw [HV.out]; rintro z w4 ⟨rfl, hR, hT⟩; have n0_ := Aside0.mk hR; have n1_ := Aside0.mk (HB.out.trans (Turn.below2 hT (Nat.le_refl _) HB.out.size)); clear HR HB hR hT; have HR := n0_; have HB := n1_; clear n0_ n1_)
    | (go_at_call 13; refine (errR _ _ _ _ HR.out).mono ?_; rintro z w5 ⟨rfl, rfl⟩)
    | (go_at_call 14; refine (leftR _ _ _ _ HR.out).mono ?_; rw [HD.out]; rintro z w6 ⟨rfl, rfl⟩))
  have hlj : (xs.take j).length = j := by rw [List.length_take]; omega
  have HJ := Aside0.mk hlj
  clear hlj
  have hC6 : Kd.C (Kd.int .u8) w6 A j (xs.take j) := by have := Kd.C_take (Kd.C_below HC.out HB.out) hjl; rw [HJ.out] at this; exact this
  have HS6 := Aside0.mk hC6
  have q1 : (j : Int) ≤ (xs.length : Int) := by omega
  have q2 : (0 : Int) ≤ (j : Int) := by omega
  have q3 : j ≤ c := by have := HCc.out; omega
  have q4 : (j : Int) ≤ (c : Int) := by omega
  clear hC6
  refine start_ (n := 27) (S := fun w' => Sem.run Try.prog (convert 23 9 (Value.slice A j c)) w' = Result.ok (Value.string (strOfNums (xs.take j))) w') (ds := []) #[false, false, false, false, false, false, false, false, false, false, false, false, false, false, false, false, false, false, false, false, false, false, false, false, false, false, false] (by kernel_rfl) rfl rfl (Kd.C_string (P := Try.prog) (src := 23) (dst := 9) (e := 5) (c := c) Try.underlying23 Try.underlying5 Try.underlying9 (Kd.C_drew HS6.out)) (fun hHeld => ?_)
  refine pure_ (i := 0) (N := some 33) (v := ?_) (a' := ?_) #[true, false, false, false, false, false, false, false, false, false, false, false, false, false, false, false, false, false, false, false, false, false, false, false, false, false, false] rfl rfl (by kernel_rfl) (fun _ _ _ h => h) (Or.inl ⟨by rfl, ?_⟩) ?_ ?_
  rotate_left
  · intro w'
    go_simp
    with_reducible rfl
  rotate_left
  · simp only [Act.put, List.setIfInBounds_toArray, List.set_cons_zero, List.set_cons_succ, i64_w, i32_w]
    rfl
  refine pure_ (i := 1) (N := some 34) (v := ?_) (a' := ?_) #[true, true, false, false, false, false, false, false, false, false, false, false, false, false, false, false, false, false, false, false, false, false, false, false, false, false, false] rfl rfl (by kernel_rfl) (fun _ _ _ h => h) (Or.inl ⟨by rfl, ?_⟩) ?_ ?_
  rotate_left
  · intro w'
    go_simp
    with_reducible rfl
  rotate_left
  · simp only [Act.put, List.setIfInBounds_toArray, List.set_cons_zero, List.set_cons_succ, i64_w, i32_w]
    rfl
  refine pure_ (i := 2) (N := some 35) (v := ?_) (a' := ?_) #[true, true, true, false, false, false, false, false, false, false, false, false, false, false, false, false, false, false, false, false, false, false, false, false, false, false, false] rfl rfl (by kernel_rfl) (fun _ _ _ h => h) (Or.inl ⟨by rfl, ?_⟩) ?_ ?_
  rotate_left
  · intro w'
    go_simp
    with_reducible rfl
  rotate_left
  · simp only [Act.put, List.setIfInBounds_toArray, List.set_cons_zero, List.set_cons_succ, i64_w, i32_w]
    rfl
  refine pure_ (i := 3) (N := some 36) (v := ?_) (a' := ?_) #[true, true, true, true, false, false, false, false, false, false, false, false, false, false, false, false, false, false, false, false, false, false, false, false, false, false, false] rfl rfl (by kernel_rfl) (fun _ _ _ h => h) (Or.inl ⟨by rfl, ?_⟩) ?_ ?_
  rotate_left
  · intro w'
    go_simp
    with_reducible rfl
  rotate_left
  · simp only [Act.put, List.setIfInBounds_toArray, List.set_cons_zero, List.set_cons_succ, i64_w, i32_w]
    rfl
  refine pure_ (i := 4) (N := some 37) (v := ?_) (a' := ?_) #[true, true, true, true, true, false, false, false, false, false, false, false, false, false, false, false, false, false, false, false, false, false, false, false, false, false, false] rfl rfl (by kernel_rfl) (fun _ _ _ h => h) (Or.inl ⟨by rfl, ?_⟩) ?_ ?_
  rotate_left
  · intro w'
    go_simp
    with_reducible rfl
  rotate_left
  · simp only [Act.put, List.setIfInBounds_toArray, List.set_cons_zero, List.set_cons_succ, i64_w, i32_w]
    rfl
  refine pure_ (i := 5) (N := some 38) (v := ?_) (a' := ?_) #[true, true, true, true, true, true, false, false, false, false, false, false, false, false, false, false, false, false, false, false, false, false, false, false, false, false, false] rfl rfl (by kernel_rfl) (fun _ _ _ h => h) (Or.inl ⟨by rfl, ?_⟩) ?_ ?_
  rotate_left
  · intro w'
    go_simp
    with_reducible rfl
  rotate_left
  · simp only [Act.put, List.setIfInBounds_toArray, List.set_cons_zero, List.set_cons_succ, i64_w, i32_w]
    rfl
  refine pure_ (i := 6) (N := some 39) (v := ?_) (a' := ?_) #[true, true, true, true, true, true, true, false, false, false, false, false, false, false, false, false, false, false, false, false, false, false, false, false, false, false, false] rfl rfl (by kernel_rfl) (fun _ _ _ h => h) (Or.inl ⟨by rfl, ?_⟩) ?_ ?_
  rotate_left
  · intro w'
    go_simp
    with_reducible rfl
  rotate_left
  · simp only [Act.put, List.setIfInBounds_toArray, List.set_cons_zero, List.set_cons_succ, i64_w, i32_w]
    rfl
  refine pure_ (i := 7) (N := some 40) (v := ?_) (a' := ?_) #[true, true, true, true, true, true, true, true, false, false, false, false, false, false, false, false, false, false, false, false, false, false, false, false, false, false, false] rfl rfl (by kernel_rfl) (fun _ _ _ h => h) (Or.inl ⟨by rfl, ?_⟩) ?_ ?_
  rotate_left
  · intro w'
    go_simp
    with_reducible rfl
  rotate_left
  · simp only [Act.put, List.setIfInBounds_toArray, List.set_cons_zero, List.set_cons_succ, i64_w, i32_w]
    rfl
  refine pure_ (i := 8) (N := some 41) (v := ?_) (a' := ?_) #[true, true, true, true, true, true, true, true, true, false, false, false, false, false, false, false, false, false, false, false, false, false, false, false, false, false, false] rfl rfl (by kernel_rfl) (fun _ _ _ h => h) (Or.inl ⟨by rfl, ?_⟩) ?_ ?_
  rotate_left
  · intro w'
    go_simp
    with_reducible rfl
  rotate_left
  · simp only [Act.put, List.setIfInBounds_toArray, List.set_cons_zero, List.set_cons_succ, i64_w, i32_w]
    rfl
  refine pure_ (i := 9) (N := some 42) (v := ?_) (a' := ?_) #[true, true, true, true, true, true, true, true, true, true, false, false, false, false, false, false, false, false, false, false, false, false, false, false, false, false, false] rfl rfl (by kernel_rfl) (fun _ _ _ h => h) (Or.inl ⟨by rfl, ?_⟩) ?_ ?_
  rotate_left
  · intro w'
    go_simp
    with_reducible rfl
  rotate_left
  · simp only [Act.put, List.setIfInBounds_toArray, List.set_cons_zero, List.set_cons_succ, i64_w, i32_w]
    rfl
  refine pure_ (i := 10) (N := some 43) (v := ?_) (a' := ?_) #[true, true, true, true, true, true, true, true, true, true, true, false, false, false, false, false, false, false, false, false, false, false, false, false, false, false, false] rfl rfl (by kernel_rfl) (fun _ _ _ h => h) (Or.inl ⟨by rfl, ?_⟩) ?_ ?_
  rotate_left
  · intro w'
    go_simp
    with_reducible rfl
  rotate_left
  · simp only [Act.put, List.setIfInBounds_toArray, List.set_cons_zero, List.set_cons_succ, i64_w, i32_w]
    rfl
  refine pure_ (i := 11) (N := some 44) (v := ?_) (a' := ?_) #[true, true, true, true, true, true, true, true, true, true, true, true, false, false, false, false, false, false, false, false, false, false, false, false, false, false, false] rfl rfl (by kernel_rfl) (fun _ _ _ h => h) (Or.inl ⟨by rfl, ?_⟩) ?_ ?_
  rotate_left
  · intro w'
    go_simp
    with_reducible rfl
  rotate_left
  · simp only [Act.put, List.setIfInBounds_toArray, List.set_cons_zero, List.set_cons_succ, i64_w, i32_w]
    rfl
  refine pure_ (i := 12) (N := some 45) (v := ?_) (a' := ?_) #[true, true, true, true, true, true, true, true, true, true, true, true, true, false, false, false, false, false, false, false, false, false, false, false, false, false, false] rfl rfl (by kernel_rfl) (fun _ _ _ h => h) (Or.inl ⟨by rfl, ?_⟩) ?_ ?_
  rotate_left
  · intro w'
    go_simp
    with_reducible rfl
  rotate_left
  · simp only [Act.put, List.setIfInBounds_toArray, List.set_cons_zero, List.set_cons_succ, i64_w, i32_w]
    rfl
  refine pure_ (i := 13) (N := some 46) (v := ?_) (a' := ?_) #[true, true, true, true, true, true, true, true, true, true, true, true, true, true, false, false, false, false, false, false, false, false, false, false, false, false, false] rfl rfl (by kernel_rfl) (fun _ _ _ h => h) (Or.inl ⟨by rfl, ?_⟩) ?_ ?_
  rotate_left
  · intro w'
    go_simp
    with_reducible rfl
  rotate_left
  · simp only [Act.put, List.setIfInBounds_toArray, List.set_cons_zero, List.set_cons_succ, i64_w, i32_w]
    rfl
  refine pure_ (i := 14) (N := some 47) (v := ?_) (a' := ?_) #[true, true, true, true, true, true, true, true, true, true, true, true, true, true, true, false, false, false, false, false, false, false, false, false, false, false, false] rfl rfl (by kernel_rfl) (fun _ _ _ h => h) (Or.inl ⟨by rfl, ?_⟩) ?_ ?_
  rotate_left
  · intro w'
    go_simp
    with_reducible rfl
  rotate_left
  · simp only [Act.put, List.setIfInBounds_toArray, List.set_cons_zero, List.set_cons_succ, i64_w, i32_w]
    rfl
  refine pure_ (i := 17) (N := some 50) (v := ?_) (a' := ?_) #[true, true, true, true, true, true, true, true, true, true, true, true, true, true, true, false, false, true, false, false, false, false, false, false, false, false, false] rfl rfl (by kernel_rfl) (fun _ _ _ h => h) (Or.inl ⟨by rfl, ?_⟩) ?_ ?_
  rotate_left
  · intro w'
    go_simp
    with_reducible rfl
  rotate_left
  · simp only [Act.put, List.setIfInBounds_toArray, List.set_cons_zero, List.set_cons_succ, i64_w, i32_w]
    rfl
  refine pure_ (i := 18) (N := some 51) (v := ?_) (a' := ?_) #[true, true, true, true, true, true, true, true, true, true, true, true, true, true, true, false, false, true, true, false, false, false, false, false, false, false, false] rfl rfl (by kernel_rfl) (fun _ _ _ h => h) (Or.inl ⟨by rfl, ?_⟩) ?_ ?_
  rotate_left
  · intro w'
    go_simp
    with_reducible rfl
  rotate_left
  · simp only [Act.put, List.setIfInBounds_toArray, List.set_cons_zero, List.set_cons_succ, i64_w, i32_w]
    rfl
  refine pure_ (i := 19) (N := some 52) (v := ?_) (a' := ?_) #[true, true, true, true, true, true, true, true, true, true, true, true, true, true, true, false, false, true, true, true, false, false, false, false, false, false, false] rfl rfl (by kernel_rfl) (fun _ _ _ h => h) (Or.inl ⟨by rfl, ?_⟩) ?_ ?_
  rotate_left
  · intro w'
    go_simp
    with_reducible rfl
  rotate_left
  · simp only [Act.put, List.setIfInBounds_toArray, List.set_cons_zero, List.set_cons_succ, i64_w, i32_w]
    rfl
  refine take_ (i := 20) (N := some 53) (v := ?_) (a' := ?_) #[true, true, true, true, true, true, true, true, true, true, true, true, true, true, true, false, false, true, true, true, true, false, false, false, false, false, false] rfl rfl (by kernel_rfl) (fun _ _ _ h => h) (Or.inl ⟨by rfl, ?_⟩) hHeld ?_ ?_
  rotate_left
  · intro w' s0
    go_simp
    with_reducible rfl
  rotate_left
  · simp only [Act.put, List.setIfInBounds_toArray, List.set_cons_zero, List.set_cons_succ, i64_w, i32_w]
    rfl
  refine one_ (i := 15) (N := some 48) #[true, true, true, true, true, true, true, true, true, true, true, true, true, true, true, true, false, true, true, true, true, false, false, false, false, false, false] rfl rfl (by kernel_rfl) (by decide) (fun K hK => ?_)
  refine goes_ Try.func9 (by kernel_rfl) rfl #[.int .u32 n] (by rfl) rfl rfl (by simp only [List.map_toArray, List.map_cons, List.map_nil]; rfl) ?_
  with_reducible refine (wire_Var.calls 5 n _ _ HW.out).mono ?_
  rintro z w9 ⟨v, rfl, hR, hB⟩
  obtain ⟨A9, c9, rfl, _, hC9⟩ := Kd.R_reads hR
  rw [HJ.out] at hC9
  have hn9 := Kd.C_string (P := Try.prog) (src := 23) (dst := 9) (e := 5) (c := c9) Try.underlying23 Try.underlying5 Try.underlying9 hC9
  have HS9 := Aside0.mk (Kd.C_below (Kd.C_drew HS6.out) hB)
  have HB9 := Aside0.mk (HB.out.drew.trans (hB.mono HB.out.size))
  clear hB hR hC9
  rw [HJ.out]
  refine ⟨_, rfl, ?_⟩
  refine hK.out _ _ (Kd.C_string (P := Try.prog) (src := 23) (dst := 9) (e := 5) (c := c) Try.underlying23 Try.underlying5 Try.underlying9 (HS9.out)) (fun hHeld => ?_)
  clear hK K
  refine norm_ (a' := ?_) ?_ ?_
  rotate_left
  · show Act.put _ (some 48) _ = _
    simp only [Act.put, List.setIfInBounds_toArray, List.set_cons_zero, List.set_cons_succ, i64_w, i32_w]
    rfl
  refine one_ (i := 16) (N := some 49) #[true, true, true, true, true, true, true, true, true, true, true, true, true, true, true, true, true, true, true, true, true, false, false, false, false, false, false] rfl rfl (by kernel_rfl) (by decide) (fun K hK => ?_)
  refine value_ (w1 := ?_) (v := ?_) (by rfl) rfl ?_ ?_
  rotate_left 2
  · go_simp
    constructor
    · rfl
    · rfl
  refine hK.out _ _ (Kd.C_string (P := Try.prog) (src := 23) (dst := 9) (e := 5) (c := c) Try.underlying23 Try.underlying5 Try.underlying9 (HS9.out)) (fun hHeld => ?_)
  clear hK K
  refine norm_ (a' := ?_) ?_ ?_
  rotate_left
  · show Act.put _ (some 49) _ = _
    simp only [Act.put, List.setIfInBounds_toArray, List.set_cons_zero, List.set_cons_succ, i64_w, i32_w]
    rfl
  refine pure_ (i := 21) (N := some 54) (v := ?_) (a' := ?_) #[true, true, true, true, true, true, true, true, true, true, true, true, true, true, true, true, true, true, true, true, true, true, false, false, false, false, false] rfl rfl (by kernel_rfl) (fun _ _ _ h => h) (Or.inl ⟨by rfl, ?_⟩) ?_ ?_
  rotate_left
  · intro w'
    go_simp
    with_reducible rfl
  rotate_left
  · simp only [Act.put, List.setIfInBounds_toArray, List.set_cons_zero, List.set_cons_succ, i64_w, i32_w]
    rfl
  refine pure_ (i := 22) (N := some 55) (v := ?_) (a' := ?_) #[true, true, true, true, true, true, true, true, true, true, true, true, true, true, true, true, true, true, true, true, true, true, true, false, false, false, false] rfl rfl (by kernel_rfl) (fun _ _ _ h => h) (Or.inl ⟨by rfl, ?_⟩) ?_ ?_
  rotate_left
  · intro w'
    go_simp
    with_reducible rfl
  rotate_left
  · simp only [Act.put, List.setIfInBounds_toArray, List.set_cons_zero, List.set_cons_succ, i64_w, i32_w]
    rfl
  refine pure_ (i := 23) (N := some 56) (v := ?_) (a' := ?_) #[true, true, true, true, true, true, true, true, true, true, true, true, true, true, true, true, true, true, true, true, true, true, true, true, false, false, false] rfl rfl (by kernel_rfl) (fun _ _ _ h => h) (Or.inl ⟨by rfl, ?_⟩) ?_ ?_
  rotate_left
  · intro w'
    go_simp
    with_reducible rfl
  rotate_left
  · simp only [Act.put, List.setIfInBounds_toArray, List.set_cons_zero, List.set_cons_succ, i64_w, i32_w]
    rfl
  refine one_ (i := 24) (N := some 57) #[true, true, true, true, true, true, true, true, true, true, true, true, true, true, true, true, true, true, true, true, true, true, true, true, true, false, false] rfl rfl (by kernel_rfl) (by decide) (fun K hK => ?_)
  refine goes_ Try.func10 (by kernel_rfl) rfl #[] (by rfl) rfl rfl (by simp only [List.map_toArray, List.map_nil]) ?_
  with_reducible refine (awake_calls _).mono ?_
  rintro z w7 ⟨rfl, hB⟩
  have HS7 := Aside0.mk (Kd.C_below HS9.out hB)
  have HB7 := Aside0.mk (HB9.out.trans (hB.mono HB9.out.size))
  clear hB
  refine ⟨_, rfl, ?_⟩
  refine hK.out _ _ (Kd.C_string (P := Try.prog) (src := 23) (dst := 9) (e := 5) (c := c) Try.underlying23 Try.underlying5 Try.underlying9 (HS7.out)) (fun hHeld => ?_)
  clear hK K
  refine norm_ (a' := ?_) ?_ ?_
  rotate_left
  · show Act.put _ (some 57) _ = _
    simp only [Act.put, List.setIfInBounds_toArray, List.set_cons_zero, List.set_cons_succ, i64_w, i32_w]
    rfl
  refine pure_ (i := 25) (N := some 58) (v := ?_) (a' := ?_) #[true, true, true, true, true, true, true, true, true, true, true, true, true, true, true, true, true, true, true, true, true, true, true, true, true, true, false] rfl rfl (by kernel_rfl) (fun _ _ _ h => h) (Or.inl ⟨by rfl, ?_⟩) ?_ ?_
  rotate_left
  · intro w'
    go_simp
    with_reducible rfl
  rotate_left
  · simp only [Act.put, List.setIfInBounds_toArray, List.set_cons_zero, List.set_cons_succ, i64_w, i32_w]
    rfl
  refine pure_ (i := 26) (N := some 4) (v := ?_) (a' := ?_) #[true, true, true, true, true, true, true, true, true, true, true, true, true, true, true, true, true, true, true, true, true, true, true, true, true, true, true] rfl rfl (by kernel_rfl) (fun _ _ _ h => h) (Or.inl ⟨by rfl, ?_⟩) ?_ ?_
  rotate_left
  · intro w'
    go_simp
    with_reducible rfl
  rotate_left
  · simp only [Act.put, List.setIfInBounds_toArray, List.set_cons_zero, List.set_cons_succ, i64_w, i32_w]
    rfl
  refine done_ (by kernel_rfl) ?_
  go_wp2
  go_ret
  exact ⟨rfl, HB7.out⟩
theorem only (A : Option Addr) (xs : List Int) (c : Nat) (most : Int) (w : World) (hC : Kd.C (Kd.int .u8) w A xs.length xs) (hc : xs.length ≤ c) (hx : ∀ x ∈ xs, 0 ≤ x ∧ x < 256) (hm0 : 0 ≤ most) (hm1 : most < 4294967296) :
    Calls Try.prog 4 #[.slice A xs.length c, .int .u32 most] w fun z w' => z = .returned (.bool true) ∧ Below w.heap.size w w' := by
  rcases hv : vr xs most 5 0 0 with ⟨j, e, r⟩
  have hv' := hv
  rw [vr_eq xs most hx 5 0 0 rfl (by omega) (by decide)] at hv'
  cases j with
  | none =>
    have he : e ≠ 0 := vr_none hv
    have hr := vr_err hv he
    subst hr
    exact err_case A xs c most w hC hc e (by simpa using he) (by simp [rVar, hv])
  | some j =>
    obtain ⟨n, hn0, hn1, hij, hjl, hr, hrm, _, rfl, hb⟩ := only_num most xs hx hm0 hm1 5 0 0 j e r rfl (by omega) (by decide) hv'
    have hrn : r = n := by rw [hr]; simp
    subst hrn
    refine good_case A xs c most w hC hc j r (by omega) hjl hrm (by simp [rVar, hv]) ?_
    rw [var_f r hn0 (by omega)]
    have : vb 4 r = xs.take j := by simpa using hb
    rw [num, this]
end Go.Proofs.Ytglcbaellbhogaa.Only
