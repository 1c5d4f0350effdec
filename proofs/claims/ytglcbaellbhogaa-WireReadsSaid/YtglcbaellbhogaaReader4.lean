/- The reader of bytes (wire.Reader): Words. -/
import Derived.Test.YtglcbaellbhogaaReader3
namespace Go.Proofs.Ytglcbaellbhogaa.Reader
open Go.RowKit Go.Shelf Go.Proofs.Ytglcbaellbhogaa.Sep Go.Proofs.YtglcbaellbhogaaW.PrintWords Go.Proofs.YtglcbaellbhogaaW.PrintLast Go.Proofs.YtglcbaellbhogaaW.PrintMore Go.Proofs.Ytglcbaellbhogaa.PB Go.Proofs.Ytglcbaellbhogaa.Back
set_option linter.unusedVariables false
set_option linter.unusedSimpArgs false

theorem R_turn {α : Type} {d : Kd α} {e base g : Nat} {w w' : World} {v : Value} {xs : List α} (h : Kd.R d e w base (fun _ => True) v xs) (t : Turn w w' g) (hg : g < base) : Kd.R d e w' base (fun _ => True) v xs :=
  Kd.R_mono (Kd.R_step (Kd.R_bound h) (fun k hk hlt => t.block k hlt (by have := hk.2.1; omega))) (fun _ _ => trivial)
theorem vr_err {xs : List Int} {most : Int} : ∀ {k i : Nat} {nv : Int} {j : Option Nat} {e r : Int}, vr xs most k i nv = (j, e, r) → e ≠ 0 → r = 0
  | 0, i, nv, j, e, r, h, _ => by simp only [vr] at h; injection h with h1 h2; injection h2 with h2 h3; omega
  | k + 1, i, nv, j, e, r, h, he => by
    simp only [vr] at h
    cases hx : xs[i]? with
    | none => rw [hx] at h; simp at h; omega
    | some b =>
      rw [hx] at h
      simp only at h
      split at h
      · exact vr_err h he
      · split at h
        · split at h
          · injection h with h1 h2; injection h2 with h2 h3; omega
          · injection h with h1 h2; injection h2 with h2 h3; omega
        · injection h with h1 h2; injection h2 with h2 h3; omega
theorem rVar_err {xs : List Int} {e most : Int} (h : (rVar xs e most).2.1 ≠ 0) : (rVar xs e most).2.2 = 0 := by
  unfold rVar at h ⊢
  split
  · rename_i he
    rw [if_pos he] at h
    rcases hv : vr xs most 5 0 0 with ⟨j, e', r⟩
    rw [hv] at h
    cases j with
    | none => exact vr_err hv h
    | some j => exact vr_err hv h
  · rfl
theorem rVar_len (xs : List Int) (e most : Int) : (rVar xs e most).1.length ≤ xs.length := by
  unfold rVar
  split
  · rcases hv : vr xs most 5 0 0 with ⟨j, e', r⟩
    cases j <;> simp
  · exact Nat.le_refl _
/-- The words that so many calls of Word tell. -/
def wordsK (xs : List Int) (e : Int) : Nat → List Int × Int × List Int
  | 0 => (xs, e, [])
  | k + 1 => ((rWord (wordsK xs e k).1 (wordsK xs e k).2.1).1, (rWord (wordsK xs e k).1 (wordsK xs e k).2.1).2.1, (wordsK xs e k).2.2 ++ [(rWord (wordsK xs e k).1 (wordsK xs e k).2.1).2.2])
theorem wordsK_len (xs : List Int) (e : Int) (k : Nat) : (wordsK xs e k).2.2.length = k := by induction k <;> simp_all [wordsK]
/-- What reading words does. -/
def rWords (xs : List Int) (e most : Int) : List Int × Int × List Int :=
  if (rVar xs e (atM most)).2.1 = 0 ∧ (rVar xs e (atM most)).1.length / 4 < (rVar xs e (atM most)).2.2.toNat then ([], 3, [])
  else wordsK (rVar xs e (atM most)).1 (rVar xs e (atM most)).2.1 (rVar xs e (atM most)).2.2.toNat
theorem info22 : (Try.prog.info? 22).map (fun i => (i.zero, i.size, i.bytes)) = some (some (.int .u32 0), 1, 4) := by kernel_rfl
set_option maxHeartbeats 2000000 in
theorem words_cut {B : Nat} (g : Nat) (xs : List Int) (e most : Int) (w : World) (h : Rd B w g xs e) (hB : B ≤ w.heap.size) (h1 : (rVar xs e (atM most)).2.1 = 0) (h2 : (rVar xs e (atM most)).1.length / 4 < (rVar xs e (atM most)).2.2.toNat) :
    Calls Try.prog 25 #[.pointer (some ⟨g, 0, none⟩), .int .i64 most] w fun z w' => z = .returned (.slice none 0 0) ∧ Rd B w' g [] 3 ∧ Turn w w' g := by
  obtain ⟨n, hn⟩ : ∃ n : Nat, ((rVar xs e (atM most)).2.2 = (n : Int)) := ⟨_, (Int.toNat_of_nonneg (rVar_bd _ _ _).1).symm⟩
  have hb : n < 4294967296 := by have := (rVar_bd xs e (atM most)).2; omega
  rw [hn] at h2
  simp only [Int.toNat_natCast] at h2
  obtain ⟨ys, hys⟩ : ∃ ys, (rVar xs e (atM most)).1 = ys := ⟨_, rfl⟩
  rw [hys] at h2
  have hlt : (ys.length : Int) / 4 < n := by omega
  have HN := Aside0.mk hn
  have HE := Aside0.mk h1
  have HY := Aside0.mk hys
  have HD := Aside0.mk h
  have HB := Aside0.mk hB
  clear hn h hB h1 hys h2
  go_enter Try.func25, Try.ntmps25
  go_wp2_with (first
    | (go_at_call 33; refine (wire_atMost.calls most _ _ rfl).mono ?_; rintro z w1 ⟨rfl, hb1⟩; have B1 := Aside0.mk hb1; clear hb1)
    | (go_at_call 12; refine (varR (B := B) g xs e (atM most) _ (HD.out.below (B1.out.mono HB.out))).mono ?_; rw [HN.out, HE.out, HY.out]; rintro z w2 ⟨rfl, hR, hT⟩; have R2 := Aside0.mk hR; have T2 := Aside0.mk ((Turn.of_below g B1.out).trans hT); obtain ⟨A2, c2, hA2, _, _, _, _⟩ := hR; have k0 := hA2.c0; have k1 := hA2.c1; have k2 := hA2.f 0; clear hA2 hT)
    | (go_at_call 26; refine (upR (B := B) g _ _ _ R2.out).mono ?_; rintro z w3 ⟨rfl, rfl⟩)
    | (go_at_call 27; refine (stopR (B := B) g _ _ _ _ R2.out).mono ?_; rintro z w4 ⟨rfl, hR, hT⟩; have R4 := Aside0.mk hR; have T4 := Aside0.mk (T2.out.trans hT); clear hR hT))
  go_ret
  exact ⟨rfl, R4.out, T4.out⟩
set_option maxHeartbeats 2000000 in
theorem words_go {B : Nat} (g : Nat) (xs : List Int) (e most : Int) (w : World) (h : Rd B w g xs e) (hB : B ≤ w.heap.size) (n : Nat) (hn : (rVar xs e (atM most)).2.2 = (n : Int)) (hb : n * 4 ≤ 140737488351232)
    (b2 : Bool) (h1 : ((rVar xs e (atM most)).2.1 == 0) = b2) (h2 : b2 = true → ((rVar xs e (atM most)).1.length : Int) / 4 < n → False) (e2 : Int) (he2 : (rVar xs e (atM most)).2.1 = e2) (h3 : (e2 == 0) = b2) :
    Calls Try.prog 25 #[.pointer (some ⟨g, 0, none⟩), .int .i64 most] w fun z w' => (∃ v, z = .returned v ∧ Kd.R (Kd.int .u32) 22 w' w.heap.size (fun _ => True) v (wordsK (rVar xs e (atM most)).1 e2 n).2.2) ∧
      Rd B w' g (wordsK (rVar xs e (atM most)).1 e2 n).1 (wordsK (rVar xs e (atM most)).1 e2 n).2.1 ∧ Turn w w' g := by
  obtain ⟨ys, hys⟩ : ∃ ys, (rVar xs e (atM most)).1 = ys := ⟨_, rfl⟩
  rw [hys] at h2 ⊢
  have hg : g < w.heap.size := by obtain ⟨A, c, h1, h2, h3, h4, h5⟩ := h; omega
  have hyl : ys.length ≤ 9223372036854775807 := by have := rVar_len xs e (atM most); have := h.len; rw [hys] at *; omega
  have HN := Aside0.mk hn
  have HE := Aside0.mk he2
  have HY := Aside0.mk hys
  have HD := Aside0.mk h
  have HB := Aside0.mk hB
  have HG := Aside0.mk hg
  clear hn h hB h1 hys he2 hg
  cases b2 with
  | true =>
    obtain ⟨z2, hz2⟩ : ∃ z : Int, z = e2 := ⟨_, rfl⟩
    obtain rfl : e2 = 0 := by simpa using h3
    clear hz2 z2
    have h4 := h2 rfl
    have h5 : decide ((ys.length : Int) / 4 < (n : Int)) = false := decide_eq_false h4
    clear h2 h4
    go_enter Try.func25, Try.ntmps25
    go_wp2_with (first
      | (go_at_call 33; refine (wire_atMost.calls most _ _ rfl).mono ?_; rintro z w1 ⟨rfl, hb1⟩; have B1 := Aside0.mk hb1; clear hb1)
      | (go_at_call 12; refine (varR (B := B) g xs e (atM most) _ (HD.out.below (B1.out.mono HB.out))).mono ?_; rw [HN.out, HE.out, HY.out]; rintro z w2 ⟨rfl, hR, hT⟩; have R2 := Aside0.mk hR; have T2 := Aside0.mk ((Turn.of_below g B1.out).trans hT); obtain ⟨A2, c2, hA2, _, _, _, _⟩ := hR; have k0 := hA2.c0; have k1 := hA2.c1; have k2 := hA2.f 0; clear hA2 hT)
      | (go_at_call 26; refine (upR (B := B) g _ _ _ R2.out).mono ?_; rintro z w3 ⟨rfl, rfl⟩))
    go_loopw [6, 27] (fun v6 v27 wr => ∃ k : Nat, k ≤ n ∧ v27 = .int .i64 k ∧ Aside0 (Kd.R (Kd.int .u32) 22 wr w.heap.size (fun _ => True) v6 (wordsK ys 0 k).2.2) ∧ Aside0 (Rd B wr g (wordsK ys 0 k).1 (wordsK ys 0 k).2.1) ∧ Aside0 (Turn w wr g)) (fun _ v27 _ => n - (intOf v27).toNat)
    case atStart => exact ⟨0, Nat.zero_le _, rfl, ⟨Kd.R_nil _ _ _ _ _⟩, R2, T2⟩
    case round =>
      obtain ⟨k, hk, rfl, HO, HR, HT⟩ := hrel
      clear R2 T2
      by_cases hkn : k < n
      · have hkd : decide (k < n) = true := decide_eq_true hkn
        have hki : decide ((k : Int) < (n : Int)) = true := decide_eq_true (by omega)
        have HL := Aside0.mk (wordsK_len ys 0 k)
        obtain ⟨v, hv⟩ : ∃ v, (rWord (wordsK ys 0 k).1 (wordsK ys 0 k).2.1).2.2 = v := ⟨_, rfl⟩
        have HV := Aside0.mk hv
        clear hv
        go_wp2_with (first
          | (go_at_call 24; refine (wordR (B := B) g _ _ _ HR.out (Nat.le_trans HB.out HT.out.size)).mono ?_; rw [HV.out]; rintro z w5 ⟨rfl, hR, hT⟩; have n0_ := Aside0.mk hR; have n1_ := Aside0.mk (HT.out.trans hT); have n2_ := Aside0.mk (R_turn HO.out hT HG.out); clear HR HT HO hR hT; have HR := n0_; have HT := n1_; have HO := n2_; clear n0_ n1_ n2_)
          | ((with_reducible refine gate_builtin (b := .append) (xs := #[.tmp 29, .tmp 32]) rfl ?_); at_builtin; refine Kd.R_append (Kd.int .u32) (w0 := w5) w.heap.size rfl (.tmp 29) (.tmp 32) 35 22 (.int .u32 0) 4 rfl Try.underlying35 info22 rfl (by decide) (by omega) u6 (wordsK ys 0 k).2.2 v [.int .u32 v] (fun _ => True) (fun _ => False) rfl rfl ?aP (fun _ hk => hk.elim) ?aF ?aO ?aB ?aS ?aL ?_; (case aP => exact rfl); (case aB => exact Below.refl _ _); (case aF => exact (fun _ _ => trivial)); (case aO => exact HO.out); (case aS => exact HT.out.size); (case aL => have := HL.out; omega); intro v7 w7 ho hb hg hat; have n0_ := Aside0.mk ho; have n1_ := Aside0.mk (HR.out.below (hb.mono HB.out)); have n2_ := Aside0.mk (HT.out.under hb); clear HO HR HT ho hb hg hat; have HO := n0_; have HR := n1_; have HT := n2_; clear n0_ n1_ n2_))
        go_roundw
        case rel => exact ⟨k + 1, by omega, by go_num, ⟨by rw [wordsK, HV.out]; exact HO.out⟩, ⟨by rw [wordsK]; exact HR.out⟩, HT⟩
        case measure => simp [intOf]; omega
      · obtain rfl : k = n := by omega
        go_wp2
        go_ret
        exact ⟨⟨_, rfl, HO.out⟩, HR.out, HT.out⟩
  | false =>
    clear h2
    go_enter Try.func25, Try.ntmps25
    go_wp2_with (first
      | (go_at_call 33; refine (wire_atMost.calls most _ _ rfl).mono ?_; rintro z w1 ⟨rfl, hb1⟩; have B1 := Aside0.mk hb1; clear hb1)
      | (go_at_call 12; refine (varR (B := B) g xs e (atM most) _ (HD.out.below (B1.out.mono HB.out))).mono ?_; rw [HN.out, HE.out, HY.out]; rintro z w2 ⟨rfl, hR, hT⟩; have R2 := Aside0.mk hR; have T2 := Aside0.mk ((Turn.of_below g B1.out).trans hT); clear hR hT)
      | (go_at_call 26; refine (upR (B := B) g _ _ _ R2.out).mono ?_; rw [h3]; rintro z w3 ⟨rfl, rfl⟩))
    go_loopw [6, 27] (fun v6 v27 wr => ∃ k : Nat, k ≤ n ∧ v27 = .int .i64 k ∧ Aside0 (Kd.R (Kd.int .u32) 22 wr w.heap.size (fun _ => True) v6 (wordsK ys e2 k).2.2) ∧ Aside0 (Rd B wr g (wordsK ys e2 k).1 (wordsK ys e2 k).2.1) ∧ Aside0 (Turn w wr g)) (fun _ v27 _ => n - (intOf v27).toNat)
    case atStart => exact ⟨0, Nat.zero_le _, rfl, ⟨Kd.R_nil _ _ _ _ _⟩, R2, T2⟩
    case round =>
      obtain ⟨k, hk, rfl, HO, HR, HT⟩ := hrel
      clear R2 T2
      by_cases hkn : k < n
      · have hkd : decide (k < n) = true := decide_eq_true hkn
        have hki : decide ((k : Int) < (n : Int)) = true := decide_eq_true (by omega)
        have HL := Aside0.mk (wordsK_len ys e2 k)
        obtain ⟨v, hv⟩ : ∃ v, (rWord (wordsK ys e2 k).1 (wordsK ys e2 k).2.1).2.2 = v := ⟨_, rfl⟩
        have HV := Aside0.mk hv
        clear hv
        go_wp2_with (first
          | (go_at_call 24; refine (wordR (B := B) g _ _ _ HR.out (Nat.le_trans HB.out HT.out.size)).mono ?_; rw [HV.out]; rintro z w5 ⟨rfl, hR, hT⟩; have n0_ := Aside0.mk hR; have n1_ := Aside0.mk (HT.out.trans hT); have n2_ := Aside0.mk (R_turn HO.out hT HG.out); clear HR HT HO hR hT; have HR := n0_; have HT := n1_; have HO := n2_; clear n0_ n1_ n2_)
          | ((with_reducible refine gate_builtin (b := .append) (xs := #[.tmp 29, .tmp 32]) rfl ?_); at_builtin; refine Kd.R_append (Kd.int .u32) (w0 := w5) w.heap.size rfl (.tmp 29) (.tmp 32) 35 22 (.int .u32 0) 4 rfl Try.underlying35 info22 rfl (by decide) (by omega) u6 (wordsK ys e2 k).2.2 v [.int .u32 v] (fun _ => True) (fun _ => False) rfl rfl ?aP (fun _ hk => hk.elim) ?aF ?aO ?aB ?aS ?aL ?_; (case aP => exact rfl); (case aB => exact Below.refl _ _); (case aF => exact (fun _ _ => trivial)); (case aO => exact HO.out); (case aS => exact HT.out.size); (case aL => have := HL.out; omega); intro v7 w7 ho hb hg hat; have n0_ := Aside0.mk ho; have n1_ := Aside0.mk (HR.out.below (hb.mono HB.out)); have n2_ := Aside0.mk (HT.out.under hb); clear HO HR HT ho hb hg hat; have HO := n0_; have HR := n1_; have HT := n2_; clear n0_ n1_ n2_))
        go_roundw
        case rel => exact ⟨k + 1, by omega, by go_num, ⟨by rw [wordsK, HV.out]; exact HO.out⟩, ⟨by rw [wordsK]; exact HR.out⟩, HT⟩
        case measure => simp [intOf]; omega
      · obtain rfl : k = n := by omega
        go_wp2
        go_ret
        exact ⟨⟨_, rfl, HO.out⟩, HR.out, HT.out⟩
theorem wordsR {B : Nat} (g : Nat) (xs : List Int) (e most : Int) (w : World) (h : Rd B w g xs e) (hB : B ≤ w.heap.size) (hx : xs.length ≤ 140737488351232) :
    Calls Try.prog 25 #[.pointer (some ⟨g, 0, none⟩), .int .i64 most] w fun z w' => (∃ v, z = .returned v ∧ Kd.R (Kd.int .u32) 22 w' w.heap.size (fun _ => True) v (rWords xs e most).2.2) ∧
      Rd B w' g (rWords xs e most).1 (rWords xs e most).2.1 ∧ Turn w w' g := by
  have hl := rVar_len xs e (atM most)
  have hbd := rVar_bd xs e (atM most)
  have hn : (rVar xs e (atM most)).2.2 = (((rVar xs e (atM most)).2.2.toNat : Nat) : Int) := (Int.toNat_of_nonneg hbd.1).symm
  by_cases h1 : (rVar xs e (atM most)).2.1 = 0 ∧ (rVar xs e (atM most)).1.length / 4 < (rVar xs e (atM most)).2.2.toNat
  · refine (words_cut g xs e most w h hB h1.1 h1.2).mono ?_
    rintro z w' ⟨rfl, hR, hT⟩
    unfold rWords
    rw [if_pos h1]
    exact ⟨⟨_, rfl, Kd.R_nil _ _ _ _ _⟩, hR, hT⟩
  · have hb : (rVar xs e (atM most)).2.2.toNat * 4 ≤ 140737488351232 := by
      by_cases he : (rVar xs e (atM most)).2.1 = 0
      · have : ¬ _ := fun q => h1 ⟨he, q⟩
        omega
      · rw [rVar_err he]; simp
    refine (words_go g xs e most w h hB _ hn hb _ rfl (fun q1 q2 => h1 ⟨by simpa using q1, by omega⟩) _ rfl rfl).mono ?_
    rintro z w' ⟨hv, hR, hT⟩
    unfold rWords
    rw [if_neg h1]
    exact ⟨hv, hR, hT⟩
theorem words_nil (most : Int) (w : World) : Calls Try.prog 25 #[.pointer none, .int .i64 most] w fun z w' => z = .returned (.slice none 0 0) ∧ Below w.heap.size w w' := by
  go_enter Try.func25, Try.ntmps25
  go_wp2_with (first
    | (go_at_call 33; refine (wire_atMost.calls most _ _ rfl).mono ?_; rintro z w1 ⟨rfl, hb1⟩; have B1 := Aside0.mk hb1; clear hb1)
    | (go_at_call 12; refine (var_nil _ _).mono ?_; rintro z w2 ⟨rfl, rfl⟩)
    | (go_at_call 26; refine (up_nil _).mono ?_; rintro z w3 ⟨rfl, rfl⟩))
  go_loopw [6, 27] (fun v6 v27 wr => v6 = .slice none 0 0 ∧ v27 = .int .i64 0 ∧ Aside0 (Below w.heap.size w wr)) (fun _ _ _ => 0)
  case atStart => exact ⟨rfl, rfl, B1⟩
  case round =>
    obtain ⟨rfl, rfl, HB⟩ := hrel
    go_wp2
    go_ret
    exact ⟨rfl, HB.out⟩
theorem word_nil (w : World) : Calls Try.prog 24 #[.pointer none] w fun z w' => z = .returned (.int .u32 0) ∧ Below w.heap.size w w' := by
  refine (callsIn_wide.1 (word_in Fence.wide 3 trivial trivial trivial trivial rfl (Nat.le_refl _) (.pointer none) w w.heap.size (Nat.le_refl _) (fun w1 => w1 = w.alloc (.cells #[.int .u32 0] 22)) [] (by simp) ?_)).mono ?_
  · refine callsIn_wide.2 ((take_nil 4 _).mono ?_)
    rintro z w' ⟨rfl, rfl⟩
    refine ⟨⟨none, 0, rfl, .inl ⟨_, _, rfl, rfl⟩⟩, rfl, by rw [World.size_alloc]; omega, World.alloc_heap_new w _⟩
  · rintro z w' ⟨rfl, w1, rfl, _, hb⟩
    exact ⟨rfl, ((Below.refl _ w).alloc (Nat.le_refl _) _).trans hb⟩
end Go.Proofs.Ytglcbaellbhogaa.Reader
