/- The walk of WireBack, where the text and the list are shorter than 2^32. -/
import Derived.Test.YtglcbaellbhogaaPure4
import Derived.Test.YtglcbaellbhogaaAwake
import Derived.Deep.QuietTactic
import Derived.BigQuiet
namespace Go.Proofs.Ytglcbaellbhogaa.Lay
open Go.RowKit Go.Proofs.Ytglcbaellbhogaa.Sep Go.Proofs.YtglcbaellbhogaaW.PrintWords Go.Proofs.YtglcbaellbhogaaW.PrintLast Go.Proofs.YtglcbaellbhogaaW.PrintMore Go.Proofs.Ytglcbaellbhogaa.PB Go.Proofs.Ytglcbaellbhogaa.Reader Go.Proofs.Ytglcbaellbhogaa.Awake
open Go.Proofs.Ytglcbaellbhogaa.Pure1 Go.Proofs.Ytglcbaellbhogaa.Pure2 Go.Proofs.Ytglcbaellbhogaa.Pure4
set_option linter.unusedVariables false
set_option linter.unusedSimpArgs false

theorem bytesOf_byte (s : ByteArray) : ∀ x ∈ bytesOf s, 0 ≤ x ∧ x < 256 := by
  intro x hx
  simp only [bytesOf, List.mem_map] at hx
  obtain ⟨u, _, rfl⟩ := hx
  have := u.toNat_lt
  omega
theorem strOfNums_bytesOf (s : ByteArray) : strOfNums (bytesOf s) = s := by
  apply ByteArray.ext
  apply Array.ext'
  simp only [strOfNums, bytesOf, List.map_map]
  rw [show ((fun x : Int => UInt8.ofNat x.toNat) ∘ fun u : UInt8 => (u.toNat : Int)) = id from by funext u; simp]
  simp
theorem wd_byte (n : Int) : ∀ x ∈ wd n, 0 ≤ x ∧ x < 256 := by
  intro x hx
  simp only [wd, List.mem_cons, List.not_mem_nil, or_false] at hx
  rcases hx with rfl | rfl | rfl | rfl <;> omega
theorem flat_byte (l : List Int) : ∀ x ∈ l.flatMap wd, 0 ≤ x ∧ x < 256 := by
  intro x hx
  obtain ⟨n, _, hn⟩ := List.mem_flatMap.1 hx
  exact wd_byte n x hn
theorem app_byte {a b : List Int} (ha : ∀ x ∈ a, 0 ≤ x ∧ x < 256) (hb : ∀ x ∈ b, 0 ≤ x ∧ x < 256) : ∀ x ∈ a ++ b, 0 ≤ x ∧ x < 256 := fun x hx => (List.mem_append.1 hx).elim (ha x) (hb x)
theorem rTake_app (a b : List Int) (n : Nat) (hn : a.length = n) : rTake (a ++ b) 0 n = (b, 0, a) := by
  subst hn
  simp [rTake]
theorem rText_txt (s : ByteArray) (hs : s.size < 4294967296) (rest : List Int) (hr : ∀ x ∈ rest, 0 ≤ x ∧ x < 256) : rText (txt s ++ rest) 0 (s.size : Int) = (rest, 0, bytesOf s) := by
  have ha : atM (s.size : Int) = (s.size : Int) := by unfold atM mx mn; omega
  have hm : (s.size : Int) % 4294967296 = (s.size : Int) := Int.emod_eq_of_lt (by omega) (by omega)
  unfold rText
  rw [ha, txt, hm, List.append_assoc, rVar_num (s.size : Int) (s.size : Int) (by omega) (Int.le_refl _) (by omega) _ (app_byte (bytesOf_byte s) hr)]
  exact rTake_app _ _ _ (by simp [bytesOf_length])
theorem rWord_wd (n : Int) (h0 : 0 ≤ n) (h1 : n < 4294967296) (rest : List Int) : rWord (wd n ++ rest) 0 = (rest, 0, n) := by
  unfold rWord
  rw [rTake_app (wd n) rest 4 rfl]
  have := wsum4 (n % 256) (n / 256 % 256) (n / 65536 % 256) (n / 16777216 % 256) (by omega) (by omega) (by omega) (by omega) (by omega) (by omega) (by omega) (by omega)
  show (rest, (0 : Int), wsum (Back.back [n % 256, n / 256 % 256, n / 65536 % 256, n / 16777216 % 256] 4)) = _
  rw [this]
  congr 2
  omega
theorem wordsK_wd (l : List Int) (hl : ∀ x ∈ l, 0 ≤ x ∧ x < 4294967296) (rest : List Int) : ∀ k, k ≤ l.length → wordsK (l.flatMap wd ++ rest) 0 k = ((l.drop k).flatMap wd ++ rest, 0, l.take k)
  | 0, _ => by simp [wordsK]
  | k + 1, hk => by
    have h := wordsK_wd l hl rest k (by omega)
    have hd : l.drop k = l[k]'(by omega) :: l.drop (k + 1) := List.drop_eq_getElem_cons (by omega)
    have hb := hl (l[k]'(by omega)) (List.getElem_mem _)
    rw [wordsK, h, hd]
    simp only [List.flatMap_cons, List.append_assoc]
    rw [rWord_wd _ hb.1 hb.2]
    rw [List.take_succ_eq_append_getElem (show k < l.length by omega)]
theorem rWords_wds (l : List Int) (hl : ∀ x ∈ l, 0 ≤ x ∧ x < 4294967296) (hn : l.length < 4294967296) : rWords (wds l) 0 (l.length : Int) = ([], 0, l) := by
  have ha : atM (l.length : Int) = (l.length : Int) := by unfold atM mx mn; omega
  have hm : (l.length : Int) % 4294967296 = (l.length : Int) := Int.emod_eq_of_lt (by omega) (by omega)
  have hv := rVar_num (l.length : Int) (l.length : Int) (by omega) (Int.le_refl _) (by omega) (l.flatMap wd) (flat_byte l)
  unfold rWords
  rw [ha, wds, hm, hv]
  have hf := flat_len l
  rw [if_neg (by simp only [Int.toNat_natCast]; omega)]
  have := wordsK_wd l hl [] l.length (Nat.le_refl _)
  simpa using this
theorem word_at {W : World} {A : Option Addr} {xs : List Int} (h : Kd.C (Kd.int .u32) W A xs.length xs) (i : Nat) (hi : i < xs.length) :
    ∃ ad, A = some ad ∧ W.cell? (ad.add i) = some (.int .u32 (xs.getD i 0)) := by
  obtain ⟨ad, e, hc⟩ := h.2.2 (by omega)
  obtain ⟨c, _, hr, hcell⟩ := hc i _ (List.getElem?_eq_getElem hi)
  subst hr
  refine ⟨ad, e, ?_⟩
  rw [List.getD_eq_getElem?_getD, List.getElem?_eq_getElem hi]
  simpa [Kd.int, Kd.scalar] using hcell 0 _ rfl
set_option maxHeartbeats 8000000 in
theorem back (n : Int) (s : ByteArray) (A : Option Addr) (l : List Int) (c : Nat) (w : World) (hC : Kd.C (Kd.int .u32) w A l.length l) (hc : l.length ≤ c) (h0 : 0 ≤ n) (h1 : n < 4294967296) (hs : s.size < 4294967296) (hl : l.length < 4294967296)
    (hx : ∀ x ∈ l, 0 ≤ x ∧ x < 4294967296) :
    Calls Try.prog 8 #[.int .u32 n, .string s, .slice A l.length c] w fun z w' => z = .returned (.bool true) ∧ Below w.heap.size w w' := by
  have l1 := num_len n
  have l2 : (txt s).length ≤ 5 + s.size := by have := num_len ((s.size : Int) % 4294967296); simp only [txt, List.length_append, bytesOf_length]; omega
  have l4 : (wds l).length ≤ 5 + l.length * 4 := by have := num_len ((l.length : Int) % 4294967296); simp only [wds, List.length_append, flat_len]; omega
  have HC0 := Aside0.mk hC
  have HCc := Aside0.mk hc
  have HB := Aside0.mk (Below.refl w.heap.size w)
  have LM2 := Aside0.mk (show ((num n).length + (txt s).length) * 1 ≤ 140737488355328 by omega)
  have LM3 := Aside0.mk (show ((num n ++ txt s).length + (wd n).length) * 1 ≤ 140737488355328 by simp only [List.length_append, wd, List.length_cons, List.length_nil]; omega)
  have LM4 := Aside0.mk (show ((num n ++ txt s ++ wd n).length + (wds l).length) * 1 ≤ 140737488355328 by simp only [List.length_append, wd, List.length_cons, List.length_nil]; omega)
  have E1 := Aside0.mk (show rVar (num n ++ txt s ++ wd n ++ wds l) 0 4294967295 = (txt s ++ (wd n ++ wds l), 0, n) by
    rw [List.append_assoc, List.append_assoc]
    exact rVar_num n 4294967295 h0 (by omega) (by omega) _ (app_byte (app_byte (num_byte _ (by omega) (by omega)) (bytesOf_byte s)) (app_byte (wd_byte n) (app_byte (num_byte _ (by omega) (by omega)) (flat_byte l)))))
  have E2 := Aside0.mk (rText_txt s hs (wd n ++ wds l) (app_byte (wd_byte n) (app_byte (num_byte _ (by omega) (by omega)) (flat_byte l))))
  have E3 := Aside0.mk (rWord_wd n h0 h1 (wds l))
  have E4 := Aside0.mk (rWords_wds l hx hl)
  have E5 := Aside0.mk (show strOfNums (bytesOf s) = s from strOfNums_bytesOf s)
  have V1 := Aside0.mk (var_up n h0 h1 (k := l.length + 7) (by omega))
  have V2 := Aside0.mk (text_up s (by omega) (k := l.length + 7) (by omega))
  have V3 := Aside0.mk (word_up n (k := l.length + 7) (by omega))
  have V4 := Aside0.mk (words_up l (by omega) (k := l.length + 7) (Nat.le_refl _))
  have l5 := Aside0.mk (show (wds l).length ≤ 140737488351232 by omega)
  clear hC hc hx l1 l2 l4 h0 h1
  go_enter Try.func8, Try.ntmps8
  go_wp2_with (first
    | (go_at_call 9; (with_reducible refine (wire_Var.calls (l.length + 7) n _ _ V1.out).mono ?_); rintro z w1 ⟨v1, rfl, hR, hb⟩; have HO := Aside0.mk (Kd.R_lower hR HB.out.size); have n1_ := Aside0.mk (HB.out.trans (hb.mono HB.out.size)); clear HB hR hb; have HB := n1_; clear n1_)
    | (go_at_call 18; (with_reducible refine (wire_Text.calls (l.length + 7) s _ _ V2.out).mono ?_); rintro z w2 ⟨v2, rfl, hR, hb⟩; have n0_ := Aside0.mk (Kd.R_below HO.out hb); clear HO; have HO := n0_; clear n0_; obtain ⟨A2, c2, rfl, _, hC2⟩ := Kd.R_reads hR; have HC2 := Aside0.mk hC2; clear hC2; have n1_ := Aside0.mk (HB.out.trans (hb.mono HB.out.size)); clear HB hR hb; have HB := n1_; clear n1_)
    | ((with_reducible refine gate_builtin (b := .append) (xs := #[.tmp 12, .tmp 14]) rfl ?_); at_builtin; refine Kd.R_append_rows (Kd.int .u8) (w0 := w) w.heap.size rfl (.tmp 12) (.tmp 14) 23 5 (.int .u8 0) 1 rfl Try.underlying23 info5 rfl (by decide) (by omega) v1 (num n) (txt s) _ _ _ (fun _ => True) (fun _ => False) rfl rfl ?aO ?aR (fun _ _ h => h) (fun _ h => h.elim) ?aF ?aB ?aS ?aL ?_; (case aR => exact HC2.out); (case aB => exact HB.out); (case aF => exact (fun _ _ => trivial)); (case aO => exact HO.out); (case aS => exact HB.out.size); (case aL => exact LM2.out); intro v12 w12 ho hb hg hat; have n0_ := Aside0.mk ho; have n1_ := Aside0.mk hb; clear HO HB ho hb hg hat; have HO := n0_; have HB := n1_; clear n0_ n1_)
    | (go_at_call 16; (with_reducible refine (wire_Word.calls (l.length + 7) n _ _ V3.out).mono ?_); rintro z w3 ⟨v3, rfl, hR, hb⟩; have n0_ := Aside0.mk (Kd.R_below HO.out hb); clear HO; have HO := n0_; clear n0_; obtain ⟨A3, c3, rfl, _, hC3⟩ := Kd.R_reads hR; have HC3 := Aside0.mk hC3; clear hC3; have n1_ := Aside0.mk (HB.out.trans (hb.mono HB.out.size)); clear HB hR hb; have HB := n1_; clear n1_)
    | ((with_reducible refine gate_builtin (b := .append) (xs := #[.tmp 15, .tmp 17]) rfl ?_); at_builtin; refine Kd.R_append_rows (Kd.int .u8) (w0 := w) w.heap.size rfl (.tmp 15) (.tmp 17) 23 5 (.int .u8 0) 1 rfl Try.underlying23 info5 rfl (by decide) (by omega) v12 (num n ++ txt s) (wd n) _ _ _ (fun _ => True) (fun _ => False) rfl rfl ?aO ?aR (fun _ _ h => h) (fun _ h => h.elim) ?aF ?aB ?aS ?aL ?_; (case aR => exact HC3.out); (case aB => exact HB.out); (case aF => exact (fun _ _ => trivial)); (case aO => exact HO.out); (case aS => exact HB.out.size); (case aL => exact LM3.out); intro v13 w13 ho hb hg hat; have n0_ := Aside0.mk ho; have n1_ := Aside0.mk hb; clear HO HB ho hb hg hat; have HO := n0_; have HB := n1_; clear n0_ n1_)
    | (go_at_call 20; (with_reducible refine (wire_Words.calls (l.length + 7) A c l _ _ (Kd.C_below HC0.out HB.out) HCc.out V4.out).mono ?_); rintro z w4 ⟨v4, rfl, hR, hb⟩; have n0_ := Aside0.mk (Kd.R_below HO.out hb); clear HO; have HO := n0_; clear n0_; obtain ⟨A4, c4, rfl, _, hC4⟩ := Kd.R_reads hR; have HC4 := Aside0.mk hC4; clear hC4; have n1_ := Aside0.mk (HB.out.trans (hb.mono HB.out.size)); clear HB hR hb; have HB := n1_; clear n1_)
    | ((with_reducible refine gate_builtin (b := .append) (xs := #[.tmp 18, .tmp 20]) rfl ?_); at_builtin; refine Kd.R_append_rows (Kd.int .u8) (w0 := w) w.heap.size rfl (.tmp 18) (.tmp 20) 23 5 (.int .u8 0) 1 rfl Try.underlying23 info5 rfl (by decide) (by omega) v13 (num n ++ txt s ++ wd n) (wds l) _ _ _ (fun _ => True) (fun _ => False) rfl rfl ?aO ?aR (fun _ _ h => h) (fun _ h => h.elim) ?aF ?aB ?aS ?aL ?_; (case aR => exact HC4.out); (case aB => exact HB.out); (case aF => exact (fun _ _ => trivial)); (case aO => exact HO.out); (case aS => exact HB.out.size); (case aL => exact LM4.out); intro v14 w14 ho hb hg hat; obtain ⟨y7, hy7⟩ : ∃ y : List Int, num n ++ txt s ++ wd n ++ wds l = y := ⟨_, rfl⟩; rw [hy7] at ho; have HY7 := Aside0.mk hy7; clear hy7; obtain ⟨A7, c7, rfl, hl7, hC7⟩ := Kd.R_reads ho; have HC7 := Aside0.mk hC7; have HL7 := Aside0.mk hl7; have n1_ := Aside0.mk hb; clear HO HB ho hb hg hat hl7 hC7; have HB := n1_; clear n1_)
    | (go_at_call 11; refine (newR A7 y7 c7 _ HC7.out HL7.out).mono ?_; rintro z w8 ⟨rfl, hR, hB, hlt⟩; obtain ⟨g, hg⟩ : ∃ g, w14.heap.size = g := ⟨_, rfl⟩; rw [hg] at hR hlt ⊢; have HG := Aside0.mk (show w.heap.size ≤ g by have := HB.out.size; omega); have HR := Aside0.mk hR; have n1_ := Aside0.mk (HB.out.trans (hB.mono HB.out.size)); have HS := Aside0.mk (Nat.succ_le_of_lt hlt); clear HB hR hB hlt hg; have HB := n1_; clear n1_)
    | (go_at_call 12; (with_reducible refine (varR _ _ _ 4294967295 _ HR.out).mono ?_); rw [← HY7.out, E1.out]; rintro z w2 ⟨rfl, hR, hT⟩; have n0_ := Aside0.mk hR; have n1_ := Aside0.mk (HB.out.trans (Turn.below2 hT HG.out HB.out.size)); have n2_ := Aside0.mk (Nat.le_trans HS.out hT.size); clear HR HB HS hR hT; have HR := n0_; have HB := n1_; have HS := n2_; clear n0_ n1_ n2_)
    | (go_at_call 23; (with_reducible refine (textR _ _ _ _ _ HR.out HS.out).mono ?_); rw [E2.out, E5.out]; rintro z w3 ⟨rfl, hR, hT⟩; have n0_ := Aside0.mk hR; have n1_ := Aside0.mk (HB.out.trans (Turn.below2 hT HG.out HB.out.size)); have n2_ := Aside0.mk (Nat.le_trans HS.out hT.size); clear HR HB HS hR hT; have HR := n0_; have HB := n1_; have HS := n2_; clear n0_ n1_ n2_)
    | (go_at_call 24; (with_reducible refine (wordR _ _ _ _ HR.out HS.out).mono ?_); rw [E3.out]; rintro z w4 ⟨rfl, hR, hT⟩; have n0_ := Aside0.mk hR; have n1_ := Aside0.mk (HB.out.trans (Turn.below2 hT HG.out HB.out.size)); have n2_ := Aside0.mk (Nat.le_trans HS.out hT.size); clear HR HB HS hR hT; have HR := n0_; have HB := n1_; have HS := n2_; clear n0_ n1_ n2_)
    | (go_at_call 25; (with_reducible refine (wordsR _ _ _ _ _ HR.out HS.out l5.out).mono ?_); rw [E4.out]; rintro z w5 ⟨⟨v5, rfl, hW⟩, hR, hT⟩; obtain ⟨A5, c5, rfl, _, hC5⟩ := Kd.R_reads hW; have HC5 := Aside0.mk hC5; have n0_ := Aside0.mk hR; have n1_ := Aside0.mk (HB.out.trans (Turn.below2 hT HG.out HB.out.size)); have n2_ := Aside0.mk (Nat.le_trans HS.out hT.size); clear HR HB HS hR hT hW hC5; have HR := n0_; have HB := n1_; have HS := n2_; clear n0_ n1_ n2_))
  go_loopw [10] (fun v10 wr => ∃ i : Nat, i ≤ l.length ∧ v10 = .int .i64 i ∧ Aside0 (Rd (g + 1) wr g [] 0) ∧ Aside0 (Below w.heap.size w wr) ∧ Aside0 (g + 1 ≤ wr.heap.size) ∧ Aside0 (Kd.C (Kd.int .u32) wr A5 l.length l)) (fun v10 _ => l.length - (intOf v10).toNat)
  case atStart => exact ⟨0, Nat.zero_le _, rfl, HR, HB, HS, HC5⟩
  case round =>
    clear HR HB HS HC5
    obtain ⟨i, hi, rfl, HR, HB, HS, HC5⟩ := hrel
    by_cases hil : i < l.length
    · have hil' : (i : Int) < (l.length : Int) := by omega
      obtain ⟨ad, rfl, k0⟩ := word_at (Kd.C_below HC0.out HB.out) i hil
      obtain ⟨ad5, rfl, k5⟩ := word_at HC5.out i hil
      have q0 : (0 : Int) ≤ (i : Int) := by omega
      have hd : decide ((i : Int) < (l.length : Int)) = true := decide_eq_true hil'
      have hd2 : decide (i < l.length) = true := decide_eq_true hil
      have hd3 : decide ((l.length : Int) ≤ (i : Int)) = false := decide_eq_false (by omega)
      have hd4 : decide (l.length ≤ i) = false := decide_eq_false (by omega)
      obtain ⟨m, hm⟩ : ∃ m, l.getD i 0 = m := ⟨_, rfl⟩
      rw [hm] at k0 k5
      clear hm
      go_wp2
      go_quiet (fail)
      go_wp2
      go_roundw
      case rel => exact ⟨i + 1, by omega, by go_num, ⟨HR.out.below (pw_below_drewN (Below.refl _ _) _)⟩, ⟨pw_below_drewN HB.out _⟩, ⟨HS.out⟩, ⟨Kd.C_drewN HC5.out _⟩⟩
      case measure => simp [intOf]; omega
    · obtain rfl : i = l.length := by omega
      go_wp2_with (first
        | (go_at_call 14; (with_reducible refine (leftR _ _ _ _ HR.out).mono ?_); rintro z w6 ⟨rfl, rfl⟩)
        | (go_at_call 13; (with_reducible refine (errR _ _ _ _ HR.out).mono ?_); rintro z w7 ⟨rfl, rfl⟩)
        | (go_at_call 10; (with_reducible refine (awake_calls _).mono ?_); rintro z w9 ⟨rfl, hb⟩; have n1_ := Aside0.mk (HB.out.trans (hb.mono HB.out.size)); clear HB hb; have HB := n1_; clear n1_))
      go_ret
      exact ⟨rfl, HB.out⟩
end Go.Proofs.Ytglcbaellbhogaa.Lay
