/- slices.IndexFunc at the clock's waiting. -/
import Derived.Test.YtajmfmgfdgdioaaCl
namespace Go.Proofs.Ytajmfmgfdgdioaa.Cl
open Go.RowKit Go.Proofs.Ytajmfmgfdgdioaa.Sep Go.Proofs.YtajmfmgfdgdioaaW.PrintWords Go.Proofs.YtajmfmgfdgdioaaW.PrintLast Go.Proofs.YtajmfmgfdgdioaaW.PrintMore Go.Proofs.Ytajmfmgfdgdioaa.Ev Go.Proofs.Ytajmfmgfdgdioaa.Ty
open Go.Proofs.Ytajmfmgfdgdioaa.PC hiding z46 z59 z67
set_option linter.unusedVariables false
set_option linter.unusedSimpArgs false

def ix (keep : S46 → Bool) : List S46 → Nat → Int
  | [], _ => -1
  | x :: r, i => if keep x then (i : Int) else ix keep r (i + 1)
theorem ix_drop (keep : S46 → Bool) (xs : List S46) (z : S46) (i : Nat) (hi : i < xs.length) : ix keep (xs.drop i) i = if keep (xs.getD i z) then (i : Int) else ix keep (xs.drop (i + 1)) (i + 1) := by
  rw [List.drop_eq_getElem_cons hi, List.getD_eq_getElem?_getD, List.getElem?_eq_getElem hi]
  rfl

set_option maxRecDepth 100000 in
theorem index26_calls (gh : Nat) (keep : S46 → Bool) (A : Option Addr) (c : Nat) (xs : List S46) (w : World) (hC : Kd.C k46 w A xs.length xs) (hk : ∀ x W', Below w.heap.size w W' → Calls Try.prog 26 #[.agg #[.int .u16 x.f0, .int .u64 x.f1], .pointer (some ⟨gh, 0, none⟩)] W' fun z w' => z = .returned (.bool (keep x)) ∧ Below W'.heap.size W' w') :
    Calls Try.prog 31 #[.slice A xs.length c, .func (.func 26) #[] #[.pointer (some ⟨gh, 0, none⟩)]] w fun z w' => z = .returned (.int .i64 (ix keep xs 0)) ∧ Below w.heap.size w w' := by
  have HC := Aside0.mk hC
  have HK := Aside0.mk hk
  have S := Aside0.mk (St.start w)
  have hm : xs.length ≤ 9223372036854775807 := hC.2.1
  clear hC hk
  go_enter Try.func31, Try.ntmps31
  go_wp2_with (first | (refine ev_loads (vs := [_, _]) ?_ rfl m46 rfl (olds_ S HH.out) ?_; (first | exact want0 rfl | exact want1 rfl rfl rfl rfl)) | (go_at_call 26; have c_ := HK.out x _ S.out.below; (with_reducible refine c_.mono ?_); clear c_; rintro z_ w_ ⟨rfl, hb_⟩; have hb2_ := hb_; have S_ := Aside0.mk (S.out.keep hb2_); clear hb2_ hb_; clear S; have S := S_; clear S_))
  go_loopw [8] (fun v8 wr => ∃ (i : Nat), v8 = .int .i64 i ∧ i ≤ xs.length ∧ Aside0 (ix keep (xs.drop i) i = ix keep xs 0) ∧ Aside0 (St w.heap.size w wr [])) (fun v8 _ => xs.length - (intOf v8).toNat)
  case atStart => exact ⟨0, rfl, Nat.zero_le _, ⟨by simp⟩, S⟩
  case round =>
    clear S
    obtain ⟨i, rfl, hi, HI, S⟩ := hrel
    by_cases hlt : i < xs.length
    · have hd2 : decide ((i : Int) < (xs.length : Int)) = true := decide_eq_true (by omega)
      have hil : (i : Int) < (xs.length : Int) := by omega
      have hi0 : (0 : Int) ≤ (i : Int) := by omega
      have HJ := Aside0.mk (ix_drop keep xs PC.z46 i hlt)
      obtain ⟨ad, cs, rfl, hcs, hH⟩ := has_of HC.out PC.z46 i hlt
      obtain rfl := k46_open hcs
      clear hcs
      generalize xs.getD i PC.z46 = x at *
      have HH := Aside0.mk (show Has w (ad.add (i * 2)) _ from hH)
      clear hH
      cases hp : keep x with
      | true =>
        go_wp2_with (first | (refine ev_loads (vs := [_, _]) ?_ rfl m46 rfl (olds_ S HH.out) ?_; (first | exact want0 rfl | exact want1 rfl rfl rfl rfl)) | (go_at_call 26; have c_ := HK.out x _ S.out.below; (with_reducible refine c_.mono ?_); clear c_; rintro z_ w_ ⟨rfl, hb_⟩; have hb2_ := hb_; have S_ := Aside0.mk (S.out.keep hb2_); clear hb2_ hb_; clear S; have S := S_; clear S_))
        go_ret
        refine ⟨?_, S.out.below⟩
        have h1 := HI.out
        rw [HJ.out, if_pos hp] at h1
        rw [← h1]
        rfl
      | false =>
        go_wp2_with (first | (refine ev_loads (vs := [_, _]) ?_ rfl m46 rfl (olds_ S HH.out) ?_; (first | exact want0 rfl | exact want1 rfl rfl rfl rfl)) | (go_at_call 26; have c_ := HK.out x _ S.out.below; (with_reducible refine c_.mono ?_); clear c_; rintro z_ w_ ⟨rfl, hb_⟩; have hb2_ := hb_; have S_ := Aside0.mk (S.out.keep hb2_); clear hb2_ hb_; clear S; have S := S_; clear S_))
        have hi1 : wrap64 ((i : Int) + 1) = ((i + 1 : Nat) : Int) := by unfold wrap64; omega
        refine ⟨⟨i + 1, by simp [hi1], by omega, ?_, S⟩, ?_⟩
        · have h1 := HI.out
          rw [HJ.out, if_neg (by simp [hp])] at h1
          exact ⟨h1⟩
        · simp [intOf, hi1]; omega
    · obtain rfl : i = xs.length := by omega
      have hd2 : decide ((xs.length : Int) < (xs.length : Int)) = false := decide_eq_false (by omega)
      go_wp2_with (first | (refine ev_loads (vs := [_, _]) ?_ rfl m46 rfl (olds_ S HH.out) ?_; (first | exact want0 rfl | exact want1 rfl rfl rfl rfl)) | (go_at_call 26; have c_ := HK.out x _ S.out.below; (with_reducible refine c_.mono ?_); clear c_; rintro z_ w_ ⟨rfl, hb_⟩; have hb2_ := hb_; have S_ := Aside0.mk (S.out.keep hb2_); clear hb2_ hb_; clear S; have S := S_; clear S_))
      go_ret
      refine ⟨?_, S.out.below⟩
      rw [← HI.out, List.drop_length]; rfl

set_option maxRecDepth 100000 in
theorem index30_calls (gh : Nat) (keep : S46 → Bool) (A : Option Addr) (c : Nat) (xs : List S46) (w : World) (hC : Kd.C k46 w A xs.length xs) (hk : ∀ x W', Below w.heap.size w W' → Calls Try.prog 30 #[.agg #[.int .u16 x.f0, .int .u64 x.f1], .pointer (some ⟨gh, 0, none⟩)] W' fun z w' => z = .returned (.bool (keep x)) ∧ Below W'.heap.size W' w') :
    Calls Try.prog 31 #[.slice A xs.length c, .func (.func 30) #[] #[.pointer (some ⟨gh, 0, none⟩)]] w fun z w' => z = .returned (.int .i64 (ix keep xs 0)) ∧ Below w.heap.size w w' := by
  have HC := Aside0.mk hC
  have HK := Aside0.mk hk
  have S := Aside0.mk (St.start w)
  have hm : xs.length ≤ 9223372036854775807 := hC.2.1
  clear hC hk
  go_enter Try.func31, Try.ntmps31
  go_wp2_with (first | (refine ev_loads (vs := [_, _]) ?_ rfl m46 rfl (olds_ S HH.out) ?_; (first | exact want0 rfl | exact want1 rfl rfl rfl rfl)) | (go_at_call 30; have c_ := HK.out x _ S.out.below; (with_reducible refine c_.mono ?_); clear c_; rintro z_ w_ ⟨rfl, hb_⟩; have hb2_ := hb_; have S_ := Aside0.mk (S.out.keep hb2_); clear hb2_ hb_; clear S; have S := S_; clear S_))
  go_loopw [8] (fun v8 wr => ∃ (i : Nat), v8 = .int .i64 i ∧ i ≤ xs.length ∧ Aside0 (ix keep (xs.drop i) i = ix keep xs 0) ∧ Aside0 (St w.heap.size w wr [])) (fun v8 _ => xs.length - (intOf v8).toNat)
  case atStart => exact ⟨0, rfl, Nat.zero_le _, ⟨by simp⟩, S⟩
  case round =>
    clear S
    obtain ⟨i, rfl, hi, HI, S⟩ := hrel
    by_cases hlt : i < xs.length
    · have hd2 : decide ((i : Int) < (xs.length : Int)) = true := decide_eq_true (by omega)
      have hil : (i : Int) < (xs.length : Int) := by omega
      have hi0 : (0 : Int) ≤ (i : Int) := by omega
      have HJ := Aside0.mk (ix_drop keep xs PC.z46 i hlt)
      obtain ⟨ad, cs, rfl, hcs, hH⟩ := has_of HC.out PC.z46 i hlt
      obtain rfl := k46_open hcs
      clear hcs
      generalize xs.getD i PC.z46 = x at *
      have HH := Aside0.mk (show Has w (ad.add (i * 2)) _ from hH)
      clear hH
      cases hp : keep x with
      | true =>
        go_wp2_with (first | (refine ev_loads (vs := [_, _]) ?_ rfl m46 rfl (olds_ S HH.out) ?_; (first | exact want0 rfl | exact want1 rfl rfl rfl rfl)) | (go_at_call 30; have c_ := HK.out x _ S.out.below; (with_reducible refine c_.mono ?_); clear c_; rintro z_ w_ ⟨rfl, hb_⟩; have hb2_ := hb_; have S_ := Aside0.mk (S.out.keep hb2_); clear hb2_ hb_; clear S; have S := S_; clear S_))
        go_ret
        refine ⟨?_, S.out.below⟩
        have h1 := HI.out
        rw [HJ.out, if_pos hp] at h1
        rw [← h1]
        rfl
      | false =>
        go_wp2_with (first | (refine ev_loads (vs := [_, _]) ?_ rfl m46 rfl (olds_ S HH.out) ?_; (first | exact want0 rfl | exact want1 rfl rfl rfl rfl)) | (go_at_call 30; have c_ := HK.out x _ S.out.below; (with_reducible refine c_.mono ?_); clear c_; rintro z_ w_ ⟨rfl, hb_⟩; have hb2_ := hb_; have S_ := Aside0.mk (S.out.keep hb2_); clear hb2_ hb_; clear S; have S := S_; clear S_))
        have hi1 : wrap64 ((i : Int) + 1) = ((i + 1 : Nat) : Int) := by unfold wrap64; omega
        refine ⟨⟨i + 1, by simp [hi1], by omega, ?_, S⟩, ?_⟩
        · have h1 := HI.out
          rw [HJ.out, if_neg (by simp [hp])] at h1
          exact ⟨h1⟩
        · simp [intOf, hi1]; omega
    · obtain rfl : i = xs.length := by omega
      have hd2 : decide ((xs.length : Int) < (xs.length : Int)) = false := decide_eq_false (by omega)
      go_wp2_with (first | (refine ev_loads (vs := [_, _]) ?_ rfl m46 rfl (olds_ S HH.out) ?_; (first | exact want0 rfl | exact want1 rfl rfl rfl rfl)) | (go_at_call 30; have c_ := HK.out x _ S.out.below; (with_reducible refine c_.mono ?_); clear c_; rintro z_ w_ ⟨rfl, hb_⟩; have hb2_ := hb_; have S_ := Aside0.mk (S.out.keep hb2_); clear hb2_ hb_; clear S; have S := S_; clear S_))
      go_ret
      refine ⟨?_, S.out.below⟩
      rw [← HI.out, List.drop_length]; rfl
end Go.Proofs.Ytajmfmgfdgdioaa.Cl
