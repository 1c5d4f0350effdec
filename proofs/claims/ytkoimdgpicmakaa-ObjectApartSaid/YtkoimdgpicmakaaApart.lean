/- Two modules that may be laid have the same bytes just if they are one. -/
import Derived.Test.YtkoimdgpicmakaaZMo
import Derived.RegionTactic
import Derived.BigRegion
import Derived.Test.YtkoimdgpicmakaaZIn
namespace Go.Proofs.Ytkoimdgpicmakaa.Ob
open Go.Proofs.Ytkoimdgpicmakaa.Inv
open Go.RowKit Go.Proofs.Ytkoimdgpicmakaa.Sep Go.Proofs.YtkoimdgpicmakaaW.PrintWords Go.Proofs.YtkoimdgpicmakaaW.PrintLast Go.Proofs.Ytkoimdgpicmakaa.Wm Go.Proofs.Ytkoimdgpicmakaa.Ev Go.Proofs.Ytkoimdgpicmakaa.Ty Go.Proofs.Ytkoimdgpicmakaa.PB
set_option linter.unusedVariables false
set_option linter.unusedSimpArgs false

set_option maxRecDepth 100000 in
set_option maxHeartbeats 16000000 in
theorem apart (anm : ByteArray) (Aa1 : Option Addr) (ca1 : Nat) (aex : List ByteArray) (Aa2 : Option Addr) (ca2 : Nat) (aim : List ByteArray) (Aa3 : Option Addr) (ca3 : Nat) (aco : List Int) (Aa4 : Option Addr) (ca4 : Nat) (ada : List Int) (Aa5 : Option Addr) (ca5 : Nat) (are : List S50) (bnm : ByteArray) (Ab1 : Option Addr) (cb1 : Nat) (bex : List ByteArray) (Ab2 : Option Addr) (cb2 : Nat) (bim : List ByteArray) (Ab3 : Option Addr) (cb3 : Nat) (bco : List Int) (Ab4 : Option Addr) (cb4 : Nat) (bda : List Int) (Ab5 : Option Addr) (cb5 : Nat) (bre : List S50) (w : World) (ha : Md w anm Aa1 ca1 aex Aa2 ca2 aim Aa3 ca3 aco Aa4 ca4 ada Aa5 ca5 are) (hb : Md w bnm Ab1 cb1 bex Ab2 cb2 bim Ab3 cb3 bco Ab4 cb4 bda Ab5 cb5 bre) (hwa : (∀ x ∈ aco, 0 ≤ x ∧ x < 4294967296) ∧ (∀ x ∈ ada, 0 ≤ x ∧ x < 4294967296) ∧ (∀ r ∈ are, 0 ≤ r.f0 ∧ 0 ≤ r.f1 ∧ r.f1 < 65536 ∧ 0 ≤ r.f2 ∧ r.f2 < 65536)) (hwb : (∀ x ∈ bco, 0 ≤ x ∧ x < 4294967296) ∧ (∀ x ∈ bda, 0 ≤ x ∧ x < 4294967296) ∧ (∀ r ∈ bre, 0 ≤ r.f0 ∧ 0 ≤ r.f1 ∧ r.f1 < 65536 ∧ 0 ≤ r.f2 ∧ r.f2 < 65536)) :
    Calls Try.prog 7 #[.agg #[.string anm, .slice Aa1 aex.length ca1, .slice Aa2 aim.length ca2, .slice Aa3 aco.length ca3, .slice Aa4 ada.length ca4, .slice Aa5 are.length ca5], .agg #[.string bnm, .slice Ab1 bex.length cb1, .slice Ab2 bim.length cb2, .slice Ab3 bco.length cb3, .slice Ab4 bda.length cb4, .slice Ab5 bre.length cb5]] w fun z w' => z = .returned (.bool true) ∧ Below w.heap.size w w' := by
  have HMa := Aside0.mk ha
  have HMb := Aside0.mk hb
  have HWa := Aside0.mk hwa
  have HWb := Aside0.mk hwb
  obtain ⟨na, hna, qa⟩ := size_f anm aex aim aco ada are
  obtain ⟨nb, hnb, qb⟩ := size_f bnm bex bim bco bda bre
  have HSa := Aside0.mk hna
  have HSb := Aside0.mk hnb
  have HQa := Aside0.mk qa
  have HQb := Aside0.mk qb
  have S := Aside0.mk (St.start w)
  clear ha hb hwa hwb hna hnb qa qb
  by_cases h1 : 2000 < na
  · have d1 : decide (na > 2000) = true := decide_eq_true h1
    clear HQa HQb
    go_enter Try.func7, Try.ntmps7; go_wp2_with (first | ((with_reducible refine gate_dst (N := 2) rfl ?_); refine ev_boxs S ?_ 2 rfl rfl rfl ?_; (first | exact want0 rfl | exact want1 rfl rfl rfl rfl); intro g2 w2 S_; clear S; have S := S_; clear S_) | ((with_reducible refine gate_dst (N := 3) rfl ?_); refine ev_boxs S ?_ 3 rfl rfl rfl ?_; (first | exact want0 rfl | exact want1 rfl rfl rfl rfl); intro g3 w3 S_; clear S; have S := S_; clear S_) | (refine ev_owns (vs := [_, _, _, _, _, _]) S ?_ rfl m26 rfl (by repeat (first | exact Spot.here _ _ | apply Spot.there)) (by exact rfl) ?_; (first | exact want0 rfl | exact want1 rfl rfl rfl rfl)) | (go_at_call 9; have c_ := budwoodref10_Size.calls 6 anm Aa1 ca1 aex Aa2 ca2 aim Aa3 ca3 aco Aa4 ca4 ada Aa5 ca5 are na _ (HMa.out.below S.out.below).r1 (HMa.out.below S.out.below).l1 (HMa.out.below S.out.below).r2 (HMa.out.below S.out.below).l2 (HMa.out.below S.out.below).r3 (HMa.out.below S.out.below).l3 (HMa.out.below S.out.below).r4 (HMa.out.below S.out.below).l4 (HMa.out.below S.out.below).r5 (HMa.out.below S.out.below).l5 HSa.out; (with_reducible refine c_.mono ?_); clear c_; rintro z_ w_ ⟨rfl, hb_⟩; have hb2_ := hb_; have S_ := Aside0.mk (S.out.keep hb2_); clear hb2_ hb_; clear S; have S := S_; clear S_) | (go_at_call 9; have c_ := budwoodref10_Size.calls 6 bnm Ab1 cb1 bex Ab2 cb2 bim Ab3 cb3 bco Ab4 cb4 bda Ab5 cb5 bre nb _ (HMb.out.below S.out.below).r1 (HMb.out.below S.out.below).l1 (HMb.out.below S.out.below).r2 (HMb.out.below S.out.below).l2 (HMb.out.below S.out.below).r3 (HMb.out.below S.out.below).l3 (HMb.out.below S.out.below).r4 (HMb.out.below S.out.below).l4 (HMb.out.below S.out.below).r5 (HMb.out.below S.out.below).l5 HSb.out; (with_reducible refine c_.mono ?_); clear c_; rintro z_ w_ ⟨rfl, hb_⟩; have hb2_ := hb_; have S_ := Aside0.mk (S.out.keep hb2_); clear hb2_ hb_; clear S; have S := S_; clear S_) | (go_at_call 10; (with_reducible refine (awake_calls _).mono ?_); rintro z_ w_ ⟨rfl, hb_⟩; have hb2_ := hb_; have S_ := Aside0.mk (S.out.keep hb2_); clear hb2_ hb_; clear S; have S := S_; clear S_))
    go_ret
    exact ⟨rfl, S.out.below⟩
  have d1 : decide (na > 2000) = false := decide_eq_false h1
  by_cases h2 : 2000 < nb
  · have d2 : decide (nb > 2000) = true := decide_eq_true h2
    clear HQa HQb
    go_enter Try.func7, Try.ntmps7; go_wp2_with (first | ((with_reducible refine gate_dst (N := 2) rfl ?_); refine ev_boxs S ?_ 2 rfl rfl rfl ?_; (first | exact want0 rfl | exact want1 rfl rfl rfl rfl); intro g2 w2 S_; clear S; have S := S_; clear S_) | ((with_reducible refine gate_dst (N := 3) rfl ?_); refine ev_boxs S ?_ 3 rfl rfl rfl ?_; (first | exact want0 rfl | exact want1 rfl rfl rfl rfl); intro g3 w3 S_; clear S; have S := S_; clear S_) | (refine ev_owns (vs := [_, _, _, _, _, _]) S ?_ rfl m26 rfl (by repeat (first | exact Spot.here _ _ | apply Spot.there)) (by exact rfl) ?_; (first | exact want0 rfl | exact want1 rfl rfl rfl rfl)) | (go_at_call 9; have c_ := budwoodref10_Size.calls 6 anm Aa1 ca1 aex Aa2 ca2 aim Aa3 ca3 aco Aa4 ca4 ada Aa5 ca5 are na _ (HMa.out.below S.out.below).r1 (HMa.out.below S.out.below).l1 (HMa.out.below S.out.below).r2 (HMa.out.below S.out.below).l2 (HMa.out.below S.out.below).r3 (HMa.out.below S.out.below).l3 (HMa.out.below S.out.below).r4 (HMa.out.below S.out.below).l4 (HMa.out.below S.out.below).r5 (HMa.out.below S.out.below).l5 HSa.out; (with_reducible refine c_.mono ?_); clear c_; rintro z_ w_ ⟨rfl, hb_⟩; have hb2_ := hb_; have S_ := Aside0.mk (S.out.keep hb2_); clear hb2_ hb_; clear S; have S := S_; clear S_) | (go_at_call 9; have c_ := budwoodref10_Size.calls 6 bnm Ab1 cb1 bex Ab2 cb2 bim Ab3 cb3 bco Ab4 cb4 bda Ab5 cb5 bre nb _ (HMb.out.below S.out.below).r1 (HMb.out.below S.out.below).l1 (HMb.out.below S.out.below).r2 (HMb.out.below S.out.below).l2 (HMb.out.below S.out.below).r3 (HMb.out.below S.out.below).l3 (HMb.out.below S.out.below).r4 (HMb.out.below S.out.below).l4 (HMb.out.below S.out.below).r5 (HMb.out.below S.out.below).l5 HSb.out; (with_reducible refine c_.mono ?_); clear c_; rintro z_ w_ ⟨rfl, hb_⟩; have hb2_ := hb_; have S_ := Aside0.mk (S.out.keep hb2_); clear hb2_ hb_; clear S; have S := S_; clear S_) | (go_at_call 10; (with_reducible refine (awake_calls _).mono ?_); rintro z_ w_ ⟨rfl, hb_⟩; have hb2_ := hb_; have S_ := Aside0.mk (S.out.keep hb2_); clear hb2_ hb_; clear S; have S := S_; clear S_))
    go_ret
    exact ⟨rfl, S.out.below⟩
  have d2 : decide (nb > 2000) = false := decide_eq_false h2
  have HQa2 := Aside0.mk (HQa.out (Int.not_lt.1 h1))
  have HQb2 := Aside0.mk (HQb.out (Int.not_lt.1 h2))
  clear HQa HQb h1 h2
  obtain ⟨fa, hfa0⟩ : ∃ f, chk anm aex aim aco ada are = f := ⟨_, rfl⟩
  obtain ⟨fb, hfb0⟩ : ∃ f, chk bnm bex bim bco bda bre = f := ⟨_, rfl⟩
  obtain ⟨ena, hea⟩ : ∃ l, enc anm aex aim aco ada are = l := ⟨_, rfl⟩
  obtain ⟨enb, heb⟩ : ∃ l, enc bnm bex bim bco bda bre = l := ⟨_, rfl⟩
  have HFa := Aside0.mk hfa0
  have HFb := Aside0.mk hfb0
  have HEa := Aside0.mk hea
  have HEb := Aside0.mk heb
  clear hfa0 hfb0 hea heb
  have ea : (fa == fa) = true := by simp
  have eb : (fb == fb) = true := by simp
  cases hfa : (fa != 0) with
  | true =>
    cases hfb : (fb != 0) with
    | true =>
      go_enter Try.func7, Try.ntmps7; go_wp2_with (first | ((with_reducible refine gate_dst (N := 2) rfl ?_); refine ev_boxs S ?_ 2 rfl rfl rfl ?_; (first | exact want0 rfl | exact want1 rfl rfl rfl rfl); intro g2 w2 S_; clear S; have S := S_; clear S_) | ((with_reducible refine gate_dst (N := 3) rfl ?_); refine ev_boxs S ?_ 3 rfl rfl rfl ?_; (first | exact want0 rfl | exact want1 rfl rfl rfl rfl); intro g3 w3 S_; clear S; have S := S_; clear S_) | (refine ev_owns (vs := [_, _, _, _, _, _]) S ?_ rfl m26 rfl (by repeat (first | exact Spot.here _ _ | apply Spot.there)) (by exact rfl) ?_; (first | exact want0 rfl | exact want1 rfl rfl rfl rfl)) | (go_at_call 9; have c_ := budwoodref10_Size.calls 6 anm Aa1 ca1 aex Aa2 ca2 aim Aa3 ca3 aco Aa4 ca4 ada Aa5 ca5 are na _ (HMa.out.below S.out.below).r1 (HMa.out.below S.out.below).l1 (HMa.out.below S.out.below).r2 (HMa.out.below S.out.below).l2 (HMa.out.below S.out.below).r3 (HMa.out.below S.out.below).l3 (HMa.out.below S.out.below).r4 (HMa.out.below S.out.below).l4 (HMa.out.below S.out.below).r5 (HMa.out.below S.out.below).l5 HSa.out; (with_reducible refine c_.mono ?_); clear c_; rintro z_ w_ ⟨rfl, hb_⟩; have hb2_ := hb_; have S_ := Aside0.mk (S.out.keep hb2_); clear hb2_ hb_; clear S; have S := S_; clear S_) | (go_at_call 9; have c_ := budwoodref10_Size.calls 6 bnm Ab1 cb1 bex Ab2 cb2 bim Ab3 cb3 bco Ab4 cb4 bda Ab5 cb5 bre nb _ (HMb.out.below S.out.below).r1 (HMb.out.below S.out.below).l1 (HMb.out.below S.out.below).r2 (HMb.out.below S.out.below).l2 (HMb.out.below S.out.below).r3 (HMb.out.below S.out.below).l3 (HMb.out.below S.out.below).r4 (HMb.out.below S.out.below).l4 (HMb.out.below S.out.below).r5 (HMb.out.below S.out.below).l5 HSb.out; (with_reducible refine c_.mono ?_); clear c_; rintro z_ w_ ⟨rfl, hb_⟩; have hb2_ := hb_; have S_ := Aside0.mk (S.out.keep hb2_); clear hb2_ hb_; clear S; have S := S_; clear S_) | (go_at_call 10; (with_reducible refine (awake_calls _).mono ?_); rintro z_ w_ ⟨rfl, hb_⟩; have hb2_ := hb_; have S_ := Aside0.mk (S.out.keep hb2_); clear hb2_ hb_; clear S; have S := S_; clear S_) | (go_at_call 12; (with_reducible refine (put_no anm Aa1 ca1 aex Aa2 ca2 aim Aa3 ca3 aco Aa4 ca4 ada Aa5 ca5 are _ (HMa.out.below S.out.below) fa HFa.out hfa).mono ?_); rintro z_ w_ ⟨rfl, hb_⟩; have hb2_ := hb_; have S_ := Aside0.mk (S.out.keep hb2_); clear hb2_ hb_; clear S; have S := S_; clear S_) | (go_at_call 12; (with_reducible refine (put_no bnm Ab1 cb1 bex Ab2 cb2 bim Ab3 cb3 bco Ab4 cb4 bda Ab5 cb5 bre _ (HMb.out.below S.out.below) fb HFb.out hfb).mono ?_); rintro z_ w_ ⟨rfl, hb_⟩; have hb2_ := hb_; have S_ := Aside0.mk (S.out.keep hb2_); clear hb2_ hb_; clear S; have S := S_; clear S_) | (go_at_call 14; (with_reducible refine (check_calls anm Aa1 ca1 aex Aa2 ca2 aim Aa3 ca3 aco Aa4 ca4 ada Aa5 ca5 are _ (HMa.out.below S.out.below)).mono ?_); rintro z_ w_ ⟨rfl, hb_⟩; rw [HFa.out]; have hb2_ := hb_; have S_ := Aside0.mk (S.out.keep hb2_); clear hb2_ hb_; clear S; have S := S_; clear S_) | (go_at_call 14; (with_reducible refine (check_calls bnm Ab1 cb1 bex Ab2 cb2 bim Ab3 cb3 bco Ab4 cb4 bda Ab5 cb5 bre _ (HMb.out.below S.out.below)).mono ?_); rintro z_ w_ ⟨rfl, hb_⟩; rw [HFb.out]; have hb2_ := hb_; have S_ := Aside0.mk (S.out.keep hb2_); clear hb2_ hb_; clear S; have S := S_; clear S_))
      go_ret
      exact ⟨rfl, S.out.below⟩
    | false =>
      obtain rfl : fb = 0 := by simpa using hfb
      go_enter Try.func7, Try.ntmps7; go_wp2_with (first | ((with_reducible refine gate_dst (N := 2) rfl ?_); refine ev_boxs S ?_ 2 rfl rfl rfl ?_; (first | exact want0 rfl | exact want1 rfl rfl rfl rfl); intro g2 w2 S_; clear S; have S := S_; clear S_) | ((with_reducible refine gate_dst (N := 3) rfl ?_); refine ev_boxs S ?_ 3 rfl rfl rfl ?_; (first | exact want0 rfl | exact want1 rfl rfl rfl rfl); intro g3 w3 S_; clear S; have S := S_; clear S_) | (refine ev_owns (vs := [_, _, _, _, _, _]) S ?_ rfl m26 rfl (by repeat (first | exact Spot.here _ _ | apply Spot.there)) (by exact rfl) ?_; (first | exact want0 rfl | exact want1 rfl rfl rfl rfl)) | (go_at_call 9; have c_ := budwoodref10_Size.calls 6 anm Aa1 ca1 aex Aa2 ca2 aim Aa3 ca3 aco Aa4 ca4 ada Aa5 ca5 are na _ (HMa.out.below S.out.below).r1 (HMa.out.below S.out.below).l1 (HMa.out.below S.out.below).r2 (HMa.out.below S.out.below).l2 (HMa.out.below S.out.below).r3 (HMa.out.below S.out.below).l3 (HMa.out.below S.out.below).r4 (HMa.out.below S.out.below).l4 (HMa.out.below S.out.below).r5 (HMa.out.below S.out.below).l5 HSa.out; (with_reducible refine c_.mono ?_); clear c_; rintro z_ w_ ⟨rfl, hb_⟩; have hb2_ := hb_; have S_ := Aside0.mk (S.out.keep hb2_); clear hb2_ hb_; clear S; have S := S_; clear S_) | (go_at_call 9; have c_ := budwoodref10_Size.calls 6 bnm Ab1 cb1 bex Ab2 cb2 bim Ab3 cb3 bco Ab4 cb4 bda Ab5 cb5 bre nb _ (HMb.out.below S.out.below).r1 (HMb.out.below S.out.below).l1 (HMb.out.below S.out.below).r2 (HMb.out.below S.out.below).l2 (HMb.out.below S.out.below).r3 (HMb.out.below S.out.below).l3 (HMb.out.below S.out.below).r4 (HMb.out.below S.out.below).l4 (HMb.out.below S.out.below).r5 (HMb.out.below S.out.below).l5 HSb.out; (with_reducible refine c_.mono ?_); clear c_; rintro z_ w_ ⟨rfl, hb_⟩; have hb2_ := hb_; have S_ := Aside0.mk (S.out.keep hb2_); clear hb2_ hb_; clear S; have S := S_; clear S_) | (go_at_call 10; (with_reducible refine (awake_calls _).mono ?_); rintro z_ w_ ⟨rfl, hb_⟩; have hb2_ := hb_; have S_ := Aside0.mk (S.out.keep hb2_); clear hb2_ hb_; clear S; have S := S_; clear S_) | (go_at_call 12; (with_reducible refine (put_no anm Aa1 ca1 aex Aa2 ca2 aim Aa3 ca3 aco Aa4 ca4 ada Aa5 ca5 are _ (HMa.out.below S.out.below) fa HFa.out hfa).mono ?_); rintro z_ w_ ⟨rfl, hb_⟩; have hb2_ := hb_; have S_ := Aside0.mk (S.out.keep hb2_); clear hb2_ hb_; clear S; have S := S_; clear S_) | (go_at_call 12; (with_reducible refine (put_okl bnm Ab1 cb1 bex Ab2 cb2 bim Ab3 cb3 bco Ab4 cb4 bda Ab5 cb5 bre _ (HMb.out.below S.out.below) _ HFb.out hfb enb HEb.out).mono ?_); rintro z_ w_ ⟨A26, c26, rfl, h1_, h2_, hb_⟩; have S_ := Aside0.mk (St.add S.out hb_ _ h1_ h2_); clear h1_ h2_ hb_; clear S; have S := S_; clear S_) | (go_at_call 14; (with_reducible refine (check_calls anm Aa1 ca1 aex Aa2 ca2 aim Aa3 ca3 aco Aa4 ca4 ada Aa5 ca5 are _ (HMa.out.below S.out.below)).mono ?_); rintro z_ w_ ⟨rfl, hb_⟩; rw [HFa.out]; have hb2_ := hb_; have S_ := Aside0.mk (S.out.keep hb2_); clear hb2_ hb_; clear S; have S := S_; clear S_) | (go_at_call 14; (with_reducible refine (check_calls bnm Ab1 cb1 bex Ab2 cb2 bim Ab3 cb3 bco Ab4 cb4 bda Ab5 cb5 bre _ (HMb.out.below S.out.below)).mono ?_); rintro z_ w_ ⟨rfl, hb_⟩; rw [HFb.out]; have hb2_ := hb_; have S_ := Aside0.mk (S.out.keep hb2_); clear hb2_ hb_; clear S; have S := S_; clear S_))
      go_ret
      exact ⟨rfl, S.out.below⟩
  | false =>
    obtain rfl : fa = 0 := by simpa using hfa
    cases hfb : (fb != 0) with
    | true =>
      go_enter Try.func7, Try.ntmps7; go_wp2_with (first | ((with_reducible refine gate_dst (N := 2) rfl ?_); refine ev_boxs S ?_ 2 rfl rfl rfl ?_; (first | exact want0 rfl | exact want1 rfl rfl rfl rfl); intro g2 w2 S_; clear S; have S := S_; clear S_) | ((with_reducible refine gate_dst (N := 3) rfl ?_); refine ev_boxs S ?_ 3 rfl rfl rfl ?_; (first | exact want0 rfl | exact want1 rfl rfl rfl rfl); intro g3 w3 S_; clear S; have S := S_; clear S_) | (refine ev_owns (vs := [_, _, _, _, _, _]) S ?_ rfl m26 rfl (by repeat (first | exact Spot.here _ _ | apply Spot.there)) (by exact rfl) ?_; (first | exact want0 rfl | exact want1 rfl rfl rfl rfl)) | (go_at_call 9; have c_ := budwoodref10_Size.calls 6 anm Aa1 ca1 aex Aa2 ca2 aim Aa3 ca3 aco Aa4 ca4 ada Aa5 ca5 are na _ (HMa.out.below S.out.below).r1 (HMa.out.below S.out.below).l1 (HMa.out.below S.out.below).r2 (HMa.out.below S.out.below).l2 (HMa.out.below S.out.below).r3 (HMa.out.below S.out.below).l3 (HMa.out.below S.out.below).r4 (HMa.out.below S.out.below).l4 (HMa.out.below S.out.below).r5 (HMa.out.below S.out.below).l5 HSa.out; (with_reducible refine c_.mono ?_); clear c_; rintro z_ w_ ⟨rfl, hb_⟩; have hb2_ := hb_; have S_ := Aside0.mk (S.out.keep hb2_); clear hb2_ hb_; clear S; have S := S_; clear S_) | (go_at_call 9; have c_ := budwoodref10_Size.calls 6 bnm Ab1 cb1 bex Ab2 cb2 bim Ab3 cb3 bco Ab4 cb4 bda Ab5 cb5 bre nb _ (HMb.out.below S.out.below).r1 (HMb.out.below S.out.below).l1 (HMb.out.below S.out.below).r2 (HMb.out.below S.out.below).l2 (HMb.out.below S.out.below).r3 (HMb.out.below S.out.below).l3 (HMb.out.below S.out.below).r4 (HMb.out.below S.out.below).l4 (HMb.out.below S.out.below).r5 (HMb.out.below S.out.below).l5 HSb.out; (with_reducible refine c_.mono ?_); clear c_; rintro z_ w_ ⟨rfl, hb_⟩; have hb2_ := hb_; have S_ := Aside0.mk (S.out.keep hb2_); clear hb2_ hb_; clear S; have S := S_; clear S_) | (go_at_call 10; (with_reducible refine (awake_calls _).mono ?_); rintro z_ w_ ⟨rfl, hb_⟩; have hb2_ := hb_; have S_ := Aside0.mk (S.out.keep hb2_); clear hb2_ hb_; clear S; have S := S_; clear S_) | (go_at_call 12; (with_reducible refine (put_okl anm Aa1 ca1 aex Aa2 ca2 aim Aa3 ca3 aco Aa4 ca4 ada Aa5 ca5 are _ (HMa.out.below S.out.below) _ HFa.out hfa ena HEa.out).mono ?_); rintro z_ w_ ⟨A21, c21, rfl, h1_, h2_, hb_⟩; have S_ := Aside0.mk (St.add S.out hb_ _ h1_ h2_); clear h1_ h2_ hb_; clear S; have S := S_; clear S_) | (go_at_call 12; (with_reducible refine (put_no bnm Ab1 cb1 bex Ab2 cb2 bim Ab3 cb3 bco Ab4 cb4 bda Ab5 cb5 bre _ (HMb.out.below S.out.below) fb HFb.out hfb).mono ?_); rintro z_ w_ ⟨rfl, hb_⟩; have hb2_ := hb_; have S_ := Aside0.mk (S.out.keep hb2_); clear hb2_ hb_; clear S; have S := S_; clear S_) | (go_at_call 14; (with_reducible refine (check_calls anm Aa1 ca1 aex Aa2 ca2 aim Aa3 ca3 aco Aa4 ca4 ada Aa5 ca5 are _ (HMa.out.below S.out.below)).mono ?_); rintro z_ w_ ⟨rfl, hb_⟩; rw [HFa.out]; have hb2_ := hb_; have S_ := Aside0.mk (S.out.keep hb2_); clear hb2_ hb_; clear S; have S := S_; clear S_) | (go_at_call 14; (with_reducible refine (check_calls bnm Ab1 cb1 bex Ab2 cb2 bim Ab3 cb3 bco Ab4 cb4 bda Ab5 cb5 bre _ (HMb.out.below S.out.below)).mono ?_); rintro z_ w_ ⟨rfl, hb_⟩; rw [HFb.out]; have hb2_ := hb_; have S_ := Aside0.mk (S.out.keep hb2_); clear hb2_ hb_; clear S; have S := S_; clear S_))
      go_ret
      exact ⟨rfl, S.out.below⟩
    | false =>
      obtain rfl : fb = 0 := by simpa using hfb
      have ka := chk_ok HFa.out
      have kb := chk_ok HFb.out
      obtain ⟨r, hr⟩ : ∃ r, sm anm aex aim aco ada are bnm bex bim bco bda bre = r := ⟨_, rfl⟩
      have HSM := Aside0.mk ((same_f (k := 1000001) (nm := anm) (ex := aex) (im := aim) (co := aco) (da := ada) (re := are) (nm' := bnm) (ex' := bex) (im' := bim) (co' := bco) (da' := bda) (re' := bre) (by have := HQa2.out.1; omega) (by have := HQa2.out.2.1; omega) (by have := HQa2.out.2.2.1; omega) (by have := HQa2.out.2.2.2.1; omega) (by have := HQa2.out.2.2.2.2; omega) (by decide)).trans (by rw [hr]))
      obtain ⟨sa, hsa⟩ : ∃ s, strOfNums ena = s := ⟨_, rfl⟩
      obtain ⟨sb, hsb⟩ : ∃ s, strOfNums enb = s := ⟨_, rfl⟩
      have HTA := Aside0.mk hsa
      have HTB := Aside0.mk hsb
      have hkey : decide (sa = sb) = r := by
        rw [← hr]
        unfold sm
        apply decide_eq_decide.2
        constructor
        · intro h
          rw [← hsa, ← hsb] at h
          have h3 := str_inj (by rw [← HEa.out]; exact tail_byte ka (rb_of ka HWa.out.2.2)) (by rw [← HEb.out]; exact tail_byte kb (rb_of kb HWb.out.2.2)) h
          rw [← HEa.out, ← HEb.out, enc_tail, enc_tail] at h3
          exact enc_inj ka kb HWa.out.1 HWa.out.2.1 (rb_of ka HWa.out.2.2) HWb.out.1 HWb.out.2.1 (rb_of kb HWb.out.2.2) (List.append_cancel_left h3) (Nat.le_trans (tail_le ka) (by decide))
        · rintro ⟨e1, e2, e3, e4, e5, e6⟩
          rw [← hsa, ← hsb, ← HEa.out, ← HEb.out, e1, e2, e3, e4, e5, e6]
      have hsr : ((sa.toList == sb.toList) == r) = true := by
        rw [← hkey]
        by_cases h : sa = sb
        · simp [h]
        · have h2 : ¬ sa.toList = sb.toList := fun e => h (by
            apply ByteArray.ext
            apply Array.ext'
            rw [ByteArray.toList_eq, ByteArray.toList_eq] at e
            exact e)
          simp [h, h2]
      clear hr hsa hsb hkey ka kb
      go_enter Try.func7, Try.ntmps7; go_wp2_with (first | ((with_reducible refine gate_dst (N := 2) rfl ?_); refine ev_boxs S ?_ 2 rfl rfl rfl ?_; (first | exact want0 rfl | exact want1 rfl rfl rfl rfl); intro g2 w2 S_; clear S; have S := S_; clear S_) | ((with_reducible refine gate_dst (N := 3) rfl ?_); refine ev_boxs S ?_ 3 rfl rfl rfl ?_; (first | exact want0 rfl | exact want1 rfl rfl rfl rfl); intro g3 w3 S_; clear S; have S := S_; clear S_) | (refine ev_owns (vs := [_, _, _, _, _, _]) S ?_ rfl m26 rfl (by repeat (first | exact Spot.here _ _ | apply Spot.there)) (by exact rfl) ?_; (first | exact want0 rfl | exact want1 rfl rfl rfl rfl)) | (go_at_call 9; have c_ := budwoodref10_Size.calls 6 anm Aa1 ca1 aex Aa2 ca2 aim Aa3 ca3 aco Aa4 ca4 ada Aa5 ca5 are na _ (HMa.out.below S.out.below).r1 (HMa.out.below S.out.below).l1 (HMa.out.below S.out.below).r2 (HMa.out.below S.out.below).l2 (HMa.out.below S.out.below).r3 (HMa.out.below S.out.below).l3 (HMa.out.below S.out.below).r4 (HMa.out.below S.out.below).l4 (HMa.out.below S.out.below).r5 (HMa.out.below S.out.below).l5 HSa.out; (with_reducible refine c_.mono ?_); clear c_; rintro z_ w_ ⟨rfl, hb_⟩; have hb2_ := hb_; have S_ := Aside0.mk (S.out.keep hb2_); clear hb2_ hb_; clear S; have S := S_; clear S_) | (go_at_call 9; have c_ := budwoodref10_Size.calls 6 bnm Ab1 cb1 bex Ab2 cb2 bim Ab3 cb3 bco Ab4 cb4 bda Ab5 cb5 bre nb _ (HMb.out.below S.out.below).r1 (HMb.out.below S.out.below).l1 (HMb.out.below S.out.below).r2 (HMb.out.below S.out.below).l2 (HMb.out.below S.out.below).r3 (HMb.out.below S.out.below).l3 (HMb.out.below S.out.below).r4 (HMb.out.below S.out.below).l4 (HMb.out.below S.out.below).r5 (HMb.out.below S.out.below).l5 HSb.out; (with_reducible refine c_.mono ?_); clear c_; rintro z_ w_ ⟨rfl, hb_⟩; have hb2_ := hb_; have S_ := Aside0.mk (S.out.keep hb2_); clear hb2_ hb_; clear S; have S := S_; clear S_) | (go_at_call 10; (with_reducible refine (awake_calls _).mono ?_); rintro z_ w_ ⟨rfl, hb_⟩; have hb2_ := hb_; have S_ := Aside0.mk (S.out.keep hb2_); clear hb2_ hb_; clear S; have S := S_; clear S_) | (go_at_call 12; (with_reducible refine (put_okl anm Aa1 ca1 aex Aa2 ca2 aim Aa3 ca3 aco Aa4 ca4 ada Aa5 ca5 are _ (HMa.out.below S.out.below) _ HFa.out hfa ena HEa.out).mono ?_); rintro z_ w_ ⟨A21, c21, rfl, h1_, h2_, hb_⟩; have S_ := Aside0.mk (St.add S.out hb_ _ h1_ h2_); clear h1_ h2_ hb_; clear S; have S := S_; clear S_) | (go_at_call 12; (with_reducible refine (put_okl bnm Ab1 cb1 bex Ab2 cb2 bim Ab3 cb3 bco Ab4 cb4 bda Ab5 cb5 bre _ (HMb.out.below S.out.below) _ HFb.out hfb enb HEb.out).mono ?_); rintro z_ w_ ⟨A26, c26, rfl, h1_, h2_, hb_⟩; have S_ := Aside0.mk (St.add S.out hb_ _ h1_ h2_); clear h1_ h2_ hb_; clear S; have S := S_; clear S_) | (go_at_call 14; (with_reducible refine (check_calls anm Aa1 ca1 aex Aa2 ca2 aim Aa3 ca3 aco Aa4 ca4 ada Aa5 ca5 are _ (HMa.out.below S.out.below)).mono ?_); rintro z_ w_ ⟨rfl, hb_⟩; rw [HFa.out]; have hb2_ := hb_; have S_ := Aside0.mk (S.out.keep hb2_); clear hb2_ hb_; clear S; have S := S_; clear S_) | (go_at_call 14; (with_reducible refine (check_calls bnm Ab1 cb1 bex Ab2 cb2 bim Ab3 cb3 bco Ab4 cb4 bda Ab5 cb5 bre _ (HMb.out.below S.out.below)).mono ?_); rintro z_ w_ ⟨rfl, hb_⟩; rw [HFb.out]; have hb2_ := hb_; have S_ := Aside0.mk (S.out.keep hb2_); clear hb2_ hb_; clear S; have S := S_; clear S_))
      have S2 := Aside0.mk S.out.drew
      clear S
      refine start_ (n := 13) (S := fun w' => w'.cell? ⟨g2, 0, none⟩ = some (.string anm) ∧ w'.cell? ⟨g2, 1, none⟩ = some (.slice Aa1 aex.length ca1) ∧ w'.cell? ⟨g2, 2, none⟩ = some (.slice Aa2 aim.length ca2) ∧ w'.cell? ⟨g2, 3, none⟩ = some (.slice Aa3 aco.length ca3) ∧ w'.cell? ⟨g2, 4, none⟩ = some (.slice Aa4 ada.length ca4) ∧ w'.cell? ⟨g2, 5, none⟩ = some (.slice Aa5 are.length ca5) ∧ w'.cell? ⟨g3, 0, none⟩ = some (.string bnm) ∧ w'.cell? ⟨g3, 1, none⟩ = some (.slice Ab1 bex.length cb1) ∧ w'.cell? ⟨g3, 2, none⟩ = some (.slice Ab2 bim.length cb2) ∧ w'.cell? ⟨g3, 3, none⟩ = some (.slice Ab3 bco.length cb3) ∧ w'.cell? ⟨g3, 4, none⟩ = some (.slice Ab4 bda.length cb4) ∧ w'.cell? ⟨g3, 5, none⟩ = some (.slice Ab5 bre.length cb5)) (ds := []) #[false, false, false, false, false, false, false, false, false, false, false, false, false] (by kernel_rfl) rfl rfl ⟨((own_cell (g := g2) S2 (by repeat (first | exact Spot.here _ _ | apply Spot.there)) 0).trans rfl), ((own_cell (g := g2) S2 (by repeat (first | exact Spot.here _ _ | apply Spot.there)) 1).trans rfl), ((own_cell (g := g2) S2 (by repeat (first | exact Spot.here _ _ | apply Spot.there)) 2).trans rfl), ((own_cell (g := g2) S2 (by repeat (first | exact Spot.here _ _ | apply Spot.there)) 3).trans rfl), ((own_cell (g := g2) S2 (by repeat (first | exact Spot.here _ _ | apply Spot.there)) 4).trans rfl), ((own_cell (g := g2) S2 (by repeat (first | exact Spot.here _ _ | apply Spot.there)) 5).trans rfl), ((own_cell (g := g3) S2 (by repeat (first | exact Spot.here _ _ | apply Spot.there)) 0).trans rfl), ((own_cell (g := g3) S2 (by repeat (first | exact Spot.here _ _ | apply Spot.there)) 1).trans rfl), ((own_cell (g := g3) S2 (by repeat (first | exact Spot.here _ _ | apply Spot.there)) 2).trans rfl), ((own_cell (g := g3) S2 (by repeat (first | exact Spot.here _ _ | apply Spot.there)) 3).trans rfl), ((own_cell (g := g3) S2 (by repeat (first | exact Spot.here _ _ | apply Spot.there)) 4).trans rfl), ((own_cell (g := g3) S2 (by repeat (first | exact Spot.here _ _ | apply Spot.there)) 5).trans rfl)⟩ (fun hHeld => ?_)
      refine pure_ (i := 0) (N := some 47) (v := ?_) (a' := ?_) #[true, false, false, false, false, false, false, false, false, false, false, false, false] rfl rfl (by kernel_rfl) (fun _ _ _ h => h) (Or.inl ⟨by rfl, ?_⟩) ?_ ?_
      rotate_left
      · intro w'
        go_simp
        with_reducible rfl
      rotate_left
      · simp only [Act.put, List.setIfInBounds_toArray, List.set_cons_zero, List.set_cons_succ, i64_w, i32_w]
        rfl
      refine pure_ (i := 2) (N := some 49) (v := ?_) (a' := ?_) #[true, false, true, false, false, false, false, false, false, false, false, false, false] rfl rfl (by kernel_rfl) (fun _ _ _ h => h) (Or.inl ⟨by rfl, ?_⟩) ?_ ?_
      rotate_left
      · intro w'
        go_simp
        with_reducible rfl
      rotate_left
      · simp only [Act.put, List.setIfInBounds_toArray, List.set_cons_zero, List.set_cons_succ, i64_w, i32_w]
        rfl
      refine take_ (i := 5) (N := some 52) (v := ?_) (a' := ?_) #[true, false, true, false, false, true, false, false, false, false, false, false, false] rfl rfl (by kernel_rfl) (fun _ _ _ h => h) (Or.inl ⟨by rfl, ?_⟩) hHeld ?_ ?_
      rotate_left
      · rintro w' ⟨s0, s1, s2, s3, s4, s5, s6, s7, s8, s9, s10, s11⟩
        go_simp
        with_reducible rfl
      rotate_left
      · simp only [Act.put, List.setIfInBounds_toArray, List.set_cons_zero, List.set_cons_succ, i64_w, i32_w]
        rfl
      refine take_ (i := 6) (N := some 53) (v := ?_) (a' := ?_) #[true, false, true, false, false, true, true, false, false, false, false, false, false] rfl rfl (by kernel_rfl) (fun _ _ _ h => h) (Or.inl ⟨by rfl, ?_⟩) hHeld ?_ ?_
      rotate_left
      · rintro w' ⟨s0, s1, s2, s3, s4, s5, s6, s7, s8, s9, s10, s11⟩
        go_simp
        with_reducible rfl
      rotate_left
      · simp only [Act.put, List.setIfInBounds_toArray, List.set_cons_zero, List.set_cons_succ, i64_w, i32_w]
        rfl
      refine join_ (σ := Unit) 5 #[true, true, true, true, true, true, true, true, false, false, false, false, false] (fun _ => [(48, .string sa), (50, .string sb), (54, .bool r), (51, .bool (sa.toList == sb.toList))]) (fun _ w' => Aside0 (St w.heap.size w w' [Ow (Kd.int .u8) 5 A26 c26 enb, Ow (Kd.int .u8) 5 A21 c21 ena, Bk g3 #[.string bnm, .slice Ab1 bex.length cb1, .slice Ab2 bim.length cb2, .slice Ab3 bco.length cb3, .slice Ab4 bda.length cb4, .slice Ab5 bre.length cb5] 26, Bk g2 #[.string anm, .slice Aa1 aex.length ca1, .slice Aa2 aim.length ca2, .slice Aa3 aco.length ca3, .slice Aa4 ada.length ca4, .slice Aa5 are.length ca5] 26])) ?_ ?_
      rotate_left
      · intro hCont
        refine three_ (i := 1) (j := 3) (k := 7) (Ni := some 48) (Nj := some 50) (Nk := some 54) #[true, true, true, false, false, true, true, false, false, false, false, false, false] #[true, false, true, true, false, true, true, false, false, false, false, false, false] #[true, false, true, false, false, true, true, true, false, false, false, false, false] rfl rfl rfl rfl rfl rfl (by kernel_rfl) (by decide) (by decide) (by decide) (fun K hK => ?_) (fun K hK => ?_) (fun K hK => ?_)
        · skip
          refine st_str (xs := ena) (s := sa) (by rfl) 48 rfl rfl rfl rfl (Ow.reads (pred_at S2.out (a := Ow (Kd.int .u8) 5 A21 c21 ena) (by repeat (first | exact Spot.here _ _ | apply Spot.there)))) HTA.out ?_
          refine hK.out _ _ ⟨((own_cell (g := g2) S2 (by repeat (first | exact Spot.here _ _ | apply Spot.there)) 0).trans rfl), ((own_cell (g := g2) S2 (by repeat (first | exact Spot.here _ _ | apply Spot.there)) 1).trans rfl), ((own_cell (g := g2) S2 (by repeat (first | exact Spot.here _ _ | apply Spot.there)) 2).trans rfl), ((own_cell (g := g2) S2 (by repeat (first | exact Spot.here _ _ | apply Spot.there)) 3).trans rfl), ((own_cell (g := g2) S2 (by repeat (first | exact Spot.here _ _ | apply Spot.there)) 4).trans rfl), ((own_cell (g := g2) S2 (by repeat (first | exact Spot.here _ _ | apply Spot.there)) 5).trans rfl), ((own_cell (g := g3) S2 (by repeat (first | exact Spot.here _ _ | apply Spot.there)) 0).trans rfl), ((own_cell (g := g3) S2 (by repeat (first | exact Spot.here _ _ | apply Spot.there)) 1).trans rfl), ((own_cell (g := g3) S2 (by repeat (first | exact Spot.here _ _ | apply Spot.there)) 2).trans rfl), ((own_cell (g := g3) S2 (by repeat (first | exact Spot.here _ _ | apply Spot.there)) 3).trans rfl), ((own_cell (g := g3) S2 (by repeat (first | exact Spot.here _ _ | apply Spot.there)) 4).trans rfl), ((own_cell (g := g3) S2 (by repeat (first | exact Spot.here _ _ | apply Spot.there)) 5).trans rfl)⟩ (fun hHeld => ?_)
          clear hK K
          refine norm_ (a' := ?_) ?_ ?_
          rotate_left
          · show Act.put _ (some 48) _ = _
            simp only [Act.put, List.setIfInBounds_toArray, List.set_cons_zero, List.set_cons_succ, i64_w, i32_w]
            rfl
          refine two_ (i := 3) (j := 7) (Ni := some 50) (Nj := some 54) #[true, true, true, true, false, true, true, false, false, false, false, false, false] #[true, true, true, false, false, true, true, true, false, false, false, false, false] rfl rfl rfl rfl (by kernel_rfl) (by decide) (by decide) (fun K hK => ?_) (fun K hK => ?_)
          · skip
            refine st_str (xs := enb) (s := sb) (by rfl) 50 rfl rfl rfl rfl (Ow.reads (pred_at S2.out (a := Ow (Kd.int .u8) 5 A26 c26 enb) (by repeat (first | exact Spot.here _ _ | apply Spot.there)))) HTB.out ?_
            refine hK.out _ _ ⟨((own_cell (g := g2) S2 (by repeat (first | exact Spot.here _ _ | apply Spot.there)) 0).trans rfl), ((own_cell (g := g2) S2 (by repeat (first | exact Spot.here _ _ | apply Spot.there)) 1).trans rfl), ((own_cell (g := g2) S2 (by repeat (first | exact Spot.here _ _ | apply Spot.there)) 2).trans rfl), ((own_cell (g := g2) S2 (by repeat (first | exact Spot.here _ _ | apply Spot.there)) 3).trans rfl), ((own_cell (g := g2) S2 (by repeat (first | exact Spot.here _ _ | apply Spot.there)) 4).trans rfl), ((own_cell (g := g2) S2 (by repeat (first | exact Spot.here _ _ | apply Spot.there)) 5).trans rfl), ((own_cell (g := g3) S2 (by repeat (first | exact Spot.here _ _ | apply Spot.there)) 0).trans rfl), ((own_cell (g := g3) S2 (by repeat (first | exact Spot.here _ _ | apply Spot.there)) 1).trans rfl), ((own_cell (g := g3) S2 (by repeat (first | exact Spot.here _ _ | apply Spot.there)) 2).trans rfl), ((own_cell (g := g3) S2 (by repeat (first | exact Spot.here _ _ | apply Spot.there)) 3).trans rfl), ((own_cell (g := g3) S2 (by repeat (first | exact Spot.here _ _ | apply Spot.there)) 4).trans rfl), ((own_cell (g := g3) S2 (by repeat (first | exact Spot.here _ _ | apply Spot.there)) 5).trans rfl)⟩ (fun hHeld => ?_)
            clear hK K
            refine norm_ (a' := ?_) ?_ ?_
            rotate_left
            · show Act.put _ (some 50) _ = _
              simp only [Act.put, List.setIfInBounds_toArray, List.set_cons_zero, List.set_cons_succ, i64_w, i32_w]
              rfl
            refine pure_ (i := 4) (N := some 51) (v := ?_) (a' := ?_) #[true, true, true, true, true, true, true, false, false, false, false, false, false] rfl rfl (by kernel_rfl) (fun _ _ _ h => h) (Or.inl ⟨by rfl, ?_⟩) ?_ ?_
            rotate_left
            · intro w'
              go_simp
              with_reducible rfl
            rotate_left
            · simp only [Act.put, List.setIfInBounds_toArray, List.set_cons_zero, List.set_cons_succ, i64_w, i32_w]
              rfl
            refine one_ (i := 7) (N := some 54) #[true, true, true, true, true, true, true, true, false, false, false, false, false] rfl rfl (by kernel_rfl) (by decide) (fun K hK => ?_)
            refine goes_ Try.func19 (by kernel_rfl) rfl #[.agg #[.string anm, .slice Aa1 aex.length ca1, .slice Aa2 aim.length ca2, .slice Aa3 aco.length ca3, .slice Aa4 ada.length ca4, .slice Aa5 are.length ca5], .agg #[.string bnm, .slice Ab1 bex.length cb1, .slice Ab2 bim.length cb2, .slice Ab3 bco.length cb3, .slice Ab4 bda.length cb4, .slice Ab5 bre.length cb5]] (by rfl) rfl rfl (by simp only [List.map_toArray, List.map_cons, List.map_nil]; rfl) ?_
            with_reducible refine (object_Same.calls 1000001 anm Aa1 ca1 aex Aa2 ca2 aim Aa3 ca3 aco Aa4 ca4 ada Aa5 ca5 are bnm Ab1 cb1 bex Ab2 cb2 bim Ab3 cb3 bco Ab4 cb4 bda Ab5 cb5 bre r _ (HMa.out.below S2.out.below).r1 (HMa.out.below S2.out.below).l1 (HMa.out.below S2.out.below).r2 (HMa.out.below S2.out.below).l2 (HMa.out.below S2.out.below).r3 (HMa.out.below S2.out.below).l3 (HMa.out.below S2.out.below).r4 (HMa.out.below S2.out.below).l4 (HMa.out.below S2.out.below).r5 (HMa.out.below S2.out.below).l5 (HMb.out.below S2.out.below).r1 (HMb.out.below S2.out.below).l1 (HMb.out.below S2.out.below).r2 (HMb.out.below S2.out.below).l2 (HMb.out.below S2.out.below).r3 (HMb.out.below S2.out.below).l3 (HMb.out.below S2.out.below).r4 (HMb.out.below S2.out.below).l4 (HMb.out.below S2.out.below).r5 (HMb.out.below S2.out.below).l5 HSM.out).mono ?_
            rintro z9 w3 ⟨rfl, hb_⟩
            have S4 := Aside0.mk (S2.out.keep hb_)
            clear hb_
            refine ⟨_, rfl, ?_⟩
            refine hK.out _ _ ⟨((own_cell (g := g2) S4 (by repeat (first | exact Spot.here _ _ | apply Spot.there)) 0).trans rfl), ((own_cell (g := g2) S4 (by repeat (first | exact Spot.here _ _ | apply Spot.there)) 1).trans rfl), ((own_cell (g := g2) S4 (by repeat (first | exact Spot.here _ _ | apply Spot.there)) 2).trans rfl), ((own_cell (g := g2) S4 (by repeat (first | exact Spot.here _ _ | apply Spot.there)) 3).trans rfl), ((own_cell (g := g2) S4 (by repeat (first | exact Spot.here _ _ | apply Spot.there)) 4).trans rfl), ((own_cell (g := g2) S4 (by repeat (first | exact Spot.here _ _ | apply Spot.there)) 5).trans rfl), ((own_cell (g := g3) S4 (by repeat (first | exact Spot.here _ _ | apply Spot.there)) 0).trans rfl), ((own_cell (g := g3) S4 (by repeat (first | exact Spot.here _ _ | apply Spot.there)) 1).trans rfl), ((own_cell (g := g3) S4 (by repeat (first | exact Spot.here _ _ | apply Spot.there)) 2).trans rfl), ((own_cell (g := g3) S4 (by repeat (first | exact Spot.here _ _ | apply Spot.there)) 3).trans rfl), ((own_cell (g := g3) S4 (by repeat (first | exact Spot.here _ _ | apply Spot.there)) 4).trans rfl), ((own_cell (g := g3) S4 (by repeat (first | exact Spot.here _ _ | apply Spot.there)) 5).trans rfl)⟩ (fun hHeld => ?_)
            clear hK K
            refine norm_ (a' := ?_) ?_ ?_
            rotate_left
            · show Act.put _ (some 54) _ = _
              simp only [Act.put, List.setIfInBounds_toArray, List.set_cons_zero, List.set_cons_succ, i64_w, i32_w]
              rfl
            exact norm_ (by simp only [putAll, Act.put, List.setIfInBounds_toArray, List.set_cons_zero, List.set_cons_succ]) (hCont () _ S4)
          · skip
            refine goes_ Try.func19 (by kernel_rfl) rfl #[.agg #[.string anm, .slice Aa1 aex.length ca1, .slice Aa2 aim.length ca2, .slice Aa3 aco.length ca3, .slice Aa4 ada.length ca4, .slice Aa5 are.length ca5], .agg #[.string bnm, .slice Ab1 bex.length cb1, .slice Ab2 bim.length cb2, .slice Ab3 bco.length cb3, .slice Ab4 bda.length cb4, .slice Ab5 bre.length cb5]] (by rfl) rfl rfl (by simp only [List.map_toArray, List.map_cons, List.map_nil]; rfl) ?_
            with_reducible refine (object_Same.calls 1000001 anm Aa1 ca1 aex Aa2 ca2 aim Aa3 ca3 aco Aa4 ca4 ada Aa5 ca5 are bnm Ab1 cb1 bex Ab2 cb2 bim Ab3 cb3 bco Ab4 cb4 bda Ab5 cb5 bre r _ (HMa.out.below S2.out.below).r1 (HMa.out.below S2.out.below).l1 (HMa.out.below S2.out.below).r2 (HMa.out.below S2.out.below).l2 (HMa.out.below S2.out.below).r3 (HMa.out.below S2.out.below).l3 (HMa.out.below S2.out.below).r4 (HMa.out.below S2.out.below).l4 (HMa.out.below S2.out.below).r5 (HMa.out.below S2.out.below).l5 (HMb.out.below S2.out.below).r1 (HMb.out.below S2.out.below).l1 (HMb.out.below S2.out.below).r2 (HMb.out.below S2.out.below).l2 (HMb.out.below S2.out.below).r3 (HMb.out.below S2.out.below).l3 (HMb.out.below S2.out.below).r4 (HMb.out.below S2.out.below).l4 (HMb.out.below S2.out.below).r5 (HMb.out.below S2.out.below).l5 HSM.out).mono ?_
            rintro z9 w3 ⟨rfl, hb_⟩
            have S4 := Aside0.mk (S2.out.keep hb_)
            clear hb_
            refine ⟨_, rfl, ?_⟩
            refine hK.out _ _ ⟨((own_cell (g := g2) S4 (by repeat (first | exact Spot.here _ _ | apply Spot.there)) 0).trans rfl), ((own_cell (g := g2) S4 (by repeat (first | exact Spot.here _ _ | apply Spot.there)) 1).trans rfl), ((own_cell (g := g2) S4 (by repeat (first | exact Spot.here _ _ | apply Spot.there)) 2).trans rfl), ((own_cell (g := g2) S4 (by repeat (first | exact Spot.here _ _ | apply Spot.there)) 3).trans rfl), ((own_cell (g := g2) S4 (by repeat (first | exact Spot.here _ _ | apply Spot.there)) 4).trans rfl), ((own_cell (g := g2) S4 (by repeat (first | exact Spot.here _ _ | apply Spot.there)) 5).trans rfl), ((own_cell (g := g3) S4 (by repeat (first | exact Spot.here _ _ | apply Spot.there)) 0).trans rfl), ((own_cell (g := g3) S4 (by repeat (first | exact Spot.here _ _ | apply Spot.there)) 1).trans rfl), ((own_cell (g := g3) S4 (by repeat (first | exact Spot.here _ _ | apply Spot.there)) 2).trans rfl), ((own_cell (g := g3) S4 (by repeat (first | exact Spot.here _ _ | apply Spot.there)) 3).trans rfl), ((own_cell (g := g3) S4 (by repeat (first | exact Spot.here _ _ | apply Spot.there)) 4).trans rfl), ((own_cell (g := g3) S4 (by repeat (first | exact Spot.here _ _ | apply Spot.there)) 5).trans rfl)⟩ (fun hHeld => ?_)
            clear hK K
            refine norm_ (a' := ?_) ?_ ?_
            rotate_left
            · show Act.put _ (some 54) _ = _
              simp only [Act.put, List.setIfInBounds_toArray, List.set_cons_zero, List.set_cons_succ, i64_w, i32_w]
              rfl
            refine one_ (i := 3) (N := some 50) #[true, true, true, true, false, true, true, true, false, false, false, false, false] rfl rfl (by kernel_rfl) (by decide) (fun K hK => ?_)
            refine st_str (xs := enb) (s := sb) (by rfl) 50 rfl rfl rfl rfl (Ow.reads (pred_at S4.out (a := Ow (Kd.int .u8) 5 A26 c26 enb) (by repeat (first | exact Spot.here _ _ | apply Spot.there)))) HTB.out ?_
            refine hK.out _ _ ⟨((own_cell (g := g2) S4 (by repeat (first | exact Spot.here _ _ | apply Spot.there)) 0).trans rfl), ((own_cell (g := g2) S4 (by repeat (first | exact Spot.here _ _ | apply Spot.there)) 1).trans rfl), ((own_cell (g := g2) S4 (by repeat (first | exact Spot.here _ _ | apply Spot.there)) 2).trans rfl), ((own_cell (g := g2) S4 (by repeat (first | exact Spot.here _ _ | apply Spot.there)) 3).trans rfl), ((own_cell (g := g2) S4 (by repeat (first | exact Spot.here _ _ | apply Spot.there)) 4).trans rfl), ((own_cell (g := g2) S4 (by repeat (first | exact Spot.here _ _ | apply Spot.there)) 5).trans rfl), ((own_cell (g := g3) S4 (by repeat (first | exact Spot.here _ _ | apply Spot.there)) 0).trans rfl), ((own_cell (g := g3) S4 (by repeat (first | exact Spot.here _ _ | apply Spot.there)) 1).trans rfl), ((own_cell (g := g3) S4 (by repeat (first | exact Spot.here _ _ | apply Spot.there)) 2).trans rfl), ((own_cell (g := g3) S4 (by repeat (first | exact Spot.here _ _ | apply Spot.there)) 3).trans rfl), ((own_cell (g := g3) S4 (by repeat (first | exact Spot.here _ _ | apply Spot.there)) 4).trans rfl), ((own_cell (g := g3) S4 (by repeat (first | exact Spot.here _ _ | apply Spot.there)) 5).trans rfl)⟩ (fun hHeld => ?_)
            clear hK K
            refine norm_ (a' := ?_) ?_ ?_
            rotate_left
            · show Act.put _ (some 50) _ = _
              simp only [Act.put, List.setIfInBounds_toArray, List.set_cons_zero, List.set_cons_succ, i64_w, i32_w]
              rfl
            refine pure_ (i := 4) (N := some 51) (v := ?_) (a' := ?_) #[true, true, true, true, true, true, true, true, false, false, false, false, false] rfl rfl (by kernel_rfl) (fun _ _ _ h => h) (Or.inl ⟨by rfl, ?_⟩) ?_ ?_
            rotate_left
            · intro w'
              go_simp
              with_reducible rfl
            rotate_left
            · simp only [Act.put, List.setIfInBounds_toArray, List.set_cons_zero, List.set_cons_succ, i64_w, i32_w]
              rfl
            exact norm_ (by simp only [putAll, Act.put, List.setIfInBounds_toArray, List.set_cons_zero, List.set_cons_succ]) (hCont () _ S4)
        · skip
          refine st_str (xs := enb) (s := sb) (by rfl) 50 rfl rfl rfl rfl (Ow.reads (pred_at S2.out (a := Ow (Kd.int .u8) 5 A26 c26 enb) (by repeat (first | exact Spot.here _ _ | apply Spot.there)))) HTB.out ?_
          refine hK.out _ _ ⟨((own_cell (g := g2) S2 (by repeat (first | exact Spot.here _ _ | apply Spot.there)) 0).trans rfl), ((own_cell (g := g2) S2 (by repeat (first | exact Spot.here _ _ | apply Spot.there)) 1).trans rfl), ((own_cell (g := g2) S2 (by repeat (first | exact Spot.here _ _ | apply Spot.there)) 2).trans rfl), ((own_cell (g := g2) S2 (by repeat (first | exact Spot.here _ _ | apply Spot.there)) 3).trans rfl), ((own_cell (g := g2) S2 (by repeat (first | exact Spot.here _ _ | apply Spot.there)) 4).trans rfl), ((own_cell (g := g2) S2 (by repeat (first | exact Spot.here _ _ | apply Spot.there)) 5).trans rfl), ((own_cell (g := g3) S2 (by repeat (first | exact Spot.here _ _ | apply Spot.there)) 0).trans rfl), ((own_cell (g := g3) S2 (by repeat (first | exact Spot.here _ _ | apply Spot.there)) 1).trans rfl), ((own_cell (g := g3) S2 (by repeat (first | exact Spot.here _ _ | apply Spot.there)) 2).trans rfl), ((own_cell (g := g3) S2 (by repeat (first | exact Spot.here _ _ | apply Spot.there)) 3).trans rfl), ((own_cell (g := g3) S2 (by repeat (first | exact Spot.here _ _ | apply Spot.there)) 4).trans rfl), ((own_cell (g := g3) S2 (by repeat (first | exact Spot.here _ _ | apply Spot.there)) 5).trans rfl)⟩ (fun hHeld => ?_)
          clear hK K
          refine norm_ (a' := ?_) ?_ ?_
          rotate_left
          · show Act.put _ (some 50) _ = _
            simp only [Act.put, List.setIfInBounds_toArray, List.set_cons_zero, List.set_cons_succ, i64_w, i32_w]
            rfl
          refine two_ (i := 1) (j := 7) (Ni := some 48) (Nj := some 54) #[true, true, true, true, false, true, true, false, false, false, false, false, false] #[true, false, true, true, false, true, true, true, false, false, false, false, false] rfl rfl rfl rfl (by kernel_rfl) (by decide) (by decide) (fun K hK => ?_) (fun K hK => ?_)
          · skip
            refine st_str (xs := ena) (s := sa) (by rfl) 48 rfl rfl rfl rfl (Ow.reads (pred_at S2.out (a := Ow (Kd.int .u8) 5 A21 c21 ena) (by repeat (first | exact Spot.here _ _ | apply Spot.there)))) HTA.out ?_
            refine hK.out _ _ ⟨((own_cell (g := g2) S2 (by repeat (first | exact Spot.here _ _ | apply Spot.there)) 0).trans rfl), ((own_cell (g := g2) S2 (by repeat (first | exact Spot.here _ _ | apply Spot.there)) 1).trans rfl), ((own_cell (g := g2) S2 (by repeat (first | exact Spot.here _ _ | apply Spot.there)) 2).trans rfl), ((own_cell (g := g2) S2 (by repeat (first | exact Spot.here _ _ | apply Spot.there)) 3).trans rfl), ((own_cell (g := g2) S2 (by repeat (first | exact Spot.here _ _ | apply Spot.there)) 4).trans rfl), ((own_cell (g := g2) S2 (by repeat (first | exact Spot.here _ _ | apply Spot.there)) 5).trans rfl), ((own_cell (g := g3) S2 (by repeat (first | exact Spot.here _ _ | apply Spot.there)) 0).trans rfl), ((own_cell (g := g3) S2 (by repeat (first | exact Spot.here _ _ | apply Spot.there)) 1).trans rfl), ((own_cell (g := g3) S2 (by repeat (first | exact Spot.here _ _ | apply Spot.there)) 2).trans rfl), ((own_cell (g := g3) S2 (by repeat (first | exact Spot.here _ _ | apply Spot.there)) 3).trans rfl), ((own_cell (g := g3) S2 (by repeat (first | exact Spot.here _ _ | apply Spot.there)) 4).trans rfl), ((own_cell (g := g3) S2 (by repeat (first | exact Spot.here _ _ | apply Spot.there)) 5).trans rfl)⟩ (fun hHeld => ?_)
            clear hK K
            refine norm_ (a' := ?_) ?_ ?_
            rotate_left
            · show Act.put _ (some 48) _ = _
              simp only [Act.put, List.setIfInBounds_toArray, List.set_cons_zero, List.set_cons_succ, i64_w, i32_w]
              rfl
            refine pure_ (i := 4) (N := some 51) (v := ?_) (a' := ?_) #[true, true, true, true, true, true, true, false, false, false, false, false, false] rfl rfl (by kernel_rfl) (fun _ _ _ h => h) (Or.inl ⟨by rfl, ?_⟩) ?_ ?_
            rotate_left
            · intro w'
              go_simp
              with_reducible rfl
            rotate_left
            · simp only [Act.put, List.setIfInBounds_toArray, List.set_cons_zero, List.set_cons_succ, i64_w, i32_w]
              rfl
            refine one_ (i := 7) (N := some 54) #[true, true, true, true, true, true, true, true, false, false, false, false, false] rfl rfl (by kernel_rfl) (by decide) (fun K hK => ?_)
            refine goes_ Try.func19 (by kernel_rfl) rfl #[.agg #[.string anm, .slice Aa1 aex.length ca1, .slice Aa2 aim.length ca2, .slice Aa3 aco.length ca3, .slice Aa4 ada.length ca4, .slice Aa5 are.length ca5], .agg #[.string bnm, .slice Ab1 bex.length cb1, .slice Ab2 bim.length cb2, .slice Ab3 bco.length cb3, .slice Ab4 bda.length cb4, .slice Ab5 bre.length cb5]] (by rfl) rfl rfl (by simp only [List.map_toArray, List.map_cons, List.map_nil]; rfl) ?_
            with_reducible refine (object_Same.calls 1000001 anm Aa1 ca1 aex Aa2 ca2 aim Aa3 ca3 aco Aa4 ca4 ada Aa5 ca5 are bnm Ab1 cb1 bex Ab2 cb2 bim Ab3 cb3 bco Ab4 cb4 bda Ab5 cb5 bre r _ (HMa.out.below S2.out.below).r1 (HMa.out.below S2.out.below).l1 (HMa.out.below S2.out.below).r2 (HMa.out.below S2.out.below).l2 (HMa.out.below S2.out.below).r3 (HMa.out.below S2.out.below).l3 (HMa.out.below S2.out.below).r4 (HMa.out.below S2.out.below).l4 (HMa.out.below S2.out.below).r5 (HMa.out.below S2.out.below).l5 (HMb.out.below S2.out.below).r1 (HMb.out.below S2.out.below).l1 (HMb.out.below S2.out.below).r2 (HMb.out.below S2.out.below).l2 (HMb.out.below S2.out.below).r3 (HMb.out.below S2.out.below).l3 (HMb.out.below S2.out.below).r4 (HMb.out.below S2.out.below).l4 (HMb.out.below S2.out.below).r5 (HMb.out.below S2.out.below).l5 HSM.out).mono ?_
            rintro z9 w3 ⟨rfl, hb_⟩
            have S4 := Aside0.mk (S2.out.keep hb_)
            clear hb_
            refine ⟨_, rfl, ?_⟩
            refine hK.out _ _ ⟨((own_cell (g := g2) S4 (by repeat (first | exact Spot.here _ _ | apply Spot.there)) 0).trans rfl), ((own_cell (g := g2) S4 (by repeat (first | exact Spot.here _ _ | apply Spot.there)) 1).trans rfl), ((own_cell (g := g2) S4 (by repeat (first | exact Spot.here _ _ | apply Spot.there)) 2).trans rfl), ((own_cell (g := g2) S4 (by repeat (first | exact Spot.here _ _ | apply Spot.there)) 3).trans rfl), ((own_cell (g := g2) S4 (by repeat (first | exact Spot.here _ _ | apply Spot.there)) 4).trans rfl), ((own_cell (g := g2) S4 (by repeat (first | exact Spot.here _ _ | apply Spot.there)) 5).trans rfl), ((own_cell (g := g3) S4 (by repeat (first | exact Spot.here _ _ | apply Spot.there)) 0).trans rfl), ((own_cell (g := g3) S4 (by repeat (first | exact Spot.here _ _ | apply Spot.there)) 1).trans rfl), ((own_cell (g := g3) S4 (by repeat (first | exact Spot.here _ _ | apply Spot.there)) 2).trans rfl), ((own_cell (g := g3) S4 (by repeat (first | exact Spot.here _ _ | apply Spot.there)) 3).trans rfl), ((own_cell (g := g3) S4 (by repeat (first | exact Spot.here _ _ | apply Spot.there)) 4).trans rfl), ((own_cell (g := g3) S4 (by repeat (first | exact Spot.here _ _ | apply Spot.there)) 5).trans rfl)⟩ (fun hHeld => ?_)
            clear hK K
            refine norm_ (a' := ?_) ?_ ?_
            rotate_left
            · show Act.put _ (some 54) _ = _
              simp only [Act.put, List.setIfInBounds_toArray, List.set_cons_zero, List.set_cons_succ, i64_w, i32_w]
              rfl
            exact norm_ (by simp only [putAll, Act.put, List.setIfInBounds_toArray, List.set_cons_zero, List.set_cons_succ]) (hCont () _ S4)
          · skip
            refine goes_ Try.func19 (by kernel_rfl) rfl #[.agg #[.string anm, .slice Aa1 aex.length ca1, .slice Aa2 aim.length ca2, .slice Aa3 aco.length ca3, .slice Aa4 ada.length ca4, .slice Aa5 are.length ca5], .agg #[.string bnm, .slice Ab1 bex.length cb1, .slice Ab2 bim.length cb2, .slice Ab3 bco.length cb3, .slice Ab4 bda.length cb4, .slice Ab5 bre.length cb5]] (by rfl) rfl rfl (by simp only [List.map_toArray, List.map_cons, List.map_nil]; rfl) ?_
            with_reducible refine (object_Same.calls 1000001 anm Aa1 ca1 aex Aa2 ca2 aim Aa3 ca3 aco Aa4 ca4 ada Aa5 ca5 are bnm Ab1 cb1 bex Ab2 cb2 bim Ab3 cb3 bco Ab4 cb4 bda Ab5 cb5 bre r _ (HMa.out.below S2.out.below).r1 (HMa.out.below S2.out.below).l1 (HMa.out.below S2.out.below).r2 (HMa.out.below S2.out.below).l2 (HMa.out.below S2.out.below).r3 (HMa.out.below S2.out.below).l3 (HMa.out.below S2.out.below).r4 (HMa.out.below S2.out.below).l4 (HMa.out.below S2.out.below).r5 (HMa.out.below S2.out.below).l5 (HMb.out.below S2.out.below).r1 (HMb.out.below S2.out.below).l1 (HMb.out.below S2.out.below).r2 (HMb.out.below S2.out.below).l2 (HMb.out.below S2.out.below).r3 (HMb.out.below S2.out.below).l3 (HMb.out.below S2.out.below).r4 (HMb.out.below S2.out.below).l4 (HMb.out.below S2.out.below).r5 (HMb.out.below S2.out.below).l5 HSM.out).mono ?_
            rintro z9 w3 ⟨rfl, hb_⟩
            have S4 := Aside0.mk (S2.out.keep hb_)
            clear hb_
            refine ⟨_, rfl, ?_⟩
            refine hK.out _ _ ⟨((own_cell (g := g2) S4 (by repeat (first | exact Spot.here _ _ | apply Spot.there)) 0).trans rfl), ((own_cell (g := g2) S4 (by repeat (first | exact Spot.here _ _ | apply Spot.there)) 1).trans rfl), ((own_cell (g := g2) S4 (by repeat (first | exact Spot.here _ _ | apply Spot.there)) 2).trans rfl), ((own_cell (g := g2) S4 (by repeat (first | exact Spot.here _ _ | apply Spot.there)) 3).trans rfl), ((own_cell (g := g2) S4 (by repeat (first | exact Spot.here _ _ | apply Spot.there)) 4).trans rfl), ((own_cell (g := g2) S4 (by repeat (first | exact Spot.here _ _ | apply Spot.there)) 5).trans rfl), ((own_cell (g := g3) S4 (by repeat (first | exact Spot.here _ _ | apply Spot.there)) 0).trans rfl), ((own_cell (g := g3) S4 (by repeat (first | exact Spot.here _ _ | apply Spot.there)) 1).trans rfl), ((own_cell (g := g3) S4 (by repeat (first | exact Spot.here _ _ | apply Spot.there)) 2).trans rfl), ((own_cell (g := g3) S4 (by repeat (first | exact Spot.here _ _ | apply Spot.there)) 3).trans rfl), ((own_cell (g := g3) S4 (by repeat (first | exact Spot.here _ _ | apply Spot.there)) 4).trans rfl), ((own_cell (g := g3) S4 (by repeat (first | exact Spot.here _ _ | apply Spot.there)) 5).trans rfl)⟩ (fun hHeld => ?_)
            clear hK K
            refine norm_ (a' := ?_) ?_ ?_
            rotate_left
            · show Act.put _ (some 54) _ = _
              simp only [Act.put, List.setIfInBounds_toArray, List.set_cons_zero, List.set_cons_succ, i64_w, i32_w]
              rfl
            refine one_ (i := 1) (N := some 48) #[true, true, true, true, false, true, true, true, false, false, false, false, false] rfl rfl (by kernel_rfl) (by decide) (fun K hK => ?_)
            refine st_str (xs := ena) (s := sa) (by rfl) 48 rfl rfl rfl rfl (Ow.reads (pred_at S4.out (a := Ow (Kd.int .u8) 5 A21 c21 ena) (by repeat (first | exact Spot.here _ _ | apply Spot.there)))) HTA.out ?_
            refine hK.out _ _ ⟨((own_cell (g := g2) S4 (by repeat (first | exact Spot.here _ _ | apply Spot.there)) 0).trans rfl), ((own_cell (g := g2) S4 (by repeat (first | exact Spot.here _ _ | apply Spot.there)) 1).trans rfl), ((own_cell (g := g2) S4 (by repeat (first | exact Spot.here _ _ | apply Spot.there)) 2).trans rfl), ((own_cell (g := g2) S4 (by repeat (first | exact Spot.here _ _ | apply Spot.there)) 3).trans rfl), ((own_cell (g := g2) S4 (by repeat (first | exact Spot.here _ _ | apply Spot.there)) 4).trans rfl), ((own_cell (g := g2) S4 (by repeat (first | exact Spot.here _ _ | apply Spot.there)) 5).trans rfl), ((own_cell (g := g3) S4 (by repeat (first | exact Spot.here _ _ | apply Spot.there)) 0).trans rfl), ((own_cell (g := g3) S4 (by repeat (first | exact Spot.here _ _ | apply Spot.there)) 1).trans rfl), ((own_cell (g := g3) S4 (by repeat (first | exact Spot.here _ _ | apply Spot.there)) 2).trans rfl), ((own_cell (g := g3) S4 (by repeat (first | exact Spot.here _ _ | apply Spot.there)) 3).trans rfl), ((own_cell (g := g3) S4 (by repeat (first | exact Spot.here _ _ | apply Spot.there)) 4).trans rfl), ((own_cell (g := g3) S4 (by repeat (first | exact Spot.here _ _ | apply Spot.there)) 5).trans rfl)⟩ (fun hHeld => ?_)
            clear hK K
            refine norm_ (a' := ?_) ?_ ?_
            rotate_left
            · show Act.put _ (some 48) _ = _
              simp only [Act.put, List.setIfInBounds_toArray, List.set_cons_zero, List.set_cons_succ, i64_w, i32_w]
              rfl
            refine pure_ (i := 4) (N := some 51) (v := ?_) (a' := ?_) #[true, true, true, true, true, true, true, true, false, false, false, false, false] rfl rfl (by kernel_rfl) (fun _ _ _ h => h) (Or.inl ⟨by rfl, ?_⟩) ?_ ?_
            rotate_left
            · intro w'
              go_simp
              with_reducible rfl
            rotate_left
            · simp only [Act.put, List.setIfInBounds_toArray, List.set_cons_zero, List.set_cons_succ, i64_w, i32_w]
              rfl
            exact norm_ (by simp only [putAll, Act.put, List.setIfInBounds_toArray, List.set_cons_zero, List.set_cons_succ]) (hCont () _ S4)
        · skip
          refine goes_ Try.func19 (by kernel_rfl) rfl #[.agg #[.string anm, .slice Aa1 aex.length ca1, .slice Aa2 aim.length ca2, .slice Aa3 aco.length ca3, .slice Aa4 ada.length ca4, .slice Aa5 are.length ca5], .agg #[.string bnm, .slice Ab1 bex.length cb1, .slice Ab2 bim.length cb2, .slice Ab3 bco.length cb3, .slice Ab4 bda.length cb4, .slice Ab5 bre.length cb5]] (by rfl) rfl rfl (by simp only [List.map_toArray, List.map_cons, List.map_nil]; rfl) ?_
          with_reducible refine (object_Same.calls 1000001 anm Aa1 ca1 aex Aa2 ca2 aim Aa3 ca3 aco Aa4 ca4 ada Aa5 ca5 are bnm Ab1 cb1 bex Ab2 cb2 bim Ab3 cb3 bco Ab4 cb4 bda Ab5 cb5 bre r _ (HMa.out.below S2.out.below).r1 (HMa.out.below S2.out.below).l1 (HMa.out.below S2.out.below).r2 (HMa.out.below S2.out.below).l2 (HMa.out.below S2.out.below).r3 (HMa.out.below S2.out.below).l3 (HMa.out.below S2.out.below).r4 (HMa.out.below S2.out.below).l4 (HMa.out.below S2.out.below).r5 (HMa.out.below S2.out.below).l5 (HMb.out.below S2.out.below).r1 (HMb.out.below S2.out.below).l1 (HMb.out.below S2.out.below).r2 (HMb.out.below S2.out.below).l2 (HMb.out.below S2.out.below).r3 (HMb.out.below S2.out.below).l3 (HMb.out.below S2.out.below).r4 (HMb.out.below S2.out.below).l4 (HMb.out.below S2.out.below).r5 (HMb.out.below S2.out.below).l5 HSM.out).mono ?_
          rintro z9 w3 ⟨rfl, hb_⟩
          have S4 := Aside0.mk (S2.out.keep hb_)
          clear hb_
          refine ⟨_, rfl, ?_⟩
          refine hK.out _ _ ⟨((own_cell (g := g2) S4 (by repeat (first | exact Spot.here _ _ | apply Spot.there)) 0).trans rfl), ((own_cell (g := g2) S4 (by repeat (first | exact Spot.here _ _ | apply Spot.there)) 1).trans rfl), ((own_cell (g := g2) S4 (by repeat (first | exact Spot.here _ _ | apply Spot.there)) 2).trans rfl), ((own_cell (g := g2) S4 (by repeat (first | exact Spot.here _ _ | apply Spot.there)) 3).trans rfl), ((own_cell (g := g2) S4 (by repeat (first | exact Spot.here _ _ | apply Spot.there)) 4).trans rfl), ((own_cell (g := g2) S4 (by repeat (first | exact Spot.here _ _ | apply Spot.there)) 5).trans rfl), ((own_cell (g := g3) S4 (by repeat (first | exact Spot.here _ _ | apply Spot.there)) 0).trans rfl), ((own_cell (g := g3) S4 (by repeat (first | exact Spot.here _ _ | apply Spot.there)) 1).trans rfl), ((own_cell (g := g3) S4 (by repeat (first | exact Spot.here _ _ | apply Spot.there)) 2).trans rfl), ((own_cell (g := g3) S4 (by repeat (first | exact Spot.here _ _ | apply Spot.there)) 3).trans rfl), ((own_cell (g := g3) S4 (by repeat (first | exact Spot.here _ _ | apply Spot.there)) 4).trans rfl), ((own_cell (g := g3) S4 (by repeat (first | exact Spot.here _ _ | apply Spot.there)) 5).trans rfl)⟩ (fun hHeld => ?_)
          clear hK K
          refine norm_ (a' := ?_) ?_ ?_
          rotate_left
          · show Act.put _ (some 54) _ = _
            simp only [Act.put, List.setIfInBounds_toArray, List.set_cons_zero, List.set_cons_succ, i64_w, i32_w]
            rfl
          refine two_ (i := 1) (j := 3) (Ni := some 48) (Nj := some 50) #[true, true, true, false, false, true, true, true, false, false, false, false, false] #[true, false, true, true, false, true, true, true, false, false, false, false, false] rfl rfl rfl rfl (by kernel_rfl) (by decide) (by decide) (fun K hK => ?_) (fun K hK => ?_)
          · skip
            refine st_str (xs := ena) (s := sa) (by rfl) 48 rfl rfl rfl rfl (Ow.reads (pred_at S4.out (a := Ow (Kd.int .u8) 5 A21 c21 ena) (by repeat (first | exact Spot.here _ _ | apply Spot.there)))) HTA.out ?_
            refine hK.out _ _ ⟨((own_cell (g := g2) S4 (by repeat (first | exact Spot.here _ _ | apply Spot.there)) 0).trans rfl), ((own_cell (g := g2) S4 (by repeat (first | exact Spot.here _ _ | apply Spot.there)) 1).trans rfl), ((own_cell (g := g2) S4 (by repeat (first | exact Spot.here _ _ | apply Spot.there)) 2).trans rfl), ((own_cell (g := g2) S4 (by repeat (first | exact Spot.here _ _ | apply Spot.there)) 3).trans rfl), ((own_cell (g := g2) S4 (by repeat (first | exact Spot.here _ _ | apply Spot.there)) 4).trans rfl), ((own_cell (g := g2) S4 (by repeat (first | exact Spot.here _ _ | apply Spot.there)) 5).trans rfl), ((own_cell (g := g3) S4 (by repeat (first | exact Spot.here _ _ | apply Spot.there)) 0).trans rfl), ((own_cell (g := g3) S4 (by repeat (first | exact Spot.here _ _ | apply Spot.there)) 1).trans rfl), ((own_cell (g := g3) S4 (by repeat (first | exact Spot.here _ _ | apply Spot.there)) 2).trans rfl), ((own_cell (g := g3) S4 (by repeat (first | exact Spot.here _ _ | apply Spot.there)) 3).trans rfl), ((own_cell (g := g3) S4 (by repeat (first | exact Spot.here _ _ | apply Spot.there)) 4).trans rfl), ((own_cell (g := g3) S4 (by repeat (first | exact Spot.here _ _ | apply Spot.there)) 5).trans rfl)⟩ (fun hHeld => ?_)
            clear hK K
            refine norm_ (a' := ?_) ?_ ?_
            rotate_left
            · show Act.put _ (some 48) _ = _
              simp only [Act.put, List.setIfInBounds_toArray, List.set_cons_zero, List.set_cons_succ, i64_w, i32_w]
              rfl
            refine one_ (i := 3) (N := some 50) #[true, true, true, true, false, true, true, true, false, false, false, false, false] rfl rfl (by kernel_rfl) (by decide) (fun K hK => ?_)
            refine st_str (xs := enb) (s := sb) (by rfl) 50 rfl rfl rfl rfl (Ow.reads (pred_at S4.out (a := Ow (Kd.int .u8) 5 A26 c26 enb) (by repeat (first | exact Spot.here _ _ | apply Spot.there)))) HTB.out ?_
            refine hK.out _ _ ⟨((own_cell (g := g2) S4 (by repeat (first | exact Spot.here _ _ | apply Spot.there)) 0).trans rfl), ((own_cell (g := g2) S4 (by repeat (first | exact Spot.here _ _ | apply Spot.there)) 1).trans rfl), ((own_cell (g := g2) S4 (by repeat (first | exact Spot.here _ _ | apply Spot.there)) 2).trans rfl), ((own_cell (g := g2) S4 (by repeat (first | exact Spot.here _ _ | apply Spot.there)) 3).trans rfl), ((own_cell (g := g2) S4 (by repeat (first | exact Spot.here _ _ | apply Spot.there)) 4).trans rfl), ((own_cell (g := g2) S4 (by repeat (first | exact Spot.here _ _ | apply Spot.there)) 5).trans rfl), ((own_cell (g := g3) S4 (by repeat (first | exact Spot.here _ _ | apply Spot.there)) 0).trans rfl), ((own_cell (g := g3) S4 (by repeat (first | exact Spot.here _ _ | apply Spot.there)) 1).trans rfl), ((own_cell (g := g3) S4 (by repeat (first | exact Spot.here _ _ | apply Spot.there)) 2).trans rfl), ((own_cell (g := g3) S4 (by repeat (first | exact Spot.here _ _ | apply Spot.there)) 3).trans rfl), ((own_cell (g := g3) S4 (by repeat (first | exact Spot.here _ _ | apply Spot.there)) 4).trans rfl), ((own_cell (g := g3) S4 (by repeat (first | exact Spot.here _ _ | apply Spot.there)) 5).trans rfl)⟩ (fun hHeld => ?_)
            clear hK K
            refine norm_ (a' := ?_) ?_ ?_
            rotate_left
            · show Act.put _ (some 50) _ = _
              simp only [Act.put, List.setIfInBounds_toArray, List.set_cons_zero, List.set_cons_succ, i64_w, i32_w]
              rfl
            refine pure_ (i := 4) (N := some 51) (v := ?_) (a' := ?_) #[true, true, true, true, true, true, true, true, false, false, false, false, false] rfl rfl (by kernel_rfl) (fun _ _ _ h => h) (Or.inl ⟨by rfl, ?_⟩) ?_ ?_
            rotate_left
            · intro w'
              go_simp
              with_reducible rfl
            rotate_left
            · simp only [Act.put, List.setIfInBounds_toArray, List.set_cons_zero, List.set_cons_succ, i64_w, i32_w]
              rfl
            exact norm_ (by simp only [putAll, Act.put, List.setIfInBounds_toArray, List.set_cons_zero, List.set_cons_succ]) (hCont () _ S4)
          · skip
            refine st_str (xs := enb) (s := sb) (by rfl) 50 rfl rfl rfl rfl (Ow.reads (pred_at S4.out (a := Ow (Kd.int .u8) 5 A26 c26 enb) (by repeat (first | exact Spot.here _ _ | apply Spot.there)))) HTB.out ?_
            refine hK.out _ _ ⟨((own_cell (g := g2) S4 (by repeat (first | exact Spot.here _ _ | apply Spot.there)) 0).trans rfl), ((own_cell (g := g2) S4 (by repeat (first | exact Spot.here _ _ | apply Spot.there)) 1).trans rfl), ((own_cell (g := g2) S4 (by repeat (first | exact Spot.here _ _ | apply Spot.there)) 2).trans rfl), ((own_cell (g := g2) S4 (by repeat (first | exact Spot.here _ _ | apply Spot.there)) 3).trans rfl), ((own_cell (g := g2) S4 (by repeat (first | exact Spot.here _ _ | apply Spot.there)) 4).trans rfl), ((own_cell (g := g2) S4 (by repeat (first | exact Spot.here _ _ | apply Spot.there)) 5).trans rfl), ((own_cell (g := g3) S4 (by repeat (first | exact Spot.here _ _ | apply Spot.there)) 0).trans rfl), ((own_cell (g := g3) S4 (by repeat (first | exact Spot.here _ _ | apply Spot.there)) 1).trans rfl), ((own_cell (g := g3) S4 (by repeat (first | exact Spot.here _ _ | apply Spot.there)) 2).trans rfl), ((own_cell (g := g3) S4 (by repeat (first | exact Spot.here _ _ | apply Spot.there)) 3).trans rfl), ((own_cell (g := g3) S4 (by repeat (first | exact Spot.here _ _ | apply Spot.there)) 4).trans rfl), ((own_cell (g := g3) S4 (by repeat (first | exact Spot.here _ _ | apply Spot.there)) 5).trans rfl)⟩ (fun hHeld => ?_)
            clear hK K
            refine norm_ (a' := ?_) ?_ ?_
            rotate_left
            · show Act.put _ (some 50) _ = _
              simp only [Act.put, List.setIfInBounds_toArray, List.set_cons_zero, List.set_cons_succ, i64_w, i32_w]
              rfl
            refine one_ (i := 1) (N := some 48) #[true, true, true, true, false, true, true, true, false, false, false, false, false] rfl rfl (by kernel_rfl) (by decide) (fun K hK => ?_)
            refine st_str (xs := ena) (s := sa) (by rfl) 48 rfl rfl rfl rfl (Ow.reads (pred_at S4.out (a := Ow (Kd.int .u8) 5 A21 c21 ena) (by repeat (first | exact Spot.here _ _ | apply Spot.there)))) HTA.out ?_
            refine hK.out _ _ ⟨((own_cell (g := g2) S4 (by repeat (first | exact Spot.here _ _ | apply Spot.there)) 0).trans rfl), ((own_cell (g := g2) S4 (by repeat (first | exact Spot.here _ _ | apply Spot.there)) 1).trans rfl), ((own_cell (g := g2) S4 (by repeat (first | exact Spot.here _ _ | apply Spot.there)) 2).trans rfl), ((own_cell (g := g2) S4 (by repeat (first | exact Spot.here _ _ | apply Spot.there)) 3).trans rfl), ((own_cell (g := g2) S4 (by repeat (first | exact Spot.here _ _ | apply Spot.there)) 4).trans rfl), ((own_cell (g := g2) S4 (by repeat (first | exact Spot.here _ _ | apply Spot.there)) 5).trans rfl), ((own_cell (g := g3) S4 (by repeat (first | exact Spot.here _ _ | apply Spot.there)) 0).trans rfl), ((own_cell (g := g3) S4 (by repeat (first | exact Spot.here _ _ | apply Spot.there)) 1).trans rfl), ((own_cell (g := g3) S4 (by repeat (first | exact Spot.here _ _ | apply Spot.there)) 2).trans rfl), ((own_cell (g := g3) S4 (by repeat (first | exact Spot.here _ _ | apply Spot.there)) 3).trans rfl), ((own_cell (g := g3) S4 (by repeat (first | exact Spot.here _ _ | apply Spot.there)) 4).trans rfl), ((own_cell (g := g3) S4 (by repeat (first | exact Spot.here _ _ | apply Spot.there)) 5).trans rfl)⟩ (fun hHeld => ?_)
            clear hK K
            refine norm_ (a' := ?_) ?_ ?_
            rotate_left
            · show Act.put _ (some 48) _ = _
              simp only [Act.put, List.setIfInBounds_toArray, List.set_cons_zero, List.set_cons_succ, i64_w, i32_w]
              rfl
            refine pure_ (i := 4) (N := some 51) (v := ?_) (a' := ?_) #[true, true, true, true, true, true, true, true, false, false, false, false, false] rfl rfl (by kernel_rfl) (fun _ _ _ h => h) (Or.inl ⟨by rfl, ?_⟩) ?_ ?_
            rotate_left
            · intro w'
              go_simp
              with_reducible rfl
            rotate_left
            · simp only [Act.put, List.setIfInBounds_toArray, List.set_cons_zero, List.set_cons_succ, i64_w, i32_w]
              rfl
            exact norm_ (by simp only [putAll, Act.put, List.setIfInBounds_toArray, List.set_cons_zero, List.set_cons_succ]) (hCont () _ S4)
      rintro ⟨⟩ w8 S8
      have hHeld : w8.cell? ⟨g2, 0, none⟩ = some (.string anm) ∧ w8.cell? ⟨g2, 1, none⟩ = some (.slice Aa1 aex.length ca1) ∧ w8.cell? ⟨g2, 2, none⟩ = some (.slice Aa2 aim.length ca2) ∧ w8.cell? ⟨g2, 3, none⟩ = some (.slice Aa3 aco.length ca3) ∧ w8.cell? ⟨g2, 4, none⟩ = some (.slice Aa4 ada.length ca4) ∧ w8.cell? ⟨g2, 5, none⟩ = some (.slice Aa5 are.length ca5) ∧ w8.cell? ⟨g3, 0, none⟩ = some (.string bnm) ∧ w8.cell? ⟨g3, 1, none⟩ = some (.slice Ab1 bex.length cb1) ∧ w8.cell? ⟨g3, 2, none⟩ = some (.slice Ab2 bim.length cb2) ∧ w8.cell? ⟨g3, 3, none⟩ = some (.slice Ab3 bco.length cb3) ∧ w8.cell? ⟨g3, 4, none⟩ = some (.slice Ab4 bda.length cb4) ∧ w8.cell? ⟨g3, 5, none⟩ = some (.slice Ab5 bre.length cb5) := ⟨((own_cell (g := g2) S8 (by repeat (first | exact Spot.here _ _ | apply Spot.there)) 0).trans rfl), ((own_cell (g := g2) S8 (by repeat (first | exact Spot.here _ _ | apply Spot.there)) 1).trans rfl), ((own_cell (g := g2) S8 (by repeat (first | exact Spot.here _ _ | apply Spot.there)) 2).trans rfl), ((own_cell (g := g2) S8 (by repeat (first | exact Spot.here _ _ | apply Spot.there)) 3).trans rfl), ((own_cell (g := g2) S8 (by repeat (first | exact Spot.here _ _ | apply Spot.there)) 4).trans rfl), ((own_cell (g := g2) S8 (by repeat (first | exact Spot.here _ _ | apply Spot.there)) 5).trans rfl), ((own_cell (g := g3) S8 (by repeat (first | exact Spot.here _ _ | apply Spot.there)) 0).trans rfl), ((own_cell (g := g3) S8 (by repeat (first | exact Spot.here _ _ | apply Spot.there)) 1).trans rfl), ((own_cell (g := g3) S8 (by repeat (first | exact Spot.here _ _ | apply Spot.there)) 2).trans rfl), ((own_cell (g := g3) S8 (by repeat (first | exact Spot.here _ _ | apply Spot.there)) 3).trans rfl), ((own_cell (g := g3) S8 (by repeat (first | exact Spot.here _ _ | apply Spot.there)) 4).trans rfl), ((own_cell (g := g3) S8 (by repeat (first | exact Spot.here _ _ | apply Spot.there)) 5).trans rfl)⟩
      refine norm_ (a' := ?_) ?_ ?_
      rotate_left
      · simp only [putAll, Act.put, List.setIfInBounds_toArray, List.set_cons_zero, List.set_cons_succ]
        rfl
      refine pure_ (i := 8) (N := some 55) (v := ?_) (a' := ?_) #[true, true, true, true, true, true, true, true, true, false, false, false, false] rfl rfl (by kernel_rfl) (fun _ _ _ h => h) (Or.inl ⟨by rfl, ?_⟩) ?_ ?_
      rotate_left
      · intro w'
        go_simp
        with_reducible rfl
      rotate_left
      · simp only [Act.put, List.setIfInBounds_toArray, List.set_cons_zero, List.set_cons_succ, i64_w, i32_w]
        rfl
      refine pure_ (i := 9) (N := some 56) (v := ?_) (a' := ?_) #[true, true, true, true, true, true, true, true, true, true, false, false, false] rfl rfl (by kernel_rfl) (fun _ _ _ h => h) (Or.inl ⟨by rfl, ?_⟩) ?_ ?_
      rotate_left
      · intro w'
        go_simp
        with_reducible rfl
      rotate_left
      · simp only [Act.put, List.setIfInBounds_toArray, List.set_cons_zero, List.set_cons_succ, i64_w, i32_w]
        rfl
      refine one_ (i := 10) (N := some 57) #[true, true, true, true, true, true, true, true, true, true, true, false, false] rfl rfl (by kernel_rfl) (by decide) (fun K hK => ?_)
      refine goes_ Try.func10 (by kernel_rfl) rfl #[] (by rfl) rfl rfl (by simp only [List.map_toArray, List.map_nil]) ?_
      with_reducible refine (awake_calls _).mono ?_
      rintro z9 w9 ⟨rfl, hb_⟩
      have S9 := Aside0.mk (S8.out.keep hb_)
      clear hb_
      refine ⟨_, rfl, ?_⟩
      refine hK.out _ _ ⟨((own_cell (g := g2) S9 (by repeat (first | exact Spot.here _ _ | apply Spot.there)) 0).trans rfl), ((own_cell (g := g2) S9 (by repeat (first | exact Spot.here _ _ | apply Spot.there)) 1).trans rfl), ((own_cell (g := g2) S9 (by repeat (first | exact Spot.here _ _ | apply Spot.there)) 2).trans rfl), ((own_cell (g := g2) S9 (by repeat (first | exact Spot.here _ _ | apply Spot.there)) 3).trans rfl), ((own_cell (g := g2) S9 (by repeat (first | exact Spot.here _ _ | apply Spot.there)) 4).trans rfl), ((own_cell (g := g2) S9 (by repeat (first | exact Spot.here _ _ | apply Spot.there)) 5).trans rfl), ((own_cell (g := g3) S9 (by repeat (first | exact Spot.here _ _ | apply Spot.there)) 0).trans rfl), ((own_cell (g := g3) S9 (by repeat (first | exact Spot.here _ _ | apply Spot.there)) 1).trans rfl), ((own_cell (g := g3) S9 (by repeat (first | exact Spot.here _ _ | apply Spot.there)) 2).trans rfl), ((own_cell (g := g3) S9 (by repeat (first | exact Spot.here _ _ | apply Spot.there)) 3).trans rfl), ((own_cell (g := g3) S9 (by repeat (first | exact Spot.here _ _ | apply Spot.there)) 4).trans rfl), ((own_cell (g := g3) S9 (by repeat (first | exact Spot.here _ _ | apply Spot.there)) 5).trans rfl)⟩ (fun hHeld => ?_)
      clear hK K
      refine norm_ (a' := ?_) ?_ ?_
      rotate_left
      · show Act.put _ (some 57) _ = _
        simp only [Act.put, List.setIfInBounds_toArray, List.set_cons_zero, List.set_cons_succ, i64_w, i32_w]
        rfl
      refine pure_ (i := 11) (N := some 58) (v := ?_) (a' := ?_) #[true, true, true, true, true, true, true, true, true, true, true, true, false] rfl rfl (by kernel_rfl) (fun _ _ _ h => h) (Or.inl ⟨by rfl, ?_⟩) ?_ ?_
      rotate_left
      · intro w'
        go_simp
        with_reducible rfl
      rotate_left
      · simp only [Act.put, List.setIfInBounds_toArray, List.set_cons_zero, List.set_cons_succ, i64_w, i32_w]
        rfl
      refine pure_ (i := 12) (N := some 4) (v := ?_) (a' := ?_) #[true, true, true, true, true, true, true, true, true, true, true, true, true] rfl rfl (by kernel_rfl) (fun _ _ _ h => h) (Or.inl ⟨by rfl, ?_⟩) ?_ ?_
      rotate_left
      · intro w'
        go_simp
        with_reducible rfl
      rotate_left
      · simp only [Act.put, List.setIfInBounds_toArray, List.set_cons_zero, List.set_cons_succ, i64_w, i32_w]
        rfl
      refine done_ (by kernel_rfl) ?_

      have S := S9

      go_wp2
      go_ret
      exact ⟨rfl, S.out.below⟩
end Go.Proofs.Ytkoimdgpicmakaa.Ob
