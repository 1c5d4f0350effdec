/- A fork is as the clock is; what becomes of one changes nothing of the other. -/
import Derived.Test.YtajmfmgfdgdioaaFork
namespace Go.Proofs.Ytajmfmgfdgdioaa.Plays
open Go.Proofs.Ytajmfmgfdgdioaa.Pure Go.Proofs.Ytajmfmgfdgdioaa.Cl
open Go.RowKit Go.Proofs.Ytajmfmgfdgdioaa.Sep Go.Proofs.YtajmfmgfdgdioaaW.PrintWords Go.Proofs.YtajmfmgfdgdioaaW.PrintLast Go.Proofs.YtajmfmgfdgdioaaW.PrintMore Go.Proofs.Ytajmfmgfdgdioaa.Ev Go.Proofs.Ytajmfmgfdgdioaa.Ty
open Go.Proofs.Ytajmfmgfdgdioaa.PC hiding z46 z59 z67
set_option linter.unusedVariables false
set_option linter.unusedSimpArgs false

theorem drew_turn (w : World) (K : Nat → Prop) : Turn w w.drew K := Turn.of_below K (Below.refl _ _).drew
set_option maxRecDepth 100000 in
set_option maxHeartbeats 32000000 in
theorem forks (A0 : Option Addr) (l : List (Int × Int × List S59)) (c0 : Nat) (A1 : Option Addr) (m : List (Int × Int × List S59)) (c1 : Nat) (w : World) (hC : Kd.C kA w A0 l.length l) (hc : l.length ≤ c0) (hC1 : Kd.C kA w A1 m.length m) (hc1 : m.length ≤ c1) :
    Calls Try.prog 7 #[.slice A0 l.length c0, .slice A1 m.length c1] w fun z w' => z = .returned (.bool true) ∧ Below w.heap.size w w' := by
  have HC := Aside0.mk hC
  have HC1 := Aside0.mk hC1
  have S := Aside0.mk (St.start w)
  clear hC hC1
  by_cases hlen : (60 : Int) < (l.length : Int)
  · have hd1 : decide ((l.length : Int) > 60) = true := decide_eq_true hlen
    go_enter Try.func7, Try.ntmps7
    go_wp2_with (first | ((with_reducible refine gate_dst (N := 6) rfl ?_); refine ev_alloc #[.int .u64 0, .slice none 0 0] rfl S ?_ 6 rfl rfl z33 ?_; (first | exact want0 rfl | exact want1 rfl rfl rfl rfl); intro g6 w6 S_; clear S; have S := S_; clear S_) | (refine ev_puts S ?_ rfl rfl s33 rfl rfl (by repeat (first | exact Spot.here _ _ | apply Spot.there)) rfl ?_ ?_ ?_; (first | exact want0 rfl | exact want1 rfl rfl rfl rfl); rfl; rfl; intro w_ S_; simp only [putAt, List.set_cons_zero, List.set_cons_succ] at S_; clear S; have S := S_; clear S_) | (refine ev_owns (vs := [_, _]) S ?_ rfl m33 rfl (by repeat (first | exact Spot.here _ _ | apply Spot.there)) (by exact rfl) ?_; (first | exact want0 rfl | exact want1 rfl rfl rfl rfl)) | (refine ev_owns (vs := [_, _, _]) S ?_ rfl m38 rfl (by repeat (first | exact Spot.here _ _ | apply Spot.there)) (by exact rfl) ?_; (first | exact want0 rfl | exact want1 rfl rfl rfl rfl)) | ((with_reducible refine gate_dst (N := 9) rfl ?_); refine ev_alloc #[.int .u64 0, .slice none 0 0] rfl S ?_ 9 rfl rfl z33 ?_; (first | exact want0 rfl | exact want1 rfl rfl rfl rfl); intro g9 w9 S_; clear S; have S := S_; clear S_) | (go_at_call 12; (with_reducible refine (awake_calls _).mono ?_); rintro z_ w_ ⟨rfl, hb_⟩; have hb2_ := hb_; have S_ := Aside0.mk (S.out.keep hb2_); clear hb2_ hb_; clear S; have S := S_; clear S_) | (go_at_call 13; have c_ := new_ev S; (with_reducible refine c_.mono ?_); clear c_; rintro z_ w_ ⟨g, rfl, S_⟩; clear S; have S := S_; clear S_) | (go_at_call 20; (with_reducible refine (retire_nil 1 _).mono ?_); rintro z_ w_ ⟨rfl, hb_⟩; have hb2_ := hb_; have S_ := Aside0.mk (S.out.keep hb2_); clear hb2_ hb_; clear S; have S := S_; clear S_) | (go_at_call 18; (with_reducible refine (now_nil _).mono ?_); rintro z_ w_ ⟨rfl, hb_⟩; have hb2_ := hb_; have S_ := Aside0.mk (S.out.keep hb2_); clear hb2_ hb_; clear S; have S := S_; clear S_) | (go_at_call 17; (with_reducible refine (waiting_nil _).mono ?_); rintro z_ w_ ⟨rfl, hb_⟩; have hb2_ := hb_; have S_ := Aside0.mk (S.out.keep hb2_); clear hb2_ hb_; clear S; have S := S_; clear S_) | (go_at_call 22; (with_reducible refine (clear_nil _).mono ?_); rintro z_ w_ ⟨rfl, hb_⟩; have hb2_ := hb_; have S_ := Aside0.mk (S.out.keep hb2_); clear hb2_ hb_; clear S; have S := S_; clear S_) | (go_at_call 21; (with_reducible refine (take_nil _).mono ?_); rintro z_ w_ ⟨rfl, hb_⟩; have hb2_ := hb_; have S_ := Aside0.mk (S.out.keep hb2_); clear hb2_ hb_; clear S; have S := S_; clear S_) | (go_at_call 19; (with_reducible refine (fork_nil _).mono ?_); rintro z_ w_ ⟨rfl, hb_⟩; have hb2_ := hb_; have S_ := Aside0.mk (S.out.keep hb2_); clear hb2_ hb_; clear S; have S := S_; clear S_) | (go_at_call 16; (with_reducible refine (due_nil _).mono ?_); rintro z_ w_ ⟨A80, c80, rfl, hb_⟩; have hb2_ := hb_; have S_ := Aside0.mk (S.out.keep hb2_); clear hb2_ hb_; clear S; have S := S_; clear S_))
    go_ret
    exact ⟨rfl, S.out.below⟩
  have hd1 : decide ((l.length : Int) > 60) = false := decide_eq_false hlen
  by_cases hlem : (60 : Int) < (m.length : Int)
  · have hd1 : decide ((m.length : Int) > 60) = true := decide_eq_true hlem
    go_enter Try.func7, Try.ntmps7
    go_wp2_with (first | ((with_reducible refine gate_dst (N := 6) rfl ?_); refine ev_alloc #[.int .u64 0, .slice none 0 0] rfl S ?_ 6 rfl rfl z33 ?_; (first | exact want0 rfl | exact want1 rfl rfl rfl rfl); intro g6 w6 S_; clear S; have S := S_; clear S_) | (refine ev_puts S ?_ rfl rfl s33 rfl rfl (by repeat (first | exact Spot.here _ _ | apply Spot.there)) rfl ?_ ?_ ?_; (first | exact want0 rfl | exact want1 rfl rfl rfl rfl); rfl; rfl; intro w_ S_; simp only [putAt, List.set_cons_zero, List.set_cons_succ] at S_; clear S; have S := S_; clear S_) | (refine ev_owns (vs := [_, _]) S ?_ rfl m33 rfl (by repeat (first | exact Spot.here _ _ | apply Spot.there)) (by exact rfl) ?_; (first | exact want0 rfl | exact want1 rfl rfl rfl rfl)) | (refine ev_owns (vs := [_, _, _]) S ?_ rfl m38 rfl (by repeat (first | exact Spot.here _ _ | apply Spot.there)) (by exact rfl) ?_; (first | exact want0 rfl | exact want1 rfl rfl rfl rfl)) | ((with_reducible refine gate_dst (N := 9) rfl ?_); refine ev_alloc #[.int .u64 0, .slice none 0 0] rfl S ?_ 9 rfl rfl z33 ?_; (first | exact want0 rfl | exact want1 rfl rfl rfl rfl); intro g9 w9 S_; clear S; have S := S_; clear S_) | (go_at_call 12; (with_reducible refine (awake_calls _).mono ?_); rintro z_ w_ ⟨rfl, hb_⟩; have hb2_ := hb_; have S_ := Aside0.mk (S.out.keep hb2_); clear hb2_ hb_; clear S; have S := S_; clear S_) | (go_at_call 13; have c_ := new_ev S; (with_reducible refine c_.mono ?_); clear c_; rintro z_ w_ ⟨g, rfl, S_⟩; clear S; have S := S_; clear S_) | (go_at_call 20; (with_reducible refine (retire_nil 1 _).mono ?_); rintro z_ w_ ⟨rfl, hb_⟩; have hb2_ := hb_; have S_ := Aside0.mk (S.out.keep hb2_); clear hb2_ hb_; clear S; have S := S_; clear S_) | (go_at_call 18; (with_reducible refine (now_nil _).mono ?_); rintro z_ w_ ⟨rfl, hb_⟩; have hb2_ := hb_; have S_ := Aside0.mk (S.out.keep hb2_); clear hb2_ hb_; clear S; have S := S_; clear S_) | (go_at_call 17; (with_reducible refine (waiting_nil _).mono ?_); rintro z_ w_ ⟨rfl, hb_⟩; have hb2_ := hb_; have S_ := Aside0.mk (S.out.keep hb2_); clear hb2_ hb_; clear S; have S := S_; clear S_) | (go_at_call 22; (with_reducible refine (clear_nil _).mono ?_); rintro z_ w_ ⟨rfl, hb_⟩; have hb2_ := hb_; have S_ := Aside0.mk (S.out.keep hb2_); clear hb2_ hb_; clear S; have S := S_; clear S_) | (go_at_call 21; (with_reducible refine (take_nil _).mono ?_); rintro z_ w_ ⟨rfl, hb_⟩; have hb2_ := hb_; have S_ := Aside0.mk (S.out.keep hb2_); clear hb2_ hb_; clear S; have S := S_; clear S_) | (go_at_call 19; (with_reducible refine (fork_nil _).mono ?_); rintro z_ w_ ⟨rfl, hb_⟩; have hb2_ := hb_; have S_ := Aside0.mk (S.out.keep hb2_); clear hb2_ hb_; clear S; have S := S_; clear S_) | (go_at_call 16; (with_reducible refine (due_nil _).mono ?_); rintro z_ w_ ⟨A80, c80, rfl, hb_⟩; have hb2_ := hb_; have S_ := Aside0.mk (S.out.keep hb2_); clear hb2_ hb_; clear S; have S := S_; clear S_))
    go_ret
    exact ⟨rfl, S.out.below⟩
  have hd0 : decide ((m.length : Int) > 60) = false := decide_eq_false hlem
  go_enter Try.func7, Try.ntmps7
  go_wp2_with (first | ((with_reducible refine gate_dst (N := 6) rfl ?_); refine ev_alloc #[.int .u64 0, .slice none 0 0] rfl S ?_ 6 rfl rfl z33 ?_; (first | exact want0 rfl | exact want1 rfl rfl rfl rfl); intro g6 w6 S_; clear S; have S := S_; clear S_) | (refine ev_puts S ?_ rfl rfl s33 rfl rfl (by repeat (first | exact Spot.here _ _ | apply Spot.there)) rfl ?_ ?_ ?_; (first | exact want0 rfl | exact want1 rfl rfl rfl rfl); rfl; rfl; intro w_ S_; simp only [putAt, List.set_cons_zero, List.set_cons_succ] at S_; clear S; have S := S_; clear S_) | (refine ev_owns (vs := [_, _]) S ?_ rfl m33 rfl (by repeat (first | exact Spot.here _ _ | apply Spot.there)) (by exact rfl) ?_; (first | exact want0 rfl | exact want1 rfl rfl rfl rfl)) | (refine ev_owns (vs := [_, _, _]) S ?_ rfl m38 rfl (by repeat (first | exact Spot.here _ _ | apply Spot.there)) (by exact rfl) ?_; (first | exact want0 rfl | exact want1 rfl rfl rfl rfl)) | ((with_reducible refine gate_dst (N := 9) rfl ?_); refine ev_alloc #[.int .u64 0, .slice none 0 0] rfl S ?_ 9 rfl rfl z33 ?_; (first | exact want0 rfl | exact want1 rfl rfl rfl rfl); intro g9 w9 S_; clear S; have S := S_; clear S_) | (go_at_call 12; (with_reducible refine (awake_calls _).mono ?_); rintro z_ w_ ⟨rfl, hb_⟩; have hb2_ := hb_; have S_ := Aside0.mk (S.out.keep hb2_); clear hb2_ hb_; clear S; have S := S_; clear S_) | (go_at_call 13; have c_ := new_ev S; (with_reducible refine c_.mono ?_); clear c_; rintro z_ w_ ⟨g, rfl, S_⟩; clear S; have S := S_; clear S_) | (go_at_call 20; (with_reducible refine (retire_nil 1 _).mono ?_); rintro z_ w_ ⟨rfl, hb_⟩; have hb2_ := hb_; have S_ := Aside0.mk (S.out.keep hb2_); clear hb2_ hb_; clear S; have S := S_; clear S_) | (go_at_call 18; (with_reducible refine (now_nil _).mono ?_); rintro z_ w_ ⟨rfl, hb_⟩; have hb2_ := hb_; have S_ := Aside0.mk (S.out.keep hb2_); clear hb2_ hb_; clear S; have S := S_; clear S_) | (go_at_call 17; (with_reducible refine (waiting_nil _).mono ?_); rintro z_ w_ ⟨rfl, hb_⟩; have hb2_ := hb_; have S_ := Aside0.mk (S.out.keep hb2_); clear hb2_ hb_; clear S; have S := S_; clear S_) | (go_at_call 22; (with_reducible refine (clear_nil _).mono ?_); rintro z_ w_ ⟨rfl, hb_⟩; have hb2_ := hb_; have S_ := Aside0.mk (S.out.keep hb2_); clear hb2_ hb_; clear S; have S := S_; clear S_) | (go_at_call 21; (with_reducible refine (take_nil _).mono ?_); rintro z_ w_ ⟨rfl, hb_⟩; have hb2_ := hb_; have S_ := Aside0.mk (S.out.keep hb2_); clear hb2_ hb_; clear S; have S := S_; clear S_) | (go_at_call 19; (with_reducible refine (fork_nil _).mono ?_); rintro z_ w_ ⟨rfl, hb_⟩; have hb2_ := hb_; have S_ := Aside0.mk (S.out.keep hb2_); clear hb2_ hb_; clear S; have S := S_; clear S_) | (go_at_call 16; (with_reducible refine (due_nil _).mono ?_); rintro z_ w_ ⟨A80, c80, rfl, hb_⟩; have hb2_ := hb_; have S_ := Aside0.mk (S.out.keep hb2_); clear hb2_ hb_; clear S; have S := S_; clear S_))
  have S1 := Aside0.mk (add_nil k67 67 S.out)
  clear S
  have S := S1
  clear S1
  go_loopw [7] (fun v7 wr => ∃ (i : Nat) (now : Int) (A : Option Addr) (c : Nat) (ws : List S46) (rs : List S67) (Ar : Option Addr) (cr : Nat), v7 = .int .i64 i ∧ i ≤ l.length ∧ 0 ≤ now ∧ now ≤ i ∧ ws.length ≤ i ∧ Aside0 (rs = ws.map cv) ∧ Aside0 (St w.heap.size w wr [Own k67 67 Ar cr rs, Bk g6 #[.int .u64 now, .slice Ar rs.length cr] 33, ClkA g now A c ws])) (fun v7 _ => l.length - (intOf v7).toNat)
  case atStart => exact ⟨0, 0, none, 0, [], [], none, 0, rfl, Nat.zero_le _, by omega, by omega, by simp, ⟨rfl⟩, S⟩
  case round =>
    clear S
    obtain ⟨i, now, A, c, ws, rs, Ar, cr, rfl, hi, hn0, hni, hwi, HE, S⟩ := hrel
    have hl : ws.length ≤ 1000000 := by omega
    by_cases hlt : i < l.length
    · have hd2 : decide ((i : Int) < (l.length : Int)) = true := decide_eq_true (by omega)
      have hil : (i : Int) < (l.length : Int) := by omega
      have hi0 : (0 : Int) ≤ (i : Int) := by omega
      have hi1 : wrap64 ((i : Int) + 1) = ((i + 1 : Nat) : Int) := by unfold wrap64; omega
      obtain ⟨ad, cs, rfl, hK, hH⟩ := has_of HC.out zA i hlt
      generalize l.getD i zA = x at *
      obtain ⟨Ah, ch, rfl, hc3, hg3⟩ := kA_open hK
      have HG3 := Aside0.mk hg3
      have HH := Aside0.mk (show Has w (ad.add (i * 3)) _ from hH)
      clear hK hH hg3
      go_wp2_with (first | ((with_reducible refine gate_dst (N := 6) rfl ?_); refine ev_alloc #[.int .u64 0, .slice none 0 0] rfl S ?_ 6 rfl rfl z33 ?_; (first | exact want0 rfl | exact want1 rfl rfl rfl rfl); intro g6 w6 S_; clear S; have S := S_; clear S_) | (refine ev_puts S ?_ rfl rfl s33 rfl rfl (by repeat (first | exact Spot.here _ _ | apply Spot.there)) rfl ?_ ?_ ?_; (first | exact want0 rfl | exact want1 rfl rfl rfl rfl); rfl; rfl; intro w_ S_; simp only [putAt, List.set_cons_zero, List.set_cons_succ] at S_; clear S; have S := S_; clear S_) | (refine ev_owns (vs := [_, _]) S ?_ rfl m33 rfl (by repeat (first | exact Spot.here _ _ | apply Spot.there)) (by exact rfl) ?_; (first | exact want0 rfl | exact want1 rfl rfl rfl rfl)) | (refine ev_owns (vs := [_, _, _]) S ?_ rfl m38 rfl (by repeat (first | exact Spot.here _ _ | apply Spot.there)) (by exact rfl) ?_; (first | exact want0 rfl | exact want1 rfl rfl rfl rfl)) | ((with_reducible refine gate_dst (N := 9) rfl ?_); refine ev_alloc #[.int .u64 0, .slice none 0 0] rfl S ?_ 9 rfl rfl z33 ?_; (first | exact want0 rfl | exact want1 rfl rfl rfl rfl); intro g9 w9 S_; clear S; have S := S_; clear S_) | (go_at_call 12; (with_reducible refine (awake_calls _).mono ?_); rintro z_ w_ ⟨rfl, hb_⟩; have hb2_ := hb_; have S_ := Aside0.mk (S.out.keep hb2_); clear hb2_ hb_; clear S; have S := S_; clear S_) | (go_at_call 13; have c_ := new_ev S; (with_reducible refine c_.mono ?_); clear c_; rintro z_ w_ ⟨g, rfl, S_⟩; clear S; have S := S_; clear S_) | (go_at_call 20; (with_reducible refine (retire_nil 1 _).mono ?_); rintro z_ w_ ⟨rfl, hb_⟩; have hb2_ := hb_; have S_ := Aside0.mk (S.out.keep hb2_); clear hb2_ hb_; clear S; have S := S_; clear S_) | (go_at_call 18; (with_reducible refine (now_nil _).mono ?_); rintro z_ w_ ⟨rfl, hb_⟩; have hb2_ := hb_; have S_ := Aside0.mk (S.out.keep hb2_); clear hb2_ hb_; clear S; have S := S_; clear S_) | (go_at_call 17; (with_reducible refine (waiting_nil _).mono ?_); rintro z_ w_ ⟨rfl, hb_⟩; have hb2_ := hb_; have S_ := Aside0.mk (S.out.keep hb2_); clear hb2_ hb_; clear S; have S := S_; clear S_) | (go_at_call 22; (with_reducible refine (clear_nil _).mono ?_); rintro z_ w_ ⟨rfl, hb_⟩; have hb2_ := hb_; have S_ := Aside0.mk (S.out.keep hb2_); clear hb2_ hb_; clear S; have S := S_; clear S_) | (go_at_call 21; (with_reducible refine (take_nil _).mono ?_); rintro z_ w_ ⟨rfl, hb_⟩; have hb2_ := hb_; have S_ := Aside0.mk (S.out.keep hb2_); clear hb2_ hb_; clear S; have S := S_; clear S_) | (go_at_call 19; (with_reducible refine (fork_nil _).mono ?_); rintro z_ w_ ⟨rfl, hb_⟩; have hb2_ := hb_; have S_ := Aside0.mk (S.out.keep hb2_); clear hb2_ hb_; clear S; have S := S_; clear S_) | (go_at_call 16; (with_reducible refine (due_nil _).mono ?_); rintro z_ w_ ⟨A80, c80, rfl, hb_⟩; have hb2_ := hb_; have S_ := Aside0.mk (S.out.keep hb2_); clear hb2_ hb_; clear S; have S := S_; clear S_))
      have S2 := Aside0.mk S.out.drew
      clear S
      refine start_ (n := 11) (S := fun w' => w'.cell? ⟨g6, 0, none⟩ = some (.int .u64 now) ∧ w'.cell? ⟨g6, 1, none⟩ = some (.slice Ar rs.length cr)) (ds := [10]) #[false, false, false, false, false, false, false, false, false, false, false] (by kernel_rfl) rfl rfl ⟨((own_cell (g := g6) S2 (by repeat (first | exact Spot.here _ _ | apply Spot.there)) 0).trans rfl), ((own_cell (g := g6) S2 (by repeat (first | exact Spot.here _ _ | apply Spot.there)) 1).trans rfl)⟩ (fun hHeld => ?_)
      refine pure_ (i := 0) (N := some 34) (v := ?_) (a' := ?_) #[true, false, false, false, false, false, false, false, false, false, false] rfl rfl (by kernel_rfl) (fun _ _ _ h => h) (Or.inl ⟨by rfl, ?_⟩) ?_ ?_
      rotate_left
      · intro w'
        go_simp
        with_reducible rfl
      rotate_left
      · simp only [Act.put, List.setIfInBounds_toArray, List.set_cons_zero, List.set_cons_succ, i64_w, i32_w]
        rfl
      refine pure_ (i := 2) (N := some 36) (v := ?_) (a' := ?_) #[true, false, true, false, false, false, false, false, false, false, false] rfl rfl (by kernel_rfl) (fun _ _ _ h => h) (Or.inl ⟨by rfl, ?_⟩) ?_ ?_
      rotate_left
      · intro w'
        go_simp
        with_reducible rfl
      rotate_left
      · simp only [Act.put, List.setIfInBounds_toArray, List.set_cons_zero, List.set_cons_succ, i64_w, i32_w]
        rfl
      refine pure_ (i := 3) (N := some 37) (v := ?_) (a' := ?_) #[true, false, true, true, false, false, false, false, false, false, false] rfl rfl (by kernel_rfl) (fun _ _ _ h => h) (Or.inl ⟨by rfl, ?_⟩) ?_ ?_
      rotate_left
      · intro w'
        go_simp
        with_reducible rfl
      rotate_left
      · simp only [Act.put, List.setIfInBounds_toArray, List.set_cons_zero, List.set_cons_succ, i64_w, i32_w]
        rfl
      refine pure_ (i := 4) (N := some 38) (v := ?_) (a' := ?_) #[true, false, true, true, true, false, false, false, false, false, false] rfl rfl (by kernel_rfl) (fun _ _ _ h => h) (Or.inl ⟨by rfl, ?_⟩) ?_ ?_
      rotate_left
      · intro w'
        go_simp
        with_reducible rfl
      rotate_left
      · simp only [Act.put, List.setIfInBounds_toArray, List.set_cons_zero, List.set_cons_succ, i64_w, i32_w]
        rfl
      refine take_ (i := 1) (N := some 35) (v := ?_) (a' := ?_) #[true, true, true, true, true, false, false, false, false, false, false] rfl rfl (by kernel_rfl) (fun _ _ _ h => h) (Or.inl ⟨by rfl, ?_⟩) hHeld ?_ ?_
      rotate_left
      · rintro w' ⟨s0, s1⟩
        go_simp
        with_reducible rfl
      rotate_left
      · simp only [Act.put, List.setIfInBounds_toArray, List.set_cons_zero, List.set_cons_succ, i64_w, i32_w]
        rfl
      refine one_ (i := 5) (N := some 39) #[true, true, true, true, true, true, false, false, false, false, false] rfl rfl (by kernel_rfl) (by decide) (fun K hK => ?_)
      refine st_loads (N := some 39) (vs := [_, _, _]) (by rfl) rfl rfl m38 rfl (olds_ S2 HH.out) ?_
      refine hK.out _ _ ⟨((own_cell (g := g6) S2 (by repeat (first | exact Spot.here _ _ | apply Spot.there)) 0).trans rfl), ((own_cell (g := g6) S2 (by repeat (first | exact Spot.here _ _ | apply Spot.there)) 1).trans rfl)⟩ (fun hHeld => ?_)
      clear hK K
      refine norm_ (a' := ?_) ?_ ?_
      rotate_left
      · show Act.put _ (some 39) _ = _
        simp only [Act.put, List.setIfInBounds_toArray, List.set_cons_zero, List.set_cons_succ, i64_w, i32_w]
        rfl
      refine one_ (i := 6) (N := some 40) #[true, true, true, true, true, true, true, false, false, false, false] rfl rfl (by kernel_rfl) (by decide) (fun K hK => ?_)
      refine goes_ Try.func14 (by kernel_rfl) rfl #[.pointer (some ⟨g, 0, none⟩), .agg #[.int .u64 now, .slice Ar rs.length cr], .agg #[.int .u8 x.1, .int .u16 x.2.1, .slice Ah x.2.2.length ch]] (by rfl) rfl rfl (by simp only [List.map_toArray, List.map_cons, List.map_nil]; rfl) ?_
      with_reducible refine (do_ev S2 (by repeat (first | exact Spot.here _ _ | apply Spot.there)) (by repeat (first | exact Spot.here _ _ | apply Spot.there)) hl hn0 (by omega) HE.out HG3.out hc3).mono ?_
      rintro z9 w9 ⟨n9, A9, c9, ws9, rs9, Ar9, cr9, rfl, HE9, k5, k6, k7, HT9, S9⟩
      (try dsimp only at S9)
      refine ⟨_, rfl, ?_⟩
      refine hK.out _ _ ⟨((own_cell (g := g6) S9 (by repeat (first | exact Spot.here _ _ | apply Spot.there)) 0).trans rfl), ((own_cell (g := g6) S9 (by repeat (first | exact Spot.here _ _ | apply Spot.there)) 1).trans rfl)⟩ (fun hHeld => ?_)
      clear hK K
      refine norm_ (a' := ?_) ?_ ?_
      rotate_left
      · show Act.put _ (some 40) _ = _
        simp only [Act.put, List.setIfInBounds_toArray, List.set_cons_zero, List.set_cons_succ, i64_w, i32_w]
        rfl
      refine pure_ (i := 7) (N := some 33) (v := ?_) (a' := ?_) #[true, true, true, true, true, true, true, true, false, false, false] rfl rfl (by kernel_rfl) (fun _ _ _ h => h) (Or.inl ⟨by rfl, ?_⟩) ?_ ?_
      rotate_left
      · intro w'
        go_simp
        with_reducible rfl
      rotate_left
      · simp only [Act.put, List.setIfInBounds_toArray, List.set_cons_zero, List.set_cons_succ, i64_w, i32_w]
        rfl
      refine pure_ (i := 8) (N := some 41) (v := ?_) (a' := ?_) #[true, true, true, true, true, true, true, true, true, false, false] rfl rfl (by kernel_rfl) (fun _ _ _ h => h) (Or.inl ⟨by rfl, ?_⟩) ?_ ?_
      rotate_left
      · intro w'
        go_simp
        with_reducible rfl
      rotate_left
      · simp only [Act.put, List.setIfInBounds_toArray, List.set_cons_zero, List.set_cons_succ, i64_w, i32_w]
        rfl
      refine pure_ (i := 9) (N := some 42) (v := ?_) (a' := ?_) #[true, true, true, true, true, true, true, true, true, true, false] rfl rfl (by kernel_rfl) (fun _ _ _ h => h) (Or.inl ⟨by rfl, ?_⟩) ?_ ?_
      rotate_left
      · intro w'
        go_simp
        with_reducible rfl
      rotate_left
      · simp only [Act.put, List.setIfInBounds_toArray, List.set_cons_zero, List.set_cons_succ, i64_w, i32_w]
        rfl
      refine last_ (i := 10) (N := none) #[true, true, true, true, true, true, true, true, true, true, true] rfl rfl (by kernel_rfl) (by decide) (fun K hK => ?_)
      refine st_puts (g := g6) S9 (by rfl) rfl rfl s33 rfl rfl (by repeat (first | exact Spot.here _ _ | apply Spot.there)) rfl (by rfl) (by rfl) ?_
      intro w8 S8
      simp only [putAt, List.set_cons_zero, List.set_cons_succ] at S8
      refine hK.out _ _ ?_
      clear hK K
      refine done_ (by kernel_rfl) ?_

      clear S2 S9
      have S : Aside0 (St w.heap.size w w8 [Own k67 67 Ar9 cr9 rs9, Bk g6 #[.int .u64 n9, .slice Ar9 rs9.length cr9] 33, ClkA g n9 A9 c9 ws9]) := ⟨S8.out.drop (List.Sublist.cons_cons _ (List.sublist_cons_self _ _))⟩
      clear S8
      go_wp2_with (first | ((with_reducible refine gate_dst (N := 6) rfl ?_); refine ev_alloc #[.int .u64 0, .slice none 0 0] rfl S ?_ 6 rfl rfl z33 ?_; (first | exact want0 rfl | exact want1 rfl rfl rfl rfl); intro g6 w6 S_; clear S; have S := S_; clear S_) | (refine ev_puts S ?_ rfl rfl s33 rfl rfl (by repeat (first | exact Spot.here _ _ | apply Spot.there)) rfl ?_ ?_ ?_; (first | exact want0 rfl | exact want1 rfl rfl rfl rfl); rfl; rfl; intro w_ S_; simp only [putAt, List.set_cons_zero, List.set_cons_succ] at S_; clear S; have S := S_; clear S_) | (refine ev_owns (vs := [_, _]) S ?_ rfl m33 rfl (by repeat (first | exact Spot.here _ _ | apply Spot.there)) (by exact rfl) ?_; (first | exact want0 rfl | exact want1 rfl rfl rfl rfl)) | (refine ev_owns (vs := [_, _, _]) S ?_ rfl m38 rfl (by repeat (first | exact Spot.here _ _ | apply Spot.there)) (by exact rfl) ?_; (first | exact want0 rfl | exact want1 rfl rfl rfl rfl)) | ((with_reducible refine gate_dst (N := 9) rfl ?_); refine ev_alloc #[.int .u64 0, .slice none 0 0] rfl S ?_ 9 rfl rfl z33 ?_; (first | exact want0 rfl | exact want1 rfl rfl rfl rfl); intro g9 w9 S_; clear S; have S := S_; clear S_) | (go_at_call 12; (with_reducible refine (awake_calls _).mono ?_); rintro z_ w_ ⟨rfl, hb_⟩; have hb2_ := hb_; have S_ := Aside0.mk (S.out.keep hb2_); clear hb2_ hb_; clear S; have S := S_; clear S_) | (go_at_call 13; have c_ := new_ev S; (with_reducible refine c_.mono ?_); clear c_; rintro z_ w_ ⟨g, rfl, S_⟩; clear S; have S := S_; clear S_) | (go_at_call 20; (with_reducible refine (retire_nil 1 _).mono ?_); rintro z_ w_ ⟨rfl, hb_⟩; have hb2_ := hb_; have S_ := Aside0.mk (S.out.keep hb2_); clear hb2_ hb_; clear S; have S := S_; clear S_) | (go_at_call 18; (with_reducible refine (now_nil _).mono ?_); rintro z_ w_ ⟨rfl, hb_⟩; have hb2_ := hb_; have S_ := Aside0.mk (S.out.keep hb2_); clear hb2_ hb_; clear S; have S := S_; clear S_) | (go_at_call 17; (with_reducible refine (waiting_nil _).mono ?_); rintro z_ w_ ⟨rfl, hb_⟩; have hb2_ := hb_; have S_ := Aside0.mk (S.out.keep hb2_); clear hb2_ hb_; clear S; have S := S_; clear S_) | (go_at_call 22; (with_reducible refine (clear_nil _).mono ?_); rintro z_ w_ ⟨rfl, hb_⟩; have hb2_ := hb_; have S_ := Aside0.mk (S.out.keep hb2_); clear hb2_ hb_; clear S; have S := S_; clear S_) | (go_at_call 21; (with_reducible refine (take_nil _).mono ?_); rintro z_ w_ ⟨rfl, hb_⟩; have hb2_ := hb_; have S_ := Aside0.mk (S.out.keep hb2_); clear hb2_ hb_; clear S; have S := S_; clear S_) | (go_at_call 19; (with_reducible refine (fork_nil _).mono ?_); rintro z_ w_ ⟨rfl, hb_⟩; have hb2_ := hb_; have S_ := Aside0.mk (S.out.keep hb2_); clear hb2_ hb_; clear S; have S := S_; clear S_) | (go_at_call 16; (with_reducible refine (due_nil _).mono ?_); rintro z_ w_ ⟨A80, c80, rfl, hb_⟩; have hb2_ := hb_; have S_ := Aside0.mk (S.out.keep hb2_); clear hb2_ hb_; clear S; have S := S_; clear S_))
      refine ⟨⟨i + 1, n9, A9, c9, ws9, rs9, Ar9, cr9, by simp [hi1], by omega, by omega, by omega, by omega, HE9, S⟩, ?_⟩
      simp [intOf, hi1]; omega
    · obtain rfl : i = l.length := by omega
      have hd2 : decide ((l.length : Int) < (l.length : Int)) = false := decide_eq_false (by omega)
      have hnm : now ≤ 60 := by omega
      have hwm : ws.length ≤ 60 := by omega
      clear hd1 hd0
      go_wp2_with (first | ((with_reducible refine gate_dst (N := 6) rfl ?_); refine ev_alloc #[.int .u64 0, .slice none 0 0] rfl S ?_ 6 rfl rfl z33 ?_; (first | exact want0 rfl | exact want1 rfl rfl rfl rfl); intro g6 w6 S_; clear S; have S := S_; clear S_) | (refine ev_puts S ?_ rfl rfl s33 rfl rfl (by repeat (first | exact Spot.here _ _ | apply Spot.there)) rfl ?_ ?_ ?_; (first | exact want0 rfl | exact want1 rfl rfl rfl rfl); rfl; rfl; intro w_ S_; simp only [putAt, List.set_cons_zero, List.set_cons_succ] at S_; clear S; have S := S_; clear S_) | (refine ev_owns (vs := [_, _]) S ?_ rfl m33 rfl (by repeat (first | exact Spot.here _ _ | apply Spot.there)) (by exact rfl) ?_; (first | exact want0 rfl | exact want1 rfl rfl rfl rfl)) | (refine ev_owns (vs := [_, _, _]) S ?_ rfl m38 rfl (by repeat (first | exact Spot.here _ _ | apply Spot.there)) (by exact rfl) ?_; (first | exact want0 rfl | exact want1 rfl rfl rfl rfl)) | ((with_reducible refine gate_dst (N := 9) rfl ?_); refine ev_alloc #[.int .u64 0, .slice none 0 0] rfl S ?_ 9 rfl rfl z33 ?_; (first | exact want0 rfl | exact want1 rfl rfl rfl rfl); intro g9 w9 S_; clear S; have S := S_; clear S_) | (go_at_call 12; (with_reducible refine (awake_calls _).mono ?_); rintro z_ w_ ⟨rfl, hb_⟩; have hb2_ := hb_; have S_ := Aside0.mk (S.out.keep hb2_); clear hb2_ hb_; clear S; have S := S_; clear S_) | (go_at_call 13; have c_ := new_ev S; (with_reducible refine c_.mono ?_); clear c_; rintro z_ w_ ⟨g, rfl, S_⟩; clear S; have S := S_; clear S_) | (go_at_call 20; (with_reducible refine (retire_nil 1 _).mono ?_); rintro z_ w_ ⟨rfl, hb_⟩; have hb2_ := hb_; have S_ := Aside0.mk (S.out.keep hb2_); clear hb2_ hb_; clear S; have S := S_; clear S_) | (go_at_call 18; (with_reducible refine (now_nil _).mono ?_); rintro z_ w_ ⟨rfl, hb_⟩; have hb2_ := hb_; have S_ := Aside0.mk (S.out.keep hb2_); clear hb2_ hb_; clear S; have S := S_; clear S_) | (go_at_call 17; (with_reducible refine (waiting_nil _).mono ?_); rintro z_ w_ ⟨rfl, hb_⟩; have hb2_ := hb_; have S_ := Aside0.mk (S.out.keep hb2_); clear hb2_ hb_; clear S; have S := S_; clear S_) | (go_at_call 22; (with_reducible refine (clear_nil _).mono ?_); rintro z_ w_ ⟨rfl, hb_⟩; have hb2_ := hb_; have S_ := Aside0.mk (S.out.keep hb2_); clear hb2_ hb_; clear S; have S := S_; clear S_) | (go_at_call 21; (with_reducible refine (take_nil _).mono ?_); rintro z_ w_ ⟨rfl, hb_⟩; have hb2_ := hb_; have S_ := Aside0.mk (S.out.keep hb2_); clear hb2_ hb_; clear S; have S := S_; clear S_) | (go_at_call 19; (with_reducible refine (fork_nil _).mono ?_); rintro z_ w_ ⟨rfl, hb_⟩; have hb2_ := hb_; have S_ := Aside0.mk (S.out.keep hb2_); clear hb2_ hb_; clear S; have S := S_; clear S_) | (go_at_call 16; (with_reducible refine (due_nil _).mono ?_); rintro z_ w_ ⟨A80, c80, rfl, hb_⟩; have hb2_ := hb_; have S_ := Aside0.mk (S.out.keep hb2_); clear hb2_ hb_; clear S; have S := S_; clear S_))
      have S2 := Aside0.mk S.out.drew
      clear S
      refine start_ (n := 7) (S := fun w' => w'.cell? ⟨g6, 0, none⟩ = some (.int .u64 now) ∧ w'.cell? ⟨g6, 1, none⟩ = some (.slice Ar rs.length cr)) (ds := []) #[false, false, false, false, false, false, false] (by kernel_rfl) rfl rfl ⟨((own_cell (g := g6) S2 (by repeat (first | exact Spot.here _ _ | apply Spot.there)) 0).trans rfl), ((own_cell (g := g6) S2 (by repeat (first | exact Spot.here _ _ | apply Spot.there)) 1).trans rfl)⟩ (fun hHeld => ?_)
      refine pure_ (i := 0) (N := some 43) (v := ?_) (a' := ?_) #[true, false, false, false, false, false, false] rfl rfl (by kernel_rfl) (fun _ _ _ h => h) (Or.inl ⟨by rfl, ?_⟩) ?_ ?_
      rotate_left
      · intro w'
        go_simp
        with_reducible rfl
      rotate_left
      · simp only [Act.put, List.setIfInBounds_toArray, List.set_cons_zero, List.set_cons_succ, i64_w, i32_w]
        rfl
      refine take_ (i := 2) (N := some 45) (v := ?_) (a' := ?_) #[true, false, true, false, false, false, false] rfl rfl (by kernel_rfl) (fun _ _ _ h => h) (Or.inl ⟨by rfl, ?_⟩) hHeld ?_ ?_
      rotate_left
      · rintro w' ⟨s0, s1⟩
        go_simp
        with_reducible rfl
      rotate_left
      · simp only [Act.put, List.setIfInBounds_toArray, List.set_cons_zero, List.set_cons_succ, i64_w, i32_w]
        rfl
      refine join_ (σ := Nat × Nat) 3 #[true, true, true, true, false, false, false] (fun s => [(44, .pointer (some ⟨s.1, 0, none⟩)), (9, .pointer (some ⟨s.2, 0, none⟩))]) (fun s w' => Aside0 (∃ Af cf, St w.heap.size w w' [Bk s.2 #[.int .u64 0, .slice none 0 0] 33, ClkA s.1 now Af cf ws, Own k67 67 Ar cr rs, Bk g6 #[.int .u64 now, .slice Ar rs.length cr] 33, ClkA g now A c ws])) ?_ ?_
      rotate_left
      · intro hCont
        refine two_ (i := 1) (j := 3) (Ni := some 44) (Nj := some 9) #[true, true, true, false, false, false, false] #[true, false, true, true, false, false, false] rfl rfl rfl rfl (by kernel_rfl) (by decide) (by decide) (fun K hK => ?_) (fun K hK => ?_)
        · skip
          refine goes_ Try.func19 (by kernel_rfl) rfl #[.pointer (some ⟨g, 0, none⟩)] (by rfl) rfl rfl (by simp only [List.map_toArray, List.map_cons, List.map_nil]; rfl) ?_
          with_reducible refine (fork_ev S2 (by repeat (first | exact Spot.here _ _ | apply Spot.there)) hl).mono ?_
          rintro z9 w5 ⟨gf, Af, cf, rfl, S5⟩
          (try dsimp only at S5)
          refine ⟨_, rfl, ?_⟩
          refine hK.out _ _ ⟨((own_cell (g := g6) S5 (by repeat (first | exact Spot.here _ _ | apply Spot.there)) 0).trans rfl), ((own_cell (g := g6) S5 (by repeat (first | exact Spot.here _ _ | apply Spot.there)) 1).trans rfl)⟩ (fun hHeld => ?_)
          clear hK K
          refine norm_ (a' := ?_) ?_ ?_
          rotate_left
          · show Act.put _ (some 44) _ = _
            simp only [Act.put, List.setIfInBounds_toArray, List.set_cons_zero, List.set_cons_succ, i64_w, i32_w]
            rfl
          refine one_ (i := 3) (N := some 9) #[true, true, true, true, false, false, false] rfl rfl (by kernel_rfl) (by decide) (fun K hK => ?_)
          refine st_alloc #[.int .u64 0, .slice none 0 0] rfl S5 (by rfl) 9 rfl rfl Ty.z33 ?_
          intro g9 w6 S6
          refine hK.out _ _ ⟨((own_cell (g := g6) S6 (by repeat (first | exact Spot.here _ _ | apply Spot.there)) 0).trans rfl), ((own_cell (g := g6) S6 (by repeat (first | exact Spot.here _ _ | apply Spot.there)) 1).trans rfl)⟩ (fun hHeld => ?_)
          clear hK K
          refine norm_ (a' := ?_) ?_ ?_
          rotate_left
          · show Act.put _ (some 9) _ = _
            simp only [Act.put, List.setIfInBounds_toArray, List.set_cons_zero, List.set_cons_succ, i64_w, i32_w]
            rfl
          exact norm_ (by simp only [putAll, Act.put, List.setIfInBounds_toArray, List.set_cons_zero, List.set_cons_succ]) (hCont (gf, g9) _ ⟨⟨Af, cf, S6.out⟩⟩)
        · skip
          refine st_alloc #[.int .u64 0, .slice none 0 0] rfl S2 (by rfl) 9 rfl rfl Ty.z33 ?_
          intro g9 w6 S6
          refine hK.out _ _ ⟨((own_cell (g := g6) S6 (by repeat (first | exact Spot.here _ _ | apply Spot.there)) 0).trans rfl), ((own_cell (g := g6) S6 (by repeat (first | exact Spot.here _ _ | apply Spot.there)) 1).trans rfl)⟩ (fun hHeld => ?_)
          clear hK K
          refine norm_ (a' := ?_) ?_ ?_
          rotate_left
          · show Act.put _ (some 9) _ = _
            simp only [Act.put, List.setIfInBounds_toArray, List.set_cons_zero, List.set_cons_succ, i64_w, i32_w]
            rfl
          refine one_ (i := 1) (N := some 44) #[true, true, true, true, false, false, false] rfl rfl (by kernel_rfl) (by decide) (fun K hK => ?_)
          refine goes_ Try.func19 (by kernel_rfl) rfl #[.pointer (some ⟨g, 0, none⟩)] (by rfl) rfl rfl (by simp only [List.map_toArray, List.map_cons, List.map_nil]; rfl) ?_
          with_reducible refine (fork_ev S6 (by repeat (first | exact Spot.here _ _ | apply Spot.there)) hl).mono ?_
          rintro z9 w5 ⟨gf, Af, cf, rfl, S5⟩
          (try dsimp only at S5)
          refine ⟨_, rfl, ?_⟩
          refine hK.out _ _ ⟨((own_cell (g := g6) S5 (by repeat (first | exact Spot.here _ _ | apply Spot.there)) 0).trans rfl), ((own_cell (g := g6) S5 (by repeat (first | exact Spot.here _ _ | apply Spot.there)) 1).trans rfl)⟩ (fun hHeld => ?_)
          clear hK K
          refine norm_ (a' := ?_) ?_ ?_
          rotate_left
          · show Act.put _ (some 44) _ = _
            simp only [Act.put, List.setIfInBounds_toArray, List.set_cons_zero, List.set_cons_succ, i64_w, i32_w]
            rfl
          exact norm_ (by simp only [putAll, Act.put, List.setIfInBounds_toArray, List.set_cons_zero, List.set_cons_succ]) (hCont (gf, g9) _ ⟨⟨Af, cf, S5.out.swap (List.Perm.swap _ _ _)⟩⟩)
      rintro ⟨gf, g9⟩ w8 ⟨Af, cf, S8_⟩
      simp only at S8_
      have S8 := Aside0.mk S8_
      clear S8_
      have hHeld : w8.cell? ⟨g6, 0, none⟩ = some (.int .u64 now) ∧ w8.cell? ⟨g6, 1, none⟩ = some (.slice Ar rs.length cr) := ⟨((own_cell (g := g6) S8 (by repeat (first | exact Spot.here _ _ | apply Spot.there)) 0).trans rfl), ((own_cell (g := g6) S8 (by repeat (first | exact Spot.here _ _ | apply Spot.there)) 1).trans rfl)⟩
      refine norm_ (a' := ?_) ?_ ?_
      rotate_left
      · simp only [putAll, Act.put, List.setIfInBounds_toArray, List.set_cons_zero, List.set_cons_succ]
        rfl
      refine pure_ (i := 4) (N := some 8) (v := ?_) (a' := ?_) #[true, true, true, true, true, false, false] rfl rfl (by kernel_rfl) (fun _ _ _ h => h) (Or.inl ⟨by rfl, ?_⟩) ?_ ?_
      rotate_left
      · intro w'
        go_simp
        with_reducible rfl
      rotate_left
      · simp only [Act.put, List.setIfInBounds_toArray, List.set_cons_zero, List.set_cons_succ, i64_w, i32_w]
        rfl
      refine one_ (i := 5) (N := none) #[true, true, true, true, true, true, false] rfl rfl (by kernel_rfl) (by decide) (fun K hK => ?_)
      refine st_puts (g := g9) S8 (by rfl) rfl rfl s33 rfl rfl (by repeat (first | exact Spot.here _ _ | apply Spot.there)) rfl (by rfl) (by rfl) ?_
      intro w9 S9
      simp only [putAt, List.set_cons_zero, List.set_cons_succ] at S9
      refine hK.out _ _ ⟨((own_cell (g := g6) S9 (by repeat (first | exact Spot.here _ _ | apply Spot.there)) 0).trans rfl), ((own_cell (g := g6) S9 (by repeat (first | exact Spot.here _ _ | apply Spot.there)) 1).trans rfl)⟩ (fun hHeld => ?_)
      clear hK K
      refine pure_ (i := 6) (N := some 10) (v := ?_) (a' := ?_) #[true, true, true, true, true, true, true] rfl rfl (by kernel_rfl) (fun _ _ _ h => h) (Or.inl ⟨by rfl, ?_⟩) ?_ ?_
      rotate_left
      · intro w'
        go_simp
        with_reducible rfl
      rotate_left
      · simp only [Act.put, List.setIfInBounds_toArray, List.set_cons_zero, List.set_cons_succ, i64_w, i32_w]
        rfl
      refine done_ (by kernel_rfl) ?_

      clear S2 S8
      have S := S9
      clear S9
      go_wp2_with (first | ((with_reducible refine gate_dst (N := 6) rfl ?_); refine ev_alloc #[.int .u64 0, .slice none 0 0] rfl S ?_ 6 rfl rfl z33 ?_; (first | exact want0 rfl | exact want1 rfl rfl rfl rfl); intro g6 w6 S_; clear S; have S := S_; clear S_) | (refine ev_puts S ?_ rfl rfl s33 rfl rfl (by repeat (first | exact Spot.here _ _ | apply Spot.there)) rfl ?_ ?_ ?_; (first | exact want0 rfl | exact want1 rfl rfl rfl rfl); rfl; rfl; intro w_ S_; simp only [putAt, List.set_cons_zero, List.set_cons_succ] at S_; clear S; have S := S_; clear S_) | (refine ev_owns (vs := [_, _]) S ?_ rfl m33 rfl (by repeat (first | exact Spot.here _ _ | apply Spot.there)) (by exact rfl) ?_; (first | exact want0 rfl | exact want1 rfl rfl rfl rfl)) | (refine ev_owns (vs := [_, _, _]) S ?_ rfl m38 rfl (by repeat (first | exact Spot.here _ _ | apply Spot.there)) (by exact rfl) ?_; (first | exact want0 rfl | exact want1 rfl rfl rfl rfl)) | ((with_reducible refine gate_dst (N := 9) rfl ?_); refine ev_alloc #[.int .u64 0, .slice none 0 0] rfl S ?_ 9 rfl rfl z33 ?_; (first | exact want0 rfl | exact want1 rfl rfl rfl rfl); intro g9 w9 S_; clear S; have S := S_; clear S_) | (go_at_call 12; (with_reducible refine (awake_calls _).mono ?_); rintro z_ w_ ⟨rfl, hb_⟩; have hb2_ := hb_; have S_ := Aside0.mk (S.out.keep hb2_); clear hb2_ hb_; clear S; have S := S_; clear S_) | (go_at_call 13; have c_ := new_ev S; (with_reducible refine c_.mono ?_); clear c_; rintro z_ w_ ⟨g, rfl, S_⟩; clear S; have S := S_; clear S_) | (go_at_call 20; (with_reducible refine (retire_nil 1 _).mono ?_); rintro z_ w_ ⟨rfl, hb_⟩; have hb2_ := hb_; have S_ := Aside0.mk (S.out.keep hb2_); clear hb2_ hb_; clear S; have S := S_; clear S_) | (go_at_call 18; (with_reducible refine (now_nil _).mono ?_); rintro z_ w_ ⟨rfl, hb_⟩; have hb2_ := hb_; have S_ := Aside0.mk (S.out.keep hb2_); clear hb2_ hb_; clear S; have S := S_; clear S_) | (go_at_call 17; (with_reducible refine (waiting_nil _).mono ?_); rintro z_ w_ ⟨rfl, hb_⟩; have hb2_ := hb_; have S_ := Aside0.mk (S.out.keep hb2_); clear hb2_ hb_; clear S; have S := S_; clear S_) | (go_at_call 22; (with_reducible refine (clear_nil _).mono ?_); rintro z_ w_ ⟨rfl, hb_⟩; have hb2_ := hb_; have S_ := Aside0.mk (S.out.keep hb2_); clear hb2_ hb_; clear S; have S := S_; clear S_) | (go_at_call 21; (with_reducible refine (take_nil _).mono ?_); rintro z_ w_ ⟨rfl, hb_⟩; have hb2_ := hb_; have S_ := Aside0.mk (S.out.keep hb2_); clear hb2_ hb_; clear S; have S := S_; clear S_) | (go_at_call 19; (with_reducible refine (fork_nil _).mono ?_); rintro z_ w_ ⟨rfl, hb_⟩; have hb2_ := hb_; have S_ := Aside0.mk (S.out.keep hb2_); clear hb2_ hb_; clear S; have S := S_; clear S_) | (go_at_call 16; (with_reducible refine (due_nil _).mono ?_); rintro z_ w_ ⟨A80, c80, rfl, hb_⟩; have hb2_ := hb_; have S_ := Aside0.mk (S.out.keep hb2_); clear hb2_ hb_; clear S; have S := S_; clear S_))
      go_loopw [10, 11] (fun v10 v11 wr => ∃ (i : Nat) (nx : Int) (Af : Option Addr) (cf : Nat) (wx : List S46) (xs : List S67) (Ax : Option Addr) (cx : Nat), v10 = .bool true ∧ v11 = .int .i64 i ∧ i ≤ m.length ∧ 0 ≤ nx ∧ nx ≤ 60 + i ∧ wx.length ≤ 60 + i ∧ Aside0 (xs = wx.map cv) ∧ Aside0 (xs.length ≤ cx ∧ ∀ W', Turn wr W' (KK gf Af) → Kd.C k67 W' Ax xs.length xs) ∧ Aside0 (St w.heap.size w wr [Bk g9 #[.int .u64 nx, .slice Ax xs.length cx] 33, ClkA gf nx Af cf wx, Own k67 67 Ar cr rs, Bk g6 #[.int .u64 now, .slice Ar rs.length cr] 33, ClkA g now A c ws])) (fun _ v11 _ => m.length - (intOf v11).toNat)
      case atStart => exact ⟨0, now, Af, cf, ws, rs, Ar, cr, rfl, rfl, Nat.zero_le _, hn0, by omega, by omega, HE, ⟨Own.cap (pred_at S.out (a := Own k67 67 Ar cr rs) (by repeat (first | exact Spot.here _ _ | apply Spot.there))), rest_ref (g := gf) (A := Af) (c := cf) S (by repeat (first | exact Spot.here _ _ | apply Spot.there)) (rs := rs) (Ar := Ar) (cr := cr) (by repeat (first | exact Spot.here _ _ | apply Spot.there))⟩, S⟩
      case round =>
        clear S
        have HEr := HE
        clear HE
        obtain ⟨i, nx, Af, cf, wx, xs, Ax, cx, rfl, rfl, hi, hn0x, hnix, hwix, HEx, HX, S⟩ := hrel
        have hlx : wx.length ≤ 1000000 := by omega
        by_cases hlt : i < m.length
        · have hd2 : decide ((i : Int) < (m.length : Int)) = true := decide_eq_true (by omega)
          have hil : (i : Int) < (m.length : Int) := by omega
          have hi0 : (0 : Int) ≤ (i : Int) := by omega
          have hi1 : wrap64 ((i : Int) + 1) = ((i + 1 : Nat) : Int) := by unfold wrap64; omega
          have hnb : nx < 1099511627776 := by omega
          obtain ⟨ad, cs, rfl, hK, hH⟩ := has_of HC1.out zA i hlt
          generalize m.getD i zA = x at *
          obtain ⟨Ah, ch, rfl, hc3, hg3⟩ := kA_open hK
          have HG3 := Aside0.mk hg3
          have HH := Aside0.mk (show Has w (ad.add (i * 3)) _ from hH)
          clear hK hH hg3
          go_wp2_with (first | ((with_reducible refine gate_dst (N := 6) rfl ?_); refine ev_alloc #[.int .u64 0, .slice none 0 0] rfl S ?_ 6 rfl rfl z33 ?_; (first | exact want0 rfl | exact want1 rfl rfl rfl rfl); intro g6 w6 S_; clear S; have S := S_; clear S_) | (refine ev_puts S ?_ rfl rfl s33 rfl rfl (by repeat (first | exact Spot.here _ _ | apply Spot.there)) rfl ?_ ?_ ?_; (first | exact want0 rfl | exact want1 rfl rfl rfl rfl); rfl; rfl; intro w_ S_; simp only [putAt, List.set_cons_zero, List.set_cons_succ] at S_; clear S; have S := S_; clear S_) | (refine ev_owns (vs := [_, _]) S ?_ rfl m33 rfl (by repeat (first | exact Spot.here _ _ | apply Spot.there)) (by exact rfl) ?_; (first | exact want0 rfl | exact want1 rfl rfl rfl rfl)) | (refine ev_owns (vs := [_, _, _]) S ?_ rfl m38 rfl (by repeat (first | exact Spot.here _ _ | apply Spot.there)) (by exact rfl) ?_; (first | exact want0 rfl | exact want1 rfl rfl rfl rfl)) | ((with_reducible refine gate_dst (N := 9) rfl ?_); refine ev_alloc #[.int .u64 0, .slice none 0 0] rfl S ?_ 9 rfl rfl z33 ?_; (first | exact want0 rfl | exact want1 rfl rfl rfl rfl); intro g9 w9 S_; clear S; have S := S_; clear S_) | (go_at_call 12; (with_reducible refine (awake_calls _).mono ?_); rintro z_ w_ ⟨rfl, hb_⟩; have hb2_ := hb_; have S_ := Aside0.mk (S.out.keep hb2_); clear hb2_ hb_; clear S; have S := S_; clear S_) | (go_at_call 13; have c_ := new_ev S; (with_reducible refine c_.mono ?_); clear c_; rintro z_ w_ ⟨g, rfl, S_⟩; clear S; have S := S_; clear S_) | (go_at_call 20; (with_reducible refine (retire_nil 1 _).mono ?_); rintro z_ w_ ⟨rfl, hb_⟩; have hb2_ := hb_; have S_ := Aside0.mk (S.out.keep hb2_); clear hb2_ hb_; clear S; have S := S_; clear S_) | (go_at_call 18; (with_reducible refine (now_nil _).mono ?_); rintro z_ w_ ⟨rfl, hb_⟩; have hb2_ := hb_; have S_ := Aside0.mk (S.out.keep hb2_); clear hb2_ hb_; clear S; have S := S_; clear S_) | (go_at_call 17; (with_reducible refine (waiting_nil _).mono ?_); rintro z_ w_ ⟨rfl, hb_⟩; have hb2_ := hb_; have S_ := Aside0.mk (S.out.keep hb2_); clear hb2_ hb_; clear S; have S := S_; clear S_) | (go_at_call 22; (with_reducible refine (clear_nil _).mono ?_); rintro z_ w_ ⟨rfl, hb_⟩; have hb2_ := hb_; have S_ := Aside0.mk (S.out.keep hb2_); clear hb2_ hb_; clear S; have S := S_; clear S_) | (go_at_call 21; (with_reducible refine (take_nil _).mono ?_); rintro z_ w_ ⟨rfl, hb_⟩; have hb2_ := hb_; have S_ := Aside0.mk (S.out.keep hb2_); clear hb2_ hb_; clear S; have S := S_; clear S_) | (go_at_call 19; (with_reducible refine (fork_nil _).mono ?_); rintro z_ w_ ⟨rfl, hb_⟩; have hb2_ := hb_; have S_ := Aside0.mk (S.out.keep hb2_); clear hb2_ hb_; clear S; have S := S_; clear S_) | (go_at_call 16; (with_reducible refine (due_nil _).mono ?_); rintro z_ w_ ⟨A80, c80, rfl, hb_⟩; have hb2_ := hb_; have S_ := Aside0.mk (S.out.keep hb2_); clear hb2_ hb_; clear S; have S := S_; clear S_))
          have HE := HEx
          have hlc := hl
          clear hl
          have hl := hlx
          have hn0c := hn0
          clear hn0
          have hn0 := hn0x
          have S2 := Aside0.mk S.out.drew
          clear S
          refine start_ (n := 12) (S := fun w' => w'.cell? ⟨g9, 0, none⟩ = some (.int .u64 nx) ∧ w'.cell? ⟨g9, 1, none⟩ = some (.slice Ax xs.length cx)) (ds := [10]) #[false, false, false, false, false, false, false, false, false, false, false, false] (by kernel_rfl) rfl rfl ⟨((own_cell (g := g9) S2 (by repeat (first | exact Spot.here _ _ | apply Spot.there)) 0).trans rfl), ((own_cell (g := g9) S2 (by repeat (first | exact Spot.here _ _ | apply Spot.there)) 1).trans rfl)⟩ (fun hHeld => ?_)
          refine pure_ (i := 0) (N := some 55) (v := ?_) (a' := ?_) #[true, false, false, false, false, false, false, false, false, false, false, false] rfl rfl (by kernel_rfl) (fun _ _ _ h => h) (Or.inl ⟨by rfl, ?_⟩) ?_ ?_
          rotate_left
          · intro w'
            go_simp
            with_reducible rfl
          rotate_left
          · simp only [Act.put, List.setIfInBounds_toArray, List.set_cons_zero, List.set_cons_succ, i64_w, i32_w]
            rfl
          refine pure_ (i := 2) (N := some 57) (v := ?_) (a' := ?_) #[true, false, true, false, false, false, false, false, false, false, false, false] rfl rfl (by kernel_rfl) (fun _ _ _ h => h) (Or.inl ⟨by rfl, ?_⟩) ?_ ?_
          rotate_left
          · intro w'
            go_simp
            with_reducible rfl
          rotate_left
          · simp only [Act.put, List.setIfInBounds_toArray, List.set_cons_zero, List.set_cons_succ, i64_w, i32_w]
            rfl
          refine pure_ (i := 3) (N := some 58) (v := ?_) (a' := ?_) #[true, false, true, true, false, false, false, false, false, false, false, false] rfl rfl (by kernel_rfl) (fun _ _ _ h => h) (Or.inl ⟨by rfl, ?_⟩) ?_ ?_
          rotate_left
          · intro w'
            go_simp
            with_reducible rfl
          rotate_left
          · simp only [Act.put, List.setIfInBounds_toArray, List.set_cons_zero, List.set_cons_succ, i64_w, i32_w]
            rfl
          refine pure_ (i := 4) (N := some 59) (v := ?_) (a' := ?_) #[true, false, true, true, true, false, false, false, false, false, false, false] rfl rfl (by kernel_rfl) (fun _ _ _ h => h) (Or.inl ⟨by rfl, ?_⟩) ?_ ?_
          rotate_left
          · intro w'
            go_simp
            with_reducible rfl
          rotate_left
          · simp only [Act.put, List.setIfInBounds_toArray, List.set_cons_zero, List.set_cons_succ, i64_w, i32_w]
            rfl
          refine take_ (i := 1) (N := some 56) (v := ?_) (a' := ?_) #[true, true, true, true, true, false, false, false, false, false, false, false] rfl rfl (by kernel_rfl) (fun _ _ _ h => h) (Or.inl ⟨by rfl, ?_⟩) hHeld ?_ ?_
          rotate_left
          · rintro w' ⟨s0, s1⟩
            go_simp
            with_reducible rfl
          rotate_left
          · simp only [Act.put, List.setIfInBounds_toArray, List.set_cons_zero, List.set_cons_succ, i64_w, i32_w]
            rfl
          refine one_ (i := 5) (N := some 60) #[true, true, true, true, true, true, false, false, false, false, false, false] rfl rfl (by kernel_rfl) (by decide) (fun K hK => ?_)
          refine st_loads (N := some 60) (vs := [_, _, _]) (by rfl) rfl rfl m38 rfl (olds_ S2 HH.out) ?_
          refine hK.out _ _ ⟨((own_cell (g := g9) S2 (by repeat (first | exact Spot.here _ _ | apply Spot.there)) 0).trans rfl), ((own_cell (g := g9) S2 (by repeat (first | exact Spot.here _ _ | apply Spot.there)) 1).trans rfl)⟩ (fun hHeld => ?_)
          clear hK K
          refine norm_ (a' := ?_) ?_ ?_
          rotate_left
          · show Act.put _ (some 60) _ = _
            simp only [Act.put, List.setIfInBounds_toArray, List.set_cons_zero, List.set_cons_succ, i64_w, i32_w]
            rfl
          refine one_ (i := 6) (N := some 61) #[true, true, true, true, true, true, true, false, false, false, false, false] rfl rfl (by kernel_rfl) (by decide) (fun K hK => ?_)
          refine goes_ Try.func14 (by kernel_rfl) rfl #[.pointer (some ⟨gf, 0, none⟩), .agg #[.int .u64 nx, .slice Ax xs.length cx], .agg #[.int .u8 x.1, .int .u16 x.2.1, .slice Ah x.2.2.length ch]] (by rfl) rfl rfl (by simp only [List.map_toArray, List.map_cons, List.map_nil]; rfl) ?_
          with_reducible refine (do_evR S2 (by repeat (first | exact Spot.here _ _ | apply Spot.there)) (fun W' T => HX.out.2 W' ((drew_turn wr _).trans T)) HX.out.1 hl hn0 hnb HE.out (harts_old S2 (by repeat (first | exact Spot.here _ _ | apply Spot.there)) HG3.out) hc3).mono ?_
          rintro z9 w9 ⟨n9, A9, c9, ws9, rs9, Ar9, cr9, rfl, HE9, k5, k6, k7, S9⟩
          (try dsimp only at S9)
          refine ⟨_, rfl, ?_⟩
          refine hK.out _ _ ⟨((own_cell (g := g9) S9 (by repeat (first | exact Spot.here _ _ | apply Spot.there)) 0).trans rfl), ((own_cell (g := g9) S9 (by repeat (first | exact Spot.here _ _ | apply Spot.there)) 1).trans rfl)⟩ (fun hHeld => ?_)
          clear hK K
          refine norm_ (a' := ?_) ?_ ?_
          rotate_left
          · show Act.put _ (some 61) _ = _
            simp only [Act.put, List.setIfInBounds_toArray, List.set_cons_zero, List.set_cons_succ, i64_w, i32_w]
            rfl
          refine pure_ (i := 7) (N := some 54) (v := ?_) (a' := ?_) #[true, true, true, true, true, true, true, true, false, false, false, false] rfl rfl (by kernel_rfl) (fun _ _ _ h => h) (Or.inl ⟨by rfl, ?_⟩) ?_ ?_
          rotate_left
          · intro w'
            go_simp
            with_reducible rfl
          rotate_left
          · simp only [Act.put, List.setIfInBounds_toArray, List.set_cons_zero, List.set_cons_succ, i64_w, i32_w]
            rfl
          refine pure_ (i := 8) (N := some 62) (v := ?_) (a' := ?_) #[true, true, true, true, true, true, true, true, true, false, false, false] rfl rfl (by kernel_rfl) (fun _ _ _ h => h) (Or.inl ⟨by rfl, ?_⟩) ?_ ?_
          rotate_left
          · intro w'
            go_simp
            with_reducible rfl
          rotate_left
          · simp only [Act.put, List.setIfInBounds_toArray, List.set_cons_zero, List.set_cons_succ, i64_w, i32_w]
            rfl
          refine pure_ (i := 9) (N := some 63) (v := ?_) (a' := ?_) #[true, true, true, true, true, true, true, true, true, true, false, false] rfl rfl (by kernel_rfl) (fun _ _ _ h => h) (Or.inl ⟨by rfl, ?_⟩) ?_ ?_
          rotate_left
          · intro w'
            go_simp
            with_reducible rfl
          rotate_left
          · simp only [Act.put, List.setIfInBounds_toArray, List.set_cons_zero, List.set_cons_succ, i64_w, i32_w]
            rfl
          refine last_ (i := 10) (N := none) #[true, true, true, true, true, true, true, true, true, true, true, false] rfl rfl (by kernel_rfl) (by decide) (fun K hK => ?_)
          refine st_puts (g := g9) S9 (by rfl) rfl rfl s33 rfl rfl (by repeat (first | exact Spot.here _ _ | apply Spot.there)) rfl (by rfl) (by rfl) ?_
          intro w8 S8
          simp only [putAt, List.set_cons_zero, List.set_cons_succ] at S8
          refine hK.out _ _ ?_
          clear hK K
          refine pure_ (i := 11) (N := some 10) (v := ?_) (a' := ?_) #[true, true, true, true, true, true, true, true, true, true, true, true] rfl rfl (by kernel_rfl) (fun _ _ _ h => h) (Or.inl ⟨by rfl, ?_⟩) ?_ ?_
          rotate_left
          · intro w'
            go_simp
            with_reducible rfl
          rotate_left
          · simp only [Act.put, List.setIfInBounds_toArray, List.set_cons_zero, List.set_cons_succ, i64_w, i32_w]
            rfl
          refine done_ (by kernel_rfl) ?_

          clear S2 S9
          have S := S8
          clear S8
          go_wp2_with (first | ((with_reducible refine gate_dst (N := 6) rfl ?_); refine ev_alloc #[.int .u64 0, .slice none 0 0] rfl S ?_ 6 rfl rfl z33 ?_; (first | exact want0 rfl | exact want1 rfl rfl rfl rfl); intro g6 w6 S_; clear S; have S := S_; clear S_) | (refine ev_puts S ?_ rfl rfl s33 rfl rfl (by repeat (first | exact Spot.here _ _ | apply Spot.there)) rfl ?_ ?_ ?_; (first | exact want0 rfl | exact want1 rfl rfl rfl rfl); rfl; rfl; intro w_ S_; simp only [putAt, List.set_cons_zero, List.set_cons_succ] at S_; clear S; have S := S_; clear S_) | (refine ev_owns (vs := [_, _]) S ?_ rfl m33 rfl (by repeat (first | exact Spot.here _ _ | apply Spot.there)) (by exact rfl) ?_; (first | exact want0 rfl | exact want1 rfl rfl rfl rfl)) | (refine ev_owns (vs := [_, _, _]) S ?_ rfl m38 rfl (by repeat (first | exact Spot.here _ _ | apply Spot.there)) (by exact rfl) ?_; (first | exact want0 rfl | exact want1 rfl rfl rfl rfl)) | ((with_reducible refine gate_dst (N := 9) rfl ?_); refine ev_alloc #[.int .u64 0, .slice none 0 0] rfl S ?_ 9 rfl rfl z33 ?_; (first | exact want0 rfl | exact want1 rfl rfl rfl rfl); intro g9 w9 S_; clear S; have S := S_; clear S_) | (go_at_call 12; (with_reducible refine (awake_calls _).mono ?_); rintro z_ w_ ⟨rfl, hb_⟩; have hb2_ := hb_; have S_ := Aside0.mk (S.out.keep hb2_); clear hb2_ hb_; clear S; have S := S_; clear S_) | (go_at_call 13; have c_ := new_ev S; (with_reducible refine c_.mono ?_); clear c_; rintro z_ w_ ⟨g, rfl, S_⟩; clear S; have S := S_; clear S_) | (go_at_call 20; (with_reducible refine (retire_nil 1 _).mono ?_); rintro z_ w_ ⟨rfl, hb_⟩; have hb2_ := hb_; have S_ := Aside0.mk (S.out.keep hb2_); clear hb2_ hb_; clear S; have S := S_; clear S_) | (go_at_call 18; (with_reducible refine (now_nil _).mono ?_); rintro z_ w_ ⟨rfl, hb_⟩; have hb2_ := hb_; have S_ := Aside0.mk (S.out.keep hb2_); clear hb2_ hb_; clear S; have S := S_; clear S_) | (go_at_call 17; (with_reducible refine (waiting_nil _).mono ?_); rintro z_ w_ ⟨rfl, hb_⟩; have hb2_ := hb_; have S_ := Aside0.mk (S.out.keep hb2_); clear hb2_ hb_; clear S; have S := S_; clear S_) | (go_at_call 22; (with_reducible refine (clear_nil _).mono ?_); rintro z_ w_ ⟨rfl, hb_⟩; have hb2_ := hb_; have S_ := Aside0.mk (S.out.keep hb2_); clear hb2_ hb_; clear S; have S := S_; clear S_) | (go_at_call 21; (with_reducible refine (take_nil _).mono ?_); rintro z_ w_ ⟨rfl, hb_⟩; have hb2_ := hb_; have S_ := Aside0.mk (S.out.keep hb2_); clear hb2_ hb_; clear S; have S := S_; clear S_) | (go_at_call 19; (with_reducible refine (fork_nil _).mono ?_); rintro z_ w_ ⟨rfl, hb_⟩; have hb2_ := hb_; have S_ := Aside0.mk (S.out.keep hb2_); clear hb2_ hb_; clear S; have S := S_; clear S_) | (go_at_call 16; (with_reducible refine (due_nil _).mono ?_); rintro z_ w_ ⟨A80, c80, rfl, hb_⟩; have hb2_ := hb_; have S_ := Aside0.mk (S.out.keep hb2_); clear hb2_ hb_; clear S; have S := S_; clear S_))
          refine ⟨⟨i + 1, n9, A9, c9, ws9, rs9, Ar9, cr9, rfl, by simp [hi1], by omega, by omega, by omega, by omega, HE9, ⟨Own.cap (pred_at S.out (a := Own k67 67 Ar9 cr9 rs9) (by repeat (first | exact Spot.here _ _ | apply Spot.there))), rest_ref (g := gf) (A := A9) (c := c9) S (by repeat (first | exact Spot.here _ _ | apply Spot.there)) (rs := rs9) (Ar := Ar9) (cr := cr9) (by repeat (first | exact Spot.here _ _ | apply Spot.there))⟩, ⟨S.out.drop (List.sublist_cons_self _ _)⟩⟩, ?_⟩
          simp [intOf, hi1]; omega
        · obtain rfl : i = m.length := by omega
          have hd2 : decide ((m.length : Int) < (m.length : Int)) = false := decide_eq_false (by omega)
          have HE := HEr
          have HF := Aside0.mk (clk_at (g := gf) (now := nx) (A := Af) (c := cf) (ws := wx) S (by repeat (first | exact Spot.here _ _ | apply Spot.there)))
          have HG := Aside0.mk (clk_at (g := g) (now := now) (A := A) (c := c) (ws := ws) S (by repeat (first | exact Spot.here _ _ | apply Spot.there)))
          have HXC := Aside0.mk (HX.out.2 wr (Turn.refl _ _))
          have HRC := Aside0.mk (Own.reads (pred_at S.out (a := Own k67 67 Ar cr rs) (by repeat (first | exact Spot.here _ _ | apply Spot.there))))
          have HRL := Aside0.mk (Own.cap (pred_at S.out (a := Own k67 67 Ar cr rs) (by repeat (first | exact Spot.here _ _ | apply Spot.there))))
          have H9 := Aside0.mk (show Has wr ⟨g9, 0, none⟩ [.int .u64 nx, .slice Ax xs.length cx] from Has.of_blk (Bk.heap (pred_at S.out (a := Bk g9 #[.int .u64 nx, .slice Ax xs.length cx] 33) (by repeat (first | exact Spot.here _ _ | apply Spot.there)))) (fun j v hj => by simpa using hj))
          have H6 := Aside0.mk (show Has wr ⟨g6, 0, none⟩ [.int .u64 now, .slice Ar rs.length cr] from Has.of_blk (Bk.heap (pred_at S.out (a := Bk g6 #[.int .u64 now, .slice Ar rs.length cr] 33) (by repeat (first | exact Spot.here _ _ | apply Spot.there)))) (fun j v hj => by simpa using hj))
          have S0 := Aside0.mk (Aside0.mk S.out)
          clear S
          have S := Aside0.mk (St.start wr)
          go_wp2_with (first | (refine ev_loads (vs := [_, _]) ?_ rfl m33 rfl (olds_ S H9.out) ?_; (first | exact want0 rfl | exact want1 rfl rfl rfl rfl)) | (refine ev_loads (vs := [_, _]) ?_ rfl m33 rfl (olds_ S H6.out) ?_; (first | exact want0 rfl | exact want1 rfl rfl rfl rfl)) | ((with_reducible refine gate_dst (N := 6) rfl ?_); refine ev_alloc #[.int .u64 0, .slice none 0 0] rfl S ?_ 6 rfl rfl z33 ?_; (first | exact want0 rfl | exact want1 rfl rfl rfl rfl); intro g6 w6 S_; clear S; have S := S_; clear S_) | (refine ev_puts S ?_ rfl rfl s33 rfl rfl (by repeat (first | exact Spot.here _ _ | apply Spot.there)) rfl ?_ ?_ ?_; (first | exact want0 rfl | exact want1 rfl rfl rfl rfl); rfl; rfl; intro w_ S_; simp only [putAt, List.set_cons_zero, List.set_cons_succ] at S_; clear S; have S := S_; clear S_) | (refine ev_owns (vs := [_, _]) S ?_ rfl m33 rfl (by repeat (first | exact Spot.here _ _ | apply Spot.there)) (by exact rfl) ?_; (first | exact want0 rfl | exact want1 rfl rfl rfl rfl)) | (refine ev_owns (vs := [_, _, _]) S ?_ rfl m38 rfl (by repeat (first | exact Spot.here _ _ | apply Spot.there)) (by exact rfl) ?_; (first | exact want0 rfl | exact want1 rfl rfl rfl rfl)) | ((with_reducible refine gate_dst (N := 9) rfl ?_); refine ev_alloc #[.int .u64 0, .slice none 0 0] rfl S ?_ 9 rfl rfl z33 ?_; (first | exact want0 rfl | exact want1 rfl rfl rfl rfl); intro g9 w9 S_; clear S; have S := S_; clear S_) | (go_at_call 12; (with_reducible refine (awake_calls _).mono ?_); rintro z_ w_ ⟨rfl, hb_⟩; have hb2_ := hb_; have S_ := Aside0.mk (S.out.keep hb2_); clear hb2_ hb_; clear S; have S := S_; clear S_) | (go_at_call 13; have c_ := new_ev S; (with_reducible refine c_.mono ?_); clear c_; rintro z_ w_ ⟨g, rfl, S_⟩; clear S; have S := S_; clear S_) | (go_at_call 20; (with_reducible refine (retire_nil 1 _).mono ?_); rintro z_ w_ ⟨rfl, hb_⟩; have hb2_ := hb_; have S_ := Aside0.mk (S.out.keep hb2_); clear hb2_ hb_; clear S; have S := S_; clear S_) | (go_at_call 18; (with_reducible refine (now_nil _).mono ?_); rintro z_ w_ ⟨rfl, hb_⟩; have hb2_ := hb_; have S_ := Aside0.mk (S.out.keep hb2_); clear hb2_ hb_; clear S; have S := S_; clear S_) | (go_at_call 17; (with_reducible refine (waiting_nil _).mono ?_); rintro z_ w_ ⟨rfl, hb_⟩; have hb2_ := hb_; have S_ := Aside0.mk (S.out.keep hb2_); clear hb2_ hb_; clear S; have S := S_; clear S_) | (go_at_call 22; (with_reducible refine (clear_nil _).mono ?_); rintro z_ w_ ⟨rfl, hb_⟩; have hb2_ := hb_; have S_ := Aside0.mk (S.out.keep hb2_); clear hb2_ hb_; clear S; have S := S_; clear S_) | (go_at_call 21; (with_reducible refine (take_nil _).mono ?_); rintro z_ w_ ⟨rfl, hb_⟩; have hb2_ := hb_; have S_ := Aside0.mk (S.out.keep hb2_); clear hb2_ hb_; clear S; have S := S_; clear S_) | (go_at_call 19; (with_reducible refine (fork_nil _).mono ?_); rintro z_ w_ ⟨rfl, hb_⟩; have hb2_ := hb_; have S_ := Aside0.mk (S.out.keep hb2_); clear hb2_ hb_; clear S; have S := S_; clear S_) | (go_at_call 16; (with_reducible refine (due_nil _).mono ?_); rintro z_ w_ ⟨A80, c80, rfl, hb_⟩; have hb2_ := hb_; have S_ := Aside0.mk (S.out.keep hb2_); clear hb2_ hb_; clear S; have S := S_; clear S_) | (go_at_call 15; (with_reducible refine (same_nilc (g := gf) (A := Af) (c := cf) (ws := wx) _ (HF.out.below S.out.below) hlx HEx.out (Kd.C_below HXC.out S.out.below) HX.out.1).mono ?_); rintro z_ w_ ⟨rfl, hb_⟩; have hb2_ := hb_; have S_ := Aside0.mk (S.out.keep hb2_); clear hb2_ hb_; clear S; have S := S_; clear S_) | (go_at_call 15; (with_reducible refine (same_nilc (g := g) (A := A) (c := c) (ws := ws) _ (HG.out.below S.out.below) hl HE.out (Kd.C_below HRC.out S.out.below) HRL.out).mono ?_); rintro z_ w_ ⟨rfl, hb_⟩; have hb2_ := hb_; have S_ := Aside0.mk (S.out.keep hb2_); clear hb2_ hb_; clear S; have S := S_; clear S_))
          go_ret
          exact ⟨rfl, (S0.out.out.keep S.out.below).below⟩
end Go.Proofs.Ytajmfmgfdgdioaa.Plays
