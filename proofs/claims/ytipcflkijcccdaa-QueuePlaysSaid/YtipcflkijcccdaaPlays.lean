/- The walk of QueuePlays. -/
import Derived.Test.YtipcflkijcccdaaPairs
import Derived.Test.YtipcflkijcccdaaK35
namespace Go.Proofs.Ytipcflkijcccdaa.Plays
open Go.RowKit Go.Proofs.Ytipcflkijcccdaa.Sep Go.Proofs.YtipcflkijcccdaaW.PrintWords Go.Proofs.YtipcflkijcccdaaW.PrintLast Go.Proofs.YtipcflkijcccdaaW.PrintMore Go.Proofs.Ytipcflkijcccdaa.Qu Go.Proofs.Ytipcflkijcccdaa.Ev Go.Proofs.Ytipcflkijcccdaa.Sys Go.Proofs.Ytipcflkijcccdaa.Ty Go.Proofs.Ytipcflkijcccdaa.Pairs
set_option linter.unusedVariables false
set_option linter.unusedSimpArgs false

set_option maxRecDepth 100000 in
set_option maxHeartbeats 8000000 in
theorem plays (A : Option Addr) (l : List K.S35) (c : Nat) (w : World) (hC : Kd.C K.k35 w A l.length l) (hc : l.length ≤ c) (hx : ∀ x ∈ l, 0 ≤ x.f0 ∧ x.f0 < 256 ∧ x.f1.f2.length < 140737488355328) :
    Calls Try.prog 3 #[.slice A l.length c] w fun z w' => z = .returned (.bool true) ∧ Below w.heap.size w w' := by
  have HC := Aside0.mk hC
  have HX := Aside0.mk hx
  have S := Aside0.mk (St.start w)
  clear hC hx
  by_cases hlen : (200 : Int) < (l.length : Int)
  · have hd1 : decide ((l.length : Int) > 200) = true := decide_eq_true hlen
    go_enter Try.func3, Try.ntmps3
    go_wp2_with (first | ((with_reducible refine gate_dst (N := 4) rfl ?_); refine ev_alloc #[.slice none 0 0, .int .i64 0] rfl S ?_ 4 rfl rfl z28 ?_; rfl; intro g4 w4 S_; clear S; have S := S_; clear S_) | (refine ev_puts S ?_ rfl rfl s28 rfl rfl (by repeat (first | exact Spot.here _ _ | apply Spot.there)) rfl ?_ ?_ ?_; rfl; rfl; rfl; intro w_ S_; simp only [putAt, List.set_cons_zero, List.set_cons_succ] at S_; clear S; have S := S_; clear S_) | (refine ev_owns (vs := [_, _]) S ?_ rfl m28 rfl (by repeat (first | exact Spot.here _ _ | apply Spot.there)) (by exact rfl) ?_; rfl) | (refine ev_owns (vs := [_, _, _, _]) S ?_ rfl m35 rfl (by repeat (first | exact Spot.here _ _ | apply Spot.there)) (by exact rfl) ?_; rfl) | (go_at_call 7; (with_reducible refine (awake_calls _).mono ?_); rintro z_ w_ ⟨rfl, hb_⟩; have S_ := Aside0.mk (S.out.keep hb_); clear hb_; clear S; have S := S_; clear S_) | (go_at_call 8; have c_ := new_ev S; (with_reducible refine c_.mono ?_); clear c_; rintro z_ w_ ⟨g, rfl, S_⟩; clear S; have S := S_; clear S_) | (go_at_call 10; have c_ := same_ev S (by repeat (first | exact Spot.here _ _ | apply Spot.there)) h8; (with_reducible refine c_.mono ?_); clear c_; rintro z_ w_ ⟨rfl, D10, S_⟩; clear S; have S := S_; clear S_; (try dsimp only at S)))
    go_ret
    exact ⟨rfl, S.out.below⟩
  have hd1 : decide ((l.length : Int) > 200) = false := decide_eq_false hlen
  go_enter Try.func3, Try.ntmps3
  go_wp2_with (first | ((with_reducible refine gate_dst (N := 4) rfl ?_); refine ev_alloc #[.slice none 0 0, .int .i64 0] rfl S ?_ 4 rfl rfl z28 ?_; rfl; intro g4 w4 S_; clear S; have S := S_; clear S_) | (refine ev_puts S ?_ rfl rfl s28 rfl rfl (by repeat (first | exact Spot.here _ _ | apply Spot.there)) rfl ?_ ?_ ?_; rfl; rfl; rfl; intro w_ S_; simp only [putAt, List.set_cons_zero, List.set_cons_succ] at S_; clear S; have S := S_; clear S_) | (refine ev_owns (vs := [_, _]) S ?_ rfl m28 rfl (by repeat (first | exact Spot.here _ _ | apply Spot.there)) (by exact rfl) ?_; rfl) | (refine ev_owns (vs := [_, _, _, _]) S ?_ rfl m35 rfl (by repeat (first | exact Spot.here _ _ | apply Spot.there)) (by exact rfl) ?_; rfl) | (go_at_call 7; (with_reducible refine (awake_calls _).mono ?_); rintro z_ w_ ⟨rfl, hb_⟩; have S_ := Aside0.mk (S.out.keep hb_); clear hb_; clear S; have S := S_; clear S_) | (go_at_call 8; have c_ := new_ev S; (with_reducible refine c_.mono ?_); clear c_; rintro z_ w_ ⟨g, rfl, S_⟩; clear S; have S := S_; clear S_) | (go_at_call 10; have c_ := same_ev S (by repeat (first | exact Spot.here _ _ | apply Spot.there)) h8; (with_reducible refine c_.mono ?_); clear c_; rintro z_ w_ ⟨rfl, D10, S_⟩; clear S; have S := S_; clear S_; (try dsimp only at S)))
  go_loopw [5, 6] (fun v5 v6 wr => ∃ (i : Nat) (m : Int) (R : List PB.S57) (A1 : Option Addr) (n1 c1 : Nat) (D : Nat → Prop), v5 = .bool true ∧ v6 = .int .i64 i ∧ i ≤ l.length ∧ 0 ≤ m ∧ m ≤ i ∧ R.length ≤ 8 ∧ Aside0 (St w.heap.size w wr [Bk g4 #[.slice A1 n1 c1, .int .i64 m] 28, PairA g m (R.map it) (.slice A1 n1 c1) R D])) (fun _ v6 _ => l.length - (intOf v6).toNat)
  case atStart => exact ⟨0, 0, [], none, 0, 0, _, rfl, rfl, Nat.zero_le _, by omega, by omega, by simp, S⟩
  case round =>
    clear S
    obtain ⟨i, m, R, A1, n1, c1, D, rfl, rfl, hi, hm0, hmi, h8, S⟩ := hrel
    by_cases hlt : i < l.length
    · have hd2 : decide ((i : Int) < (l.length : Int)) = true := decide_eq_true (by omega)
      have hil : (i : Int) < (l.length : Int) := by omega
      have hi0 : (0 : Int) ≤ (i : Int) := by omega
      obtain ⟨ad, cs, rfl, hK, hH⟩ := has_of HC.out K.z35 i hlt
      have hmem : l.getD i K.z35 ∈ l := by rw [List.getD_eq_getElem?_getD, List.getElem?_eq_getElem hlt]; exact List.getElem_mem hlt
      obtain ⟨hk0, hk1, hb3⟩ := HX.out _ hmem
      clear hmem
      generalize l.getD i K.z35 = x at *
      obtain ⟨A3, c3, rfl, hl3, hg3⟩ := K.k35_open hK
      have HH := Aside0.mk (show Has w (ad.add (i * 4)) _ from hH)
      have HG3 := Aside0.mk hg3
      have HL3 := Aside0.mk hl3
      have HB3 := Aside0.mk hb3
      clear hK hH hg3 hl3 hb3
      go_wp2_with (first | ((with_reducible refine gate_dst (N := 4) rfl ?_); refine ev_alloc #[.slice none 0 0, .int .i64 0] rfl S ?_ 4 rfl rfl z28 ?_; rfl; intro g4 w4 S_; clear S; have S := S_; clear S_) | (refine ev_puts S ?_ rfl rfl s28 rfl rfl (by repeat (first | exact Spot.here _ _ | apply Spot.there)) rfl ?_ ?_ ?_; rfl; rfl; rfl; intro w_ S_; simp only [putAt, List.set_cons_zero, List.set_cons_succ] at S_; clear S; have S := S_; clear S_) | (refine ev_owns (vs := [_, _]) S ?_ rfl m28 rfl (by repeat (first | exact Spot.here _ _ | apply Spot.there)) (by exact rfl) ?_; rfl) | (refine ev_owns (vs := [_, _, _, _]) S ?_ rfl m35 rfl (by repeat (first | exact Spot.here _ _ | apply Spot.there)) (by exact rfl) ?_; rfl) | (go_at_call 7; (with_reducible refine (awake_calls _).mono ?_); rintro z_ w_ ⟨rfl, hb_⟩; have S_ := Aside0.mk (S.out.keep hb_); clear hb_; clear S; have S := S_; clear S_) | (go_at_call 8; have c_ := new_ev S; (with_reducible refine c_.mono ?_); clear c_; rintro z_ w_ ⟨g, rfl, S_⟩; clear S; have S := S_; clear S_) | (go_at_call 10; have c_ := same_ev S (by repeat (first | exact Spot.here _ _ | apply Spot.there)) h8; (with_reducible refine c_.mono ?_); clear c_; rintro z_ w_ ⟨rfl, D10, S_⟩; clear S; have S := S_; clear S_; (try dsimp only at S)))
      have S2 := Aside0.mk S.out.drew
      clear S
      refine start_ (n := 12) (S := fun w' => w'.cell? ⟨g4, 0, none⟩ = some (.slice A1 n1 c1) ∧ w'.cell? ⟨g4, 1, none⟩ = some (.int .i64 m)) (ds := [10]) #[false, false, false, false, false, false, false, false, false, false, false, false] (by kernel_rfl) rfl rfl ⟨((own_cell (g := g4) S2 (by repeat (first | exact Spot.here _ _ | apply Spot.there)) 0).trans rfl), ((own_cell (g := g4) S2 (by repeat (first | exact Spot.here _ _ | apply Spot.there)) 1).trans rfl)⟩ (fun hHeld => ?_)
      refine pure_ (i := 0) (N := some 20) (v := ?_) (a' := ?_) #[true, false, false, false, false, false, false, false, false, false, false, false] rfl rfl (by kernel_rfl) (fun _ _ _ h => h) (Or.inl ⟨by rfl, ?_⟩) ?_ ?_
      rotate_left
      · intro w'
        go_simp
        with_reducible rfl
      rotate_left
      · simp only [Act.put, List.setIfInBounds_toArray, List.set_cons_zero, List.set_cons_succ, i64_w, i32_w]
        rfl
      refine pure_ (i := 2) (N := some 22) (v := ?_) (a' := ?_) #[true, false, true, false, false, false, false, false, false, false, false, false] rfl rfl (by kernel_rfl) (fun _ _ _ h => h) (Or.inl ⟨by rfl, ?_⟩) ?_ ?_
      rotate_left
      · intro w'
        go_simp
        with_reducible rfl
      rotate_left
      · simp only [Act.put, List.setIfInBounds_toArray, List.set_cons_zero, List.set_cons_succ, i64_w, i32_w]
        rfl
      refine pure_ (i := 3) (N := some 23) (v := ?_) (a' := ?_) #[true, false, true, true, false, false, false, false, false, false, false, false] rfl rfl (by kernel_rfl) (fun _ _ _ h => h) (Or.inl ⟨by rfl, ?_⟩) ?_ ?_
      rotate_left
      · intro w'
        go_simp
        with_reducible rfl
      rotate_left
      · simp only [Act.put, List.setIfInBounds_toArray, List.set_cons_zero, List.set_cons_succ, i64_w, i32_w]
        rfl
      refine pure_ (i := 4) (N := some 24) (v := ?_) (a' := ?_) #[true, false, true, true, true, false, false, false, false, false, false, false] rfl rfl (by kernel_rfl) (fun _ _ _ h => h) (Or.inl ⟨by rfl, ?_⟩) ?_ ?_
      rotate_left
      · intro w'
        go_simp
        with_reducible rfl
      rotate_left
      · simp only [Act.put, List.setIfInBounds_toArray, List.set_cons_zero, List.set_cons_succ, i64_w, i32_w]
        rfl
      refine take_ (i := 1) (N := some 21) (v := ?_) (a' := ?_) #[true, true, true, true, true, false, false, false, false, false, false, false] rfl rfl (by kernel_rfl) (fun _ _ _ h => h) (Or.inl ⟨by rfl, ?_⟩) hHeld ?_ ?_
      rotate_left
      · rintro w' ⟨s0, s1⟩
        go_simp
        with_reducible rfl
      rotate_left
      · simp only [Act.put, List.setIfInBounds_toArray, List.set_cons_zero, List.set_cons_succ, i64_w, i32_w]
        rfl
      refine one_ (i := 5) (N := some 25) #[true, true, true, true, true, true, false, false, false, false, false, false] rfl rfl (by kernel_rfl) (by decide) (fun K hK => ?_)
      refine st_loads (N := some 25) (vs := [_, _, _, _]) (by rfl) rfl rfl m35 rfl (olds_ S2 HH.out) ?_
      refine hK.out _ _ ⟨((own_cell (g := g4) S2 (by repeat (first | exact Spot.here _ _ | apply Spot.there)) 0).trans rfl), ((own_cell (g := g4) S2 (by repeat (first | exact Spot.here _ _ | apply Spot.there)) 1).trans rfl)⟩ (fun hHeld => ?_)
      clear hK K
      refine norm_ (a' := ?_) ?_ ?_
      rotate_left
      · show Act.put _ (some 25) _ = _
        simp only [Act.put, List.setIfInBounds_toArray, List.set_cons_zero, List.set_cons_succ, i64_w, i32_w]
        rfl
      refine one_ (i := 6) (N := some 26) #[true, true, true, true, true, true, true, false, false, false, false, false] rfl rfl (by kernel_rfl) (by decide) (fun K hK => ?_)
      refine goes_ Try.func9 (by kernel_rfl) rfl #[.pointer (some ⟨g, 0, none⟩), .agg #[.slice A1 n1 c1, .int .i64 m], .agg #[.int .u8 x.f0, .int .u8 x.f1.f0, .string x.f1.f1, .slice A3 x.f1.f2.length c3]] (by rfl) rfl rfl (by simp only [List.map_toArray, List.map_cons, List.map_nil]; rfl) ?_
      with_reducible refine (do_ev S2 (by repeat (first | exact Spot.here _ _ | apply Spot.there)) h8 hm0 (by omega) hk0 hk1 HG3.out HL3.out HB3.out).mono ?_
      rintro z9 w9 ⟨A9, n9, c9, m9, R9, D9, rfl, h1, h2, h3, S9⟩
      (try dsimp only at S9)
      refine ⟨_, rfl, ?_⟩
      refine hK.out _ _ ⟨((own_cell (g := g4) S9 (by repeat (first | exact Spot.here _ _ | apply Spot.there)) 0).trans rfl), ((own_cell (g := g4) S9 (by repeat (first | exact Spot.here _ _ | apply Spot.there)) 1).trans rfl)⟩ (fun hHeld => ?_)
      clear hK K
      refine norm_ (a' := ?_) ?_ ?_
      rotate_left
      · show Act.put _ (some 26) _ = _
        simp only [Act.put, List.setIfInBounds_toArray, List.set_cons_zero, List.set_cons_succ, i64_w, i32_w]
        rfl
      refine pure_ (i := 7) (N := some 19) (v := ?_) (a' := ?_) #[true, true, true, true, true, true, true, true, false, false, false, false] rfl rfl (by kernel_rfl) (fun _ _ _ h => h) (Or.inl ⟨by rfl, ?_⟩) ?_ ?_
      rotate_left
      · intro w'
        go_simp
        with_reducible rfl
      rotate_left
      · simp only [Act.put, List.setIfInBounds_toArray, List.set_cons_zero, List.set_cons_succ, i64_w, i32_w]
        rfl
      refine pure_ (i := 8) (N := some 27) (v := ?_) (a' := ?_) #[true, true, true, true, true, true, true, true, true, false, false, false] rfl rfl (by kernel_rfl) (fun _ _ _ h => h) (Or.inl ⟨by rfl, ?_⟩) ?_ ?_
      rotate_left
      · intro w'
        go_simp
        with_reducible rfl
      rotate_left
      · simp only [Act.put, List.setIfInBounds_toArray, List.set_cons_zero, List.set_cons_succ, i64_w, i32_w]
        rfl
      refine pure_ (i := 9) (N := some 28) (v := ?_) (a' := ?_) #[true, true, true, true, true, true, true, true, true, true, false, false] rfl rfl (by kernel_rfl) (fun _ _ _ h => h) (Or.inl ⟨by rfl, ?_⟩) ?_ ?_
      rotate_left
      · intro w'
        go_simp
        with_reducible rfl
      rotate_left
      · simp only [Act.put, List.setIfInBounds_toArray, List.set_cons_zero, List.set_cons_succ, i64_w, i32_w]
        rfl
      refine last_ (i := 10) (N := none) #[true, true, true, true, true, true, true, true, true, true, true, false] rfl rfl (by kernel_rfl) (by decide) (fun K hK => ?_)
      refine st_puts S9 (by rfl) rfl rfl s28 rfl rfl (by repeat (first | exact Spot.here _ _ | apply Spot.there)) rfl (by rfl) (by rfl) ?_
      intro w8 S8
      simp only [putAt, List.set_cons_zero, List.set_cons_succ] at S8
      refine hK.out _ _ ?_
      clear hK K
      refine pure_ (i := 11) (N := some 5) (v := ?_) (a' := ?_) #[true, true, true, true, true, true, true, true, true, true, true, true] rfl rfl (by kernel_rfl) (fun _ _ _ h => h) (Or.inl ⟨by rfl, ?_⟩) ?_ ?_
      rotate_left
      · intro w'
        go_simp
        with_reducible rfl
      rotate_left
      · simp only [Act.put, List.setIfInBounds_toArray, List.set_cons_zero, List.set_cons_succ, i64_w, i32_w]
        rfl
      refine done_ (by kernel_rfl) ?_

      clear S2 S9
      have S := S8
      clear S8
      go_wp2_with (first | ((with_reducible refine gate_dst (N := 4) rfl ?_); refine ev_alloc #[.slice none 0 0, .int .i64 0] rfl S ?_ 4 rfl rfl z28 ?_; rfl; intro g4 w4 S_; clear S; have S := S_; clear S_) | (refine ev_puts S ?_ rfl rfl s28 rfl rfl (by repeat (first | exact Spot.here _ _ | apply Spot.there)) rfl ?_ ?_ ?_; rfl; rfl; rfl; intro w_ S_; simp only [putAt, List.set_cons_zero, List.set_cons_succ] at S_; clear S; have S := S_; clear S_) | (refine ev_owns (vs := [_, _]) S ?_ rfl m28 rfl (by repeat (first | exact Spot.here _ _ | apply Spot.there)) (by exact rfl) ?_; rfl) | (refine ev_owns (vs := [_, _, _, _]) S ?_ rfl m35 rfl (by repeat (first | exact Spot.here _ _ | apply Spot.there)) (by exact rfl) ?_; rfl) | (go_at_call 7; (with_reducible refine (awake_calls _).mono ?_); rintro z_ w_ ⟨rfl, hb_⟩; have S_ := Aside0.mk (S.out.keep hb_); clear hb_; clear S; have S := S_; clear S_) | (go_at_call 8; have c_ := new_ev S; (with_reducible refine c_.mono ?_); clear c_; rintro z_ w_ ⟨g, rfl, S_⟩; clear S; have S := S_; clear S_) | (go_at_call 10; have c_ := same_ev S (by repeat (first | exact Spot.here _ _ | apply Spot.there)) h3; (with_reducible refine c_.mono ?_); clear c_; rintro z_ w_ ⟨rfl, D10, S_⟩; clear S; have S := S_; clear S_; (try dsimp only at S)))
      refine ⟨⟨i + 1, m9, R9, A9, n9, c9, D10, rfl, by simp, by omega, by omega, by omega, h3, S⟩, ?_⟩
      simp [intOf]; omega
    · obtain rfl : i = l.length := by omega
      have hd2 : decide ((l.length : Int) < (l.length : Int)) = false := decide_eq_false (by omega)
      go_wp2_with (first | ((with_reducible refine gate_dst (N := 4) rfl ?_); refine ev_alloc #[.slice none 0 0, .int .i64 0] rfl S ?_ 4 rfl rfl z28 ?_; rfl; intro g4 w4 S_; clear S; have S := S_; clear S_) | (refine ev_puts S ?_ rfl rfl s28 rfl rfl (by repeat (first | exact Spot.here _ _ | apply Spot.there)) rfl ?_ ?_ ?_; rfl; rfl; rfl; intro w_ S_; simp only [putAt, List.set_cons_zero, List.set_cons_succ] at S_; clear S; have S := S_; clear S_) | (refine ev_owns (vs := [_, _]) S ?_ rfl m28 rfl (by repeat (first | exact Spot.here _ _ | apply Spot.there)) (by exact rfl) ?_; rfl) | (refine ev_owns (vs := [_, _, _, _]) S ?_ rfl m35 rfl (by repeat (first | exact Spot.here _ _ | apply Spot.there)) (by exact rfl) ?_; rfl) | (go_at_call 7; (with_reducible refine (awake_calls _).mono ?_); rintro z_ w_ ⟨rfl, hb_⟩; have S_ := Aside0.mk (S.out.keep hb_); clear hb_; clear S; have S := S_; clear S_) | (go_at_call 8; have c_ := new_ev S; (with_reducible refine c_.mono ?_); clear c_; rintro z_ w_ ⟨g, rfl, S_⟩; clear S; have S := S_; clear S_) | (go_at_call 10; have c_ := same_ev S (by repeat (first | exact Spot.here _ _ | apply Spot.there)) h8; (with_reducible refine c_.mono ?_); clear c_; rintro z_ w_ ⟨rfl, D10, S_⟩; clear S; have S := S_; clear S_; (try dsimp only at S)))
      go_ret
      exact ⟨rfl, S.out.below⟩
end Go.Proofs.Ytipcflkijcccdaa.Plays
