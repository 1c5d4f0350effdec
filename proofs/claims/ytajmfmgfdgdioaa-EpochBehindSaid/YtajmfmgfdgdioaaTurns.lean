/- Each retirement turns the clock by one. -/
import Derived.Test.YtajmfmgfdgdioaaPlays
namespace Go.Proofs.Ytajmfmgfdgdioaa.Plays
open Go.Proofs.Ytajmfmgfdgdioaa.Pure Go.Proofs.Ytajmfmgfdgdioaa.Cl
open Go.RowKit Go.Proofs.Ytajmfmgfdgdioaa.Sep Go.Proofs.YtajmfmgfdgdioaaW.PrintWords Go.Proofs.YtajmfmgfdgdioaaW.PrintLast Go.Proofs.YtajmfmgfdgdioaaW.PrintMore Go.Proofs.Ytajmfmgfdgdioaa.Ev Go.Proofs.Ytajmfmgfdgdioaa.Ty
open Go.Proofs.Ytajmfmgfdgdioaa.PC hiding z46 z59 z67
set_option linter.unusedVariables false
set_option linter.unusedSimpArgs false

theorem stp_turn {kind o now n9 : Int} {hs : List S59} {ws ws9 : List S46} (h : (n9, ws9) = stp kind o hs now ws) (ht : decide (Int.tmod kind 4 < 2) = true) : n9 = now + 1 ∧ ws9.length = ws.length + 1 := by
  have h1 : Int.tmod kind 4 < 2 := of_decide_eq_true ht
  unfold stp at h
  rw [if_neg (by simp; omega), if_neg (by simp; omega)] at h
  injection h with h2 h3
  exact ⟨h2, by rw [h3]; simp⟩
theorem stp_still {kind o now n9 : Int} {hs : List S59} {ws ws9 : List S46} (h : (n9, ws9) = stp kind o hs now ws) (ht : decide (Int.tmod kind 4 < 2) = false) : n9 = now ∧ ws9.length ≤ ws.length := by
  have h1 : ¬ Int.tmod kind 4 < 2 := of_decide_eq_false ht
  have h2 := Int.tmod_lt_of_pos kind (show (0 : Int) < 4 by decide)
  unfold stp at h
  by_cases h3 : Int.tmod kind 4 = 2
  · rw [if_pos (by simp [h3])] at h
    injection h with h4 h5
    exact ⟨h4, by rw [h5]; exact List.length_filter_le _ _⟩
  · rw [if_neg (by simp [h3]), if_pos (by simp; omega)] at h
    injection h with h4 h5
    exact ⟨h4, by rw [h5]; simp⟩

set_option maxRecDepth 100000 in
set_option maxHeartbeats 16000000 in
theorem turns (A0 : Option Addr) (l : List (Int × Int × List S59)) (c0 : Nat) (w : World) (hC : Kd.C kA w A0 l.length l) (hc : l.length ≤ c0) :
    Calls Try.prog 6 #[.slice A0 l.length c0] w fun z w' => z = .returned (.bool true) ∧ Below w.heap.size w w' := by
  have HC := Aside0.mk hC
  have S := Aside0.mk (St.start w)
  clear hC
  by_cases hlen : (60 : Int) < (l.length : Int)
  · have hd1 : decide ((l.length : Int) > 60) = true := decide_eq_true hlen
    go_enter Try.func6, Try.ntmps6
    go_wp2_with (first | (refine ev_load1 ?_ rfl o5 rfl HX0.out ?_; (first | exact want0 rfl | exact want1 rfl rfl rfl rfl)) | ((with_reducible refine gate_dst (N := 4) rfl ?_); refine ev_alloc #[.int .u64 0, .slice none 0 0] rfl S ?_ 4 rfl rfl z33 ?_; (first | exact want0 rfl | exact want1 rfl rfl rfl rfl); intro g4 w4 S_; clear S; have S := S_; clear S_) | (refine ev_puts S ?_ rfl rfl s33 rfl rfl (by repeat (first | exact Spot.here _ _ | apply Spot.there)) rfl ?_ ?_ ?_; (first | exact want0 rfl | exact want1 rfl rfl rfl rfl); rfl; rfl; intro w_ S_; simp only [putAt, List.set_cons_zero, List.set_cons_succ] at S_; clear S; have S := S_; clear S_) | (refine ev_owns (vs := [_, _]) S ?_ rfl m33 rfl (by repeat (first | exact Spot.here _ _ | apply Spot.there)) (by exact rfl) ?_; (first | exact want0 rfl | exact want1 rfl rfl rfl rfl)) | (refine ev_owns (vs := [_, _, _]) S ?_ rfl m38 rfl (by repeat (first | exact Spot.here _ _ | apply Spot.there)) (by exact rfl) ?_; (first | exact want0 rfl | exact want1 rfl rfl rfl rfl)) | (refine ev_own1 S ?_ rfl o5 rfl (by repeat (first | exact Spot.here _ _ | apply Spot.there)) (by exact rfl) ?_; (first | exact want0 rfl | exact want1 rfl rfl rfl rfl)) | (go_at_call 12; (with_reducible refine (awake_calls _).mono ?_); rintro z_ w_ ⟨rfl, hb_⟩; have hb2_ := hb_; have S_ := Aside0.mk (S.out.keep hb2_); clear hb2_ hb_; clear S; have S := S_; clear S_) | (go_at_call 13; have c_ := new_ev S; (with_reducible refine c_.mono ?_); clear c_; rintro z_ w_ ⟨g, rfl, S_⟩; clear S; have S := S_; clear S_) | (go_at_call 18; have c_ := now_ev S (by repeat (first | exact Spot.here _ _ | apply Spot.there)); (with_reducible refine c_.mono ?_); clear c_; rintro z_ w_ ⟨rfl, S_⟩; clear S; have S := S_; clear S_) | (go_at_call 17; have c_ := waiting_ev S (by repeat (first | exact Spot.here _ _ | apply Spot.there)) hl; (with_reducible refine c_.mono ?_); clear c_; rintro z_ w_ ⟨A7, c7, rfl, S_⟩; clear S; have S := S_; clear S_))
    go_ret
    exact ⟨rfl, S.out.below⟩
  have hd1 : decide ((l.length : Int) > 60) = false := decide_eq_false hlen
  go_enter Try.func6, Try.ntmps6
  go_wp2_with (first | (refine ev_load1 ?_ rfl o5 rfl HX0.out ?_; (first | exact want0 rfl | exact want1 rfl rfl rfl rfl)) | ((with_reducible refine gate_dst (N := 4) rfl ?_); refine ev_alloc #[.int .u64 0, .slice none 0 0] rfl S ?_ 4 rfl rfl z33 ?_; (first | exact want0 rfl | exact want1 rfl rfl rfl rfl); intro g4 w4 S_; clear S; have S := S_; clear S_) | (refine ev_puts S ?_ rfl rfl s33 rfl rfl (by repeat (first | exact Spot.here _ _ | apply Spot.there)) rfl ?_ ?_ ?_; (first | exact want0 rfl | exact want1 rfl rfl rfl rfl); rfl; rfl; intro w_ S_; simp only [putAt, List.set_cons_zero, List.set_cons_succ] at S_; clear S; have S := S_; clear S_) | (refine ev_owns (vs := [_, _]) S ?_ rfl m33 rfl (by repeat (first | exact Spot.here _ _ | apply Spot.there)) (by exact rfl) ?_; (first | exact want0 rfl | exact want1 rfl rfl rfl rfl)) | (refine ev_owns (vs := [_, _, _]) S ?_ rfl m38 rfl (by repeat (first | exact Spot.here _ _ | apply Spot.there)) (by exact rfl) ?_; (first | exact want0 rfl | exact want1 rfl rfl rfl rfl)) | (refine ev_own1 S ?_ rfl o5 rfl (by repeat (first | exact Spot.here _ _ | apply Spot.there)) (by exact rfl) ?_; (first | exact want0 rfl | exact want1 rfl rfl rfl rfl)) | (go_at_call 12; (with_reducible refine (awake_calls _).mono ?_); rintro z_ w_ ⟨rfl, hb_⟩; have hb2_ := hb_; have S_ := Aside0.mk (S.out.keep hb2_); clear hb2_ hb_; clear S; have S := S_; clear S_) | (go_at_call 13; have c_ := new_ev S; (with_reducible refine c_.mono ?_); clear c_; rintro z_ w_ ⟨g, rfl, S_⟩; clear S; have S := S_; clear S_) | (go_at_call 18; have c_ := now_ev S (by repeat (first | exact Spot.here _ _ | apply Spot.there)); (with_reducible refine c_.mono ?_); clear c_; rintro z_ w_ ⟨rfl, S_⟩; clear S; have S := S_; clear S_) | (go_at_call 17; have c_ := waiting_ev S (by repeat (first | exact Spot.here _ _ | apply Spot.there)) hl; (with_reducible refine c_.mono ?_); clear c_; rintro z_ w_ ⟨A7, c7, rfl, S_⟩; clear S; have S := S_; clear S_))
  have S1 := Aside0.mk (add_nil k67 67 S.out)
  clear S
  have S := S1
  clear S1
  go_loopw [5] (fun v5 wr => ∃ (i : Nat) (now : Int) (A : Option Addr) (c : Nat) (ws : List S46) (rs : List S67) (Ar : Option Addr) (cr : Nat), v5 = .int .i64 i ∧ i ≤ l.length ∧ 0 ≤ now ∧ now ≤ i ∧ ws.length ≤ i ∧ Aside0 (rs = ws.map cv) ∧ Aside0 (St w.heap.size w wr [Own k67 67 Ar cr rs, Bk g4 #[.int .u64 now, .slice Ar rs.length cr] 33, ClkA g now A c ws])) (fun v5 _ => l.length - (intOf v5).toNat)
  case atStart => exact ⟨0, 0, none, 0, [], [], none, 0, rfl, Nat.zero_le _, by omega, by omega, by simp, ⟨rfl⟩, S⟩
  case round =>
    clear S
    obtain ⟨i, now, A, c, ws, rs, Ar, cr, rfl, hi, hn0, hni, hwi, HE, S⟩ := hrel
    by_cases hlt : i < l.length
    · have hd2 : decide ((i : Int) < (l.length : Int)) = true := decide_eq_true (by omega)
      have hil : (i : Int) < (l.length : Int) := by omega
      have hi0 : (0 : Int) ≤ (i : Int) := by omega
      have hl : ws.length ≤ 1000000 := by omega
      have hi1 : wrap64 ((i : Int) + 1) = ((i + 1 : Nat) : Int) := by unfold wrap64; omega
      obtain ⟨ad, cs, rfl, hK, hH⟩ := has_of HC.out zA i hlt
      generalize l.getD i zA = x at *
      obtain ⟨Ah, ch, rfl, hc3, hg3⟩ := kA_open hK
      have HG3 := Aside0.mk hg3
      have HH := Aside0.mk (show Has w (ad.add (i * 3)) _ from hH)
      have HX0 := Aside0.mk (show w.cell? (ad.add (i * 3)) = some (.int .u8 x.1) by
        have h1 : w.cell? ((ad.add (i * 3)).add 0) = some (.int .u8 x.1) := hH 0 _ rfl
        have e : (ad.add (i * 3)).add 0 = ad.add (i * 3) := by unfold Addr.add; simp
        rw [e] at h1; exact h1)
      clear hK hH hg3
      go_wp2_with (first | (refine ev_load1 ?_ rfl o5 rfl HX0.out ?_; (first | exact want0 rfl | exact want1 rfl rfl rfl rfl)) | ((with_reducible refine gate_dst (N := 4) rfl ?_); refine ev_alloc #[.int .u64 0, .slice none 0 0] rfl S ?_ 4 rfl rfl z33 ?_; (first | exact want0 rfl | exact want1 rfl rfl rfl rfl); intro g4 w4 S_; clear S; have S := S_; clear S_) | (refine ev_puts S ?_ rfl rfl s33 rfl rfl (by repeat (first | exact Spot.here _ _ | apply Spot.there)) rfl ?_ ?_ ?_; (first | exact want0 rfl | exact want1 rfl rfl rfl rfl); rfl; rfl; intro w_ S_; simp only [putAt, List.set_cons_zero, List.set_cons_succ] at S_; clear S; have S := S_; clear S_) | (refine ev_owns (vs := [_, _]) S ?_ rfl m33 rfl (by repeat (first | exact Spot.here _ _ | apply Spot.there)) (by exact rfl) ?_; (first | exact want0 rfl | exact want1 rfl rfl rfl rfl)) | (refine ev_owns (vs := [_, _, _]) S ?_ rfl m38 rfl (by repeat (first | exact Spot.here _ _ | apply Spot.there)) (by exact rfl) ?_; (first | exact want0 rfl | exact want1 rfl rfl rfl rfl)) | (refine ev_own1 S ?_ rfl o5 rfl (by repeat (first | exact Spot.here _ _ | apply Spot.there)) (by exact rfl) ?_; (first | exact want0 rfl | exact want1 rfl rfl rfl rfl)) | (go_at_call 12; (with_reducible refine (awake_calls _).mono ?_); rintro z_ w_ ⟨rfl, hb_⟩; have hb2_ := hb_; have S_ := Aside0.mk (S.out.keep hb2_); clear hb2_ hb_; clear S; have S := S_; clear S_) | (go_at_call 13; have c_ := new_ev S; (with_reducible refine c_.mono ?_); clear c_; rintro z_ w_ ⟨g, rfl, S_⟩; clear S; have S := S_; clear S_) | (go_at_call 18; have c_ := now_ev S (by repeat (first | exact Spot.here _ _ | apply Spot.there)); (with_reducible refine c_.mono ?_); clear c_; rintro z_ w_ ⟨rfl, S_⟩; clear S; have S := S_; clear S_) | (go_at_call 17; have c_ := waiting_ev S (by repeat (first | exact Spot.here _ _ | apply Spot.there)) hl; (with_reducible refine c_.mono ?_); clear c_; rintro z_ w_ ⟨A7, c7, rfl, S_⟩; clear S; have S := S_; clear S_))
      have S1 := Aside0.mk (S.out.drop (List.sublist_cons_self _ _))
      clear S
      have S := S1
      clear S1
      have S2 := Aside0.mk S.out.drew
      clear S
      refine start_ (n := 11) (S := fun w' => w'.cell? ⟨g4, 0, none⟩ = some (.int .u64 now) ∧ w'.cell? ⟨g4, 1, none⟩ = some (.slice Ar rs.length cr)) (ds := [10]) #[false, false, false, false, false, false, false, false, false, false, false] (by kernel_rfl) rfl rfl ⟨((own_cell (g := g4) S2 (by repeat (first | exact Spot.here _ _ | apply Spot.there)) 0).trans rfl), ((own_cell (g := g4) S2 (by repeat (first | exact Spot.here _ _ | apply Spot.there)) 1).trans rfl)⟩ (fun hHeld => ?_)
      refine pure_ (i := 0) (N := some 27) (v := ?_) (a' := ?_) #[true, false, false, false, false, false, false, false, false, false, false] rfl rfl (by kernel_rfl) (fun _ _ _ h => h) (Or.inl ⟨by rfl, ?_⟩) ?_ ?_
      rotate_left
      · intro w'
        go_simp
        with_reducible rfl
      rotate_left
      · simp only [Act.put, List.setIfInBounds_toArray, List.set_cons_zero, List.set_cons_succ, i64_w, i32_w]
        rfl
      refine pure_ (i := 2) (N := some 29) (v := ?_) (a' := ?_) #[true, false, true, false, false, false, false, false, false, false, false] rfl rfl (by kernel_rfl) (fun _ _ _ h => h) (Or.inl ⟨by rfl, ?_⟩) ?_ ?_
      rotate_left
      · intro w'
        go_simp
        with_reducible rfl
      rotate_left
      · simp only [Act.put, List.setIfInBounds_toArray, List.set_cons_zero, List.set_cons_succ, i64_w, i32_w]
        rfl
      refine pure_ (i := 3) (N := some 30) (v := ?_) (a' := ?_) #[true, false, true, true, false, false, false, false, false, false, false] rfl rfl (by kernel_rfl) (fun _ _ _ h => h) (Or.inl ⟨by rfl, ?_⟩) ?_ ?_
      rotate_left
      · intro w'
        go_simp
        with_reducible rfl
      rotate_left
      · simp only [Act.put, List.setIfInBounds_toArray, List.set_cons_zero, List.set_cons_succ, i64_w, i32_w]
        rfl
      refine pure_ (i := 4) (N := some 31) (v := ?_) (a' := ?_) #[true, false, true, true, true, false, false, false, false, false, false] rfl rfl (by kernel_rfl) (fun _ _ _ h => h) (Or.inl ⟨by rfl, ?_⟩) ?_ ?_
      rotate_left
      · intro w'
        go_simp
        with_reducible rfl
      rotate_left
      · simp only [Act.put, List.setIfInBounds_toArray, List.set_cons_zero, List.set_cons_succ, i64_w, i32_w]
        rfl
      refine take_ (i := 1) (N := some 28) (v := ?_) (a' := ?_) #[true, true, true, true, true, false, false, false, false, false, false] rfl rfl (by kernel_rfl) (fun _ _ _ h => h) (Or.inl ⟨by rfl, ?_⟩) hHeld ?_ ?_
      rotate_left
      · rintro w' ⟨s0, s1⟩
        go_simp
        with_reducible rfl
      rotate_left
      · simp only [Act.put, List.setIfInBounds_toArray, List.set_cons_zero, List.set_cons_succ, i64_w, i32_w]
        rfl
      refine one_ (i := 5) (N := some 32) #[true, true, true, true, true, true, false, false, false, false, false] rfl rfl (by kernel_rfl) (by decide) (fun K hK => ?_)
      refine st_loads (N := some 32) (vs := [_, _, _]) (by rfl) rfl rfl m38 rfl (olds_ S2 HH.out) ?_
      refine hK.out _ _ ⟨((own_cell (g := g4) S2 (by repeat (first | exact Spot.here _ _ | apply Spot.there)) 0).trans rfl), ((own_cell (g := g4) S2 (by repeat (first | exact Spot.here _ _ | apply Spot.there)) 1).trans rfl)⟩ (fun hHeld => ?_)
      clear hK K
      refine norm_ (a' := ?_) ?_ ?_
      rotate_left
      · show Act.put _ (some 32) _ = _
        simp only [Act.put, List.setIfInBounds_toArray, List.set_cons_zero, List.set_cons_succ, i64_w, i32_w]
        rfl
      refine one_ (i := 6) (N := some 33) #[true, true, true, true, true, true, true, false, false, false, false] rfl rfl (by kernel_rfl) (by decide) (fun K hK => ?_)
      refine goes_ Try.func14 (by kernel_rfl) rfl #[.pointer (some ⟨g, 0, none⟩), .agg #[.int .u64 now, .slice Ar rs.length cr], .agg #[.int .u8 x.1, .int .u16 x.2.1, .slice Ah x.2.2.length ch]] (by rfl) rfl rfl (by simp only [List.map_toArray, List.map_cons, List.map_nil]; rfl) ?_
      with_reducible refine (do_ev S2 (by repeat (first | exact Spot.here _ _ | apply Spot.there)) (by repeat (first | exact Spot.here _ _ | apply Spot.there)) hl hn0 (by omega) HE.out HG3.out hc3).mono ?_
      rintro z9 w9 ⟨n9, A9, c9, ws9, rs9, Ar9, cr9, rfl, HE9, k5, k6, k7, HT9, S9⟩
      (try dsimp only at S9)
      refine ⟨_, rfl, ?_⟩
      refine hK.out _ _ ⟨((own_cell (g := g4) S9 (by repeat (first | exact Spot.here _ _ | apply Spot.there)) 0).trans rfl), ((own_cell (g := g4) S9 (by repeat (first | exact Spot.here _ _ | apply Spot.there)) 1).trans rfl)⟩ (fun hHeld => ?_)
      clear hK K
      refine norm_ (a' := ?_) ?_ ?_
      rotate_left
      · show Act.put _ (some 33) _ = _
        simp only [Act.put, List.setIfInBounds_toArray, List.set_cons_zero, List.set_cons_succ, i64_w, i32_w]
        rfl
      refine pure_ (i := 7) (N := some 26) (v := ?_) (a' := ?_) #[true, true, true, true, true, true, true, true, false, false, false] rfl rfl (by kernel_rfl) (fun _ _ _ h => h) (Or.inl ⟨by rfl, ?_⟩) ?_ ?_
      rotate_left
      · intro w'
        go_simp
        with_reducible rfl
      rotate_left
      · simp only [Act.put, List.setIfInBounds_toArray, List.set_cons_zero, List.set_cons_succ, i64_w, i32_w]
        rfl
      refine pure_ (i := 8) (N := some 34) (v := ?_) (a' := ?_) #[true, true, true, true, true, true, true, true, true, false, false] rfl rfl (by kernel_rfl) (fun _ _ _ h => h) (Or.inl ⟨by rfl, ?_⟩) ?_ ?_
      rotate_left
      · intro w'
        go_simp
        with_reducible rfl
      rotate_left
      · simp only [Act.put, List.setIfInBounds_toArray, List.set_cons_zero, List.set_cons_succ, i64_w, i32_w]
        rfl
      refine pure_ (i := 9) (N := some 35) (v := ?_) (a' := ?_) #[true, true, true, true, true, true, true, true, true, true, false] rfl rfl (by kernel_rfl) (fun _ _ _ h => h) (Or.inl ⟨by rfl, ?_⟩) ?_ ?_
      rotate_left
      · intro w'
        go_simp
        with_reducible rfl
      rotate_left
      · simp only [Act.put, List.setIfInBounds_toArray, List.set_cons_zero, List.set_cons_succ, i64_w, i32_w]
        rfl
      refine last_ (i := 10) (N := none) #[true, true, true, true, true, true, true, true, true, true, true] rfl rfl (by kernel_rfl) (by decide) (fun K hK => ?_)
      refine st_puts (g := g4) S9 (by rfl) rfl rfl s33 rfl rfl (by repeat (first | exact Spot.here _ _ | apply Spot.there)) rfl (by rfl) (by rfl) ?_
      intro w8 S8
      simp only [putAt, List.set_cons_zero, List.set_cons_succ] at S8
      refine hK.out _ _ ?_
      clear hK K
      refine done_ (by kernel_rfl) ?_

      clear S2 S9
      have S : Aside0 (St w.heap.size w w8 [Own k67 67 Ar9 cr9 rs9, Bk g4 #[.int .u64 n9, .slice Ar9 rs9.length cr9] 33, ClkA g n9 A9 c9 ws9]) := ⟨S8.out.drop (List.Sublist.cons_cons _ (List.sublist_cons_self _ _))⟩
      clear S8
      have hl9 : ws9.length ≤ 1000000 := by omega
      have b0 : i + 1 ≤ l.length := hlt
      have b1 : 0 ≤ n9 := by omega
      have b2 : n9 ≤ ((i + 1 : Nat) : Int) := by omega
      have b3 : ws9.length ≤ i + 1 := by omega
      have b4 : l.length - (i + 1) < l.length - i := by omega
      have hw1 : IntKind.u64.wrap (now + 1) = now + 1 := by simp [IntKind.wrap, IntKind.bits, IntKind.signed]; omega
      have hw2 : wrap64 ((ws.length : Int) + 1) = (ws.length : Int) + 1 := by unfold wrap64; omega
      have HX0' := Aside0.mk (old_ S HX0.out)
      clear HX0
      have HX0 := HX0'
      clear HX0'
      by_cases ht : decide (Int.tmod x.1 4 < 2) = true
      · obtain ⟨q1, q2⟩ := stp_turn HT9.out ht
        have e1 : (n9 != now + 1) = false := by rw [q1]; simp
        have e2 : ((ws9.length : Int) != (ws.length : Int) + 1) = false := by rw [q2]; simp
        clear q1 q2
        go_wp2_with (first | (refine ev_load1 ?_ rfl o5 rfl HX0.out ?_; (first | exact want0 rfl | exact want1 rfl rfl rfl rfl)) | ((with_reducible refine gate_dst (N := 4) rfl ?_); refine ev_alloc #[.int .u64 0, .slice none 0 0] rfl S ?_ 4 rfl rfl z33 ?_; (first | exact want0 rfl | exact want1 rfl rfl rfl rfl); intro g4 w4 S_; clear S; have S := S_; clear S_) | (refine ev_puts S ?_ rfl rfl s33 rfl rfl (by repeat (first | exact Spot.here _ _ | apply Spot.there)) rfl ?_ ?_ ?_; (first | exact want0 rfl | exact want1 rfl rfl rfl rfl); rfl; rfl; intro w_ S_; simp only [putAt, List.set_cons_zero, List.set_cons_succ] at S_; clear S; have S := S_; clear S_) | (refine ev_owns (vs := [_, _]) S ?_ rfl m33 rfl (by repeat (first | exact Spot.here _ _ | apply Spot.there)) (by exact rfl) ?_; (first | exact want0 rfl | exact want1 rfl rfl rfl rfl)) | (refine ev_owns (vs := [_, _, _]) S ?_ rfl m38 rfl (by repeat (first | exact Spot.here _ _ | apply Spot.there)) (by exact rfl) ?_; (first | exact want0 rfl | exact want1 rfl rfl rfl rfl)) | (refine ev_own1 S ?_ rfl o5 rfl (by repeat (first | exact Spot.here _ _ | apply Spot.there)) (by exact rfl) ?_; (first | exact want0 rfl | exact want1 rfl rfl rfl rfl)) | (go_at_call 12; (with_reducible refine (awake_calls _).mono ?_); rintro z_ w_ ⟨rfl, hb_⟩; have hb2_ := hb_; have S_ := Aside0.mk (S.out.keep hb2_); clear hb2_ hb_; clear S; have S := S_; clear S_) | (go_at_call 13; have c_ := new_ev S; (with_reducible refine c_.mono ?_); clear c_; rintro z_ w_ ⟨g, rfl, S_⟩; clear S; have S := S_; clear S_) | (go_at_call 18; have c_ := now_ev S (by repeat (first | exact Spot.here _ _ | apply Spot.there)); (with_reducible refine c_.mono ?_); clear c_; rintro z_ w_ ⟨rfl, S_⟩; clear S; have S := S_; clear S_) | (go_at_call 17; have c_ := waiting_ev S (by repeat (first | exact Spot.here _ _ | apply Spot.there)) hl9; (with_reducible refine c_.mono ?_); clear c_; rintro z_ w_ ⟨A8, c8, rfl, S_⟩; clear S; have S := S_; clear S_))
        have S1 := Aside0.mk (S.out.drop (List.sublist_cons_self _ _))
        refine ⟨⟨i + 1, n9, A9, c9, ws9, rs9, Ar9, cr9, by simp [hi1], b0, b1, b2, b3, HE9, S1⟩, ?_⟩
        simpa [intOf, hi1] using b4
      · have ht' : decide (Int.tmod x.1 4 < 2) = false := by simpa using ht
        clear ht
        obtain ⟨q1, q2⟩ := stp_still HT9.out ht'
        have e1 : (n9 != now) = false := by rw [q1]; simp
        have e2 : decide ((ws9.length : Int) > (ws.length : Int)) = false := decide_eq_false (by have := q2; clear hw1 hw2; omega)
        have e3 : decide (ws.length < ws9.length) = false := decide_eq_false (by have := q2; clear hw1 hw2; omega)
        clear q1 q2
        go_wp2_with (first | (refine ev_load1 ?_ rfl o5 rfl HX0.out ?_; (first | exact want0 rfl | exact want1 rfl rfl rfl rfl)) | ((with_reducible refine gate_dst (N := 4) rfl ?_); refine ev_alloc #[.int .u64 0, .slice none 0 0] rfl S ?_ 4 rfl rfl z33 ?_; (first | exact want0 rfl | exact want1 rfl rfl rfl rfl); intro g4 w4 S_; clear S; have S := S_; clear S_) | (refine ev_puts S ?_ rfl rfl s33 rfl rfl (by repeat (first | exact Spot.here _ _ | apply Spot.there)) rfl ?_ ?_ ?_; (first | exact want0 rfl | exact want1 rfl rfl rfl rfl); rfl; rfl; intro w_ S_; simp only [putAt, List.set_cons_zero, List.set_cons_succ] at S_; clear S; have S := S_; clear S_) | (refine ev_owns (vs := [_, _]) S ?_ rfl m33 rfl (by repeat (first | exact Spot.here _ _ | apply Spot.there)) (by exact rfl) ?_; (first | exact want0 rfl | exact want1 rfl rfl rfl rfl)) | (refine ev_owns (vs := [_, _, _]) S ?_ rfl m38 rfl (by repeat (first | exact Spot.here _ _ | apply Spot.there)) (by exact rfl) ?_; (first | exact want0 rfl | exact want1 rfl rfl rfl rfl)) | (refine ev_own1 S ?_ rfl o5 rfl (by repeat (first | exact Spot.here _ _ | apply Spot.there)) (by exact rfl) ?_; (first | exact want0 rfl | exact want1 rfl rfl rfl rfl)) | (go_at_call 12; (with_reducible refine (awake_calls _).mono ?_); rintro z_ w_ ⟨rfl, hb_⟩; have hb2_ := hb_; have S_ := Aside0.mk (S.out.keep hb2_); clear hb2_ hb_; clear S; have S := S_; clear S_) | (go_at_call 13; have c_ := new_ev S; (with_reducible refine c_.mono ?_); clear c_; rintro z_ w_ ⟨g, rfl, S_⟩; clear S; have S := S_; clear S_) | (go_at_call 18; have c_ := now_ev S (by repeat (first | exact Spot.here _ _ | apply Spot.there)); (with_reducible refine c_.mono ?_); clear c_; rintro z_ w_ ⟨rfl, S_⟩; clear S; have S := S_; clear S_) | (go_at_call 17; have c_ := waiting_ev S (by repeat (first | exact Spot.here _ _ | apply Spot.there)) hl9; (with_reducible refine c_.mono ?_); clear c_; rintro z_ w_ ⟨A8, c8, rfl, S_⟩; clear S; have S := S_; clear S_))
        have S1 := Aside0.mk (S.out.drop (List.sublist_cons_self _ _))
        refine ⟨⟨i + 1, n9, A9, c9, ws9, rs9, Ar9, cr9, by simp [hi1], b0, b1, b2, b3, HE9, S1⟩, ?_⟩
        simpa [intOf, hi1] using b4
    · obtain rfl : i = l.length := by omega
      have hd2 : decide ((l.length : Int) < (l.length : Int)) = false := decide_eq_false (by omega)
      go_wp2_with (first | (refine ev_load1 ?_ rfl o5 rfl HX0.out ?_; (first | exact want0 rfl | exact want1 rfl rfl rfl rfl)) | ((with_reducible refine gate_dst (N := 4) rfl ?_); refine ev_alloc #[.int .u64 0, .slice none 0 0] rfl S ?_ 4 rfl rfl z33 ?_; (first | exact want0 rfl | exact want1 rfl rfl rfl rfl); intro g4 w4 S_; clear S; have S := S_; clear S_) | (refine ev_puts S ?_ rfl rfl s33 rfl rfl (by repeat (first | exact Spot.here _ _ | apply Spot.there)) rfl ?_ ?_ ?_; (first | exact want0 rfl | exact want1 rfl rfl rfl rfl); rfl; rfl; intro w_ S_; simp only [putAt, List.set_cons_zero, List.set_cons_succ] at S_; clear S; have S := S_; clear S_) | (refine ev_owns (vs := [_, _]) S ?_ rfl m33 rfl (by repeat (first | exact Spot.here _ _ | apply Spot.there)) (by exact rfl) ?_; (first | exact want0 rfl | exact want1 rfl rfl rfl rfl)) | (refine ev_owns (vs := [_, _, _]) S ?_ rfl m38 rfl (by repeat (first | exact Spot.here _ _ | apply Spot.there)) (by exact rfl) ?_; (first | exact want0 rfl | exact want1 rfl rfl rfl rfl)) | (refine ev_own1 S ?_ rfl o5 rfl (by repeat (first | exact Spot.here _ _ | apply Spot.there)) (by exact rfl) ?_; (first | exact want0 rfl | exact want1 rfl rfl rfl rfl)) | (go_at_call 12; (with_reducible refine (awake_calls _).mono ?_); rintro z_ w_ ⟨rfl, hb_⟩; have hb2_ := hb_; have S_ := Aside0.mk (S.out.keep hb2_); clear hb2_ hb_; clear S; have S := S_; clear S_) | (go_at_call 13; have c_ := new_ev S; (with_reducible refine c_.mono ?_); clear c_; rintro z_ w_ ⟨g, rfl, S_⟩; clear S; have S := S_; clear S_) | (go_at_call 18; have c_ := now_ev S (by repeat (first | exact Spot.here _ _ | apply Spot.there)); (with_reducible refine c_.mono ?_); clear c_; rintro z_ w_ ⟨rfl, S_⟩; clear S; have S := S_; clear S_) | (go_at_call 17; have c_ := waiting_ev S (by repeat (first | exact Spot.here _ _ | apply Spot.there)) hl; (with_reducible refine c_.mono ?_); clear c_; rintro z_ w_ ⟨A7, c7, rfl, S_⟩; clear S; have S := S_; clear S_))
      go_ret
      exact ⟨rfl, S.out.below⟩
end Go.Proofs.Ytajmfmgfdgdioaa.Plays
