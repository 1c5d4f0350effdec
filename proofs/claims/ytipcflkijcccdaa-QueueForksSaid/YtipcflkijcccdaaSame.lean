/- The walk of same: both queues tell the same. -/
import Derived.Test.YtipcflkijcccdaaSys2
import Derived.Test.YtipcflkijcccdaaTy
namespace Go.Proofs.Ytipcflkijcccdaa.Same
open Go.RowKit Go.Proofs.Ytipcflkijcccdaa.Sep Go.Proofs.YtipcflkijcccdaaW.PrintWords Go.Proofs.YtipcflkijcccdaaW.PrintLast Go.Proofs.YtipcflkijcccdaaW.PrintMore Go.Proofs.Ytipcflkijcccdaa.X Go.Proofs.Ytipcflkijcccdaa.Qu Go.Proofs.Ytipcflkijcccdaa.Ev Go.Proofs.Ytipcflkijcccdaa.PB Go.Proofs.Ytipcflkijcccdaa.Sys Go.Proofs.Ytipcflkijcccdaa.Ty
set_option linter.unusedVariables false
set_option linter.unusedSimpArgs false

set_option maxRecDepth 100000 in
set_option maxHeartbeats 4000000 in
theorem same_some (g : Nat) (m : Int) (x : S57) (R : List S57) (A : Option Addr) (n c : Nat) (D : Nat → Prop) (w : World) (h : Pair w g m ((x :: R).map it) (.slice A n c) (x :: R) D) (h8 : R.length < 8) (hn : n = R.length + 1) :
    Calls Try.prog 10 #[.pointer (some ⟨g, 0, none⟩), .agg #[.slice A n c, .int .i64 m]] w fun z w' => z = .returned (.bool true) ∧ Done w g m ((x :: R).map it) (.slice A n c) (x :: R) D w' := by
  have S := SysA.start h
  have HN := Aside0.mk (show (it x :: List.map it R).length = n by simp [hn])
  clear h hn
  simp only [List.map_cons] at S
  go_enter Try.func10, Try.ntmps10
  go_wp2_with (first | (refine ev_row1 (0 : Int) S ?_ rfl o5 rfl (by repeat (first | exact Spot.here _ _ | apply Spot.there)) HI.out ?_; rfl) | (refine ev_rowput (0 : Int) _ S ?_ rfl rfl s5 rfl rfl (by repeat (first | exact Spot.here _ _ | apply Spot.there)) HI.out ?_; rfl; intro w_ S_; clear S; have S := S_; clear S_) | ((with_reducible refine gate_dst (N := 3) rfl ?_); refine ev_boxs S ?_ 3 rfl rfl rfl ?_; rfl; intro g3 w3 S_; clear S; have S := S_; clear S_) | ((with_reducible refine gate_dst (N := 5) rfl ?_); refine ev_alloc #[.int .i64 0, .int .u8 0, .string ⟨#[]⟩, .slice none 0 0] rfl S ?_ 5 rfl rfl z45 ?_; rfl; intro g5 w5 S_; clear S; have S := S_; clear S_) | (refine ev_puts S ?_ rfl rfl s45 rfl rfl (by repeat (first | exact Spot.here _ _ | apply Spot.there)) rfl ?_ ?_ ?_; rfl; rfl; rfl; intro w_ S_; simp only [putAt, List.set_cons_zero, List.set_cons_succ] at S_; clear S; have S := S_; clear S_) | (refine ev_own1 S ?_ rfl o31 rfl (by repeat (first | exact Spot.here _ _ | apply Spot.there)) (by exact rfl) ?_; rfl) | (refine ev_own1 S ?_ rfl o5 rfl (by repeat (first | exact Spot.here _ _ | apply Spot.there)) (by exact rfl) ?_; rfl) | (refine ev_put1 S ?_ rfl rfl s5 rfl rfl (by repeat (first | exact Spot.here _ _ | apply Spot.there)) ?_ ?_ ?_; rfl; rfl; rfl; intro w_ S_; simp only [putAt, List.set_cons_zero, List.set_cons_succ] at S_; clear S; have S := S_; clear S_) | ((with_reducible refine gate_dst (N := 8) rfl ?_); refine ev_alloc #[.int .i64 0, .int .u8 0, .string ⟨#[]⟩, .slice none 0 0] rfl S ?_ 8 rfl rfl z45 ?_; rfl; intro g8 w8 S_; clear S; have S := S_; clear S_) | (refine ev_owns (vs := [_, _]) S ?_ rfl m28 rfl (by repeat (first | exact Spot.here _ _ | apply Spot.there)) (by exact rfl) ?_; rfl) | ((with_reducible refine gate_dst (N := 10) rfl ?_); refine ev_alloc #[.slice none 0 0, .int .i64 0] rfl S ?_ 10 rfl rfl z28 ?_; rfl; intro g10 w10 S_; clear S; have S := S_; clear S_) | ((with_reducible refine gate_dst (N := 11) rfl ?_); refine ev_alloc #[.int .i64 0, .int .u8 0, .string ⟨#[]⟩, .slice none 0 0] rfl S ?_ 11 rfl rfl z57 ?_; rfl; intro g11 w11 S_; clear S; have S := S_; clear S_) | (refine ev_puts S ?_ rfl rfl s28 rfl rfl (by repeat (first | exact Spot.here _ _ | apply Spot.there)) rfl ?_ ?_ ?_; rfl; rfl; rfl; intro w_ S_; simp only [putAt, List.set_cons_zero, List.set_cons_succ] at S_; clear S; have S := S_; clear S_) | (refine ev_puts S ?_ rfl rfl s57 rfl rfl (by repeat (first | exact Spot.here _ _ | apply Spot.there)) rfl ?_ ?_ ?_; rfl; rfl; rfl; intro w_ S_; simp only [putAt, List.set_cons_zero, List.set_cons_succ] at S_; clear S; have S := S_; clear S_) | (refine ev_owns (vs := [_, _, _, _]) S ?_ rfl m45 rfl (by repeat (first | exact Spot.here _ _ | apply Spot.there)) (by exact rfl) ?_; rfl) | (refine ev_owns (vs := [_, _, _, _]) S ?_ rfl m57 rfl (by repeat (first | exact Spot.here _ _ | apply Spot.there)) (by exact rfl) ?_; rfl) | (refine ev_own1 S ?_ rfl o26 rfl (by repeat (first | exact Spot.here _ _ | apply Spot.there)) (by exact rfl) ?_; rfl) | (refine ev_own1 S ?_ rfl o3 rfl (by repeat (first | exact Spot.here _ _ | apply Spot.there)) (by exact rfl) ?_; rfl) | (go_at_call 16; have c_ := peek_sys S (by repeat (first | exact Spot.here _ _ | apply Spot.there)); (with_reducible refine c_.mono ?_); clear c_; rintro z_ w_ ⟨A5, c5, rfl, S_⟩; clear S; have S := S_; clear S_; (try dsimp only at S)) | (go_at_call 19; have c_ := rpop_keep (m' := m) S (by repeat (first | exact Spot.here _ _ | apply Spot.there)) h8; (with_reducible refine c_.mono ?_); clear c_; rintro z_ w_ ⟨A', c', A6, c6, rfl, D', S_⟩; clear S; have S := S_; clear S_; (try dsimp only at S)))
  go_loopw [7] (fun v7 wr => ∃ (i : Nat) (o1 : List Int), v7 = .int .i64 i ∧ i ≤ (it x).obj.length ∧ Aside0 (o1.length = (it x).obj.length) ∧ Aside0 (St 0 w wr [Bk g5 #[.int .i64 (it x).num, .int .u8 (it x).kind, .string (it x).name, .slice A5 (it x).obj.length c5] 45, RowW A5 c5 o1, Bk g3 #[.slice A n c, .int .i64 m] 28, SysA w D g m (it x :: List.map it R) (.slice A n c) (x :: R) D])) (fun v7 _ => (it x).obj.length - (intOf v7).toNat)
  case atStart => exact ⟨0, (it x).obj, rfl, Nat.zero_le _, ⟨rfl⟩, S⟩
  case round =>
    clear S
    obtain ⟨i, o1, rfl, hi, hl, S⟩ := hrel
    by_cases hlt : i < (it x).obj.length
    · have hd : decide ((i : Int) < ((it x).obj.length : Int)) = true := decide_eq_true (by omega)
      have HI := Aside0.mk (show i < o1.length by rw [hl.out]; exact hlt)
      obtain ⟨gr, cap, e1, _⟩ := Kd.R_form (RowW.k (pred_at S.out (by exact Spot.there _ (Spot.here _ _) : Spot _ (RowW A5 c5 o1) _))) (by have := HI.out; omega)
      have hmx := Kd.C_max (RowW.reads (pred_at S.out (by exact Spot.there _ (Spot.here _ _) : Spot _ (RowW A5 c5 o1) _)))
      have hix : (i : Int) < 9223372036854775807 := by have := HI.out; omega
      injection e1 with e1 e2 e3
      subst e1
      clear e2 e3 hmx
      go_wp2_with (first | (refine ev_row1 (0 : Int) S ?_ rfl o5 rfl (by repeat (first | exact Spot.here _ _ | apply Spot.there)) HI.out ?_; rfl) | (refine ev_rowput (0 : Int) _ S ?_ rfl rfl s5 rfl rfl (by repeat (first | exact Spot.here _ _ | apply Spot.there)) HI.out ?_; rfl; intro w_ S_; clear S; have S := S_; clear S_) | ((with_reducible refine gate_dst (N := 3) rfl ?_); refine ev_boxs S ?_ 3 rfl rfl rfl ?_; rfl; intro g3 w3 S_; clear S; have S := S_; clear S_) | ((with_reducible refine gate_dst (N := 5) rfl ?_); refine ev_alloc #[.int .i64 0, .int .u8 0, .string ⟨#[]⟩, .slice none 0 0] rfl S ?_ 5 rfl rfl z45 ?_; rfl; intro g5 w5 S_; clear S; have S := S_; clear S_) | (refine ev_puts S ?_ rfl rfl s45 rfl rfl (by repeat (first | exact Spot.here _ _ | apply Spot.there)) rfl ?_ ?_ ?_; rfl; rfl; rfl; intro w_ S_; simp only [putAt, List.set_cons_zero, List.set_cons_succ] at S_; clear S; have S := S_; clear S_) | (refine ev_own1 S ?_ rfl o31 rfl (by repeat (first | exact Spot.here _ _ | apply Spot.there)) (by exact rfl) ?_; rfl) | (refine ev_own1 S ?_ rfl o5 rfl (by repeat (first | exact Spot.here _ _ | apply Spot.there)) (by exact rfl) ?_; rfl) | (refine ev_put1 S ?_ rfl rfl s5 rfl rfl (by repeat (first | exact Spot.here _ _ | apply Spot.there)) ?_ ?_ ?_; rfl; rfl; rfl; intro w_ S_; simp only [putAt, List.set_cons_zero, List.set_cons_succ] at S_; clear S; have S := S_; clear S_) | ((with_reducible refine gate_dst (N := 8) rfl ?_); refine ev_alloc #[.int .i64 0, .int .u8 0, .string ⟨#[]⟩, .slice none 0 0] rfl S ?_ 8 rfl rfl z45 ?_; rfl; intro g8 w8 S_; clear S; have S := S_; clear S_) | (refine ev_owns (vs := [_, _]) S ?_ rfl m28 rfl (by repeat (first | exact Spot.here _ _ | apply Spot.there)) (by exact rfl) ?_; rfl) | ((with_reducible refine gate_dst (N := 10) rfl ?_); refine ev_alloc #[.slice none 0 0, .int .i64 0] rfl S ?_ 10 rfl rfl z28 ?_; rfl; intro g10 w10 S_; clear S; have S := S_; clear S_) | ((with_reducible refine gate_dst (N := 11) rfl ?_); refine ev_alloc #[.int .i64 0, .int .u8 0, .string ⟨#[]⟩, .slice none 0 0] rfl S ?_ 11 rfl rfl z57 ?_; rfl; intro g11 w11 S_; clear S; have S := S_; clear S_) | (refine ev_puts S ?_ rfl rfl s28 rfl rfl (by repeat (first | exact Spot.here _ _ | apply Spot.there)) rfl ?_ ?_ ?_; rfl; rfl; rfl; intro w_ S_; simp only [putAt, List.set_cons_zero, List.set_cons_succ] at S_; clear S; have S := S_; clear S_) | (refine ev_puts S ?_ rfl rfl s57 rfl rfl (by repeat (first | exact Spot.here _ _ | apply Spot.there)) rfl ?_ ?_ ?_; rfl; rfl; rfl; intro w_ S_; simp only [putAt, List.set_cons_zero, List.set_cons_succ] at S_; clear S; have S := S_; clear S_) | (refine ev_owns (vs := [_, _, _, _]) S ?_ rfl m45 rfl (by repeat (first | exact Spot.here _ _ | apply Spot.there)) (by exact rfl) ?_; rfl) | (refine ev_owns (vs := [_, _, _, _]) S ?_ rfl m57 rfl (by repeat (first | exact Spot.here _ _ | apply Spot.there)) (by exact rfl) ?_; rfl) | (refine ev_own1 S ?_ rfl o26 rfl (by repeat (first | exact Spot.here _ _ | apply Spot.there)) (by exact rfl) ?_; rfl) | (refine ev_own1 S ?_ rfl o3 rfl (by repeat (first | exact Spot.here _ _ | apply Spot.there)) (by exact rfl) ?_; rfl) | (go_at_call 16; have c_ := peek_sys S (by repeat (first | exact Spot.here _ _ | apply Spot.there)); (with_reducible refine c_.mono ?_); clear c_; rintro z_ w_ ⟨A5, c5, rfl, S_⟩; clear S; have S := S_; clear S_; (try dsimp only at S)) | (go_at_call 19; have c_ := rpop_keep (m' := m) S (by repeat (first | exact Spot.here _ _ | apply Spot.there)) h8; (with_reducible refine c_.mono ?_); clear c_; rintro z_ w_ ⟨A', c', A6, c6, rfl, D', S_⟩; clear S; have S := S_; clear S_; (try dsimp only at S)))
      refine ⟨⟨i + 1, _, by simp, by omega, ⟨by simp [hl.out]⟩, S⟩, ?_⟩
      simp [intOf]; omega
    · obtain rfl : i = (it x).obj.length := by omega
      have hd : decide (((it x).obj.length : Int) < ((it x).obj.length : Int)) = false := decide_eq_false (by omega)
      go_wp2_with (first | (refine ev_row1 (0 : Int) S ?_ rfl o5 rfl (by repeat (first | exact Spot.here _ _ | apply Spot.there)) HI.out ?_; rfl) | (refine ev_rowput (0 : Int) _ S ?_ rfl rfl s5 rfl rfl (by repeat (first | exact Spot.here _ _ | apply Spot.there)) HI.out ?_; rfl; intro w_ S_; clear S; have S := S_; clear S_) | ((with_reducible refine gate_dst (N := 3) rfl ?_); refine ev_boxs S ?_ 3 rfl rfl rfl ?_; rfl; intro g3 w3 S_; clear S; have S := S_; clear S_) | ((with_reducible refine gate_dst (N := 5) rfl ?_); refine ev_alloc #[.int .i64 0, .int .u8 0, .string ⟨#[]⟩, .slice none 0 0] rfl S ?_ 5 rfl rfl z45 ?_; rfl; intro g5 w5 S_; clear S; have S := S_; clear S_) | (refine ev_puts S ?_ rfl rfl s45 rfl rfl (by repeat (first | exact Spot.here _ _ | apply Spot.there)) rfl ?_ ?_ ?_; rfl; rfl; rfl; intro w_ S_; simp only [putAt, List.set_cons_zero, List.set_cons_succ] at S_; clear S; have S := S_; clear S_) | (refine ev_own1 S ?_ rfl o31 rfl (by repeat (first | exact Spot.here _ _ | apply Spot.there)) (by exact rfl) ?_; rfl) | (refine ev_own1 S ?_ rfl o5 rfl (by repeat (first | exact Spot.here _ _ | apply Spot.there)) (by exact rfl) ?_; rfl) | (refine ev_put1 S ?_ rfl rfl s5 rfl rfl (by repeat (first | exact Spot.here _ _ | apply Spot.there)) ?_ ?_ ?_; rfl; rfl; rfl; intro w_ S_; simp only [putAt, List.set_cons_zero, List.set_cons_succ] at S_; clear S; have S := S_; clear S_) | ((with_reducible refine gate_dst (N := 8) rfl ?_); refine ev_alloc #[.int .i64 0, .int .u8 0, .string ⟨#[]⟩, .slice none 0 0] rfl S ?_ 8 rfl rfl z45 ?_; rfl; intro g8 w8 S_; clear S; have S := S_; clear S_) | (refine ev_owns (vs := [_, _]) S ?_ rfl m28 rfl (by repeat (first | exact Spot.here _ _ | apply Spot.there)) (by exact rfl) ?_; rfl) | ((with_reducible refine gate_dst (N := 10) rfl ?_); refine ev_alloc #[.slice none 0 0, .int .i64 0] rfl S ?_ 10 rfl rfl z28 ?_; rfl; intro g10 w10 S_; clear S; have S := S_; clear S_) | ((with_reducible refine gate_dst (N := 11) rfl ?_); refine ev_alloc #[.int .i64 0, .int .u8 0, .string ⟨#[]⟩, .slice none 0 0] rfl S ?_ 11 rfl rfl z57 ?_; rfl; intro g11 w11 S_; clear S; have S := S_; clear S_) | (refine ev_puts S ?_ rfl rfl s28 rfl rfl (by repeat (first | exact Spot.here _ _ | apply Spot.there)) rfl ?_ ?_ ?_; rfl; rfl; rfl; intro w_ S_; simp only [putAt, List.set_cons_zero, List.set_cons_succ] at S_; clear S; have S := S_; clear S_) | (refine ev_puts S ?_ rfl rfl s57 rfl rfl (by repeat (first | exact Spot.here _ _ | apply Spot.there)) rfl ?_ ?_ ?_; rfl; rfl; rfl; intro w_ S_; simp only [putAt, List.set_cons_zero, List.set_cons_succ] at S_; clear S; have S := S_; clear S_) | (refine ev_owns (vs := [_, _, _, _]) S ?_ rfl m45 rfl (by repeat (first | exact Spot.here _ _ | apply Spot.there)) (by exact rfl) ?_; rfl) | (refine ev_owns (vs := [_, _, _, _]) S ?_ rfl m57 rfl (by repeat (first | exact Spot.here _ _ | apply Spot.there)) (by exact rfl) ?_; rfl) | (refine ev_own1 S ?_ rfl o26 rfl (by repeat (first | exact Spot.here _ _ | apply Spot.there)) (by exact rfl) ?_; rfl) | (refine ev_own1 S ?_ rfl o3 rfl (by repeat (first | exact Spot.here _ _ | apply Spot.there)) (by exact rfl) ?_; rfl) | (go_at_call 16; have c_ := peek_sys S (by repeat (first | exact Spot.here _ _ | apply Spot.there)); (with_reducible refine c_.mono ?_); clear c_; rintro z_ w_ ⟨A9, c9, rfl, S_⟩; clear S; have S := S_; clear S_; (try dsimp only at S)) | (go_at_call 19; have c_ := rpop_keep (m' := m) S (by repeat (first | exact Spot.here _ _ | apply Spot.there)) h8; (with_reducible refine c_.mono ?_); clear c_; rintro z_ w_ ⟨A', c', A6, c6, rfl, D', S_⟩; clear S; have S := S_; clear S_; (try dsimp only at S)))
      have S2 := Aside0.mk S.out.drew
      clear S
      refine start_ (n := 29) (S := fun w' => w'.cell? ⟨g8, 0, none⟩ = some (.int .i64 (it x).num) ∧ w'.cell? ⟨g8, 1, none⟩ = some (.int .u8 (it x).kind) ∧ w'.cell? ⟨g8, 2, none⟩ = some (.string (it x).name) ∧ w'.cell? ⟨g8, 3, none⟩ = some (.slice A9 (it x).obj.length c9) ∧ w'.cell? ⟨g11, 0, none⟩ = some (.int .i64 x.f0) ∧ w'.cell? ⟨g11, 1, none⟩ = some (.int .u8 x.f1.f0) ∧ w'.cell? ⟨g11, 2, none⟩ = some (.string x.f1.f1) ∧ w'.cell? ⟨g11, 3, none⟩ = some (.slice A6 x.f1.f2.length c6) ∧ w'.cell? ⟨g3, 0, none⟩ = some (.slice A n c) ∧ w'.cell? ⟨g3, 1, none⟩ = some (.int .i64 m)) (ds := []) #[false, false, false, false, false, false, false, false, false, false, false, false, false, false, false, false, false, false, false, false, false, false, false, false, false, false, false, false, false] (by kernel_rfl) rfl rfl ⟨((own_cell (g := g8) S2 (by repeat (first | exact Spot.here _ _ | apply Spot.there)) 0).trans rfl), ((own_cell (g := g8) S2 (by repeat (first | exact Spot.here _ _ | apply Spot.there)) 1).trans rfl), ((own_cell (g := g8) S2 (by repeat (first | exact Spot.here _ _ | apply Spot.there)) 2).trans rfl), ((own_cell (g := g8) S2 (by repeat (first | exact Spot.here _ _ | apply Spot.there)) 3).trans rfl), ((own_cell (g := g11) S2 (by repeat (first | exact Spot.here _ _ | apply Spot.there)) 0).trans rfl), ((own_cell (g := g11) S2 (by repeat (first | exact Spot.here _ _ | apply Spot.there)) 1).trans rfl), ((own_cell (g := g11) S2 (by repeat (first | exact Spot.here _ _ | apply Spot.there)) 2).trans rfl), ((own_cell (g := g11) S2 (by repeat (first | exact Spot.here _ _ | apply Spot.there)) 3).trans rfl), ((own_cell (g := g3) S2 (by repeat (first | exact Spot.here _ _ | apply Spot.there)) 0).trans rfl), ((own_cell (g := g3) S2 (by repeat (first | exact Spot.here _ _ | apply Spot.there)) 1).trans rfl)⟩ (fun hHeld => ?_)
      refine pure_ (i := 0) (N := some 45) (v := ?_) (a' := ?_) #[true, false, false, false, false, false, false, false, false, false, false, false, false, false, false, false, false, false, false, false, false, false, false, false, false, false, false, false, false] rfl rfl (by kernel_rfl) (fun _ _ _ h => h) (Or.inl ⟨by rfl, ?_⟩) ?_ ?_
      rotate_left
      · intro w'
        go_simp
        with_reducible rfl
      rotate_left
      · simp only [Act.put, List.setIfInBounds_toArray, List.set_cons_zero, List.set_cons_succ, i64_w, i32_w]
        rfl
      refine pure_ (i := 1) (N := some 46) (v := ?_) (a' := ?_) #[true, true, false, false, false, false, false, false, false, false, false, false, false, false, false, false, false, false, false, false, false, false, false, false, false, false, false, false, false] rfl rfl (by kernel_rfl) (fun _ _ _ h => h) (Or.inl ⟨by rfl, ?_⟩) ?_ ?_
      rotate_left
      · intro w'
        go_simp
        with_reducible rfl
      rotate_left
      · simp only [Act.put, List.setIfInBounds_toArray, List.set_cons_zero, List.set_cons_succ, i64_w, i32_w]
        rfl
      refine pure_ (i := 2) (N := some 47) (v := ?_) (a' := ?_) #[true, true, true, false, false, false, false, false, false, false, false, false, false, false, false, false, false, false, false, false, false, false, false, false, false, false, false, false, false] rfl rfl (by kernel_rfl) (fun _ _ _ h => h) (Or.inl ⟨by rfl, ?_⟩) ?_ ?_
      rotate_left
      · intro w'
        go_simp
        with_reducible rfl
      rotate_left
      · simp only [Act.put, List.setIfInBounds_toArray, List.set_cons_zero, List.set_cons_succ, i64_w, i32_w]
        rfl
      refine pure_ (i := 3) (N := some 48) (v := ?_) (a' := ?_) #[true, true, true, true, false, false, false, false, false, false, false, false, false, false, false, false, false, false, false, false, false, false, false, false, false, false, false, false, false] rfl rfl (by kernel_rfl) (fun _ _ _ h => h) (Or.inl ⟨by rfl, ?_⟩) ?_ ?_
      rotate_left
      · intro w'
        go_simp
        with_reducible rfl
      rotate_left
      · simp only [Act.put, List.setIfInBounds_toArray, List.set_cons_zero, List.set_cons_succ, i64_w, i32_w]
        rfl
      refine pure_ (i := 4) (N := some 49) (v := ?_) (a' := ?_) #[true, true, true, true, true, false, false, false, false, false, false, false, false, false, false, false, false, false, false, false, false, false, false, false, false, false, false, false, false] rfl rfl (by kernel_rfl) (fun _ _ _ h => h) (Or.inl ⟨by rfl, ?_⟩) ?_ ?_
      rotate_left
      · intro w'
        go_simp
        with_reducible rfl
      rotate_left
      · simp only [Act.put, List.setIfInBounds_toArray, List.set_cons_zero, List.set_cons_succ, i64_w, i32_w]
        rfl
      refine pure_ (i := 5) (N := some 50) (v := ?_) (a' := ?_) #[true, true, true, true, true, true, false, false, false, false, false, false, false, false, false, false, false, false, false, false, false, false, false, false, false, false, false, false, false] rfl rfl (by kernel_rfl) (fun _ _ _ h => h) (Or.inl ⟨by rfl, ?_⟩) ?_ ?_
      rotate_left
      · intro w'
        go_simp
        with_reducible rfl
      rotate_left
      · simp only [Act.put, List.setIfInBounds_toArray, List.set_cons_zero, List.set_cons_succ, i64_w, i32_w]
        rfl
      refine pure_ (i := 6) (N := some 51) (v := ?_) (a' := ?_) #[true, true, true, true, true, true, true, false, false, false, false, false, false, false, false, false, false, false, false, false, false, false, false, false, false, false, false, false, false] rfl rfl (by kernel_rfl) (fun _ _ _ h => h) (Or.inl ⟨by rfl, ?_⟩) ?_ ?_
      rotate_left
      · intro w'
        go_simp
        with_reducible rfl
      rotate_left
      · simp only [Act.put, List.setIfInBounds_toArray, List.set_cons_zero, List.set_cons_succ, i64_w, i32_w]
        rfl
      refine pure_ (i := 7) (N := some 52) (v := ?_) (a' := ?_) #[true, true, true, true, true, true, true, true, false, false, false, false, false, false, false, false, false, false, false, false, false, false, false, false, false, false, false, false, false] rfl rfl (by kernel_rfl) (fun _ _ _ h => h) (Or.inl ⟨by rfl, ?_⟩) ?_ ?_
      rotate_left
      · intro w'
        go_simp
        with_reducible rfl
      rotate_left
      · simp only [Act.put, List.setIfInBounds_toArray, List.set_cons_zero, List.set_cons_succ, i64_w, i32_w]
        rfl
      refine pure_ (i := 8) (N := some 53) (v := ?_) (a' := ?_) #[true, true, true, true, true, true, true, true, true, false, false, false, false, false, false, false, false, false, false, false, false, false, false, false, false, false, false, false, false] rfl rfl (by kernel_rfl) (fun _ _ _ h => h) (Or.inl ⟨by rfl, ?_⟩) ?_ ?_
      rotate_left
      · intro w'
        go_simp
        with_reducible rfl
      rotate_left
      · simp only [Act.put, List.setIfInBounds_toArray, List.set_cons_zero, List.set_cons_succ, i64_w, i32_w]
        rfl
      refine take_ (i := 9) (N := some 54) (v := ?_) (a' := ?_) #[true, true, true, true, true, true, true, true, true, true, false, false, false, false, false, false, false, false, false, false, false, false, false, false, false, false, false, false, false] rfl rfl (by kernel_rfl) (fun _ _ _ h => h) (Or.inl ⟨by rfl, ?_⟩) hHeld ?_ ?_
      rotate_left
      · rintro w' ⟨s0, s1, s2, s3, s4, s5, s6, s7, s8, s9⟩
        go_simp
        with_reducible rfl
      rotate_left
      · simp only [Act.put, List.setIfInBounds_toArray, List.set_cons_zero, List.set_cons_succ, i64_w, i32_w]
        rfl
      refine take_ (i := 10) (N := some 55) (v := ?_) (a' := ?_) #[true, true, true, true, true, true, true, true, true, true, true, false, false, false, false, false, false, false, false, false, false, false, false, false, false, false, false, false, false] rfl rfl (by kernel_rfl) (fun _ _ _ h => h) (Or.inl ⟨by rfl, ?_⟩) hHeld ?_ ?_
      rotate_left
      · rintro w' ⟨s0, s1, s2, s3, s4, s5, s6, s7, s8, s9⟩
        go_simp
        with_reducible rfl
      rotate_left
      · simp only [Act.put, List.setIfInBounds_toArray, List.set_cons_zero, List.set_cons_succ, i64_w, i32_w]
        rfl
      refine one_ (i := 11) (N := some 56) #[true, true, true, true, true, true, true, true, true, true, true, true, false, false, false, false, false, false, false, false, false, false, false, false, false, false, false, false, false] rfl rfl (by kernel_rfl) (by decide) (fun K hK => ?_)
      refine goes_ Try.func20 (by kernel_rfl) rfl #[.agg #[.int .i64 (it x).num, .int .u8 (it x).kind, .string (it x).name, .slice A9 (it x).obj.length c9], .agg #[.int .i64 x.f0, .int .u8 x.f1.f0, .string x.f1.f1, .slice A6 x.f1.f2.length c6]] (by rfl) rfl rfl (by simp only [List.map_toArray, List.map_cons, List.map_nil]; rfl) ?_
      with_reducible refine (same_x (pred_at S2.out (by exact Spot.there _ (Spot.there _ (Spot.there _ (Spot.here _ _))) : Spot _ (RowW A9 c9 (it x).obj) _)) (both_r S2 (by repeat (first | exact Spot.here _ _ | apply Spot.there)))).mono ?_
      rintro z9 w9 ⟨rfl, hB9⟩
      have S3 := Aside0.mk (S2.out.keep hB9)
      clear hB9
      refine ⟨_, rfl, ?_⟩
      refine hK.out _ _ ⟨((own_cell (g := g8) S3 (by repeat (first | exact Spot.here _ _ | apply Spot.there)) 0).trans rfl), ((own_cell (g := g8) S3 (by repeat (first | exact Spot.here _ _ | apply Spot.there)) 1).trans rfl), ((own_cell (g := g8) S3 (by repeat (first | exact Spot.here _ _ | apply Spot.there)) 2).trans rfl), ((own_cell (g := g8) S3 (by repeat (first | exact Spot.here _ _ | apply Spot.there)) 3).trans rfl), ((own_cell (g := g11) S3 (by repeat (first | exact Spot.here _ _ | apply Spot.there)) 0).trans rfl), ((own_cell (g := g11) S3 (by repeat (first | exact Spot.here _ _ | apply Spot.there)) 1).trans rfl), ((own_cell (g := g11) S3 (by repeat (first | exact Spot.here _ _ | apply Spot.there)) 2).trans rfl), ((own_cell (g := g11) S3 (by repeat (first | exact Spot.here _ _ | apply Spot.there)) 3).trans rfl), ((own_cell (g := g3) S3 (by repeat (first | exact Spot.here _ _ | apply Spot.there)) 0).trans rfl), ((own_cell (g := g3) S3 (by repeat (first | exact Spot.here _ _ | apply Spot.there)) 1).trans rfl)⟩ (fun hHeld => ?_)
      clear hK K
      refine norm_ (a' := ?_) ?_ ?_
      rotate_left
      · show Act.put _ (some 56) _ = _
        simp only [Act.put, List.setIfInBounds_toArray, List.set_cons_zero, List.set_cons_succ, i64_w, i32_w]
        rfl
      refine pure_ (i := 12) (N := some 57) (v := ?_) (a' := ?_) #[true, true, true, true, true, true, true, true, true, true, true, true, true, false, false, false, false, false, false, false, false, false, false, false, false, false, false, false, false] rfl rfl (by kernel_rfl) (fun _ _ _ h => h) (Or.inl ⟨by rfl, ?_⟩) ?_ ?_
      rotate_left
      · intro w'
        go_simp
        with_reducible rfl
      rotate_left
      · simp only [Act.put, List.setIfInBounds_toArray, List.set_cons_zero, List.set_cons_succ, i64_w, i32_w]
        rfl
      refine pure_ (i := 13) (N := some 58) (v := ?_) (a' := ?_) #[true, true, true, true, true, true, true, true, true, true, true, true, true, true, false, false, false, false, false, false, false, false, false, false, false, false, false, false, false] rfl rfl (by kernel_rfl) (fun _ _ _ h => h) (Or.inl ⟨by rfl, ?_⟩) ?_ ?_
      rotate_left
      · intro w'
        go_simp
        with_reducible rfl
      rotate_left
      · simp only [Act.put, List.setIfInBounds_toArray, List.set_cons_zero, List.set_cons_succ, i64_w, i32_w]
        rfl
      refine pure_ (i := 14) (N := some 59) (v := ?_) (a' := ?_) #[true, true, true, true, true, true, true, true, true, true, true, true, true, true, true, false, false, false, false, false, false, false, false, false, false, false, false, false, false] rfl rfl (by kernel_rfl) (fun _ _ _ h => h) (Or.inl ⟨by rfl, ?_⟩) ?_ ?_
      rotate_left
      · intro w'
        go_simp
        with_reducible rfl
      rotate_left
      · simp only [Act.put, List.setIfInBounds_toArray, List.set_cons_zero, List.set_cons_succ, i64_w, i32_w]
        rfl
      refine pure_ (i := 16) (N := some 61) (v := ?_) (a' := ?_) #[true, true, true, true, true, true, true, true, true, true, true, true, true, true, true, false, true, false, false, false, false, false, false, false, false, false, false, false, false] rfl rfl (by kernel_rfl) (fun _ _ _ h => h) (Or.inl ⟨by rfl, ?_⟩) ?_ ?_
      rotate_left
      · intro w'
        go_simp
        with_reducible rfl
      rotate_left
      · simp only [Act.put, List.setIfInBounds_toArray, List.set_cons_zero, List.set_cons_succ, i64_w, i32_w]
        rfl
      refine take_ (i := 17) (N := some 62) (v := ?_) (a' := ?_) #[true, true, true, true, true, true, true, true, true, true, true, true, true, true, true, false, true, true, false, false, false, false, false, false, false, false, false, false, false] rfl rfl (by kernel_rfl) (fun _ _ _ h => h) (Or.inl ⟨by rfl, ?_⟩) hHeld ?_ ?_
      rotate_left
      · rintro w' ⟨s0, s1, s2, s3, s4, s5, s6, s7, s8, s9⟩
        go_simp
        with_reducible rfl
      rotate_left
      · simp only [Act.put, List.setIfInBounds_toArray, List.set_cons_zero, List.set_cons_succ, i64_w, i32_w]
        rfl
      refine pure_ (i := 18) (N := some 63) (v := ?_) (a' := ?_) #[true, true, true, true, true, true, true, true, true, true, true, true, true, true, true, false, true, true, true, false, false, false, false, false, false, false, false, false, false] rfl rfl (by kernel_rfl) (fun _ _ _ h => h) (Or.inl ⟨by rfl, ?_⟩) ?_ ?_
      rotate_left
      · intro w'
        go_simp
        with_reducible rfl
      rotate_left
      · simp only [Act.put, List.setIfInBounds_toArray, List.set_cons_zero, List.set_cons_succ, i64_w, i32_w]
        rfl
      refine one_ (i := 15) (N := some 60) #[true, true, true, true, true, true, true, true, true, true, true, true, true, true, true, true, true, true, true, false, false, false, false, false, false, false, false, false, false] rfl rfl (by kernel_rfl) (by decide) (fun K hK => ?_)
      refine goes_ Try.func14 (by kernel_rfl) rfl #[.pointer (some ⟨g, 0, none⟩)] (by rfl) rfl rfl (by simp only [List.map_toArray, List.map_cons, List.map_nil]; rfl) ?_
      with_reducible refine (lenb_sys (n := n) S3 (by repeat (first | exact Spot.here _ _ | apply Spot.there)) HN.out).mono ?_
      rintro z10 w10 ⟨rfl, hw10⟩
      subst hw10
      refine ⟨_, rfl, ?_⟩
      refine hK.out _ _ ⟨((own_cell (g := g8) S3 (by repeat (first | exact Spot.here _ _ | apply Spot.there)) 0).trans rfl), ((own_cell (g := g8) S3 (by repeat (first | exact Spot.here _ _ | apply Spot.there)) 1).trans rfl), ((own_cell (g := g8) S3 (by repeat (first | exact Spot.here _ _ | apply Spot.there)) 2).trans rfl), ((own_cell (g := g8) S3 (by repeat (first | exact Spot.here _ _ | apply Spot.there)) 3).trans rfl), ((own_cell (g := g11) S3 (by repeat (first | exact Spot.here _ _ | apply Spot.there)) 0).trans rfl), ((own_cell (g := g11) S3 (by repeat (first | exact Spot.here _ _ | apply Spot.there)) 1).trans rfl), ((own_cell (g := g11) S3 (by repeat (first | exact Spot.here _ _ | apply Spot.there)) 2).trans rfl), ((own_cell (g := g11) S3 (by repeat (first | exact Spot.here _ _ | apply Spot.there)) 3).trans rfl), ((own_cell (g := g3) S3 (by repeat (first | exact Spot.here _ _ | apply Spot.there)) 0).trans rfl), ((own_cell (g := g3) S3 (by repeat (first | exact Spot.here _ _ | apply Spot.there)) 1).trans rfl)⟩ (fun hHeld => ?_)
      clear hK K
      refine norm_ (a' := ?_) ?_ ?_
      rotate_left
      · show Act.put _ (some 60) _ = _
        simp only [Act.put, List.setIfInBounds_toArray, List.set_cons_zero, List.set_cons_succ, i64_w, i32_w]
        rfl
      refine pure_ (i := 19) (N := some 64) (v := ?_) (a' := ?_) #[true, true, true, true, true, true, true, true, true, true, true, true, true, true, true, true, true, true, true, true, false, false, false, false, false, false, false, false, false] rfl rfl (by kernel_rfl) (fun _ _ _ h => h) (Or.inl ⟨by rfl, ?_⟩) ?_ ?_
      rotate_left
      · intro w'
        go_simp
        with_reducible rfl
      rotate_left
      · simp only [Act.put, List.setIfInBounds_toArray, List.set_cons_zero, List.set_cons_succ, i64_w, i32_w]
        rfl
      refine pure_ (i := 20) (N := some 65) (v := ?_) (a' := ?_) #[true, true, true, true, true, true, true, true, true, true, true, true, true, true, true, true, true, true, true, true, true, false, false, false, false, false, false, false, false] rfl rfl (by kernel_rfl) (fun _ _ _ h => h) (Or.inl ⟨by rfl, ?_⟩) ?_ ?_
      rotate_left
      · intro w'
        go_simp
        with_reducible rfl
      rotate_left
      · simp only [Act.put, List.setIfInBounds_toArray, List.set_cons_zero, List.set_cons_succ, i64_w, i32_w]
        rfl
      refine pure_ (i := 21) (N := some 66) (v := ?_) (a' := ?_) #[true, true, true, true, true, true, true, true, true, true, true, true, true, true, true, true, true, true, true, true, true, true, false, false, false, false, false, false, false] rfl rfl (by kernel_rfl) (fun _ _ _ h => h) (Or.inl ⟨by rfl, ?_⟩) ?_ ?_
      rotate_left
      · intro w'
        go_simp
        with_reducible rfl
      rotate_left
      · simp only [Act.put, List.setIfInBounds_toArray, List.set_cons_zero, List.set_cons_succ, i64_w, i32_w]
        rfl
      refine pure_ (i := 22) (N := some 67) (v := ?_) (a' := ?_) #[true, true, true, true, true, true, true, true, true, true, true, true, true, true, true, true, true, true, true, true, true, true, true, false, false, false, false, false, false] rfl rfl (by kernel_rfl) (fun _ _ _ h => h) (Or.inl ⟨by rfl, ?_⟩) ?_ ?_
      rotate_left
      · intro w'
        go_simp
        with_reducible rfl
      rotate_left
      · simp only [Act.put, List.setIfInBounds_toArray, List.set_cons_zero, List.set_cons_succ, i64_w, i32_w]
        rfl
      refine pure_ (i := 24) (N := some 69) (v := ?_) (a' := ?_) #[true, true, true, true, true, true, true, true, true, true, true, true, true, true, true, true, true, true, true, true, true, true, true, false, true, false, false, false, false] rfl rfl (by kernel_rfl) (fun _ _ _ h => h) (Or.inl ⟨by rfl, ?_⟩) ?_ ?_
      rotate_left
      · intro w'
        go_simp
        with_reducible rfl
      rotate_left
      · simp only [Act.put, List.setIfInBounds_toArray, List.set_cons_zero, List.set_cons_succ, i64_w, i32_w]
        rfl
      refine take_ (i := 25) (N := some 70) (v := ?_) (a' := ?_) #[true, true, true, true, true, true, true, true, true, true, true, true, true, true, true, true, true, true, true, true, true, true, true, false, true, true, false, false, false] rfl rfl (by kernel_rfl) (fun _ _ _ h => h) (Or.inl ⟨by rfl, ?_⟩) hHeld ?_ ?_
      rotate_left
      · rintro w' ⟨s0, s1, s2, s3, s4, s5, s6, s7, s8, s9⟩
        go_simp
        with_reducible rfl
      rotate_left
      · simp only [Act.put, List.setIfInBounds_toArray, List.set_cons_zero, List.set_cons_succ, i64_w, i32_w]
        rfl
      refine one_ (i := 23) (N := some 68) #[true, true, true, true, true, true, true, true, true, true, true, true, true, true, true, true, true, true, true, true, true, true, true, true, true, true, false, false, false] rfl rfl (by kernel_rfl) (by decide) (fun K hK => ?_)
      refine goes_ Try.func13 (by kernel_rfl) rfl #[.pointer (some ⟨g, 0, none⟩)] (by rfl) rfl rfl (by simp only [List.map_toArray, List.map_cons, List.map_nil]; rfl) ?_
      with_reducible refine (cameb_sys S3 (by repeat (first | exact Spot.here _ _ | apply Spot.there))).mono ?_
      rintro z11 w11 ⟨rfl, hw11⟩
      subst hw11
      refine ⟨_, rfl, ?_⟩
      refine hK.out _ _ ⟨((own_cell (g := g8) S3 (by repeat (first | exact Spot.here _ _ | apply Spot.there)) 0).trans rfl), ((own_cell (g := g8) S3 (by repeat (first | exact Spot.here _ _ | apply Spot.there)) 1).trans rfl), ((own_cell (g := g8) S3 (by repeat (first | exact Spot.here _ _ | apply Spot.there)) 2).trans rfl), ((own_cell (g := g8) S3 (by repeat (first | exact Spot.here _ _ | apply Spot.there)) 3).trans rfl), ((own_cell (g := g11) S3 (by repeat (first | exact Spot.here _ _ | apply Spot.there)) 0).trans rfl), ((own_cell (g := g11) S3 (by repeat (first | exact Spot.here _ _ | apply Spot.there)) 1).trans rfl), ((own_cell (g := g11) S3 (by repeat (first | exact Spot.here _ _ | apply Spot.there)) 2).trans rfl), ((own_cell (g := g11) S3 (by repeat (first | exact Spot.here _ _ | apply Spot.there)) 3).trans rfl), ((own_cell (g := g3) S3 (by repeat (first | exact Spot.here _ _ | apply Spot.there)) 0).trans rfl), ((own_cell (g := g3) S3 (by repeat (first | exact Spot.here _ _ | apply Spot.there)) 1).trans rfl)⟩ (fun hHeld => ?_)
      clear hK K
      refine norm_ (a' := ?_) ?_ ?_
      rotate_left
      · show Act.put _ (some 68) _ = _
        simp only [Act.put, List.setIfInBounds_toArray, List.set_cons_zero, List.set_cons_succ, i64_w, i32_w]
        rfl
      refine pure_ (i := 26) (N := some 71) (v := ?_) (a' := ?_) #[true, true, true, true, true, true, true, true, true, true, true, true, true, true, true, true, true, true, true, true, true, true, true, true, true, true, true, false, false] rfl rfl (by kernel_rfl) (fun _ _ _ h => h) (Or.inl ⟨by rfl, ?_⟩) ?_ ?_
      rotate_left
      · intro w'
        go_simp
        with_reducible rfl
      rotate_left
      · simp only [Act.put, List.setIfInBounds_toArray, List.set_cons_zero, List.set_cons_succ, i64_w, i32_w]
        rfl
      refine pure_ (i := 27) (N := some 72) (v := ?_) (a' := ?_) #[true, true, true, true, true, true, true, true, true, true, true, true, true, true, true, true, true, true, true, true, true, true, true, true, true, true, true, true, false] rfl rfl (by kernel_rfl) (fun _ _ _ h => h) (Or.inl ⟨by rfl, ?_⟩) ?_ ?_
      rotate_left
      · intro w'
        go_simp
        with_reducible rfl
      rotate_left
      · simp only [Act.put, List.setIfInBounds_toArray, List.set_cons_zero, List.set_cons_succ, i64_w, i32_w]
        rfl
      refine pure_ (i := 28) (N := some 4) (v := ?_) (a' := ?_) #[true, true, true, true, true, true, true, true, true, true, true, true, true, true, true, true, true, true, true, true, true, true, true, true, true, true, true, true, true] rfl rfl (by kernel_rfl) (fun _ _ _ h => h) (Or.inl ⟨by rfl, ?_⟩) ?_ ?_
      rotate_left
      · intro w'
        go_simp
        with_reducible rfl
      rotate_left
      · simp only [Act.put, List.setIfInBounds_toArray, List.set_cons_zero, List.set_cons_succ, i64_w, i32_w]
        rfl
      refine done_ (by kernel_rfl) ?_

      go_wp2
      go_ret
      exact ⟨rfl, SysA.done (drop_both S3 (by repeat (first | exact Spot.here _ _ | apply Spot.there))) (by repeat (first | exact Spot.here _ _ | apply Spot.there))⟩

set_option maxRecDepth 100000 in
set_option maxHeartbeats 4000000 in
theorem same_nil (g : Nat) (m : Int) (A : Option Addr) (n c : Nat) (D : Nat → Prop) (w : World) (h : Pair w g m [] (.slice A n c) [] D) (hn : n = 0) :
    Calls Try.prog 10 #[.pointer (some ⟨g, 0, none⟩), .agg #[.slice A n c, .int .i64 m]] w fun z w' => z = .returned (.bool true) ∧ Done w g m [] (.slice A n c) [] D w' := by
  have S := SysA.start h
  have HN := Aside0.mk (show ([] : List It).length = n by simp [hn])
  clear h hn
  go_enter Try.func10, Try.ntmps10
  go_wp2_with (first | ((with_reducible refine gate_dst (N := 3) rfl ?_); refine ev_boxs S ?_ 3 rfl rfl rfl ?_; rfl; intro g3 w3 S_; clear S; have S := S_; clear S_) | ((with_reducible refine gate_dst (N := 5) rfl ?_); refine ev_alloc #[.int .i64 0, .int .u8 0, .string ⟨#[]⟩, .slice none 0 0] rfl S ?_ 5 rfl rfl z45 ?_; rfl; intro g5 w5 S_; clear S; have S := S_; clear S_) | (refine ev_puts S ?_ rfl rfl s45 rfl rfl (by repeat (first | exact Spot.here _ _ | apply Spot.there)) rfl ?_ ?_ ?_; rfl; rfl; rfl; intro w_ S_; simp only [putAt, List.set_cons_zero, List.set_cons_succ] at S_; clear S; have S := S_; clear S_) | (refine ev_own1 S ?_ rfl o31 rfl (by repeat (first | exact Spot.here _ _ | apply Spot.there)) (by exact rfl) ?_; rfl) | (refine ev_own1 S ?_ rfl o5 rfl (by repeat (first | exact Spot.here _ _ | apply Spot.there)) (by exact rfl) ?_; rfl) | (refine ev_put1 S ?_ rfl rfl s5 rfl rfl (by repeat (first | exact Spot.here _ _ | apply Spot.there)) ?_ ?_ ?_; rfl; rfl; rfl; intro w_ S_; simp only [putAt, List.set_cons_zero, List.set_cons_succ] at S_; clear S; have S := S_; clear S_) | ((with_reducible refine gate_dst (N := 8) rfl ?_); refine ev_alloc #[.int .i64 0, .int .u8 0, .string ⟨#[]⟩, .slice none 0 0] rfl S ?_ 8 rfl rfl z45 ?_; rfl; intro g8 w8 S_; clear S; have S := S_; clear S_) | (refine ev_owns (vs := [_, _]) S ?_ rfl m28 rfl (by repeat (first | exact Spot.here _ _ | apply Spot.there)) (by exact rfl) ?_; rfl) | ((with_reducible refine gate_dst (N := 10) rfl ?_); refine ev_alloc #[.slice none 0 0, .int .i64 0] rfl S ?_ 10 rfl rfl z28 ?_; rfl; intro g10 w10 S_; clear S; have S := S_; clear S_) | ((with_reducible refine gate_dst (N := 11) rfl ?_); refine ev_alloc #[.int .i64 0, .int .u8 0, .string ⟨#[]⟩, .slice none 0 0] rfl S ?_ 11 rfl rfl z57 ?_; rfl; intro g11 w11 S_; clear S; have S := S_; clear S_) | (refine ev_puts S ?_ rfl rfl s28 rfl rfl (by repeat (first | exact Spot.here _ _ | apply Spot.there)) rfl ?_ ?_ ?_; rfl; rfl; rfl; intro w_ S_; simp only [putAt, List.set_cons_zero, List.set_cons_succ] at S_; clear S; have S := S_; clear S_) | (refine ev_puts S ?_ rfl rfl s57 rfl rfl (by repeat (first | exact Spot.here _ _ | apply Spot.there)) rfl ?_ ?_ ?_; rfl; rfl; rfl; intro w_ S_; simp only [putAt, List.set_cons_zero, List.set_cons_succ] at S_; clear S; have S := S_; clear S_) | (refine ev_owns (vs := [_, _, _, _]) S ?_ rfl m45 rfl (by repeat (first | exact Spot.here _ _ | apply Spot.there)) (by exact rfl) ?_; rfl) | (refine ev_owns (vs := [_, _, _, _]) S ?_ rfl m57 rfl (by repeat (first | exact Spot.here _ _ | apply Spot.there)) (by exact rfl) ?_; rfl) | (refine ev_own1 S ?_ rfl o26 rfl (by repeat (first | exact Spot.here _ _ | apply Spot.there)) (by exact rfl) ?_; rfl) | (refine ev_own1 S ?_ rfl o3 rfl (by repeat (first | exact Spot.here _ _ | apply Spot.there)) (by exact rfl) ?_; rfl) | (go_at_call 16; have c_ := peek0_sys S (by repeat (first | exact Spot.here _ _ | apply Spot.there)); (with_reducible refine c_.mono ?_); clear c_; rintro z_ w_ ⟨rfl, S_⟩; clear S; have S := S_; clear S_) | (go_at_call 19; have c_ := rpop0_keep (m' := m) S (by repeat (first | exact Spot.here _ _ | apply Spot.there)); (with_reducible refine c_.mono ?_); clear c_; rintro z_ w_ ⟨A', c', A6, c6, rfl, D', S_⟩; clear S; have S := S_; clear S_; (try dsimp only at S)))
  go_loopw [7] (fun v7 wr => v7 = .int .i64 0 ∧ Aside0 (St 0 w wr [Bk g5 #[.int .i64 0, .int .u8 0, .string ⟨#[]⟩, .slice none 0 0] 45, Bk g3 #[.slice A n c, .int .i64 m] 28, SysA w D g m [] (.slice A n c) [] D])) (fun v7 _ => 0)
  case atStart => exact ⟨rfl, S⟩
  case round =>
    clear S
    obtain ⟨rfl, S⟩ := hrel
    go_wp2_with (first | ((with_reducible refine gate_dst (N := 3) rfl ?_); refine ev_boxs S ?_ 3 rfl rfl rfl ?_; rfl; intro g3 w3 S_; clear S; have S := S_; clear S_) | ((with_reducible refine gate_dst (N := 5) rfl ?_); refine ev_alloc #[.int .i64 0, .int .u8 0, .string ⟨#[]⟩, .slice none 0 0] rfl S ?_ 5 rfl rfl z45 ?_; rfl; intro g5 w5 S_; clear S; have S := S_; clear S_) | (refine ev_puts S ?_ rfl rfl s45 rfl rfl (by repeat (first | exact Spot.here _ _ | apply Spot.there)) rfl ?_ ?_ ?_; rfl; rfl; rfl; intro w_ S_; simp only [putAt, List.set_cons_zero, List.set_cons_succ] at S_; clear S; have S := S_; clear S_) | (refine ev_own1 S ?_ rfl o31 rfl (by repeat (first | exact Spot.here _ _ | apply Spot.there)) (by exact rfl) ?_; rfl) | (refine ev_own1 S ?_ rfl o5 rfl (by repeat (first | exact Spot.here _ _ | apply Spot.there)) (by exact rfl) ?_; rfl) | (refine ev_put1 S ?_ rfl rfl s5 rfl rfl (by repeat (first | exact Spot.here _ _ | apply Spot.there)) ?_ ?_ ?_; rfl; rfl; rfl; intro w_ S_; simp only [putAt, List.set_cons_zero, List.set_cons_succ] at S_; clear S; have S := S_; clear S_) | ((with_reducible refine gate_dst (N := 8) rfl ?_); refine ev_alloc #[.int .i64 0, .int .u8 0, .string ⟨#[]⟩, .slice none 0 0] rfl S ?_ 8 rfl rfl z45 ?_; rfl; intro g8 w8 S_; clear S; have S := S_; clear S_) | (refine ev_owns (vs := [_, _]) S ?_ rfl m28 rfl (by repeat (first | exact Spot.here _ _ | apply Spot.there)) (by exact rfl) ?_; rfl) | ((with_reducible refine gate_dst (N := 10) rfl ?_); refine ev_alloc #[.slice none 0 0, .int .i64 0] rfl S ?_ 10 rfl rfl z28 ?_; rfl; intro g10 w10 S_; clear S; have S := S_; clear S_) | ((with_reducible refine gate_dst (N := 11) rfl ?_); refine ev_alloc #[.int .i64 0, .int .u8 0, .string ⟨#[]⟩, .slice none 0 0] rfl S ?_ 11 rfl rfl z57 ?_; rfl; intro g11 w11 S_; clear S; have S := S_; clear S_) | (refine ev_puts S ?_ rfl rfl s28 rfl rfl (by repeat (first | exact Spot.here _ _ | apply Spot.there)) rfl ?_ ?_ ?_; rfl; rfl; rfl; intro w_ S_; simp only [putAt, List.set_cons_zero, List.set_cons_succ] at S_; clear S; have S := S_; clear S_) | (refine ev_puts S ?_ rfl rfl s57 rfl rfl (by repeat (first | exact Spot.here _ _ | apply Spot.there)) rfl ?_ ?_ ?_; rfl; rfl; rfl; intro w_ S_; simp only [putAt, List.set_cons_zero, List.set_cons_succ] at S_; clear S; have S := S_; clear S_) | (refine ev_owns (vs := [_, _, _, _]) S ?_ rfl m45 rfl (by repeat (first | exact Spot.here _ _ | apply Spot.there)) (by exact rfl) ?_; rfl) | (refine ev_owns (vs := [_, _, _, _]) S ?_ rfl m57 rfl (by repeat (first | exact Spot.here _ _ | apply Spot.there)) (by exact rfl) ?_; rfl) | (refine ev_own1 S ?_ rfl o26 rfl (by repeat (first | exact Spot.here _ _ | apply Spot.there)) (by exact rfl) ?_; rfl) | (refine ev_own1 S ?_ rfl o3 rfl (by repeat (first | exact Spot.here _ _ | apply Spot.there)) (by exact rfl) ?_; rfl) | (go_at_call 16; have c_ := peek0_sys S (by repeat (first | exact Spot.here _ _ | apply Spot.there)); (with_reducible refine c_.mono ?_); clear c_; rintro z_ w_ ⟨rfl, S_⟩; clear S; have S := S_; clear S_) | (go_at_call 19; have c_ := rpop0_keep (m' := m) S (by repeat (first | exact Spot.here _ _ | apply Spot.there)); (with_reducible refine c_.mono ?_); clear c_; rintro z_ w_ ⟨A', c', A6, c6, rfl, D', S_⟩; clear S; have S := S_; clear S_; (try dsimp only at S)))
    have S2 := Aside0.mk S.out.drew
    clear S
    refine start_ (n := 29) (S := fun w' => w'.cell? ⟨g8, 0, none⟩ = some (.int .i64 0) ∧ w'.cell? ⟨g8, 1, none⟩ = some (.int .u8 0) ∧ w'.cell? ⟨g8, 2, none⟩ = some (.string ⟨#[]⟩) ∧ w'.cell? ⟨g8, 3, none⟩ = some (.slice none 0 0) ∧ w'.cell? ⟨g11, 0, none⟩ = some (.int .i64 0) ∧ w'.cell? ⟨g11, 1, none⟩ = some (.int .u8 0) ∧ w'.cell? ⟨g11, 2, none⟩ = some (.string ⟨#[]⟩) ∧ w'.cell? ⟨g11, 3, none⟩ = some (.slice A6 0 c6) ∧ w'.cell? ⟨g3, 0, none⟩ = some (.slice A n c) ∧ w'.cell? ⟨g3, 1, none⟩ = some (.int .i64 m)) (ds := []) #[false, false, false, false, false, false, false, false, false, false, false, false, false, false, false, false, false, false, false, false, false, false, false, false, false, false, false, false, false] (by kernel_rfl) rfl rfl ⟨((own_cell (g := g8) S2 (by repeat (first | exact Spot.here _ _ | apply Spot.there)) 0).trans rfl), ((own_cell (g := g8) S2 (by repeat (first | exact Spot.here _ _ | apply Spot.there)) 1).trans rfl), ((own_cell (g := g8) S2 (by repeat (first | exact Spot.here _ _ | apply Spot.there)) 2).trans rfl), ((own_cell (g := g8) S2 (by repeat (first | exact Spot.here _ _ | apply Spot.there)) 3).trans rfl), ((own_cell (g := g11) S2 (by repeat (first | exact Spot.here _ _ | apply Spot.there)) 0).trans rfl), ((own_cell (g := g11) S2 (by repeat (first | exact Spot.here _ _ | apply Spot.there)) 1).trans rfl), ((own_cell (g := g11) S2 (by repeat (first | exact Spot.here _ _ | apply Spot.there)) 2).trans rfl), ((own_cell (g := g11) S2 (by repeat (first | exact Spot.here _ _ | apply Spot.there)) 3).trans rfl), ((own_cell (g := g3) S2 (by repeat (first | exact Spot.here _ _ | apply Spot.there)) 0).trans rfl), ((own_cell (g := g3) S2 (by repeat (first | exact Spot.here _ _ | apply Spot.there)) 1).trans rfl)⟩ (fun hHeld => ?_)
    refine pure_ (i := 0) (N := some 45) (v := ?_) (a' := ?_) #[true, false, false, false, false, false, false, false, false, false, false, false, false, false, false, false, false, false, false, false, false, false, false, false, false, false, false, false, false] rfl rfl (by kernel_rfl) (fun _ _ _ h => h) (Or.inl ⟨by rfl, ?_⟩) ?_ ?_
    rotate_left
    · intro w'
      go_simp
      with_reducible rfl
    rotate_left
    · simp only [Act.put, List.setIfInBounds_toArray, List.set_cons_zero, List.set_cons_succ, i64_w, i32_w]
      rfl
    refine pure_ (i := 1) (N := some 46) (v := ?_) (a' := ?_) #[true, true, false, false, false, false, false, false, false, false, false, false, false, false, false, false, false, false, false, false, false, false, false, false, false, false, false, false, false] rfl rfl (by kernel_rfl) (fun _ _ _ h => h) (Or.inl ⟨by rfl, ?_⟩) ?_ ?_
    rotate_left
    · intro w'
      go_simp
      with_reducible rfl
    rotate_left
    · simp only [Act.put, List.setIfInBounds_toArray, List.set_cons_zero, List.set_cons_succ, i64_w, i32_w]
      rfl
    refine pure_ (i := 2) (N := some 47) (v := ?_) (a' := ?_) #[true, true, true, false, false, false, false, false, false, false, false, false, false, false, false, false, false, false, false, false, false, false, false, false, false, false, false, false, false] rfl rfl (by kernel_rfl) (fun _ _ _ h => h) (Or.inl ⟨by rfl, ?_⟩) ?_ ?_
    rotate_left
    · intro w'
      go_simp
      with_reducible rfl
    rotate_left
    · simp only [Act.put, List.setIfInBounds_toArray, List.set_cons_zero, List.set_cons_succ, i64_w, i32_w]
      rfl
    refine pure_ (i := 3) (N := some 48) (v := ?_) (a' := ?_) #[true, true, true, true, false, false, false, false, false, false, false, false, false, false, false, false, false, false, false, false, false, false, false, false, false, false, false, false, false] rfl rfl (by kernel_rfl) (fun _ _ _ h => h) (Or.inl ⟨by rfl, ?_⟩) ?_ ?_
    rotate_left
    · intro w'
      go_simp
      with_reducible rfl
    rotate_left
    · simp only [Act.put, List.setIfInBounds_toArray, List.set_cons_zero, List.set_cons_succ, i64_w, i32_w]
      rfl
    refine pure_ (i := 4) (N := some 49) (v := ?_) (a' := ?_) #[true, true, true, true, true, false, false, false, false, false, false, false, false, false, false, false, false, false, false, false, false, false, false, false, false, false, false, false, false] rfl rfl (by kernel_rfl) (fun _ _ _ h => h) (Or.inl ⟨by rfl, ?_⟩) ?_ ?_
    rotate_left
    · intro w'
      go_simp
      with_reducible rfl
    rotate_left
    · simp only [Act.put, List.setIfInBounds_toArray, List.set_cons_zero, List.set_cons_succ, i64_w, i32_w]
      rfl
    refine pure_ (i := 5) (N := some 50) (v := ?_) (a' := ?_) #[true, true, true, true, true, true, false, false, false, false, false, false, false, false, false, false, false, false, false, false, false, false, false, false, false, false, false, false, false] rfl rfl (by kernel_rfl) (fun _ _ _ h => h) (Or.inl ⟨by rfl, ?_⟩) ?_ ?_
    rotate_left
    · intro w'
      go_simp
      with_reducible rfl
    rotate_left
    · simp only [Act.put, List.setIfInBounds_toArray, List.set_cons_zero, List.set_cons_succ, i64_w, i32_w]
      rfl
    refine pure_ (i := 6) (N := some 51) (v := ?_) (a' := ?_) #[true, true, true, true, true, true, true, false, false, false, false, false, false, false, false, false, false, false, false, false, false, false, false, false, false, false, false, false, false] rfl rfl (by kernel_rfl) (fun _ _ _ h => h) (Or.inl ⟨by rfl, ?_⟩) ?_ ?_
    rotate_left
    · intro w'
      go_simp
      with_reducible rfl
    rotate_left
    · simp only [Act.put, List.setIfInBounds_toArray, List.set_cons_zero, List.set_cons_succ, i64_w, i32_w]
      rfl
    refine pure_ (i := 7) (N := some 52) (v := ?_) (a' := ?_) #[true, true, true, true, true, true, true, true, false, false, false, false, false, false, false, false, false, false, false, false, false, false, false, false, false, false, false, false, false] rfl rfl (by kernel_rfl) (fun _ _ _ h => h) (Or.inl ⟨by rfl, ?_⟩) ?_ ?_
    rotate_left
    · intro w'
      go_simp
      with_reducible rfl
    rotate_left
    · simp only [Act.put, List.setIfInBounds_toArray, List.set_cons_zero, List.set_cons_succ, i64_w, i32_w]
      rfl
    refine pure_ (i := 8) (N := some 53) (v := ?_) (a' := ?_) #[true, true, true, true, true, true, true, true, true, false, false, false, false, false, false, false, false, false, false, false, false, false, false, false, false, false, false, false, false] rfl rfl (by kernel_rfl) (fun _ _ _ h => h) (Or.inl ⟨by rfl, ?_⟩) ?_ ?_
    rotate_left
    · intro w'
      go_simp
      with_reducible rfl
    rotate_left
    · simp only [Act.put, List.setIfInBounds_toArray, List.set_cons_zero, List.set_cons_succ, i64_w, i32_w]
      rfl
    refine take_ (i := 9) (N := some 54) (v := ?_) (a' := ?_) #[true, true, true, true, true, true, true, true, true, true, false, false, false, false, false, false, false, false, false, false, false, false, false, false, false, false, false, false, false] rfl rfl (by kernel_rfl) (fun _ _ _ h => h) (Or.inl ⟨by rfl, ?_⟩) hHeld ?_ ?_
    rotate_left
    · rintro w' ⟨s0, s1, s2, s3, s4, s5, s6, s7, s8, s9⟩
      go_simp
      with_reducible rfl
    rotate_left
    · simp only [Act.put, List.setIfInBounds_toArray, List.set_cons_zero, List.set_cons_succ, i64_w, i32_w]
      rfl
    refine take_ (i := 10) (N := some 55) (v := ?_) (a' := ?_) #[true, true, true, true, true, true, true, true, true, true, true, false, false, false, false, false, false, false, false, false, false, false, false, false, false, false, false, false, false] rfl rfl (by kernel_rfl) (fun _ _ _ h => h) (Or.inl ⟨by rfl, ?_⟩) hHeld ?_ ?_
    rotate_left
    · rintro w' ⟨s0, s1, s2, s3, s4, s5, s6, s7, s8, s9⟩
      go_simp
      with_reducible rfl
    rotate_left
    · simp only [Act.put, List.setIfInBounds_toArray, List.set_cons_zero, List.set_cons_succ, i64_w, i32_w]
      rfl
    refine one_ (i := 11) (N := some 56) #[true, true, true, true, true, true, true, true, true, true, true, true, false, false, false, false, false, false, false, false, false, false, false, false, false, false, false, false, false] rfl rfl (by kernel_rfl) (by decide) (fun K hK => ?_)
    refine goes_ Try.func20 (by kernel_rfl) rfl #[.agg #[.int .i64 0, .int .u8 0, .string ⟨#[]⟩, .slice none 0 0], .agg #[.int .i64 0, .int .u8 0, .string ⟨#[]⟩, .slice A6 0 c6]] (by rfl) rfl rfl (by simp only [List.map_toArray, List.map_cons, List.map_nil]; rfl) ?_
    with_reducible refine (same_0 (both_r S2 (by repeat (first | exact Spot.here _ _ | apply Spot.there)))).mono ?_
    rintro z9 w9 ⟨rfl, hB9⟩
    have S3 := Aside0.mk (S2.out.keep hB9)
    clear hB9
    refine ⟨_, rfl, ?_⟩
    refine hK.out _ _ ⟨((own_cell (g := g8) S3 (by repeat (first | exact Spot.here _ _ | apply Spot.there)) 0).trans rfl), ((own_cell (g := g8) S3 (by repeat (first | exact Spot.here _ _ | apply Spot.there)) 1).trans rfl), ((own_cell (g := g8) S3 (by repeat (first | exact Spot.here _ _ | apply Spot.there)) 2).trans rfl), ((own_cell (g := g8) S3 (by repeat (first | exact Spot.here _ _ | apply Spot.there)) 3).trans rfl), ((own_cell (g := g11) S3 (by repeat (first | exact Spot.here _ _ | apply Spot.there)) 0).trans rfl), ((own_cell (g := g11) S3 (by repeat (first | exact Spot.here _ _ | apply Spot.there)) 1).trans rfl), ((own_cell (g := g11) S3 (by repeat (first | exact Spot.here _ _ | apply Spot.there)) 2).trans rfl), ((own_cell (g := g11) S3 (by repeat (first | exact Spot.here _ _ | apply Spot.there)) 3).trans rfl), ((own_cell (g := g3) S3 (by repeat (first | exact Spot.here _ _ | apply Spot.there)) 0).trans rfl), ((own_cell (g := g3) S3 (by repeat (first | exact Spot.here _ _ | apply Spot.there)) 1).trans rfl)⟩ (fun hHeld => ?_)
    clear hK K
    refine norm_ (a' := ?_) ?_ ?_
    rotate_left
    · show Act.put _ (some 56) _ = _
      simp only [Act.put, List.setIfInBounds_toArray, List.set_cons_zero, List.set_cons_succ, i64_w, i32_w]
      rfl
    refine pure_ (i := 12) (N := some 57) (v := ?_) (a' := ?_) #[true, true, true, true, true, true, true, true, true, true, true, true, true, false, false, false, false, false, false, false, false, false, false, false, false, false, false, false, false] rfl rfl (by kernel_rfl) (fun _ _ _ h => h) (Or.inl ⟨by rfl, ?_⟩) ?_ ?_
    rotate_left
    · intro w'
      go_simp
      with_reducible rfl
    rotate_left
    · simp only [Act.put, List.setIfInBounds_toArray, List.set_cons_zero, List.set_cons_succ, i64_w, i32_w]
      rfl
    refine pure_ (i := 13) (N := some 58) (v := ?_) (a' := ?_) #[true, true, true, true, true, true, true, true, true, true, true, true, true, true, false, false, false, false, false, false, false, false, false, false, false, false, false, false, false] rfl rfl (by kernel_rfl) (fun _ _ _ h => h) (Or.inl ⟨by rfl, ?_⟩) ?_ ?_
    rotate_left
    · intro w'
      go_simp
      with_reducible rfl
    rotate_left
    · simp only [Act.put, List.setIfInBounds_toArray, List.set_cons_zero, List.set_cons_succ, i64_w, i32_w]
      rfl
    refine pure_ (i := 14) (N := some 59) (v := ?_) (a' := ?_) #[true, true, true, true, true, true, true, true, true, true, true, true, true, true, true, false, false, false, false, false, false, false, false, false, false, false, false, false, false] rfl rfl (by kernel_rfl) (fun _ _ _ h => h) (Or.inl ⟨by rfl, ?_⟩) ?_ ?_
    rotate_left
    · intro w'
      go_simp
      with_reducible rfl
    rotate_left
    · simp only [Act.put, List.setIfInBounds_toArray, List.set_cons_zero, List.set_cons_succ, i64_w, i32_w]
      rfl
    refine pure_ (i := 16) (N := some 61) (v := ?_) (a' := ?_) #[true, true, true, true, true, true, true, true, true, true, true, true, true, true, true, false, true, false, false, false, false, false, false, false, false, false, false, false, false] rfl rfl (by kernel_rfl) (fun _ _ _ h => h) (Or.inl ⟨by rfl, ?_⟩) ?_ ?_
    rotate_left
    · intro w'
      go_simp
      with_reducible rfl
    rotate_left
    · simp only [Act.put, List.setIfInBounds_toArray, List.set_cons_zero, List.set_cons_succ, i64_w, i32_w]
      rfl
    refine take_ (i := 17) (N := some 62) (v := ?_) (a' := ?_) #[true, true, true, true, true, true, true, true, true, true, true, true, true, true, true, false, true, true, false, false, false, false, false, false, false, false, false, false, false] rfl rfl (by kernel_rfl) (fun _ _ _ h => h) (Or.inl ⟨by rfl, ?_⟩) hHeld ?_ ?_
    rotate_left
    · rintro w' ⟨s0, s1, s2, s3, s4, s5, s6, s7, s8, s9⟩
      go_simp
      with_reducible rfl
    rotate_left
    · simp only [Act.put, List.setIfInBounds_toArray, List.set_cons_zero, List.set_cons_succ, i64_w, i32_w]
      rfl
    refine pure_ (i := 18) (N := some 63) (v := ?_) (a' := ?_) #[true, true, true, true, true, true, true, true, true, true, true, true, true, true, true, false, true, true, true, false, false, false, false, false, false, false, false, false, false] rfl rfl (by kernel_rfl) (fun _ _ _ h => h) (Or.inl ⟨by rfl, ?_⟩) ?_ ?_
    rotate_left
    · intro w'
      go_simp
      with_reducible rfl
    rotate_left
    · simp only [Act.put, List.setIfInBounds_toArray, List.set_cons_zero, List.set_cons_succ, i64_w, i32_w]
      rfl
    refine one_ (i := 15) (N := some 60) #[true, true, true, true, true, true, true, true, true, true, true, true, true, true, true, true, true, true, true, false, false, false, false, false, false, false, false, false, false] rfl rfl (by kernel_rfl) (by decide) (fun K hK => ?_)
    refine goes_ Try.func14 (by kernel_rfl) rfl #[.pointer (some ⟨g, 0, none⟩)] (by rfl) rfl rfl (by simp only [List.map_toArray, List.map_cons, List.map_nil]; rfl) ?_
    with_reducible refine (lenb_sys (n := n) S3 (by repeat (first | exact Spot.here _ _ | apply Spot.there)) HN.out).mono ?_
    rintro z10 w10 ⟨rfl, hw10⟩
    subst hw10
    refine ⟨_, rfl, ?_⟩
    refine hK.out _ _ ⟨((own_cell (g := g8) S3 (by repeat (first | exact Spot.here _ _ | apply Spot.there)) 0).trans rfl), ((own_cell (g := g8) S3 (by repeat (first | exact Spot.here _ _ | apply Spot.there)) 1).trans rfl), ((own_cell (g := g8) S3 (by repeat (first | exact Spot.here _ _ | apply Spot.there)) 2).trans rfl), ((own_cell (g := g8) S3 (by repeat (first | exact Spot.here _ _ | apply Spot.there)) 3).trans rfl), ((own_cell (g := g11) S3 (by repeat (first | exact Spot.here _ _ | apply Spot.there)) 0).trans rfl), ((own_cell (g := g11) S3 (by repeat (first | exact Spot.here _ _ | apply Spot.there)) 1).trans rfl), ((own_cell (g := g11) S3 (by repeat (first | exact Spot.here _ _ | apply Spot.there)) 2).trans rfl), ((own_cell (g := g11) S3 (by repeat (first | exact Spot.here _ _ | apply Spot.there)) 3).trans rfl), ((own_cell (g := g3) S3 (by repeat (first | exact Spot.here _ _ | apply Spot.there)) 0).trans rfl), ((own_cell (g := g3) S3 (by repeat (first | exact Spot.here _ _ | apply Spot.there)) 1).trans rfl)⟩ (fun hHeld => ?_)
    clear hK K
    refine norm_ (a' := ?_) ?_ ?_
    rotate_left
    · show Act.put _ (some 60) _ = _
      simp only [Act.put, List.setIfInBounds_toArray, List.set_cons_zero, List.set_cons_succ, i64_w, i32_w]
      rfl
    refine pure_ (i := 19) (N := some 64) (v := ?_) (a' := ?_) #[true, true, true, true, true, true, true, true, true, true, true, true, true, true, true, true, true, true, true, true, false, false, false, false, false, false, false, false, false] rfl rfl (by kernel_rfl) (fun _ _ _ h => h) (Or.inl ⟨by rfl, ?_⟩) ?_ ?_
    rotate_left
    · intro w'
      go_simp
      with_reducible rfl
    rotate_left
    · simp only [Act.put, List.setIfInBounds_toArray, List.set_cons_zero, List.set_cons_succ, i64_w, i32_w]
      rfl
    refine pure_ (i := 20) (N := some 65) (v := ?_) (a' := ?_) #[true, true, true, true, true, true, true, true, true, true, true, true, true, true, true, true, true, true, true, true, true, false, false, false, false, false, false, false, false] rfl rfl (by kernel_rfl) (fun _ _ _ h => h) (Or.inl ⟨by rfl, ?_⟩) ?_ ?_
    rotate_left
    · intro w'
      go_simp
      with_reducible rfl
    rotate_left
    · simp only [Act.put, List.setIfInBounds_toArray, List.set_cons_zero, List.set_cons_succ, i64_w, i32_w]
      rfl
    refine pure_ (i := 21) (N := some 66) (v := ?_) (a' := ?_) #[true, true, true, true, true, true, true, true, true, true, true, true, true, true, true, true, true, true, true, true, true, true, false, false, false, false, false, false, false] rfl rfl (by kernel_rfl) (fun _ _ _ h => h) (Or.inl ⟨by rfl, ?_⟩) ?_ ?_
    rotate_left
    · intro w'
      go_simp
      with_reducible rfl
    rotate_left
    · simp only [Act.put, List.setIfInBounds_toArray, List.set_cons_zero, List.set_cons_succ, i64_w, i32_w]
      rfl
    refine pure_ (i := 22) (N := some 67) (v := ?_) (a' := ?_) #[true, true, true, true, true, true, true, true, true, true, true, true, true, true, true, true, true, true, true, true, true, true, true, false, false, false, false, false, false] rfl rfl (by kernel_rfl) (fun _ _ _ h => h) (Or.inl ⟨by rfl, ?_⟩) ?_ ?_
    rotate_left
    · intro w'
      go_simp
      with_reducible rfl
    rotate_left
    · simp only [Act.put, List.setIfInBounds_toArray, List.set_cons_zero, List.set_cons_succ, i64_w, i32_w]
      rfl
    refine pure_ (i := 24) (N := some 69) (v := ?_) (a' := ?_) #[true, true, true, true, true, true, true, true, true, true, true, true, true, true, true, true, true, true, true, true, true, true, true, false, true, false, false, false, false] rfl rfl (by kernel_rfl) (fun _ _ _ h => h) (Or.inl ⟨by rfl, ?_⟩) ?_ ?_
    rotate_left
    · intro w'
      go_simp
      with_reducible rfl
    rotate_left
    · simp only [Act.put, List.setIfInBounds_toArray, List.set_cons_zero, List.set_cons_succ, i64_w, i32_w]
      rfl
    refine take_ (i := 25) (N := some 70) (v := ?_) (a' := ?_) #[true, true, true, true, true, true, true, true, true, true, true, true, true, true, true, true, true, true, true, true, true, true, true, false, true, true, false, false, false] rfl rfl (by kernel_rfl) (fun _ _ _ h => h) (Or.inl ⟨by rfl, ?_⟩) hHeld ?_ ?_
    rotate_left
    · rintro w' ⟨s0, s1, s2, s3, s4, s5, s6, s7, s8, s9⟩
      go_simp
      with_reducible rfl
    rotate_left
    · simp only [Act.put, List.setIfInBounds_toArray, List.set_cons_zero, List.set_cons_succ, i64_w, i32_w]
      rfl
    refine one_ (i := 23) (N := some 68) #[true, true, true, true, true, true, true, true, true, true, true, true, true, true, true, true, true, true, true, true, true, true, true, true, true, true, false, false, false] rfl rfl (by kernel_rfl) (by decide) (fun K hK => ?_)
    refine goes_ Try.func13 (by kernel_rfl) rfl #[.pointer (some ⟨g, 0, none⟩)] (by rfl) rfl rfl (by simp only [List.map_toArray, List.map_cons, List.map_nil]; rfl) ?_
    with_reducible refine (cameb_sys S3 (by repeat (first | exact Spot.here _ _ | apply Spot.there))).mono ?_
    rintro z11 w11 ⟨rfl, hw11⟩
    subst hw11
    refine ⟨_, rfl, ?_⟩
    refine hK.out _ _ ⟨((own_cell (g := g8) S3 (by repeat (first | exact Spot.here _ _ | apply Spot.there)) 0).trans rfl), ((own_cell (g := g8) S3 (by repeat (first | exact Spot.here _ _ | apply Spot.there)) 1).trans rfl), ((own_cell (g := g8) S3 (by repeat (first | exact Spot.here _ _ | apply Spot.there)) 2).trans rfl), ((own_cell (g := g8) S3 (by repeat (first | exact Spot.here _ _ | apply Spot.there)) 3).trans rfl), ((own_cell (g := g11) S3 (by repeat (first | exact Spot.here _ _ | apply Spot.there)) 0).trans rfl), ((own_cell (g := g11) S3 (by repeat (first | exact Spot.here _ _ | apply Spot.there)) 1).trans rfl), ((own_cell (g := g11) S3 (by repeat (first | exact Spot.here _ _ | apply Spot.there)) 2).trans rfl), ((own_cell (g := g11) S3 (by repeat (first | exact Spot.here _ _ | apply Spot.there)) 3).trans rfl), ((own_cell (g := g3) S3 (by repeat (first | exact Spot.here _ _ | apply Spot.there)) 0).trans rfl), ((own_cell (g := g3) S3 (by repeat (first | exact Spot.here _ _ | apply Spot.there)) 1).trans rfl)⟩ (fun hHeld => ?_)
    clear hK K
    refine norm_ (a' := ?_) ?_ ?_
    rotate_left
    · show Act.put _ (some 68) _ = _
      simp only [Act.put, List.setIfInBounds_toArray, List.set_cons_zero, List.set_cons_succ, i64_w, i32_w]
      rfl
    refine pure_ (i := 26) (N := some 71) (v := ?_) (a' := ?_) #[true, true, true, true, true, true, true, true, true, true, true, true, true, true, true, true, true, true, true, true, true, true, true, true, true, true, true, false, false] rfl rfl (by kernel_rfl) (fun _ _ _ h => h) (Or.inl ⟨by rfl, ?_⟩) ?_ ?_
    rotate_left
    · intro w'
      go_simp
      with_reducible rfl
    rotate_left
    · simp only [Act.put, List.setIfInBounds_toArray, List.set_cons_zero, List.set_cons_succ, i64_w, i32_w]
      rfl
    refine pure_ (i := 27) (N := some 72) (v := ?_) (a' := ?_) #[true, true, true, true, true, true, true, true, true, true, true, true, true, true, true, true, true, true, true, true, true, true, true, true, true, true, true, true, false] rfl rfl (by kernel_rfl) (fun _ _ _ h => h) (Or.inl ⟨by rfl, ?_⟩) ?_ ?_
    rotate_left
    · intro w'
      go_simp
      with_reducible rfl
    rotate_left
    · simp only [Act.put, List.setIfInBounds_toArray, List.set_cons_zero, List.set_cons_succ, i64_w, i32_w]
      rfl
    refine pure_ (i := 28) (N := some 4) (v := ?_) (a' := ?_) #[true, true, true, true, true, true, true, true, true, true, true, true, true, true, true, true, true, true, true, true, true, true, true, true, true, true, true, true, true] rfl rfl (by kernel_rfl) (fun _ _ _ h => h) (Or.inl ⟨by rfl, ?_⟩) ?_ ?_
    rotate_left
    · intro w'
      go_simp
      with_reducible rfl
    rotate_left
    · simp only [Act.put, List.setIfInBounds_toArray, List.set_cons_zero, List.set_cons_succ, i64_w, i32_w]
      rfl
    refine done_ (by kernel_rfl) ?_

    go_wp2
    go_ret
    exact ⟨rfl, SysA.done (drop_both S3 (by repeat (first | exact Spot.here _ _ | apply Spot.there))) (by repeat (first | exact Spot.here _ _ | apply Spot.there))⟩
end Go.Proofs.Ytipcflkijcccdaa.Same
