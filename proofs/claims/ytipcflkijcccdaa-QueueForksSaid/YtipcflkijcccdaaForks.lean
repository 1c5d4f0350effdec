/- The walk of QueueForks. -/
import Derived.Test.YtipcflkijcccdaaFork
import Derived.Test.YtipcflkijcccdaaSames
import Derived.Test.YtipcflkijcccdaaK35
namespace Go.Proofs.Ytipcflkijcccdaa.Forks
open Go.RowKit Go.Proofs.Ytipcflkijcccdaa.Sep Go.Proofs.YtipcflkijcccdaaW.PrintWords Go.Proofs.YtipcflkijcccdaaW.PrintLast Go.Proofs.YtipcflkijcccdaaW.PrintMore Go.Proofs.Ytipcflkijcccdaa.Qu Go.Proofs.Ytipcflkijcccdaa.Ev Go.Proofs.Ytipcflkijcccdaa.Sys Go.Proofs.Ytipcflkijcccdaa.Ty Go.Proofs.Ytipcflkijcccdaa.Pairs Go.Proofs.Ytipcflkijcccdaa.Fork Go.Proofs.Ytipcflkijcccdaa.Sames
set_option linter.unusedVariables false
set_option linter.unusedSimpArgs false

set_option maxRecDepth 100000 in
set_option maxHeartbeats 16000000 in
theorem forks (A : Option Addr) (l : List K.S35) (c : Nat) (A2 : Option Addr) (l2 : List K.S35) (c2 : Nat) (k1 : Int) (n1 : ByteArray) (Ao : Option Addr) (o1 : List Int) (co : Nat) (k2 : Int) (n2 : ByteArray) (Bo : Option Addr) (o2 : List Int) (cb : Nat) (w : World)
    (hC : Kd.C K.k35 w A l.length l) (hC2 : Kd.C K.k35 w A2 l2.length l2) (hx : ∀ x ∈ l, 0 ≤ x.f0 ∧ x.f0 < 256 ∧ x.f1.f2.length < 140737488355328) (hx2 : ∀ x ∈ l2, 0 ≤ x.f0 ∧ x.f0 < 256 ∧ x.f1.f2.length < 140737488355328)
    (hra : Kd.C (Kd.int .u8) w Ao o1.length o1) (hca : o1.length ≤ co) (hla : o1.length < 140737488355328) (hba : ∀ x ∈ o1, 0 ≤ x ∧ x < 256) (hrb : Kd.C (Kd.int .u8) w Bo o2.length o2) (hcb : o2.length ≤ cb) (hbb : ∀ x ∈ o2, 0 ≤ x ∧ x < 256) :
    Calls Try.prog 6 #[.slice A l.length c, .slice A2 l2.length c2, .agg #[.int .u8 k1, .string n1, .slice Ao o1.length co, .int .u8 k2, .string n2, .slice Bo o2.length cb]] w fun z w' => z = .returned (.bool true) ∧ Below w.heap.size w w' := by
  have HC := Aside0.mk hC
  have HC2 := Aside0.mk hC2
  have HX := Aside0.mk hx
  have HX2 := Aside0.mk hx2
  have HRa := Aside0.mk hra
  have HCa := Aside0.mk hca
  have HLa := Aside0.mk hla
  have HBa := Aside0.mk hba
  have HRb := Aside0.mk hrb
  have HCb := Aside0.mk hcb
  have HBb := Aside0.mk hbb
  have S := Aside0.mk (St.start w)
  clear hC hC2 hx hx2 hra hca hla hba hrb hcb hbb
  by_cases hlen : (100 : Int) < (l.length : Int)
  · have hd1 : decide ((l.length : Int) > 100) = true := decide_eq_true hlen
    go_enter Try.func6, Try.ntmps6
    go_wp2_with (first | ((with_reducible refine gate_dst (N := 5) rfl ?_); refine ev_boxs S ?_ 5 rfl rfl rfl ?_; (first | exact want0 rfl | exact want1 rfl rfl rfl rfl); intro g5 w5 S_; clear S; have S := S_; clear S_) | (refine ev_owns (vs := [_, _, _]) S ?_ rfl m33 rfl (by repeat (first | exact Spot.here _ _ | apply Spot.there)) (by exact rfl) ?_; (first | exact want0 rfl | exact want1 rfl rfl rfl rfl)) | ((with_reducible refine gate_dst (N := 7) rfl ?_); refine ev_alloc #[.int .u8 0, .string ⟨#[]⟩, .slice none 0 0] rfl S ?_ 7 rfl rfl z33 ?_; (first | exact want0 rfl | exact want1 rfl rfl rfl rfl); intro g7 w7 S_; clear S; have S := S_; clear S_) | ((with_reducible refine gate_dst (N := 8) rfl ?_); refine ev_alloc #[.int .u8 0, .string ⟨#[]⟩, .slice none 0 0] rfl S ?_ 8 rfl rfl z33 ?_; (first | exact want0 rfl | exact want1 rfl rfl rfl rfl); intro g8 w8 S_; clear S; have S := S_; clear S_) | (refine ev_puts S ?_ rfl rfl s33 rfl rfl (by repeat (first | exact Spot.here _ _ | apply Spot.there)) rfl ?_ ?_ ?_; (first | exact want0 rfl | exact want1 rfl rfl rfl rfl); rfl; rfl; intro w_ S_; simp only [putAt, List.set_cons_zero, List.set_cons_succ] at S_; clear S; have S := S_; clear S_) | ((with_reducible refine gate_dst (N := 10) rfl ?_); refine ev_alloc #[.slice none 0 0, .int .i64 0] rfl S ?_ 10 rfl rfl z28 ?_; (first | exact want0 rfl | exact want1 rfl rfl rfl rfl); intro g10 w10 S_; clear S; have S := S_; clear S_) | (refine ev_puts S ?_ rfl rfl s28 rfl rfl (by repeat (first | exact Spot.here _ _ | apply Spot.there)) rfl ?_ ?_ ?_; (first | exact want0 rfl | exact want1 rfl rfl rfl rfl); rfl; rfl; intro w_ S_; simp only [putAt, List.set_cons_zero, List.set_cons_succ] at S_; clear S; have S := S_; clear S_) | (refine ev_owns (vs := [_, _]) S ?_ rfl m28 rfl (by repeat (first | exact Spot.here _ _ | apply Spot.there)) (by exact rfl) ?_; (first | exact want0 rfl | exact want1 rfl rfl rfl rfl)) | (refine ev_owns (vs := [_, _, _, _]) S ?_ rfl m35 rfl (by repeat (first | exact Spot.here _ _ | apply Spot.there)) (by exact rfl) ?_; (first | exact want0 rfl | exact want1 rfl rfl rfl rfl)) | ((with_reducible refine gate_dst (N := 13) rfl ?_); refine ev_alloc #[.slice none 0 0, .int .i64 0] rfl S ?_ 13 rfl rfl z28 ?_; (first | exact want0 rfl | exact want1 rfl rfl rfl rfl); intro g13 w13 S_; clear S; have S := S_; clear S_) | ((with_reducible refine gate_dst (N := 19) rfl ?_); refine ev_alloc #[.int .i64 0, .int .u8 0, .string ⟨#[]⟩, .slice none 0 0] rfl S ?_ 19 rfl rfl z45 ?_; (first | exact want0 rfl | exact want1 rfl rfl rfl rfl); intro g19 w19 S_; clear S; have S := S_; clear S_) | (refine ev_puts S ?_ rfl rfl s45 rfl rfl (by repeat (first | exact Spot.here _ _ | apply Spot.there)) rfl ?_ ?_ ?_; (first | exact want0 rfl | exact want1 rfl rfl rfl rfl); rfl; rfl; intro w_ S_; simp only [putAt, List.set_cons_zero, List.set_cons_succ] at S_; clear S; have S := S_; clear S_) | ((with_reducible refine gate_dst (N := 21) rfl ?_); refine ev_alloc #[.int .i64 0, .int .u8 0, .string ⟨#[]⟩, .slice none 0 0] rfl S ?_ 21 rfl rfl z45 ?_; (first | exact want0 rfl | exact want1 rfl rfl rfl rfl); intro g21 w21 S_; clear S; have S := S_; clear S_) | (go_at_call 7; (with_reducible refine (awake_calls _).mono ?_); rintro z_ w_ ⟨rfl, hb_⟩; have S_ := Aside0.mk (S.out.keep hb_); clear hb_; clear S; have S := S_; clear S_) | (go_at_call 8; have c_ := new_ev S; (with_reducible refine c_.mono ?_); clear c_; rintro z_ w_ ⟨g, rfl, S_⟩; clear S; have S := S_; clear S_) | (go_at_call 11; (with_reducible refine (push_nil _ _ _ _ _ _).mono ?_); rintro z_ w_ ⟨rfl, hb_⟩; have S_ := Aside0.mk (S.out.keep hb_); clear hb_; clear S; have S := S_; clear S_) | (go_at_call 12; (with_reducible refine (pop_nil _).mono ?_); rintro z_ w_ ⟨rfl, hb_⟩; have S_ := Aside0.mk (S.out.keep hb_); clear hb_; clear S; have S := S_; clear S_) | (go_at_call 16; (with_reducible refine (peek_nil _).mono ?_); rintro z_ w_ ⟨rfl, hb_⟩; have S_ := Aside0.mk (S.out.keep hb_); clear hb_; clear S; have S := S_; clear S_) | (go_at_call 14; (with_reducible refine (len_nil _).mono ?_); rintro z_ w_ ⟨rfl, rfl⟩) | (go_at_call 13; (with_reducible refine (came_nil _).mono ?_); rintro z_ w_ ⟨rfl, rfl⟩) | (go_at_call 15; (with_reducible refine (fork_nil _).mono ?_); rintro z_ w_ ⟨rfl, rfl⟩))
    have S2 := Aside0.mk S.out.drew
    clear S
    refine start_ (n := 8) (S := fun w' => w'.cell? ⟨g5, 0, none⟩ = some (.int .u8 k1) ∧ w'.cell? ⟨g5, 1, none⟩ = some (.string n1) ∧ w'.cell? ⟨g5, 2, none⟩ = some (.slice Ao o1.length co) ∧ w'.cell? ⟨g5, 3, none⟩ = some (.int .u8 k2) ∧ w'.cell? ⟨g5, 4, none⟩ = some (.string n2) ∧ w'.cell? ⟨g5, 5, none⟩ = some (.slice Bo o2.length cb)) (ds := []) #[false, false, false, false, false, false, false, false] (by kernel_rfl) rfl rfl ⟨((own_cell (g := g5) S2 (by repeat (first | exact Spot.here _ _ | apply Spot.there)) 0).trans rfl), ((own_cell (g := g5) S2 (by repeat (first | exact Spot.here _ _ | apply Spot.there)) 1).trans rfl), ((own_cell (g := g5) S2 (by repeat (first | exact Spot.here _ _ | apply Spot.there)) 2).trans rfl), ((own_cell (g := g5) S2 (by repeat (first | exact Spot.here _ _ | apply Spot.there)) 3).trans rfl), ((own_cell (g := g5) S2 (by repeat (first | exact Spot.here _ _ | apply Spot.there)) 4).trans rfl), ((own_cell (g := g5) S2 (by repeat (first | exact Spot.here _ _ | apply Spot.there)) 5).trans rfl)⟩ (fun hHeld => ?_)
    refine pure_ (i := 0) (N := some 24) (v := ?_) (a' := ?_) #[true, false, false, false, false, false, false, false] rfl rfl (by kernel_rfl) (fun _ _ _ h => h) (Or.inl ⟨by rfl, ?_⟩) ?_ ?_
    rotate_left
    · intro w'
      go_simp
      with_reducible rfl
    rotate_left
    · simp only [Act.put, List.setIfInBounds_toArray, List.set_cons_zero, List.set_cons_succ, i64_w, i32_w]
      rfl
    refine pure_ (i := 2) (N := some 26) (v := ?_) (a' := ?_) #[true, false, true, false, false, false, false, false] rfl rfl (by kernel_rfl) (fun _ _ _ h => h) (Or.inl ⟨by rfl, ?_⟩) ?_ ?_
    rotate_left
    · intro w'
      go_simp
      with_reducible rfl
    rotate_left
    · simp only [Act.put, List.setIfInBounds_toArray, List.set_cons_zero, List.set_cons_succ, i64_w, i32_w]
      rfl
    refine take_ (i := 1) (N := some 25) (v := ?_) (a' := ?_) #[true, true, true, false, false, false, false, false] rfl rfl (by kernel_rfl) (fun _ _ _ h => h) (Or.inl ⟨by rfl, ?_⟩) hHeld ?_ ?_
    rotate_left
    · rintro w' ⟨s0, s1, s2, s3, s4, s5⟩
      go_simp
      with_reducible rfl
    rotate_left
    · simp only [Act.put, List.setIfInBounds_toArray, List.set_cons_zero, List.set_cons_succ, i64_w, i32_w]
      rfl
    refine take_ (i := 3) (N := some 27) (v := ?_) (a' := ?_) #[true, true, true, true, false, false, false, false] rfl rfl (by kernel_rfl) (fun _ _ _ h => h) (Or.inl ⟨by rfl, ?_⟩) hHeld ?_ ?_
    rotate_left
    · rintro w' ⟨s0, s1, s2, s3, s4, s5⟩
      go_simp
      with_reducible rfl
    rotate_left
    · simp only [Act.put, List.setIfInBounds_toArray, List.set_cons_zero, List.set_cons_succ, i64_w, i32_w]
      rfl
    refine join_ (σ := Nat × Nat) 2 #[true, true, true, true, true, true, false, false] (fun s => [(7, .pointer (some ⟨s.1, 0, none⟩)), (8, .pointer (some ⟨s.2, 0, none⟩))]) (fun s w' => Aside0 (St w.heap.size w w' [Bk s.2 #[.int .u8 0, .string ⟨#[]⟩, .slice none 0 0] 33, Bk s.1 #[.int .u8 0, .string ⟨#[]⟩, .slice none 0 0] 33, Bk g5 #[.int .u8 k1, .string n1, .slice Ao o1.length co, .int .u8 k2, .string n2, .slice Bo o2.length cb] 51])) ?_ ?_
    rotate_left
    · intro hCont
      refine two_ (i := 4) (j := 5) (Ni := some 7) (Nj := some 8) #[true, true, true, true, true, false, false, false] #[true, true, true, true, false, true, false, false] rfl rfl rfl rfl (by kernel_rfl) (by decide) (by decide) (fun K hK => ?_) (fun K hK => ?_)
      · skip
        refine st_alloc #[.int .u8 0, .string ⟨#[]⟩, .slice none 0 0] rfl S2 (want0 rfl) 7 rfl rfl z33 ?_
        intro g7 w7 S7
        refine hK.out _ _ ⟨((own_cell (g := g5) S7 (by repeat (first | exact Spot.here _ _ | apply Spot.there)) 0).trans rfl), ((own_cell (g := g5) S7 (by repeat (first | exact Spot.here _ _ | apply Spot.there)) 1).trans rfl), ((own_cell (g := g5) S7 (by repeat (first | exact Spot.here _ _ | apply Spot.there)) 2).trans rfl), ((own_cell (g := g5) S7 (by repeat (first | exact Spot.here _ _ | apply Spot.there)) 3).trans rfl), ((own_cell (g := g5) S7 (by repeat (first | exact Spot.here _ _ | apply Spot.there)) 4).trans rfl), ((own_cell (g := g5) S7 (by repeat (first | exact Spot.here _ _ | apply Spot.there)) 5).trans rfl)⟩ (fun hHeld => ?_)
        clear hK K
        refine norm_ (a' := ?_) ?_ ?_
        rotate_left
        · show Act.put _ (some 7) _ = _
          simp only [Act.put, List.setIfInBounds_toArray, List.set_cons_zero, List.set_cons_succ, i64_w, i32_w]
          rfl
        refine one_ (i := 5) (N := some 8) #[true, true, true, true, true, true, false, false] rfl rfl (by kernel_rfl) (by decide) (fun K hK => ?_)
        refine st_alloc #[.int .u8 0, .string ⟨#[]⟩, .slice none 0 0] rfl S7 (want0 rfl) 8 rfl rfl z33 ?_
        intro g8 w8 S8
        refine hK.out _ _ ⟨((own_cell (g := g5) S8 (by repeat (first | exact Spot.here _ _ | apply Spot.there)) 0).trans rfl), ((own_cell (g := g5) S8 (by repeat (first | exact Spot.here _ _ | apply Spot.there)) 1).trans rfl), ((own_cell (g := g5) S8 (by repeat (first | exact Spot.here _ _ | apply Spot.there)) 2).trans rfl), ((own_cell (g := g5) S8 (by repeat (first | exact Spot.here _ _ | apply Spot.there)) 3).trans rfl), ((own_cell (g := g5) S8 (by repeat (first | exact Spot.here _ _ | apply Spot.there)) 4).trans rfl), ((own_cell (g := g5) S8 (by repeat (first | exact Spot.here _ _ | apply Spot.there)) 5).trans rfl)⟩ (fun hHeld => ?_)
        clear hK K
        refine norm_ (a' := ?_) ?_ ?_
        rotate_left
        · show Act.put _ (some 8) _ = _
          simp only [Act.put, List.setIfInBounds_toArray, List.set_cons_zero, List.set_cons_succ, i64_w, i32_w]
          rfl
        exact norm_ (by simp only [putAll, Act.put, List.setIfInBounds_toArray, List.set_cons_zero, List.set_cons_succ]) (hCont (g7, g8) _ S8)
      · skip
        refine st_alloc #[.int .u8 0, .string ⟨#[]⟩, .slice none 0 0] rfl S2 (want0 rfl) 8 rfl rfl z33 ?_
        intro g8 w8 S8
        refine hK.out _ _ ⟨((own_cell (g := g5) S8 (by repeat (first | exact Spot.here _ _ | apply Spot.there)) 0).trans rfl), ((own_cell (g := g5) S8 (by repeat (first | exact Spot.here _ _ | apply Spot.there)) 1).trans rfl), ((own_cell (g := g5) S8 (by repeat (first | exact Spot.here _ _ | apply Spot.there)) 2).trans rfl), ((own_cell (g := g5) S8 (by repeat (first | exact Spot.here _ _ | apply Spot.there)) 3).trans rfl), ((own_cell (g := g5) S8 (by repeat (first | exact Spot.here _ _ | apply Spot.there)) 4).trans rfl), ((own_cell (g := g5) S8 (by repeat (first | exact Spot.here _ _ | apply Spot.there)) 5).trans rfl)⟩ (fun hHeld => ?_)
        clear hK K
        refine norm_ (a' := ?_) ?_ ?_
        rotate_left
        · show Act.put _ (some 8) _ = _
          simp only [Act.put, List.setIfInBounds_toArray, List.set_cons_zero, List.set_cons_succ, i64_w, i32_w]
          rfl
        refine one_ (i := 4) (N := some 7) #[true, true, true, true, true, true, false, false] rfl rfl (by kernel_rfl) (by decide) (fun K hK => ?_)
        refine st_alloc #[.int .u8 0, .string ⟨#[]⟩, .slice none 0 0] rfl S8 (want0 rfl) 7 rfl rfl z33 ?_
        intro g7 w7 S7
        refine hK.out _ _ ⟨((own_cell (g := g5) S7 (by repeat (first | exact Spot.here _ _ | apply Spot.there)) 0).trans rfl), ((own_cell (g := g5) S7 (by repeat (first | exact Spot.here _ _ | apply Spot.there)) 1).trans rfl), ((own_cell (g := g5) S7 (by repeat (first | exact Spot.here _ _ | apply Spot.there)) 2).trans rfl), ((own_cell (g := g5) S7 (by repeat (first | exact Spot.here _ _ | apply Spot.there)) 3).trans rfl), ((own_cell (g := g5) S7 (by repeat (first | exact Spot.here _ _ | apply Spot.there)) 4).trans rfl), ((own_cell (g := g5) S7 (by repeat (first | exact Spot.here _ _ | apply Spot.there)) 5).trans rfl)⟩ (fun hHeld => ?_)
        clear hK K
        refine norm_ (a' := ?_) ?_ ?_
        rotate_left
        · show Act.put _ (some 7) _ = _
          simp only [Act.put, List.setIfInBounds_toArray, List.set_cons_zero, List.set_cons_succ, i64_w, i32_w]
          rfl
        exact norm_ (by simp only [putAll, Act.put, List.setIfInBounds_toArray, List.set_cons_zero, List.set_cons_succ]) (hCont (g7, g8) _ ⟨S7.out.swap (List.Perm.swap _ _ _)⟩)
    rintro ⟨g7, g8⟩ w8 S8
    simp only at S8
    have hHeld : w8.cell? ⟨g5, 0, none⟩ = some (.int .u8 k1) ∧ w8.cell? ⟨g5, 1, none⟩ = some (.string n1) ∧ w8.cell? ⟨g5, 2, none⟩ = some (.slice Ao o1.length co) ∧ w8.cell? ⟨g5, 3, none⟩ = some (.int .u8 k2) ∧ w8.cell? ⟨g5, 4, none⟩ = some (.string n2) ∧ w8.cell? ⟨g5, 5, none⟩ = some (.slice Bo o2.length cb) := ⟨((own_cell (g := g5) S8 (by repeat (first | exact Spot.here _ _ | apply Spot.there)) 0).trans rfl), ((own_cell (g := g5) S8 (by repeat (first | exact Spot.here _ _ | apply Spot.there)) 1).trans rfl), ((own_cell (g := g5) S8 (by repeat (first | exact Spot.here _ _ | apply Spot.there)) 2).trans rfl), ((own_cell (g := g5) S8 (by repeat (first | exact Spot.here _ _ | apply Spot.there)) 3).trans rfl), ((own_cell (g := g5) S8 (by repeat (first | exact Spot.here _ _ | apply Spot.there)) 4).trans rfl), ((own_cell (g := g5) S8 (by repeat (first | exact Spot.here _ _ | apply Spot.there)) 5).trans rfl)⟩
    refine norm_ (a' := ?_) ?_ ?_
    rotate_left
    · simp only [putAll, Act.put, List.setIfInBounds_toArray, List.set_cons_zero, List.set_cons_succ]
      rfl
    refine one_ (i := 6) (N := none) #[true, true, true, true, true, true, true, false] rfl rfl (by kernel_rfl) (by decide) (fun K hK => ?_)
    refine st_puts S8 (want0 rfl) rfl rfl s33 rfl rfl (by repeat (first | exact Spot.here _ _ | apply Spot.there)) rfl (by rfl) (by rfl) ?_
    intro w9 S9
    simp only [putAt, List.set_cons_zero, List.set_cons_succ] at S9
    refine hK.out _ _ ⟨((own_cell (g := g5) S9 (by repeat (first | exact Spot.here _ _ | apply Spot.there)) 0).trans rfl), ((own_cell (g := g5) S9 (by repeat (first | exact Spot.here _ _ | apply Spot.there)) 1).trans rfl), ((own_cell (g := g5) S9 (by repeat (first | exact Spot.here _ _ | apply Spot.there)) 2).trans rfl), ((own_cell (g := g5) S9 (by repeat (first | exact Spot.here _ _ | apply Spot.there)) 3).trans rfl), ((own_cell (g := g5) S9 (by repeat (first | exact Spot.here _ _ | apply Spot.there)) 4).trans rfl), ((own_cell (g := g5) S9 (by repeat (first | exact Spot.here _ _ | apply Spot.there)) 5).trans rfl)⟩ (fun hHeld => ?_)
    clear hK K
    refine one_ (i := 7) (N := none) #[true, true, true, true, true, true, true, true] rfl rfl (by kernel_rfl) (by decide) (fun K hK => ?_)
    refine st_puts S9 (want0 rfl) rfl rfl s33 rfl rfl (by repeat (first | exact Spot.here _ _ | apply Spot.there)) rfl (by rfl) (by rfl) ?_
    intro w10 S10
    simp only [putAt, List.set_cons_zero, List.set_cons_succ] at S10
    refine hK.out _ _ ⟨((own_cell (g := g5) S10 (by repeat (first | exact Spot.here _ _ | apply Spot.there)) 0).trans rfl), ((own_cell (g := g5) S10 (by repeat (first | exact Spot.here _ _ | apply Spot.there)) 1).trans rfl), ((own_cell (g := g5) S10 (by repeat (first | exact Spot.here _ _ | apply Spot.there)) 2).trans rfl), ((own_cell (g := g5) S10 (by repeat (first | exact Spot.here _ _ | apply Spot.there)) 3).trans rfl), ((own_cell (g := g5) S10 (by repeat (first | exact Spot.here _ _ | apply Spot.there)) 4).trans rfl), ((own_cell (g := g5) S10 (by repeat (first | exact Spot.here _ _ | apply Spot.there)) 5).trans rfl)⟩ (fun hHeld => ?_)
    clear hK K
    refine done_ (by kernel_rfl) ?_

    clear S2 S8 S9
    have S := S10
    clear S10
    go_wp2_with (first | ((with_reducible refine gate_dst (N := 5) rfl ?_); refine ev_boxs S ?_ 5 rfl rfl rfl ?_; (first | exact want0 rfl | exact want1 rfl rfl rfl rfl); intro g5 w5 S_; clear S; have S := S_; clear S_) | (refine ev_owns (vs := [_, _, _]) S ?_ rfl m33 rfl (by repeat (first | exact Spot.here _ _ | apply Spot.there)) (by exact rfl) ?_; (first | exact want0 rfl | exact want1 rfl rfl rfl rfl)) | ((with_reducible refine gate_dst (N := 7) rfl ?_); refine ev_alloc #[.int .u8 0, .string ⟨#[]⟩, .slice none 0 0] rfl S ?_ 7 rfl rfl z33 ?_; (first | exact want0 rfl | exact want1 rfl rfl rfl rfl); intro g7 w7 S_; clear S; have S := S_; clear S_) | ((with_reducible refine gate_dst (N := 8) rfl ?_); refine ev_alloc #[.int .u8 0, .string ⟨#[]⟩, .slice none 0 0] rfl S ?_ 8 rfl rfl z33 ?_; (first | exact want0 rfl | exact want1 rfl rfl rfl rfl); intro g8 w8 S_; clear S; have S := S_; clear S_) | (refine ev_puts S ?_ rfl rfl s33 rfl rfl (by repeat (first | exact Spot.here _ _ | apply Spot.there)) rfl ?_ ?_ ?_; (first | exact want0 rfl | exact want1 rfl rfl rfl rfl); rfl; rfl; intro w_ S_; simp only [putAt, List.set_cons_zero, List.set_cons_succ] at S_; clear S; have S := S_; clear S_) | ((with_reducible refine gate_dst (N := 10) rfl ?_); refine ev_alloc #[.slice none 0 0, .int .i64 0] rfl S ?_ 10 rfl rfl z28 ?_; (first | exact want0 rfl | exact want1 rfl rfl rfl rfl); intro g10 w10 S_; clear S; have S := S_; clear S_) | (refine ev_puts S ?_ rfl rfl s28 rfl rfl (by repeat (first | exact Spot.here _ _ | apply Spot.there)) rfl ?_ ?_ ?_; (first | exact want0 rfl | exact want1 rfl rfl rfl rfl); rfl; rfl; intro w_ S_; simp only [putAt, List.set_cons_zero, List.set_cons_succ] at S_; clear S; have S := S_; clear S_) | (refine ev_owns (vs := [_, _]) S ?_ rfl m28 rfl (by repeat (first | exact Spot.here _ _ | apply Spot.there)) (by exact rfl) ?_; (first | exact want0 rfl | exact want1 rfl rfl rfl rfl)) | (refine ev_owns (vs := [_, _, _, _]) S ?_ rfl m35 rfl (by repeat (first | exact Spot.here _ _ | apply Spot.there)) (by exact rfl) ?_; (first | exact want0 rfl | exact want1 rfl rfl rfl rfl)) | ((with_reducible refine gate_dst (N := 13) rfl ?_); refine ev_alloc #[.slice none 0 0, .int .i64 0] rfl S ?_ 13 rfl rfl z28 ?_; (first | exact want0 rfl | exact want1 rfl rfl rfl rfl); intro g13 w13 S_; clear S; have S := S_; clear S_) | ((with_reducible refine gate_dst (N := 19) rfl ?_); refine ev_alloc #[.int .i64 0, .int .u8 0, .string ⟨#[]⟩, .slice none 0 0] rfl S ?_ 19 rfl rfl z45 ?_; (first | exact want0 rfl | exact want1 rfl rfl rfl rfl); intro g19 w19 S_; clear S; have S := S_; clear S_) | (refine ev_puts S ?_ rfl rfl s45 rfl rfl (by repeat (first | exact Spot.here _ _ | apply Spot.there)) rfl ?_ ?_ ?_; (first | exact want0 rfl | exact want1 rfl rfl rfl rfl); rfl; rfl; intro w_ S_; simp only [putAt, List.set_cons_zero, List.set_cons_succ] at S_; clear S; have S := S_; clear S_) | ((with_reducible refine gate_dst (N := 21) rfl ?_); refine ev_alloc #[.int .i64 0, .int .u8 0, .string ⟨#[]⟩, .slice none 0 0] rfl S ?_ 21 rfl rfl z45 ?_; (first | exact want0 rfl | exact want1 rfl rfl rfl rfl); intro g21 w21 S_; clear S; have S := S_; clear S_) | (go_at_call 7; (with_reducible refine (awake_calls _).mono ?_); rintro z_ w_ ⟨rfl, hb_⟩; have S_ := Aside0.mk (S.out.keep hb_); clear hb_; clear S; have S := S_; clear S_) | (go_at_call 8; have c_ := new_ev S; (with_reducible refine c_.mono ?_); clear c_; rintro z_ w_ ⟨g, rfl, S_⟩; clear S; have S := S_; clear S_) | (go_at_call 11; (with_reducible refine (push_nil _ _ _ _ _ _).mono ?_); rintro z_ w_ ⟨rfl, hb_⟩; have S_ := Aside0.mk (S.out.keep hb_); clear hb_; clear S; have S := S_; clear S_) | (go_at_call 12; (with_reducible refine (pop_nil _).mono ?_); rintro z_ w_ ⟨rfl, hb_⟩; have S_ := Aside0.mk (S.out.keep hb_); clear hb_; clear S; have S := S_; clear S_) | (go_at_call 16; (with_reducible refine (peek_nil _).mono ?_); rintro z_ w_ ⟨rfl, hb_⟩; have S_ := Aside0.mk (S.out.keep hb_); clear hb_; clear S; have S := S_; clear S_) | (go_at_call 14; (with_reducible refine (len_nil _).mono ?_); rintro z_ w_ ⟨rfl, rfl⟩) | (go_at_call 13; (with_reducible refine (came_nil _).mono ?_); rintro z_ w_ ⟨rfl, rfl⟩) | (go_at_call 15; (with_reducible refine (fork_nil _).mono ?_); rintro z_ w_ ⟨rfl, rfl⟩))
    go_ret
    exact ⟨rfl, S.out.below⟩
  have hd1 : decide ((l.length : Int) > 100) = false := decide_eq_false hlen
  by_cases hlen2 : (100 : Int) < (l2.length : Int)
  · have hd2 : decide ((l2.length : Int) > 100) = true := decide_eq_true hlen2
    go_enter Try.func6, Try.ntmps6
    go_wp2_with (first | ((with_reducible refine gate_dst (N := 5) rfl ?_); refine ev_boxs S ?_ 5 rfl rfl rfl ?_; (first | exact want0 rfl | exact want1 rfl rfl rfl rfl); intro g5 w5 S_; clear S; have S := S_; clear S_) | (refine ev_owns (vs := [_, _, _]) S ?_ rfl m33 rfl (by repeat (first | exact Spot.here _ _ | apply Spot.there)) (by exact rfl) ?_; (first | exact want0 rfl | exact want1 rfl rfl rfl rfl)) | ((with_reducible refine gate_dst (N := 7) rfl ?_); refine ev_alloc #[.int .u8 0, .string ⟨#[]⟩, .slice none 0 0] rfl S ?_ 7 rfl rfl z33 ?_; (first | exact want0 rfl | exact want1 rfl rfl rfl rfl); intro g7 w7 S_; clear S; have S := S_; clear S_) | ((with_reducible refine gate_dst (N := 8) rfl ?_); refine ev_alloc #[.int .u8 0, .string ⟨#[]⟩, .slice none 0 0] rfl S ?_ 8 rfl rfl z33 ?_; (first | exact want0 rfl | exact want1 rfl rfl rfl rfl); intro g8 w8 S_; clear S; have S := S_; clear S_) | (refine ev_puts S ?_ rfl rfl s33 rfl rfl (by repeat (first | exact Spot.here _ _ | apply Spot.there)) rfl ?_ ?_ ?_; (first | exact want0 rfl | exact want1 rfl rfl rfl rfl); rfl; rfl; intro w_ S_; simp only [putAt, List.set_cons_zero, List.set_cons_succ] at S_; clear S; have S := S_; clear S_) | ((with_reducible refine gate_dst (N := 10) rfl ?_); refine ev_alloc #[.slice none 0 0, .int .i64 0] rfl S ?_ 10 rfl rfl z28 ?_; (first | exact want0 rfl | exact want1 rfl rfl rfl rfl); intro g10 w10 S_; clear S; have S := S_; clear S_) | (refine ev_puts S ?_ rfl rfl s28 rfl rfl (by repeat (first | exact Spot.here _ _ | apply Spot.there)) rfl ?_ ?_ ?_; (first | exact want0 rfl | exact want1 rfl rfl rfl rfl); rfl; rfl; intro w_ S_; simp only [putAt, List.set_cons_zero, List.set_cons_succ] at S_; clear S; have S := S_; clear S_) | (refine ev_owns (vs := [_, _]) S ?_ rfl m28 rfl (by repeat (first | exact Spot.here _ _ | apply Spot.there)) (by exact rfl) ?_; (first | exact want0 rfl | exact want1 rfl rfl rfl rfl)) | (refine ev_owns (vs := [_, _, _, _]) S ?_ rfl m35 rfl (by repeat (first | exact Spot.here _ _ | apply Spot.there)) (by exact rfl) ?_; (first | exact want0 rfl | exact want1 rfl rfl rfl rfl)) | ((with_reducible refine gate_dst (N := 13) rfl ?_); refine ev_alloc #[.slice none 0 0, .int .i64 0] rfl S ?_ 13 rfl rfl z28 ?_; (first | exact want0 rfl | exact want1 rfl rfl rfl rfl); intro g13 w13 S_; clear S; have S := S_; clear S_) | ((with_reducible refine gate_dst (N := 19) rfl ?_); refine ev_alloc #[.int .i64 0, .int .u8 0, .string ⟨#[]⟩, .slice none 0 0] rfl S ?_ 19 rfl rfl z45 ?_; (first | exact want0 rfl | exact want1 rfl rfl rfl rfl); intro g19 w19 S_; clear S; have S := S_; clear S_) | (refine ev_puts S ?_ rfl rfl s45 rfl rfl (by repeat (first | exact Spot.here _ _ | apply Spot.there)) rfl ?_ ?_ ?_; (first | exact want0 rfl | exact want1 rfl rfl rfl rfl); rfl; rfl; intro w_ S_; simp only [putAt, List.set_cons_zero, List.set_cons_succ] at S_; clear S; have S := S_; clear S_) | ((with_reducible refine gate_dst (N := 21) rfl ?_); refine ev_alloc #[.int .i64 0, .int .u8 0, .string ⟨#[]⟩, .slice none 0 0] rfl S ?_ 21 rfl rfl z45 ?_; (first | exact want0 rfl | exact want1 rfl rfl rfl rfl); intro g21 w21 S_; clear S; have S := S_; clear S_) | (go_at_call 7; (with_reducible refine (awake_calls _).mono ?_); rintro z_ w_ ⟨rfl, hb_⟩; have S_ := Aside0.mk (S.out.keep hb_); clear hb_; clear S; have S := S_; clear S_) | (go_at_call 8; have c_ := new_ev S; (with_reducible refine c_.mono ?_); clear c_; rintro z_ w_ ⟨g, rfl, S_⟩; clear S; have S := S_; clear S_) | (go_at_call 11; (with_reducible refine (push_nil _ _ _ _ _ _).mono ?_); rintro z_ w_ ⟨rfl, hb_⟩; have S_ := Aside0.mk (S.out.keep hb_); clear hb_; clear S; have S := S_; clear S_) | (go_at_call 12; (with_reducible refine (pop_nil _).mono ?_); rintro z_ w_ ⟨rfl, hb_⟩; have S_ := Aside0.mk (S.out.keep hb_); clear hb_; clear S; have S := S_; clear S_) | (go_at_call 16; (with_reducible refine (peek_nil _).mono ?_); rintro z_ w_ ⟨rfl, hb_⟩; have S_ := Aside0.mk (S.out.keep hb_); clear hb_; clear S; have S := S_; clear S_) | (go_at_call 14; (with_reducible refine (len_nil _).mono ?_); rintro z_ w_ ⟨rfl, rfl⟩) | (go_at_call 13; (with_reducible refine (came_nil _).mono ?_); rintro z_ w_ ⟨rfl, rfl⟩) | (go_at_call 15; (with_reducible refine (fork_nil _).mono ?_); rintro z_ w_ ⟨rfl, rfl⟩))
    have S2 := Aside0.mk S.out.drew
    clear S
    refine start_ (n := 8) (S := fun w' => w'.cell? ⟨g5, 0, none⟩ = some (.int .u8 k1) ∧ w'.cell? ⟨g5, 1, none⟩ = some (.string n1) ∧ w'.cell? ⟨g5, 2, none⟩ = some (.slice Ao o1.length co) ∧ w'.cell? ⟨g5, 3, none⟩ = some (.int .u8 k2) ∧ w'.cell? ⟨g5, 4, none⟩ = some (.string n2) ∧ w'.cell? ⟨g5, 5, none⟩ = some (.slice Bo o2.length cb)) (ds := []) #[false, false, false, false, false, false, false, false] (by kernel_rfl) rfl rfl ⟨((own_cell (g := g5) S2 (by repeat (first | exact Spot.here _ _ | apply Spot.there)) 0).trans rfl), ((own_cell (g := g5) S2 (by repeat (first | exact Spot.here _ _ | apply Spot.there)) 1).trans rfl), ((own_cell (g := g5) S2 (by repeat (first | exact Spot.here _ _ | apply Spot.there)) 2).trans rfl), ((own_cell (g := g5) S2 (by repeat (first | exact Spot.here _ _ | apply Spot.there)) 3).trans rfl), ((own_cell (g := g5) S2 (by repeat (first | exact Spot.here _ _ | apply Spot.there)) 4).trans rfl), ((own_cell (g := g5) S2 (by repeat (first | exact Spot.here _ _ | apply Spot.there)) 5).trans rfl)⟩ (fun hHeld => ?_)
    refine pure_ (i := 0) (N := some 24) (v := ?_) (a' := ?_) #[true, false, false, false, false, false, false, false] rfl rfl (by kernel_rfl) (fun _ _ _ h => h) (Or.inl ⟨by rfl, ?_⟩) ?_ ?_
    rotate_left
    · intro w'
      go_simp
      with_reducible rfl
    rotate_left
    · simp only [Act.put, List.setIfInBounds_toArray, List.set_cons_zero, List.set_cons_succ, i64_w, i32_w]
      rfl
    refine pure_ (i := 2) (N := some 26) (v := ?_) (a' := ?_) #[true, false, true, false, false, false, false, false] rfl rfl (by kernel_rfl) (fun _ _ _ h => h) (Or.inl ⟨by rfl, ?_⟩) ?_ ?_
    rotate_left
    · intro w'
      go_simp
      with_reducible rfl
    rotate_left
    · simp only [Act.put, List.setIfInBounds_toArray, List.set_cons_zero, List.set_cons_succ, i64_w, i32_w]
      rfl
    refine take_ (i := 1) (N := some 25) (v := ?_) (a' := ?_) #[true, true, true, false, false, false, false, false] rfl rfl (by kernel_rfl) (fun _ _ _ h => h) (Or.inl ⟨by rfl, ?_⟩) hHeld ?_ ?_
    rotate_left
    · rintro w' ⟨s0, s1, s2, s3, s4, s5⟩
      go_simp
      with_reducible rfl
    rotate_left
    · simp only [Act.put, List.setIfInBounds_toArray, List.set_cons_zero, List.set_cons_succ, i64_w, i32_w]
      rfl
    refine take_ (i := 3) (N := some 27) (v := ?_) (a' := ?_) #[true, true, true, true, false, false, false, false] rfl rfl (by kernel_rfl) (fun _ _ _ h => h) (Or.inl ⟨by rfl, ?_⟩) hHeld ?_ ?_
    rotate_left
    · rintro w' ⟨s0, s1, s2, s3, s4, s5⟩
      go_simp
      with_reducible rfl
    rotate_left
    · simp only [Act.put, List.setIfInBounds_toArray, List.set_cons_zero, List.set_cons_succ, i64_w, i32_w]
      rfl
    refine join_ (σ := Nat × Nat) 2 #[true, true, true, true, true, true, false, false] (fun s => [(7, .pointer (some ⟨s.1, 0, none⟩)), (8, .pointer (some ⟨s.2, 0, none⟩))]) (fun s w' => Aside0 (St w.heap.size w w' [Bk s.2 #[.int .u8 0, .string ⟨#[]⟩, .slice none 0 0] 33, Bk s.1 #[.int .u8 0, .string ⟨#[]⟩, .slice none 0 0] 33, Bk g5 #[.int .u8 k1, .string n1, .slice Ao o1.length co, .int .u8 k2, .string n2, .slice Bo o2.length cb] 51])) ?_ ?_
    rotate_left
    · intro hCont
      refine two_ (i := 4) (j := 5) (Ni := some 7) (Nj := some 8) #[true, true, true, true, true, false, false, false] #[true, true, true, true, false, true, false, false] rfl rfl rfl rfl (by kernel_rfl) (by decide) (by decide) (fun K hK => ?_) (fun K hK => ?_)
      · skip
        refine st_alloc #[.int .u8 0, .string ⟨#[]⟩, .slice none 0 0] rfl S2 (want0 rfl) 7 rfl rfl z33 ?_
        intro g7 w7 S7
        refine hK.out _ _ ⟨((own_cell (g := g5) S7 (by repeat (first | exact Spot.here _ _ | apply Spot.there)) 0).trans rfl), ((own_cell (g := g5) S7 (by repeat (first | exact Spot.here _ _ | apply Spot.there)) 1).trans rfl), ((own_cell (g := g5) S7 (by repeat (first | exact Spot.here _ _ | apply Spot.there)) 2).trans rfl), ((own_cell (g := g5) S7 (by repeat (first | exact Spot.here _ _ | apply Spot.there)) 3).trans rfl), ((own_cell (g := g5) S7 (by repeat (first | exact Spot.here _ _ | apply Spot.there)) 4).trans rfl), ((own_cell (g := g5) S7 (by repeat (first | exact Spot.here _ _ | apply Spot.there)) 5).trans rfl)⟩ (fun hHeld => ?_)
        clear hK K
        refine norm_ (a' := ?_) ?_ ?_
        rotate_left
        · show Act.put _ (some 7) _ = _
          simp only [Act.put, List.setIfInBounds_toArray, List.set_cons_zero, List.set_cons_succ, i64_w, i32_w]
          rfl
        refine one_ (i := 5) (N := some 8) #[true, true, true, true, true, true, false, false] rfl rfl (by kernel_rfl) (by decide) (fun K hK => ?_)
        refine st_alloc #[.int .u8 0, .string ⟨#[]⟩, .slice none 0 0] rfl S7 (want0 rfl) 8 rfl rfl z33 ?_
        intro g8 w8 S8
        refine hK.out _ _ ⟨((own_cell (g := g5) S8 (by repeat (first | exact Spot.here _ _ | apply Spot.there)) 0).trans rfl), ((own_cell (g := g5) S8 (by repeat (first | exact Spot.here _ _ | apply Spot.there)) 1).trans rfl), ((own_cell (g := g5) S8 (by repeat (first | exact Spot.here _ _ | apply Spot.there)) 2).trans rfl), ((own_cell (g := g5) S8 (by repeat (first | exact Spot.here _ _ | apply Spot.there)) 3).trans rfl), ((own_cell (g := g5) S8 (by repeat (first | exact Spot.here _ _ | apply Spot.there)) 4).trans rfl), ((own_cell (g := g5) S8 (by repeat (first | exact Spot.here _ _ | apply Spot.there)) 5).trans rfl)⟩ (fun hHeld => ?_)
        clear hK K
        refine norm_ (a' := ?_) ?_ ?_
        rotate_left
        · show Act.put _ (some 8) _ = _
          simp only [Act.put, List.setIfInBounds_toArray, List.set_cons_zero, List.set_cons_succ, i64_w, i32_w]
          rfl
        exact norm_ (by simp only [putAll, Act.put, List.setIfInBounds_toArray, List.set_cons_zero, List.set_cons_succ]) (hCont (g7, g8) _ S8)
      · skip
        refine st_alloc #[.int .u8 0, .string ⟨#[]⟩, .slice none 0 0] rfl S2 (want0 rfl) 8 rfl rfl z33 ?_
        intro g8 w8 S8
        refine hK.out _ _ ⟨((own_cell (g := g5) S8 (by repeat (first | exact Spot.here _ _ | apply Spot.there)) 0).trans rfl), ((own_cell (g := g5) S8 (by repeat (first | exact Spot.here _ _ | apply Spot.there)) 1).trans rfl), ((own_cell (g := g5) S8 (by repeat (first | exact Spot.here _ _ | apply Spot.there)) 2).trans rfl), ((own_cell (g := g5) S8 (by repeat (first | exact Spot.here _ _ | apply Spot.there)) 3).trans rfl), ((own_cell (g := g5) S8 (by repeat (first | exact Spot.here _ _ | apply Spot.there)) 4).trans rfl), ((own_cell (g := g5) S8 (by repeat (first | exact Spot.here _ _ | apply Spot.there)) 5).trans rfl)⟩ (fun hHeld => ?_)
        clear hK K
        refine norm_ (a' := ?_) ?_ ?_
        rotate_left
        · show Act.put _ (some 8) _ = _
          simp only [Act.put, List.setIfInBounds_toArray, List.set_cons_zero, List.set_cons_succ, i64_w, i32_w]
          rfl
        refine one_ (i := 4) (N := some 7) #[true, true, true, true, true, true, false, false] rfl rfl (by kernel_rfl) (by decide) (fun K hK => ?_)
        refine st_alloc #[.int .u8 0, .string ⟨#[]⟩, .slice none 0 0] rfl S8 (want0 rfl) 7 rfl rfl z33 ?_
        intro g7 w7 S7
        refine hK.out _ _ ⟨((own_cell (g := g5) S7 (by repeat (first | exact Spot.here _ _ | apply Spot.there)) 0).trans rfl), ((own_cell (g := g5) S7 (by repeat (first | exact Spot.here _ _ | apply Spot.there)) 1).trans rfl), ((own_cell (g := g5) S7 (by repeat (first | exact Spot.here _ _ | apply Spot.there)) 2).trans rfl), ((own_cell (g := g5) S7 (by repeat (first | exact Spot.here _ _ | apply Spot.there)) 3).trans rfl), ((own_cell (g := g5) S7 (by repeat (first | exact Spot.here _ _ | apply Spot.there)) 4).trans rfl), ((own_cell (g := g5) S7 (by repeat (first | exact Spot.here _ _ | apply Spot.there)) 5).trans rfl)⟩ (fun hHeld => ?_)
        clear hK K
        refine norm_ (a' := ?_) ?_ ?_
        rotate_left
        · show Act.put _ (some 7) _ = _
          simp only [Act.put, List.setIfInBounds_toArray, List.set_cons_zero, List.set_cons_succ, i64_w, i32_w]
          rfl
        exact norm_ (by simp only [putAll, Act.put, List.setIfInBounds_toArray, List.set_cons_zero, List.set_cons_succ]) (hCont (g7, g8) _ ⟨S7.out.swap (List.Perm.swap _ _ _)⟩)
    rintro ⟨g7, g8⟩ w8 S8
    simp only at S8
    have hHeld : w8.cell? ⟨g5, 0, none⟩ = some (.int .u8 k1) ∧ w8.cell? ⟨g5, 1, none⟩ = some (.string n1) ∧ w8.cell? ⟨g5, 2, none⟩ = some (.slice Ao o1.length co) ∧ w8.cell? ⟨g5, 3, none⟩ = some (.int .u8 k2) ∧ w8.cell? ⟨g5, 4, none⟩ = some (.string n2) ∧ w8.cell? ⟨g5, 5, none⟩ = some (.slice Bo o2.length cb) := ⟨((own_cell (g := g5) S8 (by repeat (first | exact Spot.here _ _ | apply Spot.there)) 0).trans rfl), ((own_cell (g := g5) S8 (by repeat (first | exact Spot.here _ _ | apply Spot.there)) 1).trans rfl), ((own_cell (g := g5) S8 (by repeat (first | exact Spot.here _ _ | apply Spot.there)) 2).trans rfl), ((own_cell (g := g5) S8 (by repeat (first | exact Spot.here _ _ | apply Spot.there)) 3).trans rfl), ((own_cell (g := g5) S8 (by repeat (first | exact Spot.here _ _ | apply Spot.there)) 4).trans rfl), ((own_cell (g := g5) S8 (by repeat (first | exact Spot.here _ _ | apply Spot.there)) 5).trans rfl)⟩
    refine norm_ (a' := ?_) ?_ ?_
    rotate_left
    · simp only [putAll, Act.put, List.setIfInBounds_toArray, List.set_cons_zero, List.set_cons_succ]
      rfl
    refine one_ (i := 6) (N := none) #[true, true, true, true, true, true, true, false] rfl rfl (by kernel_rfl) (by decide) (fun K hK => ?_)
    refine st_puts S8 (want0 rfl) rfl rfl s33 rfl rfl (by repeat (first | exact Spot.here _ _ | apply Spot.there)) rfl (by rfl) (by rfl) ?_
    intro w9 S9
    simp only [putAt, List.set_cons_zero, List.set_cons_succ] at S9
    refine hK.out _ _ ⟨((own_cell (g := g5) S9 (by repeat (first | exact Spot.here _ _ | apply Spot.there)) 0).trans rfl), ((own_cell (g := g5) S9 (by repeat (first | exact Spot.here _ _ | apply Spot.there)) 1).trans rfl), ((own_cell (g := g5) S9 (by repeat (first | exact Spot.here _ _ | apply Spot.there)) 2).trans rfl), ((own_cell (g := g5) S9 (by repeat (first | exact Spot.here _ _ | apply Spot.there)) 3).trans rfl), ((own_cell (g := g5) S9 (by repeat (first | exact Spot.here _ _ | apply Spot.there)) 4).trans rfl), ((own_cell (g := g5) S9 (by repeat (first | exact Spot.here _ _ | apply Spot.there)) 5).trans rfl)⟩ (fun hHeld => ?_)
    clear hK K
    refine one_ (i := 7) (N := none) #[true, true, true, true, true, true, true, true] rfl rfl (by kernel_rfl) (by decide) (fun K hK => ?_)
    refine st_puts S9 (want0 rfl) rfl rfl s33 rfl rfl (by repeat (first | exact Spot.here _ _ | apply Spot.there)) rfl (by rfl) (by rfl) ?_
    intro w10 S10
    simp only [putAt, List.set_cons_zero, List.set_cons_succ] at S10
    refine hK.out _ _ ⟨((own_cell (g := g5) S10 (by repeat (first | exact Spot.here _ _ | apply Spot.there)) 0).trans rfl), ((own_cell (g := g5) S10 (by repeat (first | exact Spot.here _ _ | apply Spot.there)) 1).trans rfl), ((own_cell (g := g5) S10 (by repeat (first | exact Spot.here _ _ | apply Spot.there)) 2).trans rfl), ((own_cell (g := g5) S10 (by repeat (first | exact Spot.here _ _ | apply Spot.there)) 3).trans rfl), ((own_cell (g := g5) S10 (by repeat (first | exact Spot.here _ _ | apply Spot.there)) 4).trans rfl), ((own_cell (g := g5) S10 (by repeat (first | exact Spot.here _ _ | apply Spot.there)) 5).trans rfl)⟩ (fun hHeld => ?_)
    clear hK K
    refine done_ (by kernel_rfl) ?_

    clear S2 S8 S9
    have S := S10
    clear S10
    go_wp2_with (first | ((with_reducible refine gate_dst (N := 5) rfl ?_); refine ev_boxs S ?_ 5 rfl rfl rfl ?_; (first | exact want0 rfl | exact want1 rfl rfl rfl rfl); intro g5 w5 S_; clear S; have S := S_; clear S_) | (refine ev_owns (vs := [_, _, _]) S ?_ rfl m33 rfl (by repeat (first | exact Spot.here _ _ | apply Spot.there)) (by exact rfl) ?_; (first | exact want0 rfl | exact want1 rfl rfl rfl rfl)) | ((with_reducible refine gate_dst (N := 7) rfl ?_); refine ev_alloc #[.int .u8 0, .string ⟨#[]⟩, .slice none 0 0] rfl S ?_ 7 rfl rfl z33 ?_; (first | exact want0 rfl | exact want1 rfl rfl rfl rfl); intro g7 w7 S_; clear S; have S := S_; clear S_) | ((with_reducible refine gate_dst (N := 8) rfl ?_); refine ev_alloc #[.int .u8 0, .string ⟨#[]⟩, .slice none 0 0] rfl S ?_ 8 rfl rfl z33 ?_; (first | exact want0 rfl | exact want1 rfl rfl rfl rfl); intro g8 w8 S_; clear S; have S := S_; clear S_) | (refine ev_puts S ?_ rfl rfl s33 rfl rfl (by repeat (first | exact Spot.here _ _ | apply Spot.there)) rfl ?_ ?_ ?_; (first | exact want0 rfl | exact want1 rfl rfl rfl rfl); rfl; rfl; intro w_ S_; simp only [putAt, List.set_cons_zero, List.set_cons_succ] at S_; clear S; have S := S_; clear S_) | ((with_reducible refine gate_dst (N := 10) rfl ?_); refine ev_alloc #[.slice none 0 0, .int .i64 0] rfl S ?_ 10 rfl rfl z28 ?_; (first | exact want0 rfl | exact want1 rfl rfl rfl rfl); intro g10 w10 S_; clear S; have S := S_; clear S_) | (refine ev_puts S ?_ rfl rfl s28 rfl rfl (by repeat (first | exact Spot.here _ _ | apply Spot.there)) rfl ?_ ?_ ?_; (first | exact want0 rfl | exact want1 rfl rfl rfl rfl); rfl; rfl; intro w_ S_; simp only [putAt, List.set_cons_zero, List.set_cons_succ] at S_; clear S; have S := S_; clear S_) | (refine ev_owns (vs := [_, _]) S ?_ rfl m28 rfl (by repeat (first | exact Spot.here _ _ | apply Spot.there)) (by exact rfl) ?_; (first | exact want0 rfl | exact want1 rfl rfl rfl rfl)) | (refine ev_owns (vs := [_, _, _, _]) S ?_ rfl m35 rfl (by repeat (first | exact Spot.here _ _ | apply Spot.there)) (by exact rfl) ?_; (first | exact want0 rfl | exact want1 rfl rfl rfl rfl)) | ((with_reducible refine gate_dst (N := 13) rfl ?_); refine ev_alloc #[.slice none 0 0, .int .i64 0] rfl S ?_ 13 rfl rfl z28 ?_; (first | exact want0 rfl | exact want1 rfl rfl rfl rfl); intro g13 w13 S_; clear S; have S := S_; clear S_) | ((with_reducible refine gate_dst (N := 19) rfl ?_); refine ev_alloc #[.int .i64 0, .int .u8 0, .string ⟨#[]⟩, .slice none 0 0] rfl S ?_ 19 rfl rfl z45 ?_; (first | exact want0 rfl | exact want1 rfl rfl rfl rfl); intro g19 w19 S_; clear S; have S := S_; clear S_) | (refine ev_puts S ?_ rfl rfl s45 rfl rfl (by repeat (first | exact Spot.here _ _ | apply Spot.there)) rfl ?_ ?_ ?_; (first | exact want0 rfl | exact want1 rfl rfl rfl rfl); rfl; rfl; intro w_ S_; simp only [putAt, List.set_cons_zero, List.set_cons_succ] at S_; clear S; have S := S_; clear S_) | ((with_reducible refine gate_dst (N := 21) rfl ?_); refine ev_alloc #[.int .i64 0, .int .u8 0, .string ⟨#[]⟩, .slice none 0 0] rfl S ?_ 21 rfl rfl z45 ?_; (first | exact want0 rfl | exact want1 rfl rfl rfl rfl); intro g21 w21 S_; clear S; have S := S_; clear S_) | (go_at_call 7; (with_reducible refine (awake_calls _).mono ?_); rintro z_ w_ ⟨rfl, hb_⟩; have S_ := Aside0.mk (S.out.keep hb_); clear hb_; clear S; have S := S_; clear S_) | (go_at_call 8; have c_ := new_ev S; (with_reducible refine c_.mono ?_); clear c_; rintro z_ w_ ⟨g, rfl, S_⟩; clear S; have S := S_; clear S_) | (go_at_call 11; (with_reducible refine (push_nil _ _ _ _ _ _).mono ?_); rintro z_ w_ ⟨rfl, hb_⟩; have S_ := Aside0.mk (S.out.keep hb_); clear hb_; clear S; have S := S_; clear S_) | (go_at_call 12; (with_reducible refine (pop_nil _).mono ?_); rintro z_ w_ ⟨rfl, hb_⟩; have S_ := Aside0.mk (S.out.keep hb_); clear hb_; clear S; have S := S_; clear S_) | (go_at_call 16; (with_reducible refine (peek_nil _).mono ?_); rintro z_ w_ ⟨rfl, hb_⟩; have S_ := Aside0.mk (S.out.keep hb_); clear hb_; clear S; have S := S_; clear S_) | (go_at_call 14; (with_reducible refine (len_nil _).mono ?_); rintro z_ w_ ⟨rfl, rfl⟩) | (go_at_call 13; (with_reducible refine (came_nil _).mono ?_); rintro z_ w_ ⟨rfl, rfl⟩) | (go_at_call 15; (with_reducible refine (fork_nil _).mono ?_); rintro z_ w_ ⟨rfl, rfl⟩))
    go_ret
    exact ⟨rfl, S.out.below⟩
  have hd2 : decide ((l2.length : Int) > 100) = false := decide_eq_false hlen2
  go_enter Try.func6, Try.ntmps6
  go_wp2_with (first | ((with_reducible refine gate_dst (N := 5) rfl ?_); refine ev_boxs S ?_ 5 rfl rfl rfl ?_; (first | exact want0 rfl | exact want1 rfl rfl rfl rfl); intro g5 w5 S_; clear S; have S := S_; clear S_) | (refine ev_owns (vs := [_, _, _]) S ?_ rfl m33 rfl (by repeat (first | exact Spot.here _ _ | apply Spot.there)) (by exact rfl) ?_; (first | exact want0 rfl | exact want1 rfl rfl rfl rfl)) | ((with_reducible refine gate_dst (N := 7) rfl ?_); refine ev_alloc #[.int .u8 0, .string ⟨#[]⟩, .slice none 0 0] rfl S ?_ 7 rfl rfl z33 ?_; (first | exact want0 rfl | exact want1 rfl rfl rfl rfl); intro g7 w7 S_; clear S; have S := S_; clear S_) | ((with_reducible refine gate_dst (N := 8) rfl ?_); refine ev_alloc #[.int .u8 0, .string ⟨#[]⟩, .slice none 0 0] rfl S ?_ 8 rfl rfl z33 ?_; (first | exact want0 rfl | exact want1 rfl rfl rfl rfl); intro g8 w8 S_; clear S; have S := S_; clear S_) | (refine ev_puts S ?_ rfl rfl s33 rfl rfl (by repeat (first | exact Spot.here _ _ | apply Spot.there)) rfl ?_ ?_ ?_; (first | exact want0 rfl | exact want1 rfl rfl rfl rfl); rfl; rfl; intro w_ S_; simp only [putAt, List.set_cons_zero, List.set_cons_succ] at S_; clear S; have S := S_; clear S_) | ((with_reducible refine gate_dst (N := 10) rfl ?_); refine ev_alloc #[.slice none 0 0, .int .i64 0] rfl S ?_ 10 rfl rfl z28 ?_; (first | exact want0 rfl | exact want1 rfl rfl rfl rfl); intro g10 w10 S_; clear S; have S := S_; clear S_) | (refine ev_puts S ?_ rfl rfl s28 rfl rfl (by repeat (first | exact Spot.here _ _ | apply Spot.there)) rfl ?_ ?_ ?_; (first | exact want0 rfl | exact want1 rfl rfl rfl rfl); rfl; rfl; intro w_ S_; simp only [putAt, List.set_cons_zero, List.set_cons_succ] at S_; clear S; have S := S_; clear S_) | (refine ev_owns (vs := [_, _]) S ?_ rfl m28 rfl (by repeat (first | exact Spot.here _ _ | apply Spot.there)) (by exact rfl) ?_; (first | exact want0 rfl | exact want1 rfl rfl rfl rfl)) | (refine ev_owns (vs := [_, _, _, _]) S ?_ rfl m35 rfl (by repeat (first | exact Spot.here _ _ | apply Spot.there)) (by exact rfl) ?_; (first | exact want0 rfl | exact want1 rfl rfl rfl rfl)) | ((with_reducible refine gate_dst (N := 13) rfl ?_); refine ev_alloc #[.slice none 0 0, .int .i64 0] rfl S ?_ 13 rfl rfl z28 ?_; (first | exact want0 rfl | exact want1 rfl rfl rfl rfl); intro g13 w13 S_; clear S; have S := S_; clear S_) | ((with_reducible refine gate_dst (N := 19) rfl ?_); refine ev_alloc #[.int .i64 0, .int .u8 0, .string ⟨#[]⟩, .slice none 0 0] rfl S ?_ 19 rfl rfl z45 ?_; (first | exact want0 rfl | exact want1 rfl rfl rfl rfl); intro g19 w19 S_; clear S; have S := S_; clear S_) | (refine ev_puts S ?_ rfl rfl s45 rfl rfl (by repeat (first | exact Spot.here _ _ | apply Spot.there)) rfl ?_ ?_ ?_; (first | exact want0 rfl | exact want1 rfl rfl rfl rfl); rfl; rfl; intro w_ S_; simp only [putAt, List.set_cons_zero, List.set_cons_succ] at S_; clear S; have S := S_; clear S_) | ((with_reducible refine gate_dst (N := 21) rfl ?_); refine ev_alloc #[.int .i64 0, .int .u8 0, .string ⟨#[]⟩, .slice none 0 0] rfl S ?_ 21 rfl rfl z45 ?_; (first | exact want0 rfl | exact want1 rfl rfl rfl rfl); intro g21 w21 S_; clear S; have S := S_; clear S_) | (go_at_call 7; (with_reducible refine (awake_calls _).mono ?_); rintro z_ w_ ⟨rfl, hb_⟩; have S_ := Aside0.mk (S.out.keep hb_); clear hb_; clear S; have S := S_; clear S_) | (go_at_call 8; have c_ := new_ev S; (with_reducible refine c_.mono ?_); clear c_; rintro z_ w_ ⟨g, rfl, S_⟩; clear S; have S := S_; clear S_) | (go_at_call 11; (with_reducible refine (push_nil _ _ _ _ _ _).mono ?_); rintro z_ w_ ⟨rfl, hb_⟩; have S_ := Aside0.mk (S.out.keep hb_); clear hb_; clear S; have S := S_; clear S_) | (go_at_call 12; (with_reducible refine (pop_nil _).mono ?_); rintro z_ w_ ⟨rfl, hb_⟩; have S_ := Aside0.mk (S.out.keep hb_); clear hb_; clear S; have S := S_; clear S_) | (go_at_call 16; (with_reducible refine (peek_nil _).mono ?_); rintro z_ w_ ⟨rfl, hb_⟩; have S_ := Aside0.mk (S.out.keep hb_); clear hb_; clear S; have S := S_; clear S_) | (go_at_call 14; (with_reducible refine (len_nil _).mono ?_); rintro z_ w_ ⟨rfl, rfl⟩) | (go_at_call 13; (with_reducible refine (came_nil _).mono ?_); rintro z_ w_ ⟨rfl, rfl⟩) | (go_at_call 15; (with_reducible refine (fork_nil _).mono ?_); rintro z_ w_ ⟨rfl, rfl⟩))
  have S2 := Aside0.mk S.out.drew
  clear S
  refine start_ (n := 8) (S := fun w' => w'.cell? ⟨g5, 0, none⟩ = some (.int .u8 k1) ∧ w'.cell? ⟨g5, 1, none⟩ = some (.string n1) ∧ w'.cell? ⟨g5, 2, none⟩ = some (.slice Ao o1.length co) ∧ w'.cell? ⟨g5, 3, none⟩ = some (.int .u8 k2) ∧ w'.cell? ⟨g5, 4, none⟩ = some (.string n2) ∧ w'.cell? ⟨g5, 5, none⟩ = some (.slice Bo o2.length cb)) (ds := []) #[false, false, false, false, false, false, false, false] (by kernel_rfl) rfl rfl ⟨((own_cell (g := g5) S2 (by repeat (first | exact Spot.here _ _ | apply Spot.there)) 0).trans rfl), ((own_cell (g := g5) S2 (by repeat (first | exact Spot.here _ _ | apply Spot.there)) 1).trans rfl), ((own_cell (g := g5) S2 (by repeat (first | exact Spot.here _ _ | apply Spot.there)) 2).trans rfl), ((own_cell (g := g5) S2 (by repeat (first | exact Spot.here _ _ | apply Spot.there)) 3).trans rfl), ((own_cell (g := g5) S2 (by repeat (first | exact Spot.here _ _ | apply Spot.there)) 4).trans rfl), ((own_cell (g := g5) S2 (by repeat (first | exact Spot.here _ _ | apply Spot.there)) 5).trans rfl)⟩ (fun hHeld => ?_)
  refine pure_ (i := 0) (N := some 24) (v := ?_) (a' := ?_) #[true, false, false, false, false, false, false, false] rfl rfl (by kernel_rfl) (fun _ _ _ h => h) (Or.inl ⟨by rfl, ?_⟩) ?_ ?_
  rotate_left
  · intro w'
    go_simp
    with_reducible rfl
  rotate_left
  · simp only [Act.put, List.setIfInBounds_toArray, List.set_cons_zero, List.set_cons_succ, i64_w, i32_w]
    rfl
  refine pure_ (i := 2) (N := some 26) (v := ?_) (a' := ?_) #[true, false, true, false, false, false, false, false] rfl rfl (by kernel_rfl) (fun _ _ _ h => h) (Or.inl ⟨by rfl, ?_⟩) ?_ ?_
  rotate_left
  · intro w'
    go_simp
    with_reducible rfl
  rotate_left
  · simp only [Act.put, List.setIfInBounds_toArray, List.set_cons_zero, List.set_cons_succ, i64_w, i32_w]
    rfl
  refine take_ (i := 1) (N := some 25) (v := ?_) (a' := ?_) #[true, true, true, false, false, false, false, false] rfl rfl (by kernel_rfl) (fun _ _ _ h => h) (Or.inl ⟨by rfl, ?_⟩) hHeld ?_ ?_
  rotate_left
  · rintro w' ⟨s0, s1, s2, s3, s4, s5⟩
    go_simp
    with_reducible rfl
  rotate_left
  · simp only [Act.put, List.setIfInBounds_toArray, List.set_cons_zero, List.set_cons_succ, i64_w, i32_w]
    rfl
  refine take_ (i := 3) (N := some 27) (v := ?_) (a' := ?_) #[true, true, true, true, false, false, false, false] rfl rfl (by kernel_rfl) (fun _ _ _ h => h) (Or.inl ⟨by rfl, ?_⟩) hHeld ?_ ?_
  rotate_left
  · rintro w' ⟨s0, s1, s2, s3, s4, s5⟩
    go_simp
    with_reducible rfl
  rotate_left
  · simp only [Act.put, List.setIfInBounds_toArray, List.set_cons_zero, List.set_cons_succ, i64_w, i32_w]
    rfl
  refine join_ (σ := Nat × Nat) 2 #[true, true, true, true, true, true, false, false] (fun s => [(7, .pointer (some ⟨s.1, 0, none⟩)), (8, .pointer (some ⟨s.2, 0, none⟩))]) (fun s w' => Aside0 (St w.heap.size w w' [Bk s.2 #[.int .u8 0, .string ⟨#[]⟩, .slice none 0 0] 33, Bk s.1 #[.int .u8 0, .string ⟨#[]⟩, .slice none 0 0] 33, Bk g5 #[.int .u8 k1, .string n1, .slice Ao o1.length co, .int .u8 k2, .string n2, .slice Bo o2.length cb] 51])) ?_ ?_
  rotate_left
  · intro hCont
    refine two_ (i := 4) (j := 5) (Ni := some 7) (Nj := some 8) #[true, true, true, true, true, false, false, false] #[true, true, true, true, false, true, false, false] rfl rfl rfl rfl (by kernel_rfl) (by decide) (by decide) (fun K hK => ?_) (fun K hK => ?_)
    · skip
      refine st_alloc #[.int .u8 0, .string ⟨#[]⟩, .slice none 0 0] rfl S2 (want0 rfl) 7 rfl rfl z33 ?_
      intro g7 w7 S7
      refine hK.out _ _ ⟨((own_cell (g := g5) S7 (by repeat (first | exact Spot.here _ _ | apply Spot.there)) 0).trans rfl), ((own_cell (g := g5) S7 (by repeat (first | exact Spot.here _ _ | apply Spot.there)) 1).trans rfl), ((own_cell (g := g5) S7 (by repeat (first | exact Spot.here _ _ | apply Spot.there)) 2).trans rfl), ((own_cell (g := g5) S7 (by repeat (first | exact Spot.here _ _ | apply Spot.there)) 3).trans rfl), ((own_cell (g := g5) S7 (by repeat (first | exact Spot.here _ _ | apply Spot.there)) 4).trans rfl), ((own_cell (g := g5) S7 (by repeat (first | exact Spot.here _ _ | apply Spot.there)) 5).trans rfl)⟩ (fun hHeld => ?_)
      clear hK K
      refine norm_ (a' := ?_) ?_ ?_
      rotate_left
      · show Act.put _ (some 7) _ = _
        simp only [Act.put, List.setIfInBounds_toArray, List.set_cons_zero, List.set_cons_succ, i64_w, i32_w]
        rfl
      refine one_ (i := 5) (N := some 8) #[true, true, true, true, true, true, false, false] rfl rfl (by kernel_rfl) (by decide) (fun K hK => ?_)
      refine st_alloc #[.int .u8 0, .string ⟨#[]⟩, .slice none 0 0] rfl S7 (want0 rfl) 8 rfl rfl z33 ?_
      intro g8 w8 S8
      refine hK.out _ _ ⟨((own_cell (g := g5) S8 (by repeat (first | exact Spot.here _ _ | apply Spot.there)) 0).trans rfl), ((own_cell (g := g5) S8 (by repeat (first | exact Spot.here _ _ | apply Spot.there)) 1).trans rfl), ((own_cell (g := g5) S8 (by repeat (first | exact Spot.here _ _ | apply Spot.there)) 2).trans rfl), ((own_cell (g := g5) S8 (by repeat (first | exact Spot.here _ _ | apply Spot.there)) 3).trans rfl), ((own_cell (g := g5) S8 (by repeat (first | exact Spot.here _ _ | apply Spot.there)) 4).trans rfl), ((own_cell (g := g5) S8 (by repeat (first | exact Spot.here _ _ | apply Spot.there)) 5).trans rfl)⟩ (fun hHeld => ?_)
      clear hK K
      refine norm_ (a' := ?_) ?_ ?_
      rotate_left
      · show Act.put _ (some 8) _ = _
        simp only [Act.put, List.setIfInBounds_toArray, List.set_cons_zero, List.set_cons_succ, i64_w, i32_w]
        rfl
      exact norm_ (by simp only [putAll, Act.put, List.setIfInBounds_toArray, List.set_cons_zero, List.set_cons_succ]) (hCont (g7, g8) _ S8)
    · skip
      refine st_alloc #[.int .u8 0, .string ⟨#[]⟩, .slice none 0 0] rfl S2 (want0 rfl) 8 rfl rfl z33 ?_
      intro g8 w8 S8
      refine hK.out _ _ ⟨((own_cell (g := g5) S8 (by repeat (first | exact Spot.here _ _ | apply Spot.there)) 0).trans rfl), ((own_cell (g := g5) S8 (by repeat (first | exact Spot.here _ _ | apply Spot.there)) 1).trans rfl), ((own_cell (g := g5) S8 (by repeat (first | exact Spot.here _ _ | apply Spot.there)) 2).trans rfl), ((own_cell (g := g5) S8 (by repeat (first | exact Spot.here _ _ | apply Spot.there)) 3).trans rfl), ((own_cell (g := g5) S8 (by repeat (first | exact Spot.here _ _ | apply Spot.there)) 4).trans rfl), ((own_cell (g := g5) S8 (by repeat (first | exact Spot.here _ _ | apply Spot.there)) 5).trans rfl)⟩ (fun hHeld => ?_)
      clear hK K
      refine norm_ (a' := ?_) ?_ ?_
      rotate_left
      · show Act.put _ (some 8) _ = _
        simp only [Act.put, List.setIfInBounds_toArray, List.set_cons_zero, List.set_cons_succ, i64_w, i32_w]
        rfl
      refine one_ (i := 4) (N := some 7) #[true, true, true, true, true, true, false, false] rfl rfl (by kernel_rfl) (by decide) (fun K hK => ?_)
      refine st_alloc #[.int .u8 0, .string ⟨#[]⟩, .slice none 0 0] rfl S8 (want0 rfl) 7 rfl rfl z33 ?_
      intro g7 w7 S7
      refine hK.out _ _ ⟨((own_cell (g := g5) S7 (by repeat (first | exact Spot.here _ _ | apply Spot.there)) 0).trans rfl), ((own_cell (g := g5) S7 (by repeat (first | exact Spot.here _ _ | apply Spot.there)) 1).trans rfl), ((own_cell (g := g5) S7 (by repeat (first | exact Spot.here _ _ | apply Spot.there)) 2).trans rfl), ((own_cell (g := g5) S7 (by repeat (first | exact Spot.here _ _ | apply Spot.there)) 3).trans rfl), ((own_cell (g := g5) S7 (by repeat (first | exact Spot.here _ _ | apply Spot.there)) 4).trans rfl), ((own_cell (g := g5) S7 (by repeat (first | exact Spot.here _ _ | apply Spot.there)) 5).trans rfl)⟩ (fun hHeld => ?_)
      clear hK K
      refine norm_ (a' := ?_) ?_ ?_
      rotate_left
      · show Act.put _ (some 7) _ = _
        simp only [Act.put, List.setIfInBounds_toArray, List.set_cons_zero, List.set_cons_succ, i64_w, i32_w]
        rfl
      exact norm_ (by simp only [putAll, Act.put, List.setIfInBounds_toArray, List.set_cons_zero, List.set_cons_succ]) (hCont (g7, g8) _ ⟨S7.out.swap (List.Perm.swap _ _ _)⟩)
  rintro ⟨g7, g8⟩ w8 S8
  simp only at S8
  have hHeld : w8.cell? ⟨g5, 0, none⟩ = some (.int .u8 k1) ∧ w8.cell? ⟨g5, 1, none⟩ = some (.string n1) ∧ w8.cell? ⟨g5, 2, none⟩ = some (.slice Ao o1.length co) ∧ w8.cell? ⟨g5, 3, none⟩ = some (.int .u8 k2) ∧ w8.cell? ⟨g5, 4, none⟩ = some (.string n2) ∧ w8.cell? ⟨g5, 5, none⟩ = some (.slice Bo o2.length cb) := ⟨((own_cell (g := g5) S8 (by repeat (first | exact Spot.here _ _ | apply Spot.there)) 0).trans rfl), ((own_cell (g := g5) S8 (by repeat (first | exact Spot.here _ _ | apply Spot.there)) 1).trans rfl), ((own_cell (g := g5) S8 (by repeat (first | exact Spot.here _ _ | apply Spot.there)) 2).trans rfl), ((own_cell (g := g5) S8 (by repeat (first | exact Spot.here _ _ | apply Spot.there)) 3).trans rfl), ((own_cell (g := g5) S8 (by repeat (first | exact Spot.here _ _ | apply Spot.there)) 4).trans rfl), ((own_cell (g := g5) S8 (by repeat (first | exact Spot.here _ _ | apply Spot.there)) 5).trans rfl)⟩
  refine norm_ (a' := ?_) ?_ ?_
  rotate_left
  · simp only [putAll, Act.put, List.setIfInBounds_toArray, List.set_cons_zero, List.set_cons_succ]
    rfl
  refine one_ (i := 6) (N := none) #[true, true, true, true, true, true, true, false] rfl rfl (by kernel_rfl) (by decide) (fun K hK => ?_)
  refine st_puts S8 (want0 rfl) rfl rfl s33 rfl rfl (by repeat (first | exact Spot.here _ _ | apply Spot.there)) rfl (by rfl) (by rfl) ?_
  intro w9 S9
  simp only [putAt, List.set_cons_zero, List.set_cons_succ] at S9
  refine hK.out _ _ ⟨((own_cell (g := g5) S9 (by repeat (first | exact Spot.here _ _ | apply Spot.there)) 0).trans rfl), ((own_cell (g := g5) S9 (by repeat (first | exact Spot.here _ _ | apply Spot.there)) 1).trans rfl), ((own_cell (g := g5) S9 (by repeat (first | exact Spot.here _ _ | apply Spot.there)) 2).trans rfl), ((own_cell (g := g5) S9 (by repeat (first | exact Spot.here _ _ | apply Spot.there)) 3).trans rfl), ((own_cell (g := g5) S9 (by repeat (first | exact Spot.here _ _ | apply Spot.there)) 4).trans rfl), ((own_cell (g := g5) S9 (by repeat (first | exact Spot.here _ _ | apply Spot.there)) 5).trans rfl)⟩ (fun hHeld => ?_)
  clear hK K
  refine one_ (i := 7) (N := none) #[true, true, true, true, true, true, true, true] rfl rfl (by kernel_rfl) (by decide) (fun K hK => ?_)
  refine st_puts S9 (want0 rfl) rfl rfl s33 rfl rfl (by repeat (first | exact Spot.here _ _ | apply Spot.there)) rfl (by rfl) (by rfl) ?_
  intro w10 S10
  simp only [putAt, List.set_cons_zero, List.set_cons_succ] at S10
  refine hK.out _ _ ⟨((own_cell (g := g5) S10 (by repeat (first | exact Spot.here _ _ | apply Spot.there)) 0).trans rfl), ((own_cell (g := g5) S10 (by repeat (first | exact Spot.here _ _ | apply Spot.there)) 1).trans rfl), ((own_cell (g := g5) S10 (by repeat (first | exact Spot.here _ _ | apply Spot.there)) 2).trans rfl), ((own_cell (g := g5) S10 (by repeat (first | exact Spot.here _ _ | apply Spot.there)) 3).trans rfl), ((own_cell (g := g5) S10 (by repeat (first | exact Spot.here _ _ | apply Spot.there)) 4).trans rfl), ((own_cell (g := g5) S10 (by repeat (first | exact Spot.here _ _ | apply Spot.there)) 5).trans rfl)⟩ (fun hHeld => ?_)
  clear hK K
  refine done_ (by kernel_rfl) ?_

  clear S2 S8 S9
  have S := S10
  clear S10
  go_wp2_with (first | ((with_reducible refine gate_dst (N := 5) rfl ?_); refine ev_boxs S ?_ 5 rfl rfl rfl ?_; (first | exact want0 rfl | exact want1 rfl rfl rfl rfl); intro g5 w5 S_; clear S; have S := S_; clear S_) | (refine ev_owns (vs := [_, _, _]) S ?_ rfl m33 rfl (by repeat (first | exact Spot.here _ _ | apply Spot.there)) (by exact rfl) ?_; (first | exact want0 rfl | exact want1 rfl rfl rfl rfl)) | ((with_reducible refine gate_dst (N := 7) rfl ?_); refine ev_alloc #[.int .u8 0, .string ⟨#[]⟩, .slice none 0 0] rfl S ?_ 7 rfl rfl z33 ?_; (first | exact want0 rfl | exact want1 rfl rfl rfl rfl); intro g7 w7 S_; clear S; have S := S_; clear S_) | ((with_reducible refine gate_dst (N := 8) rfl ?_); refine ev_alloc #[.int .u8 0, .string ⟨#[]⟩, .slice none 0 0] rfl S ?_ 8 rfl rfl z33 ?_; (first | exact want0 rfl | exact want1 rfl rfl rfl rfl); intro g8 w8 S_; clear S; have S := S_; clear S_) | (refine ev_puts S ?_ rfl rfl s33 rfl rfl (by repeat (first | exact Spot.here _ _ | apply Spot.there)) rfl ?_ ?_ ?_; (first | exact want0 rfl | exact want1 rfl rfl rfl rfl); rfl; rfl; intro w_ S_; simp only [putAt, List.set_cons_zero, List.set_cons_succ] at S_; clear S; have S := S_; clear S_) | ((with_reducible refine gate_dst (N := 10) rfl ?_); refine ev_alloc #[.slice none 0 0, .int .i64 0] rfl S ?_ 10 rfl rfl z28 ?_; (first | exact want0 rfl | exact want1 rfl rfl rfl rfl); intro g10 w10 S_; clear S; have S := S_; clear S_) | (refine ev_puts S ?_ rfl rfl s28 rfl rfl (by repeat (first | exact Spot.here _ _ | apply Spot.there)) rfl ?_ ?_ ?_; (first | exact want0 rfl | exact want1 rfl rfl rfl rfl); rfl; rfl; intro w_ S_; simp only [putAt, List.set_cons_zero, List.set_cons_succ] at S_; clear S; have S := S_; clear S_) | (refine ev_owns (vs := [_, _]) S ?_ rfl m28 rfl (by repeat (first | exact Spot.here _ _ | apply Spot.there)) (by exact rfl) ?_; (first | exact want0 rfl | exact want1 rfl rfl rfl rfl)) | (refine ev_owns (vs := [_, _, _, _]) S ?_ rfl m35 rfl (by repeat (first | exact Spot.here _ _ | apply Spot.there)) (by exact rfl) ?_; (first | exact want0 rfl | exact want1 rfl rfl rfl rfl)) | ((with_reducible refine gate_dst (N := 13) rfl ?_); refine ev_alloc #[.slice none 0 0, .int .i64 0] rfl S ?_ 13 rfl rfl z28 ?_; (first | exact want0 rfl | exact want1 rfl rfl rfl rfl); intro g13 w13 S_; clear S; have S := S_; clear S_) | ((with_reducible refine gate_dst (N := 19) rfl ?_); refine ev_alloc #[.int .i64 0, .int .u8 0, .string ⟨#[]⟩, .slice none 0 0] rfl S ?_ 19 rfl rfl z45 ?_; (first | exact want0 rfl | exact want1 rfl rfl rfl rfl); intro g19 w19 S_; clear S; have S := S_; clear S_) | (refine ev_puts S ?_ rfl rfl s45 rfl rfl (by repeat (first | exact Spot.here _ _ | apply Spot.there)) rfl ?_ ?_ ?_; (first | exact want0 rfl | exact want1 rfl rfl rfl rfl); rfl; rfl; intro w_ S_; simp only [putAt, List.set_cons_zero, List.set_cons_succ] at S_; clear S; have S := S_; clear S_) | ((with_reducible refine gate_dst (N := 21) rfl ?_); refine ev_alloc #[.int .i64 0, .int .u8 0, .string ⟨#[]⟩, .slice none 0 0] rfl S ?_ 21 rfl rfl z45 ?_; (first | exact want0 rfl | exact want1 rfl rfl rfl rfl); intro g21 w21 S_; clear S; have S := S_; clear S_) | (go_at_call 7; (with_reducible refine (awake_calls _).mono ?_); rintro z_ w_ ⟨rfl, hb_⟩; have S_ := Aside0.mk (S.out.keep hb_); clear hb_; clear S; have S := S_; clear S_) | (go_at_call 8; have c_ := new_ev S; (with_reducible refine c_.mono ?_); clear c_; rintro z_ w_ ⟨g, rfl, S_⟩; clear S; have S := S_; clear S_) | (go_at_call 11; (with_reducible refine (push_nil _ _ _ _ _ _).mono ?_); rintro z_ w_ ⟨rfl, hb_⟩; have S_ := Aside0.mk (S.out.keep hb_); clear hb_; clear S; have S := S_; clear S_) | (go_at_call 12; (with_reducible refine (pop_nil _).mono ?_); rintro z_ w_ ⟨rfl, hb_⟩; have S_ := Aside0.mk (S.out.keep hb_); clear hb_; clear S; have S := S_; clear S_) | (go_at_call 16; (with_reducible refine (peek_nil _).mono ?_); rintro z_ w_ ⟨rfl, hb_⟩; have S_ := Aside0.mk (S.out.keep hb_); clear hb_; clear S; have S := S_; clear S_) | (go_at_call 14; (with_reducible refine (len_nil _).mono ?_); rintro z_ w_ ⟨rfl, rfl⟩) | (go_at_call 13; (with_reducible refine (came_nil _).mono ?_); rintro z_ w_ ⟨rfl, rfl⟩) | (go_at_call 15; (with_reducible refine (fork_nil _).mono ?_); rintro z_ w_ ⟨rfl, rfl⟩))
  go_loopw [11] (fun v11 wr => ∃ (i : Nat) (m : Int) (R : List PB.S57) (A1 : Option Addr) (n1_ c1 : Nat) (D : Nat → Prop), v11 = .int .i64 i ∧ i ≤ l.length ∧ 0 ≤ m ∧ m ≤ i ∧ R.length ≤ 8 ∧ Aside0 (St w.heap.size w wr [Bk g10 #[.slice A1 n1_ c1, .int .i64 m] 28, PairA g m (R.map it) (.slice A1 n1_ c1) R D, Bk g8 #[.int .u8 k2, .string n2, .slice Bo o2.length cb] 33, Bk g7 #[.int .u8 k1, .string n1, .slice Ao o1.length co] 33, Bk g5 #[.int .u8 k1, .string n1, .slice Ao o1.length co, .int .u8 k2, .string n2, .slice Bo o2.length cb] 51])) (fun v11 _ => l.length - (intOf v11).toNat)
  case atStart => exact ⟨0, 0, [], none, 0, 0, _, rfl, Nat.zero_le _, by omega, by omega, by simp, S⟩
  case round =>
    clear S
    obtain ⟨i, m, R, A1, n1_, c1, D, rfl, hi, hm0, hmi, h8, S⟩ := hrel
    by_cases hlt : i < l.length
    · have hd3 : decide ((i : Int) < (l.length : Int)) = true := decide_eq_true (by omega)
      have hil : (i : Int) < (l.length : Int) := by omega
      have hi0 : (0 : Int) ≤ (i : Int) := by omega
      obtain ⟨ad, cs, rfl, hK, hH⟩ := has_of HC.out K.z35 i hlt
      have hmem : l.getD i K.z35 ∈ l := by rw [List.getD_eq_getElem?_getD, List.getElem?_eq_getElem hlt]; exact List.getElem_mem hlt
      obtain ⟨hk0, hk1, hb3⟩ := HX.out _ hmem
      clear hmem
      generalize l.getD i K.z35 = x at *
      obtain ⟨A3, c3, rfl, hl3, hg3⟩ := K.k35_open hK
      have HH := Aside0.mk (show Has w (ad.add (i * 4)) _ from hH)
      have HG3 := Aside0.mk hg3
      have HL3 := Aside0.mk hl3
      have HB3 := Aside0.mk hb3
      clear hK hH hg3 hl3 hb3
      go_wp2_with (first | ((with_reducible refine gate_dst (N := 5) rfl ?_); refine ev_boxs S ?_ 5 rfl rfl rfl ?_; (first | exact want0 rfl | exact want1 rfl rfl rfl rfl); intro g5 w5 S_; clear S; have S := S_; clear S_) | (refine ev_owns (vs := [_, _, _]) S ?_ rfl m33 rfl (by repeat (first | exact Spot.here _ _ | apply Spot.there)) (by exact rfl) ?_; (first | exact want0 rfl | exact want1 rfl rfl rfl rfl)) | ((with_reducible refine gate_dst (N := 7) rfl ?_); refine ev_alloc #[.int .u8 0, .string ⟨#[]⟩, .slice none 0 0] rfl S ?_ 7 rfl rfl z33 ?_; (first | exact want0 rfl | exact want1 rfl rfl rfl rfl); intro g7 w7 S_; clear S; have S := S_; clear S_) | ((with_reducible refine gate_dst (N := 8) rfl ?_); refine ev_alloc #[.int .u8 0, .string ⟨#[]⟩, .slice none 0 0] rfl S ?_ 8 rfl rfl z33 ?_; (first | exact want0 rfl | exact want1 rfl rfl rfl rfl); intro g8 w8 S_; clear S; have S := S_; clear S_) | (refine ev_puts S ?_ rfl rfl s33 rfl rfl (by repeat (first | exact Spot.here _ _ | apply Spot.there)) rfl ?_ ?_ ?_; (first | exact want0 rfl | exact want1 rfl rfl rfl rfl); rfl; rfl; intro w_ S_; simp only [putAt, List.set_cons_zero, List.set_cons_succ] at S_; clear S; have S := S_; clear S_) | ((with_reducible refine gate_dst (N := 10) rfl ?_); refine ev_alloc #[.slice none 0 0, .int .i64 0] rfl S ?_ 10 rfl rfl z28 ?_; (first | exact want0 rfl | exact want1 rfl rfl rfl rfl); intro g10 w10 S_; clear S; have S := S_; clear S_) | (refine ev_puts S ?_ rfl rfl s28 rfl rfl (by repeat (first | exact Spot.here _ _ | apply Spot.there)) rfl ?_ ?_ ?_; (first | exact want0 rfl | exact want1 rfl rfl rfl rfl); rfl; rfl; intro w_ S_; simp only [putAt, List.set_cons_zero, List.set_cons_succ] at S_; clear S; have S := S_; clear S_) | (refine ev_owns (vs := [_, _]) S ?_ rfl m28 rfl (by repeat (first | exact Spot.here _ _ | apply Spot.there)) (by exact rfl) ?_; (first | exact want0 rfl | exact want1 rfl rfl rfl rfl)) | (refine ev_owns (vs := [_, _, _, _]) S ?_ rfl m35 rfl (by repeat (first | exact Spot.here _ _ | apply Spot.there)) (by exact rfl) ?_; (first | exact want0 rfl | exact want1 rfl rfl rfl rfl)) | ((with_reducible refine gate_dst (N := 13) rfl ?_); refine ev_alloc #[.slice none 0 0, .int .i64 0] rfl S ?_ 13 rfl rfl z28 ?_; (first | exact want0 rfl | exact want1 rfl rfl rfl rfl); intro g13 w13 S_; clear S; have S := S_; clear S_) | ((with_reducible refine gate_dst (N := 19) rfl ?_); refine ev_alloc #[.int .i64 0, .int .u8 0, .string ⟨#[]⟩, .slice none 0 0] rfl S ?_ 19 rfl rfl z45 ?_; (first | exact want0 rfl | exact want1 rfl rfl rfl rfl); intro g19 w19 S_; clear S; have S := S_; clear S_) | (refine ev_puts S ?_ rfl rfl s45 rfl rfl (by repeat (first | exact Spot.here _ _ | apply Spot.there)) rfl ?_ ?_ ?_; (first | exact want0 rfl | exact want1 rfl rfl rfl rfl); rfl; rfl; intro w_ S_; simp only [putAt, List.set_cons_zero, List.set_cons_succ] at S_; clear S; have S := S_; clear S_) | ((with_reducible refine gate_dst (N := 21) rfl ?_); refine ev_alloc #[.int .i64 0, .int .u8 0, .string ⟨#[]⟩, .slice none 0 0] rfl S ?_ 21 rfl rfl z45 ?_; (first | exact want0 rfl | exact want1 rfl rfl rfl rfl); intro g21 w21 S_; clear S; have S := S_; clear S_) | (go_at_call 7; (with_reducible refine (awake_calls _).mono ?_); rintro z_ w_ ⟨rfl, hb_⟩; have S_ := Aside0.mk (S.out.keep hb_); clear hb_; clear S; have S := S_; clear S_) | (go_at_call 8; have c_ := new_ev S; (with_reducible refine c_.mono ?_); clear c_; rintro z_ w_ ⟨g, rfl, S_⟩; clear S; have S := S_; clear S_) | (go_at_call 11; (with_reducible refine (push_nil _ _ _ _ _ _).mono ?_); rintro z_ w_ ⟨rfl, hb_⟩; have S_ := Aside0.mk (S.out.keep hb_); clear hb_; clear S; have S := S_; clear S_) | (go_at_call 12; (with_reducible refine (pop_nil _).mono ?_); rintro z_ w_ ⟨rfl, hb_⟩; have S_ := Aside0.mk (S.out.keep hb_); clear hb_; clear S; have S := S_; clear S_) | (go_at_call 16; (with_reducible refine (peek_nil _).mono ?_); rintro z_ w_ ⟨rfl, hb_⟩; have S_ := Aside0.mk (S.out.keep hb_); clear hb_; clear S; have S := S_; clear S_) | (go_at_call 14; (with_reducible refine (len_nil _).mono ?_); rintro z_ w_ ⟨rfl, rfl⟩) | (go_at_call 13; (with_reducible refine (came_nil _).mono ?_); rintro z_ w_ ⟨rfl, rfl⟩) | (go_at_call 15; (with_reducible refine (fork_nil _).mono ?_); rintro z_ w_ ⟨rfl, rfl⟩))
      have S2 := Aside0.mk S.out.drew
      clear S
      refine start_ (n := 11) (S := fun w' => w'.cell? ⟨g10, 0, none⟩ = some (.slice A1 n1_ c1) ∧ w'.cell? ⟨g10, 1, none⟩ = some (.int .i64 m)) (ds := [10]) #[false, false, false, false, false, false, false, false, false, false, false] (by kernel_rfl) rfl rfl ⟨((own_cell (g := g10) S2 (by repeat (first | exact Spot.here _ _ | apply Spot.there)) 0).trans rfl), ((own_cell (g := g10) S2 (by repeat (first | exact Spot.here _ _ | apply Spot.there)) 1).trans rfl)⟩ (fun hHeld => ?_)
      refine pure_ (i := 0) (N := some 46) (v := ?_) (a' := ?_) #[true, false, false, false, false, false, false, false, false, false, false] rfl rfl (by kernel_rfl) (fun _ _ _ h => h) (Or.inl ⟨by rfl, ?_⟩) ?_ ?_
      rotate_left
      · intro w'
        go_simp
        with_reducible rfl
      rotate_left
      · simp only [Act.put, List.setIfInBounds_toArray, List.set_cons_zero, List.set_cons_succ, i64_w, i32_w]
        rfl
      refine pure_ (i := 2) (N := some 48) (v := ?_) (a' := ?_) #[true, false, true, false, false, false, false, false, false, false, false] rfl rfl (by kernel_rfl) (fun _ _ _ h => h) (Or.inl ⟨by rfl, ?_⟩) ?_ ?_
      rotate_left
      · intro w'
        go_simp
        with_reducible rfl
      rotate_left
      · simp only [Act.put, List.setIfInBounds_toArray, List.set_cons_zero, List.set_cons_succ, i64_w, i32_w]
        rfl
      refine pure_ (i := 3) (N := some 49) (v := ?_) (a' := ?_) #[true, false, true, true, false, false, false, false, false, false, false] rfl rfl (by kernel_rfl) (fun _ _ _ h => h) (Or.inl ⟨by rfl, ?_⟩) ?_ ?_
      rotate_left
      · intro w'
        go_simp
        with_reducible rfl
      rotate_left
      · simp only [Act.put, List.setIfInBounds_toArray, List.set_cons_zero, List.set_cons_succ, i64_w, i32_w]
        rfl
      refine pure_ (i := 4) (N := some 50) (v := ?_) (a' := ?_) #[true, false, true, true, true, false, false, false, false, false, false] rfl rfl (by kernel_rfl) (fun _ _ _ h => h) (Or.inl ⟨by rfl, ?_⟩) ?_ ?_
      rotate_left
      · intro w'
        go_simp
        with_reducible rfl
      rotate_left
      · simp only [Act.put, List.setIfInBounds_toArray, List.set_cons_zero, List.set_cons_succ, i64_w, i32_w]
        rfl
      refine take_ (i := 1) (N := some 47) (v := ?_) (a' := ?_) #[true, true, true, true, true, false, false, false, false, false, false] rfl rfl (by kernel_rfl) (fun _ _ _ h => h) (Or.inl ⟨by rfl, ?_⟩) hHeld ?_ ?_
      rotate_left
      · rintro w' ⟨s0, s1⟩
        go_simp
        with_reducible rfl
      rotate_left
      · simp only [Act.put, List.setIfInBounds_toArray, List.set_cons_zero, List.set_cons_succ, i64_w, i32_w]
        rfl
      refine one_ (i := 5) (N := some 51) #[true, true, true, true, true, true, false, false, false, false, false] rfl rfl (by kernel_rfl) (by decide) (fun K hK => ?_)
      refine st_loads (N := some 51) (vs := [_, _, _, _]) (want0 rfl) rfl rfl m35 rfl (olds_ S2 HH.out) ?_
      refine hK.out _ _ ⟨((own_cell (g := g10) S2 (by repeat (first | exact Spot.here _ _ | apply Spot.there)) 0).trans rfl), ((own_cell (g := g10) S2 (by repeat (first | exact Spot.here _ _ | apply Spot.there)) 1).trans rfl)⟩ (fun hHeld => ?_)
      clear hK K
      refine norm_ (a' := ?_) ?_ ?_
      rotate_left
      · show Act.put _ (some 51) _ = _
        simp only [Act.put, List.setIfInBounds_toArray, List.set_cons_zero, List.set_cons_succ, i64_w, i32_w]
        rfl
      refine one_ (i := 6) (N := some 52) #[true, true, true, true, true, true, true, false, false, false, false] rfl rfl (by kernel_rfl) (by decide) (fun K hK => ?_)
      refine goes_ Try.func9 (by kernel_rfl) rfl #[.pointer (some ⟨g, 0, none⟩), .agg #[.slice A1 n1_ c1, .int .i64 m], .agg #[.int .u8 x.f0, .int .u8 x.f1.f0, .string x.f1.f1, .slice A3 x.f1.f2.length c3]] (by rfl) rfl rfl (by simp only [List.map_toArray, List.map_cons, List.map_nil]; rfl) ?_
      with_reducible refine (do_ev S2 (by repeat (first | exact Spot.here _ _ | apply Spot.there)) h8 hm0 (by omega) hk0 hk1 HG3.out HL3.out HB3.out).mono ?_
      rintro z9 w9 ⟨A9, n9, c9, m9, R9, D9, rfl, h1, h2, h3, S9⟩
      (try dsimp only at S9)
      refine ⟨_, rfl, ?_⟩
      refine hK.out _ _ ⟨((own_cell (g := g10) S9 (by repeat (first | exact Spot.here _ _ | apply Spot.there)) 0).trans rfl), ((own_cell (g := g10) S9 (by repeat (first | exact Spot.here _ _ | apply Spot.there)) 1).trans rfl)⟩ (fun hHeld => ?_)
      clear hK K
      refine norm_ (a' := ?_) ?_ ?_
      rotate_left
      · show Act.put _ (some 52) _ = _
        simp only [Act.put, List.setIfInBounds_toArray, List.set_cons_zero, List.set_cons_succ, i64_w, i32_w]
        rfl
      refine pure_ (i := 7) (N := some 45) (v := ?_) (a' := ?_) #[true, true, true, true, true, true, true, true, false, false, false] rfl rfl (by kernel_rfl) (fun _ _ _ h => h) (Or.inl ⟨by rfl, ?_⟩) ?_ ?_
      rotate_left
      · intro w'
        go_simp
        with_reducible rfl
      rotate_left
      · simp only [Act.put, List.setIfInBounds_toArray, List.set_cons_zero, List.set_cons_succ, i64_w, i32_w]
        rfl
      refine pure_ (i := 8) (N := some 53) (v := ?_) (a' := ?_) #[true, true, true, true, true, true, true, true, true, false, false] rfl rfl (by kernel_rfl) (fun _ _ _ h => h) (Or.inl ⟨by rfl, ?_⟩) ?_ ?_
      rotate_left
      · intro w'
        go_simp
        with_reducible rfl
      rotate_left
      · simp only [Act.put, List.setIfInBounds_toArray, List.set_cons_zero, List.set_cons_succ, i64_w, i32_w]
        rfl
      refine pure_ (i := 9) (N := some 54) (v := ?_) (a' := ?_) #[true, true, true, true, true, true, true, true, true, true, false] rfl rfl (by kernel_rfl) (fun _ _ _ h => h) (Or.inl ⟨by rfl, ?_⟩) ?_ ?_
      rotate_left
      · intro w'
        go_simp
        with_reducible rfl
      rotate_left
      · simp only [Act.put, List.setIfInBounds_toArray, List.set_cons_zero, List.set_cons_succ, i64_w, i32_w]
        rfl
      refine last_ (i := 10) (N := none) #[true, true, true, true, true, true, true, true, true, true, true] rfl rfl (by kernel_rfl) (by decide) (fun K hK => ?_)
      refine st_puts S9 (want0 rfl) rfl rfl s28 rfl rfl (by repeat (first | exact Spot.here _ _ | apply Spot.there)) rfl (by rfl) (by rfl) ?_
      intro w8 S8
      simp only [putAt, List.set_cons_zero, List.set_cons_succ] at S8
      refine hK.out _ _ ?_
      clear hK K
      refine done_ (by kernel_rfl) ?_

      clear S2 S9
      have S := S8
      clear S8
      go_wp2_with (first | ((with_reducible refine gate_dst (N := 5) rfl ?_); refine ev_boxs S ?_ 5 rfl rfl rfl ?_; (first | exact want0 rfl | exact want1 rfl rfl rfl rfl); intro g5 w5 S_; clear S; have S := S_; clear S_) | (refine ev_owns (vs := [_, _, _]) S ?_ rfl m33 rfl (by repeat (first | exact Spot.here _ _ | apply Spot.there)) (by exact rfl) ?_; (first | exact want0 rfl | exact want1 rfl rfl rfl rfl)) | ((with_reducible refine gate_dst (N := 7) rfl ?_); refine ev_alloc #[.int .u8 0, .string ⟨#[]⟩, .slice none 0 0] rfl S ?_ 7 rfl rfl z33 ?_; (first | exact want0 rfl | exact want1 rfl rfl rfl rfl); intro g7 w7 S_; clear S; have S := S_; clear S_) | ((with_reducible refine gate_dst (N := 8) rfl ?_); refine ev_alloc #[.int .u8 0, .string ⟨#[]⟩, .slice none 0 0] rfl S ?_ 8 rfl rfl z33 ?_; (first | exact want0 rfl | exact want1 rfl rfl rfl rfl); intro g8 w8 S_; clear S; have S := S_; clear S_) | (refine ev_puts S ?_ rfl rfl s33 rfl rfl (by repeat (first | exact Spot.here _ _ | apply Spot.there)) rfl ?_ ?_ ?_; (first | exact want0 rfl | exact want1 rfl rfl rfl rfl); rfl; rfl; intro w_ S_; simp only [putAt, List.set_cons_zero, List.set_cons_succ] at S_; clear S; have S := S_; clear S_) | ((with_reducible refine gate_dst (N := 10) rfl ?_); refine ev_alloc #[.slice none 0 0, .int .i64 0] rfl S ?_ 10 rfl rfl z28 ?_; (first | exact want0 rfl | exact want1 rfl rfl rfl rfl); intro g10 w10 S_; clear S; have S := S_; clear S_) | (refine ev_puts S ?_ rfl rfl s28 rfl rfl (by repeat (first | exact Spot.here _ _ | apply Spot.there)) rfl ?_ ?_ ?_; (first | exact want0 rfl | exact want1 rfl rfl rfl rfl); rfl; rfl; intro w_ S_; simp only [putAt, List.set_cons_zero, List.set_cons_succ] at S_; clear S; have S := S_; clear S_) | (refine ev_owns (vs := [_, _]) S ?_ rfl m28 rfl (by repeat (first | exact Spot.here _ _ | apply Spot.there)) (by exact rfl) ?_; (first | exact want0 rfl | exact want1 rfl rfl rfl rfl)) | (refine ev_owns (vs := [_, _, _, _]) S ?_ rfl m35 rfl (by repeat (first | exact Spot.here _ _ | apply Spot.there)) (by exact rfl) ?_; (first | exact want0 rfl | exact want1 rfl rfl rfl rfl)) | ((with_reducible refine gate_dst (N := 13) rfl ?_); refine ev_alloc #[.slice none 0 0, .int .i64 0] rfl S ?_ 13 rfl rfl z28 ?_; (first | exact want0 rfl | exact want1 rfl rfl rfl rfl); intro g13 w13 S_; clear S; have S := S_; clear S_) | ((with_reducible refine gate_dst (N := 19) rfl ?_); refine ev_alloc #[.int .i64 0, .int .u8 0, .string ⟨#[]⟩, .slice none 0 0] rfl S ?_ 19 rfl rfl z45 ?_; (first | exact want0 rfl | exact want1 rfl rfl rfl rfl); intro g19 w19 S_; clear S; have S := S_; clear S_) | (refine ev_puts S ?_ rfl rfl s45 rfl rfl (by repeat (first | exact Spot.here _ _ | apply Spot.there)) rfl ?_ ?_ ?_; (first | exact want0 rfl | exact want1 rfl rfl rfl rfl); rfl; rfl; intro w_ S_; simp only [putAt, List.set_cons_zero, List.set_cons_succ] at S_; clear S; have S := S_; clear S_) | ((with_reducible refine gate_dst (N := 21) rfl ?_); refine ev_alloc #[.int .i64 0, .int .u8 0, .string ⟨#[]⟩, .slice none 0 0] rfl S ?_ 21 rfl rfl z45 ?_; (first | exact want0 rfl | exact want1 rfl rfl rfl rfl); intro g21 w21 S_; clear S; have S := S_; clear S_) | (go_at_call 7; (with_reducible refine (awake_calls _).mono ?_); rintro z_ w_ ⟨rfl, hb_⟩; have S_ := Aside0.mk (S.out.keep hb_); clear hb_; clear S; have S := S_; clear S_) | (go_at_call 8; have c_ := new_ev S; (with_reducible refine c_.mono ?_); clear c_; rintro z_ w_ ⟨g, rfl, S_⟩; clear S; have S := S_; clear S_) | (go_at_call 11; (with_reducible refine (push_nil _ _ _ _ _ _).mono ?_); rintro z_ w_ ⟨rfl, hb_⟩; have S_ := Aside0.mk (S.out.keep hb_); clear hb_; clear S; have S := S_; clear S_) | (go_at_call 12; (with_reducible refine (pop_nil _).mono ?_); rintro z_ w_ ⟨rfl, hb_⟩; have S_ := Aside0.mk (S.out.keep hb_); clear hb_; clear S; have S := S_; clear S_) | (go_at_call 16; (with_reducible refine (peek_nil _).mono ?_); rintro z_ w_ ⟨rfl, hb_⟩; have S_ := Aside0.mk (S.out.keep hb_); clear hb_; clear S; have S := S_; clear S_) | (go_at_call 14; (with_reducible refine (len_nil _).mono ?_); rintro z_ w_ ⟨rfl, rfl⟩) | (go_at_call 13; (with_reducible refine (came_nil _).mono ?_); rintro z_ w_ ⟨rfl, rfl⟩) | (go_at_call 15; (with_reducible refine (fork_nil _).mono ?_); rintro z_ w_ ⟨rfl, rfl⟩))
      refine ⟨⟨i + 1, m9, R9, A9, n9, c9, D9, by simp, by omega, by omega, by omega, h3, S⟩, ?_⟩
      simp [intOf]; omega
    · obtain rfl : i = l.length := by omega
      have hd3 : decide ((l.length : Int) < (l.length : Int)) = false := decide_eq_false (by omega)
      have hmb : m < 200 := by omega
      obtain ⟨mq, rfl⟩ : ∃ x, x = m := ⟨_, rfl⟩
      obtain ⟨Rq, rfl⟩ : ∃ x, x = R := ⟨_, rfl⟩
      obtain ⟨Aq, rfl⟩ : ∃ x, x = A1 := ⟨_, rfl⟩
      obtain ⟨nq, rfl⟩ : ∃ x, x = n1_ := ⟨_, rfl⟩
      obtain ⟨cq, rfl⟩ : ∃ x, x = c1 := ⟨_, rfl⟩
      go_wp2_with (first | ((with_reducible refine gate_dst (N := 5) rfl ?_); refine ev_boxs S ?_ 5 rfl rfl rfl ?_; (first | exact want0 rfl | exact want1 rfl rfl rfl rfl); intro g5 w5 S_; clear S; have S := S_; clear S_) | (refine ev_owns (vs := [_, _, _]) S ?_ rfl m33 rfl (by repeat (first | exact Spot.here _ _ | apply Spot.there)) (by exact rfl) ?_; (first | exact want0 rfl | exact want1 rfl rfl rfl rfl)) | ((with_reducible refine gate_dst (N := 7) rfl ?_); refine ev_alloc #[.int .u8 0, .string ⟨#[]⟩, .slice none 0 0] rfl S ?_ 7 rfl rfl z33 ?_; (first | exact want0 rfl | exact want1 rfl rfl rfl rfl); intro g7 w7 S_; clear S; have S := S_; clear S_) | ((with_reducible refine gate_dst (N := 8) rfl ?_); refine ev_alloc #[.int .u8 0, .string ⟨#[]⟩, .slice none 0 0] rfl S ?_ 8 rfl rfl z33 ?_; (first | exact want0 rfl | exact want1 rfl rfl rfl rfl); intro g8 w8 S_; clear S; have S := S_; clear S_) | (refine ev_puts S ?_ rfl rfl s33 rfl rfl (by repeat (first | exact Spot.here _ _ | apply Spot.there)) rfl ?_ ?_ ?_; (first | exact want0 rfl | exact want1 rfl rfl rfl rfl); rfl; rfl; intro w_ S_; simp only [putAt, List.set_cons_zero, List.set_cons_succ] at S_; clear S; have S := S_; clear S_) | ((with_reducible refine gate_dst (N := 10) rfl ?_); refine ev_alloc #[.slice none 0 0, .int .i64 0] rfl S ?_ 10 rfl rfl z28 ?_; (first | exact want0 rfl | exact want1 rfl rfl rfl rfl); intro g10 w10 S_; clear S; have S := S_; clear S_) | (refine ev_puts S ?_ rfl rfl s28 rfl rfl (by repeat (first | exact Spot.here _ _ | apply Spot.there)) rfl ?_ ?_ ?_; (first | exact want0 rfl | exact want1 rfl rfl rfl rfl); rfl; rfl; intro w_ S_; simp only [putAt, List.set_cons_zero, List.set_cons_succ] at S_; clear S; have S := S_; clear S_) | (refine ev_owns (vs := [_, _]) S ?_ rfl m28 rfl (by repeat (first | exact Spot.here _ _ | apply Spot.there)) (by exact rfl) ?_; (first | exact want0 rfl | exact want1 rfl rfl rfl rfl)) | (refine ev_owns (vs := [_, _, _, _]) S ?_ rfl m35 rfl (by repeat (first | exact Spot.here _ _ | apply Spot.there)) (by exact rfl) ?_; (first | exact want0 rfl | exact want1 rfl rfl rfl rfl)) | ((with_reducible refine gate_dst (N := 13) rfl ?_); refine ev_alloc #[.slice none 0 0, .int .i64 0] rfl S ?_ 13 rfl rfl z28 ?_; (first | exact want0 rfl | exact want1 rfl rfl rfl rfl); intro g13 w13 S_; clear S; have S := S_; clear S_) | ((with_reducible refine gate_dst (N := 19) rfl ?_); refine ev_alloc #[.int .i64 0, .int .u8 0, .string ⟨#[]⟩, .slice none 0 0] rfl S ?_ 19 rfl rfl z45 ?_; (first | exact want0 rfl | exact want1 rfl rfl rfl rfl); intro g19 w19 S_; clear S; have S := S_; clear S_) | (refine ev_puts S ?_ rfl rfl s45 rfl rfl (by repeat (first | exact Spot.here _ _ | apply Spot.there)) rfl ?_ ?_ ?_; (first | exact want0 rfl | exact want1 rfl rfl rfl rfl); rfl; rfl; intro w_ S_; simp only [putAt, List.set_cons_zero, List.set_cons_succ] at S_; clear S; have S := S_; clear S_) | ((with_reducible refine gate_dst (N := 21) rfl ?_); refine ev_alloc #[.int .i64 0, .int .u8 0, .string ⟨#[]⟩, .slice none 0 0] rfl S ?_ 21 rfl rfl z45 ?_; (first | exact want0 rfl | exact want1 rfl rfl rfl rfl); intro g21 w21 S_; clear S; have S := S_; clear S_) | (go_at_call 7; (with_reducible refine (awake_calls _).mono ?_); rintro z_ w_ ⟨rfl, hb_⟩; have S_ := Aside0.mk (S.out.keep hb_); clear hb_; clear S; have S := S_; clear S_) | (go_at_call 8; have c_ := new_ev S; (with_reducible refine c_.mono ?_); clear c_; rintro z_ w_ ⟨g, rfl, S_⟩; clear S; have S := S_; clear S_) | (go_at_call 11; (with_reducible refine (push_nil _ _ _ _ _ _).mono ?_); rintro z_ w_ ⟨rfl, hb_⟩; have S_ := Aside0.mk (S.out.keep hb_); clear hb_; clear S; have S := S_; clear S_) | (go_at_call 12; (with_reducible refine (pop_nil _).mono ?_); rintro z_ w_ ⟨rfl, hb_⟩; have S_ := Aside0.mk (S.out.keep hb_); clear hb_; clear S; have S := S_; clear S_) | (go_at_call 16; (with_reducible refine (peek_nil _).mono ?_); rintro z_ w_ ⟨rfl, hb_⟩; have S_ := Aside0.mk (S.out.keep hb_); clear hb_; clear S; have S := S_; clear S_) | (go_at_call 14; (with_reducible refine (len_nil _).mono ?_); rintro z_ w_ ⟨rfl, rfl⟩) | (go_at_call 13; (with_reducible refine (came_nil _).mono ?_); rintro z_ w_ ⟨rfl, rfl⟩) | (go_at_call 15; (with_reducible refine (fork_nil _).mono ?_); rintro z_ w_ ⟨rfl, rfl⟩))
      have S2 := Aside0.mk S.out.drew
      clear S
      refine start_ (n := 7) (S := fun w' => w'.cell? ⟨g10, 0, none⟩ = some (.slice Aq nq cq) ∧ w'.cell? ⟨g10, 1, none⟩ = some (.int .i64 mq)) (ds := []) #[false, false, false, false, false, false, false] (by kernel_rfl) rfl rfl ⟨((own_cell (g := g10) S2 (by repeat (first | exact Spot.here _ _ | apply Spot.there)) 0).trans rfl), ((own_cell (g := g10) S2 (by repeat (first | exact Spot.here _ _ | apply Spot.there)) 1).trans rfl)⟩ (fun hHeld => ?_)
      refine pure_ (i := 0) (N := some 55) (v := ?_) (a' := ?_) #[true, false, false, false, false, false, false] rfl rfl (by kernel_rfl) (fun _ _ _ h => h) (Or.inl ⟨by rfl, ?_⟩) ?_ ?_
      rotate_left
      · intro w'
        go_simp
        with_reducible rfl
      rotate_left
      · simp only [Act.put, List.setIfInBounds_toArray, List.set_cons_zero, List.set_cons_succ, i64_w, i32_w]
        rfl
      refine take_ (i := 2) (N := some 57) (v := ?_) (a' := ?_) #[true, false, true, false, false, false, false] rfl rfl (by kernel_rfl) (fun _ _ _ h => h) (Or.inl ⟨by rfl, ?_⟩) hHeld ?_ ?_
      rotate_left
      · rintro w' ⟨s0, s1⟩
        go_simp
        with_reducible rfl
      rotate_left
      · simp only [Act.put, List.setIfInBounds_toArray, List.set_cons_zero, List.set_cons_succ, i64_w, i32_w]
        rfl
      refine join_ (σ := Nat × Nat) 3 #[true, true, true, true, false, false, false] (fun s => [(56, .pointer (some ⟨s.1, 0, none⟩)), (13, .pointer (some ⟨s.2, 0, none⟩))]) (fun s w' => Aside0 (St w.heap.size w w' [Bk s.2 #[.slice none 0 0, .int .i64 0] 28, Bk g10 #[.slice Aq nq cq, .int .i64 mq] 28, TwoA g mq (Rq.map it) (.slice Aq nq cq) Rq s.1 mq (Rq.map it) (.slice Aq nq cq) Rq D, Bk g8 #[.int .u8 k2, .string n2, .slice Bo o2.length cb] 33, Bk g7 #[.int .u8 k1, .string n1, .slice Ao o1.length co] 33, Bk g5 #[.int .u8 k1, .string n1, .slice Ao o1.length co, .int .u8 k2, .string n2, .slice Bo o2.length cb] 51])) ?_ ?_
      rotate_left
      · intro hCont
        refine two_ (i := 1) (j := 3) (Ni := some 56) (Nj := some 13) #[true, true, true, false, false, false, false] #[true, false, true, true, false, false, false] rfl rfl rfl rfl (by kernel_rfl) (by decide) (by decide) (fun K hK => ?_) (fun K hK => ?_)
        · skip
          refine goes_ Try.func15 (by kernel_rfl) rfl #[.pointer (some ⟨g, 0, none⟩)] (by rfl) rfl rfl (by simp only [List.map_toArray, List.map_cons, List.map_nil]; rfl) ?_
          with_reducible refine (fork_ev S2 (by repeat (first | exact Spot.here _ _ | apply Spot.there))).mono ?_
          rintro z9 w5 ⟨gf, rfl, S5⟩
          (try dsimp only at S5)
          refine ⟨_, rfl, ?_⟩
          refine hK.out _ _ ⟨((own_cell (g := g10) S5 (by repeat (first | exact Spot.here _ _ | apply Spot.there)) 0).trans rfl), ((own_cell (g := g10) S5 (by repeat (first | exact Spot.here _ _ | apply Spot.there)) 1).trans rfl)⟩ (fun hHeld => ?_)
          clear hK K
          refine norm_ (a' := ?_) ?_ ?_
          rotate_left
          · show Act.put _ (some 56) _ = _
            simp only [Act.put, List.setIfInBounds_toArray, List.set_cons_zero, List.set_cons_succ, i64_w, i32_w]
            rfl
          refine one_ (i := 3) (N := some 13) #[true, true, true, true, false, false, false] rfl rfl (by kernel_rfl) (by decide) (fun K hK => ?_)
          refine st_alloc #[.slice none 0 0, .int .i64 0] rfl S5 (want0 rfl) 13 rfl rfl z28 ?_
          intro g13 w6 S6
          refine hK.out _ _ ⟨((own_cell (g := g10) S6 (by repeat (first | exact Spot.here _ _ | apply Spot.there)) 0).trans rfl), ((own_cell (g := g10) S6 (by repeat (first | exact Spot.here _ _ | apply Spot.there)) 1).trans rfl)⟩ (fun hHeld => ?_)
          clear hK K
          refine norm_ (a' := ?_) ?_ ?_
          rotate_left
          · show Act.put _ (some 13) _ = _
            simp only [Act.put, List.setIfInBounds_toArray, List.set_cons_zero, List.set_cons_succ, i64_w, i32_w]
            rfl
          exact norm_ (by simp only [putAll, Act.put, List.setIfInBounds_toArray, List.set_cons_zero, List.set_cons_succ]) (hCont (gf, g13) _ S6)
        · skip
          refine st_alloc #[.slice none 0 0, .int .i64 0] rfl S2 (want0 rfl) 13 rfl rfl z28 ?_
          intro g13 w6 S6
          refine hK.out _ _ ⟨((own_cell (g := g10) S6 (by repeat (first | exact Spot.here _ _ | apply Spot.there)) 0).trans rfl), ((own_cell (g := g10) S6 (by repeat (first | exact Spot.here _ _ | apply Spot.there)) 1).trans rfl)⟩ (fun hHeld => ?_)
          clear hK K
          refine norm_ (a' := ?_) ?_ ?_
          rotate_left
          · show Act.put _ (some 13) _ = _
            simp only [Act.put, List.setIfInBounds_toArray, List.set_cons_zero, List.set_cons_succ, i64_w, i32_w]
            rfl
          refine one_ (i := 1) (N := some 56) #[true, true, true, true, false, false, false] rfl rfl (by kernel_rfl) (by decide) (fun K hK => ?_)
          refine goes_ Try.func15 (by kernel_rfl) rfl #[.pointer (some ⟨g, 0, none⟩)] (by rfl) rfl rfl (by simp only [List.map_toArray, List.map_cons, List.map_nil]; rfl) ?_
          with_reducible refine (fork_ev S6 (by repeat (first | exact Spot.here _ _ | apply Spot.there))).mono ?_
          rintro z9 w5 ⟨gf, rfl, S5⟩
          (try dsimp only at S5)
          refine ⟨_, rfl, ?_⟩
          refine hK.out _ _ ⟨((own_cell (g := g10) S5 (by repeat (first | exact Spot.here _ _ | apply Spot.there)) 0).trans rfl), ((own_cell (g := g10) S5 (by repeat (first | exact Spot.here _ _ | apply Spot.there)) 1).trans rfl)⟩ (fun hHeld => ?_)
          clear hK K
          refine norm_ (a' := ?_) ?_ ?_
          rotate_left
          · show Act.put _ (some 56) _ = _
            simp only [Act.put, List.setIfInBounds_toArray, List.set_cons_zero, List.set_cons_succ, i64_w, i32_w]
            rfl
          exact norm_ (by simp only [putAll, Act.put, List.setIfInBounds_toArray, List.set_cons_zero, List.set_cons_succ]) (hCont (gf, g13) _ S5)
      rintro ⟨gf, g13⟩ w8 S8
      simp only at S8
      have hHeld : w8.cell? ⟨g10, 0, none⟩ = some (.slice Aq nq cq) ∧ w8.cell? ⟨g10, 1, none⟩ = some (.int .i64 mq) := ⟨((own_cell (g := g10) S8 (by repeat (first | exact Spot.here _ _ | apply Spot.there)) 0).trans rfl), ((own_cell (g := g10) S8 (by repeat (first | exact Spot.here _ _ | apply Spot.there)) 1).trans rfl)⟩
      refine norm_ (a' := ?_) ?_ ?_
      rotate_left
      · simp only [putAll, Act.put, List.setIfInBounds_toArray, List.set_cons_zero, List.set_cons_succ]
        rfl
      refine pure_ (i := 4) (N := some 12) (v := ?_) (a' := ?_) #[true, true, true, true, true, false, false] rfl rfl (by kernel_rfl) (fun _ _ _ h => h) (Or.inl ⟨by rfl, ?_⟩) ?_ ?_
      rotate_left
      · intro w'
        go_simp
        with_reducible rfl
      rotate_left
      · simp only [Act.put, List.setIfInBounds_toArray, List.set_cons_zero, List.set_cons_succ, i64_w, i32_w]
        rfl
      refine one_ (i := 5) (N := none) #[true, true, true, true, true, true, false] rfl rfl (by kernel_rfl) (by decide) (fun K hK => ?_)
      refine st_puts S8 (want0 rfl) rfl rfl s28 rfl rfl (by repeat (first | exact Spot.here _ _ | apply Spot.there)) rfl (by rfl) (by rfl) ?_
      intro w9 S9
      simp only [putAt, List.set_cons_zero, List.set_cons_succ] at S9
      refine hK.out _ _ ⟨((own_cell (g := g10) S9 (by repeat (first | exact Spot.here _ _ | apply Spot.there)) 0).trans rfl), ((own_cell (g := g10) S9 (by repeat (first | exact Spot.here _ _ | apply Spot.there)) 1).trans rfl)⟩ (fun hHeld => ?_)
      clear hK K
      refine pure_ (i := 6) (N := some 14) (v := ?_) (a' := ?_) #[true, true, true, true, true, true, true] rfl rfl (by kernel_rfl) (fun _ _ _ h => h) (Or.inl ⟨by rfl, ?_⟩) ?_ ?_
      rotate_left
      · intro w'
        go_simp
        with_reducible rfl
      rotate_left
      · simp only [Act.put, List.setIfInBounds_toArray, List.set_cons_zero, List.set_cons_succ, i64_w, i32_w]
        rfl
      refine done_ (by kernel_rfl) ?_

      clear S2 S8
      have S := S9
      clear S9
      go_wp2_with (first | ((with_reducible refine gate_dst (N := 5) rfl ?_); refine ev_boxs S ?_ 5 rfl rfl rfl ?_; (first | exact want0 rfl | exact want1 rfl rfl rfl rfl); intro g5 w5 S_; clear S; have S := S_; clear S_) | (refine ev_owns (vs := [_, _, _]) S ?_ rfl m33 rfl (by repeat (first | exact Spot.here _ _ | apply Spot.there)) (by exact rfl) ?_; (first | exact want0 rfl | exact want1 rfl rfl rfl rfl)) | ((with_reducible refine gate_dst (N := 7) rfl ?_); refine ev_alloc #[.int .u8 0, .string ⟨#[]⟩, .slice none 0 0] rfl S ?_ 7 rfl rfl z33 ?_; (first | exact want0 rfl | exact want1 rfl rfl rfl rfl); intro g7 w7 S_; clear S; have S := S_; clear S_) | ((with_reducible refine gate_dst (N := 8) rfl ?_); refine ev_alloc #[.int .u8 0, .string ⟨#[]⟩, .slice none 0 0] rfl S ?_ 8 rfl rfl z33 ?_; (first | exact want0 rfl | exact want1 rfl rfl rfl rfl); intro g8 w8 S_; clear S; have S := S_; clear S_) | (refine ev_puts S ?_ rfl rfl s33 rfl rfl (by repeat (first | exact Spot.here _ _ | apply Spot.there)) rfl ?_ ?_ ?_; (first | exact want0 rfl | exact want1 rfl rfl rfl rfl); rfl; rfl; intro w_ S_; simp only [putAt, List.set_cons_zero, List.set_cons_succ] at S_; clear S; have S := S_; clear S_) | ((with_reducible refine gate_dst (N := 10) rfl ?_); refine ev_alloc #[.slice none 0 0, .int .i64 0] rfl S ?_ 10 rfl rfl z28 ?_; (first | exact want0 rfl | exact want1 rfl rfl rfl rfl); intro g10 w10 S_; clear S; have S := S_; clear S_) | (refine ev_puts S ?_ rfl rfl s28 rfl rfl (by repeat (first | exact Spot.here _ _ | apply Spot.there)) rfl ?_ ?_ ?_; (first | exact want0 rfl | exact want1 rfl rfl rfl rfl); rfl; rfl; intro w_ S_; simp only [putAt, List.set_cons_zero, List.set_cons_succ] at S_; clear S; have S := S_; clear S_) | (refine ev_owns (vs := [_, _]) S ?_ rfl m28 rfl (by repeat (first | exact Spot.here _ _ | apply Spot.there)) (by exact rfl) ?_; (first | exact want0 rfl | exact want1 rfl rfl rfl rfl)) | (refine ev_owns (vs := [_, _, _, _]) S ?_ rfl m35 rfl (by repeat (first | exact Spot.here _ _ | apply Spot.there)) (by exact rfl) ?_; (first | exact want0 rfl | exact want1 rfl rfl rfl rfl)) | ((with_reducible refine gate_dst (N := 13) rfl ?_); refine ev_alloc #[.slice none 0 0, .int .i64 0] rfl S ?_ 13 rfl rfl z28 ?_; (first | exact want0 rfl | exact want1 rfl rfl rfl rfl); intro g13 w13 S_; clear S; have S := S_; clear S_) | ((with_reducible refine gate_dst (N := 19) rfl ?_); refine ev_alloc #[.int .i64 0, .int .u8 0, .string ⟨#[]⟩, .slice none 0 0] rfl S ?_ 19 rfl rfl z45 ?_; (first | exact want0 rfl | exact want1 rfl rfl rfl rfl); intro g19 w19 S_; clear S; have S := S_; clear S_) | (refine ev_puts S ?_ rfl rfl s45 rfl rfl (by repeat (first | exact Spot.here _ _ | apply Spot.there)) rfl ?_ ?_ ?_; (first | exact want0 rfl | exact want1 rfl rfl rfl rfl); rfl; rfl; intro w_ S_; simp only [putAt, List.set_cons_zero, List.set_cons_succ] at S_; clear S; have S := S_; clear S_) | ((with_reducible refine gate_dst (N := 21) rfl ?_); refine ev_alloc #[.int .i64 0, .int .u8 0, .string ⟨#[]⟩, .slice none 0 0] rfl S ?_ 21 rfl rfl z45 ?_; (first | exact want0 rfl | exact want1 rfl rfl rfl rfl); intro g21 w21 S_; clear S; have S := S_; clear S_) | (go_at_call 7; (with_reducible refine (awake_calls _).mono ?_); rintro z_ w_ ⟨rfl, hb_⟩; have S_ := Aside0.mk (S.out.keep hb_); clear hb_; clear S; have S := S_; clear S_) | (go_at_call 8; have c_ := new_ev S; (with_reducible refine c_.mono ?_); clear c_; rintro z_ w_ ⟨g, rfl, S_⟩; clear S; have S := S_; clear S_) | (go_at_call 11; (with_reducible refine (push_nil _ _ _ _ _ _).mono ?_); rintro z_ w_ ⟨rfl, hb_⟩; have S_ := Aside0.mk (S.out.keep hb_); clear hb_; clear S; have S := S_; clear S_) | (go_at_call 12; (with_reducible refine (pop_nil _).mono ?_); rintro z_ w_ ⟨rfl, hb_⟩; have S_ := Aside0.mk (S.out.keep hb_); clear hb_; clear S; have S := S_; clear S_) | (go_at_call 16; (with_reducible refine (peek_nil _).mono ?_); rintro z_ w_ ⟨rfl, hb_⟩; have S_ := Aside0.mk (S.out.keep hb_); clear hb_; clear S; have S := S_; clear S_) | (go_at_call 14; (with_reducible refine (len_nil _).mono ?_); rintro z_ w_ ⟨rfl, rfl⟩) | (go_at_call 13; (with_reducible refine (came_nil _).mono ?_); rintro z_ w_ ⟨rfl, rfl⟩) | (go_at_call 15; (with_reducible refine (fork_nil _).mono ?_); rintro z_ w_ ⟨rfl, rfl⟩))
      have HQ8 := Aside0.mk h8
      have HMQ := Aside0.mk hmb
      go_loopw [14, 15] (fun v14 v15 wr => ∃ (i : Nat) (m2 : Int) (R2 : List PB.S57) (A3 : Option Addr) (n3_ c3 : Nat) (D : Nat → Prop), v14 = .bool true ∧ v15 = .int .i64 i ∧ i ≤ l2.length ∧ 0 ≤ m2 ∧ m2 ≤ i + 200 ∧ R2.length ≤ 8 ∧ Aside0 (St w.heap.size w wr [Bk g13 #[.slice A3 n3_ c3, .int .i64 m2] 28, Bk g10 #[.slice Aq nq cq, .int .i64 mq] 28, TwoA g mq (Rq.map it) (.slice Aq nq cq) Rq gf m2 (R2.map it) (.slice A3 n3_ c3) R2 D, Bk g8 #[.int .u8 k2, .string n2, .slice Bo o2.length cb] 33, Bk g7 #[.int .u8 k1, .string n1, .slice Ao o1.length co] 33, Bk g5 #[.int .u8 k1, .string n1, .slice Ao o1.length co, .int .u8 k2, .string n2, .slice Bo o2.length cb] 51])) (fun _ v15 _ => l2.length - (intOf v15).toNat)
      case atStart => exact ⟨0, mq, Rq, Aq, nq, cq, _, rfl, rfl, Nat.zero_le _, hm0, by omega, h8, S⟩
      case round =>
        clear S h8
        obtain ⟨i, m, R, A1, n1_, c1, D, rfl, rfl, hi, hm0, hmi, h8, S⟩ := hrel
        by_cases hlt : i < l2.length
        · have hd3 : decide ((i : Int) < (l2.length : Int)) = true := decide_eq_true (by omega)
          have hil : (i : Int) < (l2.length : Int) := by omega
          have hi0 : (0 : Int) ≤ (i : Int) := by omega
          obtain ⟨ad, cs, rfl, hK, hH⟩ := has_of HC2.out K.z35 i hlt
          have hmem : l2.getD i K.z35 ∈ l2 := by rw [List.getD_eq_getElem?_getD, List.getElem?_eq_getElem hlt]; exact List.getElem_mem hlt
          obtain ⟨hk0, hk1, hb3⟩ := HX2.out _ hmem
          clear hmem
          generalize l2.getD i K.z35 = x at *
          obtain ⟨A3, c3, rfl, hl3, hg3⟩ := K.k35_open hK
          have HH := Aside0.mk (show Has w (ad.add (i * 4)) _ from hH)
          have HG3 := Aside0.mk hg3
          have HL3 := Aside0.mk hl3
          have HB3 := Aside0.mk hb3
          clear hK hH hg3 hl3 hb3
          go_wp2_with (first | ((with_reducible refine gate_dst (N := 5) rfl ?_); refine ev_boxs S ?_ 5 rfl rfl rfl ?_; (first | exact want0 rfl | exact want1 rfl rfl rfl rfl); intro g5 w5 S_; clear S; have S := S_; clear S_) | (refine ev_owns (vs := [_, _, _]) S ?_ rfl m33 rfl (by repeat (first | exact Spot.here _ _ | apply Spot.there)) (by exact rfl) ?_; (first | exact want0 rfl | exact want1 rfl rfl rfl rfl)) | ((with_reducible refine gate_dst (N := 7) rfl ?_); refine ev_alloc #[.int .u8 0, .string ⟨#[]⟩, .slice none 0 0] rfl S ?_ 7 rfl rfl z33 ?_; (first | exact want0 rfl | exact want1 rfl rfl rfl rfl); intro g7 w7 S_; clear S; have S := S_; clear S_) | ((with_reducible refine gate_dst (N := 8) rfl ?_); refine ev_alloc #[.int .u8 0, .string ⟨#[]⟩, .slice none 0 0] rfl S ?_ 8 rfl rfl z33 ?_; (first | exact want0 rfl | exact want1 rfl rfl rfl rfl); intro g8 w8 S_; clear S; have S := S_; clear S_) | (refine ev_puts S ?_ rfl rfl s33 rfl rfl (by repeat (first | exact Spot.here _ _ | apply Spot.there)) rfl ?_ ?_ ?_; (first | exact want0 rfl | exact want1 rfl rfl rfl rfl); rfl; rfl; intro w_ S_; simp only [putAt, List.set_cons_zero, List.set_cons_succ] at S_; clear S; have S := S_; clear S_) | ((with_reducible refine gate_dst (N := 10) rfl ?_); refine ev_alloc #[.slice none 0 0, .int .i64 0] rfl S ?_ 10 rfl rfl z28 ?_; (first | exact want0 rfl | exact want1 rfl rfl rfl rfl); intro g10 w10 S_; clear S; have S := S_; clear S_) | (refine ev_puts S ?_ rfl rfl s28 rfl rfl (by repeat (first | exact Spot.here _ _ | apply Spot.there)) rfl ?_ ?_ ?_; (first | exact want0 rfl | exact want1 rfl rfl rfl rfl); rfl; rfl; intro w_ S_; simp only [putAt, List.set_cons_zero, List.set_cons_succ] at S_; clear S; have S := S_; clear S_) | (refine ev_owns (vs := [_, _]) S ?_ rfl m28 rfl (by repeat (first | exact Spot.here _ _ | apply Spot.there)) (by exact rfl) ?_; (first | exact want0 rfl | exact want1 rfl rfl rfl rfl)) | (refine ev_owns (vs := [_, _, _, _]) S ?_ rfl m35 rfl (by repeat (first | exact Spot.here _ _ | apply Spot.there)) (by exact rfl) ?_; (first | exact want0 rfl | exact want1 rfl rfl rfl rfl)) | ((with_reducible refine gate_dst (N := 13) rfl ?_); refine ev_alloc #[.slice none 0 0, .int .i64 0] rfl S ?_ 13 rfl rfl z28 ?_; (first | exact want0 rfl | exact want1 rfl rfl rfl rfl); intro g13 w13 S_; clear S; have S := S_; clear S_) | ((with_reducible refine gate_dst (N := 19) rfl ?_); refine ev_alloc #[.int .i64 0, .int .u8 0, .string ⟨#[]⟩, .slice none 0 0] rfl S ?_ 19 rfl rfl z45 ?_; (first | exact want0 rfl | exact want1 rfl rfl rfl rfl); intro g19 w19 S_; clear S; have S := S_; clear S_) | (refine ev_puts S ?_ rfl rfl s45 rfl rfl (by repeat (first | exact Spot.here _ _ | apply Spot.there)) rfl ?_ ?_ ?_; (first | exact want0 rfl | exact want1 rfl rfl rfl rfl); rfl; rfl; intro w_ S_; simp only [putAt, List.set_cons_zero, List.set_cons_succ] at S_; clear S; have S := S_; clear S_) | ((with_reducible refine gate_dst (N := 21) rfl ?_); refine ev_alloc #[.int .i64 0, .int .u8 0, .string ⟨#[]⟩, .slice none 0 0] rfl S ?_ 21 rfl rfl z45 ?_; (first | exact want0 rfl | exact want1 rfl rfl rfl rfl); intro g21 w21 S_; clear S; have S := S_; clear S_) | (go_at_call 7; (with_reducible refine (awake_calls _).mono ?_); rintro z_ w_ ⟨rfl, hb_⟩; have S_ := Aside0.mk (S.out.keep hb_); clear hb_; clear S; have S := S_; clear S_) | (go_at_call 8; have c_ := new_ev S; (with_reducible refine c_.mono ?_); clear c_; rintro z_ w_ ⟨g, rfl, S_⟩; clear S; have S := S_; clear S_) | (go_at_call 11; (with_reducible refine (push_nil _ _ _ _ _ _).mono ?_); rintro z_ w_ ⟨rfl, hb_⟩; have S_ := Aside0.mk (S.out.keep hb_); clear hb_; clear S; have S := S_; clear S_) | (go_at_call 12; (with_reducible refine (pop_nil _).mono ?_); rintro z_ w_ ⟨rfl, hb_⟩; have S_ := Aside0.mk (S.out.keep hb_); clear hb_; clear S; have S := S_; clear S_) | (go_at_call 16; (with_reducible refine (peek_nil _).mono ?_); rintro z_ w_ ⟨rfl, hb_⟩; have S_ := Aside0.mk (S.out.keep hb_); clear hb_; clear S; have S := S_; clear S_) | (go_at_call 14; (with_reducible refine (len_nil _).mono ?_); rintro z_ w_ ⟨rfl, rfl⟩) | (go_at_call 13; (with_reducible refine (came_nil _).mono ?_); rintro z_ w_ ⟨rfl, rfl⟩) | (go_at_call 15; (with_reducible refine (fork_nil _).mono ?_); rintro z_ w_ ⟨rfl, rfl⟩))
          have S2 := Aside0.mk S.out.drew
          clear S
          refine start_ (n := 12) (S := fun w' => w'.cell? ⟨g13, 0, none⟩ = some (.slice A1 n1_ c1) ∧ w'.cell? ⟨g13, 1, none⟩ = some (.int .i64 m)) (ds := [10]) #[false, false, false, false, false, false, false, false, false, false, false, false] (by kernel_rfl) rfl rfl ⟨((own_cell (g := g13) S2 (by repeat (first | exact Spot.here _ _ | apply Spot.there)) 0).trans rfl), ((own_cell (g := g13) S2 (by repeat (first | exact Spot.here _ _ | apply Spot.there)) 1).trans rfl)⟩ (fun hHeld => ?_)
          refine pure_ (i := 0) (N := some 67) (v := ?_) (a' := ?_) #[true, false, false, false, false, false, false, false, false, false, false, false] rfl rfl (by kernel_rfl) (fun _ _ _ h => h) (Or.inl ⟨by rfl, ?_⟩) ?_ ?_
          rotate_left
          · intro w'
            go_simp
            with_reducible rfl
          rotate_left
          · simp only [Act.put, List.setIfInBounds_toArray, List.set_cons_zero, List.set_cons_succ, i64_w, i32_w]
            rfl
          refine pure_ (i := 2) (N := some 69) (v := ?_) (a' := ?_) #[true, false, true, false, false, false, false, false, false, false, false, false] rfl rfl (by kernel_rfl) (fun _ _ _ h => h) (Or.inl ⟨by rfl, ?_⟩) ?_ ?_
          rotate_left
          · intro w'
            go_simp
            with_reducible rfl
          rotate_left
          · simp only [Act.put, List.setIfInBounds_toArray, List.set_cons_zero, List.set_cons_succ, i64_w, i32_w]
            rfl
          refine pure_ (i := 3) (N := some 70) (v := ?_) (a' := ?_) #[true, false, true, true, false, false, false, false, false, false, false, false] rfl rfl (by kernel_rfl) (fun _ _ _ h => h) (Or.inl ⟨by rfl, ?_⟩) ?_ ?_
          rotate_left
          · intro w'
            go_simp
            with_reducible rfl
          rotate_left
          · simp only [Act.put, List.setIfInBounds_toArray, List.set_cons_zero, List.set_cons_succ, i64_w, i32_w]
            rfl
          refine pure_ (i := 4) (N := some 71) (v := ?_) (a' := ?_) #[true, false, true, true, true, false, false, false, false, false, false, false] rfl rfl (by kernel_rfl) (fun _ _ _ h => h) (Or.inl ⟨by rfl, ?_⟩) ?_ ?_
          rotate_left
          · intro w'
            go_simp
            with_reducible rfl
          rotate_left
          · simp only [Act.put, List.setIfInBounds_toArray, List.set_cons_zero, List.set_cons_succ, i64_w, i32_w]
            rfl
          refine take_ (i := 1) (N := some 68) (v := ?_) (a' := ?_) #[true, true, true, true, true, false, false, false, false, false, false, false] rfl rfl (by kernel_rfl) (fun _ _ _ h => h) (Or.inl ⟨by rfl, ?_⟩) hHeld ?_ ?_
          rotate_left
          · rintro w' ⟨s0, s1⟩
            go_simp
            with_reducible rfl
          rotate_left
          · simp only [Act.put, List.setIfInBounds_toArray, List.set_cons_zero, List.set_cons_succ, i64_w, i32_w]
            rfl
          refine one_ (i := 5) (N := some 72) #[true, true, true, true, true, true, false, false, false, false, false, false] rfl rfl (by kernel_rfl) (by decide) (fun K hK => ?_)
          refine st_loads (N := some 72) (vs := [_, _, _, _]) (want0 rfl) rfl rfl m35 rfl (olds_ S2 HH.out) ?_
          refine hK.out _ _ ⟨((own_cell (g := g13) S2 (by repeat (first | exact Spot.here _ _ | apply Spot.there)) 0).trans rfl), ((own_cell (g := g13) S2 (by repeat (first | exact Spot.here _ _ | apply Spot.there)) 1).trans rfl)⟩ (fun hHeld => ?_)
          clear hK K
          refine norm_ (a' := ?_) ?_ ?_
          rotate_left
          · show Act.put _ (some 72) _ = _
            simp only [Act.put, List.setIfInBounds_toArray, List.set_cons_zero, List.set_cons_succ, i64_w, i32_w]
            rfl
          refine one_ (i := 6) (N := some 73) #[true, true, true, true, true, true, true, false, false, false, false, false] rfl rfl (by kernel_rfl) (by decide) (fun K hK => ?_)
          refine goes_ Try.func9 (by kernel_rfl) rfl #[.pointer (some ⟨gf, 0, none⟩), .agg #[.slice A1 n1_ c1, .int .i64 m], .agg #[.int .u8 x.f0, .int .u8 x.f1.f0, .string x.f1.f1, .slice A3 x.f1.f2.length c3]] (by rfl) rfl rfl (by simp only [List.map_toArray, List.map_cons, List.map_nil]; rfl) ?_
          with_reducible refine (do2_ev S2 (by repeat (first | exact Spot.here _ _ | apply Spot.there)) h8 hm0 (by omega) hk0 hk1 HG3.out HL3.out HB3.out).mono ?_
          rintro z9 w9 ⟨A9, n9, c9, m9, R9, D9, rfl, h1, h2, h3, S9⟩
          (try dsimp only at S9)
          refine ⟨_, rfl, ?_⟩
          refine hK.out _ _ ⟨((own_cell (g := g13) S9 (by repeat (first | exact Spot.here _ _ | apply Spot.there)) 0).trans rfl), ((own_cell (g := g13) S9 (by repeat (first | exact Spot.here _ _ | apply Spot.there)) 1).trans rfl)⟩ (fun hHeld => ?_)
          clear hK K
          refine norm_ (a' := ?_) ?_ ?_
          rotate_left
          · show Act.put _ (some 73) _ = _
            simp only [Act.put, List.setIfInBounds_toArray, List.set_cons_zero, List.set_cons_succ, i64_w, i32_w]
            rfl
          refine pure_ (i := 7) (N := some 66) (v := ?_) (a' := ?_) #[true, true, true, true, true, true, true, true, false, false, false, false] rfl rfl (by kernel_rfl) (fun _ _ _ h => h) (Or.inl ⟨by rfl, ?_⟩) ?_ ?_
          rotate_left
          · intro w'
            go_simp
            with_reducible rfl
          rotate_left
          · simp only [Act.put, List.setIfInBounds_toArray, List.set_cons_zero, List.set_cons_succ, i64_w, i32_w]
            rfl
          refine pure_ (i := 8) (N := some 74) (v := ?_) (a' := ?_) #[true, true, true, true, true, true, true, true, true, false, false, false] rfl rfl (by kernel_rfl) (fun _ _ _ h => h) (Or.inl ⟨by rfl, ?_⟩) ?_ ?_
          rotate_left
          · intro w'
            go_simp
            with_reducible rfl
          rotate_left
          · simp only [Act.put, List.setIfInBounds_toArray, List.set_cons_zero, List.set_cons_succ, i64_w, i32_w]
            rfl
          refine pure_ (i := 9) (N := some 75) (v := ?_) (a' := ?_) #[true, true, true, true, true, true, true, true, true, true, false, false] rfl rfl (by kernel_rfl) (fun _ _ _ h => h) (Or.inl ⟨by rfl, ?_⟩) ?_ ?_
          rotate_left
          · intro w'
            go_simp
            with_reducible rfl
          rotate_left
          · simp only [Act.put, List.setIfInBounds_toArray, List.set_cons_zero, List.set_cons_succ, i64_w, i32_w]
            rfl
          refine last_ (i := 10) (N := none) #[true, true, true, true, true, true, true, true, true, true, true, false] rfl rfl (by kernel_rfl) (by decide) (fun K hK => ?_)
          refine st_puts S9 (want0 rfl) rfl rfl s28 rfl rfl (by repeat (first | exact Spot.here _ _ | apply Spot.there)) rfl (by rfl) (by rfl) ?_
          intro w8 S8
          simp only [putAt, List.set_cons_zero, List.set_cons_succ] at S8
          refine hK.out _ _ ?_
          clear hK K
          refine pure_ (i := 11) (N := some 14) (v := ?_) (a' := ?_) #[true, true, true, true, true, true, true, true, true, true, true, true] rfl rfl (by kernel_rfl) (fun _ _ _ h => h) (Or.inl ⟨by rfl, ?_⟩) ?_ ?_
          rotate_left
          · intro w'
            go_simp
            with_reducible rfl
          rotate_left
          · simp only [Act.put, List.setIfInBounds_toArray, List.set_cons_zero, List.set_cons_succ, i64_w, i32_w]
            rfl
          refine done_ (by kernel_rfl) ?_

          clear S2 S9
          have S := S8
          clear S8
          go_wp2_with (first | ((with_reducible refine gate_dst (N := 5) rfl ?_); refine ev_boxs S ?_ 5 rfl rfl rfl ?_; (first | exact want0 rfl | exact want1 rfl rfl rfl rfl); intro g5 w5 S_; clear S; have S := S_; clear S_) | (refine ev_owns (vs := [_, _, _]) S ?_ rfl m33 rfl (by repeat (first | exact Spot.here _ _ | apply Spot.there)) (by exact rfl) ?_; (first | exact want0 rfl | exact want1 rfl rfl rfl rfl)) | ((with_reducible refine gate_dst (N := 7) rfl ?_); refine ev_alloc #[.int .u8 0, .string ⟨#[]⟩, .slice none 0 0] rfl S ?_ 7 rfl rfl z33 ?_; (first | exact want0 rfl | exact want1 rfl rfl rfl rfl); intro g7 w7 S_; clear S; have S := S_; clear S_) | ((with_reducible refine gate_dst (N := 8) rfl ?_); refine ev_alloc #[.int .u8 0, .string ⟨#[]⟩, .slice none 0 0] rfl S ?_ 8 rfl rfl z33 ?_; (first | exact want0 rfl | exact want1 rfl rfl rfl rfl); intro g8 w8 S_; clear S; have S := S_; clear S_) | (refine ev_puts S ?_ rfl rfl s33 rfl rfl (by repeat (first | exact Spot.here _ _ | apply Spot.there)) rfl ?_ ?_ ?_; (first | exact want0 rfl | exact want1 rfl rfl rfl rfl); rfl; rfl; intro w_ S_; simp only [putAt, List.set_cons_zero, List.set_cons_succ] at S_; clear S; have S := S_; clear S_) | ((with_reducible refine gate_dst (N := 10) rfl ?_); refine ev_alloc #[.slice none 0 0, .int .i64 0] rfl S ?_ 10 rfl rfl z28 ?_; (first | exact want0 rfl | exact want1 rfl rfl rfl rfl); intro g10 w10 S_; clear S; have S := S_; clear S_) | (refine ev_puts S ?_ rfl rfl s28 rfl rfl (by repeat (first | exact Spot.here _ _ | apply Spot.there)) rfl ?_ ?_ ?_; (first | exact want0 rfl | exact want1 rfl rfl rfl rfl); rfl; rfl; intro w_ S_; simp only [putAt, List.set_cons_zero, List.set_cons_succ] at S_; clear S; have S := S_; clear S_) | (refine ev_owns (vs := [_, _]) S ?_ rfl m28 rfl (by repeat (first | exact Spot.here _ _ | apply Spot.there)) (by exact rfl) ?_; (first | exact want0 rfl | exact want1 rfl rfl rfl rfl)) | (refine ev_owns (vs := [_, _, _, _]) S ?_ rfl m35 rfl (by repeat (first | exact Spot.here _ _ | apply Spot.there)) (by exact rfl) ?_; (first | exact want0 rfl | exact want1 rfl rfl rfl rfl)) | ((with_reducible refine gate_dst (N := 13) rfl ?_); refine ev_alloc #[.slice none 0 0, .int .i64 0] rfl S ?_ 13 rfl rfl z28 ?_; (first | exact want0 rfl | exact want1 rfl rfl rfl rfl); intro g13 w13 S_; clear S; have S := S_; clear S_) | ((with_reducible refine gate_dst (N := 19) rfl ?_); refine ev_alloc #[.int .i64 0, .int .u8 0, .string ⟨#[]⟩, .slice none 0 0] rfl S ?_ 19 rfl rfl z45 ?_; (first | exact want0 rfl | exact want1 rfl rfl rfl rfl); intro g19 w19 S_; clear S; have S := S_; clear S_) | (refine ev_puts S ?_ rfl rfl s45 rfl rfl (by repeat (first | exact Spot.here _ _ | apply Spot.there)) rfl ?_ ?_ ?_; (first | exact want0 rfl | exact want1 rfl rfl rfl rfl); rfl; rfl; intro w_ S_; simp only [putAt, List.set_cons_zero, List.set_cons_succ] at S_; clear S; have S := S_; clear S_) | ((with_reducible refine gate_dst (N := 21) rfl ?_); refine ev_alloc #[.int .i64 0, .int .u8 0, .string ⟨#[]⟩, .slice none 0 0] rfl S ?_ 21 rfl rfl z45 ?_; (first | exact want0 rfl | exact want1 rfl rfl rfl rfl); intro g21 w21 S_; clear S; have S := S_; clear S_) | (go_at_call 7; (with_reducible refine (awake_calls _).mono ?_); rintro z_ w_ ⟨rfl, hb_⟩; have S_ := Aside0.mk (S.out.keep hb_); clear hb_; clear S; have S := S_; clear S_) | (go_at_call 8; have c_ := new_ev S; (with_reducible refine c_.mono ?_); clear c_; rintro z_ w_ ⟨g, rfl, S_⟩; clear S; have S := S_; clear S_) | (go_at_call 11; (with_reducible refine (push_nil _ _ _ _ _ _).mono ?_); rintro z_ w_ ⟨rfl, hb_⟩; have S_ := Aside0.mk (S.out.keep hb_); clear hb_; clear S; have S := S_; clear S_) | (go_at_call 12; (with_reducible refine (pop_nil _).mono ?_); rintro z_ w_ ⟨rfl, hb_⟩; have S_ := Aside0.mk (S.out.keep hb_); clear hb_; clear S; have S := S_; clear S_) | (go_at_call 16; (with_reducible refine (peek_nil _).mono ?_); rintro z_ w_ ⟨rfl, hb_⟩; have S_ := Aside0.mk (S.out.keep hb_); clear hb_; clear S; have S := S_; clear S_) | (go_at_call 14; (with_reducible refine (len_nil _).mono ?_); rintro z_ w_ ⟨rfl, rfl⟩) | (go_at_call 13; (with_reducible refine (came_nil _).mono ?_); rintro z_ w_ ⟨rfl, rfl⟩) | (go_at_call 15; (with_reducible refine (fork_nil _).mono ?_); rintro z_ w_ ⟨rfl, rfl⟩))
          refine ⟨⟨i + 1, m9, R9, A9, n9, c9, D9, rfl, by simp, by omega, by omega, by omega, h3, S⟩, ?_⟩
          simp [intOf]; omega
        · obtain rfl : i = l2.length := by omega
          have hd3 : decide ((l2.length : Int) < (l2.length : Int)) = false := decide_eq_false (by omega)
          go_wp2_with (first | ((with_reducible refine gate_dst (N := 5) rfl ?_); refine ev_boxs S ?_ 5 rfl rfl rfl ?_; (first | exact want0 rfl | exact want1 rfl rfl rfl rfl); intro g5 w5 S_; clear S; have S := S_; clear S_) | (refine ev_owns (vs := [_, _, _]) S ?_ rfl m33 rfl (by repeat (first | exact Spot.here _ _ | apply Spot.there)) (by exact rfl) ?_; (first | exact want0 rfl | exact want1 rfl rfl rfl rfl)) | ((with_reducible refine gate_dst (N := 7) rfl ?_); refine ev_alloc #[.int .u8 0, .string ⟨#[]⟩, .slice none 0 0] rfl S ?_ 7 rfl rfl z33 ?_; (first | exact want0 rfl | exact want1 rfl rfl rfl rfl); intro g7 w7 S_; clear S; have S := S_; clear S_) | ((with_reducible refine gate_dst (N := 8) rfl ?_); refine ev_alloc #[.int .u8 0, .string ⟨#[]⟩, .slice none 0 0] rfl S ?_ 8 rfl rfl z33 ?_; (first | exact want0 rfl | exact want1 rfl rfl rfl rfl); intro g8 w8 S_; clear S; have S := S_; clear S_) | (refine ev_puts S ?_ rfl rfl s33 rfl rfl (by repeat (first | exact Spot.here _ _ | apply Spot.there)) rfl ?_ ?_ ?_; (first | exact want0 rfl | exact want1 rfl rfl rfl rfl); rfl; rfl; intro w_ S_; simp only [putAt, List.set_cons_zero, List.set_cons_succ] at S_; clear S; have S := S_; clear S_) | ((with_reducible refine gate_dst (N := 10) rfl ?_); refine ev_alloc #[.slice none 0 0, .int .i64 0] rfl S ?_ 10 rfl rfl z28 ?_; (first | exact want0 rfl | exact want1 rfl rfl rfl rfl); intro g10 w10 S_; clear S; have S := S_; clear S_) | (refine ev_puts S ?_ rfl rfl s28 rfl rfl (by repeat (first | exact Spot.here _ _ | apply Spot.there)) rfl ?_ ?_ ?_; (first | exact want0 rfl | exact want1 rfl rfl rfl rfl); rfl; rfl; intro w_ S_; simp only [putAt, List.set_cons_zero, List.set_cons_succ] at S_; clear S; have S := S_; clear S_) | (refine ev_owns (vs := [_, _]) S ?_ rfl m28 rfl (by repeat (first | exact Spot.here _ _ | apply Spot.there)) (by exact rfl) ?_; (first | exact want0 rfl | exact want1 rfl rfl rfl rfl)) | (refine ev_owns (vs := [_, _, _, _]) S ?_ rfl m35 rfl (by repeat (first | exact Spot.here _ _ | apply Spot.there)) (by exact rfl) ?_; (first | exact want0 rfl | exact want1 rfl rfl rfl rfl)) | ((with_reducible refine gate_dst (N := 13) rfl ?_); refine ev_alloc #[.slice none 0 0, .int .i64 0] rfl S ?_ 13 rfl rfl z28 ?_; (first | exact want0 rfl | exact want1 rfl rfl rfl rfl); intro g13 w13 S_; clear S; have S := S_; clear S_) | ((with_reducible refine gate_dst (N := 19) rfl ?_); refine ev_alloc #[.int .i64 0, .int .u8 0, .string ⟨#[]⟩, .slice none 0 0] rfl S ?_ 19 rfl rfl z45 ?_; (first | exact want0 rfl | exact want1 rfl rfl rfl rfl); intro g19 w19 S_; clear S; have S := S_; clear S_) | (refine ev_puts S ?_ rfl rfl s45 rfl rfl (by repeat (first | exact Spot.here _ _ | apply Spot.there)) rfl ?_ ?_ ?_; (first | exact want0 rfl | exact want1 rfl rfl rfl rfl); rfl; rfl; intro w_ S_; simp only [putAt, List.set_cons_zero, List.set_cons_succ] at S_; clear S; have S := S_; clear S_) | ((with_reducible refine gate_dst (N := 21) rfl ?_); refine ev_alloc #[.int .i64 0, .int .u8 0, .string ⟨#[]⟩, .slice none 0 0] rfl S ?_ 21 rfl rfl z45 ?_; (first | exact want0 rfl | exact want1 rfl rfl rfl rfl); intro g21 w21 S_; clear S; have S := S_; clear S_) | (go_at_call 7; (with_reducible refine (awake_calls _).mono ?_); rintro z_ w_ ⟨rfl, hb_⟩; have S_ := Aside0.mk (S.out.keep hb_); clear hb_; clear S; have S := S_; clear S_) | (go_at_call 8; have c_ := new_ev S; (with_reducible refine c_.mono ?_); clear c_; rintro z_ w_ ⟨g, rfl, S_⟩; clear S; have S := S_; clear S_) | (go_at_call 11; (with_reducible refine (push_nil _ _ _ _ _ _).mono ?_); rintro z_ w_ ⟨rfl, hb_⟩; have S_ := Aside0.mk (S.out.keep hb_); clear hb_; clear S; have S := S_; clear S_) | (go_at_call 12; (with_reducible refine (pop_nil _).mono ?_); rintro z_ w_ ⟨rfl, hb_⟩; have S_ := Aside0.mk (S.out.keep hb_); clear hb_; clear S; have S := S_; clear S_) | (go_at_call 16; (with_reducible refine (peek_nil _).mono ?_); rintro z_ w_ ⟨rfl, hb_⟩; have S_ := Aside0.mk (S.out.keep hb_); clear hb_; clear S; have S := S_; clear S_) | (go_at_call 14; (with_reducible refine (len_nil _).mono ?_); rintro z_ w_ ⟨rfl, rfl⟩) | (go_at_call 13; (with_reducible refine (came_nil _).mono ?_); rintro z_ w_ ⟨rfl, rfl⟩) | (go_at_call 15; (with_reducible refine (fork_nil _).mono ?_); rintro z_ w_ ⟨rfl, rfl⟩))
          have S2 := Aside0.mk S.out.drew
          clear S
          refine start_ (n := 29) (S := fun w' => w'.cell? ⟨g13, 0, none⟩ = some (.slice A1 n1_ c1) ∧ w'.cell? ⟨g13, 1, none⟩ = some (.int .i64 m) ∧ w'.cell? ⟨g10, 0, none⟩ = some (.slice Aq nq cq) ∧ w'.cell? ⟨g10, 1, none⟩ = some (.int .i64 mq) ∧ w'.cell? ⟨g7, 0, none⟩ = some (.int .u8 k1) ∧ w'.cell? ⟨g7, 1, none⟩ = some (.string n1) ∧ w'.cell? ⟨g7, 2, none⟩ = some (.slice Ao o1.length co) ∧ w'.cell? ⟨g8, 0, none⟩ = some (.int .u8 k2) ∧ w'.cell? ⟨g8, 1, none⟩ = some (.string n2) ∧ w'.cell? ⟨g8, 2, none⟩ = some (.slice Bo o2.length cb)) (ds := []) #[false, false, false, false, false, false, false, false, false, false, false, false, false, false, false, false, false, false, false, false, false, false, false, false, false, false, false, false, false] (by kernel_rfl) rfl rfl ⟨((own_cell (g := g13) S2 (by repeat (first | exact Spot.here _ _ | apply Spot.there)) 0).trans rfl), ((own_cell (g := g13) S2 (by repeat (first | exact Spot.here _ _ | apply Spot.there)) 1).trans rfl), ((own_cell (g := g10) S2 (by repeat (first | exact Spot.here _ _ | apply Spot.there)) 0).trans rfl), ((own_cell (g := g10) S2 (by repeat (first | exact Spot.here _ _ | apply Spot.there)) 1).trans rfl), ((own_cell (g := g7) S2 (by repeat (first | exact Spot.here _ _ | apply Spot.there)) 0).trans rfl), ((own_cell (g := g7) S2 (by repeat (first | exact Spot.here _ _ | apply Spot.there)) 1).trans rfl), ((own_cell (g := g7) S2 (by repeat (first | exact Spot.here _ _ | apply Spot.there)) 2).trans rfl), ((own_cell (g := g8) S2 (by repeat (first | exact Spot.here _ _ | apply Spot.there)) 0).trans rfl), ((own_cell (g := g8) S2 (by repeat (first | exact Spot.here _ _ | apply Spot.there)) 1).trans rfl), ((own_cell (g := g8) S2 (by repeat (first | exact Spot.here _ _ | apply Spot.there)) 2).trans rfl)⟩ (fun hHeld => ?_)
          refine pure_ (i := 0) (N := some 119) (v := ?_) (a' := ?_) #[true, false, false, false, false, false, false, false, false, false, false, false, false, false, false, false, false, false, false, false, false, false, false, false, false, false, false, false, false] rfl rfl (by kernel_rfl) (fun _ _ _ h => h) (Or.inl ⟨by rfl, ?_⟩) ?_ ?_
          rotate_left
          · intro w'
            go_simp
            with_reducible rfl
          rotate_left
          · simp only [Act.put, List.setIfInBounds_toArray, List.set_cons_zero, List.set_cons_succ, i64_w, i32_w]
            rfl
          refine take_ (i := 1) (N := some 120) (v := ?_) (a' := ?_) #[true, true, false, false, false, false, false, false, false, false, false, false, false, false, false, false, false, false, false, false, false, false, false, false, false, false, false, false, false] rfl rfl (by kernel_rfl) (fun _ _ _ h => h) (Or.inl ⟨by rfl, ?_⟩) hHeld ?_ ?_
          rotate_left
          · rintro w' ⟨s0, s1, s2, s3, s4, s5, s6, s7, s8, s9⟩
            go_simp
            with_reducible rfl
          rotate_left
          · simp only [Act.put, List.setIfInBounds_toArray, List.set_cons_zero, List.set_cons_succ, i64_w, i32_w]
            rfl
          refine one_ (i := 2) (N := some 121) #[true, true, true, false, false, false, false, false, false, false, false, false, false, false, false, false, false, false, false, false, false, false, false, false, false, false, false, false, false] rfl rfl (by kernel_rfl) (by decide) (fun K hK => ?_)
          refine goes_ Try.func10 (by kernel_rfl) rfl #[.pointer (some ⟨gf, 0, none⟩), .agg #[.slice A1 n1_ c1, .int .i64 m]] (by rfl) rfl rfl (by simp only [List.map_toArray, List.map_cons, List.map_nil]; rfl) ?_
          with_reducible refine (same2_ev S2 (by repeat (first | exact Spot.here _ _ | apply Spot.there)) h8).mono ?_
          rintro z9 w3 ⟨rfl, D3, S3⟩
          (try dsimp only at S3)
          refine ⟨_, rfl, ?_⟩
          refine hK.out _ _ ⟨((own_cell (g := g13) S3 (by repeat (first | exact Spot.here _ _ | apply Spot.there)) 0).trans rfl), ((own_cell (g := g13) S3 (by repeat (first | exact Spot.here _ _ | apply Spot.there)) 1).trans rfl), ((own_cell (g := g10) S3 (by repeat (first | exact Spot.here _ _ | apply Spot.there)) 0).trans rfl), ((own_cell (g := g10) S3 (by repeat (first | exact Spot.here _ _ | apply Spot.there)) 1).trans rfl), ((own_cell (g := g7) S3 (by repeat (first | exact Spot.here _ _ | apply Spot.there)) 0).trans rfl), ((own_cell (g := g7) S3 (by repeat (first | exact Spot.here _ _ | apply Spot.there)) 1).trans rfl), ((own_cell (g := g7) S3 (by repeat (first | exact Spot.here _ _ | apply Spot.there)) 2).trans rfl), ((own_cell (g := g8) S3 (by repeat (first | exact Spot.here _ _ | apply Spot.there)) 0).trans rfl), ((own_cell (g := g8) S3 (by repeat (first | exact Spot.here _ _ | apply Spot.there)) 1).trans rfl), ((own_cell (g := g8) S3 (by repeat (first | exact Spot.here _ _ | apply Spot.there)) 2).trans rfl)⟩ (fun hHeld => ?_)
          clear hK K
          refine norm_ (a' := ?_) ?_ ?_
          rotate_left
          · show Act.put _ (some 121) _ = _
            simp only [Act.put, List.setIfInBounds_toArray, List.set_cons_zero, List.set_cons_succ, i64_w, i32_w]
            rfl
          refine pure_ (i := 3) (N := some 122) (v := ?_) (a' := ?_) #[true, true, true, true, false, false, false, false, false, false, false, false, false, false, false, false, false, false, false, false, false, false, false, false, false, false, false, false, false] rfl rfl (by kernel_rfl) (fun _ _ _ h => h) (Or.inl ⟨by rfl, ?_⟩) ?_ ?_
          rotate_left
          · intro w'
            go_simp
            with_reducible rfl
          rotate_left
          · simp only [Act.put, List.setIfInBounds_toArray, List.set_cons_zero, List.set_cons_succ, i64_w, i32_w]
            rfl
          refine pure_ (i := 4) (N := some 123) (v := ?_) (a' := ?_) #[true, true, true, true, true, false, false, false, false, false, false, false, false, false, false, false, false, false, false, false, false, false, false, false, false, false, false, false, false] rfl rfl (by kernel_rfl) (fun _ _ _ h => h) (Or.inl ⟨by rfl, ?_⟩) ?_ ?_
          rotate_left
          · intro w'
            go_simp
            with_reducible rfl
          rotate_left
          · simp only [Act.put, List.setIfInBounds_toArray, List.set_cons_zero, List.set_cons_succ, i64_w, i32_w]
            rfl
          refine take_ (i := 5) (N := some 124) (v := ?_) (a' := ?_) #[true, true, true, true, true, true, false, false, false, false, false, false, false, false, false, false, false, false, false, false, false, false, false, false, false, false, false, false, false] rfl rfl (by kernel_rfl) (fun _ _ _ h => h) (Or.inl ⟨by rfl, ?_⟩) hHeld ?_ ?_
          rotate_left
          · rintro w' ⟨s0, s1, s2, s3, s4, s5, s6, s7, s8, s9⟩
            go_simp
            with_reducible rfl
          rotate_left
          · simp only [Act.put, List.setIfInBounds_toArray, List.set_cons_zero, List.set_cons_succ, i64_w, i32_w]
            rfl
          refine one_ (i := 6) (N := some 125) #[true, true, true, true, true, true, true, false, false, false, false, false, false, false, false, false, false, false, false, false, false, false, false, false, false, false, false, false, false] rfl rfl (by kernel_rfl) (by decide) (fun K hK => ?_)
          refine goes_ Try.func10 (by kernel_rfl) rfl #[.pointer (some ⟨g, 0, none⟩), .agg #[.slice Aq nq cq, .int .i64 mq]] (by rfl) rfl rfl (by simp only [List.map_toArray, List.map_cons, List.map_nil]; rfl) ?_
          with_reducible refine (same2_ev (TwoA.flip S3 (by repeat (first | exact Spot.here _ _ | apply Spot.there))) (by repeat (first | exact Spot.here _ _ | apply Spot.there)) HQ8.out).mono ?_
          rintro z9 w4 ⟨rfl, D4, S4⟩
          (try dsimp only at S4)
          refine ⟨_, rfl, ?_⟩
          refine hK.out _ _ ⟨((own_cell (g := g13) S4 (by repeat (first | exact Spot.here _ _ | apply Spot.there)) 0).trans rfl), ((own_cell (g := g13) S4 (by repeat (first | exact Spot.here _ _ | apply Spot.there)) 1).trans rfl), ((own_cell (g := g10) S4 (by repeat (first | exact Spot.here _ _ | apply Spot.there)) 0).trans rfl), ((own_cell (g := g10) S4 (by repeat (first | exact Spot.here _ _ | apply Spot.there)) 1).trans rfl), ((own_cell (g := g7) S4 (by repeat (first | exact Spot.here _ _ | apply Spot.there)) 0).trans rfl), ((own_cell (g := g7) S4 (by repeat (first | exact Spot.here _ _ | apply Spot.there)) 1).trans rfl), ((own_cell (g := g7) S4 (by repeat (first | exact Spot.here _ _ | apply Spot.there)) 2).trans rfl), ((own_cell (g := g8) S4 (by repeat (first | exact Spot.here _ _ | apply Spot.there)) 0).trans rfl), ((own_cell (g := g8) S4 (by repeat (first | exact Spot.here _ _ | apply Spot.there)) 1).trans rfl), ((own_cell (g := g8) S4 (by repeat (first | exact Spot.here _ _ | apply Spot.there)) 2).trans rfl)⟩ (fun hHeld => ?_)
          clear hK K
          refine norm_ (a' := ?_) ?_ ?_
          rotate_left
          · show Act.put _ (some 125) _ = _
            simp only [Act.put, List.setIfInBounds_toArray, List.set_cons_zero, List.set_cons_succ, i64_w, i32_w]
            rfl
          refine pure_ (i := 7) (N := some 126) (v := ?_) (a' := ?_) #[true, true, true, true, true, true, true, true, false, false, false, false, false, false, false, false, false, false, false, false, false, false, false, false, false, false, false, false, false] rfl rfl (by kernel_rfl) (fun _ _ _ h => h) (Or.inl ⟨by rfl, ?_⟩) ?_ ?_
          rotate_left
          · intro w'
            go_simp
            with_reducible rfl
          rotate_left
          · simp only [Act.put, List.setIfInBounds_toArray, List.set_cons_zero, List.set_cons_succ, i64_w, i32_w]
            rfl
          refine pure_ (i := 8) (N := some 127) (v := ?_) (a' := ?_) #[true, true, true, true, true, true, true, true, true, false, false, false, false, false, false, false, false, false, false, false, false, false, false, false, false, false, false, false, false] rfl rfl (by kernel_rfl) (fun _ _ _ h => h) (Or.inl ⟨by rfl, ?_⟩) ?_ ?_
          rotate_left
          · intro w'
            go_simp
            with_reducible rfl
          rotate_left
          · simp only [Act.put, List.setIfInBounds_toArray, List.set_cons_zero, List.set_cons_succ, i64_w, i32_w]
            rfl
          refine pure_ (i := 9) (N := some 128) (v := ?_) (a' := ?_) #[true, true, true, true, true, true, true, true, true, true, false, false, false, false, false, false, false, false, false, false, false, false, false, false, false, false, false, false, false] rfl rfl (by kernel_rfl) (fun _ _ _ h => h) (Or.inl ⟨by rfl, ?_⟩) ?_ ?_
          rotate_left
          · intro w'
            go_simp
            with_reducible rfl
          rotate_left
          · simp only [Act.put, List.setIfInBounds_toArray, List.set_cons_zero, List.set_cons_succ, i64_w, i32_w]
            rfl
          refine pure_ (i := 10) (N := some 129) (v := ?_) (a' := ?_) #[true, true, true, true, true, true, true, true, true, true, true, false, false, false, false, false, false, false, false, false, false, false, false, false, false, false, false, false, false] rfl rfl (by kernel_rfl) (fun _ _ _ h => h) (Or.inl ⟨by rfl, ?_⟩) ?_ ?_
          rotate_left
          · intro w'
            go_simp
            with_reducible rfl
          rotate_left
          · simp only [Act.put, List.setIfInBounds_toArray, List.set_cons_zero, List.set_cons_succ, i64_w, i32_w]
            rfl
          refine pure_ (i := 11) (N := some 130) (v := ?_) (a' := ?_) #[true, true, true, true, true, true, true, true, true, true, true, true, false, false, false, false, false, false, false, false, false, false, false, false, false, false, false, false, false] rfl rfl (by kernel_rfl) (fun _ _ _ h => h) (Or.inl ⟨by rfl, ?_⟩) ?_ ?_
          rotate_left
          · intro w'
            go_simp
            with_reducible rfl
          rotate_left
          · simp only [Act.put, List.setIfInBounds_toArray, List.set_cons_zero, List.set_cons_succ, i64_w, i32_w]
            rfl
          refine take_ (i := 12) (N := some 131) (v := ?_) (a' := ?_) #[true, true, true, true, true, true, true, true, true, true, true, true, true, false, false, false, false, false, false, false, false, false, false, false, false, false, false, false, false] rfl rfl (by kernel_rfl) (fun _ _ _ h => h) (Or.inl ⟨by rfl, ?_⟩) hHeld ?_ ?_
          rotate_left
          · rintro w' ⟨s0, s1, s2, s3, s4, s5, s6, s7, s8, s9⟩
            go_simp
            with_reducible rfl
          rotate_left
          · simp only [Act.put, List.setIfInBounds_toArray, List.set_cons_zero, List.set_cons_succ, i64_w, i32_w]
            rfl
          refine take_ (i := 13) (N := some 132) (v := ?_) (a' := ?_) #[true, true, true, true, true, true, true, true, true, true, true, true, true, true, false, false, false, false, false, false, false, false, false, false, false, false, false, false, false] rfl rfl (by kernel_rfl) (fun _ _ _ h => h) (Or.inl ⟨by rfl, ?_⟩) hHeld ?_ ?_
          rotate_left
          · rintro w' ⟨s0, s1, s2, s3, s4, s5, s6, s7, s8, s9⟩
            go_simp
            with_reducible rfl
          rotate_left
          · simp only [Act.put, List.setIfInBounds_toArray, List.set_cons_zero, List.set_cons_succ, i64_w, i32_w]
            rfl
          refine take_ (i := 15) (N := some 134) (v := ?_) (a' := ?_) #[true, true, true, true, true, true, true, true, true, true, true, true, true, true, false, true, false, false, false, false, false, false, false, false, false, false, false, false, false] rfl rfl (by kernel_rfl) (fun _ _ _ h => h) (Or.inl ⟨by rfl, ?_⟩) hHeld ?_ ?_
          rotate_left
          · rintro w' ⟨s0, s1, s2, s3, s4, s5, s6, s7, s8, s9⟩
            go_simp
            with_reducible rfl
          rotate_left
          · simp only [Act.put, List.setIfInBounds_toArray, List.set_cons_zero, List.set_cons_succ, i64_w, i32_w]
            rfl
          refine take_ (i := 16) (N := some 135) (v := ?_) (a' := ?_) #[true, true, true, true, true, true, true, true, true, true, true, true, true, true, false, true, true, false, false, false, false, false, false, false, false, false, false, false, false] rfl rfl (by kernel_rfl) (fun _ _ _ h => h) (Or.inl ⟨by rfl, ?_⟩) hHeld ?_ ?_
          rotate_left
          · rintro w' ⟨s0, s1, s2, s3, s4, s5, s6, s7, s8, s9⟩
            go_simp
            with_reducible rfl
          rotate_left
          · simp only [Act.put, List.setIfInBounds_toArray, List.set_cons_zero, List.set_cons_succ, i64_w, i32_w]
            rfl
          refine one_ (i := 14) (N := some 133) #[true, true, true, true, true, true, true, true, true, true, true, true, true, true, true, true, true, false, false, false, false, false, false, false, false, false, false, false, false] rfl rfl (by kernel_rfl) (by decide) (fun K hK => ?_)
          refine goes_ Try.func17 (by kernel_rfl) rfl #[.agg #[.int .u8 k1, .string n1, .slice Ao o1.length co], .agg #[.int .u8 k2, .string n2, .slice Bo o2.length cb]] (by rfl) rfl rfl (by simp only [List.map_toArray, List.map_cons, List.map_nil]; rfl) ?_
          with_reducible refine (same_prog _ (Kd.C_below HRa.out S4.out.below) HCa.out (Kd.C_below HRb.out S4.out.below) HCb.out HLa.out).mono ?_
          rintro z9 w5 ⟨rfl, hb_⟩
          have S5 := Aside0.mk (S4.out.keep hb_)
          clear hb_
          refine ⟨_, rfl, ?_⟩
          refine hK.out _ _ ⟨((own_cell (g := g13) S5 (by repeat (first | exact Spot.here _ _ | apply Spot.there)) 0).trans rfl), ((own_cell (g := g13) S5 (by repeat (first | exact Spot.here _ _ | apply Spot.there)) 1).trans rfl), ((own_cell (g := g10) S5 (by repeat (first | exact Spot.here _ _ | apply Spot.there)) 0).trans rfl), ((own_cell (g := g10) S5 (by repeat (first | exact Spot.here _ _ | apply Spot.there)) 1).trans rfl), ((own_cell (g := g7) S5 (by repeat (first | exact Spot.here _ _ | apply Spot.there)) 0).trans rfl), ((own_cell (g := g7) S5 (by repeat (first | exact Spot.here _ _ | apply Spot.there)) 1).trans rfl), ((own_cell (g := g7) S5 (by repeat (first | exact Spot.here _ _ | apply Spot.there)) 2).trans rfl), ((own_cell (g := g8) S5 (by repeat (first | exact Spot.here _ _ | apply Spot.there)) 0).trans rfl), ((own_cell (g := g8) S5 (by repeat (first | exact Spot.here _ _ | apply Spot.there)) 1).trans rfl), ((own_cell (g := g8) S5 (by repeat (first | exact Spot.here _ _ | apply Spot.there)) 2).trans rfl)⟩ (fun hHeld => ?_)
          clear hK K
          refine norm_ (a' := ?_) ?_ ?_
          rotate_left
          · show Act.put _ (some 133) _ = _
            simp only [Act.put, List.setIfInBounds_toArray, List.set_cons_zero, List.set_cons_succ, i64_w, i32_w]
            rfl
          refine one_ (i := 17) (N := some 136) #[true, true, true, true, true, true, true, true, true, true, true, true, true, true, true, true, true, true, false, false, false, false, false, false, false, false, false, false, false] rfl rfl (by kernel_rfl) (by decide) (fun K hK => ?_)
          refine goes_ Try.func18 (by kernel_rfl) rfl #[.agg #[.int .u8 k1, .string n1, .slice Ao o1.length co], .agg #[.int .u8 k2, .string n2, .slice Bo o2.length cb]] (by rfl) rfl rfl (by simp only [List.map_toArray, List.map_cons, List.map_nil]; rfl) ?_
          with_reducible refine (same_ref _ (Kd.C_below HRa.out S5.out.below) HCa.out (Kd.C_below HRb.out S5.out.below) HCb.out HBa.out HBb.out).mono ?_
          rintro z9 w6 ⟨rfl, hb_⟩
          have S6 := Aside0.mk (S5.out.keep hb_)
          clear hb_
          refine ⟨_, rfl, ?_⟩
          refine hK.out _ _ ⟨((own_cell (g := g13) S6 (by repeat (first | exact Spot.here _ _ | apply Spot.there)) 0).trans rfl), ((own_cell (g := g13) S6 (by repeat (first | exact Spot.here _ _ | apply Spot.there)) 1).trans rfl), ((own_cell (g := g10) S6 (by repeat (first | exact Spot.here _ _ | apply Spot.there)) 0).trans rfl), ((own_cell (g := g10) S6 (by repeat (first | exact Spot.here _ _ | apply Spot.there)) 1).trans rfl), ((own_cell (g := g7) S6 (by repeat (first | exact Spot.here _ _ | apply Spot.there)) 0).trans rfl), ((own_cell (g := g7) S6 (by repeat (first | exact Spot.here _ _ | apply Spot.there)) 1).trans rfl), ((own_cell (g := g7) S6 (by repeat (first | exact Spot.here _ _ | apply Spot.there)) 2).trans rfl), ((own_cell (g := g8) S6 (by repeat (first | exact Spot.here _ _ | apply Spot.there)) 0).trans rfl), ((own_cell (g := g8) S6 (by repeat (first | exact Spot.here _ _ | apply Spot.there)) 1).trans rfl), ((own_cell (g := g8) S6 (by repeat (first | exact Spot.here _ _ | apply Spot.there)) 2).trans rfl)⟩ (fun hHeld => ?_)
          clear hK K
          refine norm_ (a' := ?_) ?_ ?_
          rotate_left
          · show Act.put _ (some 136) _ = _
            simp only [Act.put, List.setIfInBounds_toArray, List.set_cons_zero, List.set_cons_succ, i64_w, i32_w]
            rfl
          refine pure_ (i := 18) (N := some 137) (v := ?_) (a' := ?_) #[true, true, true, true, true, true, true, true, true, true, true, true, true, true, true, true, true, true, true, false, false, false, false, false, false, false, false, false, false] rfl rfl (by kernel_rfl) (fun _ _ _ h => h) (Or.inl ⟨by rfl, ?_⟩) ?_ ?_
          rotate_left
          · intro w'
            go_simp
            with_reducible rfl
          rotate_left
          · simp only [Act.put, List.setIfInBounds_toArray, List.set_cons_zero, List.set_cons_succ, i64_w, i32_w]
            rfl
          refine pure_ (i := 19) (N := some 138) (v := ?_) (a' := ?_) #[true, true, true, true, true, true, true, true, true, true, true, true, true, true, true, true, true, true, true, true, false, false, false, false, false, false, false, false, false] rfl rfl (by kernel_rfl) (fun _ _ _ h => h) (Or.inl ⟨by rfl, ?_⟩) ?_ ?_
          rotate_left
          · intro w'
            go_simp
            with_reducible rfl
          rotate_left
          · simp only [Act.put, List.setIfInBounds_toArray, List.set_cons_zero, List.set_cons_succ, i64_w, i32_w]
            rfl
          refine pure_ (i := 20) (N := some 139) (v := ?_) (a' := ?_) #[true, true, true, true, true, true, true, true, true, true, true, true, true, true, true, true, true, true, true, true, true, false, false, false, false, false, false, false, false] rfl rfl (by kernel_rfl) (fun _ _ _ h => h) (Or.inl ⟨by rfl, ?_⟩) ?_ ?_
          rotate_left
          · intro w'
            go_simp
            with_reducible rfl
          rotate_left
          · simp only [Act.put, List.setIfInBounds_toArray, List.set_cons_zero, List.set_cons_succ, i64_w, i32_w]
            rfl
          refine take_ (i := 21) (N := some 140) (v := ?_) (a' := ?_) #[true, true, true, true, true, true, true, true, true, true, true, true, true, true, true, true, true, true, true, true, true, true, false, false, false, false, false, false, false] rfl rfl (by kernel_rfl) (fun _ _ _ h => h) (Or.inl ⟨by rfl, ?_⟩) hHeld ?_ ?_
          rotate_left
          · rintro w' ⟨s0, s1, s2, s3, s4, s5, s6, s7, s8, s9⟩
            go_simp
            with_reducible rfl
          rotate_left
          · simp only [Act.put, List.setIfInBounds_toArray, List.set_cons_zero, List.set_cons_succ, i64_w, i32_w]
            rfl
          refine take_ (i := 22) (N := some 141) (v := ?_) (a' := ?_) #[true, true, true, true, true, true, true, true, true, true, true, true, true, true, true, true, true, true, true, true, true, true, true, false, false, false, false, false, false] rfl rfl (by kernel_rfl) (fun _ _ _ h => h) (Or.inl ⟨by rfl, ?_⟩) hHeld ?_ ?_
          rotate_left
          · rintro w' ⟨s0, s1, s2, s3, s4, s5, s6, s7, s8, s9⟩
            go_simp
            with_reducible rfl
          rotate_left
          · simp only [Act.put, List.setIfInBounds_toArray, List.set_cons_zero, List.set_cons_succ, i64_w, i32_w]
            rfl
          refine one_ (i := 23) (N := some 142) #[true, true, true, true, true, true, true, true, true, true, true, true, true, true, true, true, true, true, true, true, true, true, true, true, false, false, false, false, false] rfl rfl (by kernel_rfl) (by decide) (fun K hK => ?_)
          refine goes_ Try.func17 (by kernel_rfl) rfl #[.agg #[.int .u8 k1, .string n1, .slice Ao o1.length co], .agg #[.int .u8 k1, .string n1, .slice Ao o1.length co]] (by rfl) rfl rfl (by simp only [List.map_toArray, List.map_cons, List.map_nil]; rfl) ?_
          with_reducible refine (same_prog _ (Kd.C_below HRa.out S6.out.below) HCa.out (Kd.C_below HRa.out S6.out.below) HCa.out HLa.out).mono ?_
          rintro z9 w7 ⟨rfl, hb_⟩
          rw [sameR_self]
          have S7 := Aside0.mk (S6.out.keep hb_)
          clear hb_
          refine ⟨_, rfl, ?_⟩
          refine hK.out _ _ ⟨((own_cell (g := g13) S7 (by repeat (first | exact Spot.here _ _ | apply Spot.there)) 0).trans rfl), ((own_cell (g := g13) S7 (by repeat (first | exact Spot.here _ _ | apply Spot.there)) 1).trans rfl), ((own_cell (g := g10) S7 (by repeat (first | exact Spot.here _ _ | apply Spot.there)) 0).trans rfl), ((own_cell (g := g10) S7 (by repeat (first | exact Spot.here _ _ | apply Spot.there)) 1).trans rfl), ((own_cell (g := g7) S7 (by repeat (first | exact Spot.here _ _ | apply Spot.there)) 0).trans rfl), ((own_cell (g := g7) S7 (by repeat (first | exact Spot.here _ _ | apply Spot.there)) 1).trans rfl), ((own_cell (g := g7) S7 (by repeat (first | exact Spot.here _ _ | apply Spot.there)) 2).trans rfl), ((own_cell (g := g8) S7 (by repeat (first | exact Spot.here _ _ | apply Spot.there)) 0).trans rfl), ((own_cell (g := g8) S7 (by repeat (first | exact Spot.here _ _ | apply Spot.there)) 1).trans rfl), ((own_cell (g := g8) S7 (by repeat (first | exact Spot.here _ _ | apply Spot.there)) 2).trans rfl)⟩ (fun hHeld => ?_)
          clear hK K
          refine norm_ (a' := ?_) ?_ ?_
          rotate_left
          · show Act.put _ (some 142) _ = _
            simp only [Act.put, List.setIfInBounds_toArray, List.set_cons_zero, List.set_cons_succ, i64_w, i32_w]
            rfl
          refine pure_ (i := 24) (N := some 143) (v := ?_) (a' := ?_) #[true, true, true, true, true, true, true, true, true, true, true, true, true, true, true, true, true, true, true, true, true, true, true, true, true, false, false, false, false] rfl rfl (by kernel_rfl) (fun _ _ _ h => h) (Or.inl ⟨by rfl, ?_⟩) ?_ ?_
          rotate_left
          · intro w'
            go_simp
            with_reducible rfl
          rotate_left
          · simp only [Act.put, List.setIfInBounds_toArray, List.set_cons_zero, List.set_cons_succ, i64_w, i32_w]
            rfl
          refine pure_ (i := 25) (N := some 144) (v := ?_) (a' := ?_) #[true, true, true, true, true, true, true, true, true, true, true, true, true, true, true, true, true, true, true, true, true, true, true, true, true, true, false, false, false] rfl rfl (by kernel_rfl) (fun _ _ _ h => h) (Or.inl ⟨by rfl, ?_⟩) ?_ ?_
          rotate_left
          · intro w'
            go_simp
            with_reducible rfl
          rotate_left
          · simp only [Act.put, List.setIfInBounds_toArray, List.set_cons_zero, List.set_cons_succ, i64_w, i32_w]
            rfl
          refine one_ (i := 26) (N := some 145) #[true, true, true, true, true, true, true, true, true, true, true, true, true, true, true, true, true, true, true, true, true, true, true, true, true, true, true, false, false] rfl rfl (by kernel_rfl) (by decide) (fun K hK => ?_)
          refine goes_ Try.func7 (by kernel_rfl) rfl #[] (by rfl) rfl rfl (by simp only [List.map_toArray, List.map_nil]) ?_
          with_reducible refine (awake_calls _).mono ?_
          rintro z9 w8 ⟨rfl, hb_⟩
          have S8 := Aside0.mk (S7.out.keep hb_)
          clear hb_
          refine ⟨_, rfl, ?_⟩
          refine hK.out _ _ ⟨((own_cell (g := g13) S8 (by repeat (first | exact Spot.here _ _ | apply Spot.there)) 0).trans rfl), ((own_cell (g := g13) S8 (by repeat (first | exact Spot.here _ _ | apply Spot.there)) 1).trans rfl), ((own_cell (g := g10) S8 (by repeat (first | exact Spot.here _ _ | apply Spot.there)) 0).trans rfl), ((own_cell (g := g10) S8 (by repeat (first | exact Spot.here _ _ | apply Spot.there)) 1).trans rfl), ((own_cell (g := g7) S8 (by repeat (first | exact Spot.here _ _ | apply Spot.there)) 0).trans rfl), ((own_cell (g := g7) S8 (by repeat (first | exact Spot.here _ _ | apply Spot.there)) 1).trans rfl), ((own_cell (g := g7) S8 (by repeat (first | exact Spot.here _ _ | apply Spot.there)) 2).trans rfl), ((own_cell (g := g8) S8 (by repeat (first | exact Spot.here _ _ | apply Spot.there)) 0).trans rfl), ((own_cell (g := g8) S8 (by repeat (first | exact Spot.here _ _ | apply Spot.there)) 1).trans rfl), ((own_cell (g := g8) S8 (by repeat (first | exact Spot.here _ _ | apply Spot.there)) 2).trans rfl)⟩ (fun hHeld => ?_)
          clear hK K
          refine norm_ (a' := ?_) ?_ ?_
          rotate_left
          · show Act.put _ (some 145) _ = _
            simp only [Act.put, List.setIfInBounds_toArray, List.set_cons_zero, List.set_cons_succ, i64_w, i32_w]
            rfl
          refine pure_ (i := 27) (N := some 146) (v := ?_) (a' := ?_) #[true, true, true, true, true, true, true, true, true, true, true, true, true, true, true, true, true, true, true, true, true, true, true, true, true, true, true, true, false] rfl rfl (by kernel_rfl) (fun _ _ _ h => h) (Or.inl ⟨by rfl, ?_⟩) ?_ ?_
          rotate_left
          · intro w'
            go_simp
            with_reducible rfl
          rotate_left
          · simp only [Act.put, List.setIfInBounds_toArray, List.set_cons_zero, List.set_cons_succ, i64_w, i32_w]
            rfl
          refine pure_ (i := 28) (N := some 6) (v := ?_) (a' := ?_) #[true, true, true, true, true, true, true, true, true, true, true, true, true, true, true, true, true, true, true, true, true, true, true, true, true, true, true, true, true] rfl rfl (by kernel_rfl) (fun _ _ _ h => h) (Or.inl ⟨by rfl, ?_⟩) ?_ ?_
          rotate_left
          · intro w'
            go_simp
            with_reducible rfl
          rotate_left
          · simp only [Act.put, List.setIfInBounds_toArray, List.set_cons_zero, List.set_cons_succ, i64_w, i32_w]
            rfl
          refine done_ (by kernel_rfl) ?_

          have S := S8
          go_wp2
          go_ret
          exact ⟨rfl, S.out.below⟩
end Go.Proofs.Ytipcflkijcccdaa.Forks
