/- A retired owner, a fork. -/
import Derived.Test.YtajmfmgfdgdioaaClock
import Derived.RegionTactic
import Derived.BigRegion
namespace Go.Proofs.Ytajmfmgfdgdioaa.Cl
open Go.Proofs.Ytajmfmgfdgdioaa.Pure
open Go.RowKit Go.Proofs.Ytajmfmgfdgdioaa.Sep Go.Proofs.YtajmfmgfdgdioaaW.PrintWords Go.Proofs.YtajmfmgfdgdioaaW.PrintLast Go.Proofs.YtajmfmgfdgdioaaW.PrintMore Go.Proofs.Ytajmfmgfdgdioaa.Ev Go.Proofs.Ytajmfmgfdgdioaa.Ty
open Go.Proofs.Ytajmfmgfdgdioaa.PC hiding z46 z59 z67
set_option linter.unusedVariables false
set_option linter.unusedSimpArgs false

set_option maxRecDepth 100000 in
set_option maxHeartbeats 4000000 in
theorem retire_calls (g : Nat) (now : Int) (A : Option Addr) (c : Nat) (ws : List S46) (o : Int) (w : World) (h : Clk w g now A c ws) (hm : ws.length ≤ 1000000) (h0 : 0 ≤ now) (h1 : now < 1099511627776) :
    Calls Try.prog 20 #[.pointer (some ⟨g, 0, none⟩), .int .u16 o] w fun z w' => ∃ A' c', z = .returned (.tuple #[.int .u64 (now + 1), .int .i64 0]) ∧ Clk w' g (now + 1) A' c' (ws ++ [⟨o, now + 1⟩]) ∧ (∀ k, blkOf A' k → blkOf A k ∨ w.heap.size ≤ k) ∧ Turn w w' (KK g A) := by
  have S := h.start
  have hw : IntKind.u64.wrap (now + 1) = now + 1 := by simp [IntKind.wrap, IntKind.bits, IntKind.signed]; omega
  have hd : decide (now ≥ 1099511627776) = false := decide_eq_false (by omega)
  clear h
  go_enter Try.func20, Try.ntmps20
  go_wp2_with (first | (refine ev_own1 S ?_ rfl o23 rfl (by repeat (first | exact Spot.here _ _ | apply Spot.there)) (by exact rfl) ?_; (first | exact want0 rfl | exact want1 rfl rfl rfl rfl)) | (refine ev_put1 S ?_ rfl rfl s23 rfl rfl (by repeat (first | exact Spot.here _ _ | apply Spot.there)) ?_ ?_ ?_; (first | exact want0 rfl | exact want1 rfl rfl rfl rfl); rfl; rfl; intro w_ S_; simp only [putAt, List.set_cons_zero, List.set_cons_succ] at S_; clear S; have S := S_; clear S_) | (refine ev_own1 S ?_ rfl o43 rfl (by repeat (first | exact Spot.here _ _ | apply Spot.there)) (by exact rfl) ?_; (first | exact want0 rfl | exact want1 rfl rfl rfl rfl)) | (refine ev_put1 S ?_ rfl rfl s43 rfl rfl (by repeat (first | exact Spot.here _ _ | apply Spot.there)) ?_ ?_ ?_; (first | exact want0 rfl | exact want1 rfl rfl rfl rfl); rfl; rfl; intro w_ S_; simp only [putAt, List.set_cons_zero, List.set_cons_succ] at S_; clear S; have S := S_; clear S_))
  have S2 := Aside0.mk S.out.drew
  clear S
  refine start_ (n := 16) (S := fun w' => w'.cell? ⟨g, 0, none⟩ = some (.int .u64 (now + 1)) ∧ w'.cell? ⟨g, 1, none⟩ = some (.slice A ws.length c)) (ds := [15]) #[false, false, false, false, false, false, false, false, false, false, false, false, false, false, false, false] (by kernel_rfl) rfl rfl ⟨((own_cell (g := g) S2 (by repeat (first | exact Spot.here _ _ | apply Spot.there)) 0).trans rfl), ((own_cell (g := g) S2 (by repeat (first | exact Spot.here _ _ | apply Spot.there)) 1).trans rfl)⟩ (fun hHeld => ?_)
  refine pure_ (i := 0) (N := some 22) (v := ?_) (a' := ?_) #[true, false, false, false, false, false, false, false, false, false, false, false, false, false, false, false] rfl rfl (by kernel_rfl) (fun _ _ _ h => h) (Or.inl ⟨by rfl, ?_⟩) ?_ ?_
  rotate_left
  · intro w'
    go_simp
    with_reducible rfl
  rotate_left
  · simp only [Act.put, List.setIfInBounds_toArray, List.set_cons_zero, List.set_cons_succ, i64_w, i32_w]
    rfl
  refine pure_ (i := 1) (N := some 23) (v := ?_) (a' := ?_) #[true, true, false, false, false, false, false, false, false, false, false, false, false, false, false, false] rfl rfl (by kernel_rfl) (fun _ _ _ h => h) (Or.inl ⟨by rfl, ?_⟩) ?_ ?_
  rotate_left
  · intro w'
    go_simp
    with_reducible rfl
  rotate_left
  · simp only [Act.put, List.setIfInBounds_toArray, List.set_cons_zero, List.set_cons_succ, i64_w, i32_w]
    rfl
  refine pure_ (i := 2) (N := some 24) (v := ?_) (a' := ?_) #[true, true, true, false, false, false, false, false, false, false, false, false, false, false, false, false] rfl rfl (by kernel_rfl) (fun _ _ _ h => h) (Or.inl ⟨by rfl, ?_⟩) ?_ ?_
  rotate_left
  · intro w'
    go_simp
    with_reducible rfl
  rotate_left
  · simp only [Act.put, List.setIfInBounds_toArray, List.set_cons_zero, List.set_cons_succ, i64_w, i32_w]
    rfl
  refine pure_ (i := 3) (N := some 25) (v := ?_) (a' := ?_) #[true, true, true, true, false, false, false, false, false, false, false, false, false, false, false, false] rfl rfl (by kernel_rfl) (fun _ _ _ h => h) (Or.inl ⟨by rfl, ?_⟩) ?_ ?_
  rotate_left
  · intro w'
    go_simp
    with_reducible rfl
  rotate_left
  · simp only [Act.put, List.setIfInBounds_toArray, List.set_cons_zero, List.set_cons_succ, i64_w, i32_w]
    rfl
  refine pure_ (i := 5) (N := some 27) (v := ?_) (a' := ?_) #[true, true, true, true, false, true, false, false, false, false, false, false, false, false, false, false] rfl rfl (by kernel_rfl) (fun _ _ _ h => h) (Or.inl ⟨by rfl, ?_⟩) ?_ ?_
  rotate_left
  · intro w'
    go_simp
    with_reducible rfl
  rotate_left
  · simp only [Act.put, List.setIfInBounds_toArray, List.set_cons_zero, List.set_cons_succ, i64_w, i32_w]
    rfl
  refine pure_ (i := 6) (N := some 28) (v := ?_) (a' := ?_) #[true, true, true, true, false, true, true, false, false, false, false, false, false, false, false, false] rfl rfl (by kernel_rfl) (fun _ _ _ h => h) (Or.inl ⟨by rfl, ?_⟩) ?_ ?_
  rotate_left
  · intro w'
    go_simp
    with_reducible rfl
  rotate_left
  · simp only [Act.put, List.setIfInBounds_toArray, List.set_cons_zero, List.set_cons_succ, i64_w, i32_w]
    rfl
  refine pure_ (i := 7) (N := some 29) (v := ?_) (a' := ?_) #[true, true, true, true, false, true, true, true, false, false, false, false, false, false, false, false] rfl rfl (by kernel_rfl) (fun _ _ _ h => h) (Or.inl ⟨by rfl, ?_⟩) ?_ ?_
  rotate_left
  · intro w'
    go_simp
    with_reducible rfl
  rotate_left
  · simp only [Act.put, List.setIfInBounds_toArray, List.set_cons_zero, List.set_cons_succ, i64_w, i32_w]
    rfl
  refine pure_ (i := 8) (N := some 30) (v := ?_) (a' := ?_) #[true, true, true, true, false, true, true, true, true, false, false, false, false, false, false, false] rfl rfl (by kernel_rfl) (fun _ _ _ h => h) (Or.inl ⟨by rfl, ?_⟩) ?_ ?_
  rotate_left
  · intro w'
    go_simp
    with_reducible rfl
  rotate_left
  · simp only [Act.put, List.setIfInBounds_toArray, List.set_cons_zero, List.set_cons_succ, i64_w, i32_w]
    rfl
  refine take_ (i := 4) (N := some 26) (v := ?_) (a' := ?_) #[true, true, true, true, true, true, true, true, true, false, false, false, false, false, false, false] rfl rfl (by kernel_rfl) (fun _ _ _ h => h) (Or.inl ⟨by rfl, ?_⟩) hHeld ?_ ?_
  rotate_left
  · rintro w' ⟨s0, s1⟩
    go_simp
    with_reducible rfl
  rotate_left
  · simp only [Act.put, List.setIfInBounds_toArray, List.set_cons_zero, List.set_cons_succ, i64_w, i32_w]
    rfl
  refine take_ (i := 9) (N := some 31) (v := ?_) (a' := ?_) #[true, true, true, true, true, true, true, true, true, true, false, false, false, false, false, false] rfl rfl (by kernel_rfl) (fun _ _ _ h => h) (Or.inl ⟨by rfl, ?_⟩) hHeld ?_ ?_
  rotate_left
  · rintro w' ⟨s0, s1⟩
    go_simp
    with_reducible rfl
  rotate_left
  · simp only [Act.put, List.setIfInBounds_toArray, List.set_cons_zero, List.set_cons_succ, i64_w, i32_w]
    rfl
  refine pure_ (i := 10) (N := some 32) (v := ?_) (a' := ?_) #[true, true, true, true, true, true, true, true, true, true, true, false, false, false, false, false] rfl rfl (by kernel_rfl) (fun _ _ _ h => h) (Or.inl ⟨by rfl, ?_⟩) ?_ ?_
  rotate_left
  · intro w'
    go_simp
    with_reducible rfl
  rotate_left
  · simp only [Act.put, List.setIfInBounds_toArray, List.set_cons_zero, List.set_cons_succ, i64_w, i32_w]
    rfl
  refine one_ (i := 11) (N := some 33) #[true, true, true, true, true, true, true, true, true, true, true, true, false, false, false, false] rfl rfl (by kernel_rfl) (by decide) (fun K hK => ?_)
  refine st_litS (P := Try.prog) (d := k46) (e := 46) [(⟨o, now + 1⟩ : S46)] (inner := [.int .u16 o, .int .u64 (now + 1)]) rfl S2 (by rfl) 33 rfl (by first | (go_simp; done) | (go_simp; rfl)) (Reps.snoc (Reps.none _ _) (k46_mkM _ _ _ (⟨o, now + 1⟩ : S46)) rfl) (by simp) ?_
  intro A33 c33 w33 S3
  refine hK.out _ _ ⟨((own_cell (g := g) S3 (by repeat (first | exact Spot.here _ _ | apply Spot.there)) 0).trans rfl), ((own_cell (g := g) S3 (by repeat (first | exact Spot.here _ _ | apply Spot.there)) 1).trans rfl)⟩ (fun hHeld => ?_)
  clear hK K
  refine norm_ (a' := ?_) ?_ ?_
  rotate_left
  · show Act.put _ (some 33) _ = _
    simp only [Act.put, List.setIfInBounds_toArray, List.set_cons_zero, List.set_cons_succ, i64_w, i32_w]
    rfl
  refine one_ (i := 12) (N := some 34) #[true, true, true, true, true, true, true, true, true, true, true, true, true, false, false, false] rfl rfl (by kernel_rfl) (by decide) (fun K hK => ?_)
  refine st_rowsS (d := k46) (e := 46) (.tmp 26) (.tmp 33) 43 (.agg #[.int .u16 0, .int .u64 0]) 16 (A := A) (A1 := A33) (N := some 34) (n := ws.length) (m := 1) (c := c) (c1 := c33) (xs := ws) (ys := [(⟨o, now + 1⟩ : S46)]) rfl (fun W x cs hk => by obtain rfl := k46_open hk; exact k46_mkM _ _ _ _) (by decide) S3 (by rfl) rfl rfl Try.underlying43 info46 rfl (by decide) rfl rfl (by repeat (first | exact Spot.here _ _ | apply Spot.there)) rfl (Own.reads (pred_at S3.out (a := Own k46 46 A33 c33 [(⟨o, now + 1⟩ : S46)]) (by repeat (first | exact Spot.here _ _ | apply Spot.there)))) (by omega) ?_
  intro A34 c34 w34 S4 hA34
  have HA := Aside0.mk (fun k hk => (hA34 k hk).imp_right (fun h => Nat.le_trans S3.out.below.size h))
  clear hA34
  refine hK.out _ _ ⟨((own_cell (g := g) S4 (by repeat (first | exact Spot.here _ _ | apply Spot.there)) 0).trans rfl), ((own_cell (g := g) S4 (by repeat (first | exact Spot.here _ _ | apply Spot.there)) 1).trans rfl)⟩ (fun hHeld => ?_)
  clear hK K
  refine norm_ (a' := ?_) ?_ ?_
  rotate_left
  · show Act.put _ (some 34) _ = _
    simp only [Act.put, List.setIfInBounds_toArray, List.set_cons_zero, List.set_cons_succ, i64_w, i32_w]
    rfl
  refine pure_ (i := 13) (N := some 35) (v := ?_) (a' := ?_) #[true, true, true, true, true, true, true, true, true, true, true, true, true, true, false, false] rfl rfl (by kernel_rfl) (fun _ _ _ h => h) (Or.inl ⟨by rfl, ?_⟩) ?_ ?_
  rotate_left
  · intro w'
    go_simp
    with_reducible rfl
  rotate_left
  · simp only [Act.put, List.setIfInBounds_toArray, List.set_cons_zero, List.set_cons_succ, i64_w, i32_w]
    rfl
  refine pure_ (i := 14) (N := some 36) (v := ?_) (a' := ?_) #[true, true, true, true, true, true, true, true, true, true, true, true, true, true, true, false] rfl rfl (by kernel_rfl) (fun _ _ _ h => h) (Or.inl ⟨by rfl, ?_⟩) ?_ ?_
  rotate_left
  · intro w'
    go_simp
    with_reducible rfl
  rotate_left
  · simp only [Act.put, List.setIfInBounds_toArray, List.set_cons_zero, List.set_cons_succ, i64_w, i32_w]
    rfl
  refine last_ (i := 15) (N := none) #[true, true, true, true, true, true, true, true, true, true, true, true, true, true, true, true] rfl rfl (by kernel_rfl) (by decide) (fun K hK => ?_)
  refine st_put1 (g := g) S4 (by rfl) rfl rfl s43 rfl rfl (by repeat (first | exact Spot.here _ _ | apply Spot.there)) (by rfl) rfl ?_
  intro w5 S5
  simp only [putAt, List.set_cons_zero, List.set_cons_succ] at S5
  refine hK.out _ _ ?_
  clear hK K
  refine done_ (by kernel_rfl) ?_

  clear S2 S3 S4
  have S := S5
  clear S5
  go_wp2_with (first | (refine ev_own1 S ?_ rfl o23 rfl (by repeat (first | exact Spot.here _ _ | apply Spot.there)) (by exact rfl) ?_; (first | exact want0 rfl | exact want1 rfl rfl rfl rfl)) | (refine ev_put1 S ?_ rfl rfl s23 rfl rfl (by repeat (first | exact Spot.here _ _ | apply Spot.there)) ?_ ?_ ?_; (first | exact want0 rfl | exact want1 rfl rfl rfl rfl); rfl; rfl; intro w_ S_; simp only [putAt, List.set_cons_zero, List.set_cons_succ] at S_; clear S; have S := S_; clear S_) | (refine ev_own1 S ?_ rfl o43 rfl (by repeat (first | exact Spot.here _ _ | apply Spot.there)) (by exact rfl) ?_; (first | exact want0 rfl | exact want1 rfl rfl rfl rfl)) | (refine ev_put1 S ?_ rfl rfl s43 rfl rfl (by repeat (first | exact Spot.here _ _ | apply Spot.there)) ?_ ?_ ?_; (first | exact want0 rfl | exact want1 rfl rfl rfl rfl); rfl; rfl; intro w_ S_; simp only [putAt, List.set_cons_zero, List.set_cons_succ] at S_; clear S; have S := S_; clear S_))
  refine retN (rs := [.tmp 4, .tmp 5]) rfl rfl ?_ (.tmp (.tmp .nil)) ?_
  · simp
  exact ⟨A34, c34, by first | rfl | (simp; done), clk_of S (by repeat (first | exact Spot.here _ _ | apply Spot.there)) (by repeat (first | exact Spot.here _ _ | apply Spot.there)), HA.out, turn_of S (by repeat (first | exact Spot.here _ _ | apply Spot.there))⟩
end Go.Proofs.Ytajmfmgfdgdioaa.Cl
