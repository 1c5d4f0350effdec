/- A fork of the clock; a clock that is not there. -/
import Derived.Test.YtajmfmgfdgdioaaPlays
namespace Go.Proofs.Ytajmfmgfdgdioaa.Plays
open Go.Proofs.Ytajmfmgfdgdioaa.Pure Go.Proofs.Ytajmfmgfdgdioaa.Cl
open Go.RowKit Go.Proofs.Ytajmfmgfdgdioaa.Sep Go.Proofs.YtajmfmgfdgdioaaW.PrintWords Go.Proofs.YtajmfmgfdgdioaaW.PrintLast Go.Proofs.YtajmfmgfdgdioaaW.PrintMore Go.Proofs.Ytajmfmgfdgdioaa.Ev Go.Proofs.Ytajmfmgfdgdioaa.Ty
open Go.Proofs.Ytajmfmgfdgdioaa.PC hiding z46 z59 z67
set_option linter.unusedVariables false
set_option linter.unusedSimpArgs false

section
variable {P : Program} {ops : Array Oper} {o : Oper} {a : Act} {Q : Exit → Act → World → Prop} {K : Act → World → Prop} {B : Nat} {w W : World} {L : List Asn}
theorem st_boxs {T : TypeId} {x : Operand} {cs : Array Value} (S : Aside0 (St B w W L)) (hw : Region.wanted o (yielded ops a.tmps) = true) (N : Tmp) (hN : o.dst = some N) (ho : o.op = .box T x) (hx : holds a x = some (.agg cs))
    (h : ∀ g w1, Aside0 (St B w w1 (Bk g cs T :: L)) → K (a.put (some N) (.pointer (some ⟨g, 0, none⟩))) w1) : if Region.wanted o (yielded ops a.tmps) = true then Oper.wp P o a W K Q else K (a.put (some N) undef) W := by
  rw [if_pos hw]
  have hr : (Instr.box T (.agg cs)).run P W = .ok (.pointer (some ⟨W.heap.size, 0, none⟩)) (W.alloc (.cells cs T (0, 0))) := by
    simp [Instr.box, newVar, newRow, newObj, go_sem]
    rfl
  unfold Oper.wp execOp
  simp only [ho, eval_of hx, Sem.run_bind, Sem.run_pure, Result.andThen_ok, hr]
  show K (a.put o.dst _) _
  rw [hN]
  exact h _ _ ⟨St.newBk S.out cs T⟩
end

set_option maxRecDepth 100000 in
set_option maxHeartbeats 4000000 in
theorem fork_calls (g : Nat) (now : Int) (A : Option Addr) (c : Nat) (ws : List S46) (w : World) (h : Clk w g now A c ws) (hm : ws.length ≤ 1000000) :
    Calls Try.prog 19 #[.pointer (some ⟨g, 0, none⟩)] w fun z w' => ∃ gf Af cf, z = .returned (.pointer (some ⟨gf, 0, none⟩)) ∧ Clk w' gf now Af cf ws ∧ (∀ k, KK gf Af k → w.heap.size ≤ k) ∧ Below w.heap.size w w' := by
  have S := Aside0.mk (St.start w)
  have HQ := Aside0.mk h
  clear h
  go_enter Try.func19, Try.ntmps19
  go_wp2
  have S2 := Aside0.mk S.out.drew
  clear S
  refine start_ (n := 12) (S := fun w' => w'.cell? ⟨g, 0, none⟩ = some (.int .u64 now) ∧ w'.cell? ⟨g, 1, none⟩ = some (.slice A ws.length c)) (ds := []) #[false, false, false, false, false, false, false, false, false, false, false, false] (by kernel_rfl) rfl rfl ⟨(HQ.out.below S2.out.below).c0, (HQ.out.below S2.out.below).c1⟩ (fun hHeld => ?_)
  refine pure_ (i := 0) (N := some 5) (v := ?_) (a' := ?_) #[true, false, false, false, false, false, false, false, false, false, false, false] rfl rfl (by kernel_rfl) (fun _ _ _ h => h) (Or.inl ⟨by rfl, ?_⟩) ?_ ?_
  rotate_left
  · intro w'
    go_simp
    with_reducible rfl
  rotate_left
  · simp only [Act.put, List.setIfInBounds_toArray, List.set_cons_zero, List.set_cons_succ, i64_w, i32_w]
    rfl
  refine pure_ (i := 1) (N := some 6) (v := ?_) (a' := ?_) #[true, true, false, false, false, false, false, false, false, false, false, false] rfl rfl (by kernel_rfl) (fun _ _ _ h => h) (Or.inl ⟨by rfl, ?_⟩) ?_ ?_
  rotate_left
  · intro w'
    go_simp
    with_reducible rfl
  rotate_left
  · simp only [Act.put, List.setIfInBounds_toArray, List.set_cons_zero, List.set_cons_succ, i64_w, i32_w]
    rfl
  refine pure_ (i := 2) (N := some 7) (v := ?_) (a' := ?_) #[true, true, true, false, false, false, false, false, false, false, false, false] rfl rfl (by kernel_rfl) (fun _ _ _ h => h) (Or.inl ⟨by rfl, ?_⟩) ?_ ?_
  rotate_left
  · intro w'
    go_simp
    with_reducible rfl
  rotate_left
  · simp only [Act.put, List.setIfInBounds_toArray, List.set_cons_zero, List.set_cons_succ, i64_w, i32_w]
    rfl
  refine pure_ (i := 4) (N := some 9) (v := ?_) (a' := ?_) #[true, true, true, false, true, false, false, false, false, false, false, false] rfl rfl (by kernel_rfl) (fun _ _ _ h => h) (Or.inl ⟨by rfl, ?_⟩) ?_ ?_
  rotate_left
  · intro w'
    go_simp
    with_reducible rfl
  rotate_left
  · simp only [Act.put, List.setIfInBounds_toArray, List.set_cons_zero, List.set_cons_succ, i64_w, i32_w]
    rfl
  refine pure_ (i := 5) (N := some 10) (v := ?_) (a' := ?_) #[true, true, true, false, true, true, false, false, false, false, false, false] rfl rfl (by kernel_rfl) (fun _ _ _ h => h) (Or.inl ⟨by rfl, ?_⟩) ?_ ?_
  rotate_left
  · intro w'
    go_simp
    with_reducible rfl
  rotate_left
  · simp only [Act.put, List.setIfInBounds_toArray, List.set_cons_zero, List.set_cons_succ, i64_w, i32_w]
    rfl
  refine pure_ (i := 6) (N := some 11) (v := ?_) (a' := ?_) #[true, true, true, false, true, true, true, false, false, false, false, false] rfl rfl (by kernel_rfl) (fun _ _ _ h => h) (Or.inl ⟨by rfl, ?_⟩) ?_ ?_
  rotate_left
  · intro w'
    go_simp
    with_reducible rfl
  rotate_left
  · simp only [Act.put, List.setIfInBounds_toArray, List.set_cons_zero, List.set_cons_succ, i64_w, i32_w]
    rfl
  refine take_ (i := 3) (N := some 8) (v := ?_) (a' := ?_) #[true, true, true, true, true, true, true, false, false, false, false, false] rfl rfl (by kernel_rfl) (fun _ _ _ h => h) (Or.inl ⟨by rfl, ?_⟩) hHeld ?_ ?_
  rotate_left
  · rintro w' ⟨s0, s1⟩
    go_simp
    with_reducible rfl
  rotate_left
  · simp only [Act.put, List.setIfInBounds_toArray, List.set_cons_zero, List.set_cons_succ, i64_w, i32_w]
    rfl
  refine take_ (i := 7) (N := some 12) (v := ?_) (a' := ?_) #[true, true, true, true, true, true, true, true, false, false, false, false] rfl rfl (by kernel_rfl) (fun _ _ _ h => h) (Or.inl ⟨by rfl, ?_⟩) hHeld ?_ ?_
  rotate_left
  · rintro w' ⟨s0, s1⟩
    go_simp
    with_reducible rfl
  rotate_left
  · simp only [Act.put, List.setIfInBounds_toArray, List.set_cons_zero, List.set_cons_succ, i64_w, i32_w]
    rfl
  refine one_ (i := 8) (N := some 13) #[true, true, true, true, true, true, true, true, true, false, false, false] rfl rfl (by kernel_rfl) (by decide) (fun K hK => ?_)
  refine goes_ Try.func29 (by kernel_rfl) rfl #[.slice A ws.length c] (by rfl) rfl rfl (by simp only [List.map_toArray, List.map_cons, List.map_nil]; rfl) ?_
  with_reducible refine (slices_Clone_W.calls A c ws ws _ (Own.reads (HQ.out.below S2.out.below).row) (Own.cap HQ.out.row) (by unfold slices_Clone_W.f; rw [if_pos (by omega)])).mono ?_
  rintro z9 w3 ⟨v0, rfl, hR, hb_⟩
  obtain ⟨A5, c5, rfl, _⟩ := Kd.R_reads hR
  have S3 := Aside0.mk (St.add S2.out hb_ (Own k46 46 A5 c5 ws) (Own.mk rfl hR) (Own.new hR))
  clear hR hb_
  refine ⟨_, rfl, ?_⟩
  refine hK.out _ _ ⟨(HQ.out.below S3.out.below).c0, (HQ.out.below S3.out.below).c1⟩ (fun hHeld => ?_)
  clear hK K
  refine norm_ (a' := ?_) ?_ ?_
  rotate_left
  · show Act.put _ (some 13) _ = _
    simp only [Act.put, List.setIfInBounds_toArray, List.set_cons_zero, List.set_cons_succ, i64_w, i32_w]
    rfl
  refine pure_ (i := 9) (N := some 14) (v := ?_) (a' := ?_) #[true, true, true, true, true, true, true, true, true, true, false, false] rfl rfl (by kernel_rfl) (fun _ _ _ h => h) (Or.inl ⟨by rfl, ?_⟩) ?_ ?_
  rotate_left
  · intro w'
    go_simp
    with_reducible rfl
  rotate_left
  · simp only [Act.put, List.setIfInBounds_toArray, List.set_cons_zero, List.set_cons_succ, i64_w, i32_w]
    rfl
  refine one_ (i := 10) (N := some 15) #[true, true, true, true, true, true, true, true, true, true, true, false] rfl rfl (by kernel_rfl) (by decide) (fun K hK => ?_)
  refine st_boxs S3 (by rfl) 15 rfl rfl rfl ?_
  intro g15 w5 S5
  refine hK.out _ _ ⟨(HQ.out.below S5.out.below).c0, (HQ.out.below S5.out.below).c1⟩ (fun hHeld => ?_)
  clear hK K
  refine norm_ (a' := ?_) ?_ ?_
  rotate_left
  · show Act.put _ (some 15) _ = _
    simp only [Act.put, List.setIfInBounds_toArray, List.set_cons_zero, List.set_cons_succ, i64_w, i32_w]
    rfl
  refine pure_ (i := 11) (N := some 2) (v := ?_) (a' := ?_) #[true, true, true, true, true, true, true, true, true, true, true, true] rfl rfl (by kernel_rfl) (fun _ _ _ h => h) (Or.inl ⟨by rfl, ?_⟩) ?_ ?_
  rotate_left
  · intro w'
    go_simp
    with_reducible rfl
  rotate_left
  · simp only [Act.put, List.setIfInBounds_toArray, List.set_cons_zero, List.set_cons_succ, i64_w, i32_w]
    rfl
  refine done_ (by kernel_rfl) ?_

  clear S2 S3
  have S := S5
  clear S5
  go_wp2
  go_ret
  refine ⟨g15, A5, c5, rfl, clk_of S (by repeat (first | exact Spot.here _ _ | apply Spot.there)) (by repeat (first | exact Spot.here _ _ | apply Spot.there)), fun k hk => ?_, S.out.below⟩
  rcases hk with rfl | hk
  · exact new_at S.out (a := Bk k #[.int .u64 now, .slice A5 ws.length c5] 62) (by repeat (first | exact Spot.here _ _ | apply Spot.there)) k Bk.at
  · exact new_at S.out (a := Own k46 46 A5 c5 ws) (by repeat (first | exact Spot.here _ _ | apply Spot.there)) k (foot_blk.2 hk)
theorem fork_ev {B : Nat} {w W : World} {g : Nat} {now : Int} {A : Option Addr} {c : Nat} {ws : List S46} {L : List Asn} {F : Asn → List Asn} (S : Aside0 (St B w W L)) (hs : Spot L (ClkA g now A c ws) F) (hm : ws.length ≤ 1000000) :
    Calls Try.prog 19 #[.pointer (some ⟨g, 0, none⟩)] W fun z W' => ∃ gf Af cf, z = .returned (.pointer (some ⟨gf, 0, none⟩)) ∧ Aside0 (St B w W' (ClkA gf now Af cf ws :: L)) := by
  refine (fork_calls g now A c ws W (clk_at S hs) hm).mono ?_
  rintro z W' ⟨gf, Af, cf, rfl, h1, h2, hb⟩
  exact ⟨gf, Af, cf, rfl, ⟨St.add S.out hb _ (ClkA.mk h1) (fun k hk => h2 k (ClkA.foot_iff.1 hk))⟩⟩
theorem now_nil (w : World) : Calls Try.prog 18 #[.pointer none] w fun z w' => z = .returned (.int .u64 0) ∧ Below w.heap.size w w' := by
  have S := Aside0.mk (St.start w)
  go_enter Try.func18, Try.ntmps18
  go_wp2
  go_ret
  exact ⟨rfl, S.out.below⟩
theorem waiting_nil (w : World) : Calls Try.prog 17 #[.pointer none] w fun z w' => z = .returned (.slice none 0 0) ∧ Below w.heap.size w w' := by
  have S := Aside0.mk (St.start w)
  go_enter Try.func17, Try.ntmps17
  go_wp2
  go_ret
  exact ⟨rfl, S.out.below⟩
theorem fork_nil (w : World) : Calls Try.prog 19 #[.pointer none] w fun z w' => z = .returned (.pointer none) ∧ Below w.heap.size w w' := by
  have S := Aside0.mk (St.start w)
  go_enter Try.func19, Try.ntmps19
  go_wp2
  go_ret
  exact ⟨rfl, S.out.below⟩
theorem retire_nil (o : Int) (w : World) : Calls Try.prog 20 #[.pointer none, .int .u16 o] w fun z w' => z = .returned (.tuple #[.int .u64 0, .int .i64 1]) ∧ Below w.heap.size w w' := by
  have S := Aside0.mk (St.start w)
  go_enter Try.func20, Try.ntmps20
  go_wp2
  refine retN (rs := [.tmp 4, .tmp 5]) rfl rfl ?_ (.tmp (.tmp .nil)) ?_
  · simp
  exact ⟨rfl, S.out.below⟩
theorem owners_nil (w : World) : Calls Try.prog 27 #[.slice none 0 0] w fun z w' => ∃ A c, z = .returned (.slice A 0 c) ∧ Below w.heap.size w w' := by
  have c_ := epoch_owners.calls 1 none 0 [] [] w (Kd.C_nil _ _) (Nat.le_refl _) (owners_f [] (by simp) 1 (by simp))
  refine (show Calls Try.prog 27 #[.slice none 0 0] w _ from c_).mono ?_
  rintro z w' ⟨v0, rfl, hR, hb⟩
  obtain ⟨A, c, rfl, _⟩ := Kd.R_reads hR
  exact ⟨A, c, rfl, hb⟩
set_option maxHeartbeats 4000000 in
theorem due_nil (w : World) : Calls Try.prog 16 #[.pointer none, .slice none 0 0] w fun z w' => ∃ A c, z = .returned (.slice A 0 c) ∧ Below w.heap.size w w' := by
  have S := Aside0.mk (add_nil k46 46 (St.start w))
  go_enter Try.func16, Try.ntmps16
  go_wp2_with (first | ((with_reducible refine gate_dst (N := 3) rfl ?_); refine ev_box1 S ?_ 3 rfl rfl rfl rfl ?_; (first | exact want0 rfl | exact want1 rfl rfl rfl rfl); intro g3 w3 S_; clear S; have S := S_; clear S_) | (go_at_call 17; (with_reducible refine (waiting_nil _).mono ?_); rintro z_ w_ ⟨rfl, hb_⟩; have hb2_ := hb_; have S_ := Aside0.mk (S.out.keep hb2_); clear hb2_ hb_; clear S; have S := S_; clear S_) | (go_at_call 28; have c_ := late_ev (A := none) (c := 0) (xs := []) (Ah := none) (ch := 0) (gh := g3) (hs := []) S (by repeat (first | exact Spot.here _ _ | apply Spot.there)) (by repeat (first | exact Spot.here _ _ | apply Spot.there)) (fun W' T => Kd.C_nil _ _) (Nat.le_refl _); simp only [List.length_nil, List.filter_nil] at c_; (with_reducible refine c_.mono ?_); clear c_; rintro z_ w_ ⟨rfl, S_, T_⟩; clear S; have S := S_; clear S_; clear T_) | (go_at_call 27; (with_reducible refine (owners_nil _).mono ?_); rintro z_ w_ ⟨A9, c9, rfl, hb_⟩; have hb2_ := hb_; have S_ := Aside0.mk (S.out.keep hb2_); clear hb2_ hb_; clear S; have S := S_; clear S_))
  go_ret
  exact ⟨A9, c9, by first | rfl | (simp; done), S.out.below⟩
set_option maxHeartbeats 4000000 in
theorem take_nil (w : World) : Calls Try.prog 21 #[.pointer none, .slice none 0 0] w fun z w' => z = .returned (.slice none 0 0) ∧ Below w.heap.size w w' := by
  have S := Aside0.mk (St.start w)
  go_enter Try.func21, Try.ntmps21
  go_wp2_with (first | ((with_reducible refine gate_dst (N := 3) rfl ?_); refine ev_box1 S ?_ 3 rfl rfl rfl rfl ?_; (first | exact want0 rfl | exact want1 rfl rfl rfl rfl); intro g3 w3 S_; clear S; have S := S_; clear S_) | (refine ev_own1 S ?_ rfl o22 rfl (by repeat (first | exact Spot.here _ _ | apply Spot.there)) (by exact rfl) ?_; (first | exact want0 rfl | exact want1 rfl rfl rfl rfl)) | (refine ev_own1 S ?_ rfl o43 rfl (by repeat (first | exact Spot.here _ _ | apply Spot.there)) (by exact rfl) ?_; (first | exact want0 rfl | exact want1 rfl rfl rfl rfl)) | (refine ev_put1 S ?_ rfl rfl s43 rfl rfl (by repeat (first | exact Spot.here _ _ | apply Spot.there)) ?_ ?_ ?_; (first | exact want0 rfl | exact want1 rfl rfl rfl rfl); rfl; rfl; intro w_ S_; simp only [putAt, List.set_cons_zero, List.set_cons_succ] at S_; clear S; have S := S_; clear S_))
  go_ret
  exact ⟨rfl, S.out.below⟩
theorem clear_nil (w : World) : Calls Try.prog 22 #[.pointer none] w fun z w' => z = .returned (.slice none 0 0) ∧ Below w.heap.size w w' := by
  have S := Aside0.mk (St.start w)
  go_enter Try.func22, Try.ntmps22
  go_wp2_with (first | (go_at_call 21; (with_reducible refine (take_nil _).mono ?_); rintro z_ w_ ⟨rfl, hb_⟩; have hb2_ := hb_; have S_ := Aside0.mk (S.out.keep hb2_); clear hb2_ hb_; clear S; have S := S_; clear S_))
  go_ret
  exact ⟨rfl, S.out.below⟩

section
variable {B : Nat} {w W : World} {g : Nat} {now : Int} {A Ar Ah : Option Addr} {c cr ch : Nat} {ws : List S46} {rs : List S67} {hs : List S59} {L : List Asn} {F : Asn → List Asn} {kind o : Int}
theorem do_evR (S : Aside0 (St B w W L)) (h1 : Spot L (ClkA g now A c ws) F) (hR : ∀ W', Turn W W' (KK g A) → Kd.C k67 W' Ar rs.length rs) (hcr : rs.length ≤ cr) (hm : ws.length ≤ 1000000) (h0 : 0 ≤ now) (hn : now < 1099511627776) (hr : rs = ws.map cv) (hC : ∀ W', Turn W W' (KK g A) → Kd.C k59 W' Ah hs.length hs) (hc : hs.length ≤ ch) :
    Calls Try.prog 14 #[.pointer (some ⟨g, 0, none⟩), .agg #[.int .u64 now, .slice Ar rs.length cr], .agg #[.int .u8 kind, .int .u16 o, .slice Ah hs.length ch]] W fun z W' =>
      ∃ (now' : Int) (A' : Option Addr) (c' : Nat) (ws' : List S46) (rs' : List S67) (Ar' : Option Addr) (cr' : Nat), z = .returned (.tuple #[.agg #[.int .u64 now', .slice Ar' rs'.length cr'], .bool true]) ∧ Aside0 (rs' = ws'.map cv) ∧ ws'.length ≤ ws.length + 1 ∧ now ≤ now' ∧ now' ≤ now + 1 ∧ Aside0 (St B w W' (Own k67 67 Ar' cr' rs' :: F (ClkA g now' A' c' ws'))) := by
  refine (do_calls g now A c ws rs Ar cr kind o Ah ch hs W (clk_at S h1) hm h0 hn hr hR hcr hC hc).mono ?_
  rintro z W' ⟨now', A', c', ws', Ar', cr', rfl, k1, k2, k3, k4, T, k5, k6, k7, k8⟩
  refine ⟨now', A', c', ws', ws'.map cv, Ar', cr', rfl, ⟨rfl⟩, k5, k6, k7, ⟨?_⟩⟩
  have S1 := (clk_step S h1 T k1 k4).out
  have hg := (clk_at S h1).lt
  obtain ⟨pre, post, e1, e2⟩ := h1.split
  refine S1.cons _ k2 (fun k hk => Nat.le_trans S.out.leW (k3 k (foot_blk.1 hk))) (fun b hb k hk1 hk2 => ?_)
  have h3 := k3 k (foot_blk.1 hk1)
  rw [e2] at hb
  have h4 : ∀ b, b ∈ L → b.foot k → False := fun b hb hk => by
    have := b.lt (S.out.holds b hb) k hk; omega
  rcases List.mem_append.1 hb with hb | hb
  · exact h4 b (by rw [e1]; exact List.mem_append.2 (.inl hb)) hk2
  · rcases List.mem_cons.1 hb with rfl | hb
    · rcases ClkA.foot_iff.1 hk2 with rfl | h5
      · omega
      · exact row_row_ne k2 k1.row (by decide) k (foot_blk.1 hk1) h5
    · exact h4 b (by rw [e1]; exact List.mem_append.2 (.inr (List.mem_cons.2 (.inr hb)))) hk2
theorem same_nilc (w : World) (h : Clk w g now A c ws) (hm : ws.length ≤ 1000000) (hr : rs = ws.map cv) (hR : Kd.C k67 w Ar rs.length rs) (hcr : rs.length ≤ cr) :
    Calls Try.prog 15 #[.pointer (some ⟨g, 0, none⟩), .agg #[.int .u64 now, .slice Ar rs.length cr], .slice none 0 0] w fun z w' => z = .returned (.bool true) ∧ Below w.heap.size w w' := by
  have c_ := same_calls g now A c ws rs Ar cr none 0 [] w h hm hr hR hcr (Kd.C_nil _ _) (Nat.le_refl _)
  simp only [List.length_nil] at c_
  exact c_
theorem same_evN (S : Aside0 (St B w W L)) (h1 : Spot L (ClkA g now A c ws) F) (hm : ws.length ≤ 1000000) (hr : rs = ws.map cv) (hR : Kd.C k67 W Ar rs.length rs) (hcr : rs.length ≤ cr) :
    Calls Try.prog 15 #[.pointer (some ⟨g, 0, none⟩), .agg #[.int .u64 now, .slice Ar rs.length cr], .slice none 0 0] W fun z W' => z = .returned (.bool true) ∧ Aside0 (St B w W' L) := by
  have c_ := same_calls g now A c ws rs Ar cr none 0 [] W (clk_at S h1) hm hr hR hcr (Kd.C_nil _ _) (Nat.le_refl _)
  simp only [List.length_nil] at c_
  refine c_.mono ?_
  rintro z W' ⟨rfl, hb⟩
  exact ⟨rfl, ⟨S.out.keep hb⟩⟩
end
end Go.Proofs.Ytajmfmgfdgdioaa.Plays
