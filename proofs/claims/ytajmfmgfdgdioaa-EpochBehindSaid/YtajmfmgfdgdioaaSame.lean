/- Do both clocks have the same? -/
import Derived.Test.YtajmfmgfdgdioaaDo
namespace Go.Proofs.Ytajmfmgfdgdioaa.Cl
open Go.Proofs.Ytajmfmgfdgdioaa.Pure
open Go.RowKit Go.Proofs.Ytajmfmgfdgdioaa.Sep Go.Proofs.YtajmfmgfdgdioaaW.PrintWords Go.Proofs.YtajmfmgfdgdioaaW.PrintLast Go.Proofs.YtajmfmgfdgdioaaW.PrintMore Go.Proofs.Ytajmfmgfdgdioaa.Ev Go.Proofs.Ytajmfmgfdgdioaa.Ty
open Go.Proofs.Ytajmfmgfdgdioaa.PC hiding z46 z59 z67
set_option linter.unusedVariables false
set_option linter.unusedSimpArgs false

theorem Own.put46 {c g : Nat} {W : World} {xs : List S46} (h : (Own k46 46 (some ⟨g, 0, none⟩) c xs).pred W) (i : Nat) (hi : i < xs.length) (v : Int) :
    (Own k46 46 (some ⟨g, 0, none⟩) c (xs.set i ⟨(xs.getD i PC.z46).f0, v⟩)).pred (W.setCells g (i * 2 + 1) [.int .u64 v]) := by
  obtain ⟨cs, hcl, hM, hc, _⟩ := Kd.R_elem (Own.row h) PC.z46 (i : Int) (by omega) (by omega)
  obtain rfl := k46_openM hM
  rw [Int.toNat_natCast] at hM hc hcl
  have h2 := (Kd.R_seg (okp := fun _ => False) (j := 1) (seg := [.int .u64 v]) (x' := (⟨(xs.getD i PC.z46).f0, v⟩ : S46)) (Own.row h) (i : Int) (by omega) (by omega) hcl hc (by show 1 + 1 ≤ 2; omega) (k46_mkM _ _ _ (⟨(xs.getD i PC.z46).f0, v⟩ : S46)) (fun _ hk => hk.elim)).1
  rw [Int.toNat_natCast] at h2
  have e1 : (xs.set i ⟨(xs.getD i PC.z46).f0, v⟩).length = xs.length := List.length_set ..
  refine Own.ofK ?_
  rw [e1]
  exact h2
section
variable {P : Program} {ops : Array Oper} {rest : List Oper} {o : Oper} {a : Act} {Q : Exit → Act → World → Prop} {B : Nat} {w W : World} {L : List Asn} {F : Asn → List Asn}
theorem ev_field46 {t : TypeId} {p x : Operand} {g i c : Nat} {v : Int} {xs : List S46} (S : Aside0 (St B w W L)) (hw : Region.wanted o (yielded ops a.tmps) = true) (hN : o.dst = none) (ho : o.op = .store t p x) (ht : (P.info? t).map (·.size) = some 1)
    (hp : a.eval p = .pointer (some ⟨g, i * 2 + 1, none⟩)) (hx : holds a x = some (.int .u64 v)) (hs : Spot L (Own k46 46 (some ⟨g, 0, none⟩) c xs) F) (hi : i < xs.length)
    (h : ∀ w1, Aside0 (St B w w1 (F (Own k46 46 (some ⟨g, 0, none⟩) c (xs.set i ⟨(xs.getD i PC.z46).f0, v⟩)))) → wpList P ops Q rest a w1) : wpList P ops Q (o :: rest) a W := by
  have hO := pred_at S.out hs
  obtain ⟨cur, hg, hcs⟩ := Own.blk hO
  have hcap := Own.cap hO
  have hsz : k46.sz = 2 := rfl
  rw [hsz] at hcs
  have hr : (Instr.storeAt t (.pointer (some ⟨g, i * 2 + 1, none⟩)) (.int .u64 v)).run P W = .ok () (W.setCells g (i * 2 + 1) [.int .u64 v]) :=
    run_store_run t _ [.int .u64 v] hg (by rfl) ht (by show i * 2 + 1 + 1 ≤ cur.size; omega) (by simp [Value.oneCell'])
  refine wpList_step fun K hK => ?_
  rw [if_pos hw]
  unfold Oper.wp execOp
  simp only [ho, hp, eval_of hx, Sem.run_bind, Sem.run_pure, Result.andThen_ok, hr]
  show K (a.put o.dst undef) _
  rw [hN]
  obtain ⟨s1, s2, s3, s4⟩ := setCells_same g [.int .u64 v] (i * 2 + 1) W
  exact hK _ _ (h _ ⟨turn_at S.out hs s1 s2 s3 (by omega) (fun k _ hne => setCells_far [.int .u64 v] _ k (fun e => hne (foot_blk.2 (by rw [e]; rfl)))) (Own.put46 hO i hi v) (fun k hk => .inl (foot_blk.2 (foot_blk.1 hk)))⟩)
end

theorem due3 {B : Nat} {w W : World} {g : Nat} {now : Int} {A Ah : Option Addr} {c ch : Nat} {ws : List S46} {hs : List S59} {ds : List Int} {L : List Asn} (S : Aside0 (St B w W L)) (h : Clk W g now A c ws) (hm : ws.length ≤ 1000000) (hC : Kd.C k59 W Ah hs.length hs) (hc : hs.length ≤ ch) (hd : ds = (ws.filter (fun x => pas hs x.f1)).map (·.f0)) :
    Calls Try.prog 16 #[.pointer (some ⟨g, 0, none⟩), .slice Ah hs.length ch] W fun z W' => ∃ A' c', z = .returned (.slice A' ds.length c') ∧ Aside0 (St B w W' (Own (Kd.int .u16) 36 A' c' ds :: L)) := by
  subst hd
  refine (due_calls g now A c ws Ah ch hs W h hm hC hc).mono ?_
  rintro z W' ⟨A', c', rfl, hR, hb⟩
  exact ⟨A', c', rfl, ⟨St.add S.out hb _ (Own.mk rfl hR) (Own.new hR)⟩⟩
theorem waiting3 {B : Nat} {w W : World} {g : Nat} {now : Int} {A : Option Addr} {c : Nat} {ws : List S46} {L : List Asn} (S : Aside0 (St B w W L)) (h : Clk W g now A c ws) (hm : ws.length ≤ 1000000) :
    Calls Try.prog 17 #[.pointer (some ⟨g, 0, none⟩)] W fun z W' => ∃ A' c', z = .returned (.slice A' ws.length c') ∧ Aside0 (St B w W' (Own k46 46 A' c' ws :: L)) := by
  refine (waiting_calls g now A c ws W h hm).mono ?_
  rintro z W' ⟨A', c', rfl, hR, hb⟩
  exact ⟨A', c', rfl, ⟨St.add S.out hb _ (Own.mk rfl hR) (Own.new hR)⟩⟩

set_option maxRecDepth 100000 in
set_option maxHeartbeats 16000000 in
theorem same_calls (g : Nat) (now : Int) (A : Option Addr) (c : Nat) (ws : List S46) (rs : List S67) (Ar : Option Addr) (cr : Nat) (Ah : Option Addr) (ch : Nat) (hs : List S59) (w : World) (h : Clk w g now A c ws) (hm : ws.length ≤ 1000000) (hr : rs = ws.map cv) (hR : Kd.C k67 w Ar rs.length rs) (hcr : rs.length ≤ cr) (hC : Kd.C k59 w Ah hs.length hs) (hc : hs.length ≤ ch) :
    Calls Try.prog 15 #[.pointer (some ⟨g, 0, none⟩), .agg #[.int .u64 now, .slice Ar rs.length cr], .slice Ah hs.length ch] w fun z w' => z = .returned (.bool true) ∧ Below w.heap.size w w' := by
  have S := Aside0.mk (St.start w)
  have HQ := Aside0.mk h
  have HR := Aside0.mk hR
  have HC := Aside0.mk hC
  have HL := Aside0.mk hcr
  have HM := Aside0.mk hm
  have HE := Aside0.mk hr
  have HN := Aside0.mk (show rs.length = ws.length by rw [hr, List.length_map])
  have hd1 : (now != now) = false := by simp
  have hd3 : ((ws.length : Int) != (rs.length : Int)) = false := by rw [HN.out]; simp
  clear h hR hC hcr hr
  obtain ⟨ds, hds⟩ : ∃ ds, ds = (ws.filter (fun x => pas hs x.f1)).map (·.f0) := ⟨_, rfl⟩
  obtain ⟨krs, hkrs⟩ : ∃ krs, krs = (ws.filter (fun x => !pas hs x.f1)).map cv := ⟨_, rfl⟩
  have HD1 := Aside0.mk (show ds.length ≤ 1000000 by rw [hds, List.length_map]; exact Nat.le_trans (List.length_filter_le _ _) HM.out)
  have HDS := Aside0.mk hds
  have HKR := Aside0.mk hkrs
  clear hds hkrs
  go_enter Try.func15, Try.ntmps15
  go_wp2_with (first | (refine ev_load1 ?_ rfl o23 rfl HX.out ?_; (first | exact want0 rfl | exact want1 rfl rfl rfl rfl)) | (refine ev_field46 (g := g7) (i := i) (c := c7) (xs := ys) S ?_ rfl rfl s23 rfl rfl (by repeat (first | exact Spot.here _ _ | apply Spot.there)) (by omega) ?_; (first | exact want0 rfl | exact want1 rfl rfl rfl rfl); intro w_ S_; clear S; have S := S_; clear S_) | ((with_reducible refine gate_dst (N := 4) rfl ?_); refine ev_boxs S ?_ 4 rfl rfl rfl ?_; (first | exact want0 rfl | exact want1 rfl rfl rfl rfl); intro g4 w4 S_; clear S; have S := S_; clear S_) | (refine ev_own1 S ?_ rfl o23 rfl (by repeat (first | exact Spot.here _ _ | apply Spot.there)) (by exact rfl) ?_; (first | exact want0 rfl | exact want1 rfl rfl rfl rfl)) | (refine ev_own1 S ?_ rfl o31 rfl (by repeat (first | exact Spot.here _ _ | apply Spot.there)) (by exact rfl) ?_; (first | exact want0 rfl | exact want1 rfl rfl rfl rfl)) | (refine ev_owns (vs := [_, _]) S ?_ rfl m46 rfl (by repeat (first | exact Spot.here _ _ | apply Spot.there)) (by exact rfl) ?_; (first | exact want0 rfl | exact want1 rfl rfl rfl rfl)) | (refine ev_owns (vs := [_, _]) S ?_ rfl m67 rfl (by repeat (first | exact Spot.here _ _ | apply Spot.there)) (by exact rfl) ?_; (first | exact want0 rfl | exact want1 rfl rfl rfl rfl)) | (refine ev_put1 S ?_ rfl rfl s23 rfl rfl (by repeat (first | exact Spot.here _ _ | apply Spot.there)) ?_ ?_ ?_; (first | exact want0 rfl | exact want1 rfl rfl rfl rfl); rfl; rfl; intro w_ S_; simp only [putAt, List.set_cons_zero, List.set_cons_succ] at S_; clear S; have S := S_; clear S_) | (refine ev_owns (vs := [_, _]) S ?_ rfl m33 rfl (by repeat (first | exact Spot.here _ _ | apply Spot.there)) (by exact rfl) ?_; (first | exact want0 rfl | exact want1 rfl rfl rfl rfl)) | ((with_reducible refine gate_dst (N := 9) rfl ?_); refine ev_alloc #[.int .u64 0, .slice none 0 0] rfl S ?_ 9 rfl rfl z33 ?_; (first | exact want0 rfl | exact want1 rfl rfl rfl rfl); intro g9 w9 S_; clear S; have S := S_; clear S_) | (refine ev_puts S ?_ rfl rfl s33 rfl rfl (by repeat (first | exact Spot.here _ _ | apply Spot.there)) rfl ?_ ?_ ?_; (first | exact want0 rfl | exact want1 rfl rfl rfl rfl); rfl; rfl; intro w_ S_; simp only [putAt, List.set_cons_zero, List.set_cons_succ] at S_; clear S; have S := S_; clear S_) | (go_at_call 17; have c_ := waiting3 S (HQ.out.below S.out.below) HM.out; (with_reducible refine c_.mono ?_); clear c_; rintro z_ w_ ⟨A7, c7, rfl, S_⟩; clear S; have S := S_; clear S_) | (go_at_call 24; have c_ := rtake_ev (now := now) (ws := ws) (rs := rs) (krs := krs) (Ar := Ar) (cr := cr) (Ah := Ah) (ch := ch) (hs := hs) (ds := ds) S HM.out HE.out (Kd.C_below HR.out S.out.below) HL.out (Kd.C_below HC.out S.out.below) hc HDS.out HKR.out; (with_reducible refine c_.mono ?_); clear c_; rintro z_ w_ ⟨A9, c9, A10, c10, rfl, h9_, S_⟩; clear h9_; clear S; have S := S_; clear S_) | (go_at_call 16; have c_ := due3 S (HQ.out.below S.out.below) HM.out (Kd.C_below HC.out S.out.below) hc HDS.out; (with_reducible refine c_.mono ?_); clear c_; rintro z_ w_ ⟨A11, c11, rfl, S_⟩; clear S; have S := S_; clear S_) | (go_at_call 23; have c_ := budwoodlaw17_sameOwners.calls ds.length.succ A11 c11 ds A10 c10 ds true _ (Own.reads (pred_at S.out (a := Own (Kd.int .u16) 36 A11 c11 ds) (by repeat (first | exact Spot.here _ _ | apply Spot.there)))) (Own.cap (pred_at S.out (a := Own (Kd.int .u16) 36 A11 c11 ds) (by repeat (first | exact Spot.here _ _ | apply Spot.there)))) (Own.reads (pred_at S.out (a := Own (Kd.int .u16) 36 A10 c10 ds) (by repeat (first | exact Spot.here _ _ | apply Spot.there)))) (Own.cap (pred_at S.out (a := Own (Kd.int .u16) 36 A10 c10 ds) (by repeat (first | exact Spot.here _ _ | apply Spot.there)))) (same_f _ HD1.out _ (Nat.lt_succ_self _)); (with_reducible refine c_.mono ?_); clear c_; rintro z_ w_ ⟨rfl, ⟨m_, rfl⟩⟩; have S_ := Aside0.mk (S.out.drewN m_); clear S; have S := S_; clear S_))
  have S2 := Aside0.mk S.out.drew
  clear S
  refine start_ (n := 13) (S := fun w' => w'.cell? ⟨g4, 0, none⟩ = some (.int .u64 now) ∧ w'.cell? ⟨g4, 1, none⟩ = some (.slice Ar rs.length cr)) (ds := []) #[false, false, false, false, false, false, false, false, false, false, false, false, false] (by kernel_rfl) rfl rfl ⟨((own_cell (g := g4) S2 (by repeat (first | exact Spot.here _ _ | apply Spot.there)) 0).trans rfl), ((own_cell (g := g4) S2 (by repeat (first | exact Spot.here _ _ | apply Spot.there)) 1).trans rfl)⟩ (fun hHeld => ?_)
  refine pure_ (i := 0) (N := some 13) (v := ?_) (a' := ?_) #[true, false, false, false, false, false, false, false, false, false, false, false, false] rfl rfl (by kernel_rfl) (fun _ _ _ h => h) (Or.inl ⟨by rfl, ?_⟩) ?_ ?_
  rotate_left
  · intro w'
    go_simp
    with_reducible rfl
  rotate_left
  · simp only [Act.put, List.setIfInBounds_toArray, List.set_cons_zero, List.set_cons_succ, i64_w, i32_w]
    rfl
  refine pure_ (i := 2) (N := some 15) (v := ?_) (a' := ?_) #[true, false, true, false, false, false, false, false, false, false, false, false, false] rfl rfl (by kernel_rfl) (fun _ _ _ h => h) (Or.inl ⟨by rfl, ?_⟩) ?_ ?_
  rotate_left
  · intro w'
    go_simp
    with_reducible rfl
  rotate_left
  · simp only [Act.put, List.setIfInBounds_toArray, List.set_cons_zero, List.set_cons_succ, i64_w, i32_w]
    rfl
  refine take_ (i := 3) (N := some 16) (v := ?_) (a' := ?_) #[true, false, true, true, false, false, false, false, false, false, false, false, false] rfl rfl (by kernel_rfl) (fun _ _ _ h => h) (Or.inl ⟨by rfl, ?_⟩) hHeld ?_ ?_
  rotate_left
  · rintro w' ⟨s0, s1⟩
    go_simp
    with_reducible rfl
  rotate_left
  · simp only [Act.put, List.setIfInBounds_toArray, List.set_cons_zero, List.set_cons_succ, i64_w, i32_w]
    rfl
  refine one_ (i := 1) (N := some 14) #[true, true, true, true, false, false, false, false, false, false, false, false, false] rfl rfl (by kernel_rfl) (by decide) (fun K hK => ?_)
  refine goes_ Try.func18 (by kernel_rfl) rfl #[.pointer (some ⟨g, 0, none⟩)] (by rfl) rfl rfl (by simp only [List.map_toArray, List.map_cons, List.map_nil]; rfl) ?_
  with_reducible refine (now_calls g now A c ws _ (HQ.out.below S2.out.below)).mono ?_
  rintro z9 w3 ⟨rfl, hb3⟩
  have S3 := Aside0.mk (S2.out.keep hb3)
  refine ⟨_, rfl, ?_⟩
  refine hK.out _ _ ⟨((own_cell (g := g4) S3 (by repeat (first | exact Spot.here _ _ | apply Spot.there)) 0).trans rfl), ((own_cell (g := g4) S3 (by repeat (first | exact Spot.here _ _ | apply Spot.there)) 1).trans rfl)⟩ (fun hHeld => ?_)
  clear hK K
  refine norm_ (a' := ?_) ?_ ?_
  rotate_left
  · show Act.put _ (some 14) _ = _
    simp only [Act.put, List.setIfInBounds_toArray, List.set_cons_zero, List.set_cons_succ, i64_w, i32_w]
    rfl
  refine pure_ (i := 4) (N := some 17) (v := ?_) (a' := ?_) #[true, true, true, true, true, false, false, false, false, false, false, false, false] rfl rfl (by kernel_rfl) (fun _ _ _ h => h) (Or.inl ⟨by rfl, ?_⟩) ?_ ?_
  rotate_left
  · intro w'
    go_simp
    with_reducible rfl
  rotate_left
  · simp only [Act.put, List.setIfInBounds_toArray, List.set_cons_zero, List.set_cons_succ, i64_w, i32_w]
    rfl
  refine pure_ (i := 5) (N := some 18) (v := ?_) (a' := ?_) #[true, true, true, true, true, true, false, false, false, false, false, false, false] rfl rfl (by kernel_rfl) (fun _ _ _ h => h) (Or.inl ⟨by rfl, ?_⟩) ?_ ?_
  rotate_left
  · intro w'
    go_simp
    with_reducible rfl
  rotate_left
  · simp only [Act.put, List.setIfInBounds_toArray, List.set_cons_zero, List.set_cons_succ, i64_w, i32_w]
    rfl
  refine pure_ (i := 6) (N := some 19) (v := ?_) (a' := ?_) #[true, true, true, true, true, true, true, false, false, false, false, false, false] rfl rfl (by kernel_rfl) (fun _ _ _ h => h) (Or.inl ⟨by rfl, ?_⟩) ?_ ?_
  rotate_left
  · intro w'
    go_simp
    with_reducible rfl
  rotate_left
  · simp only [Act.put, List.setIfInBounds_toArray, List.set_cons_zero, List.set_cons_succ, i64_w, i32_w]
    rfl
  refine pure_ (i := 7) (N := some 20) (v := ?_) (a' := ?_) #[true, true, true, true, true, true, true, true, false, false, false, false, false] rfl rfl (by kernel_rfl) (fun _ _ _ h => h) (Or.inl ⟨by rfl, ?_⟩) ?_ ?_
  rotate_left
  · intro w'
    go_simp
    with_reducible rfl
  rotate_left
  · simp only [Act.put, List.setIfInBounds_toArray, List.set_cons_zero, List.set_cons_succ, i64_w, i32_w]
    rfl
  refine pure_ (i := 8) (N := some 21) (v := ?_) (a' := ?_) #[true, true, true, true, true, true, true, true, true, false, false, false, false] rfl rfl (by kernel_rfl) (fun _ _ _ h => h) (Or.inl ⟨by rfl, ?_⟩) ?_ ?_
  rotate_left
  · intro w'
    go_simp
    with_reducible rfl
  rotate_left
  · simp only [Act.put, List.setIfInBounds_toArray, List.set_cons_zero, List.set_cons_succ, i64_w, i32_w]
    rfl
  refine take_ (i := 9) (N := some 22) (v := ?_) (a' := ?_) #[true, true, true, true, true, true, true, true, true, true, false, false, false] rfl rfl (by kernel_rfl) (fun _ _ _ h => h) (Or.inl ⟨by rfl, ?_⟩) hHeld ?_ ?_
  rotate_left
  · rintro w' ⟨s0, s1⟩
    go_simp
    with_reducible rfl
  rotate_left
  · simp only [Act.put, List.setIfInBounds_toArray, List.set_cons_zero, List.set_cons_succ, i64_w, i32_w]
    rfl
  refine pure_ (i := 10) (N := some 23) (v := ?_) (a' := ?_) #[true, true, true, true, true, true, true, true, true, true, true, false, false] rfl rfl (by kernel_rfl) (fun _ _ _ h => h) (Or.inl ⟨by rfl, ?_⟩) ?_ ?_
  rotate_left
  · intro w'
    go_simp
    with_reducible rfl
  rotate_left
  · simp only [Act.put, List.setIfInBounds_toArray, List.set_cons_zero, List.set_cons_succ, i64_w, i32_w]
    rfl
  refine pure_ (i := 11) (N := some 24) (v := ?_) (a' := ?_) #[true, true, true, true, true, true, true, true, true, true, true, true, false] rfl rfl (by kernel_rfl) (fun _ _ _ h => h) (Or.inl ⟨by rfl, ?_⟩) ?_ ?_
  rotate_left
  · intro w'
    go_simp
    with_reducible rfl
  rotate_left
  · simp only [Act.put, List.setIfInBounds_toArray, List.set_cons_zero, List.set_cons_succ, i64_w, i32_w]
    rfl
  refine pure_ (i := 12) (N := some 25) (v := ?_) (a' := ?_) #[true, true, true, true, true, true, true, true, true, true, true, true, true] rfl rfl (by kernel_rfl) (fun _ _ _ h => h) (Or.inl ⟨by rfl, ?_⟩) ?_ ?_
  rotate_left
  · intro w'
    go_simp
    with_reducible rfl
  rotate_left
  · simp only [Act.put, List.setIfInBounds_toArray, List.set_cons_zero, List.set_cons_succ, i64_w, i32_w]
    rfl
  refine done_ (by kernel_rfl) ?_

  clear S2
  have S := S3
  clear S3
  go_wp2_with (first | (refine ev_load1 ?_ rfl o23 rfl HX.out ?_; (first | exact want0 rfl | exact want1 rfl rfl rfl rfl)) | (refine ev_field46 (g := g7) (i := i) (c := c7) (xs := ys) S ?_ rfl rfl s23 rfl rfl (by repeat (first | exact Spot.here _ _ | apply Spot.there)) (by omega) ?_; (first | exact want0 rfl | exact want1 rfl rfl rfl rfl); intro w_ S_; clear S; have S := S_; clear S_) | ((with_reducible refine gate_dst (N := 4) rfl ?_); refine ev_boxs S ?_ 4 rfl rfl rfl ?_; (first | exact want0 rfl | exact want1 rfl rfl rfl rfl); intro g4 w4 S_; clear S; have S := S_; clear S_) | (refine ev_own1 S ?_ rfl o23 rfl (by repeat (first | exact Spot.here _ _ | apply Spot.there)) (by exact rfl) ?_; (first | exact want0 rfl | exact want1 rfl rfl rfl rfl)) | (refine ev_own1 S ?_ rfl o31 rfl (by repeat (first | exact Spot.here _ _ | apply Spot.there)) (by exact rfl) ?_; (first | exact want0 rfl | exact want1 rfl rfl rfl rfl)) | (refine ev_owns (vs := [_, _]) S ?_ rfl m46 rfl (by repeat (first | exact Spot.here _ _ | apply Spot.there)) (by exact rfl) ?_; (first | exact want0 rfl | exact want1 rfl rfl rfl rfl)) | (refine ev_owns (vs := [_, _]) S ?_ rfl m67 rfl (by repeat (first | exact Spot.here _ _ | apply Spot.there)) (by exact rfl) ?_; (first | exact want0 rfl | exact want1 rfl rfl rfl rfl)) | (refine ev_put1 S ?_ rfl rfl s23 rfl rfl (by repeat (first | exact Spot.here _ _ | apply Spot.there)) ?_ ?_ ?_; (first | exact want0 rfl | exact want1 rfl rfl rfl rfl); rfl; rfl; intro w_ S_; simp only [putAt, List.set_cons_zero, List.set_cons_succ] at S_; clear S; have S := S_; clear S_) | (refine ev_owns (vs := [_, _]) S ?_ rfl m33 rfl (by repeat (first | exact Spot.here _ _ | apply Spot.there)) (by exact rfl) ?_; (first | exact want0 rfl | exact want1 rfl rfl rfl rfl)) | ((with_reducible refine gate_dst (N := 9) rfl ?_); refine ev_alloc #[.int .u64 0, .slice none 0 0] rfl S ?_ 9 rfl rfl z33 ?_; (first | exact want0 rfl | exact want1 rfl rfl rfl rfl); intro g9 w9 S_; clear S; have S := S_; clear S_) | (refine ev_puts S ?_ rfl rfl s33 rfl rfl (by repeat (first | exact Spot.here _ _ | apply Spot.there)) rfl ?_ ?_ ?_; (first | exact want0 rfl | exact want1 rfl rfl rfl rfl); rfl; rfl; intro w_ S_; simp only [putAt, List.set_cons_zero, List.set_cons_succ] at S_; clear S; have S := S_; clear S_) | (go_at_call 17; have c_ := waiting3 S (HQ.out.below S.out.below) HM.out; (with_reducible refine c_.mono ?_); clear c_; rintro z_ w_ ⟨A7, c7, rfl, S_⟩; clear S; have S := S_; clear S_) | (go_at_call 24; have c_ := rtake_ev (now := now) (ws := ws) (rs := rs) (krs := krs) (Ar := Ar) (cr := cr) (Ah := Ah) (ch := ch) (hs := hs) (ds := ds) S HM.out HE.out (Kd.C_below HR.out S.out.below) HL.out (Kd.C_below HC.out S.out.below) hc HDS.out HKR.out; (with_reducible refine c_.mono ?_); clear c_; rintro z_ w_ ⟨A9, c9, A10, c10, rfl, h9_, S_⟩; clear h9_; clear S; have S := S_; clear S_) | (go_at_call 16; have c_ := due3 S (HQ.out.below S.out.below) HM.out (Kd.C_below HC.out S.out.below) hc HDS.out; (with_reducible refine c_.mono ?_); clear c_; rintro z_ w_ ⟨A11, c11, rfl, S_⟩; clear S; have S := S_; clear S_) | (go_at_call 23; have c_ := budwoodlaw17_sameOwners.calls ds.length.succ A11 c11 ds A10 c10 ds true _ (Own.reads (pred_at S.out (a := Own (Kd.int .u16) 36 A11 c11 ds) (by repeat (first | exact Spot.here _ _ | apply Spot.there)))) (Own.cap (pred_at S.out (a := Own (Kd.int .u16) 36 A11 c11 ds) (by repeat (first | exact Spot.here _ _ | apply Spot.there)))) (Own.reads (pred_at S.out (a := Own (Kd.int .u16) 36 A10 c10 ds) (by repeat (first | exact Spot.here _ _ | apply Spot.there)))) (Own.cap (pred_at S.out (a := Own (Kd.int .u16) 36 A10 c10 ds) (by repeat (first | exact Spot.here _ _ | apply Spot.there)))) (same_f _ HD1.out _ (Nat.lt_succ_self _)); (with_reducible refine c_.mono ?_); clear c_; rintro z_ w_ ⟨rfl, ⟨m_, rfl⟩⟩; have S_ := Aside0.mk (S.out.drewN m_); clear S; have S := S_; clear S_))
  go_loopw [8] (fun v8 wr => ∃ (i : Nat) (ys : List S46), v8 = .int .i64 i ∧ i ≤ ws.length ∧ Aside0 (ys.length = ws.length ∧ ys.drop i = ws.drop i) ∧ Aside0 (St w.heap.size w wr [Own k46 46 A7 c7 ys, Bk g4 #[.int .u64 now, .slice Ar rs.length cr] 33])) (fun v8 _ => ws.length - (intOf v8).toNat)
  case atStart => exact ⟨0, ws, rfl, Nat.zero_le _, ⟨rfl, rfl⟩, S⟩
  case round =>
    clear S
    obtain ⟨i, ys, rfl, hi, HY, S⟩ := hrel
    by_cases hlt : i < ws.length
    · have hd2 : decide ((i : Int) < (ws.length : Int)) = true := decide_eq_true (by omega)
      have hil : (i : Int) < (ws.length : Int) := by omega
      have hi0 : (0 : Int) ≤ (i : Int) := by omega
      have hir : (i : Int) < (rs.length : Int) := by have := HN.out; omega
      have hi1 : wrap64 ((i : Int) + 1) = ((i + 1 : Nat) : Int) := by unfold wrap64; omega
      have hiy : i < ys.length := by have := HY.out.1; omega
      go_wp2
      have S2 := Aside0.mk S.out.drew
      clear S
      obtain ⟨g7, e7⟩ := Own.form (pred_at S2.out (a := Own k46 46 A7 c7 ys) (by repeat (first | exact Spot.here _ _ | apply Spot.there))) (by omega)
      subst e7
      obtain ⟨cs, hcs, hH⟩ := Own.elem (pred_at S2.out (a := Own k46 46 (some ⟨g7, 0, none⟩) c7 ys) (by repeat (first | exact Spot.here _ _ | apply Spot.there))) PC.z46 i hiy
      obtain rfl := k46_open hcs
      obtain ⟨ad, rfl, hj0, hj1⟩ := at_T67 HR.out (i : Int) hi0 hir
      rw [Int.toNat_natCast] at hj0 hj1
      have ex : rd_T67 rs (i : Int) = cv (ys.getD i PC.z46) := by
        unfold rd_T67
        rw [HE.out, Int.toNat_natCast]
        have h1 := congrArg (fun l => l.getD 0 PC.z46) HY.out.2
        simp only [List.getD_eq_getElem?_getD, List.getElem?_drop, Nat.add_zero] at h1 ⊢
        rw [h1, List.getElem?_map, List.getElem?_eq_getElem hlt]; rfl
      rw [ex] at hj0 hj1
      have HH := Aside0.mk (show Has wr.drew ⟨g7, i * 2, none⟩ [.int .u16 (ys.getD i PC.z46).f0, .int .u64 (ys.getD i PC.z46).f1] from hH)
      have HJ0 := Aside0.mk (show wr.drew.cell? (ad.add (i * 2)) = some (.int .u16 (ys.getD i PC.z46).f0) from old_ S2 hj0)
      have HJ1 := Aside0.mk (show wr.drew.cell? ⟨(ad.add (i * 2)).block, (ad.add (i * 2)).off + 1, none⟩ = some (.int .u64 (ys.getD i PC.z46).f1) from old_ S2 hj1)
      have HX := Aside0.mk (show wr.drew.cell? ⟨g7, i * 2 + 1, none⟩ = some (.int .u64 (ys.getD i PC.z46).f1) from hH 1 _ rfl)
      clear hH hj0 hj1 hcs ex
      refine start_ (n := 10) (S := fun w' => w'.cell? ⟨g4, 1, none⟩ = some (.slice (some ad) rs.length cr) ∧ w'.cell? ⟨g7, i * 2, none⟩ = some (.int .u16 (ys.getD i PC.z46).f0) ∧ w'.cell? ⟨g7, i * 2 + 1, none⟩ = some (.int .u64 (ys.getD i PC.z46).f1) ∧ w'.cell? (ad.add (i * 2)) = some (.int .u16 (ys.getD i PC.z46).f0) ∧ w'.cell? ⟨(ad.add (i * 2)).block, (ad.add (i * 2)).off + 1, none⟩ = some (.int .u64 (ys.getD i PC.z46).f1)) (ds := []) #[false, false, false, false, false, false, false, false, false, false] (by kernel_rfl) rfl rfl ⟨((own_cell (g := g4) S2 (by repeat (first | exact Spot.here _ _ | apply Spot.there)) 1).trans rfl), (HH.out 0 _ rfl), HX.out, HJ0.out, HJ1.out⟩ (fun hHeld => ?_)
      refine pure_ (i := 0) (N := some 32) (v := ?_) (a' := ?_) #[true, false, false, false, false, false, false, false, false, false] rfl rfl (by kernel_rfl) (fun _ _ _ h => h) (Or.inl ⟨by rfl, ?_⟩) ?_ ?_
      rotate_left
      · intro w'
        go_simp
        with_reducible rfl
      rotate_left
      · simp only [Act.put, List.setIfInBounds_toArray, List.set_cons_zero, List.set_cons_succ, i64_w, i32_w]
        rfl
      refine pure_ (i := 1) (N := some 33) (v := ?_) (a' := ?_) #[true, true, false, false, false, false, false, false, false, false] rfl rfl (by kernel_rfl) (fun _ _ _ h => h) (Or.inl ⟨by rfl, ?_⟩) ?_ ?_
      rotate_left
      · intro w'
        go_simp
        with_reducible rfl
      rotate_left
      · simp only [Act.put, List.setIfInBounds_toArray, List.set_cons_zero, List.set_cons_succ, i64_w, i32_w]
        rfl
      refine pure_ (i := 2) (N := some 34) (v := ?_) (a' := ?_) #[true, true, true, false, false, false, false, false, false, false] rfl rfl (by kernel_rfl) (fun _ _ _ h => h) (Or.inl ⟨by rfl, ?_⟩) ?_ ?_
      rotate_left
      · intro w'
        go_simp
        with_reducible rfl
      rotate_left
      · simp only [Act.put, List.setIfInBounds_toArray, List.set_cons_zero, List.set_cons_succ, i64_w, i32_w]
        rfl
      refine pure_ (i := 4) (N := some 36) (v := ?_) (a' := ?_) #[true, true, true, false, true, false, false, false, false, false] rfl rfl (by kernel_rfl) (fun _ _ _ h => h) (Or.inl ⟨by rfl, ?_⟩) ?_ ?_
      rotate_left
      · intro w'
        go_simp
        with_reducible rfl
      rotate_left
      · simp only [Act.put, List.setIfInBounds_toArray, List.set_cons_zero, List.set_cons_succ, i64_w, i32_w]
        rfl
      refine pure_ (i := 6) (N := some 38) (v := ?_) (a' := ?_) #[true, true, true, false, true, false, true, false, false, false] rfl rfl (by kernel_rfl) (fun _ _ _ h => h) (Or.inl ⟨by rfl, ?_⟩) ?_ ?_
      rotate_left
      · intro w'
        go_simp
        with_reducible rfl
      rotate_left
      · simp only [Act.put, List.setIfInBounds_toArray, List.set_cons_zero, List.set_cons_succ, i64_w, i32_w]
        rfl
      refine take_ (i := 3) (N := some 35) (v := ?_) (a' := ?_) #[true, true, true, true, true, false, true, false, false, false] rfl rfl (by kernel_rfl) (fun _ _ _ h => h) (Or.inl ⟨by rfl, ?_⟩) hHeld ?_ ?_
      rotate_left
      · rintro w' ⟨s0, s1, s2, s3, s4⟩
        go_simp
        with_reducible rfl
      rotate_left
      · simp only [Act.put, List.setIfInBounds_toArray, List.set_cons_zero, List.set_cons_succ, i64_w, i32_w]
        rfl
      refine take_ (i := 5) (N := some 37) (v := ?_) (a' := ?_) #[true, true, true, true, true, true, true, false, false, false] rfl rfl (by kernel_rfl) (fun _ _ _ h => h) (Or.inl ⟨by rfl, ?_⟩) hHeld ?_ ?_
      rotate_left
      · rintro w' ⟨s0, s1, s2, s3, s4⟩
        go_simp
        with_reducible rfl
      rotate_left
      · simp only [Act.put, List.setIfInBounds_toArray, List.set_cons_zero, List.set_cons_succ, i64_w, i32_w]
        rfl
      refine pure_ (i := 7) (N := some 39) (v := ?_) (a' := ?_) #[true, true, true, true, true, true, true, true, false, false] rfl rfl (by kernel_rfl) (fun _ _ _ h => h) (Or.inl ⟨by rfl, ?_⟩) ?_ ?_
      rotate_left
      · intro w'
        go_simp
        with_reducible rfl
      rotate_left
      · simp only [Act.put, List.setIfInBounds_toArray, List.set_cons_zero, List.set_cons_succ, i64_w, i32_w]
        rfl
      refine take_ (i := 8) (N := some 40) (v := ?_) (a' := ?_) #[true, true, true, true, true, true, true, true, true, false] rfl rfl (by kernel_rfl) (fun _ _ _ h => h) (Or.inl ⟨by rfl, ?_⟩) hHeld ?_ ?_
      rotate_left
      · rintro w' ⟨s0, s1, s2, s3, s4⟩
        go_simp
        with_reducible rfl
      rotate_left
      · simp only [Act.put, List.setIfInBounds_toArray, List.set_cons_zero, List.set_cons_succ, i64_w, i32_w]
        rfl
      refine pure_ (i := 9) (N := some 41) (v := ?_) (a' := ?_) #[true, true, true, true, true, true, true, true, true, true] rfl rfl (by kernel_rfl) (fun _ _ _ h => h) (Or.inl ⟨by rfl, ?_⟩) ?_ ?_
      rotate_left
      · intro w'
        go_simp
        with_reducible rfl
      rotate_left
      · simp only [Act.put, List.setIfInBounds_toArray, List.set_cons_zero, List.set_cons_succ, i64_w, i32_w]
        rfl
      refine done_ (by kernel_rfl) ?_

      have S := S2
      clear S2
      go_wp2_with (first | (refine ev_load1 ?_ rfl o23 rfl HX.out ?_; (first | exact want0 rfl | exact want1 rfl rfl rfl rfl)) | (refine ev_field46 (g := g7) (i := i) (c := c7) (xs := ys) S ?_ rfl rfl s23 rfl rfl (by repeat (first | exact Spot.here _ _ | apply Spot.there)) (by omega) ?_; (first | exact want0 rfl | exact want1 rfl rfl rfl rfl); intro w_ S_; clear S; have S := S_; clear S_) | ((with_reducible refine gate_dst (N := 4) rfl ?_); refine ev_boxs S ?_ 4 rfl rfl rfl ?_; (first | exact want0 rfl | exact want1 rfl rfl rfl rfl); intro g4 w4 S_; clear S; have S := S_; clear S_) | (refine ev_own1 S ?_ rfl o23 rfl (by repeat (first | exact Spot.here _ _ | apply Spot.there)) (by exact rfl) ?_; (first | exact want0 rfl | exact want1 rfl rfl rfl rfl)) | (refine ev_own1 S ?_ rfl o31 rfl (by repeat (first | exact Spot.here _ _ | apply Spot.there)) (by exact rfl) ?_; (first | exact want0 rfl | exact want1 rfl rfl rfl rfl)) | (refine ev_owns (vs := [_, _]) S ?_ rfl m46 rfl (by repeat (first | exact Spot.here _ _ | apply Spot.there)) (by exact rfl) ?_; (first | exact want0 rfl | exact want1 rfl rfl rfl rfl)) | (refine ev_owns (vs := [_, _]) S ?_ rfl m67 rfl (by repeat (first | exact Spot.here _ _ | apply Spot.there)) (by exact rfl) ?_; (first | exact want0 rfl | exact want1 rfl rfl rfl rfl)) | (refine ev_put1 S ?_ rfl rfl s23 rfl rfl (by repeat (first | exact Spot.here _ _ | apply Spot.there)) ?_ ?_ ?_; (first | exact want0 rfl | exact want1 rfl rfl rfl rfl); rfl; rfl; intro w_ S_; simp only [putAt, List.set_cons_zero, List.set_cons_succ] at S_; clear S; have S := S_; clear S_) | (refine ev_owns (vs := [_, _]) S ?_ rfl m33 rfl (by repeat (first | exact Spot.here _ _ | apply Spot.there)) (by exact rfl) ?_; (first | exact want0 rfl | exact want1 rfl rfl rfl rfl)) | ((with_reducible refine gate_dst (N := 9) rfl ?_); refine ev_alloc #[.int .u64 0, .slice none 0 0] rfl S ?_ 9 rfl rfl z33 ?_; (first | exact want0 rfl | exact want1 rfl rfl rfl rfl); intro g9 w9 S_; clear S; have S := S_; clear S_) | (refine ev_puts S ?_ rfl rfl s33 rfl rfl (by repeat (first | exact Spot.here _ _ | apply Spot.there)) rfl ?_ ?_ ?_; (first | exact want0 rfl | exact want1 rfl rfl rfl rfl); rfl; rfl; intro w_ S_; simp only [putAt, List.set_cons_zero, List.set_cons_succ] at S_; clear S; have S := S_; clear S_) | (go_at_call 17; have c_ := waiting3 S (HQ.out.below S.out.below) HM.out; (with_reducible refine c_.mono ?_); clear c_; rintro z_ w_ ⟨A7, c7, rfl, S_⟩; clear S; have S := S_; clear S_) | (go_at_call 24; have c_ := rtake_ev (now := now) (ws := ws) (rs := rs) (krs := krs) (Ar := Ar) (cr := cr) (Ah := Ah) (ch := ch) (hs := hs) (ds := ds) S HM.out HE.out (Kd.C_below HR.out S.out.below) HL.out (Kd.C_below HC.out S.out.below) hc HDS.out HKR.out; (with_reducible refine c_.mono ?_); clear c_; rintro z_ w_ ⟨A9, c9, A10, c10, rfl, h9_, S_⟩; clear h9_; clear S; have S := S_; clear S_) | (go_at_call 16; have c_ := due3 S (HQ.out.below S.out.below) HM.out (Kd.C_below HC.out S.out.below) hc HDS.out; (with_reducible refine c_.mono ?_); clear c_; rintro z_ w_ ⟨A11, c11, rfl, S_⟩; clear S; have S := S_; clear S_) | (go_at_call 23; have c_ := budwoodlaw17_sameOwners.calls ds.length.succ A11 c11 ds A10 c10 ds true _ (Own.reads (pred_at S.out (a := Own (Kd.int .u16) 36 A11 c11 ds) (by repeat (first | exact Spot.here _ _ | apply Spot.there)))) (Own.cap (pred_at S.out (a := Own (Kd.int .u16) 36 A11 c11 ds) (by repeat (first | exact Spot.here _ _ | apply Spot.there)))) (Own.reads (pred_at S.out (a := Own (Kd.int .u16) 36 A10 c10 ds) (by repeat (first | exact Spot.here _ _ | apply Spot.there)))) (Own.cap (pred_at S.out (a := Own (Kd.int .u16) 36 A10 c10 ds) (by repeat (first | exact Spot.here _ _ | apply Spot.there)))) (same_f _ HD1.out _ (Nat.lt_succ_self _)); (with_reducible refine c_.mono ?_); clear c_; rintro z_ w_ ⟨rfl, ⟨m_, rfl⟩⟩; have S_ := Aside0.mk (S.out.drewN m_); clear S; have S := S_; clear S_))
      refine ⟨⟨i + 1, _, by simp [hi1], by omega, ⟨by simp [HY.out.1], ?_⟩, S⟩, ?_⟩
      · have h1 := congrArg (List.drop 1) HY.out.2
        rw [List.drop_set_of_lt (by omega)]
        simpa [List.drop_drop, Nat.add_comm] using h1
      · simp [intOf, hi1]; omega
    · obtain rfl : i = ws.length := by omega
      have hd2 : decide ((ws.length : Int) < (ws.length : Int)) = false := decide_eq_false (by omega)
      go_wp2_with (first | (refine ev_load1 ?_ rfl o23 rfl HX.out ?_; (first | exact want0 rfl | exact want1 rfl rfl rfl rfl)) | (refine ev_field46 (g := g7) (i := i) (c := c7) (xs := ys) S ?_ rfl rfl s23 rfl rfl (by repeat (first | exact Spot.here _ _ | apply Spot.there)) (by omega) ?_; (first | exact want0 rfl | exact want1 rfl rfl rfl rfl); intro w_ S_; clear S; have S := S_; clear S_) | ((with_reducible refine gate_dst (N := 4) rfl ?_); refine ev_boxs S ?_ 4 rfl rfl rfl ?_; (first | exact want0 rfl | exact want1 rfl rfl rfl rfl); intro g4 w4 S_; clear S; have S := S_; clear S_) | (refine ev_own1 S ?_ rfl o23 rfl (by repeat (first | exact Spot.here _ _ | apply Spot.there)) (by exact rfl) ?_; (first | exact want0 rfl | exact want1 rfl rfl rfl rfl)) | (refine ev_own1 S ?_ rfl o31 rfl (by repeat (first | exact Spot.here _ _ | apply Spot.there)) (by exact rfl) ?_; (first | exact want0 rfl | exact want1 rfl rfl rfl rfl)) | (refine ev_owns (vs := [_, _]) S ?_ rfl m46 rfl (by repeat (first | exact Spot.here _ _ | apply Spot.there)) (by exact rfl) ?_; (first | exact want0 rfl | exact want1 rfl rfl rfl rfl)) | (refine ev_owns (vs := [_, _]) S ?_ rfl m67 rfl (by repeat (first | exact Spot.here _ _ | apply Spot.there)) (by exact rfl) ?_; (first | exact want0 rfl | exact want1 rfl rfl rfl rfl)) | (refine ev_put1 S ?_ rfl rfl s23 rfl rfl (by repeat (first | exact Spot.here _ _ | apply Spot.there)) ?_ ?_ ?_; (first | exact want0 rfl | exact want1 rfl rfl rfl rfl); rfl; rfl; intro w_ S_; simp only [putAt, List.set_cons_zero, List.set_cons_succ] at S_; clear S; have S := S_; clear S_) | (refine ev_owns (vs := [_, _]) S ?_ rfl m33 rfl (by repeat (first | exact Spot.here _ _ | apply Spot.there)) (by exact rfl) ?_; (first | exact want0 rfl | exact want1 rfl rfl rfl rfl)) | ((with_reducible refine gate_dst (N := 9) rfl ?_); refine ev_alloc #[.int .u64 0, .slice none 0 0] rfl S ?_ 9 rfl rfl z33 ?_; (first | exact want0 rfl | exact want1 rfl rfl rfl rfl); intro g9 w9 S_; clear S; have S := S_; clear S_) | (refine ev_puts S ?_ rfl rfl s33 rfl rfl (by repeat (first | exact Spot.here _ _ | apply Spot.there)) rfl ?_ ?_ ?_; (first | exact want0 rfl | exact want1 rfl rfl rfl rfl); rfl; rfl; intro w_ S_; simp only [putAt, List.set_cons_zero, List.set_cons_succ] at S_; clear S; have S := S_; clear S_) | (go_at_call 17; have c_ := waiting3 S (HQ.out.below S.out.below) HM.out; (with_reducible refine c_.mono ?_); clear c_; rintro z_ w_ ⟨A7, c7, rfl, S_⟩; clear S; have S := S_; clear S_) | (go_at_call 24; have c_ := rtake_ev (now := now) (ws := ws) (rs := rs) (krs := krs) (Ar := Ar) (cr := cr) (Ah := Ah) (ch := ch) (hs := hs) (ds := ds) S HM.out HE.out (Kd.C_below HR.out S.out.below) HL.out (Kd.C_below HC.out S.out.below) hc HDS.out HKR.out; (with_reducible refine c_.mono ?_); clear c_; rintro z_ w_ ⟨A9, c9, A10, c10, rfl, h9_, S_⟩; clear h9_; clear S; have S := S_; clear S_) | (go_at_call 16; have c_ := due3 S (HQ.out.below S.out.below) HM.out (Kd.C_below HC.out S.out.below) hc HDS.out; (with_reducible refine c_.mono ?_); clear c_; rintro z_ w_ ⟨A11, c11, rfl, S_⟩; clear S; have S := S_; clear S_) | (go_at_call 23; have c_ := budwoodlaw17_sameOwners.calls ds.length.succ A11 c11 ds A10 c10 ds true _ (Own.reads (pred_at S.out (a := Own (Kd.int .u16) 36 A11 c11 ds) (by repeat (first | exact Spot.here _ _ | apply Spot.there)))) (Own.cap (pred_at S.out (a := Own (Kd.int .u16) 36 A11 c11 ds) (by repeat (first | exact Spot.here _ _ | apply Spot.there)))) (Own.reads (pred_at S.out (a := Own (Kd.int .u16) 36 A10 c10 ds) (by repeat (first | exact Spot.here _ _ | apply Spot.there)))) (Own.cap (pred_at S.out (a := Own (Kd.int .u16) 36 A10 c10 ds) (by repeat (first | exact Spot.here _ _ | apply Spot.there)))) (same_f _ HD1.out _ (Nat.lt_succ_self _)); (with_reducible refine c_.mono ?_); clear c_; rintro z_ w_ ⟨rfl, ⟨m_, rfl⟩⟩; have S_ := Aside0.mk (S.out.drewN m_); clear S; have S := S_; clear S_))
      go_ret
      exact ⟨rfl, S.out.below⟩
end Go.Proofs.Ytajmfmgfdgdioaa.Cl
