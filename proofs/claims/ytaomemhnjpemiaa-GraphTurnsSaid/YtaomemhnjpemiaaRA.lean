/- The document's Add. -/
import Derived.Test.YtaomemhnjpemiaaGr
namespace Go.Proofs.Ytaomemhnjpemiaa.Mp
open Go Go.Maps Go.RowKit Go.Proofs.Ytaomemhnjpemiaa.PB Go.Proofs.Ytaomemhnjpemiaa.Doc Go.Proofs.Ytaomemhnjpemiaa.Sep Go.Proofs.Ytaomemhnjpemiaa.Ev Go.Proofs.Ytaomemhnjpemiaa.Ty Go.Proofs.YtaomemhnjpemiaaW.PrintWords Go.Proofs.YtaomemhnjpemiaaW.PrintLast Go.Proofs.YtaomemhnjpemiaaW.PrintMore
set_option linter.unusedVariables false
set_option linter.unusedSimpArgs false

theorem setCells_grown (W : World) (g i : Nat) (seg : List Value) : W.grownBy (W.setCells g i seg) (some g) := by
 obtain ⟨s1, s2, s3, s4⟩ := setCells_same g seg i W
 exact ⟨s1, s2, s3, by omega, fun k _ hne => setCells_far seg i k (fun e => hne (by rw [e]))⟩
section
variable {P : Program} {ops : Array Oper} {rest : List Oper} {o : Oper} {a : Act} {Q : Exit → Act → World → Prop} {K : Act → World → Prop} {B : Nat} {w W : World} {L : List Asn} {F : Asn → List Asn}
theorem ev_putsG {t : TypeId} {p x : Operand} {g i n : Nat} {cs seg : List Value} {T : TypeId} (S : Aside0 (St B w W L)) (hw : Region.wanted o (yielded ops a.tmps) = true) (hN : o.dst = none) (ho : o.op = .store t p x) (ht : (P.info? t).map (·.size) = some n)
  (hp : a.eval p = .pointer (some ⟨g, i, none⟩)) (hx : holds a x = some (.agg seg.toArray)) (hs : Spot L (Bk g cs.toArray T) F) (hn : seg.length = n) (hfit : Nat.ble (i + n) cs.length = true) (h1 : seg.all (fun q => q.oneCell') = true)
  (h : ∀ w1, Aside0 (St B w w1 (F (Bk g (putAt cs i seg).toArray T))) → Aside0 (W.grownBy w1 (some g)) → wpList P ops Q rest a w1) : wpList P ops Q (o :: rest) a W := by
 have hg : W.heap[g]? = some (.cells cs.toArray T (0, 0)) := Bk.heap (pred_at S.out hs)
 have hr : (Instr.storeAt t (.pointer (some ⟨g, i, none⟩)) (.agg seg.toArray)).run P W = .ok () (W.setCells g i seg) :=
  run_store_run t _ seg hg (by simp [Value.cells]) (by rw [hn]; exact ht) (by have := Nat.le_of_ble_eq_true hfit; rw [hn]; simpa using this) (fun q hq => List.all_eq_true.1 h1 q hq)
 refine wpList_step fun K hK => ?_
 rw [if_pos hw]
 unfold Oper.wp execOp
 simp only [ho, hp, eval_of hx, Sem.run_bind, Sem.run_pure, Result.andThen_ok, hr]
 show K (a.put o.dst undef) _
 rw [hN]
 exact hK _ _ (h _ (put_st S hs) ⟨setCells_grown W g i seg⟩)
theorem st_putsG {t : TypeId} {p x : Operand} {g i n : Nat} {cs seg : List Value} {T : TypeId} (S : Aside0 (St B w W L)) (hw : Region.wanted o (yielded ops a.tmps) = true) (hN : o.dst = none) (ho : o.op = .store t p x) (ht : (P.info? t).map (·.size) = some n)
  (hp : a.eval p = .pointer (some ⟨g, i, none⟩)) (hx : holds a x = some (.agg seg.toArray)) (hs : Spot L (Bk g cs.toArray T) F) (hn : seg.length = n) (hfit : Nat.ble (i + n) cs.length = true) (h1 : seg.all (fun q => q.oneCell') = true)
  (h : ∀ w1, Aside0 (St B w w1 (F (Bk g (putAt cs i seg).toArray T))) → Aside0 (W.grownBy w1 (some g)) → K a w1) : if Region.wanted o (yielded ops a.tmps) = true then Oper.wp P o a W K Q else K (a.put none undef) W := by
 have hg : W.heap[g]? = some (.cells cs.toArray T (0, 0)) := Bk.heap (pred_at S.out hs)
 have hr : (Instr.storeAt t (.pointer (some ⟨g, i, none⟩)) (.agg seg.toArray)).run P W = .ok () (W.setCells g i seg) :=
  run_store_run t _ seg hg (by simp [Value.cells]) (by rw [hn]; exact ht) (by have := Nat.le_of_ble_eq_true hfit; rw [hn]; simpa using this) (fun q hq => List.all_eq_true.1 h1 q hq)
 rw [if_pos hw]
 unfold Oper.wp execOp
 simp only [ho, hp, eval_of hx, Sem.run_bind, Sem.run_pure, Result.andThen_ok, hr]
 show K (a.put o.dst undef) _
 rw [hN]
 exact h _ (put_st S hs) ⟨setCells_grown W g i seg⟩
end
theorem all_true {G : List S73} {xs : List ByteArray} (h : ∀ x ∈ xs, x ∈ names G) : decide (∀ a ∈ xs, a ∈ names G) = true := decide_eq_true h
theorem all_false {G : List S73} {xs : List ByteArray} (h : ¬ ∀ x ∈ xs, x ∈ names G) : decide (∀ a ∈ xs, a ∈ names G) = false := decide_eq_false h

set_option maxRecDepth 100000 in
set_option maxHeartbeats 8000000 in
theorem radd_there (P : Nat → Prop) (A : Option Addr) (c : Nat) (G : List S73) (s : ByteArray) (A1 : Option Addr) (c1 : Nat) (xs : List ByteArray) (w : World) (hV : Kd.V k73 73 w w.heap.size P (.slice A G.length c) G) (hG : Doc.Good G) (hn : G.length ≤ 1000) (hX : Kd.C Kd.string w A1 xs.length xs) (hxc : xs.length ≤ c1) (hxl : xs.length ≤ 1000) (hin : s ∈ names G) :
  Calls Try.prog 27 #[.agg #[.slice A G.length c], .string s, .slice A1 xs.length c1] w fun z w' => z = .returned (.tuple #[.agg #[.slice A G.length c], .int .i64 9]) ∧ Below w.heap.size w w' := by
 have HV := Aside0.mk hV
 have HC := Aside0.mk (Kd.V_reads' hV).2.2
 have HCC := Aside0.mk (Kd.V_reads' hV).2.1
 have HLN := Aside0.mk (show G.length < 9223372036854775807 by omega)
 have HN := Aside0.mk hn
 have HGG := Aside0.mk hG
 have HX := Aside0.mk hX
 have HXC := Aside0.mk hxc
 have HXL := Aside0.mk hxl
 have HLX := Aside0.mk (show xs.length < 9223372036854775807 by omega)
 have HP := Aside0.mk (decide_eq_true hin)
 have S := Aside0.mk (St.start w)
 clear hV hG hn hX hxc hxl hin
 go_enter Try.func27, Try.ntmps27
 go_wp2_with (first | ((with_reducible refine gate_dst (N := 3) rfl ?_); refine ev_boxs S ?_ 3 rfl rfl rfl ?_; (first | exact want0 rfl | exact want1 rfl rfl rfl rfl); intro g3 w3 S_; clear S; have S := S_; clear S_) | ((with_reducible refine gate_dst (N := 6) rfl ?_); refine ev_alloc #[.slice none 0 0] rfl S ?_ 6 rfl rfl Ty.z29 ?_; (first | exact want0 rfl | exact want1 rfl rfl rfl rfl); intro g6 w6 S_; clear S; have S := S_; clear S_) | (refine ev_owns (vs := [_]) S ?_ rfl m29 rfl (by repeat (first | exact Spot.here _ _ | apply Spot.there)) (by exact rfl) ?_; (first | exact want0 rfl | exact want1 rfl rfl rfl rfl)) | (refine ev_puts S ?_ rfl rfl s29 rfl rfl (by repeat (first | exact Spot.here _ _ | apply Spot.there)) rfl ?_ ?_ ?_; (first | exact want0 rfl | exact want1 rfl rfl rfl rfl); rfl; rfl; intro w_ S_; simp only [putAt, List.set_cons_zero, List.set_cons_succ] at S_; clear S; have S := S_; clear S_) | (go_at_call 31; have c_ := budwoodref14_Graph_Has.calls _ A c G s _ _ (Kd.C_below HC.out S.out.below) HCC.out (has_f G s HLN.out _ (Nat.lt_succ_self _)); rw [HP.out] at c_; (with_reducible refine c_.mono ?_); clear c_; rintro z_ w_ ⟨rfl, hb_⟩; have S_ := Aside0.mk (S.out.keep hb_); clear hb_; clear S; have S := S_; clear S_) | go_in)
 refine retN (rs := [.cell 6 29, .tmp 7]) rfl rfl ?_ (Bk.vals S rfl (by repeat (first | exact Spot.here _ _ | apply Spot.there)) m29 (by exact rfl) (.tmp .nil)) ?_
 ·simp
 exact ⟨rfl, S.out.below⟩

set_option maxRecDepth 100000 in
set_option maxHeartbeats 8000000 in
theorem radd_none (P : Nat → Prop) (A : Option Addr) (c : Nat) (G : List S73) (s : ByteArray) (A1 : Option Addr) (c1 : Nat) (xs : List ByteArray) (w : World) (hV : Kd.V k73 73 w w.heap.size P (.slice A G.length c) G) (hG : Doc.Good G) (hn : G.length ≤ 1000) (hX : Kd.C Kd.string w A1 xs.length xs) (hxc : xs.length ≤ c1) (hxl : xs.length ≤ 1000) (hin : s ∉ names G) (hall : ¬ ∀ x ∈ xs, x ∈ names G) :
  Calls Try.prog 27 #[.agg #[.slice A G.length c], .string s, .slice A1 xs.length c1] w fun z w' => z = .returned (.tuple #[.agg #[.slice A G.length c], .int .i64 8]) ∧ Below w.heap.size w w' := by
 have HV := Aside0.mk hV
 have HC := Aside0.mk (Kd.V_reads' hV).2.2
 have HCC := Aside0.mk (Kd.V_reads' hV).2.1
 have HLN := Aside0.mk (show G.length < 9223372036854775807 by omega)
 have HN := Aside0.mk hn
 have HGG := Aside0.mk hG
 have HX := Aside0.mk hX
 have HXC := Aside0.mk hxc
 have HXL := Aside0.mk hxl
 have HLX := Aside0.mk (show xs.length < 9223372036854775807 by omega)
 have HP := Aside0.mk (decide_eq_false hin)
 have HQ := Aside0.mk (all_false hall)
 have S := Aside0.mk (St.start w)
 clear hV hG hn hX hxc hxl hin hall
 go_enter Try.func27, Try.ntmps27
 go_wp2_with (first | ((with_reducible refine gate_dst (N := 3) rfl ?_); refine ev_boxs S ?_ 3 rfl rfl rfl ?_; (first | exact want0 rfl | exact want1 rfl rfl rfl rfl); intro g3 w3 S_; clear S; have S := S_; clear S_) | ((with_reducible refine gate_dst (N := 6) rfl ?_); refine ev_alloc #[.slice none 0 0] rfl S ?_ 6 rfl rfl Ty.z29 ?_; (first | exact want0 rfl | exact want1 rfl rfl rfl rfl); intro g6 w6 S_; clear S; have S := S_; clear S_) | (refine ev_owns (vs := [_]) S ?_ rfl m29 rfl (by repeat (first | exact Spot.here _ _ | apply Spot.there)) (by exact rfl) ?_; (first | exact want0 rfl | exact want1 rfl rfl rfl rfl)) | (refine ev_puts S ?_ rfl rfl s29 rfl rfl (by repeat (first | exact Spot.here _ _ | apply Spot.there)) rfl ?_ ?_ ?_; (first | exact want0 rfl | exact want1 rfl rfl rfl rfl); rfl; rfl; intro w_ S_; simp only [putAt, List.set_cons_zero, List.set_cons_succ] at S_; clear S; have S := S_; clear S_) | (go_at_call 31; have c_ := budwoodref14_Graph_Has.calls _ A c G s _ _ (Kd.C_below HC.out S.out.below) HCC.out (has_f G s HLN.out _ (Nat.lt_succ_self _)); rw [HP.out] at c_; (with_reducible refine c_.mono ?_); clear c_; rintro z_ w_ ⟨rfl, hb_⟩; have S_ := Aside0.mk (S.out.keep hb_); clear hb_; clear S; have S := S_; clear S_) | (go_at_call 47; have c_ := budwoodref14_Graph_all.calls _ A c G A1 c1 xs _ _ (Kd.C_below HC.out S.out.below) HCC.out (Kd.C_below HX.out S.out.below) HXC.out (all_f G xs HLN.out HLX.out _ (Nat.lt_succ_self _)); rw [HQ.out] at c_; (with_reducible refine c_.mono ?_); clear c_; rintro z_ w_ ⟨rfl, hb_⟩; have S_ := Aside0.mk (S.out.keep hb_); clear hb_; clear S; have S := S_; clear S_) | go_in)
 refine retN (rs := [.cell 6 29, .tmp 7]) rfl rfl ?_ (Bk.vals S rfl (by repeat (first | exact Spot.here _ _ | apply Spot.there)) m29 (by exact rfl) (.tmp .nil)) ?_
 ·simp
 exact ⟨rfl, S.out.below⟩

set_option maxRecDepth 100000 in
set_option maxHeartbeats 8000000 in
theorem radd_ok (P : Nat → Prop) (A : Option Addr) (c : Nat) (G : List S73) (s : ByteArray) (A1 : Option Addr) (c1 : Nat) (xs : List ByteArray) (w : World) (hV : Kd.V k73 73 w w.heap.size P (.slice A G.length c) G) (hG : Doc.Good G) (hn : G.length ≤ 1000) (hX : Kd.C Kd.string w A1 xs.length xs) (hxc : xs.length ≤ c1) (hxl : xs.length ≤ 1000) (hin : s ∉ names G) (hall : ∀ x ∈ xs, x ∈ names G) :
  Calls Try.prog 27 #[.agg #[.slice A G.length c], .string s, .slice A1 xs.length c1] w fun z w' => ∃ v, z = .returned (.tuple #[.agg #[v], .int .i64 0]) ∧ Kd.V k73 73 w' 0 (fun k => P k ∨ w.heap.size ≤ k) v (with_ ⟨s, setOf xs⟩ G) ∧ Below w.heap.size w w' := by
 have HV := Aside0.mk hV
 have HC := Aside0.mk (Kd.V_reads' hV).2.2
 have HCC := Aside0.mk (Kd.V_reads' hV).2.1
 have HLN := Aside0.mk (show G.length < 9223372036854775807 by omega)
 have HN := Aside0.mk hn
 have HGG := Aside0.mk hG
 have HX := Aside0.mk hX
 have HXC := Aside0.mk hxc
 have HXL := Aside0.mk hxl
 have HLX := Aside0.mk (show xs.length < 9223372036854775807 by omega)
 have HP := Aside0.mk (decide_eq_false hin)
 have HQ := Aside0.mk (all_true hall)
 obtain ⟨kk, hK⟩ := set_f xs (by omega)
 have HK := Aside0.mk hK
 have HLN2 := Aside0.mk (show G.length < 1000000000 by omega)
 have S := Aside0.mk (St.start w)
 clear hV hG hn hX hxc hxl hin hall hK
 go_enter Try.func27, Try.ntmps27
 go_wp2_with (first | ((with_reducible refine gate_dst (N := 3) rfl ?_); refine ev_boxs S ?_ 3 rfl rfl rfl ?_; (first | exact want0 rfl | exact want1 rfl rfl rfl rfl); intro g3 w3 S_; clear S; have S := S_; clear S_) | ((with_reducible refine gate_dst (N := 6) rfl ?_); refine ev_alloc #[.slice none 0 0] rfl S ?_ 6 rfl rfl Ty.z29 ?_; (first | exact want0 rfl | exact want1 rfl rfl rfl rfl); intro g6 w6 S_; clear S; have S := S_; clear S_) | (refine ev_owns (vs := [_]) S ?_ rfl m29 rfl (by repeat (first | exact Spot.here _ _ | apply Spot.there)) (by exact rfl) ?_; (first | exact want0 rfl | exact want1 rfl rfl rfl rfl)) | (refine ev_puts S ?_ rfl rfl s29 rfl rfl (by repeat (first | exact Spot.here _ _ | apply Spot.there)) rfl ?_ ?_ ?_; (first | exact want0 rfl | exact want1 rfl rfl rfl rfl); rfl; rfl; intro w_ S_; simp only [putAt, List.set_cons_zero, List.set_cons_succ] at S_; clear S; have S := S_; clear S_) | (go_at_call 31; have c_ := budwoodref14_Graph_Has.calls _ A c G s _ _ (Kd.C_below HC.out S.out.below) HCC.out (has_f G s HLN.out _ (Nat.lt_succ_self _)); rw [HP.out] at c_; (with_reducible refine c_.mono ?_); clear c_; rintro z_ w_ ⟨rfl, hb_⟩; have S_ := Aside0.mk (S.out.keep hb_); clear hb_; clear S; have S := S_; clear S_) | (go_at_call 47; have c_ := budwoodref14_Graph_all.calls _ A c G A1 c1 xs _ _ (Kd.C_below HC.out S.out.below) HCC.out (Kd.C_below HX.out S.out.below) HXC.out (all_f G xs HLN.out HLX.out _ (Nat.lt_succ_self _)); rw [HQ.out] at c_; (with_reducible refine c_.mono ?_); clear c_; rintro z_ w_ ⟨rfl, hb_⟩; have S_ := Aside0.mk (S.out.keep hb_); clear hb_; clear S; have S := S_; clear S_) | go_in)
 have HBS := Aside0.mk S.out.below.size
 have S2 := Aside0.mk S.out.drew
 have HG6 := Aside0.mk ((Bk g6 #[.slice none 0 0] 29).lt (pred_at S2.out (by repeat (first | exact Spot.here _ _ | apply Spot.there))) g6 Bk.at)
 have HG7 := Aside0.mk (new_at S2.out (a := Bk g6 #[.slice none 0 0] 29) (by repeat (first | exact Spot.here _ _ | apply Spot.there)) g6 Bk.at)
 clear S
 refine start_ (n := 8) (S := fun w' => w'.cell? ⟨g3, 0, none⟩ = some (.slice A G.length c)) (ds := [6]) (bt 8 0) (by kernel_rfl) rfl rfl (((own_cell (g := g3) S2 (by repeat (first | exact Spot.here _ _ | apply Spot.there)) 0).trans rfl)) (fun hHeld => ?_)
 refine pur 1 20 (bt 8 2) ?_
 refine pur 2 21 (bt 8 6) ?_
 refine tak 0 19 (bt 8 7) hHeld ?_
 refine on1 3 22 (bt 8 15) (fun K hK => ?_)
 refine goes_ Try.func19 (by kernel_rfl) rfl #[.slice A1 xs.length c1] (by rfl) rfl rfl (by simp only [List.map_toArray, List.map_cons, List.map_nil]; rfl) ?_
 with_reducible refine (budwoodref14_Set.calls kk A1 c1 xs (setOf xs) _ (Kd.C_below HX.out S2.out.below) HXC.out (HK.out kk (Nat.le_refl _))).mono ?_
 rintro z9 w3 ⟨v3, rfl, hr3, hb3⟩
 have HR3 := Aside0.mk hr3
 obtain ⟨A3, c3, rfl, _⟩ := Kd.R_reads hr3
 have S3 := Aside0.mk (S2.out.keep hb3)
 have HB3 := Aside0.mk hb3.size
 clear hb3 hr3
 refine ⟨_, rfl, ?_⟩
 refine hK.out _ _ (((own_cell (g := g3) S3 (by repeat (first | exact Spot.here _ _ | apply Spot.there)) 0).trans rfl)) (fun hHeld => ?_)
 clear hK K
 refine nrm ?_
 refine pur 4 23 (bt 8 31) ?_
 refine on1 5 24 (bt 8 63) (fun K hK => ?_)
 have HR4 := Aside0.mk (Kd.R_mono (Kd.R_bound HR3.out) (ok' := fun k => w.heap.size ≤ k ∧ k ≠ g6) (fun k hk => ⟨Nat.le_trans HBS.out hk.2.1, fun e => by have := HG6.out; have := hk.2.1; subst e; have h9 : k < _ := this; omega⟩))
 have HV3 := Aside0.mk (show Kd.V k73 73 w3 w3.heap.size (fun k => P k ∧ k < w.heap.size) (.slice A G.length c) G from Kd.V_below (Kd.V_bound HV.out) S3.out.below)
 refine goes_ Try.func48 (by kernel_rfl) rfl #[.agg #[.slice A G.length c], .agg #[.string s, .slice A3 (setOf xs).length c3]] (by rfl) rfl rfl (by simp only [List.map_toArray, List.map_cons, List.map_nil]; rfl) ?_
 with_reducible refine (budwoodref14_Graph_with.calls _ (fun k => P k ∧ k < w.heap.size) A c G s (fun k => w.heap.size ≤ k ∧ k ≠ g6) A3 c3 (setOf xs) _ _ HV3.out (Kd.N_V (Kd.R_N HR4.out)) (with_f G ⟨s, setOf xs⟩ HLN2.out _ (Nat.lt_succ_self _))).mono ?_
 rintro z9 w4 ⟨v4, rfl, hr4, hb4⟩
 have HR5 := Aside0.mk hr4
 obtain ⟨A4, c4, rfl⟩ := Kd.N_slice hr4
 have HR6 := Aside0.mk (Kd.V_mono (ok' := fun k => (P k ∨ w.heap.size ≤ k) ∧ k ≠ g6) (Kd.N_V (base' := 0) HR5.out) (fun k hk => by have h6 := HG6.out; have h7 := HG7.out; have h8 := HB3.out; rcases hk with (⟨h1, h2⟩ | ⟨h1, h2⟩) | h1; exact ⟨.inl h1, by omega⟩; exact ⟨.inr h1, h2⟩; exact ⟨.inr (Nat.le_trans HBS.out (Nat.le_trans h8 h1)), by omega⟩))
 have S4 := Aside0.mk (S3.out.keep hb4)
 clear hb4 hr4
 refine ⟨_, rfl, ?_⟩
 refine hK.out _ _ (((own_cell (g := g3) S4 (by repeat (first | exact Spot.here _ _ | apply Spot.there)) 0).trans rfl)) (fun hHeld => ?_)
 clear hK K
 refine nrm ?_
 refine last_ (i := 6) (N := none) (bt 8 127) rfl rfl (by kernel_rfl) (by decide) (fun K hK => ?_)
 refine st_putsG (g := g6) S4 (by rfl) rfl rfl s29 rfl rfl (by repeat (first | exact Spot.here _ _ | apply Spot.there)) rfl (by rfl) (by rfl) ?_
 intro w5 S5 HGR
 simp only [putAt, List.set_cons_zero, List.set_cons_succ] at S5
 refine hK.out _ _ ?_
 clear hK K
 refine pur 7 7 (bt 8 255) ?_
 refine done_ (by kernel_rfl) ?_

 clear S2 S3 S4
 have S := S5
 clear S5
 go_wp2
 refine retN (rs := [.cell 6 29, .tmp 7]) rfl rfl ?_ (Bk.vals S rfl (by repeat (first | exact Spot.here _ _ | apply Spot.there)) m29 (by exact rfl) (.tmp .nil)) ?_
 ·simp
 refine ⟨_, rfl, ?_, S.out.below⟩
 exact Kd.V_mono (Kd.V_grown HR6.out HGR.out (fun k hk e => hk.2 (Option.some.inj e))) (fun k hk => hk.1)
end Go.Proofs.Ytaomemhnjpemiaa.Mp
