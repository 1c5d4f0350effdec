/- The document's Remove and Turn. -/
import Derived.Test.YtaomemhnjpemiaaRA
import Derived.Test.YtaomemhnjpemiaaTn
namespace Go.Proofs.Ytaomemhnjpemiaa.Mp
open Go Go.Maps Go.RowKit Go.Proofs.Ytaomemhnjpemiaa.PB Go.Proofs.Ytaomemhnjpemiaa.Doc Go.Proofs.Ytaomemhnjpemiaa.Sep Go.Proofs.Ytaomemhnjpemiaa.Ev Go.Proofs.Ytaomemhnjpemiaa.Ty Go.Proofs.YtaomemhnjpemiaaW.PrintWords Go.Proofs.YtaomemhnjpemiaaW.PrintLast Go.Proofs.YtaomemhnjpemiaaW.PrintMore
set_option linter.unusedVariables false
set_option linter.unusedSimpArgs false

theorem V_base {α : Type} {d : Kd α} {e b b' : Nat} {W : World} {ok : Nat → Prop} {v : Value} {xs : List α} (h : Kd.V d e W b ok v xs) : Kd.V d e W b' ok v xs := h

set_option maxRecDepth 100000 in
set_option maxHeartbeats 8000000 in
theorem rremove_none (P : Nat → Prop) (A : Option Addr) (c : Nat) (G : List S73) (s : ByteArray) (w : World) (hV : Kd.V k73 73 w w.heap.size P (.slice A G.length c) G) (hG : Doc.Good G) (hn : G.length ≤ 1000) (hin : s ∉ names G) :
  Calls Try.prog 25 #[.agg #[.slice A G.length c], .string s] w fun z w' => z = .returned (.tuple #[.agg #[.slice A G.length c], .int .i64 8]) ∧ Below w.heap.size w w' := by
 have HV := Aside0.mk hV
 have HC := Aside0.mk (Kd.V_reads' hV).2.2
 have HCC := Aside0.mk (Kd.V_reads' hV).2.1
 have HLN := Aside0.mk (show G.length < 9223372036854775807 by omega)
 have HN := Aside0.mk hn
 have HGG := Aside0.mk hG
 have HP := Aside0.mk (decide_eq_false hin)
 have S := Aside0.mk (St.start w)
 clear hV hG hn hin
 go_enter Try.func25, Try.ntmps25
 go_wp2_with (first | ((with_reducible refine gate_dst (N := 2) rfl ?_); refine ev_boxs S ?_ 2 rfl rfl rfl ?_; (first | exact want0 rfl | exact want1 rfl rfl rfl rfl); intro g2 w2 S_; clear S; have S := S_; clear S_) | ((with_reducible refine gate_dst (N := 4) rfl ?_); refine ev_alloc #[.slice none 0 0] rfl S ?_ 4 rfl rfl Ty.z29 ?_; (first | exact want0 rfl | exact want1 rfl rfl rfl rfl); intro g4 w4 S_; clear S; have S := S_; clear S_) | (refine ev_owns (vs := [_]) S ?_ rfl m29 rfl (by repeat (first | exact Spot.here _ _ | apply Spot.there)) (by exact rfl) ?_; (first | exact want0 rfl | exact want1 rfl rfl rfl rfl)) | (refine ev_puts S ?_ rfl rfl s29 rfl rfl (by repeat (first | exact Spot.here _ _ | apply Spot.there)) rfl ?_ ?_ ?_; (first | exact want0 rfl | exact want1 rfl rfl rfl rfl); rfl; rfl; intro w_ S_; simp only [putAt, List.set_cons_zero, List.set_cons_succ] at S_; clear S; have S := S_; clear S_) | (go_at_call 31; have c_ := budwoodref14_Graph_Has.calls _ A c G s _ _ (Kd.C_below HC.out S.out.below) HCC.out (has_f G s HLN.out _ (Nat.lt_succ_self _)); rw [HP.out] at c_; (with_reducible refine c_.mono ?_); clear c_; rintro z_ w_ ⟨rfl, hb_⟩; have S_ := Aside0.mk (S.out.keep hb_); clear hb_; clear S; have S := S_; clear S_) | go_in)
 refine retN (rs := [.cell 4 29, .tmp 5]) rfl rfl ?_ (Bk.vals S rfl (by repeat (first | exact Spot.here _ _ | apply Spot.there)) m29 (by exact rfl) (.tmp .nil)) ?_
 ·simp
 exact ⟨rfl, S.out.below⟩

set_option maxRecDepth 100000 in
set_option maxHeartbeats 8000000 in
theorem rremove_used (P : Nat → Prop) (A : Option Addr) (c : Nat) (G : List S73) (s : ByteArray) (w : World) (hV : Kd.V k73 73 w w.heap.size P (.slice A G.length c) G) (hG : Doc.Good G) (hn : G.length ≤ 1000) (hin : s ∈ names G) (hd : 0 < (dependents G s).length) :
  Calls Try.prog 25 #[.agg #[.slice A G.length c], .string s] w fun z w' => z = .returned (.tuple #[.agg #[.slice A G.length c], .int .i64 26]) ∧ Below w.heap.size w w' := by
 have HV := Aside0.mk hV
 have HC := Aside0.mk (Kd.V_reads' hV).2.2
 have HCC := Aside0.mk (Kd.V_reads' hV).2.1
 have HLN := Aside0.mk (show G.length < 9223372036854775807 by omega)
 have HN := Aside0.mk hn
 have HGG := Aside0.mk hG
 have HP := Aside0.mk (decide_eq_true hin)
 have HSM := Aside0.mk (show Small G from ⟨hn, fun m hm => by have h1 := hG.depsLen m.f0; rw [depsOf_at hG.up.nodup hm] at h1; omega⟩)
 have hd1 : decide (((dependents G s).length : Int) > 0) = true := decide_eq_true (by omega)
 have S := Aside0.mk (St.start w)
 clear hV hG hn hin
 go_enter Try.func25, Try.ntmps25
 go_wp2_with (first | ((with_reducible refine gate_dst (N := 2) rfl ?_); refine ev_boxs S ?_ 2 rfl rfl rfl ?_; (first | exact want0 rfl | exact want1 rfl rfl rfl rfl); intro g2 w2 S_; clear S; have S := S_; clear S_) | ((with_reducible refine gate_dst (N := 4) rfl ?_); refine ev_alloc #[.slice none 0 0] rfl S ?_ 4 rfl rfl Ty.z29 ?_; (first | exact want0 rfl | exact want1 rfl rfl rfl rfl); intro g4 w4 S_; clear S; have S := S_; clear S_) | (refine ev_owns (vs := [_]) S ?_ rfl m29 rfl (by repeat (first | exact Spot.here _ _ | apply Spot.there)) (by exact rfl) ?_; (first | exact want0 rfl | exact want1 rfl rfl rfl rfl)) | (refine ev_puts S ?_ rfl rfl s29 rfl rfl (by repeat (first | exact Spot.here _ _ | apply Spot.there)) rfl ?_ ?_ ?_; (first | exact want0 rfl | exact want1 rfl rfl rfl rfl); rfl; rfl; intro w_ S_; simp only [putAt, List.set_cons_zero, List.set_cons_succ] at S_; clear S; have S := S_; clear S_) | (go_at_call 31; have c_ := budwoodref14_Graph_Has.calls _ A c G s _ _ (Kd.C_below HC.out S.out.below) HCC.out (has_f G s HLN.out _ (Nat.lt_succ_self _)); rw [HP.out] at c_; (with_reducible refine c_.mono ?_); clear c_; rintro z_ w_ ⟨rfl, hb_⟩; have S_ := Aside0.mk (S.out.keep hb_); clear hb_; clear S; have S := S_; clear S_) | (go_at_call 30; have c_ := budwoodref14_Graph_Dependents.calls _ A c G s _ _ (Kd.C_below HC.out S.out.below) HCC.out (dependents_f G s HSM.out 3000 (Nat.le_refl _)); (with_reducible refine c_.mono ?_); clear c_; rintro z_ w_ ⟨v_, rfl, hr_, hb_⟩; obtain ⟨A_, c_, rfl, _⟩ := Kd.R_reads hr_; have S_ := Aside0.mk (S.out.keep hb_); clear hr_ hb_; clear S; have S := S_; clear S_) | go_in)
 refine retN (rs := [.cell 4 29, .tmp 5]) rfl rfl ?_ (Bk.vals S rfl (by repeat (first | exact Spot.here _ _ | apply Spot.there)) m29 (by exact rfl) (.tmp .nil)) ?_
 ·simp
 exact ⟨rfl, S.out.below⟩

set_option maxRecDepth 100000 in
set_option maxHeartbeats 8000000 in
theorem rremove_ok (P : Nat → Prop) (A : Option Addr) (c : Nat) (G : List S73) (s : ByteArray) (w : World) (hV : Kd.V k73 73 w w.heap.size P (.slice A G.length c) G) (hG : Doc.Good G) (hn : G.length ≤ 1000) (hin : s ∈ names G) (hd : dependents G s = []) :
  Calls Try.prog 25 #[.agg #[.slice A G.length c], .string s] w fun z w' => ∃ v, z = .returned (.tuple #[.agg #[v], .int .i64 0]) ∧ Kd.V k73 73 w' 0 (fun k => P k ∨ w.heap.size ≤ k) v (without G s) ∧ Below w.heap.size w w' := by
 have HV := Aside0.mk hV
 have HC := Aside0.mk (Kd.V_reads' hV).2.2
 have HCC := Aside0.mk (Kd.V_reads' hV).2.1
 have HLN := Aside0.mk (show G.length < 9223372036854775807 by omega)
 have HN := Aside0.mk hn
 have HGG := Aside0.mk hG
 have HP := Aside0.mk (decide_eq_true hin)
 have HSM := Aside0.mk (show Small G from ⟨hn, fun m hm => by have h1 := hG.depsLen m.f0; rw [depsOf_at hG.up.nodup hm] at h1; omega⟩)
 have HD := Aside0.mk hd
 have HLN2 := Aside0.mk (show G.length < 500000000 by omega)
 have S := Aside0.mk (St.start w)
 clear hV hG hn hin hd
 go_enter Try.func25, Try.ntmps25
 go_wp2_with (first | ((with_reducible refine gate_dst (N := 2) rfl ?_); refine ev_boxs S ?_ 2 rfl rfl rfl ?_; (first | exact want0 rfl | exact want1 rfl rfl rfl rfl); intro g2 w2 S_; clear S; have S := S_; clear S_) | ((with_reducible refine gate_dst (N := 4) rfl ?_); refine ev_alloc #[.slice none 0 0] rfl S ?_ 4 rfl rfl Ty.z29 ?_; (first | exact want0 rfl | exact want1 rfl rfl rfl rfl); intro g4 w4 S_; clear S; have S := S_; clear S_) | (refine ev_owns (vs := [_]) S ?_ rfl m29 rfl (by repeat (first | exact Spot.here _ _ | apply Spot.there)) (by exact rfl) ?_; (first | exact want0 rfl | exact want1 rfl rfl rfl rfl)) | (refine ev_putsG (g := g4) S ?_ rfl rfl s29 rfl rfl (by repeat (first | exact Spot.here _ _ | apply Spot.there)) rfl ?_ ?_ ?_; (first | exact want0 rfl | exact want1 rfl rfl rfl rfl); rfl; rfl; intro w_ S_ HGR; simp only [putAt, List.set_cons_zero, List.set_cons_succ] at S_; clear S; have S := S_; clear S_) | (go_at_call 31; have c_ := budwoodref14_Graph_Has.calls _ A c G s _ _ (Kd.C_below HC.out S.out.below) HCC.out (has_f G s HLN.out _ (Nat.lt_succ_self _)); rw [HP.out] at c_; (with_reducible refine c_.mono ?_); clear c_; rintro z_ w_ ⟨rfl, hb_⟩; have S_ := Aside0.mk (S.out.keep hb_); clear hb_; clear S; have S := S_; clear S_) | (go_at_call 30; have c_ := budwoodref14_Graph_Dependents.calls _ A c G s _ _ (Kd.C_below HC.out S.out.below) HCC.out (dependents_f G s HSM.out 3000 (Nat.le_refl _)); rw [HD.out] at c_; (with_reducible refine c_.mono ?_); clear c_; rintro z_ w_ ⟨v_, rfl, hr_, hb_⟩; obtain ⟨A_, c_, rfl, _⟩ := Kd.R_reads hr_; have S_ := Aside0.mk (S.out.keep hb_); clear hr_ hb_; clear S; have S := S_; clear S_) | (go_at_call 46; have HG6 := Aside0.mk ((Bk g4 #[.slice none 0 0] 29).lt (pred_at S.out (by repeat (first | exact Spot.here _ _ | apply Spot.there))) g4 Bk.at); have HG7 := Aside0.mk (new_at S.out (a := Bk g4 #[.slice none 0 0] 29) (by repeat (first | exact Spot.here _ _ | apply Spot.there)) g4 Bk.at); have c_ := budwoodref14_Graph_without.calls _ (fun k => P k ∧ k < w.heap.size) A c G s _ _ (V_base (Kd.V_below (Kd.V_bound HV.out) S.out.below)) (without_f G s HLN2.out _ (Nat.lt_succ_self _)); have HBS := Aside0.mk S.out.below.size; (with_reducible refine c_.mono ?_); clear c_; rintro z_ w_ ⟨v4, rfl, hr4, hb4⟩; obtain ⟨A4, c4, rfl⟩ := Kd.N_slice hr4; have HR6 := Aside0.mk (Kd.V_mono (ok' := fun k => (P k ∨ w.heap.size ≤ k) ∧ k ≠ g4) (Kd.N_V (base' := 0) hr4) (fun k hk => by have h6 := HG6.out; have h7 := HG7.out; have h8 := HBS.out; rcases hk with ⟨h1, h2⟩ | h1; exact ⟨.inl h1, by omega⟩; exact ⟨.inr (Nat.le_trans h8 h1), by omega⟩)); have S_ := Aside0.mk (S.out.keep hb4); clear hr4 hb4; clear S; have S := S_; clear S_) | go_in)
 refine retN (rs := [.cell 4 29, .tmp 5]) rfl rfl ?_ (Bk.vals S rfl (by repeat (first | exact Spot.here _ _ | apply Spot.there)) m29 (by exact rfl) (.tmp .nil)) ?_
 ·simp
 refine ⟨_, rfl, ?_, S.out.below⟩
 exact Kd.V_mono (Kd.V_grown HR6.out HGR.out (fun k hk e => hk.2 (Option.some.inj e))) (fun k hk => hk.1)

set_option maxRecDepth 100000 in
set_option maxHeartbeats 8000000 in
theorem rturn_no (P : Nat → Prop) (A : Option Addr) (c : Nat) (G : List S73) (s : ByteArray) (A1 : Option Addr) (c1 : Nat) (xs : List ByteArray) (w : World) (hV : Kd.V k73 73 w w.heap.size P (.slice A G.length c) G) (hG : Doc.Good G) (hn : G.length ≤ 1000) (hX : Kd.C Kd.string w A1 xs.length xs) (hxc : xs.length ≤ c1) (hxl : xs.length ≤ 1000) (hin : s ∉ names G) :
  Calls Try.prog 26 #[.agg #[.slice A G.length c], .string s, .slice A1 xs.length c1] w fun z w' => z = .returned (.tuple #[.agg #[.slice A G.length c], .int .i64 8]) ∧ Below w.heap.size w w' := by
 have HV := Aside0.mk hV
 have HC := Aside0.mk (Kd.V_reads' hV).2.2
 have HCC := Aside0.mk (Kd.V_reads' hV).2.1
 have HLN := Aside0.mk (show G.length < 9223372036854775807 by omega)
 have HN := Aside0.mk hn
 have HGG := Aside0.mk hG
 have HX := Aside0.mk hX
 have HXC := Aside0.mk hxc
 have HXL := Aside0.mk hxl
 have HLX := Aside0.mk (show xs.length < 9223372036854775807 by omega)
 have HP := Aside0.mk (decide_eq_false hin)
 have S := Aside0.mk (St.start w)
 clear hV hG hn hX hxc hxl hin
 go_enter Try.func26, Try.ntmps26
 go_wp2_with (first | ((with_reducible refine gate_dst (N := 3) rfl ?_); refine ev_boxs S ?_ 3 rfl rfl rfl ?_; (first | exact want0 rfl | exact want1 rfl rfl rfl rfl); intro g3 w3 S_; clear S; have S := S_; clear S_) | ((with_reducible refine gate_dst (N := 6) rfl ?_); refine ev_alloc #[.slice none 0 0] rfl S ?_ 6 rfl rfl Ty.z29 ?_; (first | exact want0 rfl | exact want1 rfl rfl rfl rfl); intro g6 w6 S_; clear S; have S := S_; clear S_) | (refine ev_owns (vs := [_]) S ?_ rfl m29 rfl (by repeat (first | exact Spot.here _ _ | apply Spot.there)) (by exact rfl) ?_; (first | exact want0 rfl | exact want1 rfl rfl rfl rfl)) | (refine ev_puts S ?_ rfl rfl s29 rfl rfl (by repeat (first | exact Spot.here _ _ | apply Spot.there)) rfl ?_ ?_ ?_; (first | exact want0 rfl | exact want1 rfl rfl rfl rfl); rfl; rfl; intro w_ S_; simp only [putAt, List.set_cons_zero, List.set_cons_succ] at S_; clear S; have S := S_; clear S_) | (go_at_call 31; have c_ := budwoodref14_Graph_Has.calls _ A c G s _ _ (Kd.C_below HC.out S.out.below) HCC.out (has_f G s HLN.out _ (Nat.lt_succ_self _)); rw [HP.out] at c_; (with_reducible refine c_.mono ?_); clear c_; rintro z_ w_ ⟨rfl, hb_⟩; have S_ := Aside0.mk (S.out.keep hb_); clear hb_; clear S; have S := S_; clear S_) | go_in)
 refine retN (rs := [.cell 6 29, .tmp 7]) rfl rfl ?_ (Bk.vals S rfl (by repeat (first | exact Spot.here _ _ | apply Spot.there)) m29 (by exact rfl) (.tmp .nil)) ?_
 ·simp
 exact ⟨rfl, S.out.below⟩

set_option maxRecDepth 100000 in
set_option maxHeartbeats 8000000 in
theorem rturn_none (P : Nat → Prop) (A : Option Addr) (c : Nat) (G : List S73) (s : ByteArray) (A1 : Option Addr) (c1 : Nat) (xs : List ByteArray) (w : World) (hV : Kd.V k73 73 w w.heap.size P (.slice A G.length c) G) (hG : Doc.Good G) (hn : G.length ≤ 1000) (hX : Kd.C Kd.string w A1 xs.length xs) (hxc : xs.length ≤ c1) (hxl : xs.length ≤ 1000) (hin : s ∈ names G) (hall : ¬ ∀ x ∈ xs, x ∈ names G) :
  Calls Try.prog 26 #[.agg #[.slice A G.length c], .string s, .slice A1 xs.length c1] w fun z w' => z = .returned (.tuple #[.agg #[.slice A G.length c], .int .i64 8]) ∧ Below w.heap.size w w' := by
 have HV := Aside0.mk hV
 have HC := Aside0.mk (Kd.V_reads' hV).2.2
 have HCC := Aside0.mk (Kd.V_reads' hV).2.1
 have HLN := Aside0.mk (show G.length < 9223372036854775807 by omega)
 have HN := Aside0.mk hn
 have HGG := Aside0.mk hG
 have HX := Aside0.mk hX
 have HXC := Aside0.mk hxc
 have HXL := Aside0.mk hxl
 have HLX := Aside0.mk (show xs.length < 9223372036854775807 by omega)
 have HP := Aside0.mk (decide_eq_true hin)
 have HQ := Aside0.mk (all_false hall)
 have S := Aside0.mk (St.start w)
 clear hV hG hn hX hxc hxl hin hall
 go_enter Try.func26, Try.ntmps26
 go_wp2_with (first | ((with_reducible refine gate_dst (N := 3) rfl ?_); refine ev_boxs S ?_ 3 rfl rfl rfl ?_; (first | exact want0 rfl | exact want1 rfl rfl rfl rfl); intro g3 w3 S_; clear S; have S := S_; clear S_) | ((with_reducible refine gate_dst (N := 6) rfl ?_); refine ev_alloc #[.slice none 0 0] rfl S ?_ 6 rfl rfl Ty.z29 ?_; (first | exact want0 rfl | exact want1 rfl rfl rfl rfl); intro g6 w6 S_; clear S; have S := S_; clear S_) | (refine ev_owns (vs := [_]) S ?_ rfl m29 rfl (by repeat (first | exact Spot.here _ _ | apply Spot.there)) (by exact rfl) ?_; (first | exact want0 rfl | exact want1 rfl rfl rfl rfl)) | (refine ev_puts S ?_ rfl rfl s29 rfl rfl (by repeat (first | exact Spot.here _ _ | apply Spot.there)) rfl ?_ ?_ ?_; (first | exact want0 rfl | exact want1 rfl rfl rfl rfl); rfl; rfl; intro w_ S_; simp only [putAt, List.set_cons_zero, List.set_cons_succ] at S_; clear S; have S := S_; clear S_) | (go_at_call 31; have c_ := budwoodref14_Graph_Has.calls _ A c G s _ _ (Kd.C_below HC.out S.out.below) HCC.out (has_f G s HLN.out _ (Nat.lt_succ_self _)); rw [HP.out] at c_; (with_reducible refine c_.mono ?_); clear c_; rintro z_ w_ ⟨rfl, hb_⟩; have S_ := Aside0.mk (S.out.keep hb_); clear hb_; clear S; have S := S_; clear S_) | (go_at_call 47; have c_ := budwoodref14_Graph_all.calls _ A c G A1 c1 xs _ _ (Kd.C_below HC.out S.out.below) HCC.out (Kd.C_below HX.out S.out.below) HXC.out (all_f G xs HLN.out HLX.out _ (Nat.lt_succ_self _)); rw [HQ.out] at c_; (with_reducible refine c_.mono ?_); clear c_; rintro z_ w_ ⟨rfl, hb_⟩; have S_ := Aside0.mk (S.out.keep hb_); clear hb_; clear S; have S := S_; clear S_) | go_in)
 refine retN (rs := [.cell 6 29, .tmp 7]) rfl rfl ?_ (Bk.vals S rfl (by repeat (first | exact Spot.here _ _ | apply Spot.there)) m29 (by exact rfl) (.tmp .nil)) ?_
 ·simp
 exact ⟨rfl, S.out.below⟩

set_option maxRecDepth 100000 in
set_option maxHeartbeats 8000000 in
theorem rturn_go (P : Nat → Prop) (A : Option Addr) (c : Nat) (G : List S73) (s : ByteArray) (A1 : Option Addr) (c1 : Nat) (xs : List ByteArray) (w : World) (hV : Kd.V k73 73 w w.heap.size P (.slice A G.length c) G) (hG : Doc.Good G) (hn : G.length ≤ 1000) (hX : Kd.C Kd.string w A1 xs.length xs) (hxc : xs.length ≤ c1) (hxl : xs.length ≤ 1000) (hsz : xs.length ≤ 1000) (hin : s ∈ names G) (hall : ∀ x ∈ xs, x ∈ names G) :
  Calls Try.prog 26 #[.agg #[.slice A G.length c], .string s, .slice A1 xs.length c1] w fun z w' => (xs.any (rounds_ G s) = true ∧ z = .returned (.tuple #[.agg #[.slice A G.length c], .int .i64 24]) ∧ Below w.heap.size w w') ∨ (xs.any (rounds_ G s) = false ∧ ∃ v, z = .returned (.tuple #[.agg #[v], .int .i64 0]) ∧ Kd.V k73 73 w' 0 (fun k => P k ∨ w.heap.size ≤ k) v (turn G s xs) ∧ Below w.heap.size w w') := by
 have HV := Aside0.mk hV
 have HC := Aside0.mk (Kd.V_reads' hV).2.2
 have HCC := Aside0.mk (Kd.V_reads' hV).2.1
 have HLN := Aside0.mk (show G.length < 9223372036854775807 by omega)
 have HN := Aside0.mk hn
 have HGG := Aside0.mk hG
 have HX := Aside0.mk hX
 have HXC := Aside0.mk hxc
 have HXL := Aside0.mk hxl
 have HLX := Aside0.mk (show xs.length < 9223372036854775807 by omega)
 have HP := Aside0.mk (decide_eq_true hin)
 have HQ := Aside0.mk (all_true hall)
 obtain ⟨ks, hks⟩ := set_f xs (by omega)
 have HKS := Aside0.mk hks
 have HLN2 := Aside0.mk (show G.length < 500000000 by omega)
 have HLN3 := Aside0.mk (show (without G s).length < 1000000000 by have : (without G s).length ≤ G.length := List.length_filter_le _ _; omega)
 have S := Aside0.mk (St.start w)
 clear hV hG hn hX hxc hxl hin hall hks
 go_enter Try.func26, Try.ntmps26
 go_wp2_with (first | ((with_reducible refine gate_dst (N := 3) rfl ?_); refine ev_boxs S ?_ 3 rfl rfl rfl ?_; (first | exact want0 rfl | exact want1 rfl rfl rfl rfl); intro g3 w3 S_; clear S; have S := S_; clear S_) | ((with_reducible refine gate_dst (N := 6) rfl ?_); refine ev_alloc #[.slice none 0 0] rfl S ?_ 6 rfl rfl Ty.z29 ?_; (first | exact want0 rfl | exact want1 rfl rfl rfl rfl); intro g6 w6 S_; clear S; have S := S_; clear S_) | (refine ev_owns (vs := [_]) S ?_ rfl m29 rfl (by repeat (first | exact Spot.here _ _ | apply Spot.there)) (by exact rfl) ?_; (first | exact want0 rfl | exact want1 rfl rfl rfl rfl)) | (refine ev_puts S ?_ rfl rfl s29 rfl rfl (by repeat (first | exact Spot.here _ _ | apply Spot.there)) rfl ?_ ?_ ?_; (first | exact want0 rfl | exact want1 rfl rfl rfl rfl); rfl; rfl; intro w_ S_; simp only [putAt, List.set_cons_zero, List.set_cons_succ] at S_; clear S; have S := S_; clear S_) | (go_at_call 31; have c_ := budwoodref14_Graph_Has.calls _ A c G s _ _ (Kd.C_below HC.out S.out.below) HCC.out (has_f G s HLN.out _ (Nat.lt_succ_self _)); rw [HP.out] at c_; (with_reducible refine c_.mono ?_); clear c_; rintro z_ w_ ⟨rfl, hb_⟩; have S_ := Aside0.mk (S.out.keep hb_); clear hb_; clear S; have S := S_; clear S_) | (go_at_call 47; have c_ := budwoodref14_Graph_all.calls _ A c G A1 c1 xs _ _ (Kd.C_below HC.out S.out.below) HCC.out (Kd.C_below HX.out S.out.below) HXC.out (all_f G xs HLN.out HLX.out _ (Nat.lt_succ_self _)); rw [HQ.out] at c_; (with_reducible refine c_.mono ?_); clear c_; rintro z_ w_ ⟨rfl, hb_⟩; have S_ := Aside0.mk (S.out.keep hb_); clear hb_; clear S; have S := S_; clear S_) | go_in)
 go_loopw [8] (fun v8 wr => ∃ (i : Nat), v8 = .int .i64 i ∧ i ≤ xs.length ∧ Aside0 (∀ d ∈ xs.take i, rounds_ G s d = false) ∧ Aside0 (St w.heap.size w wr [Bk g6 #[.slice none 0 0] 29, Bk g3 #[.slice A G.length c] 29])) (fun v8 _ => xs.length - (intOf v8).toNat)
 case atStart => exact ⟨0, rfl, Nat.zero_le _, ⟨by simp⟩, S⟩
 case round =>
  clear S
  obtain ⟨i, rfl, hi, HI, S⟩ := hrel
  by_cases hlt : i < xs.length
  ·have hd2 : decide ((i : Int) < (xs.length : Int)) = true := decide_eq_true (by omega)
   have hil : (i : Int) < (xs.length : Int) := by omega
   have hi0 : (0 : Int) ≤ (i : Int) := by omega
   have HT := Aside0.mk (show xs.take (i + 1) = xs.take i ++ [xs.getD i ByteArray.empty] by rw [List.take_succ_eq_append_getElem hlt]; simp [hlt])
   have HM := Aside0.mk (show xs.getD i ByteArray.empty ∈ xs by simp [hlt])
   obtain ⟨ad, rfl, hXI⟩ := strC_drop HX.out i hlt
   generalize xs.getD i ByteArray.empty = d at *
   have HXI := Aside0.mk hXI
   clear hXI
   obtain ⟨kk, hK⟩ := reaches_f G HGG.out HN.out d s
   have HK := Aside0.mk hK
   clear hK
   obtain ⟨u, hu⟩ : ∃ u, u = (decide (d ∈ names G) && (decide (s ∈ names G) && decide (s ∈ reached G d))) := ⟨_, rfl⟩
   have HRV := Aside0.mk hu.symm
   have HRD := Aside0.mk (show rounds_ G s d = (decide (d = s) || u) by rw [hu]; rfl)
   have hbb := bytes_beq d s
   clear hu
   by_cases e : d = s
   ·rw [decide_eq_true e] at hbb HRD
    clear e
    go_wp2_with (first | (refine ev_owns (vs := [_]) S ?_ rfl m29 rfl (by repeat (first | exact Spot.here _ _ | apply Spot.there)) (by exact rfl) ?_; (first | exact want0 rfl | exact want1 rfl rfl rfl rfl)) | (refine ev_puts S ?_ rfl rfl s29 rfl rfl (by repeat (first | exact Spot.here _ _ | apply Spot.there)) rfl ?_ ?_ ?_; (first | exact want0 rfl | exact want1 rfl rfl rfl rfl); rfl; rfl; intro w_ S_; simp only [putAt, List.set_cons_zero, List.set_cons_succ] at S_; clear S; have S := S_; clear S_) | go_in)
    have S2 := Aside0.mk S.out.drew
    clear S
    refine start_ (n := 15) (S := fun w' => w'.cell? ⟨g3, 0, none⟩ = some (.slice A G.length c) ∧ w'.cell? (ad.add i) = some (.string d)) (ds := []) (bt 15 0) (by kernel_rfl) rfl rfl ⟨((own_cell (g := g3) S2 (by repeat (first | exact Spot.here _ _ | apply Spot.there)) 0).trans rfl), (old_ S2 HXI.out)⟩ (fun hHeld => ?_)
    refine pur 0 26 (bt 15 1) ?_
    refine pur 1 27 (bt 15 3) ?_
    refine pur 2 28 (bt 15 7) ?_
    refine pur 4 30 (bt 15 23) ?_
    refine tak 3 29 (bt 15 31) hHeld ?_
    refine pur 5 31 (bt 15 63) ?_
    refine pur 6 32 (bt 15 127) ?_
    refine und 7 33 (bt 15 255) ?_
    refine und 8 34 (bt 15 511) ?_
    refine und 9 35 (bt 15 1023) ?_
    refine und 10 36 (bt 15 2047) ?_
    refine und 11 37 (bt 15 4095) ?_
    refine und 12 38 (bt 15 8191) ?_
    refine und 13 39 (bt 15 16383) ?_
    refine pur 14 40 (bt 15 32767) ?_
    refine done_ (by kernel_rfl) ?_

    have S := S2
    clear S2
    go_wp2_with (first | (refine ev_owns (vs := [_]) S ?_ rfl m29 rfl (by repeat (first | exact Spot.here _ _ | apply Spot.there)) (by exact rfl) ?_; (first | exact want0 rfl | exact want1 rfl rfl rfl rfl)) | (refine ev_puts S ?_ rfl rfl s29 rfl rfl (by repeat (first | exact Spot.here _ _ | apply Spot.there)) rfl ?_ ?_ ?_; (first | exact want0 rfl | exact want1 rfl rfl rfl rfl); rfl; rfl; intro w_ S_; simp only [putAt, List.set_cons_zero, List.set_cons_succ] at S_; clear S; have S := S_; clear S_) | go_in)
    refine retN (rs := [.cell 6 29, .tmp 7]) rfl rfl ?_ (Bk.vals S rfl (by repeat (first | exact Spot.here _ _ | apply Spot.there)) m29 (by exact rfl) (.tmp .nil)) ?_
    ·simp
    exact .inl ⟨List.any_eq_true.2 ⟨d, HM.out, by rw [HRD.out]; rfl⟩, rfl, S.out.below⟩
   ·rw [decide_eq_false e] at hbb HRD
    clear e
    cases u with
    | true =>
     go_wp2_with (first | (refine ev_owns (vs := [_]) S ?_ rfl m29 rfl (by repeat (first | exact Spot.here _ _ | apply Spot.there)) (by exact rfl) ?_; (first | exact want0 rfl | exact want1 rfl rfl rfl rfl)) | (refine ev_puts S ?_ rfl rfl s29 rfl rfl (by repeat (first | exact Spot.here _ _ | apply Spot.there)) rfl ?_ ?_ ?_; (first | exact want0 rfl | exact want1 rfl rfl rfl rfl); rfl; rfl; intro w_ S_; simp only [putAt, List.set_cons_zero, List.set_cons_succ] at S_; clear S; have S := S_; clear S_) | go_in)
     have S2 := Aside0.mk S.out.drew
     clear S
     refine start_ (n := 15) (S := fun w' => w'.cell? ⟨g3, 0, none⟩ = some (.slice A G.length c) ∧ w'.cell? (ad.add i) = some (.string d)) (ds := []) (bt 15 0) (by kernel_rfl) rfl rfl ⟨((own_cell (g := g3) S2 (by repeat (first | exact Spot.here _ _ | apply Spot.there)) 0).trans rfl), (old_ S2 HXI.out)⟩ (fun hHeld => ?_)
     refine pur 0 26 (bt 15 1) ?_
     refine pur 1 27 (bt 15 3) ?_
     refine pur 2 28 (bt 15 7) ?_
     refine pur 4 30 (bt 15 23) ?_
     refine tak 3 29 (bt 15 31) hHeld ?_
     refine pur 5 31 (bt 15 63) ?_
     refine pur 6 32 (bt 15 127) ?_
     refine pur 8 34 (bt 15 383) ?_
     refine pur 9 35 (bt 15 895) ?_
     refine pur 10 36 (bt 15 1919) ?_
     refine pur 12 38 (bt 15 6015) ?_
     refine tak 7 33 (bt 15 6143) hHeld ?_
     refine tak 11 37 (bt 15 8191) hHeld ?_
     refine on1 13 39 (bt 15 16383) (fun K hK => ?_)
     have c_ := budwoodref14_Graph_Reaches.calls kk A c G d s _ _ (Kd.C_below HC.out S2.out.below) HCC.out (HK.out kk (Nat.le_refl _))
     rw [HRV.out] at c_
     refine goes_ Try.func32 (by kernel_rfl) rfl #[.agg #[.slice A G.length c], .string d, .string s] (by rfl) rfl rfl (by simp only [List.map_toArray, List.map_cons, List.map_nil]; rfl) ?_
     with_reducible refine (c_).mono ?_
     rintro z9 w3 ⟨rfl, hb3⟩
     have S3 := Aside0.mk (S2.out.keep hb3)
     clear hb3
     refine ⟨_, rfl, ?_⟩
     refine hK.out _ _ ⟨((own_cell (g := g3) S3 (by repeat (first | exact Spot.here _ _ | apply Spot.there)) 0).trans rfl), (old_ S3 HXI.out)⟩ (fun hHeld => ?_)
     clear hK K
     refine nrm ?_
     refine pur 14 40 (bt 15 32767) ?_
     refine done_ (by kernel_rfl) ?_

     clear S2
     have S := S3
     clear S3
     go_wp2_with (first | (refine ev_owns (vs := [_]) S ?_ rfl m29 rfl (by repeat (first | exact Spot.here _ _ | apply Spot.there)) (by exact rfl) ?_; (first | exact want0 rfl | exact want1 rfl rfl rfl rfl)) | (refine ev_puts S ?_ rfl rfl s29 rfl rfl (by repeat (first | exact Spot.here _ _ | apply Spot.there)) rfl ?_ ?_ ?_; (first | exact want0 rfl | exact want1 rfl rfl rfl rfl); rfl; rfl; intro w_ S_; simp only [putAt, List.set_cons_zero, List.set_cons_succ] at S_; clear S; have S := S_; clear S_) | go_in)
     refine retN (rs := [.cell 6 29, .tmp 7]) rfl rfl ?_ (Bk.vals S rfl (by repeat (first | exact Spot.here _ _ | apply Spot.there)) m29 (by exact rfl) (.tmp .nil)) ?_
     ·simp
     exact .inl ⟨List.any_eq_true.2 ⟨d, HM.out, by rw [HRD.out]; rfl⟩, rfl, S.out.below⟩
    | false =>
     go_wp2_with (first | (refine ev_owns (vs := [_]) S ?_ rfl m29 rfl (by repeat (first | exact Spot.here _ _ | apply Spot.there)) (by exact rfl) ?_; (first | exact want0 rfl | exact want1 rfl rfl rfl rfl)) | (refine ev_puts S ?_ rfl rfl s29 rfl rfl (by repeat (first | exact Spot.here _ _ | apply Spot.there)) rfl ?_ ?_ ?_; (first | exact want0 rfl | exact want1 rfl rfl rfl rfl); rfl; rfl; intro w_ S_; simp only [putAt, List.set_cons_zero, List.set_cons_succ] at S_; clear S; have S := S_; clear S_) | go_in)
     have S2 := Aside0.mk S.out.drew
     clear S
     refine start_ (n := 15) (S := fun w' => w'.cell? ⟨g3, 0, none⟩ = some (.slice A G.length c) ∧ w'.cell? (ad.add i) = some (.string d)) (ds := []) (bt 15 0) (by kernel_rfl) rfl rfl ⟨((own_cell (g := g3) S2 (by repeat (first | exact Spot.here _ _ | apply Spot.there)) 0).trans rfl), (old_ S2 HXI.out)⟩ (fun hHeld => ?_)
     refine pur 0 26 (bt 15 1) ?_
     refine pur 1 27 (bt 15 3) ?_
     refine pur 2 28 (bt 15 7) ?_
     refine pur 4 30 (bt 15 23) ?_
     refine tak 3 29 (bt 15 31) hHeld ?_
     refine pur 5 31 (bt 15 63) ?_
     refine pur 6 32 (bt 15 127) ?_
     refine pur 8 34 (bt 15 383) ?_
     refine pur 9 35 (bt 15 895) ?_
     refine pur 10 36 (bt 15 1919) ?_
     refine pur 12 38 (bt 15 6015) ?_
     refine tak 7 33 (bt 15 6143) hHeld ?_
     refine tak 11 37 (bt 15 8191) hHeld ?_
     refine on1 13 39 (bt 15 16383) (fun K hK => ?_)
     have c_ := budwoodref14_Graph_Reaches.calls kk A c G d s _ _ (Kd.C_below HC.out S2.out.below) HCC.out (HK.out kk (Nat.le_refl _))
     rw [HRV.out] at c_
     refine goes_ Try.func32 (by kernel_rfl) rfl #[.agg #[.slice A G.length c], .string d, .string s] (by rfl) rfl rfl (by simp only [List.map_toArray, List.map_cons, List.map_nil]; rfl) ?_
     with_reducible refine (c_).mono ?_
     rintro z9 w3 ⟨rfl, hb3⟩
     have S3 := Aside0.mk (S2.out.keep hb3)
     clear hb3
     refine ⟨_, rfl, ?_⟩
     refine hK.out _ _ ⟨((own_cell (g := g3) S3 (by repeat (first | exact Spot.here _ _ | apply Spot.there)) 0).trans rfl), (old_ S3 HXI.out)⟩ (fun hHeld => ?_)
     clear hK K
     refine nrm ?_
     refine pur 14 40 (bt 15 32767) ?_
     refine done_ (by kernel_rfl) ?_

     clear S2
     have S := S3
     clear S3
     go_wp2_with (first | (refine ev_owns (vs := [_]) S ?_ rfl m29 rfl (by repeat (first | exact Spot.here _ _ | apply Spot.there)) (by exact rfl) ?_; (first | exact want0 rfl | exact want1 rfl rfl rfl rfl)) | (refine ev_puts S ?_ rfl rfl s29 rfl rfl (by repeat (first | exact Spot.here _ _ | apply Spot.there)) rfl ?_ ?_ ?_; (first | exact want0 rfl | exact want1 rfl rfl rfl rfl); rfl; rfl; intro w_ S_; simp only [putAt, List.set_cons_zero, List.set_cons_succ] at S_; clear S; have S := S_; clear S_) | go_in)
     have hi1 : wrap64 ((i : Int) + 1) = ((i + 1 : Nat) : Int) := by unfold wrap64; omega
     refine ⟨⟨i + 1, by simp [hi1], by omega, ⟨fun x hx => ?_⟩, S⟩, ?_⟩
     ·rw [HT.out] at hx
      rcases List.mem_append.1 hx with hx | hx
      ·exact HI.out x hx
      ·rw [List.mem_singleton.1 hx, HRD.out]; rfl
     ·simp [intOf, hi1]; omega
  ·obtain rfl : i = xs.length := by omega
   have hd2 : decide ((xs.length : Int) < (xs.length : Int)) = false := decide_eq_false (by omega)
   have HAN := Aside0.mk (show xs.any (rounds_ G s) = false by
    cases hv : xs.any (rounds_ G s) with
    | false => rfl
    | true =>
     obtain ⟨x, hx, h1⟩ := List.any_eq_true.1 hv
     rw [HI.out x (by simpa using hx)] at h1
     cases h1)
   go_wp2_with (first | ((with_reducible refine gate_dst (N := 3) rfl ?_); refine ev_boxs S ?_ 3 rfl rfl rfl ?_; (first | exact want0 rfl | exact want1 rfl rfl rfl rfl); intro g3 w3 S_; clear S; have S := S_; clear S_) | ((with_reducible refine gate_dst (N := 6) rfl ?_); refine ev_alloc #[.slice none 0 0] rfl S ?_ 6 rfl rfl Ty.z29 ?_; (first | exact want0 rfl | exact want1 rfl rfl rfl rfl); intro g6 w6 S_; clear S; have S := S_; clear S_) | (refine ev_owns (vs := [_]) S ?_ rfl m29 rfl (by repeat (first | exact Spot.here _ _ | apply Spot.there)) (by exact rfl) ?_; (first | exact want0 rfl | exact want1 rfl rfl rfl rfl)) | (refine ev_putsG (g := g6) S ?_ rfl rfl s29 rfl rfl (by repeat (first | exact Spot.here _ _ | apply Spot.there)) rfl ?_ ?_ ?_; (first | exact want0 rfl | exact want1 rfl rfl rfl rfl); rfl; rfl; intro w_ S_ HGR; simp only [putAt, List.set_cons_zero, List.set_cons_succ] at S_; clear S; have S := S_; clear S_) | (go_at_call 46; have HG6 := Aside0.mk ((Bk g6 #[.slice none 0 0] 29).lt (pred_at S.out (by repeat (first | exact Spot.here _ _ | apply Spot.there))) g6 Bk.at); have HG7 := Aside0.mk (new_at S.out (a := Bk g6 #[.slice none 0 0] 29) (by repeat (first | exact Spot.here _ _ | apply Spot.there)) g6 Bk.at); have c_ := budwoodref14_Graph_without.calls _ (fun k => P k ∧ k < w.heap.size) A c G s _ _ (V_base (Kd.V_below (Kd.V_bound HV.out) S.out.below)) (without_f G s HLN2.out _ (Nat.lt_succ_self _)); have HBS := Aside0.mk S.out.below.size; (with_reducible refine c_.mono ?_); clear c_; rintro z_ w_ ⟨v4, rfl, hr4, hb4⟩; obtain ⟨A4, c4, rfl⟩ := Kd.N_slice hr4; have HR6 := Aside0.mk (Kd.V_mono (ok' := fun k => (P k ∨ w.heap.size ≤ k) ∧ k ≠ g6) (Kd.N_V (base' := 0) hr4) (fun k hk => by have h6 := HG6.out; have h7 := HG7.out; have h8 := HBS.out; rcases hk with ⟨h1, h2⟩ | h1; exact ⟨.inl h1, by omega⟩; exact ⟨.inr (Nat.le_trans h8 h1), by omega⟩)); have S_ := Aside0.mk (S.out.keep hb4); clear hr4 hb4; clear S; have S := S_; clear S_) | (go_at_call 19; have c_ := budwoodref14_Set.calls ks A1 c1 xs (setOf xs) _ (Kd.C_below HX.out S.out.below) HXC.out (HKS.out ks (Nat.le_refl _)); have HB2 := Aside0.mk S.out.below.size; (with_reducible refine c_.mono ?_); clear c_; rintro z_ w_ ⟨v3, rfl, hr3, hb3⟩; obtain ⟨A3, c3, rfl, _⟩ := Kd.R_reads hr3; have HR4 := Aside0.mk (Kd.R_mono (Kd.R_bound hr3) (ok' := fun k => w.heap.size ≤ k ∧ k ≠ g6) (fun k hk => ⟨Nat.le_trans HB2.out hk.2.1, fun e => by have h6 := (Bk g6 #[.slice none 0 0] 29).lt (pred_at S.out (by repeat (first | exact Spot.here _ _ | apply Spot.there))) g6 Bk.at; have h7 := hk.2.1; subst e; omega⟩)); have HR6b := Aside0.mk (Kd.V_below HR6.out hb3); clear HR6; have S_ := Aside0.mk (S.out.keep hb3); clear hr3 hb3; clear S; have S := S_; clear S_) | (go_at_call 48; have HB3 := Aside0.mk S.out.below.size; have HL6 := Aside0.mk ((Bk g6 #[.slice none 0 0] 29).lt (pred_at S.out (by repeat (first | exact Spot.here _ _ | apply Spot.there))) g6 Bk.at); have c_ := budwoodref14_Graph_with.calls _ (fun k => (P k ∨ w.heap.size ≤ k) ∧ k ≠ g6) A4 c4 (without G s) s (fun k => w.heap.size ≤ k ∧ k ≠ g6) A3 c3 (setOf xs) _ _ (V_base HR6b.out) (Kd.N_V (Kd.R_N HR4.out)) (with_f (without G s) ⟨s, setOf xs⟩ HLN3.out _ (Nat.lt_succ_self _)); (with_reducible refine c_.mono ?_); clear c_; rintro z_ w_ ⟨v5, rfl, hr5, hb5⟩; obtain ⟨A5, c5, rfl⟩ := Kd.N_slice hr5; have HR7 := Aside0.mk (Kd.V_mono (ok' := fun k => (P k ∨ w.heap.size ≤ k) ∧ k ≠ g6) (Kd.N_V (base' := 0) hr5) (fun k hk => by have h6 := HL6.out; have h8 := HB3.out; rcases hk with (h1 | ⟨h1, h2⟩) | h1; exact h1; exact ⟨.inr h1, h2⟩; exact ⟨.inr (Nat.le_trans h8 h1), by omega⟩)); have S_ := Aside0.mk (S.out.keep hb5); clear hr5 hb5; clear S; have S := S_; clear S_) | go_in)
   refine retN (rs := [.cell 6 29, .tmp 7]) rfl rfl ?_ (Bk.vals S rfl (by repeat (first | exact Spot.here _ _ | apply Spot.there)) m29 (by exact rfl) (.tmp .nil)) ?_
   ·simp
   refine .inr ⟨HAN.out, _, rfl, ?_, S.out.below⟩
   exact Kd.V_mono (Kd.V_grown HR7.out HGR.out (fun k hk e => hk.2 (Option.some.inj e))) (fun k hk => hk.1)
end Go.Proofs.Ytaomemhnjpemiaa.Mp
