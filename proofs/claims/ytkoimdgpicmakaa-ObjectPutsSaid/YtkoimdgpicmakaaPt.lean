/- Any module has the bytes that the document says, or it is told why not; it stays as it is. -/
import Derived.Test.YtkoimdgpicmakaaCp
import Derived.Test.YtkoimdgpicmakaaRefP
namespace Go.Proofs.Ytkoimdgpicmakaa.Ob
open Go.Proofs.Ytkoimdgpicmakaa.Inv
open Go.RowKit Go.Proofs.Ytkoimdgpicmakaa.Sep Go.Proofs.YtkoimdgpicmakaaW.PrintWords Go.Proofs.YtkoimdgpicmakaaW.PrintLast Go.Proofs.Ytkoimdgpicmakaa.Wm Go.Proofs.Ytkoimdgpicmakaa.Ev Go.Proofs.Ytkoimdgpicmakaa.Ty Go.Proofs.Ytkoimdgpicmakaa.PB
set_option linter.unusedVariables false
set_option linter.unusedSimpArgs false

set_option maxRecDepth 100000 in
set_option maxHeartbeats 16000000 in
theorem puts (m : Mo) (Aa1 : Option Addr) (ca1 : Nat) (Aa2 : Option Addr) (ca2 : Nat) (Aa3 : Option Addr) (ca3 : Nat) (Aa4 : Option Addr) (ca4 : Nat) (Aa5 : Option Addr) (ca5 : Nat) (w : World) (h : Md w m.nm Aa1 ca1 m.ex Aa2 ca2 m.im Aa3 ca3 m.co Aa4 ca4 m.da Aa5 ca5 m.re) (hwf : m.Wf) : Calls Try.prog 3 #[.agg #[.string m.nm, .slice Aa1 m.ex.length ca1, .slice Aa2 m.im.length ca2, .slice Aa3 m.co.length ca3, .slice Aa4 m.da.length ca4, .slice Aa5 m.re.length ca5]] w fun z w' => z = .returned (.bool true) ∧ Below w.heap.size w w' := by
  have HM := Aside0.mk h
  have S := Aside0.mk (St.start w)
  obtain ⟨f, hf⟩ : ∃ f, m.chk = f := ⟨_, rfl⟩
  have HF := Aside0.mk hf
  have ef : (f == f) = true := by simp
  by_cases hs : 2000 < m.size
  · have d1 : decide (m.size > 2000) = true := decide_eq_true hs
    go_enter Try.func3, Try.ntmps3
    go_wp2_with (first | ((with_reducible refine gate_dst (N := 1) rfl ?_); refine ev_boxs S ?_ 1 rfl rfl rfl ?_; (first | exact want0 rfl | exact want1 rfl rfl rfl rfl); intro g1 w1 S_; clear S; have S := S_; clear S_) | (refine ev_owns (vs := [_, _, _, _, _, _]) S ?_ rfl m26 rfl (by repeat (first | exact Spot.here _ _ | apply Spot.there)) (by exact rfl) ?_; (first | exact want0 rfl | exact want1 rfl rfl rfl rfl)) | ((with_reducible refine gate_dst (N := 3) rfl ?_); refine ev_alloc #[.string ⟨#[]⟩, .slice none 0 0, .slice none 0 0, .slice none 0 0, .slice none 0 0, .slice none 0 0] rfl S ?_ 3 rfl rfl z26 ?_; (first | exact want0 rfl | exact want1 rfl rfl rfl rfl); intro g3 w3 S_; clear S; have S := S_; clear S_) | (refine ev_puts S ?_ rfl rfl s26 rfl rfl (by repeat (first | exact Spot.here _ _ | apply Spot.there)) rfl ?_ ?_ ?_; (first | exact want0 rfl | exact want1 rfl rfl rfl rfl); rfl; rfl; intro w_ S_; simp only [putAt, List.set_cons_zero, List.set_cons_succ] at S_; clear S; have S := S_; clear S_) | (go_at_call 9; (with_reducible refine (size_mo m Aa1 ca1 Aa2 ca2 Aa3 ca3 Aa4 ca4 Aa5 ca5 _ (HM.out.below S.out.below)).mono ?_); rintro z_ w_ ⟨rfl, hb_⟩; have hb2_ := hb_; have S_ := Aside0.mk (S.out.keep hb2_); clear hb2_ hb_; clear S; have S := S_; clear S_) | (go_at_call 10; (with_reducible refine (awake_calls _).mono ?_); rintro z_ w_ ⟨rfl, hb_⟩; have hb2_ := hb_; have S_ := Aside0.mk (S.out.keep hb2_); clear hb2_ hb_; clear S; have S := S_; clear S_))
    go_ret
    exact ⟨rfl, S.out.below⟩
  have d1 : decide (m.size > 2000) = false := decide_eq_false hs
  have few : m.Few := Mo.few (Int.not_lt.1 hs)
  have hsm := m.same_self
  have HCF := Aside0.mk ((rchk_f (k := 1000001) m.nm m.ex m.im m.co m.da m.re (by have := few.ex; omega) (by have := few.im; omega) (by have := few.re; omega) (by decide)).trans (by rw [show Ob.chk m.nm m.ex m.im m.co m.da m.re = f from hf]))
  clear h hf hs
  cases hne : (f != 0) with
  | true =>
    go_enter Try.func3, Try.ntmps3
    go_wp2_with (first | ((with_reducible refine gate_dst (N := 1) rfl ?_); refine ev_boxs S ?_ 1 rfl rfl rfl ?_; (first | exact want0 rfl | exact want1 rfl rfl rfl rfl); intro g1 w1 S_; clear S; have S := S_; clear S_) | (refine ev_owns (vs := [_, _, _, _, _, _]) S ?_ rfl m26 rfl (by repeat (first | exact Spot.here _ _ | apply Spot.there)) (by exact rfl) ?_; (first | exact want0 rfl | exact want1 rfl rfl rfl rfl)) | ((with_reducible refine gate_dst (N := 3) rfl ?_); refine ev_alloc #[.string ⟨#[]⟩, .slice none 0 0, .slice none 0 0, .slice none 0 0, .slice none 0 0, .slice none 0 0] rfl S ?_ 3 rfl rfl z26 ?_; (first | exact want0 rfl | exact want1 rfl rfl rfl rfl); intro g3 w3 S_; clear S; have S := S_; clear S_) | (refine ev_puts S ?_ rfl rfl s26 rfl rfl (by repeat (first | exact Spot.here _ _ | apply Spot.there)) rfl ?_ ?_ ?_; (first | exact want0 rfl | exact want1 rfl rfl rfl rfl); rfl; rfl; intro w_ S_; simp only [putAt, List.set_cons_zero, List.set_cons_succ] at S_; clear S; have S := S_; clear S_) | (go_at_call 9; (with_reducible refine (size_mo m Aa1 ca1 Aa2 ca2 Aa3 ca3 Aa4 ca4 Aa5 ca5 _ (HM.out.below S.out.below)).mono ?_); rintro z_ w_ ⟨rfl, hb_⟩; have hb2_ := hb_; have S_ := Aside0.mk (S.out.keep hb2_); clear hb2_ hb_; clear S; have S := S_; clear S_) | (go_at_call 10; (with_reducible refine (awake_calls _).mono ?_); rintro z_ w_ ⟨rfl, hb_⟩; have hb2_ := hb_; have S_ := Aside0.mk (S.out.keep hb2_); clear hb2_ hb_; clear S; have S := S_; clear S_) | (go_at_call 11; (with_reducible refine (copy11 m Aa1 ca1 Aa2 ca2 Aa3 ca3 Aa4 ca4 Aa5 ca5 _ (HM.out.below S.out.below) few).mono ?_); rintro z_ w_ ⟨Ak1, ck1, Ak2, ck2, Ak3, ck3, Ak4, ck4, Ak5, ck5, rfl, S1_⟩; have S_ := Aside0.mk (St.join S.out S1_.out); clear S1_; simp only [List.cons_append, List.nil_append] at S_; clear S; have S := S_; clear S_) | (go_at_call 12; have k_ : Md _ m.nm Ak1 ck1 m.ex Ak2 ck2 m.im Ak3 ck3 m.co Ak4 ck4 m.da Ak5 ck5 m.re := ⟨Ow.reads (pred_at S.out (a := Ow Kd.string 9 Ak1 ck1 m.ex) (by repeat (first | exact Spot.here _ _ | apply Spot.there))), Ow.cap (pred_at S.out (a := Ow Kd.string 9 Ak1 ck1 m.ex) (by repeat (first | exact Spot.here _ _ | apply Spot.there))), Ow.reads (pred_at S.out (a := Ow Kd.string 9 Ak2 ck2 m.im) (by repeat (first | exact Spot.here _ _ | apply Spot.there))), Ow.cap (pred_at S.out (a := Ow Kd.string 9 Ak2 ck2 m.im) (by repeat (first | exact Spot.here _ _ | apply Spot.there))), Ow.reads (pred_at S.out (a := Ow (Kd.int .u32) 43 Ak3 ck3 m.co) (by repeat (first | exact Spot.here _ _ | apply Spot.there))), Ow.cap (pred_at S.out (a := Ow (Kd.int .u32) 43 Ak3 ck3 m.co) (by repeat (first | exact Spot.here _ _ | apply Spot.there))), Ow.reads (pred_at S.out (a := Ow (Kd.int .u32) 43 Ak4 ck4 m.da) (by repeat (first | exact Spot.here _ _ | apply Spot.there))), Ow.cap (pred_at S.out (a := Ow (Kd.int .u32) 43 Ak4 ck4 m.da) (by repeat (first | exact Spot.here _ _ | apply Spot.there))), Ow.reads (pred_at S.out (a := Ow k50 50 Ak5 ck5 m.re) (by repeat (first | exact Spot.here _ _ | apply Spot.there))), Ow.cap (pred_at S.out (a := Ow k50 50 Ak5 ck5 m.re) (by repeat (first | exact Spot.here _ _ | apply Spot.there)))⟩; (with_reducible refine (putno_mo m Ak1 ck1 Ak2 ck2 Ak3 ck3 Ak4 ck4 Ak5 ck5 _ k_ f HF.out hne).mono ?_); clear k_; rintro z_ w_ ⟨rfl, hb_⟩; have hb2_ := hb_; have S_ := Aside0.mk (S.out.keep hb2_); clear hb2_ hb_; clear S; have S := S_; clear S_) | (go_at_call 13; (with_reducible refine (rput_no m Aa1 ca1 Aa2 ca2 Aa3 ca3 Aa4 ca4 Aa5 ca5 _ (HM.out.below S.out.below) few f HF.out hne).mono ?_); rintro z_ w_ ⟨rfl, hb_⟩; have hb2_ := hb_; have S_ := Aside0.mk (S.out.keep hb2_); clear hb2_ hb_; clear S; have S := S_; clear S_))
    have S2 := Aside0.mk S.out.drew
    clear S
    refine start_ (n := 26) (S := fun w' => w'.cell? ⟨g3, 0, none⟩ = some (.string m.nm) ∧ w'.cell? ⟨g3, 1, none⟩ = some (.slice Ak1 m.ex.length ck1) ∧ w'.cell? ⟨g3, 2, none⟩ = some (.slice Ak2 m.im.length ck2) ∧ w'.cell? ⟨g3, 3, none⟩ = some (.slice Ak3 m.co.length ck3) ∧ w'.cell? ⟨g3, 4, none⟩ = some (.slice Ak4 m.da.length ck4) ∧ w'.cell? ⟨g3, 5, none⟩ = some (.slice Ak5 m.re.length ck5) ∧ w'.cell? ⟨g1, 0, none⟩ = some (.string m.nm) ∧ w'.cell? ⟨g1, 1, none⟩ = some (.slice Aa1 m.ex.length ca1) ∧ w'.cell? ⟨g1, 2, none⟩ = some (.slice Aa2 m.im.length ca2) ∧ w'.cell? ⟨g1, 3, none⟩ = some (.slice Aa3 m.co.length ca3) ∧ w'.cell? ⟨g1, 4, none⟩ = some (.slice Aa4 m.da.length ca4) ∧ w'.cell? ⟨g1, 5, none⟩ = some (.slice Aa5 m.re.length ca5)) (ds := []) #[false, false, false, false, false, false, false, false, false, false, false, false, false, false, false, false, false, false, false, false, false, false, false, false, false, false] (by kernel_rfl) rfl rfl ⟨((own_cell (g := g3) S2 (by repeat (first | exact Spot.here _ _ | apply Spot.there)) 0).trans rfl), ((own_cell (g := g3) S2 (by repeat (first | exact Spot.here _ _ | apply Spot.there)) 1).trans rfl), ((own_cell (g := g3) S2 (by repeat (first | exact Spot.here _ _ | apply Spot.there)) 2).trans rfl), ((own_cell (g := g3) S2 (by repeat (first | exact Spot.here _ _ | apply Spot.there)) 3).trans rfl), ((own_cell (g := g3) S2 (by repeat (first | exact Spot.here _ _ | apply Spot.there)) 4).trans rfl), ((own_cell (g := g3) S2 (by repeat (first | exact Spot.here _ _ | apply Spot.there)) 5).trans rfl), ((own_cell (g := g1) S2 (by repeat (first | exact Spot.here _ _ | apply Spot.there)) 0).trans rfl), ((own_cell (g := g1) S2 (by repeat (first | exact Spot.here _ _ | apply Spot.there)) 1).trans rfl), ((own_cell (g := g1) S2 (by repeat (first | exact Spot.here _ _ | apply Spot.there)) 2).trans rfl), ((own_cell (g := g1) S2 (by repeat (first | exact Spot.here _ _ | apply Spot.there)) 3).trans rfl), ((own_cell (g := g1) S2 (by repeat (first | exact Spot.here _ _ | apply Spot.there)) 4).trans rfl), ((own_cell (g := g1) S2 (by repeat (first | exact Spot.here _ _ | apply Spot.there)) 5).trans rfl)⟩ (fun hHeld => ?_)
    refine pure_ (i := 0) (N := some 24) (v := ?_) (a' := ?_) #[true, false, false, false, false, false, false, false, false, false, false, false, false, false, false, false, false, false, false, false, false, false, false, false, false, false] rfl rfl (by kernel_rfl) (fun _ _ _ h => h) (Or.inl ⟨by rfl, ?_⟩) ?_ ?_
    rotate_left
    · intro w'
      go_simp
      with_reducible rfl
    rotate_left
    · simp only [Act.put, List.setIfInBounds_toArray, List.set_cons_zero, List.set_cons_succ, i64_w, i32_w]
      rfl
    refine pure_ (i := 2) (N := some 26) (v := ?_) (a' := ?_) #[true, false, true, false, false, false, false, false, false, false, false, false, false, false, false, false, false, false, false, false, false, false, false, false, false, false] rfl rfl (by kernel_rfl) (fun _ _ _ h => h) (Or.inl ⟨by rfl, ?_⟩) ?_ ?_
    rotate_left
    · intro w'
      go_simp
      with_reducible rfl
    rotate_left
    · simp only [Act.put, List.setIfInBounds_toArray, List.set_cons_zero, List.set_cons_succ, i64_w, i32_w]
      rfl
    refine join_ (σ := Unit) 22 #[true, true, true, true, false, false, false, false, false, false, false, false, false, false, false, false, false, false, false, false, false, false, false, false, false, false] (fun _ => [(25, .string ⟨#[]⟩), (27, .string ⟨#[]⟩)]) (fun _ w' => w' = w_.drew) ?_ ?_
    rotate_left
    · intro hCont
      refine two_ (i := 1) (j := 3) (Ni := some 25) (Nj := some 27) #[true, true, true, false, false, false, false, false, false, false, false, false, false, false, false, false, false, false, false, false, false, false, false, false, false, false] #[true, false, true, true, false, false, false, false, false, false, false, false, false, false, false, false, false, false, false, false, false, false, false, false, false, false] rfl rfl rfl rfl (by kernel_rfl) (by decide) (by decide) (fun K hK => ?_) (fun K hK => ?_)
      · skip
        refine st_str (xs := ([] : List Int)) (s := ⟨#[]⟩) (by rfl) 25 rfl rfl rfl rfl (Kd.C_nil _ _) rfl ?_
        refine hK.out _ _ ⟨((own_cell (g := g3) S2 (by repeat (first | exact Spot.here _ _ | apply Spot.there)) 0).trans rfl), ((own_cell (g := g3) S2 (by repeat (first | exact Spot.here _ _ | apply Spot.there)) 1).trans rfl), ((own_cell (g := g3) S2 (by repeat (first | exact Spot.here _ _ | apply Spot.there)) 2).trans rfl), ((own_cell (g := g3) S2 (by repeat (first | exact Spot.here _ _ | apply Spot.there)) 3).trans rfl), ((own_cell (g := g3) S2 (by repeat (first | exact Spot.here _ _ | apply Spot.there)) 4).trans rfl), ((own_cell (g := g3) S2 (by repeat (first | exact Spot.here _ _ | apply Spot.there)) 5).trans rfl), ((own_cell (g := g1) S2 (by repeat (first | exact Spot.here _ _ | apply Spot.there)) 0).trans rfl), ((own_cell (g := g1) S2 (by repeat (first | exact Spot.here _ _ | apply Spot.there)) 1).trans rfl), ((own_cell (g := g1) S2 (by repeat (first | exact Spot.here _ _ | apply Spot.there)) 2).trans rfl), ((own_cell (g := g1) S2 (by repeat (first | exact Spot.here _ _ | apply Spot.there)) 3).trans rfl), ((own_cell (g := g1) S2 (by repeat (first | exact Spot.here _ _ | apply Spot.there)) 4).trans rfl), ((own_cell (g := g1) S2 (by repeat (first | exact Spot.here _ _ | apply Spot.there)) 5).trans rfl)⟩ (fun hHeld => ?_)
        clear hK K
        refine norm_ (a' := ?_) ?_ ?_
        rotate_left
        · show Act.put _ (some 25) _ = _
          simp only [Act.put, List.setIfInBounds_toArray, List.set_cons_zero, List.set_cons_succ, i64_w, i32_w]
          rfl
        refine one_ (i := 3) (N := some 27) #[true, true, true, true, false, false, false, false, false, false, false, false, false, false, false, false, false, false, false, false, false, false, false, false, false, false] rfl rfl (by kernel_rfl) (by decide) (fun K hK => ?_)
        refine st_str (xs := ([] : List Int)) (s := ⟨#[]⟩) (by rfl) 27 rfl rfl rfl rfl (Kd.C_nil _ _) rfl ?_
        refine hK.out _ _ ⟨((own_cell (g := g3) S2 (by repeat (first | exact Spot.here _ _ | apply Spot.there)) 0).trans rfl), ((own_cell (g := g3) S2 (by repeat (first | exact Spot.here _ _ | apply Spot.there)) 1).trans rfl), ((own_cell (g := g3) S2 (by repeat (first | exact Spot.here _ _ | apply Spot.there)) 2).trans rfl), ((own_cell (g := g3) S2 (by repeat (first | exact Spot.here _ _ | apply Spot.there)) 3).trans rfl), ((own_cell (g := g3) S2 (by repeat (first | exact Spot.here _ _ | apply Spot.there)) 4).trans rfl), ((own_cell (g := g3) S2 (by repeat (first | exact Spot.here _ _ | apply Spot.there)) 5).trans rfl), ((own_cell (g := g1) S2 (by repeat (first | exact Spot.here _ _ | apply Spot.there)) 0).trans rfl), ((own_cell (g := g1) S2 (by repeat (first | exact Spot.here _ _ | apply Spot.there)) 1).trans rfl), ((own_cell (g := g1) S2 (by repeat (first | exact Spot.here _ _ | apply Spot.there)) 2).trans rfl), ((own_cell (g := g1) S2 (by repeat (first | exact Spot.here _ _ | apply Spot.there)) 3).trans rfl), ((own_cell (g := g1) S2 (by repeat (first | exact Spot.here _ _ | apply Spot.there)) 4).trans rfl), ((own_cell (g := g1) S2 (by repeat (first | exact Spot.here _ _ | apply Spot.there)) 5).trans rfl)⟩ (fun hHeld => ?_)
        clear hK K
        refine norm_ (a' := ?_) ?_ ?_
        rotate_left
        · show Act.put _ (some 27) _ = _
          simp only [Act.put, List.setIfInBounds_toArray, List.set_cons_zero, List.set_cons_succ, i64_w, i32_w]
          rfl
        exact norm_ (by simp only [putAll, Act.put, List.setIfInBounds_toArray, List.set_cons_zero, List.set_cons_succ]) (hCont () _ rfl)
      · skip
        refine st_str (xs := ([] : List Int)) (s := ⟨#[]⟩) (by rfl) 27 rfl rfl rfl rfl (Kd.C_nil _ _) rfl ?_
        refine hK.out _ _ ⟨((own_cell (g := g3) S2 (by repeat (first | exact Spot.here _ _ | apply Spot.there)) 0).trans rfl), ((own_cell (g := g3) S2 (by repeat (first | exact Spot.here _ _ | apply Spot.there)) 1).trans rfl), ((own_cell (g := g3) S2 (by repeat (first | exact Spot.here _ _ | apply Spot.there)) 2).trans rfl), ((own_cell (g := g3) S2 (by repeat (first | exact Spot.here _ _ | apply Spot.there)) 3).trans rfl), ((own_cell (g := g3) S2 (by repeat (first | exact Spot.here _ _ | apply Spot.there)) 4).trans rfl), ((own_cell (g := g3) S2 (by repeat (first | exact Spot.here _ _ | apply Spot.there)) 5).trans rfl), ((own_cell (g := g1) S2 (by repeat (first | exact Spot.here _ _ | apply Spot.there)) 0).trans rfl), ((own_cell (g := g1) S2 (by repeat (first | exact Spot.here _ _ | apply Spot.there)) 1).trans rfl), ((own_cell (g := g1) S2 (by repeat (first | exact Spot.here _ _ | apply Spot.there)) 2).trans rfl), ((own_cell (g := g1) S2 (by repeat (first | exact Spot.here _ _ | apply Spot.there)) 3).trans rfl), ((own_cell (g := g1) S2 (by repeat (first | exact Spot.here _ _ | apply Spot.there)) 4).trans rfl), ((own_cell (g := g1) S2 (by repeat (first | exact Spot.here _ _ | apply Spot.there)) 5).trans rfl)⟩ (fun hHeld => ?_)
        clear hK K
        refine norm_ (a' := ?_) ?_ ?_
        rotate_left
        · show Act.put _ (some 27) _ = _
          simp only [Act.put, List.setIfInBounds_toArray, List.set_cons_zero, List.set_cons_succ, i64_w, i32_w]
          rfl
        refine one_ (i := 1) (N := some 25) #[true, true, true, true, false, false, false, false, false, false, false, false, false, false, false, false, false, false, false, false, false, false, false, false, false, false] rfl rfl (by kernel_rfl) (by decide) (fun K hK => ?_)
        refine st_str (xs := ([] : List Int)) (s := ⟨#[]⟩) (by rfl) 25 rfl rfl rfl rfl (Kd.C_nil _ _) rfl ?_
        refine hK.out _ _ ⟨((own_cell (g := g3) S2 (by repeat (first | exact Spot.here _ _ | apply Spot.there)) 0).trans rfl), ((own_cell (g := g3) S2 (by repeat (first | exact Spot.here _ _ | apply Spot.there)) 1).trans rfl), ((own_cell (g := g3) S2 (by repeat (first | exact Spot.here _ _ | apply Spot.there)) 2).trans rfl), ((own_cell (g := g3) S2 (by repeat (first | exact Spot.here _ _ | apply Spot.there)) 3).trans rfl), ((own_cell (g := g3) S2 (by repeat (first | exact Spot.here _ _ | apply Spot.there)) 4).trans rfl), ((own_cell (g := g3) S2 (by repeat (first | exact Spot.here _ _ | apply Spot.there)) 5).trans rfl), ((own_cell (g := g1) S2 (by repeat (first | exact Spot.here _ _ | apply Spot.there)) 0).trans rfl), ((own_cell (g := g1) S2 (by repeat (first | exact Spot.here _ _ | apply Spot.there)) 1).trans rfl), ((own_cell (g := g1) S2 (by repeat (first | exact Spot.here _ _ | apply Spot.there)) 2).trans rfl), ((own_cell (g := g1) S2 (by repeat (first | exact Spot.here _ _ | apply Spot.there)) 3).trans rfl), ((own_cell (g := g1) S2 (by repeat (first | exact Spot.here _ _ | apply Spot.there)) 4).trans rfl), ((own_cell (g := g1) S2 (by repeat (first | exact Spot.here _ _ | apply Spot.there)) 5).trans rfl)⟩ (fun hHeld => ?_)
        clear hK K
        refine norm_ (a' := ?_) ?_ ?_
        rotate_left
        · show Act.put _ (some 25) _ = _
          simp only [Act.put, List.setIfInBounds_toArray, List.set_cons_zero, List.set_cons_succ, i64_w, i32_w]
          rfl
        exact norm_ (by simp only [putAll, Act.put, List.setIfInBounds_toArray, List.set_cons_zero, List.set_cons_succ]) (hCont () _ rfl)
    rintro ⟨⟩ w8 hw8
    have S8 := S2
    rw [← hw8] at S8
    clear S2 hw8
    have hHeld : w8.cell? ⟨g3, 0, none⟩ = some (.string m.nm) ∧ w8.cell? ⟨g3, 1, none⟩ = some (.slice Ak1 m.ex.length ck1) ∧ w8.cell? ⟨g3, 2, none⟩ = some (.slice Ak2 m.im.length ck2) ∧ w8.cell? ⟨g3, 3, none⟩ = some (.slice Ak3 m.co.length ck3) ∧ w8.cell? ⟨g3, 4, none⟩ = some (.slice Ak4 m.da.length ck4) ∧ w8.cell? ⟨g3, 5, none⟩ = some (.slice Ak5 m.re.length ck5) ∧ w8.cell? ⟨g1, 0, none⟩ = some (.string m.nm) ∧ w8.cell? ⟨g1, 1, none⟩ = some (.slice Aa1 m.ex.length ca1) ∧ w8.cell? ⟨g1, 2, none⟩ = some (.slice Aa2 m.im.length ca2) ∧ w8.cell? ⟨g1, 3, none⟩ = some (.slice Aa3 m.co.length ca3) ∧ w8.cell? ⟨g1, 4, none⟩ = some (.slice Aa4 m.da.length ca4) ∧ w8.cell? ⟨g1, 5, none⟩ = some (.slice Aa5 m.re.length ca5) := ⟨((own_cell (g := g3) S8 (by repeat (first | exact Spot.here _ _ | apply Spot.there)) 0).trans rfl), ((own_cell (g := g3) S8 (by repeat (first | exact Spot.here _ _ | apply Spot.there)) 1).trans rfl), ((own_cell (g := g3) S8 (by repeat (first | exact Spot.here _ _ | apply Spot.there)) 2).trans rfl), ((own_cell (g := g3) S8 (by repeat (first | exact Spot.here _ _ | apply Spot.there)) 3).trans rfl), ((own_cell (g := g3) S8 (by repeat (first | exact Spot.here _ _ | apply Spot.there)) 4).trans rfl), ((own_cell (g := g3) S8 (by repeat (first | exact Spot.here _ _ | apply Spot.there)) 5).trans rfl), ((own_cell (g := g1) S8 (by repeat (first | exact Spot.here _ _ | apply Spot.there)) 0).trans rfl), ((own_cell (g := g1) S8 (by repeat (first | exact Spot.here _ _ | apply Spot.there)) 1).trans rfl), ((own_cell (g := g1) S8 (by repeat (first | exact Spot.here _ _ | apply Spot.there)) 2).trans rfl), ((own_cell (g := g1) S8 (by repeat (first | exact Spot.here _ _ | apply Spot.there)) 3).trans rfl), ((own_cell (g := g1) S8 (by repeat (first | exact Spot.here _ _ | apply Spot.there)) 4).trans rfl), ((own_cell (g := g1) S8 (by repeat (first | exact Spot.here _ _ | apply Spot.there)) 5).trans rfl)⟩
    refine norm_ (a' := ?_) ?_ ?_
    rotate_left
    · simp only [putAll, Act.put, List.setIfInBounds_toArray, List.set_cons_zero, List.set_cons_succ]
      rfl
    refine pure_ (i := 4) (N := some 28) (v := ?_) (a' := ?_) #[true, true, true, true, true, false, false, false, false, false, false, false, false, false, false, false, false, false, false, false, false, false, false, false, false, false] rfl rfl (by kernel_rfl) (fun _ _ _ h => h) (Or.inl ⟨by rfl, ?_⟩) ?_ ?_
    rotate_left
    · intro w'
      go_simp
      with_reducible rfl
    rotate_left
    · simp only [Act.put, List.setIfInBounds_toArray, List.set_cons_zero, List.set_cons_succ, i64_w, i32_w]
      rfl
    refine pure_ (i := 5) (N := some 29) (v := ?_) (a' := ?_) #[true, true, true, true, true, true, false, false, false, false, false, false, false, false, false, false, false, false, false, false, false, false, false, false, false, false] rfl rfl (by kernel_rfl) (fun _ _ _ h => h) (Or.inl ⟨by rfl, ?_⟩) ?_ ?_
    rotate_left
    · intro w'
      go_simp
      with_reducible rfl
    rotate_left
    · simp only [Act.put, List.setIfInBounds_toArray, List.set_cons_zero, List.set_cons_succ, i64_w, i32_w]
      rfl
    refine pure_ (i := 6) (N := some 30) (v := ?_) (a' := ?_) #[true, true, true, true, true, true, true, false, false, false, false, false, false, false, false, false, false, false, false, false, false, false, false, false, false, false] rfl rfl (by kernel_rfl) (fun _ _ _ h => h) (Or.inl ⟨by rfl, ?_⟩) ?_ ?_
    rotate_left
    · intro w'
      go_simp
      with_reducible rfl
    rotate_left
    · simp only [Act.put, List.setIfInBounds_toArray, List.set_cons_zero, List.set_cons_succ, i64_w, i32_w]
      rfl
    refine pure_ (i := 7) (N := some 31) (v := ?_) (a' := ?_) #[true, true, true, true, true, true, true, true, false, false, false, false, false, false, false, false, false, false, false, false, false, false, false, false, false, false] rfl rfl (by kernel_rfl) (fun _ _ _ h => h) (Or.inl ⟨by rfl, ?_⟩) ?_ ?_
    rotate_left
    · intro w'
      go_simp
      with_reducible rfl
    rotate_left
    · simp only [Act.put, List.setIfInBounds_toArray, List.set_cons_zero, List.set_cons_succ, i64_w, i32_w]
      rfl
    refine pure_ (i := 8) (N := some 32) (v := ?_) (a' := ?_) #[true, true, true, true, true, true, true, true, true, false, false, false, false, false, false, false, false, false, false, false, false, false, false, false, false, false] rfl rfl (by kernel_rfl) (fun _ _ _ h => h) (Or.inl ⟨by rfl, ?_⟩) ?_ ?_
    rotate_left
    · intro w'
      go_simp
      with_reducible rfl
    rotate_left
    · simp only [Act.put, List.setIfInBounds_toArray, List.set_cons_zero, List.set_cons_succ, i64_w, i32_w]
      rfl
    refine pure_ (i := 9) (N := some 33) (v := ?_) (a' := ?_) #[true, true, true, true, true, true, true, true, true, true, false, false, false, false, false, false, false, false, false, false, false, false, false, false, false, false] rfl rfl (by kernel_rfl) (fun _ _ _ h => h) (Or.inl ⟨by rfl, ?_⟩) ?_ ?_
    rotate_left
    · intro w'
      go_simp
      with_reducible rfl
    rotate_left
    · simp only [Act.put, List.setIfInBounds_toArray, List.set_cons_zero, List.set_cons_succ, i64_w, i32_w]
      rfl
    refine pure_ (i := 10) (N := some 34) (v := ?_) (a' := ?_) #[true, true, true, true, true, true, true, true, true, true, true, false, false, false, false, false, false, false, false, false, false, false, false, false, false, false] rfl rfl (by kernel_rfl) (fun _ _ _ h => h) (Or.inl ⟨by rfl, ?_⟩) ?_ ?_
    rotate_left
    · intro w'
      go_simp
      with_reducible rfl
    rotate_left
    · simp only [Act.put, List.setIfInBounds_toArray, List.set_cons_zero, List.set_cons_succ, i64_w, i32_w]
      rfl
    refine take_ (i := 11) (N := some 35) (v := ?_) (a' := ?_) #[true, true, true, true, true, true, true, true, true, true, true, true, false, false, false, false, false, false, false, false, false, false, false, false, false, false] rfl rfl (by kernel_rfl) (fun _ _ _ h => h) (Or.inl ⟨by rfl, ?_⟩) hHeld ?_ ?_
    rotate_left
    · rintro w' ⟨s0, s1, s2, s3, s4, s5, s6, s7, s8, s9, s10, s11⟩
      go_simp
      with_reducible rfl
    rotate_left
    · simp only [Act.put, List.setIfInBounds_toArray, List.set_cons_zero, List.set_cons_succ, i64_w, i32_w]
      rfl
    refine take_ (i := 13) (N := some 37) (v := ?_) (a' := ?_) #[true, true, true, true, true, true, true, true, true, true, true, true, false, true, false, false, false, false, false, false, false, false, false, false, false, false] rfl rfl (by kernel_rfl) (fun _ _ _ h => h) (Or.inl ⟨by rfl, ?_⟩) hHeld ?_ ?_
    rotate_left
    · rintro w' ⟨s0, s1, s2, s3, s4, s5, s6, s7, s8, s9, s10, s11⟩
      go_simp
      with_reducible rfl
    rotate_left
    · simp only [Act.put, List.setIfInBounds_toArray, List.set_cons_zero, List.set_cons_succ, i64_w, i32_w]
      rfl
    refine one_ (i := 12) (N := some 36) #[true, true, true, true, true, true, true, true, true, true, true, true, true, true, false, false, false, false, false, false, false, false, false, false, false, false] rfl rfl (by kernel_rfl) (by decide) (fun K hK => ?_)
    refine goes_ Try.func14 (by kernel_rfl) rfl #[.agg #[.string m.nm, .slice Ak1 m.ex.length ck1, .slice Ak2 m.im.length ck2, .slice Ak3 m.co.length ck3, .slice Ak4 m.da.length ck4, .slice Ak5 m.re.length ck5]] (by rfl) rfl rfl (by simp only [List.map_toArray, List.map_cons, List.map_nil]; rfl) ?_
    with_reducible refine (chk_mo m Ak1 ck1 Ak2 ck2 Ak3 ck3 Ak4 ck4 Ak5 ck5 _ ⟨Ow.reads (pred_at S8.out (a := Ow Kd.string 9 Ak1 ck1 m.ex) (by repeat (first | exact Spot.here _ _ | apply Spot.there))), Ow.cap (pred_at S8.out (a := Ow Kd.string 9 Ak1 ck1 m.ex) (by repeat (first | exact Spot.here _ _ | apply Spot.there))), Ow.reads (pred_at S8.out (a := Ow Kd.string 9 Ak2 ck2 m.im) (by repeat (first | exact Spot.here _ _ | apply Spot.there))), Ow.cap (pred_at S8.out (a := Ow Kd.string 9 Ak2 ck2 m.im) (by repeat (first | exact Spot.here _ _ | apply Spot.there))), Ow.reads (pred_at S8.out (a := Ow (Kd.int .u32) 43 Ak3 ck3 m.co) (by repeat (first | exact Spot.here _ _ | apply Spot.there))), Ow.cap (pred_at S8.out (a := Ow (Kd.int .u32) 43 Ak3 ck3 m.co) (by repeat (first | exact Spot.here _ _ | apply Spot.there))), Ow.reads (pred_at S8.out (a := Ow (Kd.int .u32) 43 Ak4 ck4 m.da) (by repeat (first | exact Spot.here _ _ | apply Spot.there))), Ow.cap (pred_at S8.out (a := Ow (Kd.int .u32) 43 Ak4 ck4 m.da) (by repeat (first | exact Spot.here _ _ | apply Spot.there))), Ow.reads (pred_at S8.out (a := Ow k50 50 Ak5 ck5 m.re) (by repeat (first | exact Spot.here _ _ | apply Spot.there))), Ow.cap (pred_at S8.out (a := Ow k50 50 Ak5 ck5 m.re) (by repeat (first | exact Spot.here _ _ | apply Spot.there)))⟩ _ HF.out).mono ?_
    rintro z9 w36 ⟨rfl, hb_⟩
    have S36 := Aside0.mk (S8.out.keep hb_)
    clear hb_
    refine ⟨_, rfl, ?_⟩
    refine hK.out _ _ ⟨((own_cell (g := g3) S36 (by repeat (first | exact Spot.here _ _ | apply Spot.there)) 0).trans rfl), ((own_cell (g := g3) S36 (by repeat (first | exact Spot.here _ _ | apply Spot.there)) 1).trans rfl), ((own_cell (g := g3) S36 (by repeat (first | exact Spot.here _ _ | apply Spot.there)) 2).trans rfl), ((own_cell (g := g3) S36 (by repeat (first | exact Spot.here _ _ | apply Spot.there)) 3).trans rfl), ((own_cell (g := g3) S36 (by repeat (first | exact Spot.here _ _ | apply Spot.there)) 4).trans rfl), ((own_cell (g := g3) S36 (by repeat (first | exact Spot.here _ _ | apply Spot.there)) 5).trans rfl), ((own_cell (g := g1) S36 (by repeat (first | exact Spot.here _ _ | apply Spot.there)) 0).trans rfl), ((own_cell (g := g1) S36 (by repeat (first | exact Spot.here _ _ | apply Spot.there)) 1).trans rfl), ((own_cell (g := g1) S36 (by repeat (first | exact Spot.here _ _ | apply Spot.there)) 2).trans rfl), ((own_cell (g := g1) S36 (by repeat (first | exact Spot.here _ _ | apply Spot.there)) 3).trans rfl), ((own_cell (g := g1) S36 (by repeat (first | exact Spot.here _ _ | apply Spot.there)) 4).trans rfl), ((own_cell (g := g1) S36 (by repeat (first | exact Spot.here _ _ | apply Spot.there)) 5).trans rfl)⟩ (fun hHeld => ?_)
    clear hK K
    refine norm_ (a' := ?_) ?_ ?_
    rotate_left
    · show Act.put _ (some 36) _ = _
      simp only [Act.put, List.setIfInBounds_toArray, List.set_cons_zero, List.set_cons_succ, i64_w, i32_w]
      rfl
    refine one_ (i := 14) (N := some 38) #[true, true, true, true, true, true, true, true, true, true, true, true, true, true, true, false, false, false, false, false, false, false, false, false, false, false] rfl rfl (by kernel_rfl) (by decide) (fun K hK => ?_)
    refine goes_ Try.func15 (by kernel_rfl) rfl #[.agg #[.string m.nm, .slice Aa1 m.ex.length ca1, .slice Aa2 m.im.length ca2, .slice Aa3 m.co.length ca3, .slice Aa4 m.da.length ca4, .slice Aa5 m.re.length ca5]] (by rfl) rfl rfl (by simp only [List.map_toArray, List.map_cons, List.map_nil]; rfl) ?_
    with_reducible refine (budwoodref10_Check.calls 1000003 m.nm Aa1 ca1 m.ex Aa2 ca2 m.im Aa3 ca3 m.co Aa4 ca4 m.da Aa5 ca5 m.re _ _ (HM.out.below S36.out.below).r1 (HM.out.below S36.out.below).l1 (HM.out.below S36.out.below).r2 (HM.out.below S36.out.below).l2 (HM.out.below S36.out.below).r3 (HM.out.below S36.out.below).l3 (HM.out.below S36.out.below).r4 (HM.out.below S36.out.below).l4 (HM.out.below S36.out.below).r5 (HM.out.below S36.out.below).l5 HCF.out).mono ?_
    rintro z9 w38 ⟨rfl, hb_⟩
    have S38 := Aside0.mk (S36.out.keep hb_)
    clear hb_
    refine ⟨_, rfl, ?_⟩
    refine hK.out _ _ ⟨((own_cell (g := g3) S38 (by repeat (first | exact Spot.here _ _ | apply Spot.there)) 0).trans rfl), ((own_cell (g := g3) S38 (by repeat (first | exact Spot.here _ _ | apply Spot.there)) 1).trans rfl), ((own_cell (g := g3) S38 (by repeat (first | exact Spot.here _ _ | apply Spot.there)) 2).trans rfl), ((own_cell (g := g3) S38 (by repeat (first | exact Spot.here _ _ | apply Spot.there)) 3).trans rfl), ((own_cell (g := g3) S38 (by repeat (first | exact Spot.here _ _ | apply Spot.there)) 4).trans rfl), ((own_cell (g := g3) S38 (by repeat (first | exact Spot.here _ _ | apply Spot.there)) 5).trans rfl), ((own_cell (g := g1) S38 (by repeat (first | exact Spot.here _ _ | apply Spot.there)) 0).trans rfl), ((own_cell (g := g1) S38 (by repeat (first | exact Spot.here _ _ | apply Spot.there)) 1).trans rfl), ((own_cell (g := g1) S38 (by repeat (first | exact Spot.here _ _ | apply Spot.there)) 2).trans rfl), ((own_cell (g := g1) S38 (by repeat (first | exact Spot.here _ _ | apply Spot.there)) 3).trans rfl), ((own_cell (g := g1) S38 (by repeat (first | exact Spot.here _ _ | apply Spot.there)) 4).trans rfl), ((own_cell (g := g1) S38 (by repeat (first | exact Spot.here _ _ | apply Spot.there)) 5).trans rfl)⟩ (fun hHeld => ?_)
    clear hK K
    refine norm_ (a' := ?_) ?_ ?_
    rotate_left
    · show Act.put _ (some 38) _ = _
      simp only [Act.put, List.setIfInBounds_toArray, List.set_cons_zero, List.set_cons_succ, i64_w, i32_w]
      rfl
    refine pure_ (i := 15) (N := some 39) (v := ?_) (a' := ?_) #[true, true, true, true, true, true, true, true, true, true, true, true, true, true, true, true, false, false, false, false, false, false, false, false, false, false] rfl rfl (by kernel_rfl) (fun _ _ _ h => h) (Or.inl ⟨by rfl, ?_⟩) ?_ ?_
    rotate_left
    · intro w'
      go_simp
      with_reducible rfl
    rotate_left
    · simp only [Act.put, List.setIfInBounds_toArray, List.set_cons_zero, List.set_cons_succ, i64_w, i32_w]
      rfl
    refine pure_ (i := 16) (N := some 40) (v := ?_) (a' := ?_) #[true, true, true, true, true, true, true, true, true, true, true, true, true, true, true, true, true, false, false, false, false, false, false, false, false, false] rfl rfl (by kernel_rfl) (fun _ _ _ h => h) (Or.inl ⟨by rfl, ?_⟩) ?_ ?_
    rotate_left
    · intro w'
      go_simp
      with_reducible rfl
    rotate_left
    · simp only [Act.put, List.setIfInBounds_toArray, List.set_cons_zero, List.set_cons_succ, i64_w, i32_w]
      rfl
    refine pure_ (i := 17) (N := some 41) (v := ?_) (a' := ?_) #[true, true, true, true, true, true, true, true, true, true, true, true, true, true, true, true, true, true, false, false, false, false, false, false, false, false] rfl rfl (by kernel_rfl) (fun _ _ _ h => h) (Or.inl ⟨by rfl, ?_⟩) ?_ ?_
    rotate_left
    · intro w'
      go_simp
      with_reducible rfl
    rotate_left
    · simp only [Act.put, List.setIfInBounds_toArray, List.set_cons_zero, List.set_cons_succ, i64_w, i32_w]
      rfl
    refine take_ (i := 18) (N := some 42) (v := ?_) (a' := ?_) #[true, true, true, true, true, true, true, true, true, true, true, true, true, true, true, true, true, true, true, false, false, false, false, false, false, false] rfl rfl (by kernel_rfl) (fun _ _ _ h => h) (Or.inl ⟨by rfl, ?_⟩) hHeld ?_ ?_
    rotate_left
    · rintro w' ⟨s0, s1, s2, s3, s4, s5, s6, s7, s8, s9, s10, s11⟩
      go_simp
      with_reducible rfl
    rotate_left
    · simp only [Act.put, List.setIfInBounds_toArray, List.set_cons_zero, List.set_cons_succ, i64_w, i32_w]
      rfl
    refine take_ (i := 19) (N := some 43) (v := ?_) (a' := ?_) #[true, true, true, true, true, true, true, true, true, true, true, true, true, true, true, true, true, true, true, true, false, false, false, false, false, false] rfl rfl (by kernel_rfl) (fun _ _ _ h => h) (Or.inl ⟨by rfl, ?_⟩) hHeld ?_ ?_
    rotate_left
    · rintro w' ⟨s0, s1, s2, s3, s4, s5, s6, s7, s8, s9, s10, s11⟩
      go_simp
      with_reducible rfl
    rotate_left
    · simp only [Act.put, List.setIfInBounds_toArray, List.set_cons_zero, List.set_cons_succ, i64_w, i32_w]
      rfl
    refine one_ (i := 20) (N := some 44) #[true, true, true, true, true, true, true, true, true, true, true, true, true, true, true, true, true, true, true, true, true, false, false, false, false, false] rfl rfl (by kernel_rfl) (by decide) (fun K hK => ?_)
    refine goes_ Try.func16 (by kernel_rfl) rfl #[.agg #[.string m.nm, .slice Ak1 m.ex.length ck1, .slice Ak2 m.im.length ck2, .slice Ak3 m.co.length ck3, .slice Ak4 m.da.length ck4, .slice Ak5 m.re.length ck5], .agg #[.string m.nm, .slice Aa1 m.ex.length ca1, .slice Aa2 m.im.length ca2, .slice Aa3 m.co.length ca3, .slice Aa4 m.da.length ca4, .slice Aa5 m.re.length ca5]] (by rfl) rfl rfl (by simp only [List.map_toArray, List.map_cons, List.map_nil]; rfl) ?_
    with_reducible refine (rsame_mo m m Ak1 ck1 Ak2 ck2 Ak3 ck3 Ak4 ck4 Ak5 ck5 Aa1 ca1 Aa2 ca2 Aa3 ca3 Aa4 ca4 Aa5 ca5 _ ⟨Ow.reads (pred_at S38.out (a := Ow Kd.string 9 Ak1 ck1 m.ex) (by repeat (first | exact Spot.here _ _ | apply Spot.there))), Ow.cap (pred_at S38.out (a := Ow Kd.string 9 Ak1 ck1 m.ex) (by repeat (first | exact Spot.here _ _ | apply Spot.there))), Ow.reads (pred_at S38.out (a := Ow Kd.string 9 Ak2 ck2 m.im) (by repeat (first | exact Spot.here _ _ | apply Spot.there))), Ow.cap (pred_at S38.out (a := Ow Kd.string 9 Ak2 ck2 m.im) (by repeat (first | exact Spot.here _ _ | apply Spot.there))), Ow.reads (pred_at S38.out (a := Ow (Kd.int .u32) 43 Ak3 ck3 m.co) (by repeat (first | exact Spot.here _ _ | apply Spot.there))), Ow.cap (pred_at S38.out (a := Ow (Kd.int .u32) 43 Ak3 ck3 m.co) (by repeat (first | exact Spot.here _ _ | apply Spot.there))), Ow.reads (pred_at S38.out (a := Ow (Kd.int .u32) 43 Ak4 ck4 m.da) (by repeat (first | exact Spot.here _ _ | apply Spot.there))), Ow.cap (pred_at S38.out (a := Ow (Kd.int .u32) 43 Ak4 ck4 m.da) (by repeat (first | exact Spot.here _ _ | apply Spot.there))), Ow.reads (pred_at S38.out (a := Ow k50 50 Ak5 ck5 m.re) (by repeat (first | exact Spot.here _ _ | apply Spot.there))), Ow.cap (pred_at S38.out (a := Ow k50 50 Ak5 ck5 m.re) (by repeat (first | exact Spot.here _ _ | apply Spot.there)))⟩ (HM.out.below S38.out.below) few).mono ?_
    rintro z9 w44 ⟨rfl, hb_⟩
    have S44 := Aside0.mk (S38.out.keep hb_)
    clear hb_
    refine ⟨_, rfl, ?_⟩
    refine hK.out _ _ ⟨((own_cell (g := g3) S44 (by repeat (first | exact Spot.here _ _ | apply Spot.there)) 0).trans rfl), ((own_cell (g := g3) S44 (by repeat (first | exact Spot.here _ _ | apply Spot.there)) 1).trans rfl), ((own_cell (g := g3) S44 (by repeat (first | exact Spot.here _ _ | apply Spot.there)) 2).trans rfl), ((own_cell (g := g3) S44 (by repeat (first | exact Spot.here _ _ | apply Spot.there)) 3).trans rfl), ((own_cell (g := g3) S44 (by repeat (first | exact Spot.here _ _ | apply Spot.there)) 4).trans rfl), ((own_cell (g := g3) S44 (by repeat (first | exact Spot.here _ _ | apply Spot.there)) 5).trans rfl), ((own_cell (g := g1) S44 (by repeat (first | exact Spot.here _ _ | apply Spot.there)) 0).trans rfl), ((own_cell (g := g1) S44 (by repeat (first | exact Spot.here _ _ | apply Spot.there)) 1).trans rfl), ((own_cell (g := g1) S44 (by repeat (first | exact Spot.here _ _ | apply Spot.there)) 2).trans rfl), ((own_cell (g := g1) S44 (by repeat (first | exact Spot.here _ _ | apply Spot.there)) 3).trans rfl), ((own_cell (g := g1) S44 (by repeat (first | exact Spot.here _ _ | apply Spot.there)) 4).trans rfl), ((own_cell (g := g1) S44 (by repeat (first | exact Spot.here _ _ | apply Spot.there)) 5).trans rfl)⟩ (fun hHeld => ?_)
    clear hK K
    refine norm_ (a' := ?_) ?_ ?_
    rotate_left
    · show Act.put _ (some 44) _ = _
      simp only [Act.put, List.setIfInBounds_toArray, List.set_cons_zero, List.set_cons_succ, i64_w, i32_w]
      rfl
    refine pure_ (i := 21) (N := some 45) (v := ?_) (a' := ?_) #[true, true, true, true, true, true, true, true, true, true, true, true, true, true, true, true, true, true, true, true, true, true, false, false, false, false] rfl rfl (by kernel_rfl) (fun _ _ _ h => h) (Or.inl ⟨by rfl, ?_⟩) ?_ ?_
    rotate_left
    · intro w'
      go_simp
      with_reducible rfl
    rotate_left
    · simp only [Act.put, List.setIfInBounds_toArray, List.set_cons_zero, List.set_cons_succ, i64_w, i32_w]
      rfl
    refine pure_ (i := 22) (N := some 46) (v := ?_) (a' := ?_) #[true, true, true, true, true, true, true, true, true, true, true, true, true, true, true, true, true, true, true, true, true, true, true, false, false, false] rfl rfl (by kernel_rfl) (fun _ _ _ h => h) (Or.inl ⟨by rfl, ?_⟩) ?_ ?_
    rotate_left
    · intro w'
      go_simp
      with_reducible rfl
    rotate_left
    · simp only [Act.put, List.setIfInBounds_toArray, List.set_cons_zero, List.set_cons_succ, i64_w, i32_w]
      rfl
    refine one_ (i := 23) (N := some 47) #[true, true, true, true, true, true, true, true, true, true, true, true, true, true, true, true, true, true, true, true, true, true, true, true, false, false] rfl rfl (by kernel_rfl) (by decide) (fun K hK => ?_)
    refine goes_ Try.func10 (by kernel_rfl) rfl #[] (by rfl) rfl rfl (by simp only [List.map_toArray, List.map_nil]) ?_
    with_reducible refine (awake_calls _).mono ?_
    rintro z9 w47 ⟨rfl, hb_⟩
    have S47 := Aside0.mk (S44.out.keep hb_)
    clear hb_
    refine ⟨_, rfl, ?_⟩
    refine hK.out _ _ ⟨((own_cell (g := g3) S47 (by repeat (first | exact Spot.here _ _ | apply Spot.there)) 0).trans rfl), ((own_cell (g := g3) S47 (by repeat (first | exact Spot.here _ _ | apply Spot.there)) 1).trans rfl), ((own_cell (g := g3) S47 (by repeat (first | exact Spot.here _ _ | apply Spot.there)) 2).trans rfl), ((own_cell (g := g3) S47 (by repeat (first | exact Spot.here _ _ | apply Spot.there)) 3).trans rfl), ((own_cell (g := g3) S47 (by repeat (first | exact Spot.here _ _ | apply Spot.there)) 4).trans rfl), ((own_cell (g := g3) S47 (by repeat (first | exact Spot.here _ _ | apply Spot.there)) 5).trans rfl), ((own_cell (g := g1) S47 (by repeat (first | exact Spot.here _ _ | apply Spot.there)) 0).trans rfl), ((own_cell (g := g1) S47 (by repeat (first | exact Spot.here _ _ | apply Spot.there)) 1).trans rfl), ((own_cell (g := g1) S47 (by repeat (first | exact Spot.here _ _ | apply Spot.there)) 2).trans rfl), ((own_cell (g := g1) S47 (by repeat (first | exact Spot.here _ _ | apply Spot.there)) 3).trans rfl), ((own_cell (g := g1) S47 (by repeat (first | exact Spot.here _ _ | apply Spot.there)) 4).trans rfl), ((own_cell (g := g1) S47 (by repeat (first | exact Spot.here _ _ | apply Spot.there)) 5).trans rfl)⟩ (fun hHeld => ?_)
    clear hK K
    refine norm_ (a' := ?_) ?_ ?_
    rotate_left
    · show Act.put _ (some 47) _ = _
      simp only [Act.put, List.setIfInBounds_toArray, List.set_cons_zero, List.set_cons_succ, i64_w, i32_w]
      rfl
    refine pure_ (i := 24) (N := some 48) (v := ?_) (a' := ?_) #[true, true, true, true, true, true, true, true, true, true, true, true, true, true, true, true, true, true, true, true, true, true, true, true, true, false] rfl rfl (by kernel_rfl) (fun _ _ _ h => h) (Or.inl ⟨by rfl, ?_⟩) ?_ ?_
    rotate_left
    · intro w'
      go_simp
      with_reducible rfl
    rotate_left
    · simp only [Act.put, List.setIfInBounds_toArray, List.set_cons_zero, List.set_cons_succ, i64_w, i32_w]
      rfl
    refine pure_ (i := 25) (N := some 2) (v := ?_) (a' := ?_) #[true, true, true, true, true, true, true, true, true, true, true, true, true, true, true, true, true, true, true, true, true, true, true, true, true, true] rfl rfl (by kernel_rfl) (fun _ _ _ h => h) (Or.inl ⟨by rfl, ?_⟩) ?_ ?_
    rotate_left
    · intro w'
      go_simp
      with_reducible rfl
    rotate_left
    · simp only [Act.put, List.setIfInBounds_toArray, List.set_cons_zero, List.set_cons_succ, i64_w, i32_w]
      rfl
    refine done_ (by kernel_rfl) ?_

    have S := S47
    clear S8 S36 S38 S44 S47
    go_wp2
    go_ret
    exact ⟨rfl, S.out.below⟩
  | false =>
    obtain rfl : f = 0 := by simpa using hne
    obtain ⟨en, hen⟩ : ∃ l, m.enc = l := ⟨_, rfl⟩
    have HEN := Aside0.mk hen
    obtain ⟨sn, hsn⟩ : ∃ s, strOfNums en = s := ⟨_, rfl⟩
    have HSN := Aside0.mk hsn
    clear hen hsn
    go_enter Try.func3, Try.ntmps3
    go_wp2_with (first | ((with_reducible refine gate_dst (N := 1) rfl ?_); refine ev_boxs S ?_ 1 rfl rfl rfl ?_; (first | exact want0 rfl | exact want1 rfl rfl rfl rfl); intro g1 w1 S_; clear S; have S := S_; clear S_) | (refine ev_owns (vs := [_, _, _, _, _, _]) S ?_ rfl m26 rfl (by repeat (first | exact Spot.here _ _ | apply Spot.there)) (by exact rfl) ?_; (first | exact want0 rfl | exact want1 rfl rfl rfl rfl)) | ((with_reducible refine gate_dst (N := 3) rfl ?_); refine ev_alloc #[.string ⟨#[]⟩, .slice none 0 0, .slice none 0 0, .slice none 0 0, .slice none 0 0, .slice none 0 0] rfl S ?_ 3 rfl rfl z26 ?_; (first | exact want0 rfl | exact want1 rfl rfl rfl rfl); intro g3 w3 S_; clear S; have S := S_; clear S_) | (refine ev_puts S ?_ rfl rfl s26 rfl rfl (by repeat (first | exact Spot.here _ _ | apply Spot.there)) rfl ?_ ?_ ?_; (first | exact want0 rfl | exact want1 rfl rfl rfl rfl); rfl; rfl; intro w_ S_; simp only [putAt, List.set_cons_zero, List.set_cons_succ] at S_; clear S; have S := S_; clear S_) | (go_at_call 9; (with_reducible refine (size_mo m Aa1 ca1 Aa2 ca2 Aa3 ca3 Aa4 ca4 Aa5 ca5 _ (HM.out.below S.out.below)).mono ?_); rintro z_ w_ ⟨rfl, hb_⟩; have hb2_ := hb_; have S_ := Aside0.mk (S.out.keep hb2_); clear hb2_ hb_; clear S; have S := S_; clear S_) | (go_at_call 10; (with_reducible refine (awake_calls _).mono ?_); rintro z_ w_ ⟨rfl, hb_⟩; have hb2_ := hb_; have S_ := Aside0.mk (S.out.keep hb2_); clear hb2_ hb_; clear S; have S := S_; clear S_) | (go_at_call 11; (with_reducible refine (copy11 m Aa1 ca1 Aa2 ca2 Aa3 ca3 Aa4 ca4 Aa5 ca5 _ (HM.out.below S.out.below) few).mono ?_); rintro z_ w_ ⟨Ak1, ck1, Ak2, ck2, Ak3, ck3, Ak4, ck4, Ak5, ck5, rfl, S1_⟩; have S_ := Aside0.mk (St.join S.out S1_.out); clear S1_; simp only [List.cons_append, List.nil_append] at S_; clear S; have S := S_; clear S_) | (go_at_call 12; have k_ : Md _ m.nm Ak1 ck1 m.ex Ak2 ck2 m.im Ak3 ck3 m.co Ak4 ck4 m.da Ak5 ck5 m.re := ⟨Ow.reads (pred_at S.out (a := Ow Kd.string 9 Ak1 ck1 m.ex) (by repeat (first | exact Spot.here _ _ | apply Spot.there))), Ow.cap (pred_at S.out (a := Ow Kd.string 9 Ak1 ck1 m.ex) (by repeat (first | exact Spot.here _ _ | apply Spot.there))), Ow.reads (pred_at S.out (a := Ow Kd.string 9 Ak2 ck2 m.im) (by repeat (first | exact Spot.here _ _ | apply Spot.there))), Ow.cap (pred_at S.out (a := Ow Kd.string 9 Ak2 ck2 m.im) (by repeat (first | exact Spot.here _ _ | apply Spot.there))), Ow.reads (pred_at S.out (a := Ow (Kd.int .u32) 43 Ak3 ck3 m.co) (by repeat (first | exact Spot.here _ _ | apply Spot.there))), Ow.cap (pred_at S.out (a := Ow (Kd.int .u32) 43 Ak3 ck3 m.co) (by repeat (first | exact Spot.here _ _ | apply Spot.there))), Ow.reads (pred_at S.out (a := Ow (Kd.int .u32) 43 Ak4 ck4 m.da) (by repeat (first | exact Spot.here _ _ | apply Spot.there))), Ow.cap (pred_at S.out (a := Ow (Kd.int .u32) 43 Ak4 ck4 m.da) (by repeat (first | exact Spot.here _ _ | apply Spot.there))), Ow.reads (pred_at S.out (a := Ow k50 50 Ak5 ck5 m.re) (by repeat (first | exact Spot.here _ _ | apply Spot.there))), Ow.cap (pred_at S.out (a := Ow k50 50 Ak5 ck5 m.re) (by repeat (first | exact Spot.here _ _ | apply Spot.there)))⟩; (with_reducible refine (put_mo m Ak1 ck1 Ak2 ck2 Ak3 ck3 Ak4 ck4 Ak5 ck5 _ k_ HF.out en HEN.out).mono ?_); clear k_; rintro z_ w_ ⟨A16, c16, rfl, h1_, h2_, hb_⟩; have S_ := Aside0.mk (St.add S.out hb_ _ h1_ h2_); clear h1_ h2_ hb_; clear S; have S := S_; clear S_) | (go_at_call 13; (with_reducible refine (rput_ok m Aa1 ca1 Aa2 ca2 Aa3 ca3 Aa4 ca4 Aa5 ca5 _ (HM.out.below S.out.below) HF.out en HEN.out).mono ?_); rintro z_ w_ ⟨A21, c21, rfl, h1_, h2_, hb_⟩; have S_ := Aside0.mk (St.add S.out hb_ _ h1_ h2_); clear h1_ h2_ hb_; clear S; have S := S_; clear S_))
    have S2 := Aside0.mk S.out.drew
    clear S
    refine start_ (n := 26) (S := fun w' => w'.cell? ⟨g3, 0, none⟩ = some (.string m.nm) ∧ w'.cell? ⟨g3, 1, none⟩ = some (.slice Ak1 m.ex.length ck1) ∧ w'.cell? ⟨g3, 2, none⟩ = some (.slice Ak2 m.im.length ck2) ∧ w'.cell? ⟨g3, 3, none⟩ = some (.slice Ak3 m.co.length ck3) ∧ w'.cell? ⟨g3, 4, none⟩ = some (.slice Ak4 m.da.length ck4) ∧ w'.cell? ⟨g3, 5, none⟩ = some (.slice Ak5 m.re.length ck5) ∧ w'.cell? ⟨g1, 0, none⟩ = some (.string m.nm) ∧ w'.cell? ⟨g1, 1, none⟩ = some (.slice Aa1 m.ex.length ca1) ∧ w'.cell? ⟨g1, 2, none⟩ = some (.slice Aa2 m.im.length ca2) ∧ w'.cell? ⟨g1, 3, none⟩ = some (.slice Aa3 m.co.length ca3) ∧ w'.cell? ⟨g1, 4, none⟩ = some (.slice Aa4 m.da.length ca4) ∧ w'.cell? ⟨g1, 5, none⟩ = some (.slice Aa5 m.re.length ca5)) (ds := []) #[false, false, false, false, false, false, false, false, false, false, false, false, false, false, false, false, false, false, false, false, false, false, false, false, false, false] (by kernel_rfl) rfl rfl ⟨((own_cell (g := g3) S2 (by repeat (first | exact Spot.here _ _ | apply Spot.there)) 0).trans rfl), ((own_cell (g := g3) S2 (by repeat (first | exact Spot.here _ _ | apply Spot.there)) 1).trans rfl), ((own_cell (g := g3) S2 (by repeat (first | exact Spot.here _ _ | apply Spot.there)) 2).trans rfl), ((own_cell (g := g3) S2 (by repeat (first | exact Spot.here _ _ | apply Spot.there)) 3).trans rfl), ((own_cell (g := g3) S2 (by repeat (first | exact Spot.here _ _ | apply Spot.there)) 4).trans rfl), ((own_cell (g := g3) S2 (by repeat (first | exact Spot.here _ _ | apply Spot.there)) 5).trans rfl), ((own_cell (g := g1) S2 (by repeat (first | exact Spot.here _ _ | apply Spot.there)) 0).trans rfl), ((own_cell (g := g1) S2 (by repeat (first | exact Spot.here _ _ | apply Spot.there)) 1).trans rfl), ((own_cell (g := g1) S2 (by repeat (first | exact Spot.here _ _ | apply Spot.there)) 2).trans rfl), ((own_cell (g := g1) S2 (by repeat (first | exact Spot.here _ _ | apply Spot.there)) 3).trans rfl), ((own_cell (g := g1) S2 (by repeat (first | exact Spot.here _ _ | apply Spot.there)) 4).trans rfl), ((own_cell (g := g1) S2 (by repeat (first | exact Spot.here _ _ | apply Spot.there)) 5).trans rfl)⟩ (fun hHeld => ?_)
    refine pure_ (i := 0) (N := some 24) (v := ?_) (a' := ?_) #[true, false, false, false, false, false, false, false, false, false, false, false, false, false, false, false, false, false, false, false, false, false, false, false, false, false] rfl rfl (by kernel_rfl) (fun _ _ _ h => h) (Or.inl ⟨by rfl, ?_⟩) ?_ ?_
    rotate_left
    · intro w'
      go_simp
      with_reducible rfl
    rotate_left
    · simp only [Act.put, List.setIfInBounds_toArray, List.set_cons_zero, List.set_cons_succ, i64_w, i32_w]
      rfl
    refine pure_ (i := 2) (N := some 26) (v := ?_) (a' := ?_) #[true, false, true, false, false, false, false, false, false, false, false, false, false, false, false, false, false, false, false, false, false, false, false, false, false, false] rfl rfl (by kernel_rfl) (fun _ _ _ h => h) (Or.inl ⟨by rfl, ?_⟩) ?_ ?_
    rotate_left
    · intro w'
      go_simp
      with_reducible rfl
    rotate_left
    · simp only [Act.put, List.setIfInBounds_toArray, List.set_cons_zero, List.set_cons_succ, i64_w, i32_w]
      rfl
    refine join_ (σ := Unit) 22 #[true, true, true, true, false, false, false, false, false, false, false, false, false, false, false, false, false, false, false, false, false, false, false, false, false, false] (fun _ => [(25, .string sn), (27, .string sn)]) (fun _ w' => w' = w_.drew) ?_ ?_
    rotate_left
    · intro hCont
      refine two_ (i := 1) (j := 3) (Ni := some 25) (Nj := some 27) #[true, true, true, false, false, false, false, false, false, false, false, false, false, false, false, false, false, false, false, false, false, false, false, false, false, false] #[true, false, true, true, false, false, false, false, false, false, false, false, false, false, false, false, false, false, false, false, false, false, false, false, false, false] rfl rfl rfl rfl (by kernel_rfl) (by decide) (by decide) (fun K hK => ?_) (fun K hK => ?_)
      · skip
        refine st_str (xs := en) (s := sn) (by rfl) 25 rfl rfl rfl rfl (Ow.reads (pred_at S2.out (a := Ow (Kd.int .u8) 5 A16 c16 en) (by repeat (first | exact Spot.here _ _ | apply Spot.there)))) HSN.out ?_
        refine hK.out _ _ ⟨((own_cell (g := g3) S2 (by repeat (first | exact Spot.here _ _ | apply Spot.there)) 0).trans rfl), ((own_cell (g := g3) S2 (by repeat (first | exact Spot.here _ _ | apply Spot.there)) 1).trans rfl), ((own_cell (g := g3) S2 (by repeat (first | exact Spot.here _ _ | apply Spot.there)) 2).trans rfl), ((own_cell (g := g3) S2 (by repeat (first | exact Spot.here _ _ | apply Spot.there)) 3).trans rfl), ((own_cell (g := g3) S2 (by repeat (first | exact Spot.here _ _ | apply Spot.there)) 4).trans rfl), ((own_cell (g := g3) S2 (by repeat (first | exact Spot.here _ _ | apply Spot.there)) 5).trans rfl), ((own_cell (g := g1) S2 (by repeat (first | exact Spot.here _ _ | apply Spot.there)) 0).trans rfl), ((own_cell (g := g1) S2 (by repeat (first | exact Spot.here _ _ | apply Spot.there)) 1).trans rfl), ((own_cell (g := g1) S2 (by repeat (first | exact Spot.here _ _ | apply Spot.there)) 2).trans rfl), ((own_cell (g := g1) S2 (by repeat (first | exact Spot.here _ _ | apply Spot.there)) 3).trans rfl), ((own_cell (g := g1) S2 (by repeat (first | exact Spot.here _ _ | apply Spot.there)) 4).trans rfl), ((own_cell (g := g1) S2 (by repeat (first | exact Spot.here _ _ | apply Spot.there)) 5).trans rfl)⟩ (fun hHeld => ?_)
        clear hK K
        refine norm_ (a' := ?_) ?_ ?_
        rotate_left
        · show Act.put _ (some 25) _ = _
          simp only [Act.put, List.setIfInBounds_toArray, List.set_cons_zero, List.set_cons_succ, i64_w, i32_w]
          rfl
        refine one_ (i := 3) (N := some 27) #[true, true, true, true, false, false, false, false, false, false, false, false, false, false, false, false, false, false, false, false, false, false, false, false, false, false] rfl rfl (by kernel_rfl) (by decide) (fun K hK => ?_)
        refine st_str (xs := en) (s := sn) (by rfl) 27 rfl rfl rfl rfl (Ow.reads (pred_at S2.out (a := Ow (Kd.int .u8) 5 A21 c21 en) (by repeat (first | exact Spot.here _ _ | apply Spot.there)))) HSN.out ?_
        refine hK.out _ _ ⟨((own_cell (g := g3) S2 (by repeat (first | exact Spot.here _ _ | apply Spot.there)) 0).trans rfl), ((own_cell (g := g3) S2 (by repeat (first | exact Spot.here _ _ | apply Spot.there)) 1).trans rfl), ((own_cell (g := g3) S2 (by repeat (first | exact Spot.here _ _ | apply Spot.there)) 2).trans rfl), ((own_cell (g := g3) S2 (by repeat (first | exact Spot.here _ _ | apply Spot.there)) 3).trans rfl), ((own_cell (g := g3) S2 (by repeat (first | exact Spot.here _ _ | apply Spot.there)) 4).trans rfl), ((own_cell (g := g3) S2 (by repeat (first | exact Spot.here _ _ | apply Spot.there)) 5).trans rfl), ((own_cell (g := g1) S2 (by repeat (first | exact Spot.here _ _ | apply Spot.there)) 0).trans rfl), ((own_cell (g := g1) S2 (by repeat (first | exact Spot.here _ _ | apply Spot.there)) 1).trans rfl), ((own_cell (g := g1) S2 (by repeat (first | exact Spot.here _ _ | apply Spot.there)) 2).trans rfl), ((own_cell (g := g1) S2 (by repeat (first | exact Spot.here _ _ | apply Spot.there)) 3).trans rfl), ((own_cell (g := g1) S2 (by repeat (first | exact Spot.here _ _ | apply Spot.there)) 4).trans rfl), ((own_cell (g := g1) S2 (by repeat (first | exact Spot.here _ _ | apply Spot.there)) 5).trans rfl)⟩ (fun hHeld => ?_)
        clear hK K
        refine norm_ (a' := ?_) ?_ ?_
        rotate_left
        · show Act.put _ (some 27) _ = _
          simp only [Act.put, List.setIfInBounds_toArray, List.set_cons_zero, List.set_cons_succ, i64_w, i32_w]
          rfl
        exact norm_ (by simp only [putAll, Act.put, List.setIfInBounds_toArray, List.set_cons_zero, List.set_cons_succ]) (hCont () _ rfl)
      · skip
        refine st_str (xs := en) (s := sn) (by rfl) 27 rfl rfl rfl rfl (Ow.reads (pred_at S2.out (a := Ow (Kd.int .u8) 5 A21 c21 en) (by repeat (first | exact Spot.here _ _ | apply Spot.there)))) HSN.out ?_
        refine hK.out _ _ ⟨((own_cell (g := g3) S2 (by repeat (first | exact Spot.here _ _ | apply Spot.there)) 0).trans rfl), ((own_cell (g := g3) S2 (by repeat (first | exact Spot.here _ _ | apply Spot.there)) 1).trans rfl), ((own_cell (g := g3) S2 (by repeat (first | exact Spot.here _ _ | apply Spot.there)) 2).trans rfl), ((own_cell (g := g3) S2 (by repeat (first | exact Spot.here _ _ | apply Spot.there)) 3).trans rfl), ((own_cell (g := g3) S2 (by repeat (first | exact Spot.here _ _ | apply Spot.there)) 4).trans rfl), ((own_cell (g := g3) S2 (by repeat (first | exact Spot.here _ _ | apply Spot.there)) 5).trans rfl), ((own_cell (g := g1) S2 (by repeat (first | exact Spot.here _ _ | apply Spot.there)) 0).trans rfl), ((own_cell (g := g1) S2 (by repeat (first | exact Spot.here _ _ | apply Spot.there)) 1).trans rfl), ((own_cell (g := g1) S2 (by repeat (first | exact Spot.here _ _ | apply Spot.there)) 2).trans rfl), ((own_cell (g := g1) S2 (by repeat (first | exact Spot.here _ _ | apply Spot.there)) 3).trans rfl), ((own_cell (g := g1) S2 (by repeat (first | exact Spot.here _ _ | apply Spot.there)) 4).trans rfl), ((own_cell (g := g1) S2 (by repeat (first | exact Spot.here _ _ | apply Spot.there)) 5).trans rfl)⟩ (fun hHeld => ?_)
        clear hK K
        refine norm_ (a' := ?_) ?_ ?_
        rotate_left
        · show Act.put _ (some 27) _ = _
          simp only [Act.put, List.setIfInBounds_toArray, List.set_cons_zero, List.set_cons_succ, i64_w, i32_w]
          rfl
        refine one_ (i := 1) (N := some 25) #[true, true, true, true, false, false, false, false, false, false, false, false, false, false, false, false, false, false, false, false, false, false, false, false, false, false] rfl rfl (by kernel_rfl) (by decide) (fun K hK => ?_)
        refine st_str (xs := en) (s := sn) (by rfl) 25 rfl rfl rfl rfl (Ow.reads (pred_at S2.out (a := Ow (Kd.int .u8) 5 A16 c16 en) (by repeat (first | exact Spot.here _ _ | apply Spot.there)))) HSN.out ?_
        refine hK.out _ _ ⟨((own_cell (g := g3) S2 (by repeat (first | exact Spot.here _ _ | apply Spot.there)) 0).trans rfl), ((own_cell (g := g3) S2 (by repeat (first | exact Spot.here _ _ | apply Spot.there)) 1).trans rfl), ((own_cell (g := g3) S2 (by repeat (first | exact Spot.here _ _ | apply Spot.there)) 2).trans rfl), ((own_cell (g := g3) S2 (by repeat (first | exact Spot.here _ _ | apply Spot.there)) 3).trans rfl), ((own_cell (g := g3) S2 (by repeat (first | exact Spot.here _ _ | apply Spot.there)) 4).trans rfl), ((own_cell (g := g3) S2 (by repeat (first | exact Spot.here _ _ | apply Spot.there)) 5).trans rfl), ((own_cell (g := g1) S2 (by repeat (first | exact Spot.here _ _ | apply Spot.there)) 0).trans rfl), ((own_cell (g := g1) S2 (by repeat (first | exact Spot.here _ _ | apply Spot.there)) 1).trans rfl), ((own_cell (g := g1) S2 (by repeat (first | exact Spot.here _ _ | apply Spot.there)) 2).trans rfl), ((own_cell (g := g1) S2 (by repeat (first | exact Spot.here _ _ | apply Spot.there)) 3).trans rfl), ((own_cell (g := g1) S2 (by repeat (first | exact Spot.here _ _ | apply Spot.there)) 4).trans rfl), ((own_cell (g := g1) S2 (by repeat (first | exact Spot.here _ _ | apply Spot.there)) 5).trans rfl)⟩ (fun hHeld => ?_)
        clear hK K
        refine norm_ (a' := ?_) ?_ ?_
        rotate_left
        · show Act.put _ (some 25) _ = _
          simp only [Act.put, List.setIfInBounds_toArray, List.set_cons_zero, List.set_cons_succ, i64_w, i32_w]
          rfl
        exact norm_ (by simp only [putAll, Act.put, List.setIfInBounds_toArray, List.set_cons_zero, List.set_cons_succ]) (hCont () _ rfl)
    rintro ⟨⟩ w8 hw8
    have S8 := S2
    rw [← hw8] at S8
    clear S2 hw8
    have hHeld : w8.cell? ⟨g3, 0, none⟩ = some (.string m.nm) ∧ w8.cell? ⟨g3, 1, none⟩ = some (.slice Ak1 m.ex.length ck1) ∧ w8.cell? ⟨g3, 2, none⟩ = some (.slice Ak2 m.im.length ck2) ∧ w8.cell? ⟨g3, 3, none⟩ = some (.slice Ak3 m.co.length ck3) ∧ w8.cell? ⟨g3, 4, none⟩ = some (.slice Ak4 m.da.length ck4) ∧ w8.cell? ⟨g3, 5, none⟩ = some (.slice Ak5 m.re.length ck5) ∧ w8.cell? ⟨g1, 0, none⟩ = some (.string m.nm) ∧ w8.cell? ⟨g1, 1, none⟩ = some (.slice Aa1 m.ex.length ca1) ∧ w8.cell? ⟨g1, 2, none⟩ = some (.slice Aa2 m.im.length ca2) ∧ w8.cell? ⟨g1, 3, none⟩ = some (.slice Aa3 m.co.length ca3) ∧ w8.cell? ⟨g1, 4, none⟩ = some (.slice Aa4 m.da.length ca4) ∧ w8.cell? ⟨g1, 5, none⟩ = some (.slice Aa5 m.re.length ca5) := ⟨((own_cell (g := g3) S8 (by repeat (first | exact Spot.here _ _ | apply Spot.there)) 0).trans rfl), ((own_cell (g := g3) S8 (by repeat (first | exact Spot.here _ _ | apply Spot.there)) 1).trans rfl), ((own_cell (g := g3) S8 (by repeat (first | exact Spot.here _ _ | apply Spot.there)) 2).trans rfl), ((own_cell (g := g3) S8 (by repeat (first | exact Spot.here _ _ | apply Spot.there)) 3).trans rfl), ((own_cell (g := g3) S8 (by repeat (first | exact Spot.here _ _ | apply Spot.there)) 4).trans rfl), ((own_cell (g := g3) S8 (by repeat (first | exact Spot.here _ _ | apply Spot.there)) 5).trans rfl), ((own_cell (g := g1) S8 (by repeat (first | exact Spot.here _ _ | apply Spot.there)) 0).trans rfl), ((own_cell (g := g1) S8 (by repeat (first | exact Spot.here _ _ | apply Spot.there)) 1).trans rfl), ((own_cell (g := g1) S8 (by repeat (first | exact Spot.here _ _ | apply Spot.there)) 2).trans rfl), ((own_cell (g := g1) S8 (by repeat (first | exact Spot.here _ _ | apply Spot.there)) 3).trans rfl), ((own_cell (g := g1) S8 (by repeat (first | exact Spot.here _ _ | apply Spot.there)) 4).trans rfl), ((own_cell (g := g1) S8 (by repeat (first | exact Spot.here _ _ | apply Spot.there)) 5).trans rfl)⟩
    refine norm_ (a' := ?_) ?_ ?_
    rotate_left
    · simp only [putAll, Act.put, List.setIfInBounds_toArray, List.set_cons_zero, List.set_cons_succ]
      rfl
    refine pure_ (i := 4) (N := some 28) (v := ?_) (a' := ?_) #[true, true, true, true, true, false, false, false, false, false, false, false, false, false, false, false, false, false, false, false, false, false, false, false, false, false] rfl rfl (by kernel_rfl) (fun _ _ _ h => h) (Or.inl ⟨by rfl, ?_⟩) ?_ ?_
    rotate_left
    · intro w'
      go_simp
      with_reducible rfl
    rotate_left
    · simp only [Act.put, List.setIfInBounds_toArray, List.set_cons_zero, List.set_cons_succ, i64_w, i32_w]
      rfl
    refine pure_ (i := 5) (N := some 29) (v := ?_) (a' := ?_) #[true, true, true, true, true, true, false, false, false, false, false, false, false, false, false, false, false, false, false, false, false, false, false, false, false, false] rfl rfl (by kernel_rfl) (fun _ _ _ h => h) (Or.inl ⟨by rfl, ?_⟩) ?_ ?_
    rotate_left
    · intro w'
      go_simp
      with_reducible rfl
    rotate_left
    · simp only [Act.put, List.setIfInBounds_toArray, List.set_cons_zero, List.set_cons_succ, i64_w, i32_w]
      rfl
    refine pure_ (i := 6) (N := some 30) (v := ?_) (a' := ?_) #[true, true, true, true, true, true, true, false, false, false, false, false, false, false, false, false, false, false, false, false, false, false, false, false, false, false] rfl rfl (by kernel_rfl) (fun _ _ _ h => h) (Or.inl ⟨by rfl, ?_⟩) ?_ ?_
    rotate_left
    · intro w'
      go_simp
      with_reducible rfl
    rotate_left
    · simp only [Act.put, List.setIfInBounds_toArray, List.set_cons_zero, List.set_cons_succ, i64_w, i32_w]
      rfl
    refine pure_ (i := 7) (N := some 31) (v := ?_) (a' := ?_) #[true, true, true, true, true, true, true, true, false, false, false, false, false, false, false, false, false, false, false, false, false, false, false, false, false, false] rfl rfl (by kernel_rfl) (fun _ _ _ h => h) (Or.inl ⟨by rfl, ?_⟩) ?_ ?_
    rotate_left
    · intro w'
      go_simp
      with_reducible rfl
    rotate_left
    · simp only [Act.put, List.setIfInBounds_toArray, List.set_cons_zero, List.set_cons_succ, i64_w, i32_w]
      rfl
    refine pure_ (i := 8) (N := some 32) (v := ?_) (a' := ?_) #[true, true, true, true, true, true, true, true, true, false, false, false, false, false, false, false, false, false, false, false, false, false, false, false, false, false] rfl rfl (by kernel_rfl) (fun _ _ _ h => h) (Or.inl ⟨by rfl, ?_⟩) ?_ ?_
    rotate_left
    · intro w'
      go_simp
      with_reducible rfl
    rotate_left
    · simp only [Act.put, List.setIfInBounds_toArray, List.set_cons_zero, List.set_cons_succ, i64_w, i32_w]
      rfl
    refine pure_ (i := 9) (N := some 33) (v := ?_) (a' := ?_) #[true, true, true, true, true, true, true, true, true, true, false, false, false, false, false, false, false, false, false, false, false, false, false, false, false, false] rfl rfl (by kernel_rfl) (fun _ _ _ h => h) (Or.inl ⟨by rfl, ?_⟩) ?_ ?_
    rotate_left
    · intro w'
      go_simp
      with_reducible rfl
    rotate_left
    · simp only [Act.put, List.setIfInBounds_toArray, List.set_cons_zero, List.set_cons_succ, i64_w, i32_w]
      rfl
    refine pure_ (i := 10) (N := some 34) (v := ?_) (a' := ?_) #[true, true, true, true, true, true, true, true, true, true, true, false, false, false, false, false, false, false, false, false, false, false, false, false, false, false] rfl rfl (by kernel_rfl) (fun _ _ _ h => h) (Or.inl ⟨by rfl, ?_⟩) ?_ ?_
    rotate_left
    · intro w'
      go_simp
      with_reducible rfl
    rotate_left
    · simp only [Act.put, List.setIfInBounds_toArray, List.set_cons_zero, List.set_cons_succ, i64_w, i32_w]
      rfl
    refine take_ (i := 11) (N := some 35) (v := ?_) (a' := ?_) #[true, true, true, true, true, true, true, true, true, true, true, true, false, false, false, false, false, false, false, false, false, false, false, false, false, false] rfl rfl (by kernel_rfl) (fun _ _ _ h => h) (Or.inl ⟨by rfl, ?_⟩) hHeld ?_ ?_
    rotate_left
    · rintro w' ⟨s0, s1, s2, s3, s4, s5, s6, s7, s8, s9, s10, s11⟩
      go_simp
      with_reducible rfl
    rotate_left
    · simp only [Act.put, List.setIfInBounds_toArray, List.set_cons_zero, List.set_cons_succ, i64_w, i32_w]
      rfl
    refine take_ (i := 13) (N := some 37) (v := ?_) (a' := ?_) #[true, true, true, true, true, true, true, true, true, true, true, true, false, true, false, false, false, false, false, false, false, false, false, false, false, false] rfl rfl (by kernel_rfl) (fun _ _ _ h => h) (Or.inl ⟨by rfl, ?_⟩) hHeld ?_ ?_
    rotate_left
    · rintro w' ⟨s0, s1, s2, s3, s4, s5, s6, s7, s8, s9, s10, s11⟩
      go_simp
      with_reducible rfl
    rotate_left
    · simp only [Act.put, List.setIfInBounds_toArray, List.set_cons_zero, List.set_cons_succ, i64_w, i32_w]
      rfl
    refine one_ (i := 12) (N := some 36) #[true, true, true, true, true, true, true, true, true, true, true, true, true, true, false, false, false, false, false, false, false, false, false, false, false, false] rfl rfl (by kernel_rfl) (by decide) (fun K hK => ?_)
    refine goes_ Try.func14 (by kernel_rfl) rfl #[.agg #[.string m.nm, .slice Ak1 m.ex.length ck1, .slice Ak2 m.im.length ck2, .slice Ak3 m.co.length ck3, .slice Ak4 m.da.length ck4, .slice Ak5 m.re.length ck5]] (by rfl) rfl rfl (by simp only [List.map_toArray, List.map_cons, List.map_nil]; rfl) ?_
    with_reducible refine (chk_mo m Ak1 ck1 Ak2 ck2 Ak3 ck3 Ak4 ck4 Ak5 ck5 _ ⟨Ow.reads (pred_at S8.out (a := Ow Kd.string 9 Ak1 ck1 m.ex) (by repeat (first | exact Spot.here _ _ | apply Spot.there))), Ow.cap (pred_at S8.out (a := Ow Kd.string 9 Ak1 ck1 m.ex) (by repeat (first | exact Spot.here _ _ | apply Spot.there))), Ow.reads (pred_at S8.out (a := Ow Kd.string 9 Ak2 ck2 m.im) (by repeat (first | exact Spot.here _ _ | apply Spot.there))), Ow.cap (pred_at S8.out (a := Ow Kd.string 9 Ak2 ck2 m.im) (by repeat (first | exact Spot.here _ _ | apply Spot.there))), Ow.reads (pred_at S8.out (a := Ow (Kd.int .u32) 43 Ak3 ck3 m.co) (by repeat (first | exact Spot.here _ _ | apply Spot.there))), Ow.cap (pred_at S8.out (a := Ow (Kd.int .u32) 43 Ak3 ck3 m.co) (by repeat (first | exact Spot.here _ _ | apply Spot.there))), Ow.reads (pred_at S8.out (a := Ow (Kd.int .u32) 43 Ak4 ck4 m.da) (by repeat (first | exact Spot.here _ _ | apply Spot.there))), Ow.cap (pred_at S8.out (a := Ow (Kd.int .u32) 43 Ak4 ck4 m.da) (by repeat (first | exact Spot.here _ _ | apply Spot.there))), Ow.reads (pred_at S8.out (a := Ow k50 50 Ak5 ck5 m.re) (by repeat (first | exact Spot.here _ _ | apply Spot.there))), Ow.cap (pred_at S8.out (a := Ow k50 50 Ak5 ck5 m.re) (by repeat (first | exact Spot.here _ _ | apply Spot.there)))⟩ _ HF.out).mono ?_
    rintro z9 w36 ⟨rfl, hb_⟩
    have S36 := Aside0.mk (S8.out.keep hb_)
    clear hb_
    refine ⟨_, rfl, ?_⟩
    refine hK.out _ _ ⟨((own_cell (g := g3) S36 (by repeat (first | exact Spot.here _ _ | apply Spot.there)) 0).trans rfl), ((own_cell (g := g3) S36 (by repeat (first | exact Spot.here _ _ | apply Spot.there)) 1).trans rfl), ((own_cell (g := g3) S36 (by repeat (first | exact Spot.here _ _ | apply Spot.there)) 2).trans rfl), ((own_cell (g := g3) S36 (by repeat (first | exact Spot.here _ _ | apply Spot.there)) 3).trans rfl), ((own_cell (g := g3) S36 (by repeat (first | exact Spot.here _ _ | apply Spot.there)) 4).trans rfl), ((own_cell (g := g3) S36 (by repeat (first | exact Spot.here _ _ | apply Spot.there)) 5).trans rfl), ((own_cell (g := g1) S36 (by repeat (first | exact Spot.here _ _ | apply Spot.there)) 0).trans rfl), ((own_cell (g := g1) S36 (by repeat (first | exact Spot.here _ _ | apply Spot.there)) 1).trans rfl), ((own_cell (g := g1) S36 (by repeat (first | exact Spot.here _ _ | apply Spot.there)) 2).trans rfl), ((own_cell (g := g1) S36 (by repeat (first | exact Spot.here _ _ | apply Spot.there)) 3).trans rfl), ((own_cell (g := g1) S36 (by repeat (first | exact Spot.here _ _ | apply Spot.there)) 4).trans rfl), ((own_cell (g := g1) S36 (by repeat (first | exact Spot.here _ _ | apply Spot.there)) 5).trans rfl)⟩ (fun hHeld => ?_)
    clear hK K
    refine norm_ (a' := ?_) ?_ ?_
    rotate_left
    · show Act.put _ (some 36) _ = _
      simp only [Act.put, List.setIfInBounds_toArray, List.set_cons_zero, List.set_cons_succ, i64_w, i32_w]
      rfl
    refine one_ (i := 14) (N := some 38) #[true, true, true, true, true, true, true, true, true, true, true, true, true, true, true, false, false, false, false, false, false, false, false, false, false, false] rfl rfl (by kernel_rfl) (by decide) (fun K hK => ?_)
    refine goes_ Try.func15 (by kernel_rfl) rfl #[.agg #[.string m.nm, .slice Aa1 m.ex.length ca1, .slice Aa2 m.im.length ca2, .slice Aa3 m.co.length ca3, .slice Aa4 m.da.length ca4, .slice Aa5 m.re.length ca5]] (by rfl) rfl rfl (by simp only [List.map_toArray, List.map_cons, List.map_nil]; rfl) ?_
    with_reducible refine (budwoodref10_Check.calls 1000003 m.nm Aa1 ca1 m.ex Aa2 ca2 m.im Aa3 ca3 m.co Aa4 ca4 m.da Aa5 ca5 m.re _ _ (HM.out.below S36.out.below).r1 (HM.out.below S36.out.below).l1 (HM.out.below S36.out.below).r2 (HM.out.below S36.out.below).l2 (HM.out.below S36.out.below).r3 (HM.out.below S36.out.below).l3 (HM.out.below S36.out.below).r4 (HM.out.below S36.out.below).l4 (HM.out.below S36.out.below).r5 (HM.out.below S36.out.below).l5 HCF.out).mono ?_
    rintro z9 w38 ⟨rfl, hb_⟩
    have S38 := Aside0.mk (S36.out.keep hb_)
    clear hb_
    refine ⟨_, rfl, ?_⟩
    refine hK.out _ _ ⟨((own_cell (g := g3) S38 (by repeat (first | exact Spot.here _ _ | apply Spot.there)) 0).trans rfl), ((own_cell (g := g3) S38 (by repeat (first | exact Spot.here _ _ | apply Spot.there)) 1).trans rfl), ((own_cell (g := g3) S38 (by repeat (first | exact Spot.here _ _ | apply Spot.there)) 2).trans rfl), ((own_cell (g := g3) S38 (by repeat (first | exact Spot.here _ _ | apply Spot.there)) 3).trans rfl), ((own_cell (g := g3) S38 (by repeat (first | exact Spot.here _ _ | apply Spot.there)) 4).trans rfl), ((own_cell (g := g3) S38 (by repeat (first | exact Spot.here _ _ | apply Spot.there)) 5).trans rfl), ((own_cell (g := g1) S38 (by repeat (first | exact Spot.here _ _ | apply Spot.there)) 0).trans rfl), ((own_cell (g := g1) S38 (by repeat (first | exact Spot.here _ _ | apply Spot.there)) 1).trans rfl), ((own_cell (g := g1) S38 (by repeat (first | exact Spot.here _ _ | apply Spot.there)) 2).trans rfl), ((own_cell (g := g1) S38 (by repeat (first | exact Spot.here _ _ | apply Spot.there)) 3).trans rfl), ((own_cell (g := g1) S38 (by repeat (first | exact Spot.here _ _ | apply Spot.there)) 4).trans rfl), ((own_cell (g := g1) S38 (by repeat (first | exact Spot.here _ _ | apply Spot.there)) 5).trans rfl)⟩ (fun hHeld => ?_)
    clear hK K
    refine norm_ (a' := ?_) ?_ ?_
    rotate_left
    · show Act.put _ (some 38) _ = _
      simp only [Act.put, List.setIfInBounds_toArray, List.set_cons_zero, List.set_cons_succ, i64_w, i32_w]
      rfl
    refine pure_ (i := 15) (N := some 39) (v := ?_) (a' := ?_) #[true, true, true, true, true, true, true, true, true, true, true, true, true, true, true, true, false, false, false, false, false, false, false, false, false, false] rfl rfl (by kernel_rfl) (fun _ _ _ h => h) (Or.inl ⟨by rfl, ?_⟩) ?_ ?_
    rotate_left
    · intro w'
      go_simp
      with_reducible rfl
    rotate_left
    · simp only [Act.put, List.setIfInBounds_toArray, List.set_cons_zero, List.set_cons_succ, i64_w, i32_w]
      rfl
    refine pure_ (i := 16) (N := some 40) (v := ?_) (a' := ?_) #[true, true, true, true, true, true, true, true, true, true, true, true, true, true, true, true, true, false, false, false, false, false, false, false, false, false] rfl rfl (by kernel_rfl) (fun _ _ _ h => h) (Or.inl ⟨by rfl, ?_⟩) ?_ ?_
    rotate_left
    · intro w'
      go_simp
      with_reducible rfl
    rotate_left
    · simp only [Act.put, List.setIfInBounds_toArray, List.set_cons_zero, List.set_cons_succ, i64_w, i32_w]
      rfl
    refine pure_ (i := 17) (N := some 41) (v := ?_) (a' := ?_) #[true, true, true, true, true, true, true, true, true, true, true, true, true, true, true, true, true, true, false, false, false, false, false, false, false, false] rfl rfl (by kernel_rfl) (fun _ _ _ h => h) (Or.inl ⟨by rfl, ?_⟩) ?_ ?_
    rotate_left
    · intro w'
      go_simp
      with_reducible rfl
    rotate_left
    · simp only [Act.put, List.setIfInBounds_toArray, List.set_cons_zero, List.set_cons_succ, i64_w, i32_w]
      rfl
    refine take_ (i := 18) (N := some 42) (v := ?_) (a' := ?_) #[true, true, true, true, true, true, true, true, true, true, true, true, true, true, true, true, true, true, true, false, false, false, false, false, false, false] rfl rfl (by kernel_rfl) (fun _ _ _ h => h) (Or.inl ⟨by rfl, ?_⟩) hHeld ?_ ?_
    rotate_left
    · rintro w' ⟨s0, s1, s2, s3, s4, s5, s6, s7, s8, s9, s10, s11⟩
      go_simp
      with_reducible rfl
    rotate_left
    · simp only [Act.put, List.setIfInBounds_toArray, List.set_cons_zero, List.set_cons_succ, i64_w, i32_w]
      rfl
    refine take_ (i := 19) (N := some 43) (v := ?_) (a' := ?_) #[true, true, true, true, true, true, true, true, true, true, true, true, true, true, true, true, true, true, true, true, false, false, false, false, false, false] rfl rfl (by kernel_rfl) (fun _ _ _ h => h) (Or.inl ⟨by rfl, ?_⟩) hHeld ?_ ?_
    rotate_left
    · rintro w' ⟨s0, s1, s2, s3, s4, s5, s6, s7, s8, s9, s10, s11⟩
      go_simp
      with_reducible rfl
    rotate_left
    · simp only [Act.put, List.setIfInBounds_toArray, List.set_cons_zero, List.set_cons_succ, i64_w, i32_w]
      rfl
    refine one_ (i := 20) (N := some 44) #[true, true, true, true, true, true, true, true, true, true, true, true, true, true, true, true, true, true, true, true, true, false, false, false, false, false] rfl rfl (by kernel_rfl) (by decide) (fun K hK => ?_)
    refine goes_ Try.func16 (by kernel_rfl) rfl #[.agg #[.string m.nm, .slice Ak1 m.ex.length ck1, .slice Ak2 m.im.length ck2, .slice Ak3 m.co.length ck3, .slice Ak4 m.da.length ck4, .slice Ak5 m.re.length ck5], .agg #[.string m.nm, .slice Aa1 m.ex.length ca1, .slice Aa2 m.im.length ca2, .slice Aa3 m.co.length ca3, .slice Aa4 m.da.length ca4, .slice Aa5 m.re.length ca5]] (by rfl) rfl rfl (by simp only [List.map_toArray, List.map_cons, List.map_nil]; rfl) ?_
    with_reducible refine (rsame_mo m m Ak1 ck1 Ak2 ck2 Ak3 ck3 Ak4 ck4 Ak5 ck5 Aa1 ca1 Aa2 ca2 Aa3 ca3 Aa4 ca4 Aa5 ca5 _ ⟨Ow.reads (pred_at S38.out (a := Ow Kd.string 9 Ak1 ck1 m.ex) (by repeat (first | exact Spot.here _ _ | apply Spot.there))), Ow.cap (pred_at S38.out (a := Ow Kd.string 9 Ak1 ck1 m.ex) (by repeat (first | exact Spot.here _ _ | apply Spot.there))), Ow.reads (pred_at S38.out (a := Ow Kd.string 9 Ak2 ck2 m.im) (by repeat (first | exact Spot.here _ _ | apply Spot.there))), Ow.cap (pred_at S38.out (a := Ow Kd.string 9 Ak2 ck2 m.im) (by repeat (first | exact Spot.here _ _ | apply Spot.there))), Ow.reads (pred_at S38.out (a := Ow (Kd.int .u32) 43 Ak3 ck3 m.co) (by repeat (first | exact Spot.here _ _ | apply Spot.there))), Ow.cap (pred_at S38.out (a := Ow (Kd.int .u32) 43 Ak3 ck3 m.co) (by repeat (first | exact Spot.here _ _ | apply Spot.there))), Ow.reads (pred_at S38.out (a := Ow (Kd.int .u32) 43 Ak4 ck4 m.da) (by repeat (first | exact Spot.here _ _ | apply Spot.there))), Ow.cap (pred_at S38.out (a := Ow (Kd.int .u32) 43 Ak4 ck4 m.da) (by repeat (first | exact Spot.here _ _ | apply Spot.there))), Ow.reads (pred_at S38.out (a := Ow k50 50 Ak5 ck5 m.re) (by repeat (first | exact Spot.here _ _ | apply Spot.there))), Ow.cap (pred_at S38.out (a := Ow k50 50 Ak5 ck5 m.re) (by repeat (first | exact Spot.here _ _ | apply Spot.there)))⟩ (HM.out.below S38.out.below) few).mono ?_
    rintro z9 w44 ⟨rfl, hb_⟩
    have S44 := Aside0.mk (S38.out.keep hb_)
    clear hb_
    refine ⟨_, rfl, ?_⟩
    refine hK.out _ _ ⟨((own_cell (g := g3) S44 (by repeat (first | exact Spot.here _ _ | apply Spot.there)) 0).trans rfl), ((own_cell (g := g3) S44 (by repeat (first | exact Spot.here _ _ | apply Spot.there)) 1).trans rfl), ((own_cell (g := g3) S44 (by repeat (first | exact Spot.here _ _ | apply Spot.there)) 2).trans rfl), ((own_cell (g := g3) S44 (by repeat (first | exact Spot.here _ _ | apply Spot.there)) 3).trans rfl), ((own_cell (g := g3) S44 (by repeat (first | exact Spot.here _ _ | apply Spot.there)) 4).trans rfl), ((own_cell (g := g3) S44 (by repeat (first | exact Spot.here _ _ | apply Spot.there)) 5).trans rfl), ((own_cell (g := g1) S44 (by repeat (first | exact Spot.here _ _ | apply Spot.there)) 0).trans rfl), ((own_cell (g := g1) S44 (by repeat (first | exact Spot.here _ _ | apply Spot.there)) 1).trans rfl), ((own_cell (g := g1) S44 (by repeat (first | exact Spot.here _ _ | apply Spot.there)) 2).trans rfl), ((own_cell (g := g1) S44 (by repeat (first | exact Spot.here _ _ | apply Spot.there)) 3).trans rfl), ((own_cell (g := g1) S44 (by repeat (first | exact Spot.here _ _ | apply Spot.there)) 4).trans rfl), ((own_cell (g := g1) S44 (by repeat (first | exact Spot.here _ _ | apply Spot.there)) 5).trans rfl)⟩ (fun hHeld => ?_)
    clear hK K
    refine norm_ (a' := ?_) ?_ ?_
    rotate_left
    · show Act.put _ (some 44) _ = _
      simp only [Act.put, List.setIfInBounds_toArray, List.set_cons_zero, List.set_cons_succ, i64_w, i32_w]
      rfl
    refine pure_ (i := 21) (N := some 45) (v := ?_) (a' := ?_) #[true, true, true, true, true, true, true, true, true, true, true, true, true, true, true, true, true, true, true, true, true, true, false, false, false, false] rfl rfl (by kernel_rfl) (fun _ _ _ h => h) (Or.inl ⟨by rfl, ?_⟩) ?_ ?_
    rotate_left
    · intro w'
      go_simp
      with_reducible rfl
    rotate_left
    · simp only [Act.put, List.setIfInBounds_toArray, List.set_cons_zero, List.set_cons_succ, i64_w, i32_w]
      rfl
    refine pure_ (i := 22) (N := some 46) (v := ?_) (a' := ?_) #[true, true, true, true, true, true, true, true, true, true, true, true, true, true, true, true, true, true, true, true, true, true, true, false, false, false] rfl rfl (by kernel_rfl) (fun _ _ _ h => h) (Or.inl ⟨by rfl, ?_⟩) ?_ ?_
    rotate_left
    · intro w'
      go_simp
      with_reducible rfl
    rotate_left
    · simp only [Act.put, List.setIfInBounds_toArray, List.set_cons_zero, List.set_cons_succ, i64_w, i32_w]
      rfl
    refine one_ (i := 23) (N := some 47) #[true, true, true, true, true, true, true, true, true, true, true, true, true, true, true, true, true, true, true, true, true, true, true, true, false, false] rfl rfl (by kernel_rfl) (by decide) (fun K hK => ?_)
    refine goes_ Try.func10 (by kernel_rfl) rfl #[] (by rfl) rfl rfl (by simp only [List.map_toArray, List.map_nil]) ?_
    with_reducible refine (awake_calls _).mono ?_
    rintro z9 w47 ⟨rfl, hb_⟩
    have S47 := Aside0.mk (S44.out.keep hb_)
    clear hb_
    refine ⟨_, rfl, ?_⟩
    refine hK.out _ _ ⟨((own_cell (g := g3) S47 (by repeat (first | exact Spot.here _ _ | apply Spot.there)) 0).trans rfl), ((own_cell (g := g3) S47 (by repeat (first | exact Spot.here _ _ | apply Spot.there)) 1).trans rfl), ((own_cell (g := g3) S47 (by repeat (first | exact Spot.here _ _ | apply Spot.there)) 2).trans rfl), ((own_cell (g := g3) S47 (by repeat (first | exact Spot.here _ _ | apply Spot.there)) 3).trans rfl), ((own_cell (g := g3) S47 (by repeat (first | exact Spot.here _ _ | apply Spot.there)) 4).trans rfl), ((own_cell (g := g3) S47 (by repeat (first | exact Spot.here _ _ | apply Spot.there)) 5).trans rfl), ((own_cell (g := g1) S47 (by repeat (first | exact Spot.here _ _ | apply Spot.there)) 0).trans rfl), ((own_cell (g := g1) S47 (by repeat (first | exact Spot.here _ _ | apply Spot.there)) 1).trans rfl), ((own_cell (g := g1) S47 (by repeat (first | exact Spot.here _ _ | apply Spot.there)) 2).trans rfl), ((own_cell (g := g1) S47 (by repeat (first | exact Spot.here _ _ | apply Spot.there)) 3).trans rfl), ((own_cell (g := g1) S47 (by repeat (first | exact Spot.here _ _ | apply Spot.there)) 4).trans rfl), ((own_cell (g := g1) S47 (by repeat (first | exact Spot.here _ _ | apply Spot.there)) 5).trans rfl)⟩ (fun hHeld => ?_)
    clear hK K
    refine norm_ (a' := ?_) ?_ ?_
    rotate_left
    · show Act.put _ (some 47) _ = _
      simp only [Act.put, List.setIfInBounds_toArray, List.set_cons_zero, List.set_cons_succ, i64_w, i32_w]
      rfl
    refine pure_ (i := 24) (N := some 48) (v := ?_) (a' := ?_) #[true, true, true, true, true, true, true, true, true, true, true, true, true, true, true, true, true, true, true, true, true, true, true, true, true, false] rfl rfl (by kernel_rfl) (fun _ _ _ h => h) (Or.inl ⟨by rfl, ?_⟩) ?_ ?_
    rotate_left
    · intro w'
      go_simp
      with_reducible rfl
    rotate_left
    · simp only [Act.put, List.setIfInBounds_toArray, List.set_cons_zero, List.set_cons_succ, i64_w, i32_w]
      rfl
    refine pure_ (i := 25) (N := some 2) (v := ?_) (a' := ?_) #[true, true, true, true, true, true, true, true, true, true, true, true, true, true, true, true, true, true, true, true, true, true, true, true, true, true] rfl rfl (by kernel_rfl) (fun _ _ _ h => h) (Or.inl ⟨by rfl, ?_⟩) ?_ ?_
    rotate_left
    · intro w'
      go_simp
      with_reducible rfl
    rotate_left
    · simp only [Act.put, List.setIfInBounds_toArray, List.set_cons_zero, List.set_cons_succ, i64_w, i32_w]
      rfl
    refine done_ (by kernel_rfl) ?_

    have S := S47
    clear S8 S36 S38 S44 S47
    go_wp2
    go_ret
    exact ⟨rfl, S.out.below⟩
end Go.Proofs.Ytkoimdgpicmakaa.Ob
