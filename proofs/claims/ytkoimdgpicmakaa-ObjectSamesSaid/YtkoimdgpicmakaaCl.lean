/- A module is copied (object.Copy). -/
import Derived.Test.YtkoimdgpicmakaaCp
import Derived.Lib.SliceRun
namespace Go.Proofs.Ytkoimdgpicmakaa.Ob
open Go.Proofs.Ytkoimdgpicmakaa.Inv
open Go.RowKit Go.Proofs.Ytkoimdgpicmakaa.Sep Go.Proofs.YtkoimdgpicmakaaW.PrintWords Go.Proofs.YtkoimdgpicmakaaW.PrintLast Go.Proofs.Ytkoimdgpicmakaa.Wm Go.Proofs.Ytkoimdgpicmakaa.Ev Go.Proofs.Ytkoimdgpicmakaa.Ty Go.Proofs.Ytkoimdgpicmakaa.PB
set_option linter.unusedVariables false
set_option linter.unusedSimpArgs false

def cloneS.f (l0 : List ByteArray) : Option (List ByteArray) := if l0.length < 8796093022208 then some l0 else none
set_option maxHeartbeats 2000000 in
set_option maxRecDepth 100000 in
theorem cloneS.calls (A0 : Option Addr) (c0 : Nat) (l0 : List ByteArray) (r : List ByteArray) (w : World) (hr0 : Kd.C Kd.string w A0 l0.length l0) (hc0 : l0.length ≤ c0) (h : cloneS.f l0 = some r) :
    Calls Try.prog 56 #[.slice A0 l0.length c0] w fun e w' => ∃ v0_ : Value, e = .returned (v0_) ∧ Kd.R Kd.string 9 w' w.heap.size (fun _ => True) v0_ r ∧ Below w.heap.size w w' := by
  unfold cloneS.f at h
  by_cases hlim : l0.length < 8796093022208
  · rw [if_pos hlim] at h
    obtain rfl := Option.some.inj h
    have HR0 := Aside0.mk hr0
    have HB := Aside0.mk (Below.refl w.heap.size w)
    have hq := fun W => Lib.run_eql_slice_nil (P := Try.prog) W 22 9 A0 l0.length c0 0 0 Try.underlying22
    cases A0 with
    | none =>
      have hl : l0 = [] := by
        rcases Nat.eq_zero_or_pos l0.length with h0 | h0
        · exact List.eq_nil_of_length_eq_zero h0
        · obtain ⟨ad, e, _⟩ := hr0.2.2 h0; cases e
      subst hl
      clear hr0 HR0
      simp only [List.length_nil] at hq
      go_enter Try.func56, Try.ntmps56
      go_wp2
      go_ret
      exact ⟨_, rfl, Kd.R_nil _ _ _ _ _, HB.out⟩
    | some ad =>
      have LM := Aside0.mk hlim
      clear hr0 hlim
      go_enter Try.func56, Try.ntmps56
      go_wp2_with (first | ((with_reducible refine gate_dst (N := 5) rfl ?_); refine Kd.R_lit Kd.string _ 9 ?hg (N := 5) ?hd (xs := ([] : List ByteArray)) (inner := []) (ok := fun _ => True) (okp := fun _ => True) ?hr ?hp (fun _ hk => hk) trivial (Below.refl _ _) (Nat.le_refl _) (by simp) ?_; (case hd => rfl); (case hg => rfl); (case hr => first | (go_simp; done) | (go_simp; rfl)); (case hp => exact (Reps.none _ _)); intro v5 w5 ho5 hb hg_ hnew_; clear hg_ hnew_; have n0_ := Aside0.mk (Kd.R_lower ho5 (below_size (by repeat (first | (with_reducible first | exact HB.out | apply below_alloc | apply pw_below_drewN | apply below_drew1) | exact HB.out)))); have n1_ := Aside0.mk (below_step (by repeat (first | (with_reducible first | exact HB.out | apply below_alloc | apply pw_below_drewN | apply below_drew1) | exact HB.out)) hb); clear HB; have HO := n0_; have HB := n1_; clear n0_ n1_; clear hb ho5) | ((with_reducible refine gate_builtin (b := .append) (xs := #[.tmp 5, .tmp 6]) rfl ?_); at_builtin; refine Kd.R_append_rows Kd.string (w0 := w) w.heap.size rfl (.tmp 5) (.tmp 6) 22 9 (.string ⟨#[]⟩) 16 rfl Try.underlying22 infq9 rfl (by decide) (by omega) v5 [] l0 _ _ _ (fun _ => True) (fun _ => False) rfl rfl ?aO ?aR (fun _ _ h => h) (fun _ h => h.elim) ?aF ?aB ?aS ?aL ?_; (case aR => repeat (first | exact (Kd.C_below HR0.out HB.out) | (with_reducible refine Kd.C_alloc ?_ _) | (with_reducible refine Kd.C_drewN ?_ _) | (with_reducible refine Kd.C_drew ?_))); (case aB => exact (by repeat (first | (with_reducible first | exact HB.out | apply below_alloc | apply pw_below_drewN | apply below_drew1) | exact HB.out))); (case aF => exact (fun _ _ => trivial)); (case aO => exact (by (with_reducible repeat (first | apply Kd.R_alloc | apply Kd.R_drewN | apply Kd.R_drew)); exact HO.out)); (case aS => exact (below_size (by repeat (first | (with_reducible first | exact HB.out | apply below_alloc | apply pw_below_drewN | apply below_drew1) | exact HB.out)))); (case aL => have := LM.out; simp only [List.length_nil]; omega); intro v7 w7 ho hb hg hat; have n0_ := Aside0.mk (hb); have n1_ := Aside0.mk (ho); clear HB; clear HO; have HB := n0_; have HO := n1_; clear n0_ n1_; clear ho hb hg hat))
      go_ret
      exact ⟨_, rfl, by simpa using HO.out, HB.out⟩
  · rw [if_neg hlim] at h; cases h

def cloneU.f (l0 : List Int) : Option (List Int) := if l0.length < 35184372088832 then some l0 else none
set_option maxHeartbeats 2000000 in
set_option maxRecDepth 100000 in
theorem cloneU.calls (A0 : Option Addr) (c0 : Nat) (l0 : List Int) (r : List Int) (w : World) (hr0 : Kd.C (Kd.int .u32) w A0 l0.length l0) (hc0 : l0.length ≤ c0) (h : cloneU.f l0 = some r) :
    Calls Try.prog 57 #[.slice A0 l0.length c0] w fun e w' => ∃ v0_ : Value, e = .returned (v0_) ∧ Kd.R (Kd.int .u32) 43 w' w.heap.size (fun _ => True) v0_ r ∧ Below w.heap.size w w' := by
  unfold cloneU.f at h
  by_cases hlim : l0.length < 35184372088832
  · rw [if_pos hlim] at h
    obtain rfl := Option.some.inj h
    have HR0 := Aside0.mk hr0
    have HB := Aside0.mk (Below.refl w.heap.size w)
    have hq := fun W => Lib.run_eql_slice_nil (P := Try.prog) W 23 43 A0 l0.length c0 0 0 Try.underlying23
    cases A0 with
    | none =>
      have hl : l0 = [] := by
        rcases Nat.eq_zero_or_pos l0.length with h0 | h0
        · exact List.eq_nil_of_length_eq_zero h0
        · obtain ⟨ad, e, _⟩ := hr0.2.2 h0; cases e
      subst hl
      clear hr0 HR0
      simp only [List.length_nil] at hq
      go_enter Try.func57, Try.ntmps57
      go_wp2
      go_ret
      exact ⟨_, rfl, Kd.R_nil _ _ _ _ _, HB.out⟩
    | some ad =>
      have LM := Aside0.mk hlim
      clear hr0 hlim
      go_enter Try.func57, Try.ntmps57
      go_wp2_with (first | ((with_reducible refine gate_dst (N := 5) rfl ?_); refine Kd.R_lit (Kd.int .u32) _ 43 ?hg (N := 5) ?hd (xs := ([] : List Int)) (inner := []) (ok := fun _ => True) (okp := fun _ => True) ?hr ?hp (fun _ hk => hk) trivial (Below.refl _ _) (Nat.le_refl _) (by simp) ?_; (case hd => rfl); (case hg => rfl); (case hr => first | (go_simp; done) | (go_simp; rfl)); (case hp => exact (Reps.none _ _)); intro v5 w5 ho5 hb hg_ hnew_; clear hg_ hnew_; have n0_ := Aside0.mk (Kd.R_lower ho5 (below_size (by repeat (first | (with_reducible first | exact HB.out | apply below_alloc | apply pw_below_drewN | apply below_drew1) | exact HB.out)))); have n1_ := Aside0.mk (below_step (by repeat (first | (with_reducible first | exact HB.out | apply below_alloc | apply pw_below_drewN | apply below_drew1) | exact HB.out)) hb); clear HB; have HO := n0_; have HB := n1_; clear n0_ n1_; clear hb ho5) | ((with_reducible refine gate_builtin (b := .append) (xs := #[.tmp 5, .tmp 6]) rfl ?_); at_builtin; refine Kd.R_append_rows (Kd.int .u32) (w0 := w) w.heap.size rfl (.tmp 5) (.tmp 6) 23 43 (.int .u32 0) 4 rfl Try.underlying23 infq43 rfl (by decide) (by omega) v5 [] l0 _ _ _ (fun _ => True) (fun _ => False) rfl rfl ?aO ?aR (fun _ _ h => h) (fun _ h => h.elim) ?aF ?aB ?aS ?aL ?_; (case aR => repeat (first | exact (Kd.C_below HR0.out HB.out) | (with_reducible refine Kd.C_alloc ?_ _) | (with_reducible refine Kd.C_drewN ?_ _) | (with_reducible refine Kd.C_drew ?_))); (case aB => exact (by repeat (first | (with_reducible first | exact HB.out | apply below_alloc | apply pw_below_drewN | apply below_drew1) | exact HB.out))); (case aF => exact (fun _ _ => trivial)); (case aO => exact (by (with_reducible repeat (first | apply Kd.R_alloc | apply Kd.R_drewN | apply Kd.R_drew)); exact HO.out)); (case aS => exact (below_size (by repeat (first | (with_reducible first | exact HB.out | apply below_alloc | apply pw_below_drewN | apply below_drew1) | exact HB.out)))); (case aL => have := LM.out; simp only [List.length_nil]; omega); intro v7 w7 ho hb hg hat; have n0_ := Aside0.mk (hb); have n1_ := Aside0.mk (ho); clear HB; clear HO; have HB := n0_; have HO := n1_; clear n0_ n1_; clear ho hb hg hat))
      go_ret
      exact ⟨_, rfl, by simpa using HO.out, HB.out⟩
  · rw [if_neg hlim] at h; cases h

def cloneR.f (l0 : List S50) : Option (List S50) := if l0.length < 23456248059221 then some l0 else none
set_option maxHeartbeats 2000000 in
set_option maxRecDepth 100000 in
theorem cloneR.calls (A0 : Option Addr) (c0 : Nat) (l0 : List S50) (r : List S50) (w : World) (hr0 : Kd.C k50 w A0 l0.length l0) (hc0 : l0.length ≤ c0) (h : cloneR.f l0 = some r) :
    Calls Try.prog 58 #[.slice A0 l0.length c0] w fun e w' => ∃ v0_ : Value, e = .returned (v0_) ∧ Kd.R k50 50 w' w.heap.size (fun _ => True) v0_ r ∧ Below w.heap.size w w' := by
  unfold cloneR.f at h
  by_cases hlim : l0.length < 23456248059221
  · rw [if_pos hlim] at h
    obtain rfl := Option.some.inj h
    have HR0 := Aside0.mk hr0
    have HB := Aside0.mk (Below.refl w.heap.size w)
    have hq := fun W => Lib.run_eql_slice_nil (P := Try.prog) W 24 50 A0 l0.length c0 0 0 Try.underlying24
    cases A0 with
    | none =>
      have hl : l0 = [] := by
        rcases Nat.eq_zero_or_pos l0.length with h0 | h0
        · exact List.eq_nil_of_length_eq_zero h0
        · obtain ⟨ad, e, _⟩ := hr0.2.2 h0; cases e
      subst hl
      clear hr0 HR0
      simp only [List.length_nil] at hq
      go_enter Try.func58, Try.ntmps58
      go_wp2
      go_ret
      exact ⟨_, rfl, Kd.R_nil _ _ _ _ _, HB.out⟩
    | some ad =>
      have LM := Aside0.mk hlim
      clear hr0 hlim
      go_enter Try.func58, Try.ntmps58
      go_wp2_with (first | ((with_reducible refine gate_dst (N := 5) rfl ?_); refine Kd.R_lit k50 _ 50 ?hg (N := 5) ?hd (xs := ([] : List S50)) (inner := []) (ok := fun _ => True) (okp := fun _ => True) ?hr ?hp (fun _ hk => hk) trivial (Below.refl _ _) (Nat.le_refl _) (by simp) ?_; (case hd => rfl); (case hg => rfl); (case hr => first | (go_simp; done) | (go_simp; rfl)); (case hp => exact (Reps.none _ _)); intro v5 w5 ho5 hb hg_ hnew_; clear hg_ hnew_; have n0_ := Aside0.mk (Kd.R_lower ho5 (below_size (by repeat (first | (with_reducible first | exact HB.out | apply below_alloc | apply pw_below_drewN | apply below_drew1) | exact HB.out)))); have n1_ := Aside0.mk (below_step (by repeat (first | (with_reducible first | exact HB.out | apply below_alloc | apply pw_below_drewN | apply below_drew1) | exact HB.out)) hb); clear HB; have HO := n0_; have HB := n1_; clear n0_ n1_; clear hb ho5) | ((with_reducible refine gate_builtin (b := .append) (xs := #[.tmp 5, .tmp 6]) rfl ?_); at_builtin; refine Kd.R_append_rows k50 (w0 := w) w.heap.size rfl (.tmp 5) (.tmp 6) 24 50 (.agg #[.int .u8 0, .int .u16 0, .int .u16 0]) 6 rfl Try.underlying24 info50 rfl (by decide) (by omega) v5 [] l0 _ _ _ (fun _ => True) (fun _ => False) rfl rfl ?aO ?aR (fun _ _ h => h) (fun _ h => h.elim) ?aF ?aB ?aS ?aL ?_; (case aR => repeat (first | exact (Kd.C_below HR0.out HB.out) | (with_reducible refine Kd.C_alloc ?_ _) | (with_reducible refine Kd.C_drewN ?_ _) | (with_reducible refine Kd.C_drew ?_))); (case aB => exact (by repeat (first | (with_reducible first | exact HB.out | apply below_alloc | apply pw_below_drewN | apply below_drew1) | exact HB.out))); (case aF => exact (fun _ _ => trivial)); (case aO => exact (by (with_reducible repeat (first | apply Kd.R_alloc | apply Kd.R_drewN | apply Kd.R_drew)); exact HO.out)); (case aS => exact (below_size (by repeat (first | (with_reducible first | exact HB.out | apply below_alloc | apply pw_below_drewN | apply below_drew1) | exact HB.out)))); (case aL => have := LM.out; simp only [List.length_nil]; omega); intro v7 w7 ho hb hg hat; have n0_ := Aside0.mk (hb); have n1_ := Aside0.mk (ho); clear HB; clear HO; have HB := n0_; have HO := n1_; clear n0_ n1_; clear ho hb hg hat))
      go_ret
      exact ⟨_, rfl, by simpa using HO.out, HB.out⟩
  · rw [if_neg hlim] at h; cases h

set_option maxRecDepth 100000 in
set_option maxHeartbeats 8000000 in
theorem copy20 (m : Mo) (Aa1 : Option Addr) (ca1 : Nat) (Aa2 : Option Addr) (ca2 : Nat) (Aa3 : Option Addr) (ca3 : Nat) (Aa4 : Option Addr) (ca4 : Nat) (Aa5 : Option Addr) (ca5 : Nat) (w : World) (h : Md w m.nm Aa1 ca1 m.ex Aa2 ca2 m.im Aa3 ca3 m.co Aa4 ca4 m.da Aa5 ca5 m.re) (few : m.Few) : Calls Try.prog 20 #[.agg #[.string m.nm, .slice Aa1 m.ex.length ca1, .slice Aa2 m.im.length ca2, .slice Aa3 m.co.length ca3, .slice Aa4 m.da.length ca4, .slice Aa5 m.re.length ca5]] w fun z w' => ∃ A1 c1 A2 c2 A3 c3 A4 c4 A5 c5, z = .returned (.agg #[.string m.nm, .slice A1 m.ex.length c1, .slice A2 m.im.length c2, .slice A3 m.co.length c3, .slice A4 m.da.length c4, .slice A5 m.re.length c5]) ∧ Aside0 (St w.heap.size w w' [Ow k50 50 A5 c5 m.re, Ow (Kd.int .u32) 43 A4 c4 m.da, Ow (Kd.int .u32) 43 A3 c3 m.co, Ow Kd.string 9 A2 c2 m.im, Ow Kd.string 9 A1 c1 m.ex]) := by
  have HM := Aside0.mk h
  have S := Aside0.mk (St.start w)
  have HK1 := Aside0.mk (show cloneS.f m.ex = some m.ex by unfold cloneS.f; rw [if_pos (by have := few.ex; omega)])
  have HK2 := Aside0.mk (show cloneS.f m.im = some m.im by unfold cloneS.f; rw [if_pos (by have := few.im; omega)])
  have HK3 := Aside0.mk (show cloneU.f m.co = some m.co by unfold cloneU.f; rw [if_pos (by have := few.co; omega)])
  have HK4 := Aside0.mk (show cloneU.f m.da = some m.da by unfold cloneU.f; rw [if_pos (by have := few.da; omega)])
  have HK5 := Aside0.mk (show cloneR.f m.re = some m.re by unfold cloneR.f; rw [if_pos (by have := few.re; omega)])
  clear h
  go_enter Try.func20, Try.ntmps20
  go_wp2_with (first | ((with_reducible refine gate_dst (N := 1) rfl ?_); refine ev_boxs S ?_ 1 rfl rfl rfl ?_; (first | exact want0 rfl | exact want1 rfl rfl rfl rfl); intro g1 w1 S_; clear S; have S := S_; clear S_) | ((with_reducible refine gate_dst (N := 2) rfl ?_); refine ev_alloc #[.string ⟨#[]⟩, .slice none 0 0, .slice none 0 0, .slice none 0 0, .slice none 0 0, .slice none 0 0] rfl S ?_ 2 rfl rfl z26 ?_; (first | exact want0 rfl | exact want1 rfl rfl rfl rfl); intro g2 w2 S_; clear S; have S := S_; clear S_) | (refine ev_own1 S ?_ rfl o9 rfl (by repeat (first | exact Spot.here _ _ | apply Spot.there)) (by exact rfl) ?_; (first | exact want0 rfl | exact want1 rfl rfl rfl rfl)) | (refine ev_own1 S ?_ rfl o22 rfl (by repeat (first | exact Spot.here _ _ | apply Spot.there)) (by exact rfl) ?_; (first | exact want0 rfl | exact want1 rfl rfl rfl rfl)) | (refine ev_own1 S ?_ rfl o23 rfl (by repeat (first | exact Spot.here _ _ | apply Spot.there)) (by exact rfl) ?_; (first | exact want0 rfl | exact want1 rfl rfl rfl rfl)) | (refine ev_own1 S ?_ rfl o24 rfl (by repeat (first | exact Spot.here _ _ | apply Spot.there)) (by exact rfl) ?_; (first | exact want0 rfl | exact want1 rfl rfl rfl rfl)) | (refine ev_puts S ?_ rfl rfl s26 rfl rfl (by repeat (first | exact Spot.here _ _ | apply Spot.there)) rfl ?_ ?_ ?_; (first | exact want0 rfl | exact want1 rfl rfl rfl rfl); rfl; rfl; intro w_ S_; simp only [putAt, List.set_cons_zero, List.set_cons_succ] at S_; clear S; have S := S_; clear S_))
  have S2 := Aside0.mk S.out.drew
  clear S
  refine start_ (n := 19) (S := fun w' => w'.cell? ⟨g1, 0, none⟩ = some (.string m.nm) ∧ w'.cell? ⟨g1, 1, none⟩ = some (.slice Aa1 m.ex.length ca1) ∧ w'.cell? ⟨g1, 2, none⟩ = some (.slice Aa2 m.im.length ca2) ∧ w'.cell? ⟨g1, 3, none⟩ = some (.slice Aa3 m.co.length ca3) ∧ w'.cell? ⟨g1, 4, none⟩ = some (.slice Aa4 m.da.length ca4) ∧ w'.cell? ⟨g1, 5, none⟩ = some (.slice Aa5 m.re.length ca5)) (ds := []) #[false, false, false, false, false, false, false, false, false, false, false, false, false, false, false, false, false, false, false] (by kernel_rfl) rfl rfl ⟨((own_cell (g := g1) S2 (by repeat (first | exact Spot.here _ _ | apply Spot.there)) 0).trans rfl), ((own_cell (g := g1) S2 (by repeat (first | exact Spot.here _ _ | apply Spot.there)) 1).trans rfl), ((own_cell (g := g1) S2 (by repeat (first | exact Spot.here _ _ | apply Spot.there)) 2).trans rfl), ((own_cell (g := g1) S2 (by repeat (first | exact Spot.here _ _ | apply Spot.there)) 3).trans rfl), ((own_cell (g := g1) S2 (by repeat (first | exact Spot.here _ _ | apply Spot.there)) 4).trans rfl), ((own_cell (g := g1) S2 (by repeat (first | exact Spot.here _ _ | apply Spot.there)) 5).trans rfl)⟩ (fun hHeld => ?_)
  refine pure_ (i := 0) (N := some 3) (v := ?_) (a' := ?_) #[true, false, false, false, false, false, false, false, false, false, false, false, false, false, false, false, false, false, false] rfl rfl (by kernel_rfl) (fun _ _ _ h => h) (Or.inl ⟨by rfl, ?_⟩) ?_ ?_
  rotate_left
  · intro w'
    go_simp
    with_reducible rfl
  rotate_left
  · simp only [Act.put, List.setIfInBounds_toArray, List.set_cons_zero, List.set_cons_succ, i64_w, i32_w]
    rfl
  refine pure_ (i := 2) (N := some 5) (v := ?_) (a' := ?_) #[true, false, true, false, false, false, false, false, false, false, false, false, false, false, false, false, false, false, false] rfl rfl (by kernel_rfl) (fun _ _ _ h => h) (Or.inl ⟨by rfl, ?_⟩) ?_ ?_
  rotate_left
  · intro w'
    go_simp
    with_reducible rfl
  rotate_left
  · simp only [Act.put, List.setIfInBounds_toArray, List.set_cons_zero, List.set_cons_succ, i64_w, i32_w]
    rfl
  refine pure_ (i := 5) (N := some 8) (v := ?_) (a' := ?_) #[true, false, true, false, false, true, false, false, false, false, false, false, false, false, false, false, false, false, false] rfl rfl (by kernel_rfl) (fun _ _ _ h => h) (Or.inl ⟨by rfl, ?_⟩) ?_ ?_
  rotate_left
  · intro w'
    go_simp
    with_reducible rfl
  rotate_left
  · simp only [Act.put, List.setIfInBounds_toArray, List.set_cons_zero, List.set_cons_succ, i64_w, i32_w]
    rfl
  refine pure_ (i := 8) (N := some 11) (v := ?_) (a' := ?_) #[true, false, true, false, false, true, false, false, true, false, false, false, false, false, false, false, false, false, false] rfl rfl (by kernel_rfl) (fun _ _ _ h => h) (Or.inl ⟨by rfl, ?_⟩) ?_ ?_
  rotate_left
  · intro w'
    go_simp
    with_reducible rfl
  rotate_left
  · simp only [Act.put, List.setIfInBounds_toArray, List.set_cons_zero, List.set_cons_succ, i64_w, i32_w]
    rfl
  refine pure_ (i := 11) (N := some 14) (v := ?_) (a' := ?_) #[true, false, true, false, false, true, false, false, true, false, false, true, false, false, false, false, false, false, false] rfl rfl (by kernel_rfl) (fun _ _ _ h => h) (Or.inl ⟨by rfl, ?_⟩) ?_ ?_
  rotate_left
  · intro w'
    go_simp
    with_reducible rfl
  rotate_left
  · simp only [Act.put, List.setIfInBounds_toArray, List.set_cons_zero, List.set_cons_succ, i64_w, i32_w]
    rfl
  refine pure_ (i := 14) (N := some 17) (v := ?_) (a' := ?_) #[true, false, true, false, false, true, false, false, true, false, false, true, false, false, true, false, false, false, false] rfl rfl (by kernel_rfl) (fun _ _ _ h => h) (Or.inl ⟨by rfl, ?_⟩) ?_ ?_
  rotate_left
  · intro w'
    go_simp
    with_reducible rfl
  rotate_left
  · simp only [Act.put, List.setIfInBounds_toArray, List.set_cons_zero, List.set_cons_succ, i64_w, i32_w]
    rfl
  refine take_ (i := 1) (N := some 4) (v := ?_) (a' := ?_) #[true, true, true, false, false, true, false, false, true, false, false, true, false, false, true, false, false, false, false] rfl rfl (by kernel_rfl) (fun _ _ _ h => h) (Or.inl ⟨by rfl, ?_⟩) hHeld ?_ ?_
  rotate_left
  · rintro w' ⟨s0, s1, s2, s3, s4, s5⟩
    go_simp
    with_reducible rfl
  rotate_left
  · simp only [Act.put, List.setIfInBounds_toArray, List.set_cons_zero, List.set_cons_succ, i64_w, i32_w]
    rfl
  refine take_ (i := 3) (N := some 6) (v := ?_) (a' := ?_) #[true, true, true, true, false, true, false, false, true, false, false, true, false, false, true, false, false, false, false] rfl rfl (by kernel_rfl) (fun _ _ _ h => h) (Or.inl ⟨by rfl, ?_⟩) hHeld ?_ ?_
  rotate_left
  · rintro w' ⟨s0, s1, s2, s3, s4, s5⟩
    go_simp
    with_reducible rfl
  rotate_left
  · simp only [Act.put, List.setIfInBounds_toArray, List.set_cons_zero, List.set_cons_succ, i64_w, i32_w]
    rfl
  refine take_ (i := 6) (N := some 9) (v := ?_) (a' := ?_) #[true, true, true, true, false, true, true, false, true, false, false, true, false, false, true, false, false, false, false] rfl rfl (by kernel_rfl) (fun _ _ _ h => h) (Or.inl ⟨by rfl, ?_⟩) hHeld ?_ ?_
  rotate_left
  · rintro w' ⟨s0, s1, s2, s3, s4, s5⟩
    go_simp
    with_reducible rfl
  rotate_left
  · simp only [Act.put, List.setIfInBounds_toArray, List.set_cons_zero, List.set_cons_succ, i64_w, i32_w]
    rfl
  refine take_ (i := 9) (N := some 12) (v := ?_) (a' := ?_) #[true, true, true, true, false, true, true, false, true, true, false, true, false, false, true, false, false, false, false] rfl rfl (by kernel_rfl) (fun _ _ _ h => h) (Or.inl ⟨by rfl, ?_⟩) hHeld ?_ ?_
  rotate_left
  · rintro w' ⟨s0, s1, s2, s3, s4, s5⟩
    go_simp
    with_reducible rfl
  rotate_left
  · simp only [Act.put, List.setIfInBounds_toArray, List.set_cons_zero, List.set_cons_succ, i64_w, i32_w]
    rfl
  refine take_ (i := 12) (N := some 15) (v := ?_) (a' := ?_) #[true, true, true, true, false, true, true, false, true, true, false, true, true, false, true, false, false, false, false] rfl rfl (by kernel_rfl) (fun _ _ _ h => h) (Or.inl ⟨by rfl, ?_⟩) hHeld ?_ ?_
  rotate_left
  · rintro w' ⟨s0, s1, s2, s3, s4, s5⟩
    go_simp
    with_reducible rfl
  rotate_left
  · simp only [Act.put, List.setIfInBounds_toArray, List.set_cons_zero, List.set_cons_succ, i64_w, i32_w]
    rfl
  refine take_ (i := 15) (N := some 18) (v := ?_) (a' := ?_) #[true, true, true, true, false, true, true, false, true, true, false, true, true, false, true, true, false, false, false] rfl rfl (by kernel_rfl) (fun _ _ _ h => h) (Or.inl ⟨by rfl, ?_⟩) hHeld ?_ ?_
  rotate_left
  · rintro w' ⟨s0, s1, s2, s3, s4, s5⟩
    go_simp
    with_reducible rfl
  rotate_left
  · simp only [Act.put, List.setIfInBounds_toArray, List.set_cons_zero, List.set_cons_succ, i64_w, i32_w]
    rfl
  refine one_ (i := 4) (N := some 7) #[true, true, true, true, true, true, true, false, true, true, false, true, true, false, true, true, false, false, false] rfl rfl (by kernel_rfl) (by decide) (fun K hK => ?_)
  refine goes_ Try.func56 (by kernel_rfl) rfl #[.slice Aa1 m.ex.length ca1] (by rfl) rfl rfl (by simp only [List.map_toArray, List.map_cons, List.map_nil]; rfl) ?_
  with_reducible refine (cloneS.calls Aa1 ca1 m.ex m.ex _ (HM.out.below S2.out.below).r1 (HM.out.below S2.out.below).l1 HK1.out).mono ?_
  rintro z9 w7 ⟨v0, rfl, hR, hb_⟩
  obtain ⟨A7, c7, rfl, _⟩ := Kd.R_reads hR
  have S7 := Aside0.mk (St.add S2.out hb_ (Ow Kd.string 9 A7 c7 m.ex) (Ow.mk rfl hR) (Ow.new hR))
  clear hR hb_
  refine ⟨_, rfl, ?_⟩
  refine hK.out _ _ ⟨((own_cell (g := g1) S7 (by repeat (first | exact Spot.here _ _ | apply Spot.there)) 0).trans rfl), ((own_cell (g := g1) S7 (by repeat (first | exact Spot.here _ _ | apply Spot.there)) 1).trans rfl), ((own_cell (g := g1) S7 (by repeat (first | exact Spot.here _ _ | apply Spot.there)) 2).trans rfl), ((own_cell (g := g1) S7 (by repeat (first | exact Spot.here _ _ | apply Spot.there)) 3).trans rfl), ((own_cell (g := g1) S7 (by repeat (first | exact Spot.here _ _ | apply Spot.there)) 4).trans rfl), ((own_cell (g := g1) S7 (by repeat (first | exact Spot.here _ _ | apply Spot.there)) 5).trans rfl)⟩ (fun hHeld => ?_)
  clear hK K
  refine norm_ (a' := ?_) ?_ ?_
  rotate_left
  · show Act.put _ (some 7) _ = _
    simp only [Act.put, List.setIfInBounds_toArray, List.set_cons_zero, List.set_cons_succ, i64_w, i32_w]
    rfl
  refine one_ (i := 7) (N := some 10) #[true, true, true, true, true, true, true, true, true, true, false, true, true, false, true, true, false, false, false] rfl rfl (by kernel_rfl) (by decide) (fun K hK => ?_)
  refine goes_ Try.func56 (by kernel_rfl) rfl #[.slice Aa2 m.im.length ca2] (by rfl) rfl rfl (by simp only [List.map_toArray, List.map_cons, List.map_nil]; rfl) ?_
  with_reducible refine (cloneS.calls Aa2 ca2 m.im m.im _ (HM.out.below S7.out.below).r2 (HM.out.below S7.out.below).l2 HK2.out).mono ?_
  rintro z9 w10 ⟨v0, rfl, hR, hb_⟩
  obtain ⟨A10, c10, rfl, _⟩ := Kd.R_reads hR
  have S10 := Aside0.mk (St.add S7.out hb_ (Ow Kd.string 9 A10 c10 m.im) (Ow.mk rfl hR) (Ow.new hR))
  clear hR hb_
  refine ⟨_, rfl, ?_⟩
  refine hK.out _ _ ⟨((own_cell (g := g1) S10 (by repeat (first | exact Spot.here _ _ | apply Spot.there)) 0).trans rfl), ((own_cell (g := g1) S10 (by repeat (first | exact Spot.here _ _ | apply Spot.there)) 1).trans rfl), ((own_cell (g := g1) S10 (by repeat (first | exact Spot.here _ _ | apply Spot.there)) 2).trans rfl), ((own_cell (g := g1) S10 (by repeat (first | exact Spot.here _ _ | apply Spot.there)) 3).trans rfl), ((own_cell (g := g1) S10 (by repeat (first | exact Spot.here _ _ | apply Spot.there)) 4).trans rfl), ((own_cell (g := g1) S10 (by repeat (first | exact Spot.here _ _ | apply Spot.there)) 5).trans rfl)⟩ (fun hHeld => ?_)
  clear hK K
  refine norm_ (a' := ?_) ?_ ?_
  rotate_left
  · show Act.put _ (some 10) _ = _
    simp only [Act.put, List.setIfInBounds_toArray, List.set_cons_zero, List.set_cons_succ, i64_w, i32_w]
    rfl
  refine one_ (i := 10) (N := some 13) #[true, true, true, true, true, true, true, true, true, true, true, true, true, false, true, true, false, false, false] rfl rfl (by kernel_rfl) (by decide) (fun K hK => ?_)
  refine goes_ Try.func57 (by kernel_rfl) rfl #[.slice Aa3 m.co.length ca3] (by rfl) rfl rfl (by simp only [List.map_toArray, List.map_cons, List.map_nil]; rfl) ?_
  with_reducible refine (cloneU.calls Aa3 ca3 m.co m.co _ (HM.out.below S10.out.below).r3 (HM.out.below S10.out.below).l3 HK3.out).mono ?_
  rintro z9 w13 ⟨v0, rfl, hR, hb_⟩
  obtain ⟨A13, c13, rfl, _⟩ := Kd.R_reads hR
  have S13 := Aside0.mk (St.add S10.out hb_ (Ow (Kd.int .u32) 43 A13 c13 m.co) (Ow.mk rfl hR) (Ow.new hR))
  clear hR hb_
  refine ⟨_, rfl, ?_⟩
  refine hK.out _ _ ⟨((own_cell (g := g1) S13 (by repeat (first | exact Spot.here _ _ | apply Spot.there)) 0).trans rfl), ((own_cell (g := g1) S13 (by repeat (first | exact Spot.here _ _ | apply Spot.there)) 1).trans rfl), ((own_cell (g := g1) S13 (by repeat (first | exact Spot.here _ _ | apply Spot.there)) 2).trans rfl), ((own_cell (g := g1) S13 (by repeat (first | exact Spot.here _ _ | apply Spot.there)) 3).trans rfl), ((own_cell (g := g1) S13 (by repeat (first | exact Spot.here _ _ | apply Spot.there)) 4).trans rfl), ((own_cell (g := g1) S13 (by repeat (first | exact Spot.here _ _ | apply Spot.there)) 5).trans rfl)⟩ (fun hHeld => ?_)
  clear hK K
  refine norm_ (a' := ?_) ?_ ?_
  rotate_left
  · show Act.put _ (some 13) _ = _
    simp only [Act.put, List.setIfInBounds_toArray, List.set_cons_zero, List.set_cons_succ, i64_w, i32_w]
    rfl
  refine one_ (i := 13) (N := some 16) #[true, true, true, true, true, true, true, true, true, true, true, true, true, true, true, true, false, false, false] rfl rfl (by kernel_rfl) (by decide) (fun K hK => ?_)
  refine goes_ Try.func57 (by kernel_rfl) rfl #[.slice Aa4 m.da.length ca4] (by rfl) rfl rfl (by simp only [List.map_toArray, List.map_cons, List.map_nil]; rfl) ?_
  with_reducible refine (cloneU.calls Aa4 ca4 m.da m.da _ (HM.out.below S13.out.below).r4 (HM.out.below S13.out.below).l4 HK4.out).mono ?_
  rintro z9 w16 ⟨v0, rfl, hR, hb_⟩
  obtain ⟨A16, c16, rfl, _⟩ := Kd.R_reads hR
  have S16 := Aside0.mk (St.add S13.out hb_ (Ow (Kd.int .u32) 43 A16 c16 m.da) (Ow.mk rfl hR) (Ow.new hR))
  clear hR hb_
  refine ⟨_, rfl, ?_⟩
  refine hK.out _ _ ⟨((own_cell (g := g1) S16 (by repeat (first | exact Spot.here _ _ | apply Spot.there)) 0).trans rfl), ((own_cell (g := g1) S16 (by repeat (first | exact Spot.here _ _ | apply Spot.there)) 1).trans rfl), ((own_cell (g := g1) S16 (by repeat (first | exact Spot.here _ _ | apply Spot.there)) 2).trans rfl), ((own_cell (g := g1) S16 (by repeat (first | exact Spot.here _ _ | apply Spot.there)) 3).trans rfl), ((own_cell (g := g1) S16 (by repeat (first | exact Spot.here _ _ | apply Spot.there)) 4).trans rfl), ((own_cell (g := g1) S16 (by repeat (first | exact Spot.here _ _ | apply Spot.there)) 5).trans rfl)⟩ (fun hHeld => ?_)
  clear hK K
  refine norm_ (a' := ?_) ?_ ?_
  rotate_left
  · show Act.put _ (some 16) _ = _
    simp only [Act.put, List.setIfInBounds_toArray, List.set_cons_zero, List.set_cons_succ, i64_w, i32_w]
    rfl
  refine one_ (i := 16) (N := some 19) #[true, true, true, true, true, true, true, true, true, true, true, true, true, true, true, true, true, false, false] rfl rfl (by kernel_rfl) (by decide) (fun K hK => ?_)
  refine goes_ Try.func58 (by kernel_rfl) rfl #[.slice Aa5 m.re.length ca5] (by rfl) rfl rfl (by simp only [List.map_toArray, List.map_cons, List.map_nil]; rfl) ?_
  with_reducible refine (cloneR.calls Aa5 ca5 m.re m.re _ (HM.out.below S16.out.below).r5 (HM.out.below S16.out.below).l5 HK5.out).mono ?_
  rintro z9 w19 ⟨v0, rfl, hR, hb_⟩
  obtain ⟨A19, c19, rfl, _⟩ := Kd.R_reads hR
  have S19 := Aside0.mk (St.add S16.out hb_ (Ow k50 50 A19 c19 m.re) (Ow.mk rfl hR) (Ow.new hR))
  clear hR hb_
  refine ⟨_, rfl, ?_⟩
  refine hK.out _ _ ⟨((own_cell (g := g1) S19 (by repeat (first | exact Spot.here _ _ | apply Spot.there)) 0).trans rfl), ((own_cell (g := g1) S19 (by repeat (first | exact Spot.here _ _ | apply Spot.there)) 1).trans rfl), ((own_cell (g := g1) S19 (by repeat (first | exact Spot.here _ _ | apply Spot.there)) 2).trans rfl), ((own_cell (g := g1) S19 (by repeat (first | exact Spot.here _ _ | apply Spot.there)) 3).trans rfl), ((own_cell (g := g1) S19 (by repeat (first | exact Spot.here _ _ | apply Spot.there)) 4).trans rfl), ((own_cell (g := g1) S19 (by repeat (first | exact Spot.here _ _ | apply Spot.there)) 5).trans rfl)⟩ (fun hHeld => ?_)
  clear hK K
  refine norm_ (a' := ?_) ?_ ?_
  rotate_left
  · show Act.put _ (some 19) _ = _
    simp only [Act.put, List.setIfInBounds_toArray, List.set_cons_zero, List.set_cons_succ, i64_w, i32_w]
    rfl
  refine pure_ (i := 17) (N := some 20) (v := ?_) (a' := ?_) #[true, true, true, true, true, true, true, true, true, true, true, true, true, true, true, true, true, true, false] rfl rfl (by kernel_rfl) (fun _ _ _ h => h) (Or.inl ⟨by rfl, ?_⟩) ?_ ?_
  rotate_left
  · intro w'
    go_simp
    with_reducible rfl
  rotate_left
  · simp only [Act.put, List.setIfInBounds_toArray, List.set_cons_zero, List.set_cons_succ, i64_w, i32_w]
    rfl
  refine one_ (i := 18) (N := none) #[true, true, true, true, true, true, true, true, true, true, true, true, true, true, true, true, true, true, true] rfl rfl (by kernel_rfl) (by decide) (fun K hK => ?_)
  refine st_puts (g := g2) S19 (by rfl) rfl rfl s26 rfl rfl (by repeat (first | exact Spot.here _ _ | apply Spot.there)) rfl (by rfl) (by rfl) ?_
  intro w5 S5
  simp only [putAt, List.set_cons_zero, List.set_cons_succ] at S5
  refine hK.out _ _ ⟨((own_cell (g := g1) S5 (by repeat (first | exact Spot.here _ _ | apply Spot.there)) 0).trans rfl), ((own_cell (g := g1) S5 (by repeat (first | exact Spot.here _ _ | apply Spot.there)) 1).trans rfl), ((own_cell (g := g1) S5 (by repeat (first | exact Spot.here _ _ | apply Spot.there)) 2).trans rfl), ((own_cell (g := g1) S5 (by repeat (first | exact Spot.here _ _ | apply Spot.there)) 3).trans rfl), ((own_cell (g := g1) S5 (by repeat (first | exact Spot.here _ _ | apply Spot.there)) 4).trans rfl), ((own_cell (g := g1) S5 (by repeat (first | exact Spot.here _ _ | apply Spot.there)) 5).trans rfl)⟩ (fun hHeld => ?_)
  clear hK K
  refine done_ (by kernel_rfl) ?_

  clear S2 S7 S10 S13 S16 S19
  have S := S5
  clear S5
  go_wp2
  refine ret1 (r := .cell 2 26) rfl rfl (Bk.vals S rfl (by repeat (first | exact Spot.here _ _ | apply Spot.there)) m26 (by exact rfl) .nil) ?_
  exact ⟨A7, c7, A10, c10, A13, c13, A16, c16, A19, c19, rfl, ⟨S.out.drop (by repeat (first | exact List.Sublist.refl _ | apply List.Sublist.cons_cons | apply List.Sublist.cons))⟩⟩
end Go.Proofs.Ytkoimdgpicmakaa.Ob
