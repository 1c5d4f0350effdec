/- A module is laid (object.Put). -/
import Derived.Test.YtkoimdgpicmakaaZCa
import Derived.RegionTactic
import Derived.BigRegion
namespace Go.Proofs.Ytkoimdgpicmakaa.Ob
open Go.Proofs.Ytkoimdgpicmakaa.Pure2 Go.Proofs.Ytkoimdgpicmakaa.Pure4
open Go.RowKit Go.Proofs.Ytkoimdgpicmakaa.Sep Go.Proofs.YtkoimdgpicmakaaW.PrintWords Go.Proofs.YtkoimdgpicmakaaW.PrintLast Go.Proofs.Ytkoimdgpicmakaa.Wm Go.Proofs.Ytkoimdgpicmakaa.Ev Go.Proofs.Ytkoimdgpicmakaa.Ty Go.Proofs.Ytkoimdgpicmakaa.PB
set_option linter.unusedVariables false
set_option linter.unusedSimpArgs false

theorem layT_l (A : Option Addr) (c : Nat) (xs : List ByteArray) (p : List Int) (hp : texts xs = p) (w : World) (hC : Kd.C Kd.string w A xs.length xs) (hl : xs.length ≤ 1000) (hb : ∀ s ∈ xs, s.size ≤ 1000) :
    Calls Try.prog 23 #[.slice A xs.length c, .func (.func 22) #[] #[]] w fun z w' => ∃ A' c', z = .returned (.slice A' p.length c') ∧ (Ow (Kd.int .u8) 5 A' c' p).pred w' ∧ (∀ k, (Ow (Kd.int .u8) 5 A' c' p).foot k → w.heap.size ≤ k) ∧ Below w.heap.size w w' := by
  subst hp
  exact layT_calls A c xs w hC hl hb
theorem layR_l (A : Option Addr) (c : Nat) (xs : List S50) (p : List Int) (hp : rels xs = p) (w : World) (hC : Kd.C k50 w A xs.length xs) (hl : xs.length ≤ 1000) :
    Calls Try.prog 25 #[.slice A xs.length c, .func (.func 26) #[] #[]] w fun z w' => ∃ A' c', z = .returned (.slice A' p.length c') ∧ (Ow (Kd.int .u8) 5 A' c' p).pred w' ∧ (∀ k, (Ow (Kd.int .u8) 5 A' c' p).foot k → w.heap.size ≤ k) ∧ Below w.heap.size w w' := by
  subst hp
  exact layR_calls A c xs w hC hl
theorem cat7 {W : World} {g g10 c14 c17 c20 c23 c26 c29 : Nat} {A14 A17 A20 A23 A26 A29 : Option Addr} {p0 p1 p2 p3 p4 p5 : List Int} (hv : W.heap[g]? = some (.cells #[.slice (some ⟨g10, 0, none⟩) 4 4, .slice A14 p0.length c14, .slice A17 p1.length c17, .slice A20 p2.length c20, .slice A23 p3.length c23, .slice A26 p4.length c26, .slice A29 p5.length c29] 30 (0, 0))) (hm : Kd.C (Kd.int .u8) W (some ⟨g10, 0, none⟩) magic.length magic) (h0 : Kd.C (Kd.int .u8) W A14 p0.length p0) (h1 : Kd.C (Kd.int .u8) W A17 p1.length p1) (h2 : Kd.C (Kd.int .u8) W A20 p2.length p2) (h3 : Kd.C (Kd.int .u8) W A23 p3.length p3) (h4 : Kd.C (Kd.int .u8) W A26 p4.length p4) (h5 : Kd.C (Kd.int .u8) W A29 p5.length p5) (hl : p0.length + (p1.length + (p2.length + (p3.length + (p4.length + p5.length)))) ≤ 1000000000) :
    Calls Try.prog 21 #[.slice (some ⟨g, 0, none⟩) 7 7] W fun z w' => ∃ A c, z = .returned (.slice A (magic ++ (p0 ++ (p1 ++ (p2 ++ (p3 ++ (p4 ++ p5)))))).length c) ∧ (Ow (Kd.int .u8) 5 A c (magic ++ (p0 ++ (p1 ++ (p2 ++ (p3 ++ (p4 ++ p5))))))).pred w' ∧ (∀ k, (Ow (Kd.int .u8) 5 A c (magic ++ (p0 ++ (p1 ++ (p2 ++ (p3 ++ (p4 ++ p5))))))).foot k → W.heap.size ≤ k) ∧ Below W.heap.size W w' := by
  have e : fl [(some ⟨g10, 0, none⟩, 4, magic), (A14, c14, p0), (A17, c17, p1), (A20, c20, p2), (A23, c23, p3), (A26, c26, p4), (A29, c29, p5)] = magic ++ (p0 ++ (p1 ++ (p2 ++ (p3 ++ (p4 ++ p5))))) := by simp [fl]
  have et : tl [(some ⟨g10, 0, none⟩, 4, magic), (A14, c14, p0), (A17, c17, p1), (A20, c20, p2), (A23, c23, p3), (A26, c26, p4), (A29, c29, p5)] = 4 + (p0.length + (p1.length + (p2.length + (p3.length + (p4.length + p5.length))))) := by simp [tl, magic]
  have c_ := concat_calls g 7 7 [(some ⟨g10, 0, none⟩, 4, magic), (A14, c14, p0), (A17, c17, p1), (A20, c20, p2), (A23, c23, p3), (A26, c26, p4), (A29, c29, p5)] rfl (by decide) _ et (by omega) (by omega) W (fun i hi => by
    match i, hi with
    | 0, _ => exact ⟨has_row hv 0 _ rfl, hm⟩
    | 1, _ => exact ⟨has_row hv 1 _ rfl, h0⟩
    | 2, _ => exact ⟨has_row hv 2 _ rfl, h1⟩
    | 3, _ => exact ⟨has_row hv 3 _ rfl, h2⟩
    | 4, _ => exact ⟨has_row hv 4 _ rfl, h3⟩
    | 5, _ => exact ⟨has_row hv 5 _ rfl, h4⟩
    | 6, _ => exact ⟨has_row hv 6 _ rfl, h5⟩)
  rw [e] at c_
  exact c_
/-- Within all bounds. -/
structure Okm (nm : ByteArray) (ex im : List ByteArray) (co da : List Int) (re : List S50) : Prop where
  nex : ex.length ≤ 8
  nim : im.length ≤ 16
  nre : re.length ≤ 256
  nco : co.length ≤ 512
  nda : da.length ≤ 128
  nnm : nm.size ≤ 96
  exs : ∀ s ∈ ex, s.size ≤ 96
  ims : ∀ s ∈ im, s.size ≤ 96
  res : ∀ r ∈ re, r.f0 ≤ 7
theorem chk_ok {nm : ByteArray} {ex im : List ByteArray} {co da : List Int} {re : List S50} (h : chk nm ex im co da re = 0) : Okm nm ex im co da re := by
  unfold chk at h
  have five : ¬ ((5 : Int) = 0) := by decide
  have two : ¬ ((2 : Int) = 0) := by decide
  split at h; exact absurd h five
  split at h; exact absurd h five
  split at h; exact absurd h five
  split at h; exact absurd h five
  split at h; exact absurd h five
  split at h; exact absurd h five
  split at h; exact absurd h five
  split at h; exact absurd h five
  split at h; exact absurd h two
  rename_i h1 h2 h3 h4 h5 h6 h7 h8 h9
  simp only [decide_eq_true_eq, longS, badR, List.any_eq_true, not_exists, not_and] at *
  exact ⟨by omega, by omega, by omega, by omega, by omega, by omega, fun s hs => by have := h7 s hs; omega, fun s hs => by have := h8 s hs; omega, fun r hr => by have := h9 r hr; omega⟩
theorem flat_le {α : Type} (f : α → List Int) (b : Nat) : ∀ (l : List α), (∀ x ∈ l, (f x).length ≤ b) → (l.flatMap f).length ≤ l.length * b
  | [], _ => by simp
  | x :: r, h => by
    have h1 := h x List.mem_cons_self
    have h2 := flat_le f b r (fun y hy => h y (List.mem_cons_of_mem _ hy))
    simp only [List.flatMap_cons, List.length_append, List.length_cons, Nat.succ_mul]
    omega
theorem texts_le (l : List ByteArray) (hl : l.length ≤ 16) (h : ∀ s ∈ l, s.size ≤ 96) : (texts l).length ≤ 40000 := by
  unfold texts
  have h1 := (num_len (l.length : Int)).2
  have h2 := flat_le txt 2000 l (fun x hx => txt_len x (by have := h x hx; omega))
  rw [List.length_append]
  omega
theorem rels_le (l : List S50) (hl : l.length ≤ 256) : (rels l).length ≤ 1000000 := by
  unfold rels
  have h1 := (num_len (l.length : Int)).2
  have h2 := flat_le lr 2000 l (fun x hx => lr_len x)
  rw [List.length_append]
  omega
theorem wds_le (l : List Int) (hl : l.length ≤ 512) : (wds l).length ≤ 5000 := by
  unfold wds
  have h1 := (num_len ((l.length : Int) % 4294967296)).2
  rw [List.length_append, flat_len]
  omega
theorem put_no (nm : ByteArray) (Aex : Option Addr) (cex : Nat) (ex : List ByteArray) (Aim : Option Addr) (cim : Nat) (im : List ByteArray) (Aco : Option Addr) (cco : Nat) (co : List Int) (Ada : Option Addr) (cda : Nat) (da : List Int) (Are : Option Addr) (cre : Nat) (re : List S50) (w : World) (h : Md w nm Aex cex ex Aim cim im Aco cco co Ada cda da Are cre re) (f : Int) (hf : chk nm ex im co da re = f) (hne : (f != 0) = true) :
    Calls Try.prog 12 #[.agg #[.string nm, .slice Aex ex.length cex, .slice Aim im.length cim, .slice Aco co.length cco, .slice Ada da.length cda, .slice Are re.length cre]] w fun z w' => z = .returned (.tuple #[.slice none 0 0, .int .i64 f]) ∧ Below w.heap.size w w' := by
  have S := Aside0.mk (St.start w)
  have HM := Aside0.mk h
  have HF := Aside0.mk hf
  clear h hf
  go_enter Try.func12, Try.ntmps12
  go_wp2_with (first | (refine ev_owns (vs := [_, _, _, _, _, _]) S ?_ rfl m26 rfl (by repeat (first | exact Spot.here _ _ | apply Spot.there)) (by exact rfl) ?_; (first | exact want0 rfl | exact want1 rfl rfl rfl rfl)) | ((with_reducible refine gate_dst (N := 1) rfl ?_); refine ev_boxs S ?_ 1 rfl rfl rfl ?_; (first | exact want0 rfl | exact want1 rfl rfl rfl rfl); intro g1 w1 S_; clear S; have S := S_; clear S_) | (refine ev_owns (vs := [_, _, _, _, _, _]) S ?_ rfl m26 rfl (by repeat (first | exact Spot.here _ _ | apply Spot.there)) (by exact rfl) ?_; (first | exact want0 rfl | exact want1 rfl rfl rfl rfl)) | (refine ev_own1 S ?_ rfl o9 rfl (by repeat (first | exact Spot.here _ _ | apply Spot.there)) (by exact rfl) ?_; (first | exact want0 rfl | exact want1 rfl rfl rfl rfl)) | (refine ev_own1 S ?_ rfl o22 rfl (by repeat (first | exact Spot.here _ _ | apply Spot.there)) (by exact rfl) ?_; (first | exact want0 rfl | exact want1 rfl rfl rfl rfl)) | (refine ev_own1 S ?_ rfl o23 rfl (by repeat (first | exact Spot.here _ _ | apply Spot.there)) (by exact rfl) ?_; (first | exact want0 rfl | exact want1 rfl rfl rfl rfl)) | (refine ev_own1 S ?_ rfl o24 rfl (by repeat (first | exact Spot.here _ _ | apply Spot.there)) (by exact rfl) ?_; (first | exact want0 rfl | exact want1 rfl rfl rfl rfl)) | (go_at_call 14; (with_reducible refine (check_calls nm Aex cex ex Aim cim im Aco cco co Ada cda da Are cre re _ ⟨Kd.C_below HM.out.r1 S.out.below, HM.out.l1, Kd.C_below HM.out.r2 S.out.below, HM.out.l2, Kd.C_below HM.out.r3 S.out.below, HM.out.l3, Kd.C_below HM.out.r4 S.out.below, HM.out.l4, Kd.C_below HM.out.r5 S.out.below, HM.out.l5⟩).mono ?_); rintro z_ w_ ⟨rfl, hb_⟩; rw [HF.out]; have hb2_ := hb_; have S_ := Aside0.mk (S.out.keep hb2_); clear hb2_ hb_; clear S; have S := S_; clear S_))
  refine retN (rs := [.tmp 2, .tmp 3]) rfl rfl ?_ (.tmp (.tmp .nil)) ?_
  · simp
  exact ⟨rfl, S.out.below⟩
set_option maxRecDepth 100000 in
set_option maxHeartbeats 16000000 in
theorem put_ok (nm : ByteArray) (Aex : Option Addr) (cex : Nat) (ex : List ByteArray) (Aim : Option Addr) (cim : Nat) (im : List ByteArray) (Aco : Option Addr) (cco : Nat) (co : List Int) (Ada : Option Addr) (cda : Nat) (da : List Int) (Are : Option Addr) (cre : Nat) (re : List S50) (w : World) (h : Md w nm Aex cex ex Aim cim im Aco cco co Ada cda da Are cre re) (f : Int) (hf : chk nm ex im co da re = f) (hne : (f != 0) = false) :
    Calls Try.prog 12 #[.agg #[.string nm, .slice Aex ex.length cex, .slice Aim im.length cim, .slice Aco co.length cco, .slice Ada da.length cda, .slice Are re.length cre]] w fun z w' => ∃ A c, z = .returned (.tuple #[.slice A (enc nm ex im co da re).length c, .int .i64 0]) ∧ (Ow (Kd.int .u8) 5 A c (enc nm ex im co da re)).pred w' ∧ (∀ k, (Ow (Kd.int .u8) 5 A c (enc nm ex im co da re)).foot k → w.heap.size ≤ k) ∧ Below w.heap.size w w' := by
  have S := Aside0.mk (St.start w)
  have HM := Aside0.mk h
  have HO := Aside0.mk (chk_ok (hf.trans (by simpa using hne)))
  have HF := Aside0.mk hf
  unfold enc
  have hp0 := text_up nm (by have := HO.out.nnm; omega) (Nat.le_refl 5)
  have hp3 := words_up co (by have := HO.out.nco; omega) (Nat.le_refl (co.length + 7))
  have hp4 := words_up da (by have := HO.out.nda; omega) (Nat.le_refl (da.length + 7))
  have hl0 := txt_len nm (by have := HO.out.nnm; omega)
  have hl1 := texts_le ex (by have := HO.out.nex; omega) HO.out.exs
  have hl2 := texts_le im HO.out.nim HO.out.ims
  have hl3 := wds_le co HO.out.nco
  have hl4 := wds_le da (by have := HO.out.nda; omega)
  have hl5 := rels_le re HO.out.nre
  obtain ⟨p0, e0⟩ : ∃ l, txt nm = l := ⟨_, rfl⟩
  obtain ⟨p1, e1⟩ : ∃ l, texts ex = l := ⟨_, rfl⟩
  obtain ⟨p2, e2⟩ : ∃ l, texts im = l := ⟨_, rfl⟩
  obtain ⟨p3, e3⟩ : ∃ l, wds co = l := ⟨_, rfl⟩
  obtain ⟨p4, e4⟩ : ∃ l, wds da = l := ⟨_, rfl⟩
  obtain ⟨p5, e5⟩ : ∃ l, rels re = l := ⟨_, rfl⟩
  rw [e0] at hp0 hl0 ⊢
  rw [e1] at hl1 ⊢
  rw [e2] at hl2 ⊢
  rw [e3] at hp3 hl3 ⊢
  rw [e4] at hp4 hl4 ⊢
  rw [e5] at hl5 ⊢
  have HP0 := Aside0.mk hp0
  have HP1 := Aside0.mk e1
  have HP2 := Aside0.mk e2
  have HP3 := Aside0.mk hp3
  have HP4 := Aside0.mk hp4
  have HP5 := Aside0.mk e5
  have HL := Aside0.mk (show p0.length + (p1.length + (p2.length + (p3.length + (p4.length + p5.length)))) ≤ 1000000000 by omega)
  clear h hf hp0 hp3 hp4 hl0 hl1 hl2 hl3 hl4 hl5 e0 e1 e2 e3 e4 e5
  go_enter Try.func12, Try.ntmps12
  go_wp2_with (first | (refine ev_owns (vs := [_, _, _, _, _, _]) S ?_ rfl m26 rfl (by repeat (first | exact Spot.here _ _ | apply Spot.there)) (by exact rfl) ?_; (first | exact want0 rfl | exact want1 rfl rfl rfl rfl)) | ((with_reducible refine gate_dst (N := 1) rfl ?_); refine ev_boxs S ?_ 1 rfl rfl rfl ?_; (first | exact want0 rfl | exact want1 rfl rfl rfl rfl); intro g1 w1 S_; clear S; have S := S_; clear S_) | (refine ev_owns (vs := [_, _, _, _, _, _]) S ?_ rfl m26 rfl (by repeat (first | exact Spot.here _ _ | apply Spot.there)) (by exact rfl) ?_; (first | exact want0 rfl | exact want1 rfl rfl rfl rfl)) | (refine ev_own1 S ?_ rfl o9 rfl (by repeat (first | exact Spot.here _ _ | apply Spot.there)) (by exact rfl) ?_; (first | exact want0 rfl | exact want1 rfl rfl rfl rfl)) | (refine ev_own1 S ?_ rfl o22 rfl (by repeat (first | exact Spot.here _ _ | apply Spot.there)) (by exact rfl) ?_; (first | exact want0 rfl | exact want1 rfl rfl rfl rfl)) | (refine ev_own1 S ?_ rfl o23 rfl (by repeat (first | exact Spot.here _ _ | apply Spot.there)) (by exact rfl) ?_; (first | exact want0 rfl | exact want1 rfl rfl rfl rfl)) | (refine ev_own1 S ?_ rfl o24 rfl (by repeat (first | exact Spot.here _ _ | apply Spot.there)) (by exact rfl) ?_; (first | exact want0 rfl | exact want1 rfl rfl rfl rfl)) | (go_at_call 14; (with_reducible refine (check_calls nm Aex cex ex Aim cim im Aco cco co Ada cda da Are cre re _ ⟨Kd.C_below HM.out.r1 S.out.below, HM.out.l1, Kd.C_below HM.out.r2 S.out.below, HM.out.l2, Kd.C_below HM.out.r3 S.out.below, HM.out.l3, Kd.C_below HM.out.r4 S.out.below, HM.out.l4, Kd.C_below HM.out.r5 S.out.below, HM.out.l5⟩).mono ?_); rintro z_ w_ ⟨rfl, hb_⟩; rw [HF.out]; have hb2_ := hb_; have S_ := Aside0.mk (S.out.keep hb2_); clear hb2_ hb_; clear S; have S := S_; clear S_))
  have HC0 := Aside0.mk ((own_cell (g := g1) S (by repeat (first | exact Spot.here _ _ | apply Spot.there)) 0).trans rfl)
  have HC1 := Aside0.mk ((own_cell (g := g1) S (by repeat (first | exact Spot.here _ _ | apply Spot.there)) 1).trans rfl)
  have HC2 := Aside0.mk ((own_cell (g := g1) S (by repeat (first | exact Spot.here _ _ | apply Spot.there)) 2).trans rfl)
  have HC3 := Aside0.mk ((own_cell (g := g1) S (by repeat (first | exact Spot.here _ _ | apply Spot.there)) 3).trans rfl)
  have HC4 := Aside0.mk ((own_cell (g := g1) S (by repeat (first | exact Spot.here _ _ | apply Spot.there)) 4).trans rfl)
  have HC5 := Aside0.mk ((own_cell (g := g1) S (by repeat (first | exact Spot.here _ _ | apply Spot.there)) 5).trans rfl)
  have HS := Aside0.mk S.out.below
  obtain ⟨w1, hw1⟩ : ∃ w1, w1 = w_ := ⟨_, rfl⟩
  subst hw1
  clear S
  have R2 := Aside0.mk (Rs.start w1)
  refine start_ (n := 24) (S := fun w' => w'.cell? ⟨g1, 0, none⟩ = some (.string nm) ∧ w'.cell? ⟨g1, 1, none⟩ = some (.slice Aex ex.length cex) ∧ w'.cell? ⟨g1, 2, none⟩ = some (.slice Aim im.length cim) ∧ w'.cell? ⟨g1, 3, none⟩ = some (.slice Aco co.length cco) ∧ w'.cell? ⟨g1, 4, none⟩ = some (.slice Ada da.length cda) ∧ w'.cell? ⟨g1, 5, none⟩ = some (.slice Are re.length cre)) (ds := []) #[false, false, false, false, false, false, false, false, false, false, false, false, false, false, false, false, false, false, false, false, false, false, false, false] (by kernel_rfl) rfl rfl ⟨(R2.out.cell HC0.out), (R2.out.cell HC1.out), (R2.out.cell HC2.out), (R2.out.cell HC3.out), (R2.out.cell HC4.out), (R2.out.cell HC5.out)⟩ (fun hHeld => ?_)
  refine pure_ (i := 2) (N := some 12) (v := ?_) (a' := ?_) #[false, false, true, false, false, false, false, false, false, false, false, false, false, false, false, false, false, false, false, false, false, false, false, false] rfl rfl (by kernel_rfl) (fun _ _ _ h => h) (Or.inl ⟨by rfl, ?_⟩) ?_ ?_
  rotate_left
  · intro w'
    go_simp
    with_reducible rfl
  rotate_left
  · simp only [Act.put, List.setIfInBounds_toArray, List.set_cons_zero, List.set_cons_succ, i64_w, i32_w]
    rfl
  refine pure_ (i := 5) (N := some 15) (v := ?_) (a' := ?_) #[false, false, true, false, false, true, false, false, false, false, false, false, false, false, false, false, false, false, false, false, false, false, false, false] rfl rfl (by kernel_rfl) (fun _ _ _ h => h) (Or.inl ⟨by rfl, ?_⟩) ?_ ?_
  rotate_left
  · intro w'
    go_simp
    with_reducible rfl
  rotate_left
  · simp only [Act.put, List.setIfInBounds_toArray, List.set_cons_zero, List.set_cons_succ, i64_w, i32_w]
    rfl
  refine pure_ (i := 8) (N := some 18) (v := ?_) (a' := ?_) #[false, false, true, false, false, true, false, false, true, false, false, false, false, false, false, false, false, false, false, false, false, false, false, false] rfl rfl (by kernel_rfl) (fun _ _ _ h => h) (Or.inl ⟨by rfl, ?_⟩) ?_ ?_
  rotate_left
  · intro w'
    go_simp
    with_reducible rfl
  rotate_left
  · simp only [Act.put, List.setIfInBounds_toArray, List.set_cons_zero, List.set_cons_succ, i64_w, i32_w]
    rfl
  refine pure_ (i := 11) (N := some 21) (v := ?_) (a' := ?_) #[false, false, true, false, false, true, false, false, true, false, false, true, false, false, false, false, false, false, false, false, false, false, false, false] rfl rfl (by kernel_rfl) (fun _ _ _ h => h) (Or.inl ⟨by rfl, ?_⟩) ?_ ?_
  rotate_left
  · intro w'
    go_simp
    with_reducible rfl
  rotate_left
  · simp only [Act.put, List.setIfInBounds_toArray, List.set_cons_zero, List.set_cons_succ, i64_w, i32_w]
    rfl
  refine pure_ (i := 14) (N := some 24) (v := ?_) (a' := ?_) #[false, false, true, false, false, true, false, false, true, false, false, true, false, false, true, false, false, false, false, false, false, false, false, false] rfl rfl (by kernel_rfl) (fun _ _ _ h => h) (Or.inl ⟨by rfl, ?_⟩) ?_ ?_
  rotate_left
  · intro w'
    go_simp
    with_reducible rfl
  rotate_left
  · simp only [Act.put, List.setIfInBounds_toArray, List.set_cons_zero, List.set_cons_succ, i64_w, i32_w]
    rfl
  refine pure_ (i := 17) (N := some 27) (v := ?_) (a' := ?_) #[false, false, true, false, false, true, false, false, true, false, false, true, false, false, true, false, false, true, false, false, false, false, false, false] rfl rfl (by kernel_rfl) (fun _ _ _ h => h) (Or.inl ⟨by rfl, ?_⟩) ?_ ?_
  rotate_left
  · intro w'
    go_simp
    with_reducible rfl
  rotate_left
  · simp only [Act.put, List.setIfInBounds_toArray, List.set_cons_zero, List.set_cons_succ, i64_w, i32_w]
    rfl
  refine take_ (i := 3) (N := some 13) (v := ?_) (a' := ?_) #[false, false, true, true, false, true, false, false, true, false, false, true, false, false, true, false, false, true, false, false, false, false, false, false] rfl rfl (by kernel_rfl) (fun _ _ _ h => h) (Or.inl ⟨by rfl, ?_⟩) hHeld ?_ ?_
  rotate_left
  · rintro w' ⟨s0, s1, s2, s3, s4, s5⟩
    go_simp
    with_reducible rfl
  rotate_left
  · simp only [Act.put, List.setIfInBounds_toArray, List.set_cons_zero, List.set_cons_succ, i64_w, i32_w]
    rfl
  refine take_ (i := 6) (N := some 16) (v := ?_) (a' := ?_) #[false, false, true, true, false, true, true, false, true, false, false, true, false, false, true, false, false, true, false, false, false, false, false, false] rfl rfl (by kernel_rfl) (fun _ _ _ h => h) (Or.inl ⟨by rfl, ?_⟩) hHeld ?_ ?_
  rotate_left
  · rintro w' ⟨s0, s1, s2, s3, s4, s5⟩
    go_simp
    with_reducible rfl
  rotate_left
  · simp only [Act.put, List.setIfInBounds_toArray, List.set_cons_zero, List.set_cons_succ, i64_w, i32_w]
    rfl
  refine take_ (i := 9) (N := some 19) (v := ?_) (a' := ?_) #[false, false, true, true, false, true, true, false, true, true, false, true, false, false, true, false, false, true, false, false, false, false, false, false] rfl rfl (by kernel_rfl) (fun _ _ _ h => h) (Or.inl ⟨by rfl, ?_⟩) hHeld ?_ ?_
  rotate_left
  · rintro w' ⟨s0, s1, s2, s3, s4, s5⟩
    go_simp
    with_reducible rfl
  rotate_left
  · simp only [Act.put, List.setIfInBounds_toArray, List.set_cons_zero, List.set_cons_succ, i64_w, i32_w]
    rfl
  refine take_ (i := 12) (N := some 22) (v := ?_) (a' := ?_) #[false, false, true, true, false, true, true, false, true, true, false, true, true, false, true, false, false, true, false, false, false, false, false, false] rfl rfl (by kernel_rfl) (fun _ _ _ h => h) (Or.inl ⟨by rfl, ?_⟩) hHeld ?_ ?_
  rotate_left
  · rintro w' ⟨s0, s1, s2, s3, s4, s5⟩
    go_simp
    with_reducible rfl
  rotate_left
  · simp only [Act.put, List.setIfInBounds_toArray, List.set_cons_zero, List.set_cons_succ, i64_w, i32_w]
    rfl
  refine take_ (i := 15) (N := some 25) (v := ?_) (a' := ?_) #[false, false, true, true, false, true, true, false, true, true, false, true, true, false, true, true, false, true, false, false, false, false, false, false] rfl rfl (by kernel_rfl) (fun _ _ _ h => h) (Or.inl ⟨by rfl, ?_⟩) hHeld ?_ ?_
  rotate_left
  · rintro w' ⟨s0, s1, s2, s3, s4, s5⟩
    go_simp
    with_reducible rfl
  rotate_left
  · simp only [Act.put, List.setIfInBounds_toArray, List.set_cons_zero, List.set_cons_succ, i64_w, i32_w]
    rfl
  refine take_ (i := 18) (N := some 28) (v := ?_) (a' := ?_) #[false, false, true, true, false, true, true, false, true, true, false, true, true, false, true, true, false, true, true, false, false, false, false, false] rfl rfl (by kernel_rfl) (fun _ _ _ h => h) (Or.inl ⟨by rfl, ?_⟩) hHeld ?_ ?_
  rotate_left
  · rintro w' ⟨s0, s1, s2, s3, s4, s5⟩
    go_simp
    with_reducible rfl
  rotate_left
  · simp only [Act.put, List.setIfInBounds_toArray, List.set_cons_zero, List.set_cons_succ, i64_w, i32_w]
    rfl
  refine join_ (σ := Nat × (Option Addr × Nat) × (Option Addr × Nat) × (Option Addr × Nat) × (Option Addr × Nat) × (Option Addr × Nat) × (Option Addr × Nat)) 4 #[true, true, true, true, true, true, true, true, true, true, true, true, true, true, true, true, true, true, true, true, false, false, false, false] (fun s => [(10, .slice (some ⟨s.1, 0, none⟩) 4 4), (11, .slice (some ⟨s.1, 0, none⟩) 4 4), (14, .slice s.2.1.1 p0.length s.2.1.2), (17, .slice s.2.2.1.1 p1.length s.2.2.1.2), (20, .slice s.2.2.2.1.1 p2.length s.2.2.2.1.2), (23, .slice s.2.2.2.2.1.1 p3.length s.2.2.2.2.1.2), (26, .slice s.2.2.2.2.2.1.1 p4.length s.2.2.2.2.2.1.2), (29, .slice s.2.2.2.2.2.2.1 p5.length s.2.2.2.2.2.2.2)]) (fun s w' => w1.heap.size ≤ s.1 ∧ Aside0 (Rs w1.heap.size w1 w' [(some ⟨s.1, 0, none⟩, 4, magic), (s.2.1.1, s.2.1.2, p0), (s.2.2.1.1, s.2.2.1.2, p1), (s.2.2.2.1.1, s.2.2.2.1.2, p2), (s.2.2.2.2.1.1, s.2.2.2.2.1.2, p3), (s.2.2.2.2.2.1.1, s.2.2.2.2.2.1.2, p4), (s.2.2.2.2.2.2.1, s.2.2.2.2.2.2.2, p5)])) ?_ ?_
  rotate_left
  · intro hJ0_1_4_7_10_13_16_19
    refine join_ (σ := Nat × (Option Addr × Nat) × (Option Addr × Nat) × (Option Addr × Nat) × (Option Addr × Nat) × (Option Addr × Nat)) 5 #[true, true, true, true, true, true, true, true, true, true, true, true, true, true, true, true, true, true, true, false, false, false, false, false] (fun s => [(10, .slice (some ⟨s.1, 0, none⟩) 4 4), (11, .slice (some ⟨s.1, 0, none⟩) 4 4), (14, .slice s.2.1.1 p0.length s.2.1.2), (17, .slice s.2.2.1.1 p1.length s.2.2.1.2), (20, .slice s.2.2.2.1.1 p2.length s.2.2.2.1.2), (23, .slice s.2.2.2.2.1.1 p3.length s.2.2.2.2.1.2), (26, .slice s.2.2.2.2.2.1 p4.length s.2.2.2.2.2.2)]) (fun s w' => w1.heap.size ≤ s.1 ∧ Aside0 (Rs w1.heap.size w1 w' [(some ⟨s.1, 0, none⟩, 4, magic), (s.2.1.1, s.2.1.2, p0), (s.2.2.1.1, s.2.2.1.2, p1), (s.2.2.2.1.1, s.2.2.2.1.2, p2), (s.2.2.2.2.1.1, s.2.2.2.2.1.2, p3), (s.2.2.2.2.2.1, s.2.2.2.2.2.2, p4)])) ?_ ?_
    rotate_left
    · intro hJ0_1_4_7_10_13_16
      refine join_ (σ := Nat × (Option Addr × Nat) × (Option Addr × Nat) × (Option Addr × Nat) × (Option Addr × Nat) × (Option Addr × Nat) × (Option Addr × Nat)) 5 #[true, false, true, true, true, true, true, true, true, true, true, true, true, true, true, true, true, true, true, true, false, false, false, false] (fun s => [(10, .slice (some ⟨s.1, 0, none⟩) 4 4), (14, .slice s.2.1.1 p0.length s.2.1.2), (17, .slice s.2.2.1.1 p1.length s.2.2.1.2), (20, .slice s.2.2.2.1.1 p2.length s.2.2.2.1.2), (23, .slice s.2.2.2.2.1.1 p3.length s.2.2.2.2.1.2), (26, .slice s.2.2.2.2.2.1.1 p4.length s.2.2.2.2.2.1.2), (29, .slice s.2.2.2.2.2.2.1 p5.length s.2.2.2.2.2.2.2)]) (fun s w' => w1.heap.size ≤ s.1 ∧ Aside0 (Rs w1.heap.size w1 w' [(some ⟨s.1, 0, none⟩, 4, magic), (s.2.1.1, s.2.1.2, p0), (s.2.2.1.1, s.2.2.1.2, p1), (s.2.2.2.1.1, s.2.2.2.1.2, p2), (s.2.2.2.2.1.1, s.2.2.2.2.1.2, p3), (s.2.2.2.2.2.1.1, s.2.2.2.2.2.1.2, p4), (s.2.2.2.2.2.2.1, s.2.2.2.2.2.2.2, p5)])) ?_ ?_
      rotate_left
      · intro hJ0_4_7_10_13_16_19
        refine join_ (σ := Nat × (Option Addr × Nat) × (Option Addr × Nat) × (Option Addr × Nat) × (Option Addr × Nat)) 6 #[true, true, true, true, true, true, true, true, true, true, true, true, true, true, true, true, false, true, true, false, false, false, false, false] (fun s => [(10, .slice (some ⟨s.1, 0, none⟩) 4 4), (11, .slice (some ⟨s.1, 0, none⟩) 4 4), (14, .slice s.2.1.1 p0.length s.2.1.2), (17, .slice s.2.2.1.1 p1.length s.2.2.1.2), (20, .slice s.2.2.2.1.1 p2.length s.2.2.2.1.2), (23, .slice s.2.2.2.2.1 p3.length s.2.2.2.2.2)]) (fun s w' => w1.heap.size ≤ s.1 ∧ Aside0 (Rs w1.heap.size w1 w' [(some ⟨s.1, 0, none⟩, 4, magic), (s.2.1.1, s.2.1.2, p0), (s.2.2.1.1, s.2.2.1.2, p1), (s.2.2.2.1.1, s.2.2.2.1.2, p2), (s.2.2.2.2.1, s.2.2.2.2.2, p3)])) ?_ ?_
        rotate_left
        · intro hJ0_1_4_7_10_13
          refine join_ (σ := Nat × (Option Addr × Nat) × (Option Addr × Nat) × (Option Addr × Nat) × (Option Addr × Nat) × (Option Addr × Nat)) 6 #[true, false, true, true, true, true, true, true, true, true, true, true, true, true, true, true, true, true, true, false, false, false, false, false] (fun s => [(10, .slice (some ⟨s.1, 0, none⟩) 4 4), (14, .slice s.2.1.1 p0.length s.2.1.2), (17, .slice s.2.2.1.1 p1.length s.2.2.1.2), (20, .slice s.2.2.2.1.1 p2.length s.2.2.2.1.2), (23, .slice s.2.2.2.2.1.1 p3.length s.2.2.2.2.1.2), (26, .slice s.2.2.2.2.2.1 p4.length s.2.2.2.2.2.2)]) (fun s w' => w1.heap.size ≤ s.1 ∧ Aside0 (Rs w1.heap.size w1 w' [(some ⟨s.1, 0, none⟩, 4, magic), (s.2.1.1, s.2.1.2, p0), (s.2.2.1.1, s.2.2.1.2, p1), (s.2.2.2.1.1, s.2.2.2.1.2, p2), (s.2.2.2.2.1.1, s.2.2.2.2.1.2, p3), (s.2.2.2.2.2.1, s.2.2.2.2.2.2, p4)])) ?_ ?_
          rotate_left
          · intro hJ0_4_7_10_13_16
            refine join_ (σ := (Option Addr × Nat) × (Option Addr × Nat) × (Option Addr × Nat) × (Option Addr × Nat) × (Option Addr × Nat) × (Option Addr × Nat)) 6 #[false, false, true, true, true, true, true, true, true, true, true, true, true, true, true, true, true, true, true, true, false, false, false, false] (fun s => [(14, .slice s.1.1 p0.length s.1.2), (17, .slice s.2.1.1 p1.length s.2.1.2), (20, .slice s.2.2.1.1 p2.length s.2.2.1.2), (23, .slice s.2.2.2.1.1 p3.length s.2.2.2.1.2), (26, .slice s.2.2.2.2.1.1 p4.length s.2.2.2.2.1.2), (29, .slice s.2.2.2.2.2.1 p5.length s.2.2.2.2.2.2)]) (fun s w' => Aside0 (Rs w1.heap.size w1 w' [(s.1.1, s.1.2, p0), (s.2.1.1, s.2.1.2, p1), (s.2.2.1.1, s.2.2.1.2, p2), (s.2.2.2.1.1, s.2.2.2.1.2, p3), (s.2.2.2.2.1.1, s.2.2.2.2.1.2, p4), (s.2.2.2.2.2.1, s.2.2.2.2.2.2, p5)])) ?_ ?_
            rotate_left
            · intro hJ4_7_10_13_16_19
              refine join_ (σ := Nat × (Option Addr × Nat) × (Option Addr × Nat) × (Option Addr × Nat)) 7 #[true, true, true, true, true, true, true, true, true, true, true, true, true, false, true, true, false, true, true, false, false, false, false, false] (fun s => [(10, .slice (some ⟨s.1, 0, none⟩) 4 4), (11, .slice (some ⟨s.1, 0, none⟩) 4 4), (14, .slice s.2.1.1 p0.length s.2.1.2), (17, .slice s.2.2.1.1 p1.length s.2.2.1.2), (20, .slice s.2.2.2.1 p2.length s.2.2.2.2)]) (fun s w' => w1.heap.size ≤ s.1 ∧ Aside0 (Rs w1.heap.size w1 w' [(some ⟨s.1, 0, none⟩, 4, magic), (s.2.1.1, s.2.1.2, p0), (s.2.2.1.1, s.2.2.1.2, p1), (s.2.2.2.1, s.2.2.2.2, p2)])) ?_ ?_
              rotate_left
              · intro hJ0_1_4_7_10
                refine join_ (σ := Nat × (Option Addr × Nat) × (Option Addr × Nat) × (Option Addr × Nat) × (Option Addr × Nat)) 7 #[true, false, true, true, true, true, true, true, true, true, true, true, true, true, true, true, false, true, true, false, false, false, false, false] (fun s => [(10, .slice (some ⟨s.1, 0, none⟩) 4 4), (14, .slice s.2.1.1 p0.length s.2.1.2), (17, .slice s.2.2.1.1 p1.length s.2.2.1.2), (20, .slice s.2.2.2.1.1 p2.length s.2.2.2.1.2), (23, .slice s.2.2.2.2.1 p3.length s.2.2.2.2.2)]) (fun s w' => w1.heap.size ≤ s.1 ∧ Aside0 (Rs w1.heap.size w1 w' [(some ⟨s.1, 0, none⟩, 4, magic), (s.2.1.1, s.2.1.2, p0), (s.2.2.1.1, s.2.2.1.2, p1), (s.2.2.2.1.1, s.2.2.2.1.2, p2), (s.2.2.2.2.1, s.2.2.2.2.2, p3)])) ?_ ?_
                rotate_left
                · intro hJ0_4_7_10_13
                  refine join_ (σ := (Option Addr × Nat) × (Option Addr × Nat) × (Option Addr × Nat) × (Option Addr × Nat) × (Option Addr × Nat)) 7 #[false, false, true, true, true, true, true, true, true, true, true, true, true, true, true, true, true, true, true, false, false, false, false, false] (fun s => [(14, .slice s.1.1 p0.length s.1.2), (17, .slice s.2.1.1 p1.length s.2.1.2), (20, .slice s.2.2.1.1 p2.length s.2.2.1.2), (23, .slice s.2.2.2.1.1 p3.length s.2.2.2.1.2), (26, .slice s.2.2.2.2.1 p4.length s.2.2.2.2.2)]) (fun s w' => Aside0 (Rs w1.heap.size w1 w' [(s.1.1, s.1.2, p0), (s.2.1.1, s.2.1.2, p1), (s.2.2.1.1, s.2.2.1.2, p2), (s.2.2.2.1.1, s.2.2.2.1.2, p3), (s.2.2.2.2.1, s.2.2.2.2.2, p4)])) ?_ ?_
                  rotate_left
                  · intro hJ4_7_10_13_16
                    refine join_ (σ := Nat × (Option Addr × Nat) × (Option Addr × Nat)) 8 #[true, true, true, true, true, true, true, true, true, true, false, true, true, false, true, true, false, true, true, false, false, false, false, false] (fun s => [(10, .slice (some ⟨s.1, 0, none⟩) 4 4), (11, .slice (some ⟨s.1, 0, none⟩) 4 4), (14, .slice s.2.1.1 p0.length s.2.1.2), (17, .slice s.2.2.1 p1.length s.2.2.2)]) (fun s w' => w1.heap.size ≤ s.1 ∧ Aside0 (Rs w1.heap.size w1 w' [(some ⟨s.1, 0, none⟩, 4, magic), (s.2.1.1, s.2.1.2, p0), (s.2.2.1, s.2.2.2, p1)])) ?_ ?_
                    rotate_left
                    · intro hJ0_1_4_7
                      refine join_ (σ := Nat × (Option Addr × Nat) × (Option Addr × Nat) × (Option Addr × Nat)) 8 #[true, false, true, true, true, true, true, true, true, true, true, true, true, false, true, true, false, true, true, false, false, false, false, false] (fun s => [(10, .slice (some ⟨s.1, 0, none⟩) 4 4), (14, .slice s.2.1.1 p0.length s.2.1.2), (17, .slice s.2.2.1.1 p1.length s.2.2.1.2), (20, .slice s.2.2.2.1 p2.length s.2.2.2.2)]) (fun s w' => w1.heap.size ≤ s.1 ∧ Aside0 (Rs w1.heap.size w1 w' [(some ⟨s.1, 0, none⟩, 4, magic), (s.2.1.1, s.2.1.2, p0), (s.2.2.1.1, s.2.2.1.2, p1), (s.2.2.2.1, s.2.2.2.2, p2)])) ?_ ?_
                      rotate_left
                      · intro hJ0_4_7_10
                        refine join_ (σ := (Option Addr × Nat) × (Option Addr × Nat) × (Option Addr × Nat) × (Option Addr × Nat)) 8 #[false, false, true, true, true, true, true, true, true, true, true, true, true, true, true, true, false, true, true, false, false, false, false, false] (fun s => [(14, .slice s.1.1 p0.length s.1.2), (17, .slice s.2.1.1 p1.length s.2.1.2), (20, .slice s.2.2.1.1 p2.length s.2.2.1.2), (23, .slice s.2.2.2.1 p3.length s.2.2.2.2)]) (fun s w' => Aside0 (Rs w1.heap.size w1 w' [(s.1.1, s.1.2, p0), (s.2.1.1, s.2.1.2, p1), (s.2.2.1.1, s.2.2.1.2, p2), (s.2.2.2.1, s.2.2.2.2, p3)])) ?_ ?_
                        rotate_left
                        · intro hJ4_7_10_13
                          refine join_ (σ := Nat × (Option Addr × Nat)) 9 #[true, true, true, true, true, true, true, false, true, true, false, true, true, false, true, true, false, true, true, false, false, false, false, false] (fun s => [(10, .slice (some ⟨s.1, 0, none⟩) 4 4), (11, .slice (some ⟨s.1, 0, none⟩) 4 4), (14, .slice s.2.1 p0.length s.2.2)]) (fun s w' => w1.heap.size ≤ s.1 ∧ Aside0 (Rs w1.heap.size w1 w' [(some ⟨s.1, 0, none⟩, 4, magic), (s.2.1, s.2.2, p0)])) ?_ ?_
                          rotate_left
                          · intro hJ0_1_4
                            refine join_ (σ := Nat × (Option Addr × Nat) × (Option Addr × Nat)) 9 #[true, false, true, true, true, true, true, true, true, true, false, true, true, false, true, true, false, true, true, false, false, false, false, false] (fun s => [(10, .slice (some ⟨s.1, 0, none⟩) 4 4), (14, .slice s.2.1.1 p0.length s.2.1.2), (17, .slice s.2.2.1 p1.length s.2.2.2)]) (fun s w' => w1.heap.size ≤ s.1 ∧ Aside0 (Rs w1.heap.size w1 w' [(some ⟨s.1, 0, none⟩, 4, magic), (s.2.1.1, s.2.1.2, p0), (s.2.2.1, s.2.2.2, p1)])) ?_ ?_
                            rotate_left
                            · intro hJ0_4_7
                              refine join_ (σ := (Option Addr × Nat) × (Option Addr × Nat) × (Option Addr × Nat)) 9 #[false, false, true, true, true, true, true, true, true, true, true, true, true, false, true, true, false, true, true, false, false, false, false, false] (fun s => [(14, .slice s.1.1 p0.length s.1.2), (17, .slice s.2.1.1 p1.length s.2.1.2), (20, .slice s.2.2.1 p2.length s.2.2.2)]) (fun s w' => Aside0 (Rs w1.heap.size w1 w' [(s.1.1, s.1.2, p0), (s.2.1.1, s.2.1.2, p1), (s.2.2.1, s.2.2.2, p2)])) ?_ ?_
                              rotate_left
                              · intro hJ4_7_10
                                refine join_ (σ := Nat) 10 #[true, true, true, true, false, true, true, false, true, true, false, true, true, false, true, true, false, true, true, false, false, false, false, false] (fun s => [(10, .slice (some ⟨s, 0, none⟩) 4 4), (11, .slice (some ⟨s, 0, none⟩) 4 4)]) (fun s w' => w1.heap.size ≤ s ∧ Aside0 (Rs w1.heap.size w1 w' [(some ⟨s, 0, none⟩, 4, magic)])) ?_ ?_
                                rotate_left
                                · intro hJ0_1
                                  refine join_ (σ := Nat × (Option Addr × Nat)) 10 #[true, false, true, true, true, true, true, false, true, true, false, true, true, false, true, true, false, true, true, false, false, false, false, false] (fun s => [(10, .slice (some ⟨s.1, 0, none⟩) 4 4), (14, .slice s.2.1 p0.length s.2.2)]) (fun s w' => w1.heap.size ≤ s.1 ∧ Aside0 (Rs w1.heap.size w1 w' [(some ⟨s.1, 0, none⟩, 4, magic), (s.2.1, s.2.2, p0)])) ?_ ?_
                                  rotate_left
                                  · intro hJ0_4
                                    refine join_ (σ := (Option Addr × Nat) × (Option Addr × Nat)) 10 #[false, false, true, true, true, true, true, true, true, true, false, true, true, false, true, true, false, true, true, false, false, false, false, false] (fun s => [(14, .slice s.1.1 p0.length s.1.2), (17, .slice s.2.1 p1.length s.2.2)]) (fun s w' => Aside0 (Rs w1.heap.size w1 w' [(s.1.1, s.1.2, p0), (s.2.1, s.2.2, p1)])) ?_ ?_
                                    rotate_left
                                    · intro hJ4_7
                                      refine join_ (σ := Nat) 11 #[true, false, true, true, false, true, true, false, true, true, false, true, true, false, true, true, false, true, true, false, false, false, false, false] (fun s => [(10, .slice (some ⟨s, 0, none⟩) 4 4)]) (fun s w' => w1.heap.size ≤ s ∧ Aside0 (Rs w1.heap.size w1 w' [(some ⟨s, 0, none⟩, 4, magic)])) ?_ ?_
                                      rotate_left
                                      · intro hJ0
                                        refine join_ (σ := (Option Addr × Nat)) 11 #[false, false, true, true, true, true, true, false, true, true, false, true, true, false, true, true, false, true, true, false, false, false, false, false] (fun s => [(14, .slice s.1 p0.length s.2)]) (fun s w' => Aside0 (Rs w1.heap.size w1 w' [(s.1, s.2, p0)])) ?_ ?_
                                        rotate_left
                                        · intro hJ4
                                          refine two_ (i := 0) (j := 4) (Ni := some 10) (Nj := some 14) #[true, false, true, true, false, true, true, false, true, true, false, true, true, false, true, true, false, true, true, false, false, false, false, false] #[false, false, true, true, true, true, true, false, true, true, false, true, true, false, true, true, false, true, true, false, false, false, false, false] rfl rfl rfl rfl (by kernel_rfl) (by decide) (by decide) (fun K hK => ?_) (fun K hK => ?_)
                                          · skip
                                            refine rs_lit magic (n := 4) rfl R2 (by rfl) 10 rfl (by first | (go_simp; done) | (go_simp; rfl)) (by simp) ?_
                                            intro g10 w10 hg10 R10
                                            refine hK.out _ _ ⟨(R10.out.cell HC0.out), (R10.out.cell HC1.out), (R10.out.cell HC2.out), (R10.out.cell HC3.out), (R10.out.cell HC4.out), (R10.out.cell HC5.out)⟩ (fun hHeld => ?_)
                                            clear hK K
                                            refine norm_ (a' := ?_) ?_ ?_
                                            rotate_left
                                            · show Act.put _ (some 10) _ = _
                                              simp only [Act.put, List.setIfInBounds_toArray, List.set_cons_zero, List.set_cons_succ, i64_w, i32_w]
                                              rfl
                                            exact norm_ (by first | (simp only [putAll, Act.put, List.setIfInBounds_toArray, List.set_cons_zero, List.set_cons_succ]; done) | (simp only [putAll, Act.put, List.setIfInBounds_toArray, List.set_cons_zero, List.set_cons_succ]; rfl)) (hJ0 g10 _ ⟨hg10, ⟨R10.out.perm (fun p hp => by simp only [List.mem_cons, List.not_mem_nil, or_false] at hp ⊢; rcases hp with rfl <;> simp)⟩⟩)
                                          · skip
                                            refine goes_ Try.func22 (by kernel_rfl) rfl #[.string nm] (by rfl) rfl rfl (by simp only [List.map_toArray, List.map_cons, List.map_nil]; rfl) ?_
                                            with_reducible refine (wire_Text.calls 5 nm p0 _ HP0.out).mono ?_
                                            rintro z9 w14 ⟨v0, rfl, hR, hb_⟩
                                            obtain ⟨A14, c14, rfl, _⟩ := Kd.R_reads hR
                                            have R14 := Aside0.mk (R2.out.addR hb_ hR)
                                            clear hR hb_
                                            refine ⟨_, rfl, ?_⟩
                                            refine hK.out _ _ ⟨(R14.out.cell HC0.out), (R14.out.cell HC1.out), (R14.out.cell HC2.out), (R14.out.cell HC3.out), (R14.out.cell HC4.out), (R14.out.cell HC5.out)⟩ (fun hHeld => ?_)
                                            clear hK K
                                            refine norm_ (a' := ?_) ?_ ?_
                                            rotate_left
                                            · show Act.put _ (some 14) _ = _
                                              simp only [Act.put, List.setIfInBounds_toArray, List.set_cons_zero, List.set_cons_succ, i64_w, i32_w]
                                              rfl
                                            exact norm_ (by first | (simp only [putAll, Act.put, List.setIfInBounds_toArray, List.set_cons_zero, List.set_cons_succ]; done) | (simp only [putAll, Act.put, List.setIfInBounds_toArray, List.set_cons_zero, List.set_cons_succ]; rfl)) (hJ4 (A14, c14) _ ⟨R14.out.perm (fun p hp => by simp only [List.mem_cons, List.not_mem_nil, or_false] at hp ⊢; rcases hp with rfl <;> simp)⟩)
                                        · skip
                                          rintro ⟨A14, c14⟩ w8 R8
                                          try simp only at R8
                                          have hHeld : w8.cell? ⟨g1, 0, none⟩ = some (.string nm) ∧ w8.cell? ⟨g1, 1, none⟩ = some (.slice Aex ex.length cex) ∧ w8.cell? ⟨g1, 2, none⟩ = some (.slice Aim im.length cim) ∧ w8.cell? ⟨g1, 3, none⟩ = some (.slice Aco co.length cco) ∧ w8.cell? ⟨g1, 4, none⟩ = some (.slice Ada da.length cda) ∧ w8.cell? ⟨g1, 5, none⟩ = some (.slice Are re.length cre) := ⟨(R8.out.cell HC0.out), (R8.out.cell HC1.out), (R8.out.cell HC2.out), (R8.out.cell HC3.out), (R8.out.cell HC4.out), (R8.out.cell HC5.out)⟩
                                          refine norm_ (a' := ?_) ?_ ?_
                                          rotate_left
                                          · simp only [putAll, Act.put, List.setIfInBounds_toArray, List.set_cons_zero, List.set_cons_succ]
                                            rfl
                                          refine two_ (i := 0) (j := 7) (Ni := some 10) (Nj := some 17) #[true, false, true, true, true, true, true, false, true, true, false, true, true, false, true, true, false, true, true, false, false, false, false, false] #[false, false, true, true, true, true, true, true, true, true, false, true, true, false, true, true, false, true, true, false, false, false, false, false] rfl rfl rfl rfl (by kernel_rfl) (by decide) (by decide) (fun K hK => ?_) (fun K hK => ?_)
                                          · skip
                                            refine rs_lit magic (n := 4) rfl R8 (by rfl) 10 rfl (by first | (go_simp; done) | (go_simp; rfl)) (by simp) ?_
                                            intro g10 w10 hg10 R10
                                            refine hK.out _ _ ⟨(R10.out.cell HC0.out), (R10.out.cell HC1.out), (R10.out.cell HC2.out), (R10.out.cell HC3.out), (R10.out.cell HC4.out), (R10.out.cell HC5.out)⟩ (fun hHeld => ?_)
                                            clear hK K
                                            refine norm_ (a' := ?_) ?_ ?_
                                            rotate_left
                                            · show Act.put _ (some 10) _ = _
                                              simp only [Act.put, List.setIfInBounds_toArray, List.set_cons_zero, List.set_cons_succ, i64_w, i32_w]
                                              rfl
                                            exact norm_ (by first | (simp only [putAll, Act.put, List.setIfInBounds_toArray, List.set_cons_zero, List.set_cons_succ]; done) | (simp only [putAll, Act.put, List.setIfInBounds_toArray, List.set_cons_zero, List.set_cons_succ]; rfl)) (hJ0_4 (g10, (A14, c14)) _ ⟨hg10, ⟨R10.out.perm (fun p hp => by simp only [List.mem_cons, List.not_mem_nil, or_false] at hp ⊢; rcases hp with rfl | rfl <;> simp)⟩⟩)
                                          · skip
                                            refine goes_ Try.func23 (by kernel_rfl) rfl #[.slice Aex ex.length cex, .func (.func 22) #[] #[]] (by rfl) rfl rfl (by simp only [List.map_toArray, List.map_cons, List.map_nil]; rfl) ?_
                                            with_reducible refine (layT_l Aex cex ex p1 HP1.out _ (Kd.C_below HM.out.r1 (HS.out.trans (R8.out.below.mono HS.out.size))) (by have := HO.out.nex; omega) (fun s hs => by have := HO.out.exs s hs; omega)).mono ?_
                                            rintro z9 w17 ⟨A17, c17, rfl, hO_, _, hb_⟩
                                            have R17 := Aside0.mk (R8.out.addO hb_ hO_)
                                            clear hO_ hb_
                                            refine ⟨_, rfl, ?_⟩
                                            refine hK.out _ _ ⟨(R17.out.cell HC0.out), (R17.out.cell HC1.out), (R17.out.cell HC2.out), (R17.out.cell HC3.out), (R17.out.cell HC4.out), (R17.out.cell HC5.out)⟩ (fun hHeld => ?_)
                                            clear hK K
                                            refine norm_ (a' := ?_) ?_ ?_
                                            rotate_left
                                            · show Act.put _ (some 17) _ = _
                                              simp only [Act.put, List.setIfInBounds_toArray, List.set_cons_zero, List.set_cons_succ, i64_w, i32_w]
                                              rfl
                                            exact norm_ (by first | (simp only [putAll, Act.put, List.setIfInBounds_toArray, List.set_cons_zero, List.set_cons_succ]; done) | (simp only [putAll, Act.put, List.setIfInBounds_toArray, List.set_cons_zero, List.set_cons_succ]; rfl)) (hJ4_7 ((A14, c14), (A17, c17)) _ ⟨R17.out.perm (fun p hp => by simp only [List.mem_cons, List.not_mem_nil, or_false] at hp ⊢; rcases hp with rfl | rfl <;> simp)⟩)
                                      · skip
                                        rintro g10 w8 ⟨hg10, R8⟩
                                        try simp only at R8
                                        try simp only at hg10
                                        have hHeld : w8.cell? ⟨g1, 0, none⟩ = some (.string nm) ∧ w8.cell? ⟨g1, 1, none⟩ = some (.slice Aex ex.length cex) ∧ w8.cell? ⟨g1, 2, none⟩ = some (.slice Aim im.length cim) ∧ w8.cell? ⟨g1, 3, none⟩ = some (.slice Aco co.length cco) ∧ w8.cell? ⟨g1, 4, none⟩ = some (.slice Ada da.length cda) ∧ w8.cell? ⟨g1, 5, none⟩ = some (.slice Are re.length cre) := ⟨(R8.out.cell HC0.out), (R8.out.cell HC1.out), (R8.out.cell HC2.out), (R8.out.cell HC3.out), (R8.out.cell HC4.out), (R8.out.cell HC5.out)⟩
                                        refine norm_ (a' := ?_) ?_ ?_
                                        rotate_left
                                        · simp only [putAll, Act.put, List.setIfInBounds_toArray, List.set_cons_zero, List.set_cons_succ]
                                          rfl
                                        refine two_ (i := 1) (j := 4) (Ni := some 11) (Nj := some 14) #[true, true, true, true, false, true, true, false, true, true, false, true, true, false, true, true, false, true, true, false, false, false, false, false] #[true, false, true, true, true, true, true, false, true, true, false, true, true, false, true, true, false, true, true, false, false, false, false, false] rfl rfl rfl rfl (by kernel_rfl) (by decide) (by decide) (fun K hK => ?_) (fun K hK => ?_)
                                        · skip
                                          refine rs_conv R8 (g := g10) (n := 4) (c := 4) (by rfl) 11 rfl rfl (by rfl) hg10 ?_
                                          intro w11 R11
                                          refine hK.out _ _ ⟨(R11.out.cell HC0.out), (R11.out.cell HC1.out), (R11.out.cell HC2.out), (R11.out.cell HC3.out), (R11.out.cell HC4.out), (R11.out.cell HC5.out)⟩ (fun hHeld => ?_)
                                          clear hK K
                                          refine norm_ (a' := ?_) ?_ ?_
                                          rotate_left
                                          · show Act.put _ (some 11) _ = _
                                            simp only [Act.put, List.setIfInBounds_toArray, List.set_cons_zero, List.set_cons_succ, i64_w, i32_w]
                                            rfl
                                          exact norm_ (by first | (simp only [putAll, Act.put, List.setIfInBounds_toArray, List.set_cons_zero, List.set_cons_succ]; done) | (simp only [putAll, Act.put, List.setIfInBounds_toArray, List.set_cons_zero, List.set_cons_succ]; rfl)) (hJ0_1 g10 _ ⟨hg10, ⟨R11.out.perm (fun p hp => by simp only [List.mem_cons, List.not_mem_nil, or_false] at hp ⊢; rcases hp with rfl <;> simp)⟩⟩)
                                        · skip
                                          refine goes_ Try.func22 (by kernel_rfl) rfl #[.string nm] (by rfl) rfl rfl (by simp only [List.map_toArray, List.map_cons, List.map_nil]; rfl) ?_
                                          with_reducible refine (wire_Text.calls 5 nm p0 _ HP0.out).mono ?_
                                          rintro z9 w14 ⟨v0, rfl, hR, hb_⟩
                                          obtain ⟨A14, c14, rfl, _⟩ := Kd.R_reads hR
                                          have R14 := Aside0.mk (R8.out.addR hb_ hR)
                                          clear hR hb_
                                          refine ⟨_, rfl, ?_⟩
                                          refine hK.out _ _ ⟨(R14.out.cell HC0.out), (R14.out.cell HC1.out), (R14.out.cell HC2.out), (R14.out.cell HC3.out), (R14.out.cell HC4.out), (R14.out.cell HC5.out)⟩ (fun hHeld => ?_)
                                          clear hK K
                                          refine norm_ (a' := ?_) ?_ ?_
                                          rotate_left
                                          · show Act.put _ (some 14) _ = _
                                            simp only [Act.put, List.setIfInBounds_toArray, List.set_cons_zero, List.set_cons_succ, i64_w, i32_w]
                                            rfl
                                          exact norm_ (by first | (simp only [putAll, Act.put, List.setIfInBounds_toArray, List.set_cons_zero, List.set_cons_succ]; done) | (simp only [putAll, Act.put, List.setIfInBounds_toArray, List.set_cons_zero, List.set_cons_succ]; rfl)) (hJ0_4 (g10, (A14, c14)) _ ⟨hg10, ⟨R14.out.perm (fun p hp => by simp only [List.mem_cons, List.not_mem_nil, or_false] at hp ⊢; rcases hp with rfl | rfl <;> simp)⟩⟩)
                                    · skip
                                      rintro ⟨⟨A14, c14⟩, ⟨A17, c17⟩⟩ w8 R8
                                      try simp only at R8
                                      have hHeld : w8.cell? ⟨g1, 0, none⟩ = some (.string nm) ∧ w8.cell? ⟨g1, 1, none⟩ = some (.slice Aex ex.length cex) ∧ w8.cell? ⟨g1, 2, none⟩ = some (.slice Aim im.length cim) ∧ w8.cell? ⟨g1, 3, none⟩ = some (.slice Aco co.length cco) ∧ w8.cell? ⟨g1, 4, none⟩ = some (.slice Ada da.length cda) ∧ w8.cell? ⟨g1, 5, none⟩ = some (.slice Are re.length cre) := ⟨(R8.out.cell HC0.out), (R8.out.cell HC1.out), (R8.out.cell HC2.out), (R8.out.cell HC3.out), (R8.out.cell HC4.out), (R8.out.cell HC5.out)⟩
                                      refine norm_ (a' := ?_) ?_ ?_
                                      rotate_left
                                      · simp only [putAll, Act.put, List.setIfInBounds_toArray, List.set_cons_zero, List.set_cons_succ]
                                        rfl
                                      refine two_ (i := 0) (j := 10) (Ni := some 10) (Nj := some 20) #[true, false, true, true, true, true, true, true, true, true, false, true, true, false, true, true, false, true, true, false, false, false, false, false] #[false, false, true, true, true, true, true, true, true, true, true, true, true, false, true, true, false, true, true, false, false, false, false, false] rfl rfl rfl rfl (by kernel_rfl) (by decide) (by decide) (fun K hK => ?_) (fun K hK => ?_)
                                      · skip
                                        refine rs_lit magic (n := 4) rfl R8 (by rfl) 10 rfl (by first | (go_simp; done) | (go_simp; rfl)) (by simp) ?_
                                        intro g10 w10 hg10 R10
                                        refine hK.out _ _ ⟨(R10.out.cell HC0.out), (R10.out.cell HC1.out), (R10.out.cell HC2.out), (R10.out.cell HC3.out), (R10.out.cell HC4.out), (R10.out.cell HC5.out)⟩ (fun hHeld => ?_)
                                        clear hK K
                                        refine norm_ (a' := ?_) ?_ ?_
                                        rotate_left
                                        · show Act.put _ (some 10) _ = _
                                          simp only [Act.put, List.setIfInBounds_toArray, List.set_cons_zero, List.set_cons_succ, i64_w, i32_w]
                                          rfl
                                        exact norm_ (by first | (simp only [putAll, Act.put, List.setIfInBounds_toArray, List.set_cons_zero, List.set_cons_succ]; done) | (simp only [putAll, Act.put, List.setIfInBounds_toArray, List.set_cons_zero, List.set_cons_succ]; rfl)) (hJ0_4_7 (g10, (A14, c14), (A17, c17)) _ ⟨hg10, ⟨R10.out.perm (fun p hp => by simp only [List.mem_cons, List.not_mem_nil, or_false] at hp ⊢; rcases hp with rfl | rfl | rfl <;> simp)⟩⟩)
                                      · skip
                                        refine goes_ Try.func23 (by kernel_rfl) rfl #[.slice Aim im.length cim, .func (.func 22) #[] #[]] (by rfl) rfl rfl (by simp only [List.map_toArray, List.map_cons, List.map_nil]; rfl) ?_
                                        with_reducible refine (layT_l Aim cim im p2 HP2.out _ (Kd.C_below HM.out.r2 (HS.out.trans (R8.out.below.mono HS.out.size))) (by have := HO.out.nim; omega) (fun s hs => by have := HO.out.ims s hs; omega)).mono ?_
                                        rintro z9 w20 ⟨A20, c20, rfl, hO_, _, hb_⟩
                                        have R20 := Aside0.mk (R8.out.addO hb_ hO_)
                                        clear hO_ hb_
                                        refine ⟨_, rfl, ?_⟩
                                        refine hK.out _ _ ⟨(R20.out.cell HC0.out), (R20.out.cell HC1.out), (R20.out.cell HC2.out), (R20.out.cell HC3.out), (R20.out.cell HC4.out), (R20.out.cell HC5.out)⟩ (fun hHeld => ?_)
                                        clear hK K
                                        refine norm_ (a' := ?_) ?_ ?_
                                        rotate_left
                                        · show Act.put _ (some 20) _ = _
                                          simp only [Act.put, List.setIfInBounds_toArray, List.set_cons_zero, List.set_cons_succ, i64_w, i32_w]
                                          rfl
                                        exact norm_ (by first | (simp only [putAll, Act.put, List.setIfInBounds_toArray, List.set_cons_zero, List.set_cons_succ]; done) | (simp only [putAll, Act.put, List.setIfInBounds_toArray, List.set_cons_zero, List.set_cons_succ]; rfl)) (hJ4_7_10 ((A14, c14), (A17, c17), (A20, c20)) _ ⟨R20.out.perm (fun p hp => by simp only [List.mem_cons, List.not_mem_nil, or_false] at hp ⊢; rcases hp with rfl | rfl | rfl <;> simp)⟩)
                                  · skip
                                    rintro ⟨g10, ⟨A14, c14⟩⟩ w8 ⟨hg10, R8⟩
                                    try simp only at R8
                                    try simp only at hg10
                                    have hHeld : w8.cell? ⟨g1, 0, none⟩ = some (.string nm) ∧ w8.cell? ⟨g1, 1, none⟩ = some (.slice Aex ex.length cex) ∧ w8.cell? ⟨g1, 2, none⟩ = some (.slice Aim im.length cim) ∧ w8.cell? ⟨g1, 3, none⟩ = some (.slice Aco co.length cco) ∧ w8.cell? ⟨g1, 4, none⟩ = some (.slice Ada da.length cda) ∧ w8.cell? ⟨g1, 5, none⟩ = some (.slice Are re.length cre) := ⟨(R8.out.cell HC0.out), (R8.out.cell HC1.out), (R8.out.cell HC2.out), (R8.out.cell HC3.out), (R8.out.cell HC4.out), (R8.out.cell HC5.out)⟩
                                    refine norm_ (a' := ?_) ?_ ?_
                                    rotate_left
                                    · simp only [putAll, Act.put, List.setIfInBounds_toArray, List.set_cons_zero, List.set_cons_succ]
                                      rfl
                                    refine two_ (i := 1) (j := 7) (Ni := some 11) (Nj := some 17) #[true, true, true, true, true, true, true, false, true, true, false, true, true, false, true, true, false, true, true, false, false, false, false, false] #[true, false, true, true, true, true, true, true, true, true, false, true, true, false, true, true, false, true, true, false, false, false, false, false] rfl rfl rfl rfl (by kernel_rfl) (by decide) (by decide) (fun K hK => ?_) (fun K hK => ?_)
                                    · skip
                                      refine rs_conv R8 (g := g10) (n := 4) (c := 4) (by rfl) 11 rfl rfl (by rfl) hg10 ?_
                                      intro w11 R11
                                      refine hK.out _ _ ⟨(R11.out.cell HC0.out), (R11.out.cell HC1.out), (R11.out.cell HC2.out), (R11.out.cell HC3.out), (R11.out.cell HC4.out), (R11.out.cell HC5.out)⟩ (fun hHeld => ?_)
                                      clear hK K
                                      refine norm_ (a' := ?_) ?_ ?_
                                      rotate_left
                                      · show Act.put _ (some 11) _ = _
                                        simp only [Act.put, List.setIfInBounds_toArray, List.set_cons_zero, List.set_cons_succ, i64_w, i32_w]
                                        rfl
                                      exact norm_ (by first | (simp only [putAll, Act.put, List.setIfInBounds_toArray, List.set_cons_zero, List.set_cons_succ]; done) | (simp only [putAll, Act.put, List.setIfInBounds_toArray, List.set_cons_zero, List.set_cons_succ]; rfl)) (hJ0_1_4 (g10, (A14, c14)) _ ⟨hg10, ⟨R11.out.perm (fun p hp => by simp only [List.mem_cons, List.not_mem_nil, or_false] at hp ⊢; rcases hp with rfl | rfl <;> simp)⟩⟩)
                                    · skip
                                      refine goes_ Try.func23 (by kernel_rfl) rfl #[.slice Aex ex.length cex, .func (.func 22) #[] #[]] (by rfl) rfl rfl (by simp only [List.map_toArray, List.map_cons, List.map_nil]; rfl) ?_
                                      with_reducible refine (layT_l Aex cex ex p1 HP1.out _ (Kd.C_below HM.out.r1 (HS.out.trans (R8.out.below.mono HS.out.size))) (by have := HO.out.nex; omega) (fun s hs => by have := HO.out.exs s hs; omega)).mono ?_
                                      rintro z9 w17 ⟨A17, c17, rfl, hO_, _, hb_⟩
                                      have R17 := Aside0.mk (R8.out.addO hb_ hO_)
                                      clear hO_ hb_
                                      refine ⟨_, rfl, ?_⟩
                                      refine hK.out _ _ ⟨(R17.out.cell HC0.out), (R17.out.cell HC1.out), (R17.out.cell HC2.out), (R17.out.cell HC3.out), (R17.out.cell HC4.out), (R17.out.cell HC5.out)⟩ (fun hHeld => ?_)
                                      clear hK K
                                      refine norm_ (a' := ?_) ?_ ?_
                                      rotate_left
                                      · show Act.put _ (some 17) _ = _
                                        simp only [Act.put, List.setIfInBounds_toArray, List.set_cons_zero, List.set_cons_succ, i64_w, i32_w]
                                        rfl
                                      exact norm_ (by first | (simp only [putAll, Act.put, List.setIfInBounds_toArray, List.set_cons_zero, List.set_cons_succ]; done) | (simp only [putAll, Act.put, List.setIfInBounds_toArray, List.set_cons_zero, List.set_cons_succ]; rfl)) (hJ0_4_7 (g10, (A14, c14), (A17, c17)) _ ⟨hg10, ⟨R17.out.perm (fun p hp => by simp only [List.mem_cons, List.not_mem_nil, or_false] at hp ⊢; rcases hp with rfl | rfl | rfl <;> simp)⟩⟩)
                                · skip
                                  rintro g10 w8 ⟨hg10, R8⟩
                                  try simp only at R8
                                  try simp only at hg10
                                  have hHeld : w8.cell? ⟨g1, 0, none⟩ = some (.string nm) ∧ w8.cell? ⟨g1, 1, none⟩ = some (.slice Aex ex.length cex) ∧ w8.cell? ⟨g1, 2, none⟩ = some (.slice Aim im.length cim) ∧ w8.cell? ⟨g1, 3, none⟩ = some (.slice Aco co.length cco) ∧ w8.cell? ⟨g1, 4, none⟩ = some (.slice Ada da.length cda) ∧ w8.cell? ⟨g1, 5, none⟩ = some (.slice Are re.length cre) := ⟨(R8.out.cell HC0.out), (R8.out.cell HC1.out), (R8.out.cell HC2.out), (R8.out.cell HC3.out), (R8.out.cell HC4.out), (R8.out.cell HC5.out)⟩
                                  refine norm_ (a' := ?_) ?_ ?_
                                  rotate_left
                                  · simp only [putAll, Act.put, List.setIfInBounds_toArray, List.set_cons_zero, List.set_cons_succ]
                                    rfl
                                  refine one_ (i := 4) (N := some 14) #[true, true, true, true, true, true, true, false, true, true, false, true, true, false, true, true, false, true, true, false, false, false, false, false] rfl rfl (by kernel_rfl) (by decide) (fun K hK => ?_)
                                  refine goes_ Try.func22 (by kernel_rfl) rfl #[.string nm] (by rfl) rfl rfl (by simp only [List.map_toArray, List.map_cons, List.map_nil]; rfl) ?_
                                  with_reducible refine (wire_Text.calls 5 nm p0 _ HP0.out).mono ?_
                                  rintro z9 w14 ⟨v0, rfl, hR, hb_⟩
                                  obtain ⟨A14, c14, rfl, _⟩ := Kd.R_reads hR
                                  have R14 := Aside0.mk (R8.out.addR hb_ hR)
                                  clear hR hb_
                                  refine ⟨_, rfl, ?_⟩
                                  refine hK.out _ _ ⟨(R14.out.cell HC0.out), (R14.out.cell HC1.out), (R14.out.cell HC2.out), (R14.out.cell HC3.out), (R14.out.cell HC4.out), (R14.out.cell HC5.out)⟩ (fun hHeld => ?_)
                                  clear hK K
                                  refine norm_ (a' := ?_) ?_ ?_
                                  rotate_left
                                  · show Act.put _ (some 14) _ = _
                                    simp only [Act.put, List.setIfInBounds_toArray, List.set_cons_zero, List.set_cons_succ, i64_w, i32_w]
                                    rfl
                                  exact norm_ (by first | (simp only [putAll, Act.put, List.setIfInBounds_toArray, List.set_cons_zero, List.set_cons_succ]; done) | (simp only [putAll, Act.put, List.setIfInBounds_toArray, List.set_cons_zero, List.set_cons_succ]; rfl)) (hJ0_1_4 (g10, (A14, c14)) _ ⟨hg10, ⟨R14.out.perm (fun p hp => by simp only [List.mem_cons, List.not_mem_nil, or_false] at hp ⊢; rcases hp with rfl | rfl <;> simp)⟩⟩)
                              · skip
                                rintro ⟨⟨A14, c14⟩, ⟨A17, c17⟩, ⟨A20, c20⟩⟩ w8 R8
                                try simp only at R8
                                have hHeld : w8.cell? ⟨g1, 0, none⟩ = some (.string nm) ∧ w8.cell? ⟨g1, 1, none⟩ = some (.slice Aex ex.length cex) ∧ w8.cell? ⟨g1, 2, none⟩ = some (.slice Aim im.length cim) ∧ w8.cell? ⟨g1, 3, none⟩ = some (.slice Aco co.length cco) ∧ w8.cell? ⟨g1, 4, none⟩ = some (.slice Ada da.length cda) ∧ w8.cell? ⟨g1, 5, none⟩ = some (.slice Are re.length cre) := ⟨(R8.out.cell HC0.out), (R8.out.cell HC1.out), (R8.out.cell HC2.out), (R8.out.cell HC3.out), (R8.out.cell HC4.out), (R8.out.cell HC5.out)⟩
                                refine norm_ (a' := ?_) ?_ ?_
                                rotate_left
                                · simp only [putAll, Act.put, List.setIfInBounds_toArray, List.set_cons_zero, List.set_cons_succ]
                                  rfl
                                refine two_ (i := 0) (j := 13) (Ni := some 10) (Nj := some 23) #[true, false, true, true, true, true, true, true, true, true, true, true, true, false, true, true, false, true, true, false, false, false, false, false] #[false, false, true, true, true, true, true, true, true, true, true, true, true, true, true, true, false, true, true, false, false, false, false, false] rfl rfl rfl rfl (by kernel_rfl) (by decide) (by decide) (fun K hK => ?_) (fun K hK => ?_)
                                · skip
                                  refine rs_lit magic (n := 4) rfl R8 (by rfl) 10 rfl (by first | (go_simp; done) | (go_simp; rfl)) (by simp) ?_
                                  intro g10 w10 hg10 R10
                                  refine hK.out _ _ ⟨(R10.out.cell HC0.out), (R10.out.cell HC1.out), (R10.out.cell HC2.out), (R10.out.cell HC3.out), (R10.out.cell HC4.out), (R10.out.cell HC5.out)⟩ (fun hHeld => ?_)
                                  clear hK K
                                  refine norm_ (a' := ?_) ?_ ?_
                                  rotate_left
                                  · show Act.put _ (some 10) _ = _
                                    simp only [Act.put, List.setIfInBounds_toArray, List.set_cons_zero, List.set_cons_succ, i64_w, i32_w]
                                    rfl
                                  exact norm_ (by first | (simp only [putAll, Act.put, List.setIfInBounds_toArray, List.set_cons_zero, List.set_cons_succ]; done) | (simp only [putAll, Act.put, List.setIfInBounds_toArray, List.set_cons_zero, List.set_cons_succ]; rfl)) (hJ0_4_7_10 (g10, (A14, c14), (A17, c17), (A20, c20)) _ ⟨hg10, ⟨R10.out.perm (fun p hp => by simp only [List.mem_cons, List.not_mem_nil, or_false] at hp ⊢; rcases hp with rfl | rfl | rfl | rfl <;> simp)⟩⟩)
                                · skip
                                  refine goes_ Try.func24 (by kernel_rfl) rfl #[.slice Aco co.length cco] (by rfl) rfl rfl (by simp only [List.map_toArray, List.map_cons, List.map_nil]; rfl) ?_
                                  with_reducible refine (wire_Words.calls (co.length + 7) Aco cco co p3 _ (Kd.C_below HM.out.r3 (HS.out.trans (R8.out.below.mono HS.out.size))) HM.out.l3 HP3.out).mono ?_
                                  rintro z9 w23 ⟨v0, rfl, hR, hb_⟩
                                  obtain ⟨A23, c23, rfl, _⟩ := Kd.R_reads hR
                                  have R23 := Aside0.mk (R8.out.addR hb_ hR)
                                  clear hR hb_
                                  refine ⟨_, rfl, ?_⟩
                                  refine hK.out _ _ ⟨(R23.out.cell HC0.out), (R23.out.cell HC1.out), (R23.out.cell HC2.out), (R23.out.cell HC3.out), (R23.out.cell HC4.out), (R23.out.cell HC5.out)⟩ (fun hHeld => ?_)
                                  clear hK K
                                  refine norm_ (a' := ?_) ?_ ?_
                                  rotate_left
                                  · show Act.put _ (some 23) _ = _
                                    simp only [Act.put, List.setIfInBounds_toArray, List.set_cons_zero, List.set_cons_succ, i64_w, i32_w]
                                    rfl
                                  exact norm_ (by first | (simp only [putAll, Act.put, List.setIfInBounds_toArray, List.set_cons_zero, List.set_cons_succ]; done) | (simp only [putAll, Act.put, List.setIfInBounds_toArray, List.set_cons_zero, List.set_cons_succ]; rfl)) (hJ4_7_10_13 ((A14, c14), (A17, c17), (A20, c20), (A23, c23)) _ ⟨R23.out.perm (fun p hp => by simp only [List.mem_cons, List.not_mem_nil, or_false] at hp ⊢; rcases hp with rfl | rfl | rfl | rfl <;> simp)⟩)
                            · skip
                              rintro ⟨g10, ⟨A14, c14⟩, ⟨A17, c17⟩⟩ w8 ⟨hg10, R8⟩
                              try simp only at R8
                              try simp only at hg10
                              have hHeld : w8.cell? ⟨g1, 0, none⟩ = some (.string nm) ∧ w8.cell? ⟨g1, 1, none⟩ = some (.slice Aex ex.length cex) ∧ w8.cell? ⟨g1, 2, none⟩ = some (.slice Aim im.length cim) ∧ w8.cell? ⟨g1, 3, none⟩ = some (.slice Aco co.length cco) ∧ w8.cell? ⟨g1, 4, none⟩ = some (.slice Ada da.length cda) ∧ w8.cell? ⟨g1, 5, none⟩ = some (.slice Are re.length cre) := ⟨(R8.out.cell HC0.out), (R8.out.cell HC1.out), (R8.out.cell HC2.out), (R8.out.cell HC3.out), (R8.out.cell HC4.out), (R8.out.cell HC5.out)⟩
                              refine norm_ (a' := ?_) ?_ ?_
                              rotate_left
                              · simp only [putAll, Act.put, List.setIfInBounds_toArray, List.set_cons_zero, List.set_cons_succ]
                                rfl
                              refine two_ (i := 1) (j := 10) (Ni := some 11) (Nj := some 20) #[true, true, true, true, true, true, true, true, true, true, false, true, true, false, true, true, false, true, true, false, false, false, false, false] #[true, false, true, true, true, true, true, true, true, true, true, true, true, false, true, true, false, true, true, false, false, false, false, false] rfl rfl rfl rfl (by kernel_rfl) (by decide) (by decide) (fun K hK => ?_) (fun K hK => ?_)
                              · skip
                                refine rs_conv R8 (g := g10) (n := 4) (c := 4) (by rfl) 11 rfl rfl (by rfl) hg10 ?_
                                intro w11 R11
                                refine hK.out _ _ ⟨(R11.out.cell HC0.out), (R11.out.cell HC1.out), (R11.out.cell HC2.out), (R11.out.cell HC3.out), (R11.out.cell HC4.out), (R11.out.cell HC5.out)⟩ (fun hHeld => ?_)
                                clear hK K
                                refine norm_ (a' := ?_) ?_ ?_
                                rotate_left
                                · show Act.put _ (some 11) _ = _
                                  simp only [Act.put, List.setIfInBounds_toArray, List.set_cons_zero, List.set_cons_succ, i64_w, i32_w]
                                  rfl
                                exact norm_ (by first | (simp only [putAll, Act.put, List.setIfInBounds_toArray, List.set_cons_zero, List.set_cons_succ]; done) | (simp only [putAll, Act.put, List.setIfInBounds_toArray, List.set_cons_zero, List.set_cons_succ]; rfl)) (hJ0_1_4_7 (g10, (A14, c14), (A17, c17)) _ ⟨hg10, ⟨R11.out.perm (fun p hp => by simp only [List.mem_cons, List.not_mem_nil, or_false] at hp ⊢; rcases hp with rfl | rfl | rfl <;> simp)⟩⟩)
                              · skip
                                refine goes_ Try.func23 (by kernel_rfl) rfl #[.slice Aim im.length cim, .func (.func 22) #[] #[]] (by rfl) rfl rfl (by simp only [List.map_toArray, List.map_cons, List.map_nil]; rfl) ?_
                                with_reducible refine (layT_l Aim cim im p2 HP2.out _ (Kd.C_below HM.out.r2 (HS.out.trans (R8.out.below.mono HS.out.size))) (by have := HO.out.nim; omega) (fun s hs => by have := HO.out.ims s hs; omega)).mono ?_
                                rintro z9 w20 ⟨A20, c20, rfl, hO_, _, hb_⟩
                                have R20 := Aside0.mk (R8.out.addO hb_ hO_)
                                clear hO_ hb_
                                refine ⟨_, rfl, ?_⟩
                                refine hK.out _ _ ⟨(R20.out.cell HC0.out), (R20.out.cell HC1.out), (R20.out.cell HC2.out), (R20.out.cell HC3.out), (R20.out.cell HC4.out), (R20.out.cell HC5.out)⟩ (fun hHeld => ?_)
                                clear hK K
                                refine norm_ (a' := ?_) ?_ ?_
                                rotate_left
                                · show Act.put _ (some 20) _ = _
                                  simp only [Act.put, List.setIfInBounds_toArray, List.set_cons_zero, List.set_cons_succ, i64_w, i32_w]
                                  rfl
                                exact norm_ (by first | (simp only [putAll, Act.put, List.setIfInBounds_toArray, List.set_cons_zero, List.set_cons_succ]; done) | (simp only [putAll, Act.put, List.setIfInBounds_toArray, List.set_cons_zero, List.set_cons_succ]; rfl)) (hJ0_4_7_10 (g10, (A14, c14), (A17, c17), (A20, c20)) _ ⟨hg10, ⟨R20.out.perm (fun p hp => by simp only [List.mem_cons, List.not_mem_nil, or_false] at hp ⊢; rcases hp with rfl | rfl | rfl | rfl <;> simp)⟩⟩)
                          · skip
                            rintro ⟨g10, ⟨A14, c14⟩⟩ w8 ⟨hg10, R8⟩
                            try simp only at R8
                            try simp only at hg10
                            have hHeld : w8.cell? ⟨g1, 0, none⟩ = some (.string nm) ∧ w8.cell? ⟨g1, 1, none⟩ = some (.slice Aex ex.length cex) ∧ w8.cell? ⟨g1, 2, none⟩ = some (.slice Aim im.length cim) ∧ w8.cell? ⟨g1, 3, none⟩ = some (.slice Aco co.length cco) ∧ w8.cell? ⟨g1, 4, none⟩ = some (.slice Ada da.length cda) ∧ w8.cell? ⟨g1, 5, none⟩ = some (.slice Are re.length cre) := ⟨(R8.out.cell HC0.out), (R8.out.cell HC1.out), (R8.out.cell HC2.out), (R8.out.cell HC3.out), (R8.out.cell HC4.out), (R8.out.cell HC5.out)⟩
                            refine norm_ (a' := ?_) ?_ ?_
                            rotate_left
                            · simp only [putAll, Act.put, List.setIfInBounds_toArray, List.set_cons_zero, List.set_cons_succ]
                              rfl
                            refine one_ (i := 7) (N := some 17) #[true, true, true, true, true, true, true, true, true, true, false, true, true, false, true, true, false, true, true, false, false, false, false, false] rfl rfl (by kernel_rfl) (by decide) (fun K hK => ?_)
                            refine goes_ Try.func23 (by kernel_rfl) rfl #[.slice Aex ex.length cex, .func (.func 22) #[] #[]] (by rfl) rfl rfl (by simp only [List.map_toArray, List.map_cons, List.map_nil]; rfl) ?_
                            with_reducible refine (layT_l Aex cex ex p1 HP1.out _ (Kd.C_below HM.out.r1 (HS.out.trans (R8.out.below.mono HS.out.size))) (by have := HO.out.nex; omega) (fun s hs => by have := HO.out.exs s hs; omega)).mono ?_
                            rintro z9 w17 ⟨A17, c17, rfl, hO_, _, hb_⟩
                            have R17 := Aside0.mk (R8.out.addO hb_ hO_)
                            clear hO_ hb_
                            refine ⟨_, rfl, ?_⟩
                            refine hK.out _ _ ⟨(R17.out.cell HC0.out), (R17.out.cell HC1.out), (R17.out.cell HC2.out), (R17.out.cell HC3.out), (R17.out.cell HC4.out), (R17.out.cell HC5.out)⟩ (fun hHeld => ?_)
                            clear hK K
                            refine norm_ (a' := ?_) ?_ ?_
                            rotate_left
                            · show Act.put _ (some 17) _ = _
                              simp only [Act.put, List.setIfInBounds_toArray, List.set_cons_zero, List.set_cons_succ, i64_w, i32_w]
                              rfl
                            exact norm_ (by first | (simp only [putAll, Act.put, List.setIfInBounds_toArray, List.set_cons_zero, List.set_cons_succ]; done) | (simp only [putAll, Act.put, List.setIfInBounds_toArray, List.set_cons_zero, List.set_cons_succ]; rfl)) (hJ0_1_4_7 (g10, (A14, c14), (A17, c17)) _ ⟨hg10, ⟨R17.out.perm (fun p hp => by simp only [List.mem_cons, List.not_mem_nil, or_false] at hp ⊢; rcases hp with rfl | rfl | rfl <;> simp)⟩⟩)
                        · skip
                          rintro ⟨⟨A14, c14⟩, ⟨A17, c17⟩, ⟨A20, c20⟩, ⟨A23, c23⟩⟩ w8 R8
                          try simp only at R8
                          have hHeld : w8.cell? ⟨g1, 0, none⟩ = some (.string nm) ∧ w8.cell? ⟨g1, 1, none⟩ = some (.slice Aex ex.length cex) ∧ w8.cell? ⟨g1, 2, none⟩ = some (.slice Aim im.length cim) ∧ w8.cell? ⟨g1, 3, none⟩ = some (.slice Aco co.length cco) ∧ w8.cell? ⟨g1, 4, none⟩ = some (.slice Ada da.length cda) ∧ w8.cell? ⟨g1, 5, none⟩ = some (.slice Are re.length cre) := ⟨(R8.out.cell HC0.out), (R8.out.cell HC1.out), (R8.out.cell HC2.out), (R8.out.cell HC3.out), (R8.out.cell HC4.out), (R8.out.cell HC5.out)⟩
                          refine norm_ (a' := ?_) ?_ ?_
                          rotate_left
                          · simp only [putAll, Act.put, List.setIfInBounds_toArray, List.set_cons_zero, List.set_cons_succ]
                            rfl
                          refine two_ (i := 0) (j := 16) (Ni := some 10) (Nj := some 26) #[true, false, true, true, true, true, true, true, true, true, true, true, true, true, true, true, false, true, true, false, false, false, false, false] #[false, false, true, true, true, true, true, true, true, true, true, true, true, true, true, true, true, true, true, false, false, false, false, false] rfl rfl rfl rfl (by kernel_rfl) (by decide) (by decide) (fun K hK => ?_) (fun K hK => ?_)
                          · skip
                            refine rs_lit magic (n := 4) rfl R8 (by rfl) 10 rfl (by first | (go_simp; done) | (go_simp; rfl)) (by simp) ?_
                            intro g10 w10 hg10 R10
                            refine hK.out _ _ ⟨(R10.out.cell HC0.out), (R10.out.cell HC1.out), (R10.out.cell HC2.out), (R10.out.cell HC3.out), (R10.out.cell HC4.out), (R10.out.cell HC5.out)⟩ (fun hHeld => ?_)
                            clear hK K
                            refine norm_ (a' := ?_) ?_ ?_
                            rotate_left
                            · show Act.put _ (some 10) _ = _
                              simp only [Act.put, List.setIfInBounds_toArray, List.set_cons_zero, List.set_cons_succ, i64_w, i32_w]
                              rfl
                            exact norm_ (by first | (simp only [putAll, Act.put, List.setIfInBounds_toArray, List.set_cons_zero, List.set_cons_succ]; done) | (simp only [putAll, Act.put, List.setIfInBounds_toArray, List.set_cons_zero, List.set_cons_succ]; rfl)) (hJ0_4_7_10_13 (g10, (A14, c14), (A17, c17), (A20, c20), (A23, c23)) _ ⟨hg10, ⟨R10.out.perm (fun p hp => by simp only [List.mem_cons, List.not_mem_nil, or_false] at hp ⊢; rcases hp with rfl | rfl | rfl | rfl | rfl <;> simp)⟩⟩)
                          · skip
                            refine goes_ Try.func24 (by kernel_rfl) rfl #[.slice Ada da.length cda] (by rfl) rfl rfl (by simp only [List.map_toArray, List.map_cons, List.map_nil]; rfl) ?_
                            with_reducible refine (wire_Words.calls (da.length + 7) Ada cda da p4 _ (Kd.C_below HM.out.r4 (HS.out.trans (R8.out.below.mono HS.out.size))) HM.out.l4 HP4.out).mono ?_
                            rintro z9 w26 ⟨v0, rfl, hR, hb_⟩
                            obtain ⟨A26, c26, rfl, _⟩ := Kd.R_reads hR
                            have R26 := Aside0.mk (R8.out.addR hb_ hR)
                            clear hR hb_
                            refine ⟨_, rfl, ?_⟩
                            refine hK.out _ _ ⟨(R26.out.cell HC0.out), (R26.out.cell HC1.out), (R26.out.cell HC2.out), (R26.out.cell HC3.out), (R26.out.cell HC4.out), (R26.out.cell HC5.out)⟩ (fun hHeld => ?_)
                            clear hK K
                            refine norm_ (a' := ?_) ?_ ?_
                            rotate_left
                            · show Act.put _ (some 26) _ = _
                              simp only [Act.put, List.setIfInBounds_toArray, List.set_cons_zero, List.set_cons_succ, i64_w, i32_w]
                              rfl
                            exact norm_ (by first | (simp only [putAll, Act.put, List.setIfInBounds_toArray, List.set_cons_zero, List.set_cons_succ]; done) | (simp only [putAll, Act.put, List.setIfInBounds_toArray, List.set_cons_zero, List.set_cons_succ]; rfl)) (hJ4_7_10_13_16 ((A14, c14), (A17, c17), (A20, c20), (A23, c23), (A26, c26)) _ ⟨R26.out.perm (fun p hp => by simp only [List.mem_cons, List.not_mem_nil, or_false] at hp ⊢; rcases hp with rfl | rfl | rfl | rfl | rfl <;> simp)⟩)
                      · skip
                        rintro ⟨g10, ⟨A14, c14⟩, ⟨A17, c17⟩, ⟨A20, c20⟩⟩ w8 ⟨hg10, R8⟩
                        try simp only at R8
                        try simp only at hg10
                        have hHeld : w8.cell? ⟨g1, 0, none⟩ = some (.string nm) ∧ w8.cell? ⟨g1, 1, none⟩ = some (.slice Aex ex.length cex) ∧ w8.cell? ⟨g1, 2, none⟩ = some (.slice Aim im.length cim) ∧ w8.cell? ⟨g1, 3, none⟩ = some (.slice Aco co.length cco) ∧ w8.cell? ⟨g1, 4, none⟩ = some (.slice Ada da.length cda) ∧ w8.cell? ⟨g1, 5, none⟩ = some (.slice Are re.length cre) := ⟨(R8.out.cell HC0.out), (R8.out.cell HC1.out), (R8.out.cell HC2.out), (R8.out.cell HC3.out), (R8.out.cell HC4.out), (R8.out.cell HC5.out)⟩
                        refine norm_ (a' := ?_) ?_ ?_
                        rotate_left
                        · simp only [putAll, Act.put, List.setIfInBounds_toArray, List.set_cons_zero, List.set_cons_succ]
                          rfl
                        refine two_ (i := 1) (j := 13) (Ni := some 11) (Nj := some 23) #[true, true, true, true, true, true, true, true, true, true, true, true, true, false, true, true, false, true, true, false, false, false, false, false] #[true, false, true, true, true, true, true, true, true, true, true, true, true, true, true, true, false, true, true, false, false, false, false, false] rfl rfl rfl rfl (by kernel_rfl) (by decide) (by decide) (fun K hK => ?_) (fun K hK => ?_)
                        · skip
                          refine rs_conv R8 (g := g10) (n := 4) (c := 4) (by rfl) 11 rfl rfl (by rfl) hg10 ?_
                          intro w11 R11
                          refine hK.out _ _ ⟨(R11.out.cell HC0.out), (R11.out.cell HC1.out), (R11.out.cell HC2.out), (R11.out.cell HC3.out), (R11.out.cell HC4.out), (R11.out.cell HC5.out)⟩ (fun hHeld => ?_)
                          clear hK K
                          refine norm_ (a' := ?_) ?_ ?_
                          rotate_left
                          · show Act.put _ (some 11) _ = _
                            simp only [Act.put, List.setIfInBounds_toArray, List.set_cons_zero, List.set_cons_succ, i64_w, i32_w]
                            rfl
                          exact norm_ (by first | (simp only [putAll, Act.put, List.setIfInBounds_toArray, List.set_cons_zero, List.set_cons_succ]; done) | (simp only [putAll, Act.put, List.setIfInBounds_toArray, List.set_cons_zero, List.set_cons_succ]; rfl)) (hJ0_1_4_7_10 (g10, (A14, c14), (A17, c17), (A20, c20)) _ ⟨hg10, ⟨R11.out.perm (fun p hp => by simp only [List.mem_cons, List.not_mem_nil, or_false] at hp ⊢; rcases hp with rfl | rfl | rfl | rfl <;> simp)⟩⟩)
                        · skip
                          refine goes_ Try.func24 (by kernel_rfl) rfl #[.slice Aco co.length cco] (by rfl) rfl rfl (by simp only [List.map_toArray, List.map_cons, List.map_nil]; rfl) ?_
                          with_reducible refine (wire_Words.calls (co.length + 7) Aco cco co p3 _ (Kd.C_below HM.out.r3 (HS.out.trans (R8.out.below.mono HS.out.size))) HM.out.l3 HP3.out).mono ?_
                          rintro z9 w23 ⟨v0, rfl, hR, hb_⟩
                          obtain ⟨A23, c23, rfl, _⟩ := Kd.R_reads hR
                          have R23 := Aside0.mk (R8.out.addR hb_ hR)
                          clear hR hb_
                          refine ⟨_, rfl, ?_⟩
                          refine hK.out _ _ ⟨(R23.out.cell HC0.out), (R23.out.cell HC1.out), (R23.out.cell HC2.out), (R23.out.cell HC3.out), (R23.out.cell HC4.out), (R23.out.cell HC5.out)⟩ (fun hHeld => ?_)
                          clear hK K
                          refine norm_ (a' := ?_) ?_ ?_
                          rotate_left
                          · show Act.put _ (some 23) _ = _
                            simp only [Act.put, List.setIfInBounds_toArray, List.set_cons_zero, List.set_cons_succ, i64_w, i32_w]
                            rfl
                          exact norm_ (by first | (simp only [putAll, Act.put, List.setIfInBounds_toArray, List.set_cons_zero, List.set_cons_succ]; done) | (simp only [putAll, Act.put, List.setIfInBounds_toArray, List.set_cons_zero, List.set_cons_succ]; rfl)) (hJ0_4_7_10_13 (g10, (A14, c14), (A17, c17), (A20, c20), (A23, c23)) _ ⟨hg10, ⟨R23.out.perm (fun p hp => by simp only [List.mem_cons, List.not_mem_nil, or_false] at hp ⊢; rcases hp with rfl | rfl | rfl | rfl | rfl <;> simp)⟩⟩)
                    · skip
                      rintro ⟨g10, ⟨A14, c14⟩, ⟨A17, c17⟩⟩ w8 ⟨hg10, R8⟩
                      try simp only at R8
                      try simp only at hg10
                      have hHeld : w8.cell? ⟨g1, 0, none⟩ = some (.string nm) ∧ w8.cell? ⟨g1, 1, none⟩ = some (.slice Aex ex.length cex) ∧ w8.cell? ⟨g1, 2, none⟩ = some (.slice Aim im.length cim) ∧ w8.cell? ⟨g1, 3, none⟩ = some (.slice Aco co.length cco) ∧ w8.cell? ⟨g1, 4, none⟩ = some (.slice Ada da.length cda) ∧ w8.cell? ⟨g1, 5, none⟩ = some (.slice Are re.length cre) := ⟨(R8.out.cell HC0.out), (R8.out.cell HC1.out), (R8.out.cell HC2.out), (R8.out.cell HC3.out), (R8.out.cell HC4.out), (R8.out.cell HC5.out)⟩
                      refine norm_ (a' := ?_) ?_ ?_
                      rotate_left
                      · simp only [putAll, Act.put, List.setIfInBounds_toArray, List.set_cons_zero, List.set_cons_succ]
                        rfl
                      refine one_ (i := 10) (N := some 20) #[true, true, true, true, true, true, true, true, true, true, true, true, true, false, true, true, false, true, true, false, false, false, false, false] rfl rfl (by kernel_rfl) (by decide) (fun K hK => ?_)
                      refine goes_ Try.func23 (by kernel_rfl) rfl #[.slice Aim im.length cim, .func (.func 22) #[] #[]] (by rfl) rfl rfl (by simp only [List.map_toArray, List.map_cons, List.map_nil]; rfl) ?_
                      with_reducible refine (layT_l Aim cim im p2 HP2.out _ (Kd.C_below HM.out.r2 (HS.out.trans (R8.out.below.mono HS.out.size))) (by have := HO.out.nim; omega) (fun s hs => by have := HO.out.ims s hs; omega)).mono ?_
                      rintro z9 w20 ⟨A20, c20, rfl, hO_, _, hb_⟩
                      have R20 := Aside0.mk (R8.out.addO hb_ hO_)
                      clear hO_ hb_
                      refine ⟨_, rfl, ?_⟩
                      refine hK.out _ _ ⟨(R20.out.cell HC0.out), (R20.out.cell HC1.out), (R20.out.cell HC2.out), (R20.out.cell HC3.out), (R20.out.cell HC4.out), (R20.out.cell HC5.out)⟩ (fun hHeld => ?_)
                      clear hK K
                      refine norm_ (a' := ?_) ?_ ?_
                      rotate_left
                      · show Act.put _ (some 20) _ = _
                        simp only [Act.put, List.setIfInBounds_toArray, List.set_cons_zero, List.set_cons_succ, i64_w, i32_w]
                        rfl
                      exact norm_ (by first | (simp only [putAll, Act.put, List.setIfInBounds_toArray, List.set_cons_zero, List.set_cons_succ]; done) | (simp only [putAll, Act.put, List.setIfInBounds_toArray, List.set_cons_zero, List.set_cons_succ]; rfl)) (hJ0_1_4_7_10 (g10, (A14, c14), (A17, c17), (A20, c20)) _ ⟨hg10, ⟨R20.out.perm (fun p hp => by simp only [List.mem_cons, List.not_mem_nil, or_false] at hp ⊢; rcases hp with rfl | rfl | rfl | rfl <;> simp)⟩⟩)
                  · skip
                    rintro ⟨⟨A14, c14⟩, ⟨A17, c17⟩, ⟨A20, c20⟩, ⟨A23, c23⟩, ⟨A26, c26⟩⟩ w8 R8
                    try simp only at R8
                    have hHeld : w8.cell? ⟨g1, 0, none⟩ = some (.string nm) ∧ w8.cell? ⟨g1, 1, none⟩ = some (.slice Aex ex.length cex) ∧ w8.cell? ⟨g1, 2, none⟩ = some (.slice Aim im.length cim) ∧ w8.cell? ⟨g1, 3, none⟩ = some (.slice Aco co.length cco) ∧ w8.cell? ⟨g1, 4, none⟩ = some (.slice Ada da.length cda) ∧ w8.cell? ⟨g1, 5, none⟩ = some (.slice Are re.length cre) := ⟨(R8.out.cell HC0.out), (R8.out.cell HC1.out), (R8.out.cell HC2.out), (R8.out.cell HC3.out), (R8.out.cell HC4.out), (R8.out.cell HC5.out)⟩
                    refine norm_ (a' := ?_) ?_ ?_
                    rotate_left
                    · simp only [putAll, Act.put, List.setIfInBounds_toArray, List.set_cons_zero, List.set_cons_succ]
                      rfl
                    refine two_ (i := 0) (j := 19) (Ni := some 10) (Nj := some 29) #[true, false, true, true, true, true, true, true, true, true, true, true, true, true, true, true, true, true, true, false, false, false, false, false] #[false, false, true, true, true, true, true, true, true, true, true, true, true, true, true, true, true, true, true, true, false, false, false, false] rfl rfl rfl rfl (by kernel_rfl) (by decide) (by decide) (fun K hK => ?_) (fun K hK => ?_)
                    · skip
                      refine rs_lit magic (n := 4) rfl R8 (by rfl) 10 rfl (by first | (go_simp; done) | (go_simp; rfl)) (by simp) ?_
                      intro g10 w10 hg10 R10
                      refine hK.out _ _ ⟨(R10.out.cell HC0.out), (R10.out.cell HC1.out), (R10.out.cell HC2.out), (R10.out.cell HC3.out), (R10.out.cell HC4.out), (R10.out.cell HC5.out)⟩ (fun hHeld => ?_)
                      clear hK K
                      refine norm_ (a' := ?_) ?_ ?_
                      rotate_left
                      · show Act.put _ (some 10) _ = _
                        simp only [Act.put, List.setIfInBounds_toArray, List.set_cons_zero, List.set_cons_succ, i64_w, i32_w]
                        rfl
                      exact norm_ (by first | (simp only [putAll, Act.put, List.setIfInBounds_toArray, List.set_cons_zero, List.set_cons_succ]; done) | (simp only [putAll, Act.put, List.setIfInBounds_toArray, List.set_cons_zero, List.set_cons_succ]; rfl)) (hJ0_4_7_10_13_16 (g10, (A14, c14), (A17, c17), (A20, c20), (A23, c23), (A26, c26)) _ ⟨hg10, ⟨R10.out.perm (fun p hp => by simp only [List.mem_cons, List.not_mem_nil, or_false] at hp ⊢; rcases hp with rfl | rfl | rfl | rfl | rfl | rfl <;> simp)⟩⟩)
                    · skip
                      refine goes_ Try.func25 (by kernel_rfl) rfl #[.slice Are re.length cre, .func (.func 26) #[] #[]] (by rfl) rfl rfl (by simp only [List.map_toArray, List.map_cons, List.map_nil]; rfl) ?_
                      with_reducible refine (layR_l Are cre re p5 HP5.out _ (Kd.C_below HM.out.r5 (HS.out.trans (R8.out.below.mono HS.out.size))) (by have := HO.out.nre; omega)).mono ?_
                      rintro z9 w29 ⟨A29, c29, rfl, hO_, _, hb_⟩
                      have R29 := Aside0.mk (R8.out.addO hb_ hO_)
                      clear hO_ hb_
                      refine ⟨_, rfl, ?_⟩
                      refine hK.out _ _ ⟨(R29.out.cell HC0.out), (R29.out.cell HC1.out), (R29.out.cell HC2.out), (R29.out.cell HC3.out), (R29.out.cell HC4.out), (R29.out.cell HC5.out)⟩ (fun hHeld => ?_)
                      clear hK K
                      refine norm_ (a' := ?_) ?_ ?_
                      rotate_left
                      · show Act.put _ (some 29) _ = _
                        simp only [Act.put, List.setIfInBounds_toArray, List.set_cons_zero, List.set_cons_succ, i64_w, i32_w]
                        rfl
                      exact norm_ (by first | (simp only [putAll, Act.put, List.setIfInBounds_toArray, List.set_cons_zero, List.set_cons_succ]; done) | (simp only [putAll, Act.put, List.setIfInBounds_toArray, List.set_cons_zero, List.set_cons_succ]; rfl)) (hJ4_7_10_13_16_19 ((A14, c14), (A17, c17), (A20, c20), (A23, c23), (A26, c26), (A29, c29)) _ ⟨R29.out.perm (fun p hp => by simp only [List.mem_cons, List.not_mem_nil, or_false] at hp ⊢; rcases hp with rfl | rfl | rfl | rfl | rfl | rfl <;> simp)⟩)
                · skip
                  rintro ⟨g10, ⟨A14, c14⟩, ⟨A17, c17⟩, ⟨A20, c20⟩, ⟨A23, c23⟩⟩ w8 ⟨hg10, R8⟩
                  try simp only at R8
                  try simp only at hg10
                  have hHeld : w8.cell? ⟨g1, 0, none⟩ = some (.string nm) ∧ w8.cell? ⟨g1, 1, none⟩ = some (.slice Aex ex.length cex) ∧ w8.cell? ⟨g1, 2, none⟩ = some (.slice Aim im.length cim) ∧ w8.cell? ⟨g1, 3, none⟩ = some (.slice Aco co.length cco) ∧ w8.cell? ⟨g1, 4, none⟩ = some (.slice Ada da.length cda) ∧ w8.cell? ⟨g1, 5, none⟩ = some (.slice Are re.length cre) := ⟨(R8.out.cell HC0.out), (R8.out.cell HC1.out), (R8.out.cell HC2.out), (R8.out.cell HC3.out), (R8.out.cell HC4.out), (R8.out.cell HC5.out)⟩
                  refine norm_ (a' := ?_) ?_ ?_
                  rotate_left
                  · simp only [putAll, Act.put, List.setIfInBounds_toArray, List.set_cons_zero, List.set_cons_succ]
                    rfl
                  refine two_ (i := 1) (j := 16) (Ni := some 11) (Nj := some 26) #[true, true, true, true, true, true, true, true, true, true, true, true, true, true, true, true, false, true, true, false, false, false, false, false] #[true, false, true, true, true, true, true, true, true, true, true, true, true, true, true, true, true, true, true, false, false, false, false, false] rfl rfl rfl rfl (by kernel_rfl) (by decide) (by decide) (fun K hK => ?_) (fun K hK => ?_)
                  · skip
                    refine rs_conv R8 (g := g10) (n := 4) (c := 4) (by rfl) 11 rfl rfl (by rfl) hg10 ?_
                    intro w11 R11
                    refine hK.out _ _ ⟨(R11.out.cell HC0.out), (R11.out.cell HC1.out), (R11.out.cell HC2.out), (R11.out.cell HC3.out), (R11.out.cell HC4.out), (R11.out.cell HC5.out)⟩ (fun hHeld => ?_)
                    clear hK K
                    refine norm_ (a' := ?_) ?_ ?_
                    rotate_left
                    · show Act.put _ (some 11) _ = _
                      simp only [Act.put, List.setIfInBounds_toArray, List.set_cons_zero, List.set_cons_succ, i64_w, i32_w]
                      rfl
                    exact norm_ (by first | (simp only [putAll, Act.put, List.setIfInBounds_toArray, List.set_cons_zero, List.set_cons_succ]; done) | (simp only [putAll, Act.put, List.setIfInBounds_toArray, List.set_cons_zero, List.set_cons_succ]; rfl)) (hJ0_1_4_7_10_13 (g10, (A14, c14), (A17, c17), (A20, c20), (A23, c23)) _ ⟨hg10, ⟨R11.out.perm (fun p hp => by simp only [List.mem_cons, List.not_mem_nil, or_false] at hp ⊢; rcases hp with rfl | rfl | rfl | rfl | rfl <;> simp)⟩⟩)
                  · skip
                    refine goes_ Try.func24 (by kernel_rfl) rfl #[.slice Ada da.length cda] (by rfl) rfl rfl (by simp only [List.map_toArray, List.map_cons, List.map_nil]; rfl) ?_
                    with_reducible refine (wire_Words.calls (da.length + 7) Ada cda da p4 _ (Kd.C_below HM.out.r4 (HS.out.trans (R8.out.below.mono HS.out.size))) HM.out.l4 HP4.out).mono ?_
                    rintro z9 w26 ⟨v0, rfl, hR, hb_⟩
                    obtain ⟨A26, c26, rfl, _⟩ := Kd.R_reads hR
                    have R26 := Aside0.mk (R8.out.addR hb_ hR)
                    clear hR hb_
                    refine ⟨_, rfl, ?_⟩
                    refine hK.out _ _ ⟨(R26.out.cell HC0.out), (R26.out.cell HC1.out), (R26.out.cell HC2.out), (R26.out.cell HC3.out), (R26.out.cell HC4.out), (R26.out.cell HC5.out)⟩ (fun hHeld => ?_)
                    clear hK K
                    refine norm_ (a' := ?_) ?_ ?_
                    rotate_left
                    · show Act.put _ (some 26) _ = _
                      simp only [Act.put, List.setIfInBounds_toArray, List.set_cons_zero, List.set_cons_succ, i64_w, i32_w]
                      rfl
                    exact norm_ (by first | (simp only [putAll, Act.put, List.setIfInBounds_toArray, List.set_cons_zero, List.set_cons_succ]; done) | (simp only [putAll, Act.put, List.setIfInBounds_toArray, List.set_cons_zero, List.set_cons_succ]; rfl)) (hJ0_4_7_10_13_16 (g10, (A14, c14), (A17, c17), (A20, c20), (A23, c23), (A26, c26)) _ ⟨hg10, ⟨R26.out.perm (fun p hp => by simp only [List.mem_cons, List.not_mem_nil, or_false] at hp ⊢; rcases hp with rfl | rfl | rfl | rfl | rfl | rfl <;> simp)⟩⟩)
              · skip
                rintro ⟨g10, ⟨A14, c14⟩, ⟨A17, c17⟩, ⟨A20, c20⟩⟩ w8 ⟨hg10, R8⟩
                try simp only at R8
                try simp only at hg10
                have hHeld : w8.cell? ⟨g1, 0, none⟩ = some (.string nm) ∧ w8.cell? ⟨g1, 1, none⟩ = some (.slice Aex ex.length cex) ∧ w8.cell? ⟨g1, 2, none⟩ = some (.slice Aim im.length cim) ∧ w8.cell? ⟨g1, 3, none⟩ = some (.slice Aco co.length cco) ∧ w8.cell? ⟨g1, 4, none⟩ = some (.slice Ada da.length cda) ∧ w8.cell? ⟨g1, 5, none⟩ = some (.slice Are re.length cre) := ⟨(R8.out.cell HC0.out), (R8.out.cell HC1.out), (R8.out.cell HC2.out), (R8.out.cell HC3.out), (R8.out.cell HC4.out), (R8.out.cell HC5.out)⟩
                refine norm_ (a' := ?_) ?_ ?_
                rotate_left
                · simp only [putAll, Act.put, List.setIfInBounds_toArray, List.set_cons_zero, List.set_cons_succ]
                  rfl
                refine one_ (i := 13) (N := some 23) #[true, true, true, true, true, true, true, true, true, true, true, true, true, true, true, true, false, true, true, false, false, false, false, false] rfl rfl (by kernel_rfl) (by decide) (fun K hK => ?_)
                refine goes_ Try.func24 (by kernel_rfl) rfl #[.slice Aco co.length cco] (by rfl) rfl rfl (by simp only [List.map_toArray, List.map_cons, List.map_nil]; rfl) ?_
                with_reducible refine (wire_Words.calls (co.length + 7) Aco cco co p3 _ (Kd.C_below HM.out.r3 (HS.out.trans (R8.out.below.mono HS.out.size))) HM.out.l3 HP3.out).mono ?_
                rintro z9 w23 ⟨v0, rfl, hR, hb_⟩
                obtain ⟨A23, c23, rfl, _⟩ := Kd.R_reads hR
                have R23 := Aside0.mk (R8.out.addR hb_ hR)
                clear hR hb_
                refine ⟨_, rfl, ?_⟩
                refine hK.out _ _ ⟨(R23.out.cell HC0.out), (R23.out.cell HC1.out), (R23.out.cell HC2.out), (R23.out.cell HC3.out), (R23.out.cell HC4.out), (R23.out.cell HC5.out)⟩ (fun hHeld => ?_)
                clear hK K
                refine norm_ (a' := ?_) ?_ ?_
                rotate_left
                · show Act.put _ (some 23) _ = _
                  simp only [Act.put, List.setIfInBounds_toArray, List.set_cons_zero, List.set_cons_succ, i64_w, i32_w]
                  rfl
                exact norm_ (by first | (simp only [putAll, Act.put, List.setIfInBounds_toArray, List.set_cons_zero, List.set_cons_succ]; done) | (simp only [putAll, Act.put, List.setIfInBounds_toArray, List.set_cons_zero, List.set_cons_succ]; rfl)) (hJ0_1_4_7_10_13 (g10, (A14, c14), (A17, c17), (A20, c20), (A23, c23)) _ ⟨hg10, ⟨R23.out.perm (fun p hp => by simp only [List.mem_cons, List.not_mem_nil, or_false] at hp ⊢; rcases hp with rfl | rfl | rfl | rfl | rfl <;> simp)⟩⟩)
            · skip
              rintro ⟨⟨A14, c14⟩, ⟨A17, c17⟩, ⟨A20, c20⟩, ⟨A23, c23⟩, ⟨A26, c26⟩, ⟨A29, c29⟩⟩ w8 R8
              try simp only at R8
              have hHeld : w8.cell? ⟨g1, 0, none⟩ = some (.string nm) ∧ w8.cell? ⟨g1, 1, none⟩ = some (.slice Aex ex.length cex) ∧ w8.cell? ⟨g1, 2, none⟩ = some (.slice Aim im.length cim) ∧ w8.cell? ⟨g1, 3, none⟩ = some (.slice Aco co.length cco) ∧ w8.cell? ⟨g1, 4, none⟩ = some (.slice Ada da.length cda) ∧ w8.cell? ⟨g1, 5, none⟩ = some (.slice Are re.length cre) := ⟨(R8.out.cell HC0.out), (R8.out.cell HC1.out), (R8.out.cell HC2.out), (R8.out.cell HC3.out), (R8.out.cell HC4.out), (R8.out.cell HC5.out)⟩
              refine norm_ (a' := ?_) ?_ ?_
              rotate_left
              · simp only [putAll, Act.put, List.setIfInBounds_toArray, List.set_cons_zero, List.set_cons_succ]
                rfl
              refine one_ (i := 0) (N := some 10) #[true, false, true, true, true, true, true, true, true, true, true, true, true, true, true, true, true, true, true, true, false, false, false, false] rfl rfl (by kernel_rfl) (by decide) (fun K hK => ?_)
              refine rs_lit magic (n := 4) rfl R8 (by rfl) 10 rfl (by first | (go_simp; done) | (go_simp; rfl)) (by simp) ?_
              intro g10 w10 hg10 R10
              refine hK.out _ _ ⟨(R10.out.cell HC0.out), (R10.out.cell HC1.out), (R10.out.cell HC2.out), (R10.out.cell HC3.out), (R10.out.cell HC4.out), (R10.out.cell HC5.out)⟩ (fun hHeld => ?_)
              clear hK K
              refine norm_ (a' := ?_) ?_ ?_
              rotate_left
              · show Act.put _ (some 10) _ = _
                simp only [Act.put, List.setIfInBounds_toArray, List.set_cons_zero, List.set_cons_succ, i64_w, i32_w]
                rfl
              exact norm_ (by first | (simp only [putAll, Act.put, List.setIfInBounds_toArray, List.set_cons_zero, List.set_cons_succ]; done) | (simp only [putAll, Act.put, List.setIfInBounds_toArray, List.set_cons_zero, List.set_cons_succ]; rfl)) (hJ0_4_7_10_13_16_19 (g10, (A14, c14), (A17, c17), (A20, c20), (A23, c23), (A26, c26), (A29, c29)) _ ⟨hg10, ⟨R10.out.perm (fun p hp => by simp only [List.mem_cons, List.not_mem_nil, or_false] at hp ⊢; rcases hp with rfl | rfl | rfl | rfl | rfl | rfl | rfl <;> simp)⟩⟩)
          · skip
            rintro ⟨g10, ⟨A14, c14⟩, ⟨A17, c17⟩, ⟨A20, c20⟩, ⟨A23, c23⟩, ⟨A26, c26⟩⟩ w8 ⟨hg10, R8⟩
            try simp only at R8
            try simp only at hg10
            have hHeld : w8.cell? ⟨g1, 0, none⟩ = some (.string nm) ∧ w8.cell? ⟨g1, 1, none⟩ = some (.slice Aex ex.length cex) ∧ w8.cell? ⟨g1, 2, none⟩ = some (.slice Aim im.length cim) ∧ w8.cell? ⟨g1, 3, none⟩ = some (.slice Aco co.length cco) ∧ w8.cell? ⟨g1, 4, none⟩ = some (.slice Ada da.length cda) ∧ w8.cell? ⟨g1, 5, none⟩ = some (.slice Are re.length cre) := ⟨(R8.out.cell HC0.out), (R8.out.cell HC1.out), (R8.out.cell HC2.out), (R8.out.cell HC3.out), (R8.out.cell HC4.out), (R8.out.cell HC5.out)⟩
            refine norm_ (a' := ?_) ?_ ?_
            rotate_left
            · simp only [putAll, Act.put, List.setIfInBounds_toArray, List.set_cons_zero, List.set_cons_succ]
              rfl
            refine two_ (i := 1) (j := 19) (Ni := some 11) (Nj := some 29) #[true, true, true, true, true, true, true, true, true, true, true, true, true, true, true, true, true, true, true, false, false, false, false, false] #[true, false, true, true, true, true, true, true, true, true, true, true, true, true, true, true, true, true, true, true, false, false, false, false] rfl rfl rfl rfl (by kernel_rfl) (by decide) (by decide) (fun K hK => ?_) (fun K hK => ?_)
            · skip
              refine rs_conv R8 (g := g10) (n := 4) (c := 4) (by rfl) 11 rfl rfl (by rfl) hg10 ?_
              intro w11 R11
              refine hK.out _ _ ⟨(R11.out.cell HC0.out), (R11.out.cell HC1.out), (R11.out.cell HC2.out), (R11.out.cell HC3.out), (R11.out.cell HC4.out), (R11.out.cell HC5.out)⟩ (fun hHeld => ?_)
              clear hK K
              refine norm_ (a' := ?_) ?_ ?_
              rotate_left
              · show Act.put _ (some 11) _ = _
                simp only [Act.put, List.setIfInBounds_toArray, List.set_cons_zero, List.set_cons_succ, i64_w, i32_w]
                rfl
              exact norm_ (by first | (simp only [putAll, Act.put, List.setIfInBounds_toArray, List.set_cons_zero, List.set_cons_succ]; done) | (simp only [putAll, Act.put, List.setIfInBounds_toArray, List.set_cons_zero, List.set_cons_succ]; rfl)) (hJ0_1_4_7_10_13_16 (g10, (A14, c14), (A17, c17), (A20, c20), (A23, c23), (A26, c26)) _ ⟨hg10, ⟨R11.out.perm (fun p hp => by simp only [List.mem_cons, List.not_mem_nil, or_false] at hp ⊢; rcases hp with rfl | rfl | rfl | rfl | rfl | rfl <;> simp)⟩⟩)
            · skip
              refine goes_ Try.func25 (by kernel_rfl) rfl #[.slice Are re.length cre, .func (.func 26) #[] #[]] (by rfl) rfl rfl (by simp only [List.map_toArray, List.map_cons, List.map_nil]; rfl) ?_
              with_reducible refine (layR_l Are cre re p5 HP5.out _ (Kd.C_below HM.out.r5 (HS.out.trans (R8.out.below.mono HS.out.size))) (by have := HO.out.nre; omega)).mono ?_
              rintro z9 w29 ⟨A29, c29, rfl, hO_, _, hb_⟩
              have R29 := Aside0.mk (R8.out.addO hb_ hO_)
              clear hO_ hb_
              refine ⟨_, rfl, ?_⟩
              refine hK.out _ _ ⟨(R29.out.cell HC0.out), (R29.out.cell HC1.out), (R29.out.cell HC2.out), (R29.out.cell HC3.out), (R29.out.cell HC4.out), (R29.out.cell HC5.out)⟩ (fun hHeld => ?_)
              clear hK K
              refine norm_ (a' := ?_) ?_ ?_
              rotate_left
              · show Act.put _ (some 29) _ = _
                simp only [Act.put, List.setIfInBounds_toArray, List.set_cons_zero, List.set_cons_succ, i64_w, i32_w]
                rfl
              exact norm_ (by first | (simp only [putAll, Act.put, List.setIfInBounds_toArray, List.set_cons_zero, List.set_cons_succ]; done) | (simp only [putAll, Act.put, List.setIfInBounds_toArray, List.set_cons_zero, List.set_cons_succ]; rfl)) (hJ0_4_7_10_13_16_19 (g10, (A14, c14), (A17, c17), (A20, c20), (A23, c23), (A26, c26), (A29, c29)) _ ⟨hg10, ⟨R29.out.perm (fun p hp => by simp only [List.mem_cons, List.not_mem_nil, or_false] at hp ⊢; rcases hp with rfl | rfl | rfl | rfl | rfl | rfl | rfl <;> simp)⟩⟩)
        · skip
          rintro ⟨g10, ⟨A14, c14⟩, ⟨A17, c17⟩, ⟨A20, c20⟩, ⟨A23, c23⟩⟩ w8 ⟨hg10, R8⟩
          try simp only at R8
          try simp only at hg10
          have hHeld : w8.cell? ⟨g1, 0, none⟩ = some (.string nm) ∧ w8.cell? ⟨g1, 1, none⟩ = some (.slice Aex ex.length cex) ∧ w8.cell? ⟨g1, 2, none⟩ = some (.slice Aim im.length cim) ∧ w8.cell? ⟨g1, 3, none⟩ = some (.slice Aco co.length cco) ∧ w8.cell? ⟨g1, 4, none⟩ = some (.slice Ada da.length cda) ∧ w8.cell? ⟨g1, 5, none⟩ = some (.slice Are re.length cre) := ⟨(R8.out.cell HC0.out), (R8.out.cell HC1.out), (R8.out.cell HC2.out), (R8.out.cell HC3.out), (R8.out.cell HC4.out), (R8.out.cell HC5.out)⟩
          refine norm_ (a' := ?_) ?_ ?_
          rotate_left
          · simp only [putAll, Act.put, List.setIfInBounds_toArray, List.set_cons_zero, List.set_cons_succ]
            rfl
          refine one_ (i := 16) (N := some 26) #[true, true, true, true, true, true, true, true, true, true, true, true, true, true, true, true, true, true, true, false, false, false, false, false] rfl rfl (by kernel_rfl) (by decide) (fun K hK => ?_)
          refine goes_ Try.func24 (by kernel_rfl) rfl #[.slice Ada da.length cda] (by rfl) rfl rfl (by simp only [List.map_toArray, List.map_cons, List.map_nil]; rfl) ?_
          with_reducible refine (wire_Words.calls (da.length + 7) Ada cda da p4 _ (Kd.C_below HM.out.r4 (HS.out.trans (R8.out.below.mono HS.out.size))) HM.out.l4 HP4.out).mono ?_
          rintro z9 w26 ⟨v0, rfl, hR, hb_⟩
          obtain ⟨A26, c26, rfl, _⟩ := Kd.R_reads hR
          have R26 := Aside0.mk (R8.out.addR hb_ hR)
          clear hR hb_
          refine ⟨_, rfl, ?_⟩
          refine hK.out _ _ ⟨(R26.out.cell HC0.out), (R26.out.cell HC1.out), (R26.out.cell HC2.out), (R26.out.cell HC3.out), (R26.out.cell HC4.out), (R26.out.cell HC5.out)⟩ (fun hHeld => ?_)
          clear hK K
          refine norm_ (a' := ?_) ?_ ?_
          rotate_left
          · show Act.put _ (some 26) _ = _
            simp only [Act.put, List.setIfInBounds_toArray, List.set_cons_zero, List.set_cons_succ, i64_w, i32_w]
            rfl
          exact norm_ (by first | (simp only [putAll, Act.put, List.setIfInBounds_toArray, List.set_cons_zero, List.set_cons_succ]; done) | (simp only [putAll, Act.put, List.setIfInBounds_toArray, List.set_cons_zero, List.set_cons_succ]; rfl)) (hJ0_1_4_7_10_13_16 (g10, (A14, c14), (A17, c17), (A20, c20), (A23, c23), (A26, c26)) _ ⟨hg10, ⟨R26.out.perm (fun p hp => by simp only [List.mem_cons, List.not_mem_nil, or_false] at hp ⊢; rcases hp with rfl | rfl | rfl | rfl | rfl | rfl <;> simp)⟩⟩)
      · skip
        rintro ⟨g10, ⟨A14, c14⟩, ⟨A17, c17⟩, ⟨A20, c20⟩, ⟨A23, c23⟩, ⟨A26, c26⟩, ⟨A29, c29⟩⟩ w8 ⟨hg10, R8⟩
        try simp only at R8
        try simp only at hg10
        have hHeld : w8.cell? ⟨g1, 0, none⟩ = some (.string nm) ∧ w8.cell? ⟨g1, 1, none⟩ = some (.slice Aex ex.length cex) ∧ w8.cell? ⟨g1, 2, none⟩ = some (.slice Aim im.length cim) ∧ w8.cell? ⟨g1, 3, none⟩ = some (.slice Aco co.length cco) ∧ w8.cell? ⟨g1, 4, none⟩ = some (.slice Ada da.length cda) ∧ w8.cell? ⟨g1, 5, none⟩ = some (.slice Are re.length cre) := ⟨(R8.out.cell HC0.out), (R8.out.cell HC1.out), (R8.out.cell HC2.out), (R8.out.cell HC3.out), (R8.out.cell HC4.out), (R8.out.cell HC5.out)⟩
        refine norm_ (a' := ?_) ?_ ?_
        rotate_left
        · simp only [putAll, Act.put, List.setIfInBounds_toArray, List.set_cons_zero, List.set_cons_succ]
          rfl
        refine one_ (i := 1) (N := some 11) #[true, true, true, true, true, true, true, true, true, true, true, true, true, true, true, true, true, true, true, true, false, false, false, false] rfl rfl (by kernel_rfl) (by decide) (fun K hK => ?_)
        refine rs_conv R8 (g := g10) (n := 4) (c := 4) (by rfl) 11 rfl rfl (by rfl) hg10 ?_
        intro w11 R11
        refine hK.out _ _ ⟨(R11.out.cell HC0.out), (R11.out.cell HC1.out), (R11.out.cell HC2.out), (R11.out.cell HC3.out), (R11.out.cell HC4.out), (R11.out.cell HC5.out)⟩ (fun hHeld => ?_)
        clear hK K
        refine norm_ (a' := ?_) ?_ ?_
        rotate_left
        · show Act.put _ (some 11) _ = _
          simp only [Act.put, List.setIfInBounds_toArray, List.set_cons_zero, List.set_cons_succ, i64_w, i32_w]
          rfl
        exact norm_ (by first | (simp only [putAll, Act.put, List.setIfInBounds_toArray, List.set_cons_zero, List.set_cons_succ]; done) | (simp only [putAll, Act.put, List.setIfInBounds_toArray, List.set_cons_zero, List.set_cons_succ]; rfl)) (hJ0_1_4_7_10_13_16_19 (g10, (A14, c14), (A17, c17), (A20, c20), (A23, c23), (A26, c26), (A29, c29)) _ ⟨hg10, ⟨R11.out.perm (fun p hp => by simp only [List.mem_cons, List.not_mem_nil, or_false] at hp ⊢; rcases hp with rfl | rfl | rfl | rfl | rfl | rfl | rfl <;> simp)⟩⟩)
    · skip
      rintro ⟨g10, ⟨A14, c14⟩, ⟨A17, c17⟩, ⟨A20, c20⟩, ⟨A23, c23⟩, ⟨A26, c26⟩⟩ w8 ⟨hg10, R8⟩
      try simp only at R8
      try simp only at hg10
      have hHeld : w8.cell? ⟨g1, 0, none⟩ = some (.string nm) ∧ w8.cell? ⟨g1, 1, none⟩ = some (.slice Aex ex.length cex) ∧ w8.cell? ⟨g1, 2, none⟩ = some (.slice Aim im.length cim) ∧ w8.cell? ⟨g1, 3, none⟩ = some (.slice Aco co.length cco) ∧ w8.cell? ⟨g1, 4, none⟩ = some (.slice Ada da.length cda) ∧ w8.cell? ⟨g1, 5, none⟩ = some (.slice Are re.length cre) := ⟨(R8.out.cell HC0.out), (R8.out.cell HC1.out), (R8.out.cell HC2.out), (R8.out.cell HC3.out), (R8.out.cell HC4.out), (R8.out.cell HC5.out)⟩
      refine norm_ (a' := ?_) ?_ ?_
      rotate_left
      · simp only [putAll, Act.put, List.setIfInBounds_toArray, List.set_cons_zero, List.set_cons_succ]
        rfl
      refine one_ (i := 19) (N := some 29) #[true, true, true, true, true, true, true, true, true, true, true, true, true, true, true, true, true, true, true, true, false, false, false, false] rfl rfl (by kernel_rfl) (by decide) (fun K hK => ?_)
      refine goes_ Try.func25 (by kernel_rfl) rfl #[.slice Are re.length cre, .func (.func 26) #[] #[]] (by rfl) rfl rfl (by simp only [List.map_toArray, List.map_cons, List.map_nil]; rfl) ?_
      with_reducible refine (layR_l Are cre re p5 HP5.out _ (Kd.C_below HM.out.r5 (HS.out.trans (R8.out.below.mono HS.out.size))) (by have := HO.out.nre; omega)).mono ?_
      rintro z9 w29 ⟨A29, c29, rfl, hO_, _, hb_⟩
      have R29 := Aside0.mk (R8.out.addO hb_ hO_)
      clear hO_ hb_
      refine ⟨_, rfl, ?_⟩
      refine hK.out _ _ ⟨(R29.out.cell HC0.out), (R29.out.cell HC1.out), (R29.out.cell HC2.out), (R29.out.cell HC3.out), (R29.out.cell HC4.out), (R29.out.cell HC5.out)⟩ (fun hHeld => ?_)
      clear hK K
      refine norm_ (a' := ?_) ?_ ?_
      rotate_left
      · show Act.put _ (some 29) _ = _
        simp only [Act.put, List.setIfInBounds_toArray, List.set_cons_zero, List.set_cons_succ, i64_w, i32_w]
        rfl
      exact norm_ (by first | (simp only [putAll, Act.put, List.setIfInBounds_toArray, List.set_cons_zero, List.set_cons_succ]; done) | (simp only [putAll, Act.put, List.setIfInBounds_toArray, List.set_cons_zero, List.set_cons_succ]; rfl)) (hJ0_1_4_7_10_13_16_19 (g10, (A14, c14), (A17, c17), (A20, c20), (A23, c23), (A26, c26), (A29, c29)) _ ⟨hg10, ⟨R29.out.perm (fun p hp => by simp only [List.mem_cons, List.not_mem_nil, or_false] at hp ⊢; rcases hp with rfl | rfl | rfl | rfl | rfl | rfl | rfl <;> simp)⟩⟩)
  rintro ⟨g10, ⟨A14, c14⟩, ⟨A17, c17⟩, ⟨A20, c20⟩, ⟨A23, c23⟩, ⟨A26, c26⟩, ⟨A29, c29⟩⟩ w8 ⟨hg10, R8⟩
  try simp only at R8
  try simp only at hg10
  have hHeld : w8.cell? ⟨g1, 0, none⟩ = some (.string nm) ∧ w8.cell? ⟨g1, 1, none⟩ = some (.slice Aex ex.length cex) ∧ w8.cell? ⟨g1, 2, none⟩ = some (.slice Aim im.length cim) ∧ w8.cell? ⟨g1, 3, none⟩ = some (.slice Aco co.length cco) ∧ w8.cell? ⟨g1, 4, none⟩ = some (.slice Ada da.length cda) ∧ w8.cell? ⟨g1, 5, none⟩ = some (.slice Are re.length cre) := ⟨(R8.out.cell HC0.out), (R8.out.cell HC1.out), (R8.out.cell HC2.out), (R8.out.cell HC3.out), (R8.out.cell HC4.out), (R8.out.cell HC5.out)⟩
  refine norm_ (a' := ?_) ?_ ?_
  rotate_left
  · simp only [putAll, Act.put, List.setIfInBounds_toArray, List.set_cons_zero, List.set_cons_succ]
    rfl
  refine one_ (i := 20) (N := some 30) #[true, true, true, true, true, true, true, true, true, true, true, true, true, true, true, true, true, true, true, true, true, false, false, false] rfl rfl (by kernel_rfl) (by decide) (fun K hK => ?_)
  refine rs_litV (cs := #[.slice (some ⟨g10, 0, none⟩) 4 4, .slice A14 p0.length c14, .slice A17 p1.length c17, .slice A20 p2.length c20, .slice A23 p3.length c23, .slice A26 p4.length c26, .slice A29 p5.length c29]) (t := 30) (n := 7) R8 (by rfl) 30 rfl (by first | (go_simp; done) | (go_simp; rfl)) ?_
  intro g14 w44 hv_ R44
  have HV := Aside0.mk hv_
  clear hv_
  refine hK.out _ _ ⟨(R44.out.cell HC0.out), (R44.out.cell HC1.out), (R44.out.cell HC2.out), (R44.out.cell HC3.out), (R44.out.cell HC4.out), (R44.out.cell HC5.out)⟩ (fun hHeld => ?_)
  clear hK K
  refine norm_ (a' := ?_) ?_ ?_
  rotate_left
  · show Act.put _ (some 30) _ = _
    simp only [Act.put, List.setIfInBounds_toArray, List.set_cons_zero, List.set_cons_succ, i64_w, i32_w]
    rfl
  refine one_ (i := 21) (N := some 31) #[true, true, true, true, true, true, true, true, true, true, true, true, true, true, true, true, true, true, true, true, true, true, false, false] rfl rfl (by kernel_rfl) (by decide) (fun K hK => ?_)
  refine goes_ Try.func21 (by kernel_rfl) rfl #[.slice (some ⟨g14, 0, none⟩) 7 7] (by rfl) rfl rfl (by simp only [List.map_toArray, List.map_cons, List.map_nil]; rfl) ?_
  with_reducible refine (cat7 HV.out (R44.out.rows (some ⟨g10, 0, none⟩, 4, magic) (by simp)).2 (R44.out.rows (A14, c14, p0) (by simp)).2 (R44.out.rows (A17, c17, p1) (by simp)).2 (R44.out.rows (A20, c20, p2) (by simp)).2 (R44.out.rows (A23, c23, p3) (by simp)).2 (R44.out.rows (A26, c26, p4) (by simp)).2 (R44.out.rows (A29, c29, p5) (by simp)).2 HL.out).mono ?_
  rintro z9 w15 ⟨A15, c15, rfl, h1_, h2_, hb_⟩
  have R15 := Aside0.mk (R44.out.keep hb_)
  have HO2 := Aside0.mk h1_
  have HNW := Aside0.mk (fun k hk => Nat.le_trans R44.out.below.size (h2_ k hk))
  clear h1_ h2_ hb_
  refine ⟨_, rfl, ?_⟩
  refine hK.out _ _ ⟨(R15.out.cell HC0.out), (R15.out.cell HC1.out), (R15.out.cell HC2.out), (R15.out.cell HC3.out), (R15.out.cell HC4.out), (R15.out.cell HC5.out)⟩ (fun hHeld => ?_)
  clear hK K
  refine norm_ (a' := ?_) ?_ ?_
  rotate_left
  · show Act.put _ (some 31) _ = _
    simp only [Act.put, List.setIfInBounds_toArray, List.set_cons_zero, List.set_cons_succ, i64_w, i32_w]
    rfl
  refine pure_ (i := 22) (N := some 2) (v := ?_) (a' := ?_) #[true, true, true, true, true, true, true, true, true, true, true, true, true, true, true, true, true, true, true, true, true, true, true, false] rfl rfl (by kernel_rfl) (fun _ _ _ h => h) (Or.inl ⟨by rfl, ?_⟩) ?_ ?_
  rotate_left
  · intro w'
    go_simp
    with_reducible rfl
  rotate_left
  · simp only [Act.put, List.setIfInBounds_toArray, List.set_cons_zero, List.set_cons_succ, i64_w, i32_w]
    rfl
  refine pure_ (i := 23) (N := some 3) (v := ?_) (a' := ?_) #[true, true, true, true, true, true, true, true, true, true, true, true, true, true, true, true, true, true, true, true, true, true, true, true] rfl rfl (by kernel_rfl) (fun _ _ _ h => h) (Or.inl ⟨by rfl, ?_⟩) ?_ ?_
  rotate_left
  · intro w'
    go_simp
    with_reducible rfl
  rotate_left
  · simp only [Act.put, List.setIfInBounds_toArray, List.set_cons_zero, List.set_cons_succ, i64_w, i32_w]
    rfl
  refine done_ (by kernel_rfl) ?_

  go_wp2
  refine retN (rs := [.tmp 2, .tmp 3]) rfl rfl ?_ (.tmp (.tmp .nil)) ?_
  · simp
  exact ⟨A15, c15, by first | rfl | (simp; done) | (simp; omega), HO2.out, fun k hk => Nat.le_trans HS.out.size (HNW.out k hk), HS.out.trans (R15.out.below.mono HS.out.size)⟩
end Go.Proofs.Ytkoimdgpicmakaa.Ob
