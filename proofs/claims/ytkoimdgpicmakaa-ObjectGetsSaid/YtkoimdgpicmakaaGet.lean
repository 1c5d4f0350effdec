/- Lists are read (object.list). -/
import Derived.Test.YtkoimdgpicmakaaZCa
import Derived.RegionTactic
import Derived.BigRegion
import Derived.Test.YtkoimdgpicmakaaZRd
import Derived.Test.YtkoimdgpicmakaaZPu
namespace Go.Proofs.Ytkoimdgpicmakaa.Ob
open Go.Proofs.Ytkoimdgpicmakaa.Reader
open Go.RowKit Go.Proofs.Ytkoimdgpicmakaa.Sep Go.Proofs.YtkoimdgpicmakaaW.PrintWords Go.Proofs.YtkoimdgpicmakaaW.PrintLast Go.Proofs.Ytkoimdgpicmakaa.Wm Go.Proofs.Ytkoimdgpicmakaa.Ev Go.Proofs.Ytkoimdgpicmakaa.Ty Go.Proofs.Ytkoimdgpicmakaa.PB
set_option linter.unusedVariables false
set_option linter.unusedSimpArgs false

/-- Rows read the same where their block is the same. -/
theorem C_blk {k : IntKind} {W W' : World} {A : Option Addr} {n : Nat} {xs : List Int} (h : Kd.C (Kd.int k) W A n xs) (hb : ∀ ad, A = some ad → 0 < n → W'.heap[ad.block]? = W.heap[ad.block]?) : Kd.C (Kd.int k) W' A n xs := by
  refine ⟨h.1, h.2.1, fun hn => ?_⟩
  obtain ⟨ad, e, hr⟩ := h.2.2 hn
  have hb := hb ad e hn
  refine ⟨ad, e, fun j p hj => ?_⟩
  obtain ⟨cs, h1, h2, h3⟩ := hr j p hj
  refine ⟨cs, h1, h2, fun i u hi => ?_⟩
  have h4 := h3 i u hi
  have e2 : (ad.add (j * (Kd.int k).sz + i)).block = ad.block := by unfold Addr.add; split <;> rfl
  unfold World.cell? at h4 ⊢
  rw [e2] at h4 ⊢
  rw [hb]
  exact h4
/-- A reader, its bytes as they lay at w. -/
def RdX (B : Nat) (w : World) (g : Nat) (xs : List Int) (e : Int) : Asn where
  foot k := k = g
  pred W := ∃ A c, At W g A xs.length c e ∧ xs.length ≤ c ∧ Kd.C (Kd.int .u8) w A xs.length xs ∧ (∀ ad, A = some ad → 0 < xs.length → ad.block ≠ g ∧ ad.block < B) ∧ g < B
  move h hp := by
    obtain ⟨A, c, h1, h2⟩ := hp
    exact ⟨A, c, (h g rfl).trans h1, h2⟩
  lt hp k hk := by
    obtain ⟨A, c, h1, _⟩ := hp
    subst hk
    exact (Array.getElem?_eq_some_iff.1 h1).1
theorem RdX.foot_iff {B k : Nat} {w : World} {g : Nat} {xs : List Int} {e : Int} : (RdX B w g xs e).foot k ↔ k = g := Iff.rfl
theorem RdX.mk {B : Nat} {w : World} {g : Nat} {xs : List Int} {e : Int} (h : Rd B w g xs e) : (RdX B w g xs e).pred w := h
theorem RdX.open {B : Nat} {w W : World} {g : Nat} {xs : List Int} {e : Int} (h : (RdX B w g xs e).pred W) : ∃ A c, At W g A xs.length c e ∧ xs.length ≤ c ∧ Kd.C (Kd.int .u8) w A xs.length xs ∧ (∀ ad, A = some ad → 0 < xs.length → ad.block ≠ g ∧ ad.block < B) ∧ g < B := h
theorem RdX.of {B : Nat} {w W : World} {g : Nat} {xs : List Int} {e : Int} (h : ∃ A c, At W g A xs.length c e ∧ xs.length ≤ c ∧ Kd.C (Kd.int .u8) w A xs.length xs ∧ (∀ ad, A = some ad → 0 < xs.length → ad.block ≠ g ∧ ad.block < B) ∧ g < B) : (RdX B w g xs e).pred W := h
attribute [irreducible] RdX
section
variable {B : Nat} {w W W' : World} {g : Nat} {xs xs' : List Int} {e e' : Int} {L : List Asn} {F F2 : Asn → List Asn}
theorem rx_start (h : Rd B w g xs e) : Aside0 (St 0 w w [RdX B w g xs e, Still w (fun k => ¬ k = g)]) :=
  ⟨((St.start0 w).cons (Still w (fun k => ¬ k = g)) (fun _ _ _ => rfl) (fun k _ => Nat.zero_le k) (fun b hb => by cases hb)).cons _ (RdX.mk h) (fun k _ => Nat.zero_le k)
    (fun b hb k h1 h2 => by
      rcases List.mem_singleton.1 hb with rfl
      exact h2.1 (RdX.foot_iff.1 h1))⟩
theorem rx_turn (S : Aside0 (St 0 w W L)) (hs : Spot L (Still w (fun k => ¬ k = g)) F) : Turn w W g :=
  ⟨S.out.below.os, S.out.below.tape, S.out.below.output, S.out.below.size, fun k h1 h2 => pred_at S.out hs k h2 h1⟩
theorem rx_at (S : Aside0 (St 0 w W L)) (hB : B ≤ w.heap.size) (h1 : Spot L (RdX B w g xs e) F) (h2 : Spot L (Still w (fun k => ¬ k = g)) F2) : Rd B W g xs e := by
  obtain ⟨A, c, k1, k2, k3, k4, k5⟩ := RdX.open (pred_at S.out h1)
  have T := rx_turn S h2
  exact ⟨A, c, k1, k2, C_blk k3 (fun ad ha hn => T.block _ (Nat.lt_of_lt_of_le (k4 ad ha hn).2 hB) (k4 ad ha hn).1), k4, k5⟩
theorem rx_pred (T : Turn w W' g) (hB : B ≤ w.heap.size) (h : Rd B W' g xs' e') : (RdX B w g xs' e').pred W' := by
  obtain ⟨A, c, k1, k2, k3, k4, k5⟩ := h
  exact RdX.of ⟨A, c, k1, k2, C_blk k3 (fun ad ha hn => (T.block _ (Nat.lt_of_lt_of_le (k4 ad ha hn).2 hB) (k4 ad ha hn).1).symm), k4, k5⟩
theorem rx_step (S : Aside0 (St 0 w W L)) (hB : B ≤ w.heap.size) (h1 : Spot L (RdX B w g xs e) F) (h2 : Spot L (Still w (fun k => ¬ k = g)) F2) (h : Rd B W' g xs' e') (T : Turn W W' g) : Aside0 (St 0 w W' (F (RdX B w g xs' e'))) :=
  ⟨turn_at S.out h1 T.os T.tape T.output T.size (fun k hk hn => T.block k hk (fun e => hn (RdX.foot_iff.2 e))) (rx_pred ((rx_turn S h2).trans T) hB h) (fun k hk => .inl (RdX.foot_iff.2 (RdX.foot_iff.1 hk)))⟩
theorem var_rx (S : Aside0 (St 0 w W L)) (hB : B ≤ w.heap.size) (h1 : Spot L (RdX B w g xs e) F) (h2 : Spot L (Still w (fun k => ¬ k = g)) F2) (most : Int) {n : Int} {ys : List Int} {f : Int} (hv : rVar xs e most = (ys, f, n)) :
    Calls Try.prog 43 #[.pointer (some ⟨g, 0, none⟩), .int .u32 most] W fun z W' => z = .returned (.int .u32 n) ∧ Aside0 (St 0 w W' (F (RdX B w g ys f))) := by
  refine (varR g xs e most W (rx_at S hB h1 h2)).mono ?_
  rw [hv]
  rintro z W' ⟨rfl, hR, hT⟩
  exact ⟨rfl, rx_step S hB h1 h2 hR hT⟩
theorem text_rx (S : Aside0 (St 0 w W L)) (hB : B ≤ w.heap.size) (h1 : Spot L (RdX B w g xs e) F) (h2 : Spot L (Still w (fun k => ¬ k = g)) F2) (most : Int) {n ys : List Int} {f : Int} (hv : rText xs e most = (ys, f, n)) :
    Calls Try.prog 40 #[.pointer (some ⟨g, 0, none⟩), .int .i64 most] W fun z W' => z = .returned (.string (strOfNums n)) ∧ Aside0 (St 0 w W' (F (RdX B w g ys f))) := by
  refine (textR g xs e most W (rx_at S hB h1 h2) (Nat.le_trans hB S.out.below.size)).mono ?_
  rw [hv]
  rintro z W' ⟨rfl, hR, hT⟩
  exact ⟨rfl, rx_step S hB h1 h2 hR hT⟩
theorem err_rx (S : Aside0 (St 0 w W L)) (hB : B ≤ w.heap.size) (h1 : Spot L (RdX B w g xs e) F) (h2 : Spot L (Still w (fun k => ¬ k = g)) F2) :
    Calls Try.prog 47 #[.pointer (some ⟨g, 0, none⟩)] W fun z W' => z = .returned (.int .i64 e) ∧ Aside0 (St 0 w W' L) := by
  refine (errR g xs e W (rx_at S hB h1 h2)).mono ?_
  rintro z W' ⟨rfl, rfl⟩
  exact ⟨rfl, S⟩
end
/-- What reading a reloc does. -/
def rRel (xs : List Int) (e : Int) : List Int × Int × S50 :=
  ((rVar (rVar (rVar xs e 7).1 (rVar xs e 7).2.1 65535).1 (rVar (rVar xs e 7).1 (rVar xs e 7).2.1 65535).2.1 65535).1,
   (rVar (rVar (rVar xs e 7).1 (rVar xs e 7).2.1 65535).1 (rVar (rVar xs e 7).1 (rVar xs e 7).2.1 65535).2.1 65535).2.1,
   ⟨(rVar xs e 7).2.2 % 256, (rVar (rVar xs e 7).1 (rVar xs e 7).2.1 65535).2.2 % 65536, (rVar (rVar (rVar xs e 7).1 (rVar xs e 7).2.1 65535).1 (rVar (rVar xs e 7).1 (rVar xs e 7).2.1 65535).2.1 65535).2.2 % 65536⟩)
/-- What reading a list does. -/
def rList {α : Type} (one : List Int → Int → List Int × Int × α) : Nat → List Int → Int → List Int × Int × List α
  | 0, xs, e => (xs, e, [])
  | n + 1, xs, e => if e = 0 then ((rList one n (one xs e).1 (one xs e).2.1).1, (rList one n (one xs e).1 (one xs e).2.1).2.1, (one xs e).2.2 :: (rList one n (one xs e).1 (one xs e).2.1).2.2) else (xs, e, [])

theorem kind_calls {B : Nat} (g : Nat) (xs : List Int) (e : Int) (w : World) (h : Rd B w g xs e) (hB : B ≤ w.heap.size) {n : Int} {ys : List Int} {f : Int} (hv : rVar xs e 7 = (ys, f, n)) :
    Calls Try.prog 42 #[.pointer (some ⟨g, 0, none⟩)] w fun z w' => z = .returned (.int .u8 (n % 256)) ∧ Rd B w' g ys f ∧ Turn w w' g := by
  have S := rx_start h
  have HV := Aside0.mk hv
  clear h hv
  go_enter Try.func42, Try.ntmps42
  go_wp2_with (first | (go_at_call 43; (with_reducible refine (var_rx S hB (by repeat (first | exact Spot.here _ _ | apply Spot.there)) (by repeat (first | exact Spot.here _ _ | apply Spot.there)) _ HV.out).mono ?_); rintro z_ w_ ⟨rfl, S_⟩; clear S; have S := S_; clear S_))
  go_ret
  exact ⟨rfl, rx_at S hB (by repeat (first | exact Spot.here _ _ | apply Spot.there)) (by repeat (first | exact Spot.here _ _ | apply Spot.there)), rx_turn S (by repeat (first | exact Spot.here _ _ | apply Spot.there))⟩
theorem text39_calls {B : Nat} (g gt : Nat) (xs : List Int) (e : Int) (w : World) (h : Rd B w g xs e) (hB : B ≤ w.heap.size) (hp : w.cell? ⟨gt, 0, none⟩ = some (.pointer (some ⟨g, 0, none⟩))) {n ys : List Int} {f : Int} (hv : rText xs e 96 = (ys, f, n)) :
    Calls Try.prog 39 #[.pointer (some ⟨gt, 0, none⟩)] w fun z w' => z = .returned (.string (strOfNums n)) ∧ Rd B w' g ys f ∧ Turn w w' g := by
  have S := rx_start h
  have HV := Aside0.mk hv
  have HP := Aside0.mk hp
  clear h hv hp
  go_enter Try.func39, Try.ntmps39
  go_wp2_with (first | (refine ev_load1 ?_ rfl o67 rfl HP.out ?_; (first | exact want0 rfl | exact want1 rfl rfl rfl rfl)) | (refine ev_own1 S ?_ rfl o67 rfl (by repeat (first | exact Spot.here _ _ | apply Spot.there)) (by exact rfl) ?_; (first | exact want0 rfl | exact want1 rfl rfl rfl rfl)) | (go_at_call 40; (with_reducible refine (text_rx S hB (by repeat (first | exact Spot.here _ _ | apply Spot.there)) (by repeat (first | exact Spot.here _ _ | apply Spot.there)) _ HV.out).mono ?_); rintro z_ w_ ⟨rfl, S_⟩; clear S; have S := S_; clear S_))
  go_ret
  exact ⟨rfl, rx_at S hB (by repeat (first | exact Spot.here _ _ | apply Spot.there)) (by repeat (first | exact Spot.here _ _ | apply Spot.there)), rx_turn S (by repeat (first | exact Spot.here _ _ | apply Spot.there))⟩

theorem old0_ {w W : World} {g gt : Nat} {v : Value} {L : List Asn} {F : Asn → List Asn} (S : Aside0 (St 0 w W L)) (hp : w.cell? ⟨gt, 0, none⟩ = some v) (hs : Spot L (Still w (fun k => ¬ k = g)) F) (hne : ¬ gt = g) : W.cell? ⟨gt, 0, none⟩ = some v := by
  have hl : gt < w.heap.size := World.block_lt_of_cell? w _ hp
  have T := (rx_turn S hs).block gt hl hne
  unfold World.cell? at hp ⊢
  simp only at hp ⊢
  rw [T]
  exact hp
theorem kind_rx {B : Nat} {w W : World} {g : Nat} {xs : List Int} {e : Int} {L : List Asn} {F F2 : Asn → List Asn} (S : Aside0 (St 0 w W L)) (hB : B ≤ w.heap.size) (h1 : Spot L (RdX B w g xs e) F) (h2 : Spot L (Still w (fun k => ¬ k = g)) F2) {n : Int} {ys : List Int} {f : Int} (hv : rVar xs e 7 = (ys, f, n)) :
    Calls Try.prog 42 #[.pointer (some ⟨g, 0, none⟩)] W fun z W' => z = .returned (.int .u8 (n % 256)) ∧ Aside0 (St 0 w W' (F (RdX B w g ys f))) := by
  refine (kind_calls g xs e W (rx_at S hB h1 h2) (Nat.le_trans hB S.out.below.size) hv).mono ?_
  rintro z W' ⟨rfl, hR, hT⟩
  exact ⟨rfl, rx_step S hB h1 h2 hR hT⟩
set_option maxRecDepth 100000 in
set_option maxHeartbeats 4000000 in
theorem rel41_calls {B : Nat} (g gt : Nat) (xs : List Int) (e : Int) (w : World) (h : Rd B w g xs e) (hB : B ≤ w.heap.size) (hp : w.cell? ⟨gt, 0, none⟩ = some (.pointer (some ⟨g, 0, none⟩))) (hne : ¬ gt = g) {ys : List Int} {f : Int} {x : S50} (hv : rRel xs e = (ys, f, x)) :
    Calls Try.prog 41 #[.pointer (some ⟨gt, 0, none⟩)] w fun z w' => z = .returned (.agg #[.int .u8 x.f0, .int .u16 x.f1, .int .u16 x.f2]) ∧ Rd B w' g ys f ∧ Turn w w' g := by
  have S := rx_start h
  have HP := Aside0.mk hp
  unfold rRel at hv
  rcases hv1 : rVar xs e 7 with ⟨y1, f1, n1⟩
  rw [hv1] at hv
  simp only at hv
  rcases hv2 : rVar y1 f1 65535 with ⟨y2, f2, n2⟩
  rw [hv2] at hv
  simp only at hv
  rcases hv3 : rVar y2 f2 65535 with ⟨y3, f3, n3⟩
  rw [hv3] at hv
  simp only at hv
  injection hv with e1 hv
  injection hv with e2 e3
  subst e1 e2 e3
  have HV1 := Aside0.mk hv1
  have HV2 := Aside0.mk hv2
  have HV3 := Aside0.mk hv3
  clear h hp hv1 hv2 hv3
  go_enter Try.func41, Try.ntmps41
  go_wp2_with (first | ((with_reducible refine gate_dst (N := 1) rfl ?_); refine ev_alloc #[.int .u8 0, .int .u16 0, .int .u16 0] rfl S ?_ 1 rfl rfl z50 ?_; (first | exact want0 rfl | exact want1 rfl rfl rfl rfl); intro g1 w1 S_; clear S; have S := S_; clear S_) | (refine ev_own1 S ?_ rfl o67 rfl (by repeat (first | exact Spot.here _ _ | apply Spot.there)) (by exact rfl) ?_; (first | exact want0 rfl | exact want1 rfl rfl rfl rfl)) | (refine ev_puts S ?_ rfl rfl s50 rfl rfl (by repeat (first | exact Spot.here _ _ | apply Spot.there)) rfl ?_ ?_ ?_; (first | exact want0 rfl | exact want1 rfl rfl rfl rfl); rfl; rfl; intro w_ S_; simp only [putAt, List.set_cons_zero, List.set_cons_succ] at S_; clear S; have S := S_; clear S_))
  have S2 := Aside0.mk S.out.drew
  clear S
  refine start_ (n := 10) (S := fun w' => w'.cell? ⟨gt, 0, none⟩ = some (.pointer (some ⟨g, 0, none⟩))) (ds := []) #[false, false, false, false, false, false, false, false, false, false] (by kernel_rfl) rfl rfl ((old0_ S2 HP.out (by repeat (first | exact Spot.here _ _ | apply Spot.there)) hne)) (fun hHeld => ?_)
  refine take_ (i := 0) (N := some 2) (v := ?_) (a' := ?_) #[true, false, false, false, false, false, false, false, false, false] rfl rfl (by kernel_rfl) (fun _ _ _ h => h) (Or.inl ⟨by rfl, ?_⟩) hHeld ?_ ?_
  rotate_left
  · intro w' s0
    go_simp
    with_reducible rfl
  rotate_left
  · simp only [Act.put, List.setIfInBounds_toArray, List.set_cons_zero, List.set_cons_succ, i64_w, i32_w]
    rfl
  refine take_ (i := 2) (N := some 4) (v := ?_) (a' := ?_) #[true, false, true, false, false, false, false, false, false, false] rfl rfl (by kernel_rfl) (fun _ _ _ h => h) (Or.inl ⟨by rfl, ?_⟩) hHeld ?_ ?_
  rotate_left
  · intro w' s0
    go_simp
    with_reducible rfl
  rotate_left
  · simp only [Act.put, List.setIfInBounds_toArray, List.set_cons_zero, List.set_cons_succ, i64_w, i32_w]
    rfl
  refine take_ (i := 5) (N := some 7) (v := ?_) (a' := ?_) #[true, false, true, false, false, true, false, false, false, false] rfl rfl (by kernel_rfl) (fun _ _ _ h => h) (Or.inl ⟨by rfl, ?_⟩) hHeld ?_ ?_
  rotate_left
  · intro w' s0
    go_simp
    with_reducible rfl
  rotate_left
  · simp only [Act.put, List.setIfInBounds_toArray, List.set_cons_zero, List.set_cons_succ, i64_w, i32_w]
    rfl
  refine one_ (i := 1) (N := some 3) #[true, true, true, false, false, true, false, false, false, false] rfl rfl (by kernel_rfl) (by decide) (fun K hK => ?_)
  refine goes_ Try.func42 (by kernel_rfl) rfl #[.pointer (some ⟨g, 0, none⟩)] (by rfl) rfl rfl (by simp only [List.map_toArray, List.map_cons, List.map_nil]; rfl) ?_
  with_reducible refine (kind_rx S2 hB (by repeat (first | exact Spot.here _ _ | apply Spot.there)) (by repeat (first | exact Spot.here _ _ | apply Spot.there)) HV1.out).mono ?_
  rintro z9 w3 ⟨rfl, S3⟩
  (try dsimp only at S3)
  refine ⟨_, rfl, ?_⟩
  refine hK.out _ _ ((old0_ S3 HP.out (by repeat (first | exact Spot.here _ _ | apply Spot.there)) hne)) (fun hHeld => ?_)
  clear hK K
  refine norm_ (a' := ?_) ?_ ?_
  rotate_left
  · show Act.put _ (some 3) _ = _
    simp only [Act.put, List.setIfInBounds_toArray, List.set_cons_zero, List.set_cons_succ, i64_w, i32_w]
    rfl
  refine one_ (i := 3) (N := some 5) #[true, true, true, true, false, true, false, false, false, false] rfl rfl (by kernel_rfl) (by decide) (fun K hK => ?_)
  refine goes_ Try.func43 (by kernel_rfl) rfl #[.pointer (some ⟨g, 0, none⟩), .int .u32 65535] (by rfl) rfl rfl (by simp only [List.map_toArray, List.map_cons, List.map_nil]; rfl) ?_
  with_reducible refine (var_rx S3 hB (by repeat (first | exact Spot.here _ _ | apply Spot.there)) (by repeat (first | exact Spot.here _ _ | apply Spot.there)) 65535 HV2.out).mono ?_
  rintro z9 w5 ⟨rfl, S5⟩
  (try dsimp only at S5)
  refine ⟨_, rfl, ?_⟩
  refine hK.out _ _ ((old0_ S5 HP.out (by repeat (first | exact Spot.here _ _ | apply Spot.there)) hne)) (fun hHeld => ?_)
  clear hK K
  refine norm_ (a' := ?_) ?_ ?_
  rotate_left
  · show Act.put _ (some 5) _ = _
    simp only [Act.put, List.setIfInBounds_toArray, List.set_cons_zero, List.set_cons_succ, i64_w, i32_w]
    rfl
  refine pure_ (i := 4) (N := some 6) (v := ?_) (a' := ?_) #[true, true, true, true, true, true, false, false, false, false] rfl rfl (by kernel_rfl) (fun _ _ _ h => h) (Or.inl ⟨by rfl, ?_⟩) ?_ ?_
  rotate_left
  · intro w'
    go_simp
    with_reducible rfl
  rotate_left
  · simp only [Act.put, List.setIfInBounds_toArray, List.set_cons_zero, List.set_cons_succ, i64_w, i32_w]
    rfl
  refine one_ (i := 6) (N := some 8) #[true, true, true, true, true, true, true, false, false, false] rfl rfl (by kernel_rfl) (by decide) (fun K hK => ?_)
  refine goes_ Try.func43 (by kernel_rfl) rfl #[.pointer (some ⟨g, 0, none⟩), .int .u32 65535] (by rfl) rfl rfl (by simp only [List.map_toArray, List.map_cons, List.map_nil]; rfl) ?_
  with_reducible refine (var_rx S5 hB (by repeat (first | exact Spot.here _ _ | apply Spot.there)) (by repeat (first | exact Spot.here _ _ | apply Spot.there)) 65535 HV3.out).mono ?_
  rintro z9 w8 ⟨rfl, S8⟩
  (try dsimp only at S8)
  refine ⟨_, rfl, ?_⟩
  refine hK.out _ _ ((old0_ S8 HP.out (by repeat (first | exact Spot.here _ _ | apply Spot.there)) hne)) (fun hHeld => ?_)
  clear hK K
  refine norm_ (a' := ?_) ?_ ?_
  rotate_left
  · show Act.put _ (some 8) _ = _
    simp only [Act.put, List.setIfInBounds_toArray, List.set_cons_zero, List.set_cons_succ, i64_w, i32_w]
    rfl
  refine pure_ (i := 7) (N := some 9) (v := ?_) (a' := ?_) #[true, true, true, true, true, true, true, true, false, false] rfl rfl (by kernel_rfl) (fun _ _ _ h => h) (Or.inl ⟨by rfl, ?_⟩) ?_ ?_
  rotate_left
  · intro w'
    go_simp
    with_reducible rfl
  rotate_left
  · simp only [Act.put, List.setIfInBounds_toArray, List.set_cons_zero, List.set_cons_succ, i64_w, i32_w]
    rfl
  refine pure_ (i := 8) (N := some 10) (v := ?_) (a' := ?_) #[true, true, true, true, true, true, true, true, true, false] rfl rfl (by kernel_rfl) (fun _ _ _ h => h) (Or.inl ⟨by rfl, ?_⟩) ?_ ?_
  rotate_left
  · intro w'
    go_simp
    with_reducible rfl
  rotate_left
  · simp only [Act.put, List.setIfInBounds_toArray, List.set_cons_zero, List.set_cons_succ, i64_w, i32_w]
    rfl
  refine one_ (i := 9) (N := none) #[true, true, true, true, true, true, true, true, true, true] rfl rfl (by kernel_rfl) (by decide) (fun K hK => ?_)
  refine st_puts (g := g1) S8 (by rfl) rfl rfl s50 rfl rfl (by repeat (first | exact Spot.here _ _ | apply Spot.there)) rfl (by rfl) (by rfl) ?_
  intro w10 S10
  simp only [putAt, List.set_cons_zero, List.set_cons_succ] at S10
  refine hK.out _ _ ((old0_ S10 HP.out (by repeat (first | exact Spot.here _ _ | apply Spot.there)) hne)) (fun hHeld => ?_)
  clear hK K
  refine done_ (by kernel_rfl) ?_

  clear S2 S3 S5 S8
  have S := S10
  clear S10
  go_wp2
  refine ret1 (r := .cell 1 50) rfl rfl (Bk.vals S rfl (by repeat (first | exact Spot.here _ _ | apply Spot.there)) m50 (by exact rfl) .nil) ?_
  exact ⟨rfl, rx_at S hB (by repeat (first | exact Spot.here _ _ | apply Spot.there)) (by repeat (first | exact Spot.here _ _ | apply Spot.there)), rx_turn S (by repeat (first | exact Spot.here _ _ | apply Spot.there))⟩

section
variable {P : Program} {ops : Array Oper} {rest : List Oper} {o : Oper} {a : Act} {Q : Exit → Act → World → Prop} {B : Nat} {w W : World} {L : List Asn} {F : Asn → List Asn}
/-- A literal row, as a block. -/
theorem ev_litB {cs : Array Value} {t : TypeId} {n : Nat} (S : Aside0 (St B w W L)) (hw : Region.wanted o (yielded ops a.tmps) = true) (N : Tmp) (hN : o.dst = some N)
    (hrun : (execOp a.eval o).run P W = .ok (.value (.slice (some ⟨W.heap.size, 0, none⟩) n n)) (W.alloc (.cells cs t (0, 0))))
    (h : ∀ g w1, Aside0 (St B w w1 (Bk g cs t :: L)) → wpList P ops Q rest (a.put (some N) (.slice (some ⟨g, 0, none⟩) n n)) w1) : wpList P ops Q (o :: rest) a W := by
  refine wpList_step fun K hK => ?_
  rw [if_pos hw]
  unfold Oper.wp
  simp only [hrun]
  refine hK _ _ ?_
  rw [hN]
  exact h _ _ ⟨St.newBk S.out cs t⟩
theorem C_one {α : Type} {d : Kd α} {g : Nat} {x : α} {cs : List Value} {t : TypeId} {W : World} (h : (Bk g cs.toArray t).pred W) (hK : d.K W x cs) : Kd.C d W (some ⟨g, 0, none⟩) 1 [x] := by
  refine ⟨rfl, by omega, fun _ => ⟨_, rfl, fun j p hj => ?_⟩⟩
  rcases j with _ | j
  · obtain rfl := Option.some.inj hj
    refine ⟨cs, d.K_len hK, hK, fun i u hi => ?_⟩
    have e : (⟨g, 0, none⟩ : Addr).add (0 * d.sz + i) = ⟨g, i, none⟩ := by unfold Addr.add; simp; omega
    rw [e]
    exact (cell_blk (Bk.heap h) i).trans (by simpa using hi)
  · simp at hj
theorem add_nil {α : Type} (d : Kd α) (e : Nat) {B : Nat} {w W : World} {L : List Asn} (S : St B w W L) : St B w W (Ow d e none 0 ([] : List α) :: L) :=
  S.cons _ (Ow.nil _ _ _) (fun k hk => (Ow.nil_foot d e (fun _ => False) k hk).elim) (fun b hb k h1 h2 => (Ow.nil_foot d e (fun _ => False) k h1).elim)
end
theorem info9 : (Try.prog.info? 9).map (fun i => (i.zero, i.size, i.bytes)) = some (some (.string ⟨#[]⟩), 1, 16) := by kernel_rfl
theorem info50 : (Try.prog.info? 50).map (fun i => (i.zero, i.size, i.bytes)) = some (some (.agg #[.int .u8 0, .int .u16 0, .int .u16 0]), 3, 6) := by kernel_rfl
def one39 (xs : List Int) (e : Int) : List Int × Int × ByteArray := ((rText xs e 96).1, (rText xs e 96).2.1, strOfNums (rText xs e 96).2.2)
section
variable {B : Nat} {w W : World} {g gt : Nat} {xs : List Int} {e : Int} {L : List Asn} {F F2 : Asn → List Asn}
theorem text39_rx (S : Aside0 (St 0 w W L)) (hB : B ≤ w.heap.size) (h1 : Spot L (RdX B w g xs e) F) (h2 : Spot L (Still w (fun k => ¬ k = g)) F2) (hp : w.cell? ⟨gt, 0, none⟩ = some (.pointer (some ⟨g, 0, none⟩))) (hne : ¬ gt = g) {x : ByteArray} {ys : List Int} {f : Int} (hv : one39 xs e = (ys, f, x)) :
    Calls Try.prog 39 #[.pointer (some ⟨gt, 0, none⟩)] W fun z W' => z = .returned (.string x) ∧ Aside0 (St 0 w W' (F (RdX B w g ys f))) := by
  unfold one39 at hv
  rcases h : rText xs e 96 with ⟨y1, f1, n1⟩
  rw [h] at hv
  simp only at hv
  injection hv with e1 hv
  injection hv with e2 e3
  subst e1 e2 e3
  refine (text39_calls g gt xs e W (rx_at S hB h1 h2) (Nat.le_trans hB S.out.below.size) (old0_ S hp h2 hne) h).mono ?_
  rintro z W' ⟨rfl, hR, hT⟩
  exact ⟨rfl, rx_step S hB h1 h2 hR hT⟩
theorem rel41_rx (S : Aside0 (St 0 w W L)) (hB : B ≤ w.heap.size) (h1 : Spot L (RdX B w g xs e) F) (h2 : Spot L (Still w (fun k => ¬ k = g)) F2) (hp : w.cell? ⟨gt, 0, none⟩ = some (.pointer (some ⟨g, 0, none⟩))) (hne : ¬ gt = g) {x : S50} {ys : List Int} {f : Int} (hv : rRel xs e = (ys, f, x)) :
    Calls Try.prog 41 #[.pointer (some ⟨gt, 0, none⟩)] W fun z W' => z = .returned (.agg #[.int .u8 x.f0, .int .u16 x.f1, .int .u16 x.f2]) ∧ Aside0 (St 0 w W' (F (RdX B w g ys f))) := by
  refine (rel41_calls g gt xs e W (rx_at S hB h1 h2) (Nat.le_trans hB S.out.below.size) (old0_ S hp h2 hne) hne hv).mono ?_
  rintro z W' ⟨rfl, hR, hT⟩
  exact ⟨rfl, rx_step S hB h1 h2 hR hT⟩
end

theorem rx_new {B : Nat} {w W : World} {g : Nat} {xs : List Int} {e : Int} {L : List Asn} {a : Asn} (S : Aside0 (St 0 w W L)) (h1 : Two L a (RdX B w g xs e)) (h2 : Two L a (Still w (fun k => ¬ k = g))) : ∀ k, a.foot k → w.heap.size ≤ k := fun k hk => by
  by_cases hl : k < w.heap.size
  · by_cases hg : k = g
    · exact (apart_at S.out h1 k hk (RdX.foot_iff.2 hg)).elim
    · exact (apart_at S.out h2 k hk ⟨hg, hl⟩).elim
  · omega

set_option maxRecDepth 100000 in
set_option maxHeartbeats 4000000 in
theorem list44_calls {B : Nat} (g gt : Nat) (xs : List Int) (e : Int) (w : World) (h : Rd B w g xs e) (hB : B ≤ w.heap.size) (hp : w.cell? ⟨gt, 0, none⟩ = some (.pointer (some ⟨g, 0, none⟩))) (hne : ¬ gt = g) (most : Int) {ys : List Int} {f : Int} {n : Nat} (hv : rVar xs e most = (ys, f, (n : Int))) (hn : n < 4294967296) {zs : List Int} {f2 : Int} {l : List ByteArray} (hl : rList one39 n ys f = (zs, f2, l)) :
    Calls Try.prog 44 #[.pointer (some ⟨g, 0, none⟩), .int .u32 most, .func (.func 39) #[] #[.pointer (some ⟨gt, 0, none⟩)]] w fun z w' => ∃ A c, z = .returned (.slice A l.length c) ∧ (Ow Kd.string 9 A c l).pred w' ∧ (∀ k, (Ow Kd.string 9 A c l).foot k → w.heap.size ≤ k) ∧ Rd B w' g zs f2 ∧ Turn w w' g := by
  have S0 := rx_start h
  have S := Aside0.mk (add_nil Kd.string 9 S0.out)
  have HV := Aside0.mk hv
  have HP := Aside0.mk hp
  have HL := Aside0.mk hl
  clear h hv hp hl S0
  go_enter Try.func44, Try.ntmps44
  go_wp2_with (first | ((with_reducible refine gate_dst (N := 24) rfl ?_); refine ev_litB (cs := #[.string x]) (t := 9) (n := 1) S ?_ 24 rfl (by first | (go_simp; done) | (go_simp; rfl)) ?_; (first | exact want0 rfl | exact want1 rfl rfl rfl rfl); intro g24 w24 S_; clear S; have S := S_; clear S_) | (((with_reducible refine gate_builtin (b := .append) (xs := #[.tmp 21, .tmp 24]) rfl ?_); at_builtin; refine ev_rows (enc := Value.string) (h1 := fun _ => rfl) ByteArray.empty (.tmp 21) (.tmp 24) 22 (.string ⟨#[]⟩) 16 (n := acc.length) (xs := acc) (ys := [x]) S rfl rfl Try.underlying22 info9 rfl (by decide) rfl rfl (by repeat (first | exact Spot.here _ _ | apply Spot.there)) rfl (C_one (d := Kd.string) (g := g24) (x := x) (cs := [.string x]) (t := 9) (pred_at S.out (by repeat (first | exact Spot.here _ _ | apply Spot.there))) rfl) hcap ?_; intro A25 c25 w_ S_; clear S; have S := S_; clear S_)) | (go_at_call 43; (with_reducible refine (var_rx S hB (by repeat (first | exact Spot.here _ _ | apply Spot.there)) (by repeat (first | exact Spot.here _ _ | apply Spot.there)) most HV.out).mono ?_); rintro z_ w_ ⟨rfl, S_⟩; clear S; have S := S_; clear S_) | (go_at_call 47; (with_reducible refine (err_rx S hB (by repeat (first | exact Spot.here _ _ | apply Spot.there)) (by repeat (first | exact Spot.here _ _ | apply Spot.there))).mono ?_); rintro z_ w_ ⟨rfl, S_⟩; clear S; have S := S_; clear S_) | (go_at_call 39; (with_reducible refine (text39_rx S hB (by repeat (first | exact Spot.here _ _ | apply Spot.there)) (by repeat (first | exact Spot.here _ _ | apply Spot.there)) HP.out hne HO.out).mono ?_); rintro z_ w_ ⟨rfl, S_⟩; clear S; have S := S_; clear S_))
  go_loopw [7, 8] (fun v7 v8 wr => ∃ (k : Nat) (A : Option Addr) (c : Nat) (acc l2 : List ByteArray) (y : List Int) (f1 : Int), v7 = .slice A acc.length c ∧ v8 = .int .u32 k ∧ acc.length + k ≤ n ∧ Aside0 (rList one39 k y f1 = (zs, f2, l2) ∧ acc ++ l2 = l) ∧ Aside0 (St 0 w wr [Ow Kd.string 9 A c acc, RdX B w g y f1, Still w (fun k => ¬ k = g)])) (fun _ v8 _ => (intOf v8).toNat)
  case atStart => exact ⟨n, none, 0, [], l, ys, f, rfl, rfl, by simp, ⟨HL.out, rfl⟩, S⟩
  case round =>
    clear S HL
    obtain ⟨k, A, c, acc, l2, y, f1, rfl, rfl, hk, HL, S⟩ := hrel
    cases k with
    | zero =>
      have d1 : decide (((0 : Nat) : Int) > 0) = false := by simp
      go_wp2_with (first | ((with_reducible refine gate_dst (N := 24) rfl ?_); refine ev_litB (cs := #[.string x]) (t := 9) (n := 1) S ?_ 24 rfl (by first | (go_simp; done) | (go_simp; rfl)) ?_; (first | exact want0 rfl | exact want1 rfl rfl rfl rfl); intro g24 w24 S_; clear S; have S := S_; clear S_) | (((with_reducible refine gate_builtin (b := .append) (xs := #[.tmp 21, .tmp 24]) rfl ?_); at_builtin; refine ev_rows (enc := Value.string) (h1 := fun _ => rfl) ByteArray.empty (.tmp 21) (.tmp 24) 22 (.string ⟨#[]⟩) 16 (n := acc.length) (xs := acc) (ys := [x]) S rfl rfl Try.underlying22 info9 rfl (by decide) rfl rfl (by repeat (first | exact Spot.here _ _ | apply Spot.there)) rfl (C_one (d := Kd.string) (g := g24) (x := x) (cs := [.string x]) (t := 9) (pred_at S.out (by repeat (first | exact Spot.here _ _ | apply Spot.there))) rfl) hcap ?_; intro A25 c25 w_ S_; clear S; have S := S_; clear S_)) | (go_at_call 43; (with_reducible refine (var_rx S hB (by repeat (first | exact Spot.here _ _ | apply Spot.there)) (by repeat (first | exact Spot.here _ _ | apply Spot.there)) most HV.out).mono ?_); rintro z_ w_ ⟨rfl, S_⟩; clear S; have S := S_; clear S_) | (go_at_call 47; (with_reducible refine (err_rx S hB (by repeat (first | exact Spot.here _ _ | apply Spot.there)) (by repeat (first | exact Spot.here _ _ | apply Spot.there))).mono ?_); rintro z_ w_ ⟨rfl, S_⟩; clear S; have S := S_; clear S_) | (go_at_call 39; (with_reducible refine (text39_rx S hB (by repeat (first | exact Spot.here _ _ | apply Spot.there)) (by repeat (first | exact Spot.here _ _ | apply Spot.there)) HP.out hne HO.out).mono ?_); rintro z_ w_ ⟨rfl, S_⟩; clear S; have S := S_; clear S_))
      go_ret
      have h1 := HL.out.1
      unfold rList at h1
      injection h1 with h1 h2
      injection h2 with h2 h3
      subst h1 h2 h3
      have h4 := HL.out.2
      rw [List.append_nil] at h4
      subst h4
      exact ⟨A, c, rfl, pred_at S.out (by repeat (first | exact Spot.here _ _ | apply Spot.there)), rx_new S (by repeat (first | exact Two.first (by repeat (first | exact Spot.here _ _ | apply Spot.there)) | apply Two.there)) (by repeat (first | exact Two.first (by repeat (first | exact Spot.here _ _ | apply Spot.there)) | apply Two.there)), rx_at S hB (by repeat (first | exact Spot.here _ _ | apply Spot.there)) (by repeat (first | exact Spot.here _ _ | apply Spot.there)), rx_turn S (by repeat (first | exact Spot.here _ _ | apply Spot.there))⟩
    | succ j =>
      have h1 := HL.out.1
      unfold rList at h1
      by_cases hf : f1 = 0
      · rw [if_pos hf] at h1
        subst hf
        rcases ho : one39 y 0 with ⟨y1, f3, x⟩
        rw [ho] at h1
        simp only at h1
        rcases hr : rList one39 j y1 f3 with ⟨z1, f4, l3⟩
        rw [hr] at h1
        simp only at h1
        injection h1 with e1 h1
        injection h1 with e2 e3
        subst e1 e2
        have HO := Aside0.mk ho
        have HR := Aside0.mk hr
        have HL2 := Aside0.mk (show (acc ++ [x]) ++ l3 = l by rw [List.append_assoc, ← HL.out.2, ← e3]; rfl)
        have hk2 : (acc ++ [x]).length + j ≤ n := by rw [List.length_append]; simp only [List.length_cons, List.length_nil]; omega
        have hcap : (acc.length + 1) * 16 ≤ 140737488355328 := by omega
        clear e3 ho hr HL
        obtain ⟨k, hkj⟩ : ∃ k, k = j + 1 := ⟨_, rfl⟩
        rw [← hkj]
        have d1 : decide ((k : Int) > 0) = true := decide_eq_true (by omega)
        have d2 : decide (0 < k) = true := decide_eq_true (by omega)
        have s1 : ((k : Int) - 1) % 4294967296 = (j : Int) := by omega
        have s2 : IntKind.u32.wrap ((k : Int) - 1) = (j : Int) := by rw [IntKind.wrap_u32]; exact s1
        have HK := Aside0.mk hkj
        clear hkj
        go_wp2_with (first | ((with_reducible refine gate_dst (N := 24) rfl ?_); refine ev_litB (cs := #[.string x]) (t := 9) (n := 1) S ?_ 24 rfl (by first | (go_simp; done) | (go_simp; rfl)) ?_; (first | exact want0 rfl | exact want1 rfl rfl rfl rfl); intro g24 w24 S_; clear S; have S := S_; clear S_) | (((with_reducible refine gate_builtin (b := .append) (xs := #[.tmp 21, .tmp 24]) rfl ?_); at_builtin; refine ev_rows (enc := Value.string) (h1 := fun _ => rfl) ByteArray.empty (.tmp 21) (.tmp 24) 22 (.string ⟨#[]⟩) 16 (n := acc.length) (xs := acc) (ys := [x]) S rfl rfl Try.underlying22 info9 rfl (by decide) rfl rfl (by repeat (first | exact Spot.here _ _ | apply Spot.there)) rfl (C_one (d := Kd.string) (g := g24) (x := x) (cs := [.string x]) (t := 9) (pred_at S.out (by repeat (first | exact Spot.here _ _ | apply Spot.there))) rfl) hcap ?_; intro A25 c25 w_ S_; clear S; have S := S_; clear S_)) | (go_at_call 43; (with_reducible refine (var_rx S hB (by repeat (first | exact Spot.here _ _ | apply Spot.there)) (by repeat (first | exact Spot.here _ _ | apply Spot.there)) most HV.out).mono ?_); rintro z_ w_ ⟨rfl, S_⟩; clear S; have S := S_; clear S_) | (go_at_call 47; (with_reducible refine (err_rx S hB (by repeat (first | exact Spot.here _ _ | apply Spot.there)) (by repeat (first | exact Spot.here _ _ | apply Spot.there))).mono ?_); rintro z_ w_ ⟨rfl, S_⟩; clear S; have S := S_; clear S_) | (go_at_call 39; (with_reducible refine (text39_rx S hB (by repeat (first | exact Spot.here _ _ | apply Spot.there)) (by repeat (first | exact Spot.here _ _ | apply Spot.there)) HP.out hne HO.out).mono ?_); rintro z_ w_ ⟨rfl, S_⟩; clear S; have S := S_; clear S_))
        refine ⟨⟨j, A25, c25, acc ++ [x], l3, y1, f3, by rw [List.length_append]; rfl, by first | rfl | (simp [s1]; done) | simp [s2], hk2, ⟨HR.out, HL2.out⟩, ⟨S.out.drop ?_⟩⟩, ?_⟩
        · first | exact List.sublist_cons_self _ _ | exact List.Sublist.cons_cons _ (List.sublist_cons_self _ _)
        · rw [HK.out]; simp [intOf, s1]
      · rw [if_neg hf] at h1
        injection h1 with h1 h2
        injection h2 with h2 h3
        subst h1 h2 h3
        have h4 := HL.out.2
        rw [List.append_nil] at h4
        subst h4
        obtain ⟨k, hkj⟩ : ∃ k, k = j + 1 := ⟨_, rfl⟩
        rw [← hkj]
        have d1 : decide ((k : Int) > 0) = true := decide_eq_true (by omega)
        have d2 : decide (0 < k) = true := decide_eq_true (by omega)
        have e1 : (f1 == 0) = false := by simpa using hf
        clear hkj HL
        go_wp2_with (first | ((with_reducible refine gate_dst (N := 24) rfl ?_); refine ev_litB (cs := #[.string x]) (t := 9) (n := 1) S ?_ 24 rfl (by first | (go_simp; done) | (go_simp; rfl)) ?_; (first | exact want0 rfl | exact want1 rfl rfl rfl rfl); intro g24 w24 S_; clear S; have S := S_; clear S_) | (((with_reducible refine gate_builtin (b := .append) (xs := #[.tmp 21, .tmp 24]) rfl ?_); at_builtin; refine ev_rows (enc := Value.string) (h1 := fun _ => rfl) ByteArray.empty (.tmp 21) (.tmp 24) 22 (.string ⟨#[]⟩) 16 (n := acc.length) (xs := acc) (ys := [x]) S rfl rfl Try.underlying22 info9 rfl (by decide) rfl rfl (by repeat (first | exact Spot.here _ _ | apply Spot.there)) rfl (C_one (d := Kd.string) (g := g24) (x := x) (cs := [.string x]) (t := 9) (pred_at S.out (by repeat (first | exact Spot.here _ _ | apply Spot.there))) rfl) hcap ?_; intro A25 c25 w_ S_; clear S; have S := S_; clear S_)) | (go_at_call 43; (with_reducible refine (var_rx S hB (by repeat (first | exact Spot.here _ _ | apply Spot.there)) (by repeat (first | exact Spot.here _ _ | apply Spot.there)) most HV.out).mono ?_); rintro z_ w_ ⟨rfl, S_⟩; clear S; have S := S_; clear S_) | (go_at_call 47; (with_reducible refine (err_rx S hB (by repeat (first | exact Spot.here _ _ | apply Spot.there)) (by repeat (first | exact Spot.here _ _ | apply Spot.there))).mono ?_); rintro z_ w_ ⟨rfl, S_⟩; clear S; have S := S_; clear S_) | (go_at_call 39; (with_reducible refine (text39_rx S hB (by repeat (first | exact Spot.here _ _ | apply Spot.there)) (by repeat (first | exact Spot.here _ _ | apply Spot.there)) HP.out hne HO.out).mono ?_); rintro z_ w_ ⟨rfl, S_⟩; clear S; have S := S_; clear S_))
        go_ret
        exact ⟨A, c, rfl, pred_at S.out (by repeat (first | exact Spot.here _ _ | apply Spot.there)), rx_new S (by repeat (first | exact Two.first (by repeat (first | exact Spot.here _ _ | apply Spot.there)) | apply Two.there)) (by repeat (first | exact Two.first (by repeat (first | exact Spot.here _ _ | apply Spot.there)) | apply Two.there)), rx_at S hB (by repeat (first | exact Spot.here _ _ | apply Spot.there)) (by repeat (first | exact Spot.here _ _ | apply Spot.there)), rx_turn S (by repeat (first | exact Spot.here _ _ | apply Spot.there))⟩

set_option maxRecDepth 100000 in
set_option maxHeartbeats 4000000 in
theorem list46_calls {B : Nat} (g gt : Nat) (xs : List Int) (e : Int) (w : World) (h : Rd B w g xs e) (hB : B ≤ w.heap.size) (hp : w.cell? ⟨gt, 0, none⟩ = some (.pointer (some ⟨g, 0, none⟩))) (hne : ¬ gt = g) (most : Int) {ys : List Int} {f : Int} {n : Nat} (hv : rVar xs e most = (ys, f, (n : Int))) (hn : n < 4294967296) {zs : List Int} {f2 : Int} {l : List S50} (hl : rList rRel n ys f = (zs, f2, l)) :
    Calls Try.prog 46 #[.pointer (some ⟨g, 0, none⟩), .int .u32 most, .func (.func 41) #[] #[.pointer (some ⟨gt, 0, none⟩)]] w fun z w' => ∃ A c, z = .returned (.slice A l.length c) ∧ (Ow k50 50 A c l).pred w' ∧ (∀ k, (Ow k50 50 A c l).foot k → w.heap.size ≤ k) ∧ Rd B w' g zs f2 ∧ Turn w w' g := by
  have S0 := rx_start h
  have S := Aside0.mk (add_nil k50 50 S0.out)
  have HV := Aside0.mk hv
  have HP := Aside0.mk hp
  have HL := Aside0.mk hl
  clear h hv hp hl S0
  go_enter Try.func46, Try.ntmps46
  go_wp2_with (first | ((with_reducible refine gate_dst (N := 24) rfl ?_); refine ev_litB (cs := #[.int .u8 x.f0, .int .u16 x.f1, .int .u16 x.f2]) (t := 50) (n := 1) S ?_ 24 rfl (by first | (go_simp; done) | (go_simp; rfl)) ?_; (first | exact want0 rfl | exact want1 rfl rfl rfl rfl); intro g24 w24 S_; clear S; have S := S_; clear S_) | (((with_reducible refine gate_builtin (b := .append) (xs := #[.tmp 21, .tmp 24]) rfl ?_); at_builtin; refine ev_rowsS (d := k50) (.tmp 21) (.tmp 24) 24 (.agg #[.int .u8 0, .int .u16 0, .int .u16 0]) 6 (n := acc.length) (xs := acc) (ys := [x]) rfl (fun W x cs hk => by obtain rfl := k50_open hk; exact k50_mkM _ _ _ _) (by decide) S rfl rfl Try.underlying24 info50 rfl (by decide) rfl rfl (by repeat (first | exact Spot.here _ _ | apply Spot.there)) rfl (C_one (d := k50) (g := g24) (x := x) (cs := [.int .u8 x.f0, .int .u16 x.f1, .int .u16 x.f2]) (t := 50) (pred_at S.out (by repeat (first | exact Spot.here _ _ | apply Spot.there))) (k50_mk _ _)) hcap ?_; intro A25 c25 w_ S_; clear S; have S := S_; clear S_)) | (go_at_call 43; (with_reducible refine (var_rx S hB (by repeat (first | exact Spot.here _ _ | apply Spot.there)) (by repeat (first | exact Spot.here _ _ | apply Spot.there)) most HV.out).mono ?_); rintro z_ w_ ⟨rfl, S_⟩; clear S; have S := S_; clear S_) | (go_at_call 47; (with_reducible refine (err_rx S hB (by repeat (first | exact Spot.here _ _ | apply Spot.there)) (by repeat (first | exact Spot.here _ _ | apply Spot.there))).mono ?_); rintro z_ w_ ⟨rfl, S_⟩; clear S; have S := S_; clear S_) | (go_at_call 41; (with_reducible refine (rel41_rx S hB (by repeat (first | exact Spot.here _ _ | apply Spot.there)) (by repeat (first | exact Spot.here _ _ | apply Spot.there)) HP.out hne HO.out).mono ?_); rintro z_ w_ ⟨rfl, S_⟩; clear S; have S := S_; clear S_))
  go_loopw [7, 8] (fun v7 v8 wr => ∃ (k : Nat) (A : Option Addr) (c : Nat) (acc l2 : List S50) (y : List Int) (f1 : Int), v7 = .slice A acc.length c ∧ v8 = .int .u32 k ∧ acc.length + k ≤ n ∧ Aside0 (rList rRel k y f1 = (zs, f2, l2) ∧ acc ++ l2 = l) ∧ Aside0 (St 0 w wr [Ow k50 50 A c acc, RdX B w g y f1, Still w (fun k => ¬ k = g)])) (fun _ v8 _ => (intOf v8).toNat)
  case atStart => exact ⟨n, none, 0, [], l, ys, f, rfl, rfl, by simp, ⟨HL.out, rfl⟩, S⟩
  case round =>
    clear S HL
    obtain ⟨k, A, c, acc, l2, y, f1, rfl, rfl, hk, HL, S⟩ := hrel
    cases k with
    | zero =>
      have d1 : decide (((0 : Nat) : Int) > 0) = false := by simp
      go_wp2_with (first | ((with_reducible refine gate_dst (N := 24) rfl ?_); refine ev_litB (cs := #[.int .u8 x.f0, .int .u16 x.f1, .int .u16 x.f2]) (t := 50) (n := 1) S ?_ 24 rfl (by first | (go_simp; done) | (go_simp; rfl)) ?_; (first | exact want0 rfl | exact want1 rfl rfl rfl rfl); intro g24 w24 S_; clear S; have S := S_; clear S_) | (((with_reducible refine gate_builtin (b := .append) (xs := #[.tmp 21, .tmp 24]) rfl ?_); at_builtin; refine ev_rowsS (d := k50) (.tmp 21) (.tmp 24) 24 (.agg #[.int .u8 0, .int .u16 0, .int .u16 0]) 6 (n := acc.length) (xs := acc) (ys := [x]) rfl (fun W x cs hk => by obtain rfl := k50_open hk; exact k50_mkM _ _ _ _) (by decide) S rfl rfl Try.underlying24 info50 rfl (by decide) rfl rfl (by repeat (first | exact Spot.here _ _ | apply Spot.there)) rfl (C_one (d := k50) (g := g24) (x := x) (cs := [.int .u8 x.f0, .int .u16 x.f1, .int .u16 x.f2]) (t := 50) (pred_at S.out (by repeat (first | exact Spot.here _ _ | apply Spot.there))) (k50_mk _ _)) hcap ?_; intro A25 c25 w_ S_; clear S; have S := S_; clear S_)) | (go_at_call 43; (with_reducible refine (var_rx S hB (by repeat (first | exact Spot.here _ _ | apply Spot.there)) (by repeat (first | exact Spot.here _ _ | apply Spot.there)) most HV.out).mono ?_); rintro z_ w_ ⟨rfl, S_⟩; clear S; have S := S_; clear S_) | (go_at_call 47; (with_reducible refine (err_rx S hB (by repeat (first | exact Spot.here _ _ | apply Spot.there)) (by repeat (first | exact Spot.here _ _ | apply Spot.there))).mono ?_); rintro z_ w_ ⟨rfl, S_⟩; clear S; have S := S_; clear S_) | (go_at_call 41; (with_reducible refine (rel41_rx S hB (by repeat (first | exact Spot.here _ _ | apply Spot.there)) (by repeat (first | exact Spot.here _ _ | apply Spot.there)) HP.out hne HO.out).mono ?_); rintro z_ w_ ⟨rfl, S_⟩; clear S; have S := S_; clear S_))
      go_ret
      have h1 := HL.out.1
      unfold rList at h1
      injection h1 with h1 h2
      injection h2 with h2 h3
      subst h1 h2 h3
      have h4 := HL.out.2
      rw [List.append_nil] at h4
      subst h4
      exact ⟨A, c, rfl, pred_at S.out (by repeat (first | exact Spot.here _ _ | apply Spot.there)), rx_new S (by repeat (first | exact Two.first (by repeat (first | exact Spot.here _ _ | apply Spot.there)) | apply Two.there)) (by repeat (first | exact Two.first (by repeat (first | exact Spot.here _ _ | apply Spot.there)) | apply Two.there)), rx_at S hB (by repeat (first | exact Spot.here _ _ | apply Spot.there)) (by repeat (first | exact Spot.here _ _ | apply Spot.there)), rx_turn S (by repeat (first | exact Spot.here _ _ | apply Spot.there))⟩
    | succ j =>
      have h1 := HL.out.1
      unfold rList at h1
      by_cases hf : f1 = 0
      · rw [if_pos hf] at h1
        subst hf
        rcases ho : rRel y 0 with ⟨y1, f3, x⟩
        rw [ho] at h1
        simp only at h1
        rcases hr : rList rRel j y1 f3 with ⟨z1, f4, l3⟩
        rw [hr] at h1
        simp only at h1
        injection h1 with e1 h1
        injection h1 with e2 e3
        subst e1 e2
        have HO := Aside0.mk ho
        have HR := Aside0.mk hr
        have HL2 := Aside0.mk (show (acc ++ [x]) ++ l3 = l by rw [List.append_assoc, ← HL.out.2, ← e3]; rfl)
        have hk2 : (acc ++ [x]).length + j ≤ n := by rw [List.length_append]; simp only [List.length_cons, List.length_nil]; omega
        have hcap : (acc.length + 1) * 6 ≤ 140737488355328 := by omega
        clear e3 ho hr HL
        obtain ⟨k, hkj⟩ : ∃ k, k = j + 1 := ⟨_, rfl⟩
        rw [← hkj]
        have d1 : decide ((k : Int) > 0) = true := decide_eq_true (by omega)
        have d2 : decide (0 < k) = true := decide_eq_true (by omega)
        have s1 : ((k : Int) - 1) % 4294967296 = (j : Int) := by omega
        have s2 : IntKind.u32.wrap ((k : Int) - 1) = (j : Int) := by rw [IntKind.wrap_u32]; exact s1
        have HK := Aside0.mk hkj
        clear hkj
        go_wp2_with (first | ((with_reducible refine gate_dst (N := 24) rfl ?_); refine ev_litB (cs := #[.int .u8 x.f0, .int .u16 x.f1, .int .u16 x.f2]) (t := 50) (n := 1) S ?_ 24 rfl (by first | (go_simp; done) | (go_simp; rfl)) ?_; (first | exact want0 rfl | exact want1 rfl rfl rfl rfl); intro g24 w24 S_; clear S; have S := S_; clear S_) | (((with_reducible refine gate_builtin (b := .append) (xs := #[.tmp 21, .tmp 24]) rfl ?_); at_builtin; refine ev_rowsS (d := k50) (.tmp 21) (.tmp 24) 24 (.agg #[.int .u8 0, .int .u16 0, .int .u16 0]) 6 (n := acc.length) (xs := acc) (ys := [x]) rfl (fun W x cs hk => by obtain rfl := k50_open hk; exact k50_mkM _ _ _ _) (by decide) S rfl rfl Try.underlying24 info50 rfl (by decide) rfl rfl (by repeat (first | exact Spot.here _ _ | apply Spot.there)) rfl (C_one (d := k50) (g := g24) (x := x) (cs := [.int .u8 x.f0, .int .u16 x.f1, .int .u16 x.f2]) (t := 50) (pred_at S.out (by repeat (first | exact Spot.here _ _ | apply Spot.there))) (k50_mk _ _)) hcap ?_; intro A25 c25 w_ S_; clear S; have S := S_; clear S_)) | (go_at_call 43; (with_reducible refine (var_rx S hB (by repeat (first | exact Spot.here _ _ | apply Spot.there)) (by repeat (first | exact Spot.here _ _ | apply Spot.there)) most HV.out).mono ?_); rintro z_ w_ ⟨rfl, S_⟩; clear S; have S := S_; clear S_) | (go_at_call 47; (with_reducible refine (err_rx S hB (by repeat (first | exact Spot.here _ _ | apply Spot.there)) (by repeat (first | exact Spot.here _ _ | apply Spot.there))).mono ?_); rintro z_ w_ ⟨rfl, S_⟩; clear S; have S := S_; clear S_) | (go_at_call 41; (with_reducible refine (rel41_rx S hB (by repeat (first | exact Spot.here _ _ | apply Spot.there)) (by repeat (first | exact Spot.here _ _ | apply Spot.there)) HP.out hne HO.out).mono ?_); rintro z_ w_ ⟨rfl, S_⟩; clear S; have S := S_; clear S_))
        refine ⟨⟨j, A25, c25, acc ++ [x], l3, y1, f3, by rw [List.length_append]; rfl, by first | rfl | (simp [s1]; done) | simp [s2], hk2, ⟨HR.out, HL2.out⟩, ⟨S.out.drop ?_⟩⟩, ?_⟩
        · first | exact List.sublist_cons_self _ _ | exact List.Sublist.cons_cons _ (List.sublist_cons_self _ _)
        · rw [HK.out]; simp [intOf, s1]
      · rw [if_neg hf] at h1
        injection h1 with h1 h2
        injection h2 with h2 h3
        subst h1 h2 h3
        have h4 := HL.out.2
        rw [List.append_nil] at h4
        subst h4
        obtain ⟨k, hkj⟩ : ∃ k, k = j + 1 := ⟨_, rfl⟩
        rw [← hkj]
        have d1 : decide ((k : Int) > 0) = true := decide_eq_true (by omega)
        have d2 : decide (0 < k) = true := decide_eq_true (by omega)
        have e1 : (f1 == 0) = false := by simpa using hf
        clear hkj HL
        go_wp2_with (first | ((with_reducible refine gate_dst (N := 24) rfl ?_); refine ev_litB (cs := #[.int .u8 x.f0, .int .u16 x.f1, .int .u16 x.f2]) (t := 50) (n := 1) S ?_ 24 rfl (by first | (go_simp; done) | (go_simp; rfl)) ?_; (first | exact want0 rfl | exact want1 rfl rfl rfl rfl); intro g24 w24 S_; clear S; have S := S_; clear S_) | (((with_reducible refine gate_builtin (b := .append) (xs := #[.tmp 21, .tmp 24]) rfl ?_); at_builtin; refine ev_rowsS (d := k50) (.tmp 21) (.tmp 24) 24 (.agg #[.int .u8 0, .int .u16 0, .int .u16 0]) 6 (n := acc.length) (xs := acc) (ys := [x]) rfl (fun W x cs hk => by obtain rfl := k50_open hk; exact k50_mkM _ _ _ _) (by decide) S rfl rfl Try.underlying24 info50 rfl (by decide) rfl rfl (by repeat (first | exact Spot.here _ _ | apply Spot.there)) rfl (C_one (d := k50) (g := g24) (x := x) (cs := [.int .u8 x.f0, .int .u16 x.f1, .int .u16 x.f2]) (t := 50) (pred_at S.out (by repeat (first | exact Spot.here _ _ | apply Spot.there))) (k50_mk _ _)) hcap ?_; intro A25 c25 w_ S_; clear S; have S := S_; clear S_)) | (go_at_call 43; (with_reducible refine (var_rx S hB (by repeat (first | exact Spot.here _ _ | apply Spot.there)) (by repeat (first | exact Spot.here _ _ | apply Spot.there)) most HV.out).mono ?_); rintro z_ w_ ⟨rfl, S_⟩; clear S; have S := S_; clear S_) | (go_at_call 47; (with_reducible refine (err_rx S hB (by repeat (first | exact Spot.here _ _ | apply Spot.there)) (by repeat (first | exact Spot.here _ _ | apply Spot.there))).mono ?_); rintro z_ w_ ⟨rfl, S_⟩; clear S; have S := S_; clear S_) | (go_at_call 41; (with_reducible refine (rel41_rx S hB (by repeat (first | exact Spot.here _ _ | apply Spot.there)) (by repeat (first | exact Spot.here _ _ | apply Spot.there)) HP.out hne HO.out).mono ?_); rintro z_ w_ ⟨rfl, S_⟩; clear S; have S := S_; clear S_))
        go_ret
        exact ⟨A, c, rfl, pred_at S.out (by repeat (first | exact Spot.here _ _ | apply Spot.there)), rx_new S (by repeat (first | exact Two.first (by repeat (first | exact Spot.here _ _ | apply Spot.there)) | apply Two.there)) (by repeat (first | exact Two.first (by repeat (first | exact Spot.here _ _ | apply Spot.there)) | apply Two.there)), rx_at S hB (by repeat (first | exact Spot.here _ _ | apply Spot.there)) (by repeat (first | exact Spot.here _ _ | apply Spot.there)), rx_turn S (by repeat (first | exact Spot.here _ _ | apply Spot.there))⟩
end Go.Proofs.Ytkoimdgpicmakaa.Ob
