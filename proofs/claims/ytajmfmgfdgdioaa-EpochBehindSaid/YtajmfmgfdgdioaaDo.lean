/- A call upon both clocks. -/
import Derived.Test.YtajmfmgfdgdioaaSys
import Derived.Test.YtajmfmgfdgdioaaRef
namespace Go.Proofs.Ytajmfmgfdgdioaa.Cl
open Go.Proofs.Ytajmfmgfdgdioaa.Pure
open Go.RowKit Go.Proofs.Ytajmfmgfdgdioaa.Sep Go.Proofs.YtajmfmgfdgdioaaW.PrintWords Go.Proofs.YtajmfmgfdgdioaaW.PrintLast Go.Proofs.YtajmfmgfdgdioaaW.PrintMore Go.Proofs.Ytajmfmgfdgdioaa.Ev Go.Proofs.Ytajmfmgfdgdioaa.Ty
open Go.Proofs.Ytajmfmgfdgdioaa.PC hiding z46 z59 z67
set_option linter.unusedVariables false
set_option linter.unusedSimpArgs false

theorem row_row_ne {α β : Type} {d : Kd α} {d' : Kd β} {e e' c c' : Nat} {A A' : Option Addr} {xs : List α} {ys : List β} {W : World} (h1 : (Own d e A c xs).pred W) (h2 : (Own d' e' A' c' ys).pred W) (hne : e ≠ e') : ∀ k, blkOf A k → ¬ blkOf A' k := by
  intro k ha hb
  cases A with
  | none => cases ha
  | some ad =>
    cases A' with
    | none => cases hb
    | some bd =>
      obtain ⟨g, rfl⟩ := own_head h1
      obtain ⟨g', rfl⟩ := own_head h2
      obtain rfl := Option.some.inj ha
      obtain rfl := Option.some.inj hb
      obtain ⟨cur, h3, _⟩ := Own.blk h1
      obtain ⟨cur', h4, _⟩ := Own.blk h2
      have h5 := h3.symm.trans h4
      injection h5 with h5
      injection h5 with h6 h7
      exact hne h7
theorem two_new {α β : Type} {d : Kd α} {d' : Kd β} {e e' B c c' : Nat} {A A' : Option Addr} {w W W' : World} {L : List Asn} {xs : List α} {ys : List β} (hE : d.E = []) (hE' : d'.E = []) (S : Aside0 (St B w W L)) (h1 : Kd.R d e W' W.heap.size (fun _ => True) (.slice A xs.length c) xs) (h2 : Kd.R d' e' W' W.heap.size (fun _ => True) (.slice A' ys.length c') ys) (hb : Below W.heap.size W W') (hne : e ≠ e') :
    St B w W' (Own d' e' A' c' ys :: Own d e A c xs :: L) := by
  have h3 := St.add S.out hb (Own d e A c xs) (Own.mk hE h1) (Own.new h1)
  refine h3.cons _ (Own.mk hE' h2) (fun k hk => Nat.le_trans S.out.leW (Own.new h2 k hk)) (fun b hb' k hk1 hk2 => ?_)
  rcases List.mem_cons.1 hb' with rfl | hb'
  · exact row_row_ne (Own.mk hE h1) (Own.mk hE' h2) hne k (foot_blk.1 hk2) (foot_blk.1 hk1)
  · have h4 := Own.new h2 k hk1
    have := b.lt (S.out.holds b hb') k hk2
    omega

theorem clkA_start {w : World} {g : Nat} {now : Int} {A : Option Addr} {c : Nat} {ws : List S46} (h : Clk w g now A c ws) : Aside0 (St 0 w w [ClkA g now A c ws, Still w (fun k => ¬ KK g A k)]) := St.only (ClkA.mk h) (fun k hk => ClkA.foot_iff.1 hk)
theorem clk_apart {B : Nat} {w W : World} {L : List Asn} {g : Nat} {now : Int} {A A0 : Option Addr} {c : Nat} {ws : List S46} {F F2 : Asn → List Asn} (S : Aside0 (St B w W L)) (h1 : Spot L (ClkA g now A c ws) F) (h2 : Spot L (Still w (fun k => ¬ KK g A0 k)) F2) (ht : Two L (ClkA g now A c ws) (Still w (fun k => ¬ KK g A0 k))) : ∀ k, blkOf A k → blkOf A0 k ∨ w.heap.size ≤ k := by
  intro k hk
  by_cases hl : k < w.heap.size
  · by_cases hK : KK g A0 k
    · rcases hK with rfl | hK
      · exact absurd hk (clk_at S h1).ne
      · exact .inl hK
    · exact (apart_at S.out ht k (ClkA.foot_iff.2 (.inr hk)) ⟨hK, hl⟩).elim
  · exact .inr (by omega)
/-- What a call leaves of the count and of those that wait. -/
def stp (kind o : Int) (hs : List S59) (now : Int) (ws : List S46) : Int × List S46 :=
  if (Int.tmod kind 4 == 2) = true then (now, ws.filter (fun x => !pas hs x.f1)) else if (Int.tmod kind 4 == 3) = true then (now, []) else (now + 1, ws ++ [⟨o, now + 1⟩])
/-- What do leaves. -/
def Did (w : World) (g : Nat) (now : Int) (A : Option Addr) (ws : List S46) (kind o : Int) (hs : List S59) (z : Ending) (w' : World) : Prop :=
  ∃ (now' : Int) (A' : Option Addr) (c' : Nat) (ws' : List S46) (Ar' : Option Addr) (cr' : Nat), z = .returned (.tuple #[.agg #[.int .u64 now', .slice Ar' (ws'.map cv).length cr'], .bool true]) ∧ Clk w' g now' A' c' ws' ∧ (Own k67 67 Ar' cr' (ws'.map cv)).pred w' ∧ (∀ k, blkOf Ar' k → w.heap.size ≤ k) ∧ (∀ k, blkOf A' k → blkOf A k ∨ w.heap.size ≤ k) ∧ Turn w w' (KK g A) ∧ ws'.length ≤ ws.length + 1 ∧ now ≤ now' ∧ now' ≤ now + 1 ∧ (now', ws') = stp kind o hs now ws

section
variable {B : Nat} {w W : World} {g : Nat} {now : Int} {A Ah Ar : Option Addr} {c ch cr : Nat} {ws ks : List S46} {rs krs : List S67} {hs : List S59} {ds : List Int} {L : List Asn} {F : Asn → List Asn}
theorem take_ev2 (S : Aside0 (St B w W L)) (hsp : Spot L (ClkA g now A c ws) F) (hm : ws.length ≤ 1000000) (hC : ∀ W', Turn W W' (KK g A) → Kd.C k59 W' Ah hs.length hs) (hc : hs.length ≤ ch) (hd : ds = (ws.filter (fun x => pas hs x.f1)).map (·.f0)) (hk : ks = ws.filter (fun x => !pas hs x.f1)) :
    Calls Try.prog 21 #[.pointer (some ⟨g, 0, none⟩), .slice Ah hs.length ch] W fun z W' => ∃ A' c', z = .returned (.slice A' ds.length c') ∧ Aside0 (St B w W' (Own (Kd.int .u16) 36 A' c' ds :: F (ClkA g now A c ks))) := by
  subst hd hk
  exact take_ev S hsp hm hC hc
theorem clear_ev2 (S : Aside0 (St B w W L)) (hsp : Spot L (ClkA g now A c ws) F) (hm : ws.length ≤ 1000000) (h0 : hs = []) (hd : ds = (ws.filter (fun x => pas hs x.f1)).map (·.f0)) (hk : ks = ws.filter (fun x => !pas hs x.f1)) :
    Calls Try.prog 22 #[.pointer (some ⟨g, 0, none⟩)] W fun z W' => ∃ A' c', z = .returned (.slice A' ds.length c') ∧ Aside0 (St B w W' (Own (Kd.int .u16) 36 A' c' ds :: F (ClkA g now A c ks))) := by
  subst h0
  have e1 : ds = ws.map (·.f0) := by rw [hd]; rw [show ws.filter (fun x => pas [] x.f1) = ws from List.filter_eq_self.2 (fun _ _ => rfl)]
  have e2 : ks = [] := by rw [hk]; exact List.filter_eq_nil_iff.2 (fun _ _ => by simp [pas_nil])
  subst e1 e2
  exact clear_ev S hsp hm
theorem rtake_ev (S : Aside0 (St B w W L)) (hm : ws.length ≤ 1000000) (hr : rs = ws.map cv) (hR : Kd.C k67 W Ar rs.length rs) (hcr : rs.length ≤ cr) (hC : Kd.C k59 W Ah hs.length hs) (hc : hs.length ≤ ch) (hd : ds = (ws.filter (fun x => pas hs x.f1)).map (·.f0)) (hk : krs = (ws.filter (fun x => !pas hs x.f1)).map cv) :
    Calls Try.prog 24 #[.agg #[.int .u64 now, .slice Ar rs.length cr], .slice Ah hs.length ch] W fun z W' => ∃ A9 c9 A10 c10, z = .returned (.tuple #[.agg #[.int .u64 now, .slice A9 krs.length c9], .slice A10 ds.length c10]) ∧ (∀ k, blkOf A9 k → W.heap.size ≤ k) ∧ Aside0 (St B w W' (Own (Kd.int .u16) 36 A10 c10 ds :: Own k67 67 A9 c9 krs :: L)) := by
  subst hr hd hk
  refine (budwoodref17_Clock_Take.calls (ws.length + hs.length + 2) now Ar cr (ws.map cv) Ah ch hs now _ _ W hR hcr hC hc (take_f now ws hs hm hC.2.1 _ (by omega))).mono ?_
  rintro z W' ⟨v1, v2, rfl, h1, h2, hb⟩
  obtain ⟨A9, c9, rfl, _⟩ := Kd.R_reads h1
  obtain ⟨A10, c10, rfl, _⟩ := Kd.R_reads h2
  exact ⟨A9, c9, A10, c10, rfl, fun k hk => Own.new h1 k (foot_blk.2 hk), ⟨two_new rfl rfl S h1 h2 hb (by decide)⟩⟩
theorem rretire_ev (S : Aside0 (St B w W L)) (o : Int) (hm : rs.length ≤ 1000000) (hR : Kd.C k67 W Ar rs.length rs) (h0 : 0 ≤ now) (h1 : now < 1099511627776) (hk : krs = rs ++ [⟨o, now + 1⟩]) :
    Calls Try.prog 25 #[.agg #[.int .u64 now, .slice Ar rs.length cr], .int .u16 o] W fun z W' => ∃ A' c', z = .returned (.tuple #[.agg #[.int .u64 (now + 1), .slice A' krs.length c'], .int .u64 (now + 1), .int .i64 0]) ∧ (∀ k, blkOf A' k → W.heap.size ≤ k) ∧ Aside0 (St B w W' (Own k67 67 A' c' krs :: L)) := by
  subst hk
  refine (rretire_calls now Ar cr rs o W hR hm h0 h1).mono ?_
  rintro z W' ⟨A', c', rfl, h2, h3, hb⟩
  exact ⟨A', c', rfl, h3, ⟨St.add S.out hb _ h2 (fun k hk => h3 k (foot_blk.1 hk))⟩⟩
end

set_option maxRecDepth 100000 in
set_option maxHeartbeats 16000000 in
theorem do_take (g : Nat) (now : Int) (A : Option Addr) (c : Nat) (ws : List S46) (rs : List S67) (Ar : Option Addr) (cr : Nat) (kind o : Int) (Ah : Option Addr) (ch : Nat) (hs : List S59) (w : World) (h : Clk w g now A c ws) (hm : ws.length ≤ 1000000) (h0 : 0 ≤ now) (h1 : now < 1099511627776) (hr : rs = ws.map cv) (hR : ∀ W', Turn w W' (KK g A) → Kd.C k67 W' Ar rs.length rs) (hcr : rs.length ≤ cr) (hC : ∀ W', Turn w W' (KK g A) → Kd.C k59 W' Ah hs.length hs) (hc : hs.length ≤ ch) (hk : (Int.tmod kind 4 == 2) = true) :
    Calls Try.prog 14 #[.pointer (some ⟨g, 0, none⟩), .agg #[.int .u64 now, .slice Ar rs.length cr], .agg #[.int .u8 kind, .int .u16 o, .slice Ah hs.length ch]] w fun z w' => Did w g now A ws kind o hs z w' := by
  have S := clkA_start h
  have HR := Aside0.mk hR
  have HC := Aside0.mk hC
  have HL := Aside0.mk hcr
  have HM := Aside0.mk hm
  have HE := Aside0.mk hr
  clear h hR hC hcr hm hr
  obtain ⟨ds, hds⟩ : ∃ ds, ds = (ws.filter (fun x => pas hs x.f1)).map (·.f0) := ⟨_, rfl⟩
  obtain ⟨ks, hks⟩ : ∃ ks, ks = ws.filter (fun x => !pas hs x.f1) := ⟨_, rfl⟩
  obtain ⟨krs, hkrs⟩ : ∃ krs, krs = ks.map cv := ⟨_, rfl⟩
  have HD1 := Aside0.mk (show ds.length ≤ 1000000 by rw [hds, List.length_map]; exact Nat.le_trans (List.length_filter_le _ _) HM.out)
  have HK1 := Aside0.mk (show ks.length ≤ ws.length + 1 by rw [hks]; exact Nat.le_succ_of_le (List.length_filter_le _ _))
  have HDS := Aside0.mk hds
  have HKS := Aside0.mk hks
  have HKR := Aside0.mk hkrs
  have HKK := Aside0.mk (hkrs.trans (by rw [hks]))
  have HSTP := Aside0.mk (show (now, ks) = stp kind o hs now ws by unfold stp; rw [if_pos hk, hks])
  clear hds hks hkrs
  go_enter Try.func14, Try.ntmps14
  go_wp2_with (first | ((with_reducible refine gate_dst (N := 4) rfl ?_); refine ev_boxs S ?_ 4 rfl rfl rfl ?_; (first | exact want0 rfl | exact want1 rfl rfl rfl rfl); intro g4 w4 S_; clear S; have S := S_; clear S_) | ((with_reducible refine gate_dst (N := 5) rfl ?_); refine ev_boxs S ?_ 5 rfl rfl rfl ?_; (first | exact want0 rfl | exact want1 rfl rfl rfl rfl); intro g5 w5 S_; clear S; have S := S_; clear S_) | ((with_reducible refine gate_dst (N := 6) rfl ?_); refine ev_alloc #[.int .u64 0, .slice none 0 0] rfl S ?_ 6 rfl rfl z33 ?_; (first | exact want0 rfl | exact want1 rfl rfl rfl rfl); intro g6 w6 S_; clear S; have S := S_; clear S_) | (refine ev_own1 S ?_ rfl o5 rfl (by repeat (first | exact Spot.here _ _ | apply Spot.there)) (by exact rfl) ?_; (first | exact want0 rfl | exact want1 rfl rfl rfl rfl)) | (refine ev_own1 S ?_ rfl o22 rfl (by repeat (first | exact Spot.here _ _ | apply Spot.there)) (by exact rfl) ?_; (first | exact want0 rfl | exact want1 rfl rfl rfl rfl)) | (refine ev_owns (vs := [_, _]) S ?_ rfl m33 rfl (by repeat (first | exact Spot.here _ _ | apply Spot.there)) (by exact rfl) ?_; (first | exact want0 rfl | exact want1 rfl rfl rfl rfl)) | ((with_reducible refine gate_dst (N := 9) rfl ?_); refine ev_alloc #[.int .u64 0, .slice none 0 0] rfl S ?_ 9 rfl rfl z33 ?_; (first | exact want0 rfl | exact want1 rfl rfl rfl rfl); intro g9 w9 S_; clear S; have S := S_; clear S_) | (refine ev_puts S ?_ rfl rfl s33 rfl rfl (by repeat (first | exact Spot.here _ _ | apply Spot.there)) rfl ?_ ?_ ?_; (first | exact want0 rfl | exact want1 rfl rfl rfl rfl); rfl; rfl; intro w_ S_; simp only [putAt, List.set_cons_zero, List.set_cons_succ] at S_; clear S; have S := S_; clear S_) | ((with_reducible refine gate_dst (N := 12) rfl ?_); refine ev_alloc #[.int .u64 0, .slice none 0 0] rfl S ?_ 12 rfl rfl z33 ?_; (first | exact want0 rfl | exact want1 rfl rfl rfl rfl); intro g12 w12 S_; clear S; have S := S_; clear S_) | (refine ev_own1 S ?_ rfl o36 rfl (by repeat (first | exact Spot.here _ _ | apply Spot.there)) (by exact rfl) ?_; (first | exact want0 rfl | exact want1 rfl rfl rfl rfl)) | ((with_reducible refine gate_dst (N := 16) rfl ?_); refine ev_alloc #[.int .u64 0, .slice none 0 0] rfl S ?_ 16 rfl rfl z33 ?_; (first | exact want0 rfl | exact want1 rfl rfl rfl rfl); intro g16 w16 S_; clear S; have S := S_; clear S_) | (go_at_call 21; have c_ := take_ev2 (Ah := Ah) (ch := ch) (hs := hs) S (by repeat (first | exact Spot.here _ _ | apply Spot.there)) HM.out (fun W' T => HC.out W' ((turn_of S (by repeat (first | exact Spot.here _ _ | apply Spot.there))).trans T)) hc HDS.out HKS.out; (with_reducible refine c_.mono ?_); clear c_; rintro z_ w_ ⟨A8, c8, rfl, S_⟩; clear S; have S := S_; clear S_) | (go_at_call 24; have hS_ := S; have c_ := rtake_ev (now := now) (ws := ws) (rs := rs) (krs := krs) (Ar := Ar) (cr := cr) (Ah := Ah) (ch := ch) (hs := hs) (ds := ds) S HM.out HE.out (HR.out _ (turn_of S (by repeat (first | exact Spot.here _ _ | apply Spot.there)))) HL.out (HC.out _ (turn_of S (by repeat (first | exact Spot.here _ _ | apply Spot.there)))) hc HDS.out HKK.out; (try simp only [List.length_nil] at c_); (with_reducible refine c_.mono ?_); clear c_; rintro z_ w_ ⟨A9, c9, A10, c10, rfl, h9_, S_⟩; clear S; have S := S_; clear S_; have HNR := Aside0.mk (fun k hk => Nat.le_trans hS_.out.below.size (h9_ k hk)); clear h9_ hS_))
  have S2 := Aside0.mk S.out.drew
  clear S
  refine start_ (n := 6) (S := fun w' => w'.cell? ⟨g9, 0, none⟩ = some (.int .u64 now) ∧ w'.cell? ⟨g9, 1, none⟩ = some (.slice A9 krs.length c9)) (ds := []) #[false, false, false, false, false, false] (by kernel_rfl) rfl rfl ⟨((own_cell (g := g9) S2 (by repeat (first | exact Spot.here _ _ | apply Spot.there)) 0).trans rfl), ((own_cell (g := g9) S2 (by repeat (first | exact Spot.here _ _ | apply Spot.there)) 1).trans rfl)⟩ (fun hHeld => ?_)
  refine pure_ (i := 1) (N := some 36) (v := ?_) (a' := ?_) #[false, true, false, false, false, false] rfl rfl (by kernel_rfl) (fun _ _ _ h => h) (Or.inl ⟨by rfl, ?_⟩) ?_ ?_
  rotate_left
  · intro w'
    go_simp
    with_reducible rfl
  rotate_left
  · simp only [Act.put, List.setIfInBounds_toArray, List.set_cons_zero, List.set_cons_succ, i64_w, i32_w]
    rfl
  refine pure_ (i := 2) (N := some 37) (v := ?_) (a' := ?_) #[false, true, true, false, false, false] rfl rfl (by kernel_rfl) (fun _ _ _ h => h) (Or.inl ⟨by rfl, ?_⟩) ?_ ?_
  rotate_left
  · intro w'
    go_simp
    with_reducible rfl
  rotate_left
  · simp only [Act.put, List.setIfInBounds_toArray, List.set_cons_zero, List.set_cons_succ, i64_w, i32_w]
    rfl
  refine take_ (i := 0) (N := some 35) (v := ?_) (a' := ?_) #[true, true, true, false, false, false] rfl rfl (by kernel_rfl) (fun _ _ _ h => h) (Or.inl ⟨by rfl, ?_⟩) hHeld ?_ ?_
  rotate_left
  · rintro w' ⟨s0, s1⟩
    go_simp
    with_reducible rfl
  rotate_left
  · simp only [Act.put, List.setIfInBounds_toArray, List.set_cons_zero, List.set_cons_succ, i64_w, i32_w]
    rfl
  refine one_ (i := 3) (N := some 38) #[true, true, true, true, false, false] rfl rfl (by kernel_rfl) (by decide) (fun K hK => ?_)
  refine goes_ Try.func23 (by kernel_rfl) rfl #[.slice A8 ds.length c8, .slice A10 ds.length c10] (by rfl) rfl rfl (by simp only [List.map_toArray, List.map_cons, List.map_nil]; rfl) ?_
  with_reducible refine (budwoodlaw17_sameOwners.calls ds.length.succ A8 c8 ds A10 c10 ds true _ (Own.reads (pred_at S2.out (a := Own (Kd.int .u16) 36 A8 c8 ds) (by repeat (first | exact Spot.here _ _ | apply Spot.there)))) (Own.cap (pred_at S2.out (a := Own (Kd.int .u16) 36 A8 c8 ds) (by repeat (first | exact Spot.here _ _ | apply Spot.there)))) (Own.reads (pred_at S2.out (a := Own (Kd.int .u16) 36 A10 c10 ds) (by repeat (first | exact Spot.here _ _ | apply Spot.there)))) (Own.cap (pred_at S2.out (a := Own (Kd.int .u16) 36 A10 c10 ds) (by repeat (first | exact Spot.here _ _ | apply Spot.there)))) (same_f _ HD1.out _ (Nat.lt_succ_self _))).mono ?_
  rintro z9 w3 ⟨rfl, ⟨m_, rfl⟩⟩
  have S3 := Aside0.mk (S2.out.drewN m_)
  refine ⟨_, rfl, ?_⟩
  refine hK.out _ _ ⟨((own_cell (g := g9) S3 (by repeat (first | exact Spot.here _ _ | apply Spot.there)) 0).trans rfl), ((own_cell (g := g9) S3 (by repeat (first | exact Spot.here _ _ | apply Spot.there)) 1).trans rfl)⟩ (fun hHeld => ?_)
  clear hK K
  refine norm_ (a' := ?_) ?_ ?_
  rotate_left
  · show Act.put _ (some 38) _ = _
    simp only [Act.put, List.setIfInBounds_toArray, List.set_cons_zero, List.set_cons_succ, i64_w, i32_w]
    rfl
  refine one_ (i := 4) (N := none) #[true, true, true, true, true, false] rfl rfl (by kernel_rfl) (by decide) (fun K hK => ?_)
  refine st_puts (g := g6) S3 (by rfl) rfl rfl s33 rfl rfl (by repeat (first | exact Spot.here _ _ | apply Spot.there)) rfl (by rfl) (by rfl) ?_
  intro w5 S5
  simp only [putAt, List.set_cons_zero, List.set_cons_succ] at S5
  refine hK.out _ _ ⟨((own_cell (g := g9) S5 (by repeat (first | exact Spot.here _ _ | apply Spot.there)) 0).trans rfl), ((own_cell (g := g9) S5 (by repeat (first | exact Spot.here _ _ | apply Spot.there)) 1).trans rfl)⟩ (fun hHeld => ?_)
  clear hK K
  refine pure_ (i := 5) (N := some 7) (v := ?_) (a' := ?_) #[true, true, true, true, true, true] rfl rfl (by kernel_rfl) (fun _ _ _ h => h) (Or.inl ⟨by rfl, ?_⟩) ?_ ?_
  rotate_left
  · intro w'
    go_simp
    with_reducible rfl
  rotate_left
  · simp only [Act.put, List.setIfInBounds_toArray, List.set_cons_zero, List.set_cons_succ, i64_w, i32_w]
    rfl
  refine done_ (by kernel_rfl) ?_

  clear S2 S3
  have S := S5
  clear S5
  go_wp2_with (first | ((with_reducible refine gate_dst (N := 4) rfl ?_); refine ev_boxs S ?_ 4 rfl rfl rfl ?_; (first | exact want0 rfl | exact want1 rfl rfl rfl rfl); intro g4 w4 S_; clear S; have S := S_; clear S_) | ((with_reducible refine gate_dst (N := 5) rfl ?_); refine ev_boxs S ?_ 5 rfl rfl rfl ?_; (first | exact want0 rfl | exact want1 rfl rfl rfl rfl); intro g5 w5 S_; clear S; have S := S_; clear S_) | ((with_reducible refine gate_dst (N := 6) rfl ?_); refine ev_alloc #[.int .u64 0, .slice none 0 0] rfl S ?_ 6 rfl rfl z33 ?_; (first | exact want0 rfl | exact want1 rfl rfl rfl rfl); intro g6 w6 S_; clear S; have S := S_; clear S_) | (refine ev_own1 S ?_ rfl o5 rfl (by repeat (first | exact Spot.here _ _ | apply Spot.there)) (by exact rfl) ?_; (first | exact want0 rfl | exact want1 rfl rfl rfl rfl)) | (refine ev_own1 S ?_ rfl o22 rfl (by repeat (first | exact Spot.here _ _ | apply Spot.there)) (by exact rfl) ?_; (first | exact want0 rfl | exact want1 rfl rfl rfl rfl)) | (refine ev_owns (vs := [_, _]) S ?_ rfl m33 rfl (by repeat (first | exact Spot.here _ _ | apply Spot.there)) (by exact rfl) ?_; (first | exact want0 rfl | exact want1 rfl rfl rfl rfl)) | ((with_reducible refine gate_dst (N := 9) rfl ?_); refine ev_alloc #[.int .u64 0, .slice none 0 0] rfl S ?_ 9 rfl rfl z33 ?_; (first | exact want0 rfl | exact want1 rfl rfl rfl rfl); intro g9 w9 S_; clear S; have S := S_; clear S_) | (refine ev_puts S ?_ rfl rfl s33 rfl rfl (by repeat (first | exact Spot.here _ _ | apply Spot.there)) rfl ?_ ?_ ?_; (first | exact want0 rfl | exact want1 rfl rfl rfl rfl); rfl; rfl; intro w_ S_; simp only [putAt, List.set_cons_zero, List.set_cons_succ] at S_; clear S; have S := S_; clear S_) | ((with_reducible refine gate_dst (N := 12) rfl ?_); refine ev_alloc #[.int .u64 0, .slice none 0 0] rfl S ?_ 12 rfl rfl z33 ?_; (first | exact want0 rfl | exact want1 rfl rfl rfl rfl); intro g12 w12 S_; clear S; have S := S_; clear S_) | (refine ev_own1 S ?_ rfl o36 rfl (by repeat (first | exact Spot.here _ _ | apply Spot.there)) (by exact rfl) ?_; (first | exact want0 rfl | exact want1 rfl rfl rfl rfl)) | ((with_reducible refine gate_dst (N := 16) rfl ?_); refine ev_alloc #[.int .u64 0, .slice none 0 0] rfl S ?_ 16 rfl rfl z33 ?_; (first | exact want0 rfl | exact want1 rfl rfl rfl rfl); intro g16 w16 S_; clear S; have S := S_; clear S_) | (go_at_call 21; have c_ := take_ev2 (Ah := Ah) (ch := ch) (hs := hs) S (by repeat (first | exact Spot.here _ _ | apply Spot.there)) HM.out (fun W' T => HC.out W' ((turn_of S (by repeat (first | exact Spot.here _ _ | apply Spot.there))).trans T)) hc HDS.out HKS.out; (with_reducible refine c_.mono ?_); clear c_; rintro z_ w_ ⟨A8, c8, rfl, S_⟩; clear S; have S := S_; clear S_) | (go_at_call 24; have hS_ := S; have c_ := rtake_ev (now := now) (ws := ws) (rs := rs) (krs := krs) (Ar := Ar) (cr := cr) (Ah := Ah) (ch := ch) (hs := hs) (ds := ds) S HM.out HE.out (HR.out _ (turn_of S (by repeat (first | exact Spot.here _ _ | apply Spot.there)))) HL.out (HC.out _ (turn_of S (by repeat (first | exact Spot.here _ _ | apply Spot.there)))) hc HDS.out HKK.out; (try simp only [List.length_nil] at c_); (with_reducible refine c_.mono ?_); clear c_; rintro z_ w_ ⟨A9, c9, A10, c10, rfl, h9_, S_⟩; clear S; have S := S_; clear S_; have HNR := Aside0.mk (fun k hk => Nat.le_trans hS_.out.below.size (h9_ k hk)); clear h9_ hS_))
  refine retN (rs := [.cell 6 33, .tmp 7]) rfl rfl ?_ (Bk.vals S rfl (by repeat (first | exact Spot.here _ _ | apply Spot.there)) m33 (by exact rfl) (.tmp .nil)) ?_
  · simp
  exact ⟨_, _, _, ks, A9, c9, by rw [← HKR.out]; first | rfl | (simp; done), clk_at S (by repeat (first | exact Spot.here _ _ | apply Spot.there)), by rw [← HKR.out]; exact pred_at S.out (by repeat (first | exact Spot.here _ _ | apply Spot.there)), HNR.out, clk_apart S (by repeat (first | exact Spot.here _ _ | apply Spot.there)) (by repeat (first | exact Spot.here _ _ | apply Spot.there)) (by repeat (first | exact Two.first (by repeat (first | exact Spot.here _ _ | apply Spot.there)) | apply Two.there)), turn_of S (by repeat (first | exact Spot.here _ _ | apply Spot.there)), HK1.out, by omega, by omega, HSTP.out⟩

set_option maxRecDepth 100000 in
set_option maxHeartbeats 16000000 in
theorem do_clear (g : Nat) (now : Int) (A : Option Addr) (c : Nat) (ws : List S46) (rs : List S67) (Ar : Option Addr) (cr : Nat) (kind o : Int) (Ah : Option Addr) (ch : Nat) (hs : List S59) (w : World) (h : Clk w g now A c ws) (hm : ws.length ≤ 1000000) (h0 : 0 ≤ now) (h1 : now < 1099511627776) (hr : rs = ws.map cv) (hR : ∀ W', Turn w W' (KK g A) → Kd.C k67 W' Ar rs.length rs) (hcr : rs.length ≤ cr) (hC : ∀ W', Turn w W' (KK g A) → Kd.C k59 W' Ah hs.length hs) (hc : hs.length ≤ ch) (hk : (Int.tmod kind 4 == 2) = false) (hk3 : (Int.tmod kind 4 == 3) = true) :
    Calls Try.prog 14 #[.pointer (some ⟨g, 0, none⟩), .agg #[.int .u64 now, .slice Ar rs.length cr], .agg #[.int .u8 kind, .int .u16 o, .slice Ah hs.length ch]] w fun z w' => Did w g now A ws kind o hs z w' := by
  have S := clkA_start h
  have HR := Aside0.mk hR
  have HC := Aside0.mk hC
  have HL := Aside0.mk hcr
  have HM := Aside0.mk hm
  have HE := Aside0.mk hr
  clear h hR hC hcr hm hr
  obtain ⟨ds, hds⟩ : ∃ ds, ds = (ws.filter (fun x => pas [] x.f1)).map (·.f0) := ⟨_, rfl⟩
  obtain ⟨ks, hks⟩ : ∃ ks, ks = ws.filter (fun x => !pas [] x.f1) := ⟨_, rfl⟩
  obtain ⟨krs, hkrs⟩ : ∃ krs, krs = ks.map cv := ⟨_, rfl⟩
  have HD1 := Aside0.mk (show ds.length ≤ 1000000 by rw [hds, List.length_map]; exact Nat.le_trans (List.length_filter_le _ _) HM.out)
  have HK1 := Aside0.mk (show ks.length ≤ ws.length + 1 by rw [hks]; exact Nat.le_succ_of_le (List.length_filter_le _ _))
  have HDS := Aside0.mk hds
  have HKS := Aside0.mk hks
  have HKR := Aside0.mk hkrs
  have HKK := Aside0.mk (hkrs.trans (by rw [hks]))
  have HSTP := Aside0.mk (show (now, ks) = stp kind o hs now ws by unfold stp; rw [if_neg (by simp [hk]), if_pos hk3, hks]; simp [pas_nil])
  clear hds hks hkrs
  go_enter Try.func14, Try.ntmps14
  go_wp2_with (first | ((with_reducible refine gate_dst (N := 4) rfl ?_); refine ev_boxs S ?_ 4 rfl rfl rfl ?_; (first | exact want0 rfl | exact want1 rfl rfl rfl rfl); intro g4 w4 S_; clear S; have S := S_; clear S_) | ((with_reducible refine gate_dst (N := 5) rfl ?_); refine ev_boxs S ?_ 5 rfl rfl rfl ?_; (first | exact want0 rfl | exact want1 rfl rfl rfl rfl); intro g5 w5 S_; clear S; have S := S_; clear S_) | ((with_reducible refine gate_dst (N := 6) rfl ?_); refine ev_alloc #[.int .u64 0, .slice none 0 0] rfl S ?_ 6 rfl rfl z33 ?_; (first | exact want0 rfl | exact want1 rfl rfl rfl rfl); intro g6 w6 S_; clear S; have S := S_; clear S_) | (refine ev_own1 S ?_ rfl o5 rfl (by repeat (first | exact Spot.here _ _ | apply Spot.there)) (by exact rfl) ?_; (first | exact want0 rfl | exact want1 rfl rfl rfl rfl)) | (refine ev_own1 S ?_ rfl o22 rfl (by repeat (first | exact Spot.here _ _ | apply Spot.there)) (by exact rfl) ?_; (first | exact want0 rfl | exact want1 rfl rfl rfl rfl)) | (refine ev_owns (vs := [_, _]) S ?_ rfl m33 rfl (by repeat (first | exact Spot.here _ _ | apply Spot.there)) (by exact rfl) ?_; (first | exact want0 rfl | exact want1 rfl rfl rfl rfl)) | ((with_reducible refine gate_dst (N := 9) rfl ?_); refine ev_alloc #[.int .u64 0, .slice none 0 0] rfl S ?_ 9 rfl rfl z33 ?_; (first | exact want0 rfl | exact want1 rfl rfl rfl rfl); intro g9 w9 S_; clear S; have S := S_; clear S_) | (refine ev_puts S ?_ rfl rfl s33 rfl rfl (by repeat (first | exact Spot.here _ _ | apply Spot.there)) rfl ?_ ?_ ?_; (first | exact want0 rfl | exact want1 rfl rfl rfl rfl); rfl; rfl; intro w_ S_; simp only [putAt, List.set_cons_zero, List.set_cons_succ] at S_; clear S; have S := S_; clear S_) | ((with_reducible refine gate_dst (N := 12) rfl ?_); refine ev_alloc #[.int .u64 0, .slice none 0 0] rfl S ?_ 12 rfl rfl z33 ?_; (first | exact want0 rfl | exact want1 rfl rfl rfl rfl); intro g12 w12 S_; clear S; have S := S_; clear S_) | (refine ev_own1 S ?_ rfl o36 rfl (by repeat (first | exact Spot.here _ _ | apply Spot.there)) (by exact rfl) ?_; (first | exact want0 rfl | exact want1 rfl rfl rfl rfl)) | ((with_reducible refine gate_dst (N := 16) rfl ?_); refine ev_alloc #[.int .u64 0, .slice none 0 0] rfl S ?_ 16 rfl rfl z33 ?_; (first | exact want0 rfl | exact want1 rfl rfl rfl rfl); intro g16 w16 S_; clear S; have S := S_; clear S_) | (go_at_call 22; have c_ := clear_ev2 (hs := []) S (by repeat (first | exact Spot.here _ _ | apply Spot.there)) HM.out rfl HDS.out HKS.out; (with_reducible refine c_.mono ?_); clear c_; rintro z_ w_ ⟨A11, c11, rfl, S_⟩; clear S; have S := S_; clear S_) | (go_at_call 24; have hS_ := S; have c_ := rtake_ev (now := now) (ws := ws) (rs := rs) (krs := krs) (Ar := Ar) (cr := cr) (Ah := none) (ch := 0) (hs := []) (ds := ds) S HM.out HE.out (HR.out _ (turn_of S (by repeat (first | exact Spot.here _ _ | apply Spot.there)))) HL.out (Kd.C_nil _ _) (Nat.le_refl _) HDS.out HKK.out; (try simp only [List.length_nil] at c_); (with_reducible refine c_.mono ?_); clear c_; rintro z_ w_ ⟨A12, c12, A13, c13, rfl, h9_, S_⟩; clear S; have S := S_; clear S_; have HNR := Aside0.mk (fun k hk => Nat.le_trans hS_.out.below.size (h9_ k hk)); clear h9_ hS_))
  have S2 := Aside0.mk S.out.drew
  clear S
  refine start_ (n := 6) (S := fun w' => w'.cell? ⟨g12, 0, none⟩ = some (.int .u64 now) ∧ w'.cell? ⟨g12, 1, none⟩ = some (.slice A12 krs.length c12)) (ds := []) #[false, false, false, false, false, false] (by kernel_rfl) rfl rfl ⟨((own_cell (g := g12) S2 (by repeat (first | exact Spot.here _ _ | apply Spot.there)) 0).trans rfl), ((own_cell (g := g12) S2 (by repeat (first | exact Spot.here _ _ | apply Spot.there)) 1).trans rfl)⟩ (fun hHeld => ?_)
  refine pure_ (i := 1) (N := some 49) (v := ?_) (a' := ?_) #[false, true, false, false, false, false] rfl rfl (by kernel_rfl) (fun _ _ _ h => h) (Or.inl ⟨by rfl, ?_⟩) ?_ ?_
  rotate_left
  · intro w'
    go_simp
    with_reducible rfl
  rotate_left
  · simp only [Act.put, List.setIfInBounds_toArray, List.set_cons_zero, List.set_cons_succ, i64_w, i32_w]
    rfl
  refine pure_ (i := 2) (N := some 50) (v := ?_) (a' := ?_) #[false, true, true, false, false, false] rfl rfl (by kernel_rfl) (fun _ _ _ h => h) (Or.inl ⟨by rfl, ?_⟩) ?_ ?_
  rotate_left
  · intro w'
    go_simp
    with_reducible rfl
  rotate_left
  · simp only [Act.put, List.setIfInBounds_toArray, List.set_cons_zero, List.set_cons_succ, i64_w, i32_w]
    rfl
  refine take_ (i := 0) (N := some 48) (v := ?_) (a' := ?_) #[true, true, true, false, false, false] rfl rfl (by kernel_rfl) (fun _ _ _ h => h) (Or.inl ⟨by rfl, ?_⟩) hHeld ?_ ?_
  rotate_left
  · rintro w' ⟨s0, s1⟩
    go_simp
    with_reducible rfl
  rotate_left
  · simp only [Act.put, List.setIfInBounds_toArray, List.set_cons_zero, List.set_cons_succ, i64_w, i32_w]
    rfl
  refine one_ (i := 3) (N := some 51) #[true, true, true, true, false, false] rfl rfl (by kernel_rfl) (by decide) (fun K hK => ?_)
  refine goes_ Try.func23 (by kernel_rfl) rfl #[.slice A11 ds.length c11, .slice A13 ds.length c13] (by rfl) rfl rfl (by simp only [List.map_toArray, List.map_cons, List.map_nil]; rfl) ?_
  with_reducible refine (budwoodlaw17_sameOwners.calls ds.length.succ A11 c11 ds A13 c13 ds true _ (Own.reads (pred_at S2.out (a := Own (Kd.int .u16) 36 A11 c11 ds) (by repeat (first | exact Spot.here _ _ | apply Spot.there)))) (Own.cap (pred_at S2.out (a := Own (Kd.int .u16) 36 A11 c11 ds) (by repeat (first | exact Spot.here _ _ | apply Spot.there)))) (Own.reads (pred_at S2.out (a := Own (Kd.int .u16) 36 A13 c13 ds) (by repeat (first | exact Spot.here _ _ | apply Spot.there)))) (Own.cap (pred_at S2.out (a := Own (Kd.int .u16) 36 A13 c13 ds) (by repeat (first | exact Spot.here _ _ | apply Spot.there)))) (same_f _ HD1.out _ (Nat.lt_succ_self _))).mono ?_
  rintro z9 w3 ⟨rfl, ⟨m_, rfl⟩⟩
  have S3 := Aside0.mk (S2.out.drewN m_)
  refine ⟨_, rfl, ?_⟩
  refine hK.out _ _ ⟨((own_cell (g := g12) S3 (by repeat (first | exact Spot.here _ _ | apply Spot.there)) 0).trans rfl), ((own_cell (g := g12) S3 (by repeat (first | exact Spot.here _ _ | apply Spot.there)) 1).trans rfl)⟩ (fun hHeld => ?_)
  clear hK K
  refine norm_ (a' := ?_) ?_ ?_
  rotate_left
  · show Act.put _ (some 51) _ = _
    simp only [Act.put, List.setIfInBounds_toArray, List.set_cons_zero, List.set_cons_succ, i64_w, i32_w]
    rfl
  refine one_ (i := 4) (N := none) #[true, true, true, true, true, false] rfl rfl (by kernel_rfl) (by decide) (fun K hK => ?_)
  refine st_puts (g := g6) S3 (by rfl) rfl rfl s33 rfl rfl (by repeat (first | exact Spot.here _ _ | apply Spot.there)) rfl (by rfl) (by rfl) ?_
  intro w5 S5
  simp only [putAt, List.set_cons_zero, List.set_cons_succ] at S5
  refine hK.out _ _ ⟨((own_cell (g := g12) S5 (by repeat (first | exact Spot.here _ _ | apply Spot.there)) 0).trans rfl), ((own_cell (g := g12) S5 (by repeat (first | exact Spot.here _ _ | apply Spot.there)) 1).trans rfl)⟩ (fun hHeld => ?_)
  clear hK K
  refine pure_ (i := 5) (N := some 7) (v := ?_) (a' := ?_) #[true, true, true, true, true, true] rfl rfl (by kernel_rfl) (fun _ _ _ h => h) (Or.inl ⟨by rfl, ?_⟩) ?_ ?_
  rotate_left
  · intro w'
    go_simp
    with_reducible rfl
  rotate_left
  · simp only [Act.put, List.setIfInBounds_toArray, List.set_cons_zero, List.set_cons_succ, i64_w, i32_w]
    rfl
  refine done_ (by kernel_rfl) ?_

  clear S2 S3
  have S := S5
  clear S5
  go_wp2_with (first | ((with_reducible refine gate_dst (N := 4) rfl ?_); refine ev_boxs S ?_ 4 rfl rfl rfl ?_; (first | exact want0 rfl | exact want1 rfl rfl rfl rfl); intro g4 w4 S_; clear S; have S := S_; clear S_) | ((with_reducible refine gate_dst (N := 5) rfl ?_); refine ev_boxs S ?_ 5 rfl rfl rfl ?_; (first | exact want0 rfl | exact want1 rfl rfl rfl rfl); intro g5 w5 S_; clear S; have S := S_; clear S_) | ((with_reducible refine gate_dst (N := 6) rfl ?_); refine ev_alloc #[.int .u64 0, .slice none 0 0] rfl S ?_ 6 rfl rfl z33 ?_; (first | exact want0 rfl | exact want1 rfl rfl rfl rfl); intro g6 w6 S_; clear S; have S := S_; clear S_) | (refine ev_own1 S ?_ rfl o5 rfl (by repeat (first | exact Spot.here _ _ | apply Spot.there)) (by exact rfl) ?_; (first | exact want0 rfl | exact want1 rfl rfl rfl rfl)) | (refine ev_own1 S ?_ rfl o22 rfl (by repeat (first | exact Spot.here _ _ | apply Spot.there)) (by exact rfl) ?_; (first | exact want0 rfl | exact want1 rfl rfl rfl rfl)) | (refine ev_owns (vs := [_, _]) S ?_ rfl m33 rfl (by repeat (first | exact Spot.here _ _ | apply Spot.there)) (by exact rfl) ?_; (first | exact want0 rfl | exact want1 rfl rfl rfl rfl)) | ((with_reducible refine gate_dst (N := 9) rfl ?_); refine ev_alloc #[.int .u64 0, .slice none 0 0] rfl S ?_ 9 rfl rfl z33 ?_; (first | exact want0 rfl | exact want1 rfl rfl rfl rfl); intro g9 w9 S_; clear S; have S := S_; clear S_) | (refine ev_puts S ?_ rfl rfl s33 rfl rfl (by repeat (first | exact Spot.here _ _ | apply Spot.there)) rfl ?_ ?_ ?_; (first | exact want0 rfl | exact want1 rfl rfl rfl rfl); rfl; rfl; intro w_ S_; simp only [putAt, List.set_cons_zero, List.set_cons_succ] at S_; clear S; have S := S_; clear S_) | ((with_reducible refine gate_dst (N := 12) rfl ?_); refine ev_alloc #[.int .u64 0, .slice none 0 0] rfl S ?_ 12 rfl rfl z33 ?_; (first | exact want0 rfl | exact want1 rfl rfl rfl rfl); intro g12 w12 S_; clear S; have S := S_; clear S_) | (refine ev_own1 S ?_ rfl o36 rfl (by repeat (first | exact Spot.here _ _ | apply Spot.there)) (by exact rfl) ?_; (first | exact want0 rfl | exact want1 rfl rfl rfl rfl)) | ((with_reducible refine gate_dst (N := 16) rfl ?_); refine ev_alloc #[.int .u64 0, .slice none 0 0] rfl S ?_ 16 rfl rfl z33 ?_; (first | exact want0 rfl | exact want1 rfl rfl rfl rfl); intro g16 w16 S_; clear S; have S := S_; clear S_) | (go_at_call 22; have c_ := clear_ev2 (hs := []) S (by repeat (first | exact Spot.here _ _ | apply Spot.there)) HM.out rfl HDS.out HKS.out; (with_reducible refine c_.mono ?_); clear c_; rintro z_ w_ ⟨A11, c11, rfl, S_⟩; clear S; have S := S_; clear S_) | (go_at_call 24; have hS_ := S; have c_ := rtake_ev (now := now) (ws := ws) (rs := rs) (krs := krs) (Ar := Ar) (cr := cr) (Ah := none) (ch := 0) (hs := []) (ds := ds) S HM.out HE.out (HR.out _ (turn_of S (by repeat (first | exact Spot.here _ _ | apply Spot.there)))) HL.out (Kd.C_nil _ _) (Nat.le_refl _) HDS.out HKK.out; (try simp only [List.length_nil] at c_); (with_reducible refine c_.mono ?_); clear c_; rintro z_ w_ ⟨A12, c12, A13, c13, rfl, h9_, S_⟩; clear S; have S := S_; clear S_; have HNR := Aside0.mk (fun k hk => Nat.le_trans hS_.out.below.size (h9_ k hk)); clear h9_ hS_))
  refine retN (rs := [.cell 6 33, .tmp 7]) rfl rfl ?_ (Bk.vals S rfl (by repeat (first | exact Spot.here _ _ | apply Spot.there)) m33 (by exact rfl) (.tmp .nil)) ?_
  · simp
  exact ⟨_, _, _, ks, A12, c12, by rw [← HKR.out]; first | rfl | (simp; done), clk_at S (by repeat (first | exact Spot.here _ _ | apply Spot.there)), by rw [← HKR.out]; exact pred_at S.out (by repeat (first | exact Spot.here _ _ | apply Spot.there)), HNR.out, clk_apart S (by repeat (first | exact Spot.here _ _ | apply Spot.there)) (by repeat (first | exact Spot.here _ _ | apply Spot.there)) (by repeat (first | exact Two.first (by repeat (first | exact Spot.here _ _ | apply Spot.there)) | apply Two.there)), turn_of S (by repeat (first | exact Spot.here _ _ | apply Spot.there)), HK1.out, by omega, by omega, HSTP.out⟩

set_option maxRecDepth 100000 in
set_option maxHeartbeats 16000000 in
theorem do_retire (g : Nat) (now : Int) (A : Option Addr) (c : Nat) (ws : List S46) (rs : List S67) (Ar : Option Addr) (cr : Nat) (kind o : Int) (Ah : Option Addr) (ch : Nat) (hs : List S59) (w : World) (h : Clk w g now A c ws) (hm : ws.length ≤ 1000000) (h0 : 0 ≤ now) (h1 : now < 1099511627776) (hr : rs = ws.map cv) (hR : ∀ W', Turn w W' (KK g A) → Kd.C k67 W' Ar rs.length rs) (hcr : rs.length ≤ cr) (hC : ∀ W', Turn w W' (KK g A) → Kd.C k59 W' Ah hs.length hs) (hc : hs.length ≤ ch) (hk : (Int.tmod kind 4 == 2) = false) (hk3 : (Int.tmod kind 4 == 3) = false) :
    Calls Try.prog 14 #[.pointer (some ⟨g, 0, none⟩), .agg #[.int .u64 now, .slice Ar rs.length cr], .agg #[.int .u8 kind, .int .u16 o, .slice Ah hs.length ch]] w fun z w' => Did w g now A ws kind o hs z w' := by
  have S := clkA_start h
  have HR := Aside0.mk hR
  have HC := Aside0.mk hC
  have HL := Aside0.mk hcr
  have HM := Aside0.mk hm
  have HE := Aside0.mk hr
  clear h hR hC hcr hm hr
  obtain ⟨ks, hks⟩ : ∃ ks : List S46, ks = ws ++ [⟨o, now + 1⟩] := ⟨_, rfl⟩
  obtain ⟨krs, hkrs⟩ : ∃ krs, krs = ks.map cv := ⟨_, rfl⟩
  have HK1 := Aside0.mk (show ks.length ≤ ws.length + 1 by rw [hks]; simp)
  have HKS := Aside0.mk hks
  have HKR := Aside0.mk hkrs
  have HKK := Aside0.mk (show krs = rs ++ [(⟨o, now + 1⟩ : S67)] by rw [hkrs, hks, HE.out]; simp [cv])
  have HM2 := Aside0.mk (show rs.length ≤ 1000000 by rw [HE.out, List.length_map]; exact HM.out)
  have HSTP := Aside0.mk (show (now + 1, ks) = stp kind o hs now ws by unfold stp; rw [if_neg (by simp [hk]), if_neg (by simp [hk3]), hks])
  clear hks hkrs
  have e1 : ((now + 1) == (now + 1)) = true := by simp
  go_enter Try.func14, Try.ntmps14
  go_wp2_with (first | ((with_reducible refine gate_dst (N := 4) rfl ?_); refine ev_boxs S ?_ 4 rfl rfl rfl ?_; (first | exact want0 rfl | exact want1 rfl rfl rfl rfl); intro g4 w4 S_; clear S; have S := S_; clear S_) | ((with_reducible refine gate_dst (N := 5) rfl ?_); refine ev_boxs S ?_ 5 rfl rfl rfl ?_; (first | exact want0 rfl | exact want1 rfl rfl rfl rfl); intro g5 w5 S_; clear S; have S := S_; clear S_) | ((with_reducible refine gate_dst (N := 6) rfl ?_); refine ev_alloc #[.int .u64 0, .slice none 0 0] rfl S ?_ 6 rfl rfl z33 ?_; (first | exact want0 rfl | exact want1 rfl rfl rfl rfl); intro g6 w6 S_; clear S; have S := S_; clear S_) | (refine ev_own1 S ?_ rfl o5 rfl (by repeat (first | exact Spot.here _ _ | apply Spot.there)) (by exact rfl) ?_; (first | exact want0 rfl | exact want1 rfl rfl rfl rfl)) | (refine ev_own1 S ?_ rfl o22 rfl (by repeat (first | exact Spot.here _ _ | apply Spot.there)) (by exact rfl) ?_; (first | exact want0 rfl | exact want1 rfl rfl rfl rfl)) | (refine ev_owns (vs := [_, _]) S ?_ rfl m33 rfl (by repeat (first | exact Spot.here _ _ | apply Spot.there)) (by exact rfl) ?_; (first | exact want0 rfl | exact want1 rfl rfl rfl rfl)) | ((with_reducible refine gate_dst (N := 9) rfl ?_); refine ev_alloc #[.int .u64 0, .slice none 0 0] rfl S ?_ 9 rfl rfl z33 ?_; (first | exact want0 rfl | exact want1 rfl rfl rfl rfl); intro g9 w9 S_; clear S; have S := S_; clear S_) | (refine ev_puts S ?_ rfl rfl s33 rfl rfl (by repeat (first | exact Spot.here _ _ | apply Spot.there)) rfl ?_ ?_ ?_; (first | exact want0 rfl | exact want1 rfl rfl rfl rfl); rfl; rfl; intro w_ S_; simp only [putAt, List.set_cons_zero, List.set_cons_succ] at S_; clear S; have S := S_; clear S_) | ((with_reducible refine gate_dst (N := 12) rfl ?_); refine ev_alloc #[.int .u64 0, .slice none 0 0] rfl S ?_ 12 rfl rfl z33 ?_; (first | exact want0 rfl | exact want1 rfl rfl rfl rfl); intro g12 w12 S_; clear S; have S := S_; clear S_) | (refine ev_own1 S ?_ rfl o36 rfl (by repeat (first | exact Spot.here _ _ | apply Spot.there)) (by exact rfl) ?_; (first | exact want0 rfl | exact want1 rfl rfl rfl rfl)) | ((with_reducible refine gate_dst (N := 16) rfl ?_); refine ev_alloc #[.int .u64 0, .slice none 0 0] rfl S ?_ 16 rfl rfl z33 ?_; (first | exact want0 rfl | exact want1 rfl rfl rfl rfl); intro g16 w16 S_; clear S; have S := S_; clear S_) | (go_at_call 20; have c_ := retire_ev S (by repeat (first | exact Spot.here _ _ | apply Spot.there)) o HM.out h0 h1; rw [← HKS.out] at c_; (with_reducible refine c_.mono ?_); clear c_; rintro z_ w_ ⟨A14, c14, rfl, S_⟩; clear S; have S := S_; clear S_) | (go_at_call 25; have hS_ := S; have c_ := rretire_ev (now := now) (rs := rs) (krs := krs) (Ar := Ar) (cr := cr) S o HM2.out (HR.out _ (turn_of S (by repeat (first | exact Spot.here _ _ | apply Spot.there)))) h0 h1 HKK.out; (with_reducible refine c_.mono ?_); clear c_; rintro z_ w_ ⟨A16, c16, rfl, h9_, S_⟩; clear S; have S := S_; clear S_; have HNR := Aside0.mk (fun k hk => Nat.le_trans hS_.out.below.size (h9_ k hk)); clear h9_ hS_))
  refine retN (rs := [.cell 6 33, .tmp 7]) rfl rfl ?_ (Bk.vals S rfl (by repeat (first | exact Spot.here _ _ | apply Spot.there)) m33 (by exact rfl) (.tmp .nil)) ?_
  · simp
  exact ⟨_, _, _, ks, A16, c16, by rw [← HKR.out]; first | rfl | (simp; done), clk_at S (by repeat (first | exact Spot.here _ _ | apply Spot.there)), by rw [← HKR.out]; exact pred_at S.out (by repeat (first | exact Spot.here _ _ | apply Spot.there)), HNR.out, clk_apart S (by repeat (first | exact Spot.here _ _ | apply Spot.there)) (by repeat (first | exact Spot.here _ _ | apply Spot.there)) (by repeat (first | exact Two.first (by repeat (first | exact Spot.here _ _ | apply Spot.there)) | apply Two.there)), turn_of S (by repeat (first | exact Spot.here _ _ | apply Spot.there)), HK1.out, by omega, by omega, HSTP.out⟩

theorem do_calls (g : Nat) (now : Int) (A : Option Addr) (c : Nat) (ws : List S46) (rs : List S67) (Ar : Option Addr) (cr : Nat) (kind o : Int) (Ah : Option Addr) (ch : Nat) (hs : List S59) (w : World) (h : Clk w g now A c ws) (hm : ws.length ≤ 1000000) (h0 : 0 ≤ now) (h1 : now < 1099511627776) (hr : rs = ws.map cv) (hR : ∀ W', Turn w W' (KK g A) → Kd.C k67 W' Ar rs.length rs) (hcr : rs.length ≤ cr) (hC : ∀ W', Turn w W' (KK g A) → Kd.C k59 W' Ah hs.length hs) (hc : hs.length ≤ ch) :
    Calls Try.prog 14 #[.pointer (some ⟨g, 0, none⟩), .agg #[.int .u64 now, .slice Ar rs.length cr], .agg #[.int .u8 kind, .int .u16 o, .slice Ah hs.length ch]] w fun z w' => Did w g now A ws kind o hs z w' := by
  by_cases h2 : (Int.tmod kind 4 == 2) = true
  · exact do_take g now A c ws rs Ar cr kind o Ah ch hs w h hm h0 h1 hr hR hcr hC hc h2
  by_cases h3 : (Int.tmod kind 4 == 3) = true
  · exact do_clear g now A c ws rs Ar cr kind o Ah ch hs w h hm h0 h1 hr hR hcr hC hc (by simpa using h2) h3
  exact do_retire g now A c ws rs Ar cr kind o Ah ch hs w h hm h0 h1 hr hR hcr hC hc (by simpa using h2) (by simpa using h3)
end Go.Proofs.Ytajmfmgfdgdioaa.Cl
