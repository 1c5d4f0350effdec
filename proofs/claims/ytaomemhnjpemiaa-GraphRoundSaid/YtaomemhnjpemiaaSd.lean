/- Who stands on whom, seen from both sides. -/
import Derived.Test.YtaomemhnjpemiaaZSys
namespace Go.Proofs.Ytaomemhnjpemiaa.Mp
open Go Go.Maps Go.RowKit Go.Proofs.Ytaomemhnjpemiaa.PB Go.Proofs.Ytaomemhnjpemiaa.Doc Go.Proofs.Ytaomemhnjpemiaa.Sep Go.Proofs.Ytaomemhnjpemiaa.Ev Go.Proofs.Ytaomemhnjpemiaa.Ty Go.Proofs.YtaomemhnjpemiaaW.PrintWords Go.Proofs.YtaomemhnjpemiaaW.PrintLast Go.Proofs.YtaomemhnjpemiaaW.PrintMore
set_option linter.unusedVariables false
set_option linter.unusedSimpArgs false

theorem noround_nil : NoRound [] := fun a p => by
 obtain ⟨c, hc⟩ := p.last
 cases hc
theorem noround_aft {G : List S73} (hG : Doc.Good G) (N : NoRound G) (kind : Int) (s : ByteArray) (xs : List ByteArray) : NoRound (aft G kind s xs) := by
 unfold aft
 split
 ·unfold aftRem
  split
  ·split
   ·exact N.without s
   ·exact N
  ·exact N
 ·split
  ·unfold aftTurn
   split
   ·rename_i hin
    split
    ·rename_i hall
     split
     ·exact N
     ·rename_i hr
      refine N.turn s xs (fun d hd => ?_)
      have h1 : rounds_ G s d = false := by
       cases hv : rounds_ G s d with
       | false => rfl
       | true => exact absurd (List.any_eq_true.2 ⟨d, hd, hv⟩) hr
      unfold rounds_ at h1
      simp only [Bool.or_eq_false_iff, decide_eq_false_iff_not] at h1
      refine ⟨h1.1, fun p => ?_⟩
      have h2 := h1.2
      rw [decide_eq_true ((reached_iff hG d s).2 p), decide_eq_true hin, decide_eq_true (hall d hd)] at h2
      cases h2
    ·exact N
   ·exact N
  ·unfold aftAdd
   split
   ·exact N
   ·rename_i hin
    split
    ·rename_i hall
     exact N.with_ hG ⟨s, setOf xs⟩ hin (fun d hd => hall d ((setOf_mem d xs).1 hd))
    ·exact N

theorem keep2 (x a : Asn) (L : List Asn) : [x, a].Sublist (x :: a :: L) := ((List.nil_sublist _).cons_cons a).cons_cons x
theorem errRem_is {G : List S73} {a : ByteArray} (h : a ∈ names G) : ∃ (e : Int) (b : Bool), errRem G a = e ∧ (e == 0) = b ∧ (((dependents G a).length : Int) == 0) = b := by
 unfold errRem
 rw [if_pos h]
 cases hd : dependents G a with
 | nil => exact ⟨0, true, by simp, rfl, rfl⟩
 | cons y ys => exact ⟨26, false, by simp, rfl, by rw [List.length_cons]; simp; omega⟩
theorem in_ev {B : Nat} {w W : World} {L : List Asn} {F : Asn → List Asn} {A : Option Addr} {c : Nat} {xs : List ByteArray} {y : ByteArray} (S : Aside0 (St B w W L)) (hs : Spot L (Own Kd.string 9 A c xs) F) (hl : xs.length ≤ 1000) :
  Calls Try.prog 24 #[.slice A xs.length c, .string y] W fun z W' => z = .returned (.bool (decide (y ∈ xs))) ∧ Aside0 (St B w W' L) := by
 refine (budwoodref14_In.calls _ A c xs y _ W (Own.reads (pred_at S.out hs)) (Own.cap (pred_at S.out hs)) (in_f xs y (by omega) _ (Nat.lt_succ_self _))).mono ?_
 rintro z W' ⟨rfl, ⟨m, rfl⟩⟩
 exact ⟨rfl, ⟨S.out.drewN m⟩⟩
set_option maxRecDepth 100000 in
set_option maxHeartbeats 16000000 in
theorem sides (A0 : Option Addr) (l : List S34) (c0 : Nat) (w : World) (hC : Kd.C k34 w A0 l.length l) (hc : l.length ≤ c0) (hok : Ok34 l) :
  Calls Try.prog 7 #[.slice A0 l.length c0] w fun z w' => z = .returned (.bool true) ∧ Below w.heap.size w w' := by
 have HC := Aside0.mk hC
 have HCC := Aside0.mk hc
 have HOK := Aside0.mk hok
 obtain ⟨kf, b, hf, hfb⟩ := few_ok l
 have HFW := Aside0.mk hf
 have HFB := Aside0.mk hfb
 have S := Aside0.mk (St.start w)
 clear hC hc hok hf hfb
 cases b with
 | false =>
  go_enter Try.func7, Try.ntmps7
  go_wp2_with (first | (go_at_call 8; have c_ := budwoodlaw14_few.calls _ A0 c0 l _ _ (Kd.C_below HC.out S.out.below) HCC.out HFW.out; (with_reducible refine c_.mono ?_); clear c_; rintro z_ w_ ⟨rfl, hb_⟩; have S_ := Aside0.mk (S.out.keep hb_); clear hb_; clear S; have S := S_; clear S_) | (go_at_call 9; (with_reducible refine (awake_calls _).mono ?_); rintro z_ w_ ⟨rfl, hb_⟩; have S_ := Aside0.mk (S.out.keep hb_); clear hb_; clear S; have S := S_; clear S_) | (go_at_call 10; have c_ := new_ev S; (with_reducible refine c_.mono ?_); clear c_; rintro z_ w_ ⟨g, bm, rfl, S_⟩; clear S; have S := S_; clear S_) | ((with_reducible refine gate_dst (N := 4) rfl ?_); refine ev_alloc #[.slice none 0 0] rfl S ?_ 4 rfl rfl Ty.z29 ?_; (first | exact want0 rfl | exact want1 rfl rfl rfl rfl); intro g4 w4 S_; clear S; have S := S_; clear S_) | (refine ev_puts S ?_ rfl rfl s29 rfl rfl (by repeat (first | exact Spot.here _ _ | apply Spot.there)) rfl ?_ ?_ ?_; (first | exact want0 rfl | exact want1 rfl rfl rfl rfl); rfl; rfl; intro w_ S_; simp only [putAt, List.set_cons_zero, List.set_cons_succ] at S_; clear S; have S := S_; clear S_) | (refine ev_owns (vs := [_]) S ?_ rfl m29 rfl (by repeat (first | exact Spot.here _ _ | apply Spot.there)) (by exact rfl) ?_; (first | exact want0 rfl | exact want1 rfl rfl rfl rfl)) | go_in)
  go_ret
  exact ⟨rfl, S.out.below⟩
 | true =>
  go_enter Try.func7, Try.ntmps7
  go_wp2_with (first | (go_at_call 8; have c_ := budwoodlaw14_few.calls _ A0 c0 l _ _ (Kd.C_below HC.out S.out.below) HCC.out HFW.out; (with_reducible refine c_.mono ?_); clear c_; rintro z_ w_ ⟨rfl, hb_⟩; have S_ := Aside0.mk (S.out.keep hb_); clear hb_; clear S; have S := S_; clear S_) | (go_at_call 9; (with_reducible refine (awake_calls _).mono ?_); rintro z_ w_ ⟨rfl, hb_⟩; have S_ := Aside0.mk (S.out.keep hb_); clear hb_; clear S; have S := S_; clear S_) | (go_at_call 10; have c_ := new_ev S; (with_reducible refine c_.mono ?_); clear c_; rintro z_ w_ ⟨g, bm, rfl, S_⟩; clear S; have S := S_; clear S_) | ((with_reducible refine gate_dst (N := 4) rfl ?_); refine ev_alloc #[.slice none 0 0] rfl S ?_ 4 rfl rfl Ty.z29 ?_; (first | exact want0 rfl | exact want1 rfl rfl rfl rfl); intro g4 w4 S_; clear S; have S := S_; clear S_) | (refine ev_puts S ?_ rfl rfl s29 rfl rfl (by repeat (first | exact Spot.here _ _ | apply Spot.there)) rfl ?_ ?_ ?_; (first | exact want0 rfl | exact want1 rfl rfl rfl rfl); rfl; rfl; intro w_ S_; simp only [putAt, List.set_cons_zero, List.set_cons_succ] at S_; clear S; have S := S_; clear S_) | (refine ev_owns (vs := [_]) S ?_ rfl m29 rfl (by repeat (first | exact Spot.here _ _ | apply Spot.there)) (by exact rfl) ?_; (first | exact want0 rfl | exact want1 rfl rfl rfl rfl)) | go_in)
  have S1 := start_sys S
  clear S
  have S := S1
  clear S1
  go_loopw [5] (fun vi wr => ∃ (i n : Nat) (f : ByteArray → Option Nat) (G : List S73) (D : Nat → Prop) (Ar : Option Addr) (cr : Nat), vi = .int .i64 i ∧ i ≤ l.length ∧ Aside0 (n ≤ i) ∧ Aside0 (G.length ≤ i) ∧ Aside0 (NoRound G) ∧ Aside0 (St w.heap.size w wr [GAs [⟨g, bm, n, f, G⟩], View k73 73 D (.slice Ar G.length cr) G, Bk g4 #[.slice Ar G.length cr] 29])) (fun vi _ => l.length - (intOf vi).toNat)
  case atStart => exact ⟨0, 0, fun _ => none, [], fun _ => False, none, 0, rfl, Nat.zero_le _, ⟨Nat.le_refl _⟩, ⟨Nat.le_refl _⟩, ⟨noround_nil⟩, S⟩
  case round =>
   clear S
   obtain ⟨i, n, f, G, D, Ar, cr, rfl, hi, HNI, HGI, HNR, S⟩ := hrel
   by_cases hlt : i < l.length
   ·have HLI := Aside0.mk hlt
    have hd2 : decide ((i : Int) < (l.length : Int)) = true := decide_eq_true (by omega)
    have hil : (i : Int) < (l.length : Int) := by omega
    have hi0 : (0 : Int) ≤ (i : Int) := by omega
    have HI1 := Aside0.mk (show wrap64 ((i : Int) + 1) = ((i + 1 : Nat) : Int) by have := (HFB.out (by trivial)).1; unfold wrap64; omega)
    obtain ⟨ad, Ah, ch, rfl, hH, hxc, hch, hxm⟩ := act_at HC.out i hlt
    have HXS := Aside0.mk (HOK.out _ hxm)
    have HXL := Aside0.mk (show (rd_T34 l (i : Int)).f2.length ≤ 1000 from Nat.le_trans ((HFB.out (by trivial)).2 _ hxm) (by omega))
    generalize rd_T34 l (i : Int) = x at *
    have HH := Aside0.mk hH
    have HX1 := Aside0.mk (has_cell hH (by omega : (1 : Nat) ≠ 0) rfl)
    have HX2 := Aside0.mk (has_cell hH (by omega : (2 : Nat) ≠ 0) rfl)
    have HXC := Aside0.mk hxc
    have HCH := Aside0.mk hch
    clear hH hxc hch hxm
    have HN := Aside0.mk (show n < 1000000 by have := (HFB.out (by trivial)).1; have := HNI.out; omega)
    have HL := Aside0.mk (show G.length < 1000 by have := (HFB.out (by trivial)).1; have := HGI.out; omega)
    have HNR9 := Aside0.mk (noround_aft (gr_at S (by repeat (first | exact Spot.here _ _ | apply Spot.there))).good HNR.out x.f0 x.f1 x.f2)
    go_wp2
    have S2 := Aside0.mk S.out.drew
    clear S
    refine start_ (n := 11) (S := fun w' => w'.cell? ⟨g4, 0, none⟩ = some (.slice Ar G.length cr)) (ds := [10]) (bt 11 0) (by kernel_rfl) rfl rfl (((own_cell (g := g4) S2 (by repeat (first | exact Spot.here _ _ | apply Spot.there)) 0).trans rfl)) (fun hHeld => ?_)
    refine pur 0 23 (bt 11 1) ?_
    refine pur 2 25 (bt 11 5) ?_
    refine pur 3 26 (bt 11 13) ?_
    refine pur 4 27 (bt 11 29) ?_
    refine tak 1 24 (bt 11 31) hHeld ?_
    refine on1 5 28 (bt 11 63) (fun K hK => ?_)
    refine st_loads (N := some 28) (vs := [_, _, _]) (by rfl) rfl rfl m34 rfl (olds_ S2 HH.out) ?_
    refine hK.out _ _ (((own_cell (g := g4) S2 (by repeat (first | exact Spot.here _ _ | apply Spot.there)) 0).trans rfl)) (fun hHeld => ?_)
    clear hK K
    refine nrm ?_
    refine on1 6 29 (bt 11 127) (fun K hK => ?_)
    have c_ := do_ev (x := ⟨g, bm, n, f, G⟩) (kind := x.f0) (s := x.f1) (xs := x.f2) (A := Ah) (c := ch) S2 HN.out HL.out HXS.out.1 HCH.out HXC.out HXS.out.2 HXL.out
    refine goes_ Try.func11 (by kernel_rfl) rfl #[.pointer (some ⟨g, 0, none⟩), .agg #[.slice Ar G.length cr], .agg #[.int .u8 x.f0, .string x.f1, .slice Ah x.f2.length ch]] (by rfl) rfl rfl (by simp only [List.map_toArray, List.map_cons, List.map_nil]; rfl) ?_
    with_reducible refine (c_).mono ?_
    rintro z9 w9 ⟨n9, f9, D9, A9, c9, rfl, hn9, S9⟩
    clear c_
    (try dsimp only at S9 hn9)
    have HN9 := Aside0.mk hn9
    clear hn9
    generalize hG9 : aft G x.f0 x.f1 x.f2 = G9 at *
    refine ⟨_, rfl, ?_⟩
    refine hK.out _ _ (((own_cell (g := g4) S9 (by repeat (first | exact Spot.here _ _ | apply Spot.there)) 0).trans rfl)) (fun hHeld => ?_)
    clear hK K
    refine nrm ?_
    refine pur 7 22 (bt 11 255) ?_
    refine pur 8 30 (bt 11 511) ?_
    refine pur 9 31 (bt 11 1023) ?_
    refine last_ (i := 10) (N := none) (bt 11 2047) rfl rfl (by kernel_rfl) (by decide) (fun K hK => ?_)
    refine st_puts (g := g4) S9 (by rfl) rfl rfl s29 rfl rfl (by repeat (first | exact Spot.here _ _ | apply Spot.there)) rfl (by rfl) (by rfl) ?_
    intro w8 S8
    simp only [putAt, List.set_cons_zero, List.set_cons_succ] at S8
    refine hK.out _ _ ?_
    clear hK K
    refine done_ (by kernel_rfl) ?_

    clear S2 S9
    have S := S8
    clear S8
    go_wp2
    refine ⟨⟨i + 1, n9, f9, G9, D9, A9, c9, by simp [HI1.out], by omega, ⟨by have := HN9.out; have := HNI.out; omega⟩, ⟨by have h1 := aft_len G x.f0 x.f1 x.f2; rw [hG9] at h1; have := HGI.out; omega⟩, ⟨hG9 ▸ HNR9.out⟩, S⟩, meas hlt HI1.out⟩
   ·obtain rfl : i = l.length := by omega
    have hd2 : decide ((l.length : Int) < (l.length : Int)) = false := decide_eq_false (by omega)
    have HLL := Aside0.mk (show n < 1000000 ∧ G.length < 1000 by have := (HFB.out (by trivial)).1; have := HNI.out; have := HGI.out; omega)
    go_wp2_with (first | (go_at_call 13; have c_ := order_ev (x := ⟨g, bm, n, f, G⟩) S (by repeat (first | exact Spot.here _ _ | apply Spot.there)); (with_reducible refine c_.mono ?_); clear c_; rintro z_ w_ ⟨AO, cO, rfl, S_⟩; (try dsimp only at S_); clear S; have S := S_; clear S_) | go_in)
    have S1 := Aside0.mk (S.out.drop (L' := [Own Kd.string 9 AO cO (order G), GAs [⟨g, bm, n, f, G⟩]]) (keep2 _ _ _))
    clear S
    have S := S1
    clear S1
    have HGR := Aside0.mk (show Doc.Good G from (gr_at S (by repeat (first | exact Spot.here _ _ | apply Spot.there))).good)
    have HOL := Aside0.mk (show (order G).length ≤ 1000 from by have h1 := order_len HGR.out; have h2 := HLL.out.2; omega)
    have HNM := Aside0.mk (order_come HGR.out).names
    have HSM := Aside0.mk (gr_at S (by repeat (first | exact Spot.here _ _ | apply Spot.there))).small
    have HLEN := Aside0.mk (show ∀ y, (depsOf G y).length ≤ 1000 ∧ (dependents G y).length ≤ 1000 from fun y => ⟨by have h1 := HGR.out.depsLen y; have h2 := HLL.out.2; omega, by have h1 := dependents_len G y; have h2 := HLL.out.2; omega⟩)
    go_loopw [7, 8, 9] (fun v7 v8 v9 wr => ∃ (i : Nat), v7 = .int .i64 i ∧ i ≤ (order G).length ∧ Aside0 (St w.heap.size w wr [Own Kd.string 9 AO cO (order G), GAs [⟨g, bm, n, f, G⟩]])) (fun v7 _ _ _ => (order G).length - (intOf v7).toNat)
    case atStart => exact ⟨0, rfl, Nat.zero_le _, S⟩
    case round =>
     clear S
     obtain ⟨i, rfl, hi, S⟩ := hrel
     by_cases hlt : i < (order G).length
     ·have hd3 : decide ((i : Int) < ((order G).length : Int)) = true := decide_eq_true (by omega)
      have hil : (i : Int) < ((order G).length : Int) := by omega
      have hi0 : (0 : Int) ≤ (i : Int) := by omega
      have HI1 := Aside0.mk (show wrap64 ((i : Int) + 1) = ((i + 1 : Nat) : Int) by have := HOL.out; unfold wrap64; omega)
      obtain ⟨gO, rfl⟩ := Own.form (pred_at S.out (a := Own Kd.string 9 AO cO (order G)) (by repeat (first | exact Spot.here _ _ | apply Spot.there))) (by omega)
      have HXA := Aside0.mk (List.getElem?_eq_getElem hlt)
      have HMA := Aside0.mk (HNM.out _ (List.getElem_mem hlt))
      have HSA := Aside0.mk (HSM.out _ HMA.out)
      generalize (order G)[i] = a at *
      go_wp2
      go_loopw [8] (fun v8 wr => ∃ (k : Nat), v8 = .int .i64 k ∧ k ≤ (order G).length ∧ Aside0 (St w.heap.size w wr [Own Kd.string 9 (some ⟨gO, 0, none⟩) cO (order G), GAs [⟨g, bm, n, f, G⟩]])) (fun v8 _ => (order G).length - (intOf v8).toNat)
      case atStart => exact ⟨0, rfl, Nat.zero_le _, S⟩
      case round =>
       clear S
       obtain ⟨k, rfl, hk, S⟩ := hrel
       by_cases hkt : k < (order G).length
       ·have hd4 : decide ((k : Int) < ((order G).length : Int)) = true := decide_eq_true (by omega)
        have hkl : (k : Int) < ((order G).length : Int) := by omega
        have hk0 : (0 : Int) ≤ (k : Int) := by omega
        have HK1 := Aside0.mk (show wrap64 ((k : Int) + 1) = ((k + 1 : Nat) : Int) by have := HOL.out; unfold wrap64; omega)
        have HXB := Aside0.mk (List.getElem?_eq_getElem hkt)
        have HMB := Aside0.mk (HNM.out _ (List.getElem_mem hkt))
        have HSB := Aside0.mk (HSM.out _ HMB.out)
        generalize (order G)[k] = b at *
        obtain ⟨v, hv⟩ : ∃ v, v = decide (b ∈ depsOf G a) := ⟨_, rfl⟩
        have HV1 := Aside0.mk hv.symm
        have HV2 := Aside0.mk (show decide (a ∈ dependents G b) = v by rw [hv]; simp [dependents_iff HGR.out, HMA.out])
        have hvv : (v != v) = false := by simp
        clear hv
        go_wp2
        have S2 := Aside0.mk S.out.drew
        clear S
        refine start_ (n := 23) (S := fun w' => w'.cell? ⟨gO, i, none⟩ = some (.string a) ∧ w'.cell? ⟨gO, k, none⟩ = some (.string b)) (ds := []) (bt 23 0) (by kernel_rfl) rfl rfl ⟨(row_cell (pred_at S2.out (a := Own Kd.string 9 (some ⟨gO, 0, none⟩) cO (order G)) (by repeat (first | exact Spot.here _ _ | apply Spot.there))) HXA.out), (row_cell (pred_at S2.out (a := Own Kd.string 9 (some ⟨gO, 0, none⟩) cO (order G)) (by repeat (first | exact Spot.here _ _ | apply Spot.there))) HXB.out)⟩ (fun hHeld => ?_)
        refine pur 0 46 (bt 23 1) ?_
        refine pur 1 47 (bt 23 3) ?_
        refine pur 2 48 (bt 23 7) ?_
        refine pur 3 49 (bt 23 15) ?_
        refine pur 6 52 (bt 23 79) ?_
        refine pur 7 53 (bt 23 207) ?_
        refine pur 8 54 (bt 23 463) ?_
        refine pur 11 57 (bt 23 2511) ?_
        refine pur 12 58 (bt 23 6607) ?_
        refine pur 13 59 (bt 23 14799) ?_
        refine pur 14 60 (bt 23 31183) ?_
        refine pur 17 63 (bt 23 162255) ?_
        refine pur 18 64 (bt 23 424399) ?_
        refine pur 19 65 (bt 23 948687) ?_
        refine tak 4 50 (bt 23 948703) hHeld ?_
        refine tak 9 55 (bt 23 949215) hHeld ?_
        refine tak 15 61 (bt 23 981983) hHeld ?_
        refine tak 20 66 (bt 23 2030559) hHeld ?_
        refine on1 5 51 (bt 23 2030591) (fun K hK => ?_)
        have c_ := deps_ev (x := ⟨g, bm, n, f, G⟩) (s := a) S2 (by repeat (first | exact Spot.here _ _ | apply Spot.there)) HSA.out
        refine goes_ Try.func14 (by kernel_rfl) rfl #[.pointer (some ⟨g, 0, none⟩), .string a] (by rfl) rfl rfl (by simp only [List.map_toArray, List.map_cons, List.map_nil]; rfl) ?_
        with_reducible refine (c_).mono ?_
        rintro z9 w3_ ⟨A51, c51, rfl, S3⟩
        clear c_
        (try dsimp only at S3)
        refine ⟨_, rfl, ?_⟩
        refine hK.out _ _ ⟨(row_cell (pred_at S3.out (a := Own Kd.string 9 (some ⟨gO, 0, none⟩) cO (order G)) (by repeat (first | exact Spot.here _ _ | apply Spot.there))) HXA.out), (row_cell (pred_at S3.out (a := Own Kd.string 9 (some ⟨gO, 0, none⟩) cO (order G)) (by repeat (first | exact Spot.here _ _ | apply Spot.there))) HXB.out)⟩ (fun hHeld => ?_)
        clear hK K
        refine nrm ?_
        refine on1 10 56 (bt 23 2031615) (fun K hK => ?_)
        have c_ := in_ev (A := A51) (c := c51) (xs := depsOf G a) (y := b) S3 (by repeat (first | exact Spot.here _ _ | apply Spot.there)) (HLEN.out a).1
        rw [HV1.out] at c_
        refine goes_ Try.func24 (by kernel_rfl) rfl #[.slice A51 (depsOf G a).length c51, .string b] (by rfl) rfl rfl (by simp only [List.map_toArray, List.map_cons, List.map_nil]; rfl) ?_
        with_reducible refine (c_).mono ?_
        rintro z9 w4_ ⟨rfl, S4⟩
        clear c_
        refine ⟨_, rfl, ?_⟩
        refine hK.out _ _ ⟨(row_cell (pred_at S4.out (a := Own Kd.string 9 (some ⟨gO, 0, none⟩) cO (order G)) (by repeat (first | exact Spot.here _ _ | apply Spot.there))) HXA.out), (row_cell (pred_at S4.out (a := Own Kd.string 9 (some ⟨gO, 0, none⟩) cO (order G)) (by repeat (first | exact Spot.here _ _ | apply Spot.there))) HXB.out)⟩ (fun hHeld => ?_)
        clear hK K
        refine nrm ?_
        refine on1 16 62 (bt 23 2097151) (fun K hK => ?_)
        have c_ := dependents_ev (x := ⟨g, bm, n, f, G⟩) (s := b) S4 (by repeat (first | exact Spot.here _ _ | apply Spot.there)) HSB.out
        refine goes_ Try.func23 (by kernel_rfl) rfl #[.pointer (some ⟨g, 0, none⟩), .string b] (by rfl) rfl rfl (by simp only [List.map_toArray, List.map_cons, List.map_nil]; rfl) ?_
        with_reducible refine (c_).mono ?_
        rintro z9 w5_ ⟨A62, c62, rfl, S5⟩
        clear c_
        (try dsimp only at S5)
        refine ⟨_, rfl, ?_⟩
        refine hK.out _ _ ⟨(row_cell (pred_at S5.out (a := Own Kd.string 9 (some ⟨gO, 0, none⟩) cO (order G)) (by repeat (first | exact Spot.here _ _ | apply Spot.there))) HXA.out), (row_cell (pred_at S5.out (a := Own Kd.string 9 (some ⟨gO, 0, none⟩) cO (order G)) (by repeat (first | exact Spot.here _ _ | apply Spot.there))) HXB.out)⟩ (fun hHeld => ?_)
        clear hK K
        refine nrm ?_
        refine on1 21 67 (bt 23 4194303) (fun K hK => ?_)
        have c_ := in_ev (A := A62) (c := c62) (xs := dependents G b) (y := a) S5 (by repeat (first | exact Spot.here _ _ | apply Spot.there)) (HLEN.out b).2
        rw [HV2.out] at c_
        refine goes_ Try.func24 (by kernel_rfl) rfl #[.slice A62 (dependents G b).length c62, .string a] (by rfl) rfl rfl (by simp only [List.map_toArray, List.map_cons, List.map_nil]; rfl) ?_
        with_reducible refine (c_).mono ?_
        rintro z9 w6_ ⟨rfl, S6⟩
        clear c_
        refine ⟨_, rfl, ?_⟩
        refine hK.out _ _ ⟨(row_cell (pred_at S6.out (a := Own Kd.string 9 (some ⟨gO, 0, none⟩) cO (order G)) (by repeat (first | exact Spot.here _ _ | apply Spot.there))) HXA.out), (row_cell (pred_at S6.out (a := Own Kd.string 9 (some ⟨gO, 0, none⟩) cO (order G)) (by repeat (first | exact Spot.here _ _ | apply Spot.there))) HXB.out)⟩ (fun hHeld => ?_)
        clear hK K
        refine nrm ?_
        refine pur 22 68 (bt 23 8388607) ?_
        refine done_ (by kernel_rfl) ?_

        have S := S6
        clear S2 S3 S4 S5 S6
        go_wp2
        refine ⟨⟨k + 1, by simp [HK1.out], by omega, ⟨S.out.drop ((List.sublist_cons_self _ _).trans (List.sublist_cons_self _ _))⟩⟩, meas hkt HK1.out⟩
       ·obtain rfl : k = (order G).length := by omega
        have hd4 : decide (((order G).length : Int) < ((order G).length : Int)) = false := decide_eq_false (by omega)
        go_wp2
        obtain ⟨e, bb, he, hee1, hee2⟩ := errRem_is (G := G) HMA.out
        have HE := Aside0.mk he
        clear he
        have S2 := Aside0.mk S.out.drew
        clear S
        refine start_ (n := 8) (S := fun w' => w'.cell? ⟨gO, i, none⟩ = some (.string a)) (ds := []) (bt 8 0) (by kernel_rfl) rfl rfl ((row_cell (pred_at S2.out (a := Own Kd.string 9 (some ⟨gO, 0, none⟩) cO (order G)) (by repeat (first | exact Spot.here _ _ | apply Spot.there))) HXA.out)) (fun hHeld => ?_)
        refine pur 0 69 (bt 8 1) ?_
        refine pur 2 71 (bt 8 5) ?_
        refine pur 3 72 (bt 8 13) ?_
        refine pur 4 73 (bt 8 29) ?_
        refine tak 5 74 (bt 8 61) hHeld ?_
        refine on1 1 70 (bt 8 63) (fun K hK => ?_)
        have c_ := fork_ev (x := ⟨g, bm, n, f, G⟩) S2 (by repeat (first | exact Spot.here _ _ | apply Spot.there))
        refine goes_ Try.func20 (by kernel_rfl) rfl #[.pointer (some ⟨g, 0, none⟩)] (by rfl) rfl rfl (by simp only [List.map_toArray, List.map_cons, List.map_nil]; rfl) ?_
        with_reducible refine (c_).mono ?_
        rintro z9 w3_ ⟨g2, bm2, rfl, S3⟩
        clear c_
        (try dsimp only at S3)
        refine ⟨_, rfl, ?_⟩
        refine hK.out _ _ ((row_cell (pred_at S3.out (a := Own Kd.string 9 (some ⟨gO, 0, none⟩) cO (order G)) (by repeat (first | exact Spot.here _ _ | apply Spot.there))) HXA.out)) (fun hHeld => ?_)
        clear hK K
        refine nrm ?_
        refine on1 6 75 (bt 8 127) (fun K hK => ?_)
        have c_ := remove_ev (x := ⟨g2, bm2, n, f, G⟩) (l := [⟨g, bm, n, f, G⟩]) (s := a) S3 (by repeat (first | exact Spot.here _ _ | apply Spot.there)) HSA.out
        dsimp only at c_
        rw [HE.out] at c_
        refine goes_ Try.func22 (by kernel_rfl) rfl #[.pointer (some ⟨g2, 0, none⟩), .string a] (by rfl) rfl rfl (by simp only [List.map_toArray, List.map_cons, List.map_nil]; rfl) ?_
        with_reducible refine (c_).mono ?_
        rintro z9 w4_ ⟨n4, f4, rfl, hn4, S4⟩
        clear c_ hn4
        (try dsimp only at S4)
        have S5 := ga_drop S4 (by repeat (first | exact Spot.here _ _ | apply Spot.there))
        (try dsimp only at S5)
        clear S4
        refine ⟨_, rfl, ?_⟩
        refine hK.out _ _ ((row_cell (pred_at S5.out (a := Own Kd.string 9 (some ⟨gO, 0, none⟩) cO (order G)) (by repeat (first | exact Spot.here _ _ | apply Spot.there))) HXA.out)) (fun hHeld => ?_)
        clear hK K
        refine nrm ?_
        refine pur 7 9 (bt 8 255) ?_
        refine done_ (by kernel_rfl) ?_

        have S := S5
        clear S2 S3 S5
        go_wp2_with (first | (refine ev_load1 ?_ rfl o9 rfl (row_cell (pred_at S.out (a := Own Kd.string 9 (some ⟨gO, 0, none⟩) cO (order G)) (by repeat (first | exact Spot.here _ _ | apply Spot.there))) HXA.out) ?_; (first | exact want0 rfl | exact want1 rfl rfl rfl rfl)) | (go_at_call 23; have c_ := dependents_ev (x := ⟨g, bm, n, f, G⟩) (s := a) S (by repeat (first | exact Spot.here _ _ | apply Spot.there)) HSA.out; (with_reducible refine c_.mono ?_); clear c_; rintro z_ w_ ⟨A83, c83, rfl, S_⟩; (try dsimp only at S_); clear S; have S := S_; clear S_) | go_in)
        refine ⟨⟨i + 1, by simp [HI1.out], by omega, ⟨S.out.drop (List.sublist_cons_self _ _)⟩⟩, meas hlt HI1.out⟩
     ·obtain rfl : i = (order G).length := by omega
      have hd3 : decide (((order G).length : Int) < ((order G).length : Int)) = false := decide_eq_false (by omega)
      go_wp2_with (first | (go_at_call 9; (with_reducible refine (awake_calls _).mono ?_); rintro z_ w_ ⟨rfl, hb_⟩; have S_ := Aside0.mk (S.out.keep hb_); clear hb_; clear S; have S := S_; clear S_) | go_in)
      go_ret
      exact ⟨rfl, S.out.below⟩
end Go.Proofs.Ytaomemhnjpemiaa.Mp
