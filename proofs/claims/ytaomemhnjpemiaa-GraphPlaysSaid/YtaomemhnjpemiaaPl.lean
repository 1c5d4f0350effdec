/- Any calls upon both graphs. -/
import Derived.Test.YtaomemhnjpemiaaZSys
namespace Go.Proofs.Ytaomemhnjpemiaa.Mp
open Go Go.Maps Go.RowKit Go.Proofs.Ytaomemhnjpemiaa.PB Go.Proofs.Ytaomemhnjpemiaa.Doc Go.Proofs.Ytaomemhnjpemiaa.Sep Go.Proofs.Ytaomemhnjpemiaa.Ev Go.Proofs.Ytaomemhnjpemiaa.Ty Go.Proofs.YtaomemhnjpemiaaW.PrintWords Go.Proofs.YtaomemhnjpemiaaW.PrintLast Go.Proofs.YtaomemhnjpemiaaW.PrintMore
set_option linter.unusedVariables false
set_option linter.unusedSimpArgs false

set_option maxRecDepth 100000 in
set_option maxHeartbeats 16000000 in
theorem plays (A0 : Option Addr) (l : List S34) (c0 : Nat) (look : ByteArray) (w : World) (hC : Kd.C k34 w A0 l.length l) (hc : l.length ≤ c0) (hok : Ok34 l) (hlook : look.size ≤ maxLen) :
  Calls Try.prog 3 #[.slice A0 l.length c0, .string look] w fun z w' => z = .returned (.bool true) ∧ Below w.heap.size w w' := by
 have HC := Aside0.mk hC
 have HCC := Aside0.mk hc
 have HOK := Aside0.mk hok
 obtain ⟨kf, b, hf, hfb⟩ := few_ok l
 have HFW := Aside0.mk hf
 have HFB := Aside0.mk hfb
 have S := Aside0.mk (St.start w)
 clear hC hc hok hf hfb
 have HLK := Aside0.mk hlook
 clear hlook
 cases b with
 | false =>
  go_enter Try.func3, Try.ntmps3
  go_wp2_with (first | (go_at_call 8; have c_ := budwoodlaw14_few.calls _ A0 c0 l _ _ (Kd.C_below HC.out S.out.below) HCC.out HFW.out; (with_reducible refine c_.mono ?_); clear c_; rintro z_ w_ ⟨rfl, hb_⟩; have S_ := Aside0.mk (S.out.keep hb_); clear hb_; clear S; have S := S_; clear S_) | (go_at_call 9; (with_reducible refine (awake_calls _).mono ?_); rintro z_ w_ ⟨rfl, hb_⟩; have S_ := Aside0.mk (S.out.keep hb_); clear hb_; clear S; have S := S_; clear S_) | (go_at_call 10; have c_ := new_ev S; (with_reducible refine c_.mono ?_); clear c_; rintro z_ w_ ⟨g, bm, rfl, S_⟩; clear S; have S := S_; clear S_) | ((with_reducible refine gate_dst (N := 6) rfl ?_); refine ev_alloc #[.slice none 0 0] rfl S ?_ 6 rfl rfl Ty.z29 ?_; (first | exact want0 rfl | exact want1 rfl rfl rfl rfl); intro g6 w6 S_; clear S; have S := S_; clear S_) | (refine ev_puts S ?_ rfl rfl s29 rfl rfl (by repeat (first | exact Spot.here _ _ | apply Spot.there)) rfl ?_ ?_ ?_; (first | exact want0 rfl | exact want1 rfl rfl rfl rfl); rfl; rfl; intro w_ S_; simp only [putAt, List.set_cons_zero, List.set_cons_succ] at S_; clear S; have S := S_; clear S_) | (refine ev_owns (vs := [_]) S ?_ rfl m29 rfl (by repeat (first | exact Spot.here _ _ | apply Spot.there)) (by exact rfl) ?_; (first | exact want0 rfl | exact want1 rfl rfl rfl rfl)) | go_in)
  go_ret
  exact ⟨rfl, S.out.below⟩
 | true =>
  go_enter Try.func3, Try.ntmps3
  go_wp2_with (first | (go_at_call 8; have c_ := budwoodlaw14_few.calls _ A0 c0 l _ _ (Kd.C_below HC.out S.out.below) HCC.out HFW.out; (with_reducible refine c_.mono ?_); clear c_; rintro z_ w_ ⟨rfl, hb_⟩; have S_ := Aside0.mk (S.out.keep hb_); clear hb_; clear S; have S := S_; clear S_) | (go_at_call 9; (with_reducible refine (awake_calls _).mono ?_); rintro z_ w_ ⟨rfl, hb_⟩; have S_ := Aside0.mk (S.out.keep hb_); clear hb_; clear S; have S := S_; clear S_) | (go_at_call 10; have c_ := new_ev S; (with_reducible refine c_.mono ?_); clear c_; rintro z_ w_ ⟨g, bm, rfl, S_⟩; clear S; have S := S_; clear S_) | ((with_reducible refine gate_dst (N := 6) rfl ?_); refine ev_alloc #[.slice none 0 0] rfl S ?_ 6 rfl rfl Ty.z29 ?_; (first | exact want0 rfl | exact want1 rfl rfl rfl rfl); intro g6 w6 S_; clear S; have S := S_; clear S_) | (refine ev_puts S ?_ rfl rfl s29 rfl rfl (by repeat (first | exact Spot.here _ _ | apply Spot.there)) rfl ?_ ?_ ?_; (first | exact want0 rfl | exact want1 rfl rfl rfl rfl); rfl; rfl; intro w_ S_; simp only [putAt, List.set_cons_zero, List.set_cons_succ] at S_; clear S; have S := S_; clear S_) | (refine ev_owns (vs := [_]) S ?_ rfl m29 rfl (by repeat (first | exact Spot.here _ _ | apply Spot.there)) (by exact rfl) ?_; (first | exact want0 rfl | exact want1 rfl rfl rfl rfl)) | go_in)
  have S1 := start_sys S
  clear S
  have S := S1
  clear S1
  go_loopw [7, 8] (fun v7 v8 wr => ∃ (i n : Nat) (f : ByteArray → Option Nat) (G : List S73) (D : Nat → Prop) (Ar : Option Addr) (cr : Nat), v7 = .bool true ∧ v8 = .int .i64 i ∧ i ≤ l.length ∧ Aside0 (n ≤ i) ∧ Aside0 (G.length ≤ i) ∧ Aside0 (St w.heap.size w wr [GAs [⟨g, bm, n, f, G⟩], View k73 73 D (.slice Ar G.length cr) G, Bk g6 #[.slice Ar G.length cr] 29])) (fun _ v8 _ => l.length - (intOf v8).toNat)
  case atStart => exact ⟨0, 0, fun _ => none, [], fun _ => False, none, 0, rfl, rfl, Nat.zero_le _, ⟨Nat.le_refl _⟩, ⟨Nat.le_refl _⟩, S⟩
  case round =>
   clear S
   obtain ⟨i, n, f, G, D, Ar, cr, rfl, rfl, hi, HNI, HGI, S⟩ := hrel
   by_cases hlt : i < l.length
   ·have HLI := Aside0.mk hlt
    have hd2 : decide ((i : Int) < (l.length : Int)) = true := decide_eq_true (by omega)
    have hil : (i : Int) < (l.length : Int) := by omega
    have hi0 : (0 : Int) ≤ (i : Int) := by omega
    have HI1 := Aside0.mk (show wrap64 ((i : Int) + 1) = ((i + 1 : Nat) : Int) by have := (HFB.out (by trivial)).1; unfold wrap64; omega)
    obtain ⟨ad, Ah, ch, rfl, hH, hxc, hch, hxm⟩ := act_at HC.out i hlt
    have HXS := Aside0.mk (HOK.out _ hxm)
    have HXL := Aside0.mk (show (rd_T34 l (i : Int)).f2.length ≤ 1000 from Nat.le_trans ((HFB.out (by trivial)).2 _ hxm) (by omega))
    generalize rd_T34 l (i : Int) = x at *
    have HH := Aside0.mk hH
    have HX1 := Aside0.mk (has_cell hH (by omega : (1 : Nat) ≠ 0) rfl)
    have HX2 := Aside0.mk (has_cell hH (by omega : (2 : Nat) ≠ 0) rfl)
    have HXC := Aside0.mk hxc
    have HCH := Aside0.mk hch
    clear hH hxc hch hxm
    have HN := Aside0.mk (show n < 1000000 by have := (HFB.out (by trivial)).1; have := HNI.out; omega)
    have HL := Aside0.mk (show G.length < 1000 by have := (HFB.out (by trivial)).1; have := HGI.out; omega)
    go_wp2
    have S2 := Aside0.mk S.out.drew
    clear S
    refine start_ (n := 12) (S := fun w' => w'.cell? ⟨g6, 0, none⟩ = some (.slice Ar G.length cr)) (ds := [10]) (bt 12 0) (by kernel_rfl) rfl rfl (((own_cell (g := g6) S2 (by repeat (first | exact Spot.here _ _ | apply Spot.there)) 0).trans rfl)) (fun hHeld => ?_)
    refine pur 0 22 (bt 12 1) ?_
    refine pur 2 24 (bt 12 5) ?_
    refine pur 3 25 (bt 12 13) ?_
    refine pur 4 26 (bt 12 29) ?_
    refine tak 1 23 (bt 12 31) hHeld ?_
    refine on1 5 27 (bt 12 63) (fun K hK => ?_)
    refine st_loads (N := some 27) (vs := [_, _, _]) (by rfl) rfl rfl m34 rfl (olds_ S2 HH.out) ?_
    refine hK.out _ _ (((own_cell (g := g6) S2 (by repeat (first | exact Spot.here _ _ | apply Spot.there)) 0).trans rfl)) (fun hHeld => ?_)
    clear hK K
    refine nrm ?_
    refine on1 6 28 (bt 12 127) (fun K hK => ?_)
    have c_ := do_ev (x := ⟨g, bm, n, f, G⟩) (kind := x.f0) (s := x.f1) (xs := x.f2) (A := Ah) (c := ch) S2 HN.out HL.out HXS.out.1 HCH.out HXC.out HXS.out.2 HXL.out
    refine goes_ Try.func11 (by kernel_rfl) rfl #[.pointer (some ⟨g, 0, none⟩), .agg #[.slice Ar G.length cr], .agg #[.int .u8 x.f0, .string x.f1, .slice Ah x.f2.length ch]] (by rfl) rfl rfl (by simp only [List.map_toArray, List.map_cons, List.map_nil]; rfl) ?_
    with_reducible refine (c_).mono ?_
    rintro z9 w9 ⟨n9, f9, D9, A9, c9, rfl, hn9, S9⟩
    clear c_
    (try dsimp only at S9 hn9)
    have HN9 := Aside0.mk hn9
    clear hn9
    generalize hG9 : aft G x.f0 x.f1 x.f2 = G9 at *
    refine ⟨_, rfl, ?_⟩
    refine hK.out _ _ (((own_cell (g := g6) S9 (by repeat (first | exact Spot.here _ _ | apply Spot.there)) 0).trans rfl)) (fun hHeld => ?_)
    clear hK K
    refine nrm ?_
    refine pur 7 21 (bt 12 255) ?_
    refine pur 8 29 (bt 12 511) ?_
    refine pur 9 30 (bt 12 1023) ?_
    refine last_ (i := 10) (N := none) (bt 12 2047) rfl rfl (by kernel_rfl) (by decide) (fun K hK => ?_)
    refine st_puts (g := g6) S9 (by rfl) rfl rfl s29 rfl rfl (by repeat (first | exact Spot.here _ _ | apply Spot.there)) rfl (by rfl) (by rfl) ?_
    intro w8 S8
    simp only [putAt, List.set_cons_zero, List.set_cons_succ] at S8
    refine hK.out _ _ ?_
    clear hK K
    refine pur 11 7 (bt 12 4095) ?_
    refine done_ (by kernel_rfl) ?_

    clear S2 S9
    have S := S8
    clear S8
    go_wp2
    have S2 := Aside0.mk S.out.drew
    clear S
    refine start_ (n := 14) (S := fun w' => w'.cell? ⟨g6, 0, none⟩ = some (.slice A9 G9.length c9) ∧ w'.cell? ⟨(ad.add (i * 3)).block, (ad.add (i * 3)).off + 1, none⟩ = some (.string x.f1)) (ds := []) (bt 14 0) (by kernel_rfl) rfl rfl ⟨((own_cell (g := g6) S2 (by repeat (first | exact Spot.here _ _ | apply Spot.there)) 0).trans rfl), (old_ S2 HX1.out)⟩ (fun hHeld => ?_)
    refine pur 0 31 (bt 14 1) ?_
    refine pur 1 32 (bt 14 3) ?_
    refine pur 2 33 (bt 14 7) ?_
    refine pur 3 34 (bt 14 15) ?_
    refine pur 5 36 (bt 14 47) ?_
    refine pur 6 37 (bt 14 111) ?_
    refine pur 7 38 (bt 14 239) ?_
    refine pur 8 39 (bt 14 495) ?_
    refine pur 10 41 (bt 14 1519) ?_
    refine tak 4 35 (bt 14 1535) hHeld ?_
    refine tak 9 40 (bt 14 2047) hHeld ?_
    refine on1 11 42 (bt 14 4095) (fun K hK => ?_)
    have c_ := same_ev (x := ⟨g, bm, n9, f9, G9⟩) S2 (by repeat (first | exact Spot.here _ _ | apply Spot.there)) (by repeat (first | exact Spot.here _ _ | apply Spot.there)) HXS.out.1 HLK.out
    refine goes_ Try.func12 (by kernel_rfl) rfl #[.pointer (some ⟨g, 0, none⟩), .agg #[.slice A9 G9.length c9], .string x.f1, .string look] (by rfl) rfl rfl (by simp only [List.map_toArray, List.map_cons, List.map_nil]; rfl) ?_
    with_reducible refine (c_).mono ?_
    rintro z9 w9 ⟨rfl, S9⟩
    clear c_
    (try dsimp only at S9)
    refine ⟨_, rfl, ?_⟩
    refine hK.out _ _ ⟨((own_cell (g := g6) S9 (by repeat (first | exact Spot.here _ _ | apply Spot.there)) 0).trans rfl), (old_ S9 HX1.out)⟩ (fun hHeld => ?_)
    clear hK K
    refine nrm ?_
    refine pur 12 43 (bt 14 8191) ?_
    refine pur 13 44 (bt 14 16383) ?_
    refine done_ (by kernel_rfl) ?_

    clear S2
    have S := S9
    clear S9
    go_wp2
    refine ⟨⟨i + 1, n9, f9, G9, D9, A9, c9, rfl, by simp [HI1.out], by omega, ⟨by have := HN9.out; have := HNI.out; omega⟩, ⟨by have h1 := aft_len G x.f0 x.f1 x.f2; rw [hG9] at h1; have := HGI.out; omega⟩, S⟩, meas hlt HI1.out⟩
   ·obtain rfl : i = l.length := by omega
    have hd2 : decide ((l.length : Int) < (l.length : Int)) = false := decide_eq_false (by omega)
    go_wp2_with (first | (go_at_call 8; have c_ := budwoodlaw14_few.calls _ A0 c0 l _ _ (Kd.C_below HC.out S.out.below) HCC.out HFW.out; (with_reducible refine c_.mono ?_); clear c_; rintro z_ w_ ⟨rfl, hb_⟩; have S_ := Aside0.mk (S.out.keep hb_); clear hb_; clear S; have S := S_; clear S_) | (go_at_call 9; (with_reducible refine (awake_calls _).mono ?_); rintro z_ w_ ⟨rfl, hb_⟩; have S_ := Aside0.mk (S.out.keep hb_); clear hb_; clear S; have S := S_; clear S_) | (go_at_call 10; have c_ := new_ev S; (with_reducible refine c_.mono ?_); clear c_; rintro z_ w_ ⟨g, bm, rfl, S_⟩; clear S; have S := S_; clear S_) | ((with_reducible refine gate_dst (N := 6) rfl ?_); refine ev_alloc #[.slice none 0 0] rfl S ?_ 6 rfl rfl Ty.z29 ?_; (first | exact want0 rfl | exact want1 rfl rfl rfl rfl); intro g6 w6 S_; clear S; have S := S_; clear S_) | (refine ev_puts S ?_ rfl rfl s29 rfl rfl (by repeat (first | exact Spot.here _ _ | apply Spot.there)) rfl ?_ ?_ ?_; (first | exact want0 rfl | exact want1 rfl rfl rfl rfl); rfl; rfl; intro w_ S_; simp only [putAt, List.set_cons_zero, List.set_cons_succ] at S_; clear S; have S := S_; clear S_) | (refine ev_owns (vs := [_]) S ?_ rfl m29 rfl (by repeat (first | exact Spot.here _ _ | apply Spot.there)) (by exact rfl) ?_; (first | exact want0 rfl | exact want1 rfl rfl rfl rfl)) | go_in)
    go_ret
    exact ⟨rfl, S.out.below⟩
end Go.Proofs.Ytaomemhnjpemiaa.Mp
