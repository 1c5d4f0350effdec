/- Do both graphs tell the same? -/
import Derived.Test.YtaomemhnjpemiaaDo
namespace Go.Proofs.Ytaomemhnjpemiaa.Mp
open Go Go.Maps Go.RowKit Go.Proofs.Ytaomemhnjpemiaa.PB Go.Proofs.Ytaomemhnjpemiaa.Doc Go.Proofs.Ytaomemhnjpemiaa.Sep Go.Proofs.Ytaomemhnjpemiaa.Ev Go.Proofs.Ytaomemhnjpemiaa.Ty Go.Proofs.YtaomemhnjpemiaaW.PrintWords Go.Proofs.YtaomemhnjpemiaaW.PrintLast Go.Proofs.YtaomemhnjpemiaaW.PrintMore
set_option linter.unusedVariables false
set_option linter.unusedSimpArgs false

theorem same_t (xs : List ByteArray) (h : xs.length < 9223372036854775807) : budwoodref14_Same.f (xs.length + 1) xs xs = some true := by
 rw [same_f xs xs h _ (Nat.lt_succ_self _)]; simp
theorem order_len {G : List S73} (hG : Doc.Good G) : (order G).length ≤ G.length := by
 have C := order_come hG
 have := nodup_len C.nodup C.names
 rwa [names_len] at this
theorem dependents_len (G : List S73) (a : ByteArray) : (dependents G a).length ≤ G.length := by
 unfold dependents
 rw [names_len]
 exact List.length_filter_le _ _
set_option maxRecDepth 100000 in
set_option maxHeartbeats 16000000 in
theorem same_calls (g bm n : Nat) (f : ByteArray → Option Nat) (G : List S73) (P : Nat → Prop) (Ar : Option Addr) (cr : Nat) (a b : ByteArray) (w : World) (h : Gr w g bm n f G) (hV : Kd.V k73 73 w w.heap.size P (.slice Ar G.length cr) G) (ha : a.size ≤ maxLen) (hb : b.size ≤ maxLen) :
  Calls Try.prog 12 #[.pointer (some ⟨g, 0, none⟩), .agg #[.slice Ar G.length cr], .string a, .string b] w fun z w' => z = .returned (.bool true) ∧ Below w.heap.size w w' := by
 have HG := Aside0.mk h
 have HV := Aside0.mk hV
 have HC := Aside0.mk (Kd.V_reads' hV).2.2
 have HCC := Aside0.mk (Kd.V_reads' hV).2.1
 have HA := Aside0.mk ha
 have HB := Aside0.mk hb
 have HLN := Aside0.mk (show G.length < 9223372036854775807 by have := h.len; omega)
 have HSM := Aside0.mk (show Small G from ⟨h.len, fun m hm => by have h1 := h.good.depsLen m.f0; rw [depsOf_at h.good.up.nodup hm] at h1; have := h.len; omega⟩)
 have HOL := Aside0.mk (show (order G).length ≤ 1000 from Nat.le_trans (order_len h.good) h.len)
 have HDL := Aside0.mk (show (depsOf G a).length ≤ 1000 from Nat.le_trans (h.good.depsLen a) h.len)
 have HPL := Aside0.mk (show (dependents G a).length ≤ 1000 from Nat.le_trans (dependents_len G a) h.len)
 obtain ⟨ko, hko⟩ := order_f G HSM.out
 have HKO := Aside0.mk hko
 obtain ⟨ka, hka⟩ := reaches_f G h.good h.len a b
 have HKA := Aside0.mk hka
 obtain ⟨kb, hkb⟩ := reaches_f G h.good h.len b a
 have HKB := Aside0.mk hkb
 have S := Aside0.mk (St.start w)
 clear h hV ha hb hko hka hkb
 go_enter Try.func12, Try.ntmps12
 go_wp2_with (first | ((with_reducible refine gate_dst (N := 5) rfl ?_); refine ev_boxs S ?_ 5 rfl rfl rfl ?_; (first | exact want0 rfl | exact want1 rfl rfl rfl rfl); intro g5 w5 S_; clear S; have S := S_; clear S_) | go_in)
 have S2 := Aside0.mk S.out.drew
 clear S
 refine start_ (n := 55) (S := fun w' => w'.cell? ⟨g5, 0, none⟩ = some (.slice Ar G.length cr)) (ds := []) (bt 55 0) (by kernel_rfl) rfl rfl (((own_cell (g := g5) S2 (by repeat (first | exact Spot.here _ _ | apply Spot.there)) 0).trans rfl)) (fun hHeld => ?_)
 refine pur 0 9 (bt 55 1) ?_
 refine tak 2 11 (bt 55 5) hHeld ?_
 refine on1 1 10 (bt 55 7) (fun K hK => ?_)
 refine goes_ Try.func13 (by kernel_rfl) rfl #[.pointer (some ⟨g, 0, none⟩)] (by rfl) rfl rfl (by simp only [List.map_toArray, List.map_cons, List.map_nil]; rfl) ?_
 with_reducible refine (order_calls g bm n f G _ (HG.out.below S2.out.below)).mono ?_
 rintro z9 w3_ ⟨A10, c10, rfl, hr_, hb_⟩
 have S3 := add_own S2 hr_ hb_
 clear hr_ hb_
 refine ⟨_, rfl, ?_⟩
 refine hK.out _ _ (((own_cell (g := g5) S3 (by repeat (first | exact Spot.here _ _ | apply Spot.there)) 0).trans rfl)) (fun hHeld => ?_)
 clear hK K
 refine nrm ?_
 refine on1 3 12 (bt 55 15) (fun K hK => ?_)
 refine goes_ Try.func28 (by kernel_rfl) rfl #[.agg #[.slice Ar G.length cr]] (by rfl) rfl rfl (by simp only [List.map_toArray, List.map_cons, List.map_nil]; rfl) ?_
 with_reducible refine (budwoodref14_Graph_Order.calls ko Ar cr G _ _ (Kd.C_below HC.out S3.out.below) HCC.out (HKO.out ko (Nat.le_refl _))).mono ?_
 rintro z9 w4_ ⟨v_, rfl, hr_, hb_⟩
 obtain ⟨A12, c12, rfl, _⟩ := Kd.R_reads hr_
 have S4 := add_own S3 hr_ hb_
 clear hr_ hb_
 refine ⟨_, rfl, ?_⟩
 refine hK.out _ _ (((own_cell (g := g5) S4 (by repeat (first | exact Spot.here _ _ | apply Spot.there)) 0).trans rfl)) (fun hHeld => ?_)
 clear hK K
 refine nrm ?_
 refine on1 4 13 (bt 55 31) (fun K hK => ?_)
 have c_ := budwoodref14_Same.calls _ A10 c10 (order G) A12 c12 (order G) _ _ (Own.reads (pred_at S4.out (a := Own Kd.string 9 A10 c10 (order G)) (by repeat (first | exact Spot.here _ _ | apply Spot.there)))) (Own.cap (pred_at S4.out (a := Own Kd.string 9 A10 c10 (order G)) (by repeat (first | exact Spot.here _ _ | apply Spot.there)))) (Own.reads (pred_at S4.out (a := Own Kd.string 9 A12 c12 (order G)) (by repeat (first | exact Spot.here _ _ | apply Spot.there)))) (Own.cap (pred_at S4.out (a := Own Kd.string 9 A12 c12 (order G)) (by repeat (first | exact Spot.here _ _ | apply Spot.there))))  (same_t (order G) (by have := HOL.out; omega))
 refine goes_ Try.func18 (by kernel_rfl) rfl #[.slice A10 (order G).length c10, .slice A12 (order G).length c12] (by rfl) rfl rfl (by simp only [List.map_toArray, List.map_cons, List.map_nil]; rfl) ?_
 with_reducible refine (c_).mono ?_
 rintro z9 w5_ ⟨rfl, ⟨m_, rfl⟩⟩
 have S5 := Aside0.mk (S4.out.drewN m_)
 clear c_
 refine ⟨_, rfl, ?_⟩
 refine hK.out _ _ (((own_cell (g := g5) S5 (by repeat (first | exact Spot.here _ _ | apply Spot.there)) 0).trans rfl)) (fun hHeld => ?_)
 clear hK K
 refine nrm ?_
 refine pur 5 14 (bt 55 63) ?_
 refine pur 6 15 (bt 55 127) ?_
 refine pur 7 16 (bt 55 255) ?_
 refine pur 10 19 (bt 55 1279) ?_
 refine tak 9 18 (bt 55 1791) hHeld ?_
 refine on1 8 17 (bt 55 2047) (fun K hK => ?_)
 refine goes_ Try.func14 (by kernel_rfl) rfl #[.pointer (some ⟨g, 0, none⟩), .string a] (by rfl) rfl rfl (by simp only [List.map_toArray, List.map_cons, List.map_nil]; rfl) ?_
 with_reducible refine (deps_calls g bm n f G a _ (HG.out.below S5.out.below) HA.out).mono ?_
 rintro z9 w6_ ⟨A17, c17, rfl, hr_, hb_⟩
 have S6 := add_own S5 hr_ hb_
 clear hr_ hb_
 refine ⟨_, rfl, ?_⟩
 refine hK.out _ _ (((own_cell (g := g5) S6 (by repeat (first | exact Spot.here _ _ | apply Spot.there)) 0).trans rfl)) (fun hHeld => ?_)
 clear hK K
 refine nrm ?_
 refine on1 11 20 (bt 55 4095) (fun K hK => ?_)
 have c_ := budwoodref14_Graph_Deps.calls _ P Ar cr G a _ _ (V_base (Kd.V_below HV.out S6.out.below)) (deps_f G a HLN.out _ (Nat.lt_succ_self _))
 refine goes_ Try.func29 (by kernel_rfl) rfl #[.agg #[.slice Ar G.length cr], .string a] (by rfl) rfl rfl (by simp only [List.map_toArray, List.map_cons, List.map_nil]; rfl) ?_
 with_reducible refine (c_).mono ?_
 rintro z9 w7_ ⟨v_, rfl, hr_, hb_⟩
 obtain ⟨A20, c20, rfl⟩ := Kd.V_slice hr_
 have HR20 := Aside0.mk (Kd.V_reads' hr_).2
 have S7 := Aside0.mk (S6.out.keep hb_)
 clear hr_ hb_ c_
 refine ⟨_, rfl, ?_⟩
 refine hK.out _ _ (((own_cell (g := g5) S7 (by repeat (first | exact Spot.here _ _ | apply Spot.there)) 0).trans rfl)) (fun hHeld => ?_)
 clear hK K
 refine nrm ?_
 refine on1 12 21 (bt 55 8191) (fun K hK => ?_)
 have c_ := budwoodref14_Same.calls _ A17 c17 (depsOf G a) A20 c20 (depsOf G a) _ _ (Own.reads (pred_at S7.out (a := Own Kd.string 9 A17 c17 (depsOf G a)) (by repeat (first | exact Spot.here _ _ | apply Spot.there)))) (Own.cap (pred_at S7.out (a := Own Kd.string 9 A17 c17 (depsOf G a)) (by repeat (first | exact Spot.here _ _ | apply Spot.there)))) HR20.out.2 HR20.out.1 (same_t (depsOf G a) (by have := HDL.out; omega))
 refine goes_ Try.func18 (by kernel_rfl) rfl #[.slice A17 (depsOf G a).length c17, .slice A20 (depsOf G a).length c20] (by rfl) rfl rfl (by simp only [List.map_toArray, List.map_cons, List.map_nil]; rfl) ?_
 with_reducible refine (c_).mono ?_
 rintro z9 w8_ ⟨rfl, ⟨m_, rfl⟩⟩
 have S8 := Aside0.mk (S7.out.drewN m_)
 clear c_
 refine ⟨_, rfl, ?_⟩
 refine hK.out _ _ (((own_cell (g := g5) S8 (by repeat (first | exact Spot.here _ _ | apply Spot.there)) 0).trans rfl)) (fun hHeld => ?_)
 clear hK K
 refine nrm ?_
 refine pur 13 22 (bt 55 16383) ?_
 refine pur 14 23 (bt 55 32767) ?_
 refine pur 15 24 (bt 55 65535) ?_
 refine pur 16 25 (bt 55 131071) ?_
 refine pur 19 28 (bt 55 655359) ?_
 refine tak 18 27 (bt 55 917503) hHeld ?_
 refine on1 17 26 (bt 55 1048575) (fun K hK => ?_)
 refine goes_ Try.func23 (by kernel_rfl) rfl #[.pointer (some ⟨g, 0, none⟩), .string a] (by rfl) rfl rfl (by simp only [List.map_toArray, List.map_cons, List.map_nil]; rfl) ?_
 with_reducible refine (dependents_calls g bm n f G a _ (HG.out.below S8.out.below) HA.out).mono ?_
 rintro z9 w9_ ⟨A26, c26, rfl, hr_, hb_⟩
 have S9 := add_own S8 hr_ hb_
 clear hr_ hb_
 refine ⟨_, rfl, ?_⟩
 refine hK.out _ _ (((own_cell (g := g5) S9 (by repeat (first | exact Spot.here _ _ | apply Spot.there)) 0).trans rfl)) (fun hHeld => ?_)
 clear hK K
 refine nrm ?_
 refine on1 20 29 (bt 55 2097151) (fun K hK => ?_)
 refine goes_ Try.func30 (by kernel_rfl) rfl #[.agg #[.slice Ar G.length cr], .string a] (by rfl) rfl rfl (by simp only [List.map_toArray, List.map_cons, List.map_nil]; rfl) ?_
 with_reducible refine (budwoodref14_Graph_Dependents.calls 3000 Ar cr G a _ _ (Kd.C_below HC.out S9.out.below) HCC.out (dependents_f G a HSM.out 3000 (Nat.le_refl _))).mono ?_
 rintro z9 w10_ ⟨v_, rfl, hr_, hb_⟩
 obtain ⟨A29, c29, rfl, _⟩ := Kd.R_reads hr_
 have S10 := add_own S9 hr_ hb_
 clear hr_ hb_
 refine ⟨_, rfl, ?_⟩
 refine hK.out _ _ (((own_cell (g := g5) S10 (by repeat (first | exact Spot.here _ _ | apply Spot.there)) 0).trans rfl)) (fun hHeld => ?_)
 clear hK K
 refine nrm ?_
 refine on1 21 30 (bt 55 4194303) (fun K hK => ?_)
 have c_ := budwoodref14_Same.calls _ A26 c26 (dependents G a) A29 c29 (dependents G a) _ _ (Own.reads (pred_at S10.out (a := Own Kd.string 9 A26 c26 (dependents G a)) (by repeat (first | exact Spot.here _ _ | apply Spot.there)))) (Own.cap (pred_at S10.out (a := Own Kd.string 9 A26 c26 (dependents G a)) (by repeat (first | exact Spot.here _ _ | apply Spot.there)))) (Own.reads (pred_at S10.out (a := Own Kd.string 9 A29 c29 (dependents G a)) (by repeat (first | exact Spot.here _ _ | apply Spot.there)))) (Own.cap (pred_at S10.out (a := Own Kd.string 9 A29 c29 (dependents G a)) (by repeat (first | exact Spot.here _ _ | apply Spot.there))))  (same_t (dependents G a) (by have := HPL.out; omega))
 refine goes_ Try.func18 (by kernel_rfl) rfl #[.slice A26 (dependents G a).length c26, .slice A29 (dependents G a).length c29] (by rfl) rfl rfl (by simp only [List.map_toArray, List.map_cons, List.map_nil]; rfl) ?_
 with_reducible refine (c_).mono ?_
 rintro z9 w11_ ⟨rfl, ⟨m_, rfl⟩⟩
 have S11 := Aside0.mk (S10.out.drewN m_)
 clear c_
 refine ⟨_, rfl, ?_⟩
 refine hK.out _ _ (((own_cell (g := g5) S11 (by repeat (first | exact Spot.here _ _ | apply Spot.there)) 0).trans rfl)) (fun hHeld => ?_)
 clear hK K
 refine nrm ?_
 refine pur 22 31 (bt 55 8388607) ?_
 refine pur 23 32 (bt 55 16777215) ?_
 refine pur 24 33 (bt 55 33554431) ?_
 refine pur 25 34 (bt 55 67108863) ?_
 refine pur 28 37 (bt 55 335544319) ?_
 refine tak 27 36 (bt 55 469762047) hHeld ?_
 refine on1 26 35 (bt 55 536870911) (fun K hK => ?_)
 refine goes_ Try.func15 (by kernel_rfl) rfl #[.pointer (some ⟨g, 0, none⟩), .string a] (by rfl) rfl rfl (by simp only [List.map_toArray, List.map_cons, List.map_nil]; rfl) ?_
 with_reducible refine (has2_calls (HG.out.below S11.out.below) a HA.out).mono ?_
 rintro z9 w12_ ⟨rfl, rfl⟩
 have S12 := S11
 refine ⟨_, rfl, ?_⟩
 refine hK.out _ _ (((own_cell (g := g5) S12 (by repeat (first | exact Spot.here _ _ | apply Spot.there)) 0).trans rfl)) (fun hHeld => ?_)
 clear hK K
 refine nrm ?_
 refine on1 29 38 (bt 55 1073741823) (fun K hK => ?_)
 refine goes_ Try.func31 (by kernel_rfl) rfl #[.agg #[.slice Ar G.length cr], .string a] (by rfl) rfl rfl (by simp only [List.map_toArray, List.map_cons, List.map_nil]; rfl) ?_
 with_reducible refine (budwoodref14_Graph_Has.calls _ Ar cr G a _ _ (Kd.C_below HC.out S12.out.below) HCC.out (has_f G a HLN.out _ (Nat.lt_succ_self _))).mono ?_
 rintro z9 w13_ ⟨rfl, hb_⟩
 have S13 := Aside0.mk (S12.out.keep hb_)
 clear hb_
 refine ⟨_, rfl, ?_⟩
 refine hK.out _ _ (((own_cell (g := g5) S13 (by repeat (first | exact Spot.here _ _ | apply Spot.there)) 0).trans rfl)) (fun hHeld => ?_)
 clear hK K
 refine nrm ?_
 refine pur 30 39 (bt 55 2147483647) ?_
 refine pur 31 40 (bt 55 4294967295) ?_
 refine pur 32 41 (bt 55 8589934591) ?_
 refine pur 33 42 (bt 55 17179869183) ?_
 refine pur 34 43 (bt 55 34359738367) ?_
 refine pur 35 44 (bt 55 68719476735) ?_
 refine pur 38 47 (bt 55 343597383679) ?_
 refine pur 39 48 (bt 55 893353197567) ?_
 refine tak 37 46 (bt 55 1030792151039) hHeld ?_
 refine on1 36 45 (bt 55 1099511627775) (fun K hK => ?_)
 refine goes_ Try.func16 (by kernel_rfl) rfl #[.pointer (some ⟨g, 0, none⟩), .string a, .string b] (by rfl) rfl rfl (by simp only [List.map_toArray, List.map_cons, List.map_nil]; rfl) ?_
 with_reducible refine (reaches_calls g bm n f G a b _ (HG.out.below S13.out.below) HA.out HB.out).mono ?_
 rintro z9 w14_ ⟨rfl, hb_⟩
 have S14 := Aside0.mk (S13.out.keep hb_)
 clear hb_
 refine ⟨_, rfl, ?_⟩
 refine hK.out _ _ (((own_cell (g := g5) S14 (by repeat (first | exact Spot.here _ _ | apply Spot.there)) 0).trans rfl)) (fun hHeld => ?_)
 clear hK K
 refine nrm ?_
 refine on1 40 49 (bt 55 2199023255551) (fun K hK => ?_)
 refine goes_ Try.func32 (by kernel_rfl) rfl #[.agg #[.slice Ar G.length cr], .string a, .string b] (by rfl) rfl rfl (by simp only [List.map_toArray, List.map_cons, List.map_nil]; rfl) ?_
 with_reducible refine (budwoodref14_Graph_Reaches.calls ka Ar cr G a b _ _ (Kd.C_below HC.out S14.out.below) HCC.out (HKA.out ka (Nat.le_refl _))).mono ?_
 rintro z9 w15_ ⟨rfl, hb_⟩
 have S15 := Aside0.mk (S14.out.keep hb_)
 clear hb_
 refine ⟨_, rfl, ?_⟩
 refine hK.out _ _ (((own_cell (g := g5) S15 (by repeat (first | exact Spot.here _ _ | apply Spot.there)) 0).trans rfl)) (fun hHeld => ?_)
 clear hK K
 refine nrm ?_
 refine pur 41 50 (bt 55 4398046511103) ?_
 refine pur 42 51 (bt 55 8796093022207) ?_
 refine pur 43 52 (bt 55 17592186044415) ?_
 refine pur 44 53 (bt 55 35184372088831) ?_
 refine pur 45 54 (bt 55 70368744177663) ?_
 refine pur 46 55 (bt 55 140737488355327) ?_
 refine pur 49 58 (bt 55 703687441776639) ?_
 refine pur 50 59 (bt 55 1829587348619263) ?_
 refine tak 48 57 (bt 55 2111062325329919) hHeld ?_
 refine on1 47 56 (bt 55 2251799813685247) (fun K hK => ?_)
 refine goes_ Try.func16 (by kernel_rfl) rfl #[.pointer (some ⟨g, 0, none⟩), .string b, .string a] (by rfl) rfl rfl (by simp only [List.map_toArray, List.map_cons, List.map_nil]; rfl) ?_
 with_reducible refine (reaches_calls g bm n f G b a _ (HG.out.below S15.out.below) HB.out HA.out).mono ?_
 rintro z9 w16_ ⟨rfl, hb_⟩
 have S16 := Aside0.mk (S15.out.keep hb_)
 clear hb_
 refine ⟨_, rfl, ?_⟩
 refine hK.out _ _ (((own_cell (g := g5) S16 (by repeat (first | exact Spot.here _ _ | apply Spot.there)) 0).trans rfl)) (fun hHeld => ?_)
 clear hK K
 refine nrm ?_
 refine on1 51 60 (bt 55 4503599627370495) (fun K hK => ?_)
 refine goes_ Try.func32 (by kernel_rfl) rfl #[.agg #[.slice Ar G.length cr], .string b, .string a] (by rfl) rfl rfl (by simp only [List.map_toArray, List.map_cons, List.map_nil]; rfl) ?_
 with_reducible refine (budwoodref14_Graph_Reaches.calls kb Ar cr G b a _ _ (Kd.C_below HC.out S16.out.below) HCC.out (HKB.out kb (Nat.le_refl _))).mono ?_
 rintro z9 w17_ ⟨rfl, hb_⟩
 have S17 := Aside0.mk (S16.out.keep hb_)
 clear hb_
 refine ⟨_, rfl, ?_⟩
 refine hK.out _ _ (((own_cell (g := g5) S17 (by repeat (first | exact Spot.here _ _ | apply Spot.there)) 0).trans rfl)) (fun hHeld => ?_)
 clear hK K
 refine nrm ?_
 refine pur 52 61 (bt 55 9007199254740991) ?_
 refine pur 53 62 (bt 55 18014398509481983) ?_
 refine pur 54 8 (bt 55 36028797018963967) ?_
 refine done_ (by kernel_rfl) ?_

 have S := S17
 clear S2 S3 S4 S5 S6 S7 S8 S9 S10 S11 S12 S13 S14 S15 S16 S17

 go_wp2
 go_ret
 exact ⟨by simp, S.out.below⟩
end Go.Proofs.Ytaomemhnjpemiaa.Mp
