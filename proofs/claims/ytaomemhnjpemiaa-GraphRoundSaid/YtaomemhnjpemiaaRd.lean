/- No round, and the order. -/
import Derived.Test.YtaomemhnjpemiaaSd
namespace Go.Proofs.Ytaomemhnjpemiaa.Mp
open Go Go.Maps Go.RowKit Go.Proofs.Ytaomemhnjpemiaa.PB Go.Proofs.Ytaomemhnjpemiaa.Doc Go.Proofs.Ytaomemhnjpemiaa.Sep Go.Proofs.Ytaomemhnjpemiaa.Ev Go.Proofs.Ytaomemhnjpemiaa.Ty Go.Proofs.YtaomemhnjpemiaaW.PrintWords Go.Proofs.YtaomemhnjpemiaaW.PrintLast Go.Proofs.YtaomemhnjpemiaaW.PrintMore
set_option linter.unusedVariables false
set_option linter.unusedSimpArgs false

theorem und38 : Try.prog.underlying 38 = some (.map 9 4) := by kernel_rfl
theorem SetAt.look38 {w : World} {b n : Nat} {S : List ByteArray} (h : SetAt w b n S) {s : ByteArray} (hs : s.size ≤ maxLen) : (Instr.lookup 38 (.map (some b)) (.string s) false).run Try.prog w = .ok (.bool (decide (s ∈ S))) w := by
 obtain ⟨D, h1, h2⟩ := h
 obtain ⟨v, ps, h3, h4⟩ := h1.lookup law9 und38 (zero4 w) (plainElem_bool und4 false) (key9 hs)
 rw [(h2 s).2] at h4
 have : v = .bool (decide (s ∈ S)) := by
  unfold Rb plainElem at h4
  rw [und4] at h4
  cases v <;> simp at h4
  rw [h4.1]
 rw [h3, this]
theorem SetAt.put38 {w : World} {b n : Nat} {S : List ByteArray} (h : SetAt w b n S) (hn : n < maxLen) {s : ByteArray} (hs : s.size ≤ maxLen) : ∃ w', (Instr.mapUpdate 38 (.map (some b)) (.string s) (.bool true)).run Try.prog w = .ok () w' ∧ SetAt w' b (n + 1) (S ++ [s]) ∧ w.mapTurned w' b := by
 obtain ⟨D, h1, h2⟩ := h
 obtain ⟨w', h3, h4, h5⟩ := h1.store law9 und38 hn (key9 hs) (plainElem_bool und4 true)
 refine ⟨w', h3, ⟨_, h4, fun x => ?_⟩, h5⟩
 by_cases e : x = s
 ·subst e
  rw [Maps.has_put_same h1.isMap (by exact trivial), Maps.atKey_put_same h1.isMap (by exact trivial)]
  simp
 ·have e' : lit x ≠ lit s := fun h => e (lit_inj h)
  rw [Maps.has_put_other e', Maps.atKey_put_other e', (h2 x).1, (h2 x).2]
  simp [e]
section
variable {ops : Array Oper} {rest : List Oper} {o : Oper} {a : Act} {Q : Exit → Act → World → Prop} {K : Act → World → Prop} {B : Nat} {w W : World} {L : List Asn} {F : Asn → List Asn} {b n : Nat} {T : List ByteArray}
theorem ev_make38 (S : Aside0 (St B w W L)) (hg : o.guard = none) (N : Tmp) (hN : o.dst = some N) (hop : o.op = Op.makeMap 38 none)
  (hK : ∀ g w1, Aside0 (St B w w1 (SetB g 0 [] :: L)) → wpList Try.prog ops Q rest (a.put (some N) (.map (some g))) w1) : wpList Try.prog ops Q (o :: rest) a W := by
 refine wpList_plain hg fun K' hK' => ?_
 have hrun := run_makeMap (P := Try.prog) 38 W
 unfold Oper.wp
 simp [execOp, hop, hrun, Result.andThen, Oper.upon, hN]
 exact hK' _ _ (hK _ _ ⟨St.add S.out (below_grown (World.grownBy_alloc W _ none)) _ (SetB.mk (SetAt.made W)) (fun k hk => by rw [SetB.foot_iff.1 hk]; exact Nat.le_refl _)⟩)
theorem ev_look38 (S : Aside0 (St B w W L)) (hg : o.guard = none) (m x : Operand) (hop : o.op = Op.lookup 38 m x false) (hm : a.eval m = .map (some b)) (hs : Spot L (SetB b n T) F) (s : ByteArray) (hx : a.eval x = .string s) (hsz : s.size ≤ maxLen) (v : Bool) (hv : decide (s ∈ T) = v)
  (hK : wpList Try.prog ops Q rest (a.put o.dst (.bool v)) W) : wpList Try.prog ops Q (o :: rest) a W := by
 subst hv
 refine wpList_plain hg fun K' hK' => ?_
 have hrun := (SetB.out (pred_at S.out hs)).look38 hsz
 unfold Oper.wp
 simp [execOp, hop, hm, hx, hrun, Result.andThen]
 exact hK' _ _ (by simpa using hK)
theorem ev_put38 (S : Aside0 (St B w W L)) (hg : o.guard = none) (hN : o.dst = none) (m x v : Operand) (hop : o.op = Op.mapUpdate 38 m x v) (hm : a.eval m = .map (some b)) (hs : Spot L (SetB b n T) F) (hn : n < maxLen) (s : ByteArray) (hx : a.eval x = .string s) (hv : a.eval v = .bool true) (hsz : s.size ≤ maxLen)
  (hK : ∀ w1, Aside0 (St B w w1 (F (SetB b (n + 1) (T ++ [s])))) → wpList Try.prog ops Q rest a w1) : wpList Try.prog ops Q (o :: rest) a W := by
 refine wpList_plain hg fun K' hK' => ?_
 obtain ⟨w', hrun, r1, r2⟩ := (SetB.out (pred_at S.out hs)).put38 hn hsz
 unfold Oper.wp
 simp [execOp, hop, hm, hx, hv, hrun, Result.andThen, Oper.upon, hN]
 exact hK' _ _ (hK w' (turn_block S hs r2.grown (SetB.foot_iff.2 rfl) (SetB.mk r1) (fun k hk => .inl (SetB.foot_iff.2 (SetB.foot_iff.1 hk)))))
theorem look38v (S : Aside0 (St B w W L)) (hs : Spot L (SetB b n T) F) {s : ByteArray} (hsz : s.size ≤ maxLen) {v : Bool} (hv : decide (s ∈ T) = v) : (Instr.lookup 38 (.map (some b)) (.string s) false).run Try.prog W = .ok (.bool v) W := by
 rw [(SetB.out (pred_at S.out hs)).look38 hsz, hv]
theorem st_look38 {N : Option Tmp} (S : Aside0 (St B w W L)) (hw : Region.wanted o (yielded ops a.tmps) = true) (hN : o.dst = N) (m x : Operand) (hop : o.op = Op.lookup 38 m x false) (hm : a.eval m = .map (some b)) (hs : Spot L (SetB b n T) F) (s : ByteArray) (hx : a.eval x = .string s) (hsz : s.size ≤ maxLen) (v : Bool) (hv : decide (s ∈ T) = v)
  (h : K (a.put N (.bool v)) W) : if Region.wanted o (yielded ops a.tmps) = true then Oper.wp Try.prog o a W K Q else K (a.put N undef) W := by
 subst hv hN
 rw [if_pos hw]
 have hrun := (SetB.out (pred_at S.out hs)).look38 hsz
 unfold Oper.wp
 simp [execOp, hop, hm, hx, hrun, Result.andThen, Oper.upon]
 exact h
end

theorem keep3 (x y a : Asn) (L : List Asn) : [x, y, a].Sublist (x :: y :: a :: L) := (((List.nil_sublist _).cons_cons a).cons_cons y).cons_cons x
set_option maxRecDepth 100000 in
set_option maxHeartbeats 16000000 in
theorem round_ (A0 : Option Addr) (l : List S34) (c0 : Nat) (w : World) (hC : Kd.C k34 w A0 l.length l) (hc : l.length ≤ c0) (hok : Ok34 l) :
  Calls Try.prog 4 #[.slice A0 l.length c0] w fun z w' => z = .returned (.bool true) ∧ Below w.heap.size w w' := by
 have HC := Aside0.mk hC
 have HCC := Aside0.mk hc
 have HOK := Aside0.mk hok
 obtain ⟨kf, b, hf, hfb⟩ := few_ok l
 have HFW := Aside0.mk hf
 have HFB := Aside0.mk hfb
 have S := Aside0.mk (St.start w)
 clear hC hc hok hf hfb
 cases b with
 | false =>
  go_enter Try.func4, Try.ntmps4
  go_wp2_with (first | (go_at_call 8; have c_ := budwoodlaw14_few.calls _ A0 c0 l _ _ (Kd.C_below HC.out S.out.below) HCC.out HFW.out; (with_reducible refine c_.mono ?_); clear c_; rintro z_ w_ ⟨rfl, hb_⟩; have S_ := Aside0.mk (S.out.keep hb_); clear hb_; clear S; have S := S_; clear S_) | (go_at_call 9; (with_reducible refine (awake_calls _).mono ?_); rintro z_ w_ ⟨rfl, hb_⟩; have S_ := Aside0.mk (S.out.keep hb_); clear hb_; clear S; have S := S_; clear S_) | (go_at_call 10; have c_ := new_ev S; (with_reducible refine c_.mono ?_); clear c_; rintro z_ w_ ⟨g, bm, rfl, S_⟩; clear S; have S := S_; clear S_) | ((with_reducible refine gate_dst (N := 4) rfl ?_); refine ev_alloc #[.slice none 0 0] rfl S ?_ 4 rfl rfl Ty.z29 ?_; (first | exact want0 rfl | exact want1 rfl rfl rfl rfl); intro g4 w4 S_; clear S; have S := S_; clear S_) | (refine ev_puts S ?_ rfl rfl s29 rfl rfl (by repeat (first | exact Spot.here _ _ | apply Spot.there)) rfl ?_ ?_ ?_; (first | exact want0 rfl | exact want1 rfl rfl rfl rfl); rfl; rfl; intro w_ S_; simp only [putAt, List.set_cons_zero, List.set_cons_succ] at S_; clear S; have S := S_; clear S_) | (refine ev_owns (vs := [_]) S ?_ rfl m29 rfl (by repeat (first | exact Spot.here _ _ | apply Spot.there)) (by exact rfl) ?_; (first | exact want0 rfl | exact want1 rfl rfl rfl rfl)) | go_in)
  go_ret
  exact ⟨rfl, S.out.below⟩
 | true =>
  go_enter Try.func4, Try.ntmps4
  go_wp2_with (first | (go_at_call 8; have c_ := budwoodlaw14_few.calls _ A0 c0 l _ _ (Kd.C_below HC.out S.out.below) HCC.out HFW.out; (with_reducible refine c_.mono ?_); clear c_; rintro z_ w_ ⟨rfl, hb_⟩; have S_ := Aside0.mk (S.out.keep hb_); clear hb_; clear S; have S := S_; clear S_) | (go_at_call 9; (with_reducible refine (awake_calls _).mono ?_); rintro z_ w_ ⟨rfl, hb_⟩; have S_ := Aside0.mk (S.out.keep hb_); clear hb_; clear S; have S := S_; clear S_) | (go_at_call 10; have c_ := new_ev S; (with_reducible refine c_.mono ?_); clear c_; rintro z_ w_ ⟨g, bm, rfl, S_⟩; clear S; have S := S_; clear S_) | ((with_reducible refine gate_dst (N := 4) rfl ?_); refine ev_alloc #[.slice none 0 0] rfl S ?_ 4 rfl rfl Ty.z29 ?_; (first | exact want0 rfl | exact want1 rfl rfl rfl rfl); intro g4 w4 S_; clear S; have S := S_; clear S_) | (refine ev_puts S ?_ rfl rfl s29 rfl rfl (by repeat (first | exact Spot.here _ _ | apply Spot.there)) rfl ?_ ?_ ?_; (first | exact want0 rfl | exact want1 rfl rfl rfl rfl); rfl; rfl; intro w_ S_; simp only [putAt, List.set_cons_zero, List.set_cons_succ] at S_; clear S; have S := S_; clear S_) | (refine ev_owns (vs := [_]) S ?_ rfl m29 rfl (by repeat (first | exact Spot.here _ _ | apply Spot.there)) (by exact rfl) ?_; (first | exact want0 rfl | exact want1 rfl rfl rfl rfl)) | go_in)
  have S1 := start_sys S
  clear S
  have S := S1
  clear S1
  go_loopw [5] (fun vi wr => ∃ (i n : Nat) (f : ByteArray → Option Nat) (G : List S73) (D : Nat → Prop) (Ar : Option Addr) (cr : Nat), vi = .int .i64 i ∧ i ≤ l.length ∧ Aside0 (n ≤ i) ∧ Aside0 (G.length ≤ i) ∧ Aside0 (NoRound G) ∧ Aside0 (St w.heap.size w wr [GAs [⟨g, bm, n, f, G⟩], View k73 73 D (.slice Ar G.length cr) G, Bk g4 #[.slice Ar G.length cr] 29])) (fun vi _ => l.length - (intOf vi).toNat)
  case atStart => exact ⟨0, 0, fun _ => none, [], fun _ => False, none, 0, rfl, Nat.zero_le _, ⟨Nat.le_refl _⟩, ⟨Nat.le_refl _⟩, ⟨noround_nil⟩, S⟩
  case round =>
   clear S
   obtain ⟨i, n, f, G, D, Ar, cr, rfl, hi, HNI, HGI, HNR, S⟩ := hrel
   by_cases hlt : i < l.length
   ·have HLI := Aside0.mk hlt
    have hd2 : decide ((i : Int) < (l.length : Int)) = true := decide_eq_true (by omega)
    have hil : (i : Int) < (l.length : Int) := by omega
    have hi0 : (0 : Int) ≤ (i : Int) := by omega
    have HI1 := Aside0.mk (show wrap64 ((i : Int) + 1) = ((i + 1 : Nat) : Int) by have := (HFB.out (by trivial)).1; unfold wrap64; omega)
    obtain ⟨ad, Ah, ch, rfl, hH, hxc, hch, hxm⟩ := act_at HC.out i hlt
    have HXS := Aside0.mk (HOK.out _ hxm)
    have HXL := Aside0.mk (show (rd_T34 l (i : Int)).f2.length ≤ 1000 from Nat.le_trans ((HFB.out (by trivial)).2 _ hxm) (by omega))
    generalize rd_T34 l (i : Int) = x at *
    have HH := Aside0.mk hH
    have HX1 := Aside0.mk (has_cell hH (by omega : (1 : Nat) ≠ 0) rfl)
    have HX2 := Aside0.mk (has_cell hH (by omega : (2 : Nat) ≠ 0) rfl)
    have HXC := Aside0.mk hxc
    have HCH := Aside0.mk hch
    clear hH hxc hch hxm
    have HN := Aside0.mk (show n < 1000000 by have := (HFB.out (by trivial)).1; have := HNI.out; omega)
    have HL := Aside0.mk (show G.length < 1000 by have := (HFB.out (by trivial)).1; have := HGI.out; omega)
    have HNR9 := Aside0.mk (noround_aft (gr_at S (by repeat (first | exact Spot.here _ _ | apply Spot.there))).good HNR.out x.f0 x.f1 x.f2)
    go_wp2
    have S2 := Aside0.mk S.out.drew
    clear S
    refine start_ (n := 11) (S := fun w' => w'.cell? ⟨g4, 0, none⟩ = some (.slice Ar G.length cr)) (ds := [10]) (bt 11 0) (by kernel_rfl) rfl rfl (((own_cell (g := g4) S2 (by repeat (first | exact Spot.here _ _ | apply Spot.there)) 0).trans rfl)) (fun hHeld => ?_)
    refine pur 0 25 (bt 11 1) ?_
    refine pur 2 27 (bt 11 5) ?_
    refine pur 3 28 (bt 11 13) ?_
    refine pur 4 29 (bt 11 29) ?_
    refine tak 1 26 (bt 11 31) hHeld ?_
    refine on1 5 30 (bt 11 63) (fun K hK => ?_)
    refine st_loads (N := some 30) (vs := [_, _, _]) (by rfl) rfl rfl m34 rfl (olds_ S2 HH.out) ?_
    refine hK.out _ _ (((own_cell (g := g4) S2 (by repeat (first | exact Spot.here _ _ | apply Spot.there)) 0).trans rfl)) (fun hHeld => ?_)
    clear hK K
    refine nrm ?_
    refine on1 6 31 (bt 11 127) (fun K hK => ?_)
    have c_ := do_ev (x := ⟨g, bm, n, f, G⟩) (kind := x.f0) (s := x.f1) (xs := x.f2) (A := Ah) (c := ch) S2 HN.out HL.out HXS.out.1 HCH.out HXC.out HXS.out.2 HXL.out
    refine goes_ Try.func11 (by kernel_rfl) rfl #[.pointer (some ⟨g, 0, none⟩), .agg #[.slice Ar G.length cr], .agg #[.int .u8 x.f0, .string x.f1, .slice Ah x.f2.length ch]] (by rfl) rfl rfl (by simp only [List.map_toArray, List.map_cons, List.map_nil]; rfl) ?_
    with_reducible refine (c_).mono ?_
    rintro z9 w9 ⟨n9, f9, D9, A9, c9, rfl, hn9, S9⟩
    clear c_
    (try dsimp only at S9 hn9)
    have HN9 := Aside0.mk hn9
    clear hn9
    generalize hG9 : aft G x.f0 x.f1 x.f2 = G9 at *
    refine ⟨_, rfl, ?_⟩
    refine hK.out _ _ (((own_cell (g := g4) S9 (by repeat (first | exact Spot.here _ _ | apply Spot.there)) 0).trans rfl)) (fun hHeld => ?_)
    clear hK K
    refine nrm ?_
    refine pur 7 24 (bt 11 255) ?_
    refine pur 8 32 (bt 11 511) ?_
    refine pur 9 33 (bt 11 1023) ?_
    refine last_ (i := 10) (N := none) (bt 11 2047) rfl rfl (by kernel_rfl) (by decide) (fun K hK => ?_)
    refine st_puts (g := g4) S9 (by rfl) rfl rfl s29 rfl rfl (by repeat (first | exact Spot.here _ _ | apply Spot.there)) rfl (by rfl) (by rfl) ?_
    intro w8 S8
    simp only [putAt, List.set_cons_zero, List.set_cons_succ] at S8
    refine hK.out _ _ ?_
    clear hK K
    refine done_ (by kernel_rfl) ?_

    clear S2 S9
    have S := S8
    clear S8
    go_wp2
    refine ⟨⟨i + 1, n9, f9, G9, D9, A9, c9, by simp [HI1.out], by omega, ⟨by have := HN9.out; have := HNI.out; omega⟩, ⟨by have h1 := aft_len G x.f0 x.f1 x.f2; rw [hG9] at h1; have := HGI.out; omega⟩, ⟨hG9 ▸ HNR9.out⟩, S⟩, meas hlt HI1.out⟩
   ·obtain rfl : i = l.length := by omega
    have hd2 : decide ((l.length : Int) < (l.length : Int)) = false := decide_eq_false (by omega)
    have HLL := Aside0.mk (show n < 1000000 ∧ G.length < 1000 by have := (HFB.out (by trivial)).1; have := HNI.out; have := HGI.out; omega)
    go_wp2_with (first | (go_at_call 13; have c_ := order_ev (x := ⟨g, bm, n, f, G⟩) S (by repeat (first | exact Spot.here _ _ | apply Spot.there)); (with_reducible refine c_.mono ?_); clear c_; rintro z_ w_ ⟨AO, cO, rfl, S_⟩; (try dsimp only at S_); clear S; have S := S_; clear S_) | (refine ev_make38 S rfl _ rfl rfl ?_; intro gc wm S_; clear S; have S := S_; clear S_) | go_in)
    have S1 := Aside0.mk (S.out.drop (L' := [SetB gc 0 [], Own Kd.string 9 AO cO (order G), GAs [⟨g, bm, n, f, G⟩]]) (keep3 _ _ _ _))
    clear S
    have S := S1
    clear S1
    have HGR := Aside0.mk (show Doc.Good G from (gr_at S (by repeat (first | exact Spot.here _ _ | apply Spot.there))).good)
    have HOL := Aside0.mk (show (order G).length ≤ 1000 from by have h1 := order_len HGR.out; have h2 := HLL.out.2; omega)
    have HCM := Aside0.mk (order_come HGR.out)
    have HSM := Aside0.mk (gr_at S (by repeat (first | exact Spot.here _ _ | apply Spot.there))).small
    have HDL := Aside0.mk (show ∀ y, (depsOf G y).length ≤ 1000 from fun y => by have h1 := HGR.out.depsLen y; have h2 := HLL.out.2; omega)
    go_loopw [8, 9, 10] (fun v8 v9 v10 wr => ∃ (i : Nat), v8 = .int .i64 i ∧ i ≤ (order G).length ∧ Aside0 (St w.heap.size w wr [SetB gc i ((order G).take i), Own Kd.string 9 AO cO (order G), GAs [⟨g, bm, n, f, G⟩]])) (fun v8 _ _ _ => (order G).length - (intOf v8).toNat)
    case atStart => exact ⟨0, rfl, Nat.zero_le _, by simpa using S⟩
    case round =>
     clear S
     obtain ⟨i, rfl, hi, S⟩ := hrel
     by_cases hlt : i < (order G).length
     ·have hd3 : decide ((i : Int) < ((order G).length : Int)) = true := decide_eq_true (by omega)
      have hil : (i : Int) < ((order G).length : Int) := by omega
      have hi0 : (0 : Int) ≤ (i : Int) := by omega
      have HI1 := Aside0.mk (show wrap64 ((i : Int) + 1) = ((i + 1 : Nat) : Int) by have := HOL.out; unfold wrap64; omega)
      obtain ⟨gO, rfl⟩ := Own.form (pred_at S.out (a := Own Kd.string 9 AO cO (order G)) (by repeat (first | exact Spot.here _ _ | apply Spot.there))) (by omega)
      have HXA := Aside0.mk (List.getElem?_eq_getElem hlt)
      have HAT := Aside0.mk (HCM.out.at i hlt)
      have HTK := Aside0.mk (show (order G).take (i + 1) = (order G).take i ++ [(order G)[i]] from List.take_succ_eq_append_getElem hlt)
      generalize (order G)[i] = a at *
      have HSA := Aside0.mk (HSM.out _ HAT.out.1)
      have HNA := Aside0.mk (show decide (a ∈ (order G).take i) = false from decide_eq_false HAT.out.2.1)
      have HDA := Aside0.mk (show decide (a ∈ names G) = true from decide_eq_true HAT.out.1)
      have HRA := Aside0.mk (show (decide (a ∈ names G) && (decide (a ∈ names G) && decide (a ∈ reached G a))) = false by rw [decide_eq_false (fun h => HNR.out a ((reached_iff HGR.out a a).1 h))]; simp)
      have HIM := Aside0.mk (show i < maxLen by have := HOL.out; unfold maxLen; omega)
      go_wp2_with (first | (refine ev_load1 ?_ rfl o9 rfl (row_cell (pred_at S.out (a := Own Kd.string 9 (some ⟨gO, 0, none⟩) cO (order G)) (by repeat (first | exact Spot.here _ _ | apply Spot.there))) HXA.out) ?_; (first | exact want0 rfl | exact want1 rfl rfl rfl rfl)) | (go_at_call 14; have c_ := deps_ev (x := ⟨g, bm, n, f, G⟩) (s := a) S (by repeat (first | exact Spot.here _ _ | apply Spot.there)) HSA.out; (with_reducible refine c_.mono ?_); clear c_; rintro z_ w_ ⟨A48, c48, rfl, S_⟩; (try dsimp only at S_); clear S; have S := S_; clear S_) | go_in)
      go_loopw [10] (fun v10 wr => ∃ (k : Nat), v10 = .int .i64 k ∧ k ≤ (depsOf G a).length ∧ Aside0 (St w.heap.size w wr (Own Kd.string 9 A48 c48 (depsOf G a) :: [SetB gc i ((order G).take i), Own Kd.string 9 (some ⟨gO, 0, none⟩) cO (order G), GAs [⟨g, bm, n, f, G⟩]]))) (fun v10 _ => (depsOf G a).length - (intOf v10).toNat)
      case atStart => exact ⟨0, rfl, Nat.zero_le _, S⟩
      case round =>
       clear S
       obtain ⟨k, rfl, hk, S⟩ := hrel
       by_cases hkt : k < (depsOf G a).length
       ·have hd4 : decide ((k : Int) < ((depsOf G a).length : Int)) = true := decide_eq_true (by omega)
        have hkl : (k : Int) < ((depsOf G a).length : Int) := by omega
        have hk0 : (0 : Int) ≤ (k : Int) := by omega
        have HK1 := Aside0.mk (show wrap64 ((k : Int) + 1) = ((k + 1 : Nat) : Int) by have := HDL.out a; unfold wrap64; omega)
        obtain ⟨g48, rfl⟩ := Own.form (pred_at S.out (a := Own Kd.string 9 A48 c48 (depsOf G a)) (by repeat (first | exact Spot.here _ _ | apply Spot.there))) (by omega)
        have HXB := Aside0.mk (List.getElem?_eq_getElem hkt)
        have HMB := Aside0.mk (HAT.out.2.2 _ (List.getElem_mem hkt))
        generalize (depsOf G a)[k] = b at *
        have HSB := Aside0.mk (HSM.out b (HCM.out.names b (List.mem_of_mem_take HMB.out)))
        have HDB := Aside0.mk (show decide (b ∈ (order G).take i) = true from decide_eq_true HMB.out)
        go_wp2_with (first | (refine ev_load1 ?_ rfl o9 rfl (row_cell (pred_at S.out (a := Own Kd.string 9 (some ⟨g48, 0, none⟩) c48 (depsOf G a)) (by repeat (first | exact Spot.here _ _ | apply Spot.there))) HXB.out) ?_; (first | exact want0 rfl | exact want1 rfl rfl rfl rfl)) | (at_lookup; refine ev_look38 (T := (order G).take i) S rfl _ _ rfl rfl (by repeat (first | exact Spot.here _ _ | apply Spot.there)) b rfl HSB.out true HDB.out ?_) | go_in)
        refine ⟨⟨k + 1, by simp [HK1.out], by omega, S⟩, meas hkt HK1.out⟩
       ·obtain rfl : k = (depsOf G a).length := by omega
        have hd4 : decide (((depsOf G a).length : Int) < ((depsOf G a).length : Int)) = false := decide_eq_false (by omega)
        go_wp2
        have S2 := Aside0.mk S.out.drew
        clear S
        refine start_ (n := 27) (S := fun w' => w'.cell? ⟨gO, i, none⟩ = some (.string a)) (ds := []) (bt 27 0) (by kernel_rfl) rfl rfl ((row_cell (pred_at S2.out (a := Own Kd.string 9 (some ⟨gO, 0, none⟩) cO (order G)) (by repeat (first | exact Spot.here _ _ | apply Spot.there))) HXA.out)) (fun hHeld => ?_)
        refine pur 0 62 (bt 27 1) ?_
        refine pur 1 63 (bt 27 3) ?_
        refine pur 2 64 (bt 27 7) ?_
        refine pur 3 65 (bt 27 15) ?_
        refine tak 4 66 (bt 27 31) hHeld ?_
        refine on1 5 67 (bt 27 63) (fun K hK => ?_)
        refine st_look38 (T := (order G).take i) S2 (by rfl) rfl _ _ rfl rfl (by repeat (first | exact Spot.here _ _ | apply Spot.there)) a rfl HSA.out false HNA.out ?_
        refine hK.out _ _ ((row_cell (pred_at S2.out (a := Own Kd.string 9 (some ⟨gO, 0, none⟩) cO (order G)) (by repeat (first | exact Spot.here _ _ | apply Spot.there))) HXA.out)) (fun hHeld => ?_)
        clear hK K
        refine nrm ?_
        refine pur 6 68 (bt 27 127) ?_
        refine pur 7 69 (bt 27 255) ?_
        refine pur 8 70 (bt 27 511) ?_
        refine pur 9 71 (bt 27 1023) ?_
        refine pur 10 72 (bt 27 2047) ?_
        refine tak 11 73 (bt 27 4095) hHeld ?_
        refine on1 12 74 (bt 27 8191) (fun K hK => ?_)
        have c_ := has_ev (x := ⟨g, bm, n, f, G⟩) (s := a) S2 (by repeat (first | exact Spot.here _ _ | apply Spot.there)) HSA.out
        dsimp only at c_
        rw [HDA.out] at c_
        refine goes_ Try.func15 (by kernel_rfl) rfl #[.pointer (some ⟨g, 0, none⟩), .string a] (by rfl) rfl rfl (by simp only [List.map_toArray, List.map_cons, List.map_nil]; rfl) ?_
        with_reducible refine (c_).mono ?_
        rintro z9 w3_ ⟨rfl, S3⟩
        clear c_
        refine ⟨_, rfl, ?_⟩
        refine hK.out _ _ ((row_cell (pred_at S3.out (a := Own Kd.string 9 (some ⟨gO, 0, none⟩) cO (order G)) (by repeat (first | exact Spot.here _ _ | apply Spot.there))) HXA.out)) (fun hHeld => ?_)
        clear hK K
        refine nrm ?_
        refine pur 13 75 (bt 27 16383) ?_
        refine pur 14 76 (bt 27 32767) ?_
        refine pur 15 77 (bt 27 65535) ?_
        refine pur 16 78 (bt 27 131071) ?_
        refine pur 17 79 (bt 27 262143) ?_
        refine pur 18 80 (bt 27 524287) ?_
        refine pur 19 81 (bt 27 1048575) ?_
        refine pur 21 83 (bt 27 3145727) ?_
        refine pur 22 84 (bt 27 7340031) ?_
        refine pur 23 85 (bt 27 15728639) ?_
        refine tak 20 82 (bt 27 16777215) hHeld ?_
        refine tak 24 86 (bt 27 33554431) hHeld ?_
        refine on1 25 87 (bt 27 67108863) (fun K hK => ?_)
        have c_ := reaches_ev (x := ⟨g, bm, n, f, G⟩) (s := a) (b := a) S3 (by repeat (first | exact Spot.here _ _ | apply Spot.there)) HSA.out HSA.out
        dsimp only at c_
        rw [HRA.out] at c_
        refine goes_ Try.func16 (by kernel_rfl) rfl #[.pointer (some ⟨g, 0, none⟩), .string a, .string a] (by rfl) rfl rfl (by simp only [List.map_toArray, List.map_cons, List.map_nil]; rfl) ?_
        with_reducible refine (c_).mono ?_
        rintro z9 w4_ ⟨rfl, S4⟩
        clear c_
        refine ⟨_, rfl, ?_⟩
        refine hK.out _ _ ((row_cell (pred_at S4.out (a := Own Kd.string 9 (some ⟨gO, 0, none⟩) cO (order G)) (by repeat (first | exact Spot.here _ _ | apply Spot.there))) HXA.out)) (fun hHeld => ?_)
        clear hK K
        refine nrm ?_
        refine pur 26 88 (bt 27 134217727) ?_
        refine done_ (by kernel_rfl) ?_

        have S := S4
        clear S2 S3 S4
        go_wp2_with (first | (refine ev_load1 ?_ rfl o9 rfl (row_cell (pred_at S.out (a := Own Kd.string 9 (some ⟨gO, 0, none⟩) cO (order G)) (by repeat (first | exact Spot.here _ _ | apply Spot.there))) HXA.out) ?_; (first | exact want0 rfl | exact want1 rfl rfl rfl rfl)) | (at_mapUpdate; refine ev_put38 (T := (order G).take i) S rfl rfl _ _ _ rfl rfl (by repeat (first | exact Spot.here _ _ | apply Spot.there)) HIM.out a rfl rfl HSA.out ?_; intro w_ S_; clear S; have S := S_; clear S_) | go_in)
        refine ⟨⟨i + 1, by simp [HI1.out], by omega, ?_⟩, meas hlt HI1.out⟩
        rw [HTK.out]
        exact ⟨S.out.drop (List.sublist_cons_self _ _)⟩
     ·obtain rfl : i = (order G).length := by omega
      have hd3 : decide (((order G).length : Int) < ((order G).length : Int)) = false := decide_eq_false (by omega)
      rw [List.take_length] at S
      go_wp2
      go_loopw [11] (fun v11 wr => ∃ (i : Nat), v11 = .int .i64 i ∧ i ≤ l.length ∧ Aside0 (St w.heap.size w wr [SetB gc (order G).length (order G), Own Kd.string 9 AO cO (order G), GAs [⟨g, bm, n, f, G⟩]])) (fun v11 _ => l.length - (intOf v11).toNat)
      case atStart => exact ⟨0, rfl, Nat.zero_le _, S⟩
      case round =>
       clear S
       obtain ⟨i, rfl, hi, S⟩ := hrel
       by_cases hlt : i < l.length
       ·have hd5 : decide ((i : Int) < (l.length : Int)) = true := decide_eq_true (by omega)
        have hil : (i : Int) < (l.length : Int) := by omega
        have hi0 : (0 : Int) ≤ (i : Int) := by omega
        have HI1 := Aside0.mk (show wrap64 ((i : Int) + 1) = ((i + 1 : Nat) : Int) by have := (HFB.out (by trivial)).1; unfold wrap64; omega)
        obtain ⟨ad, Ah, ch, rfl, hH, hxc, hch, hxm⟩ := act_at HC.out i hlt
        have HXS := Aside0.mk (HOK.out _ hxm)
        generalize rd_T34 l (i : Int) = x at *
        have HX1 := Aside0.mk (has_cell hH (by omega : (1 : Nat) ≠ 0) rfl)
        clear hH hxc hch hxm
        obtain ⟨v, hv⟩ : ∃ v, v = decide (x.f1 ∈ names G) := ⟨_, rfl⟩
        have HDX := Aside0.mk hv.symm
        have HCX := Aside0.mk (show decide (x.f1 ∈ order G) = v by rw [hv]; exact decide_eq_decide.2 ⟨HCM.out.names _, order_all HGR.out HNR.out _⟩)
        have hvv : (v != v) = false := by simp
        clear hv
        go_wp2
        have S2 := Aside0.mk S.out.drew
        clear S
        refine start_ (n := 15) (S := fun w' => w'.cell? ⟨(ad.add (i * 3)).block, (ad.add (i * 3)).off + 1, none⟩ = some (.string x.f1) ∧ (Instr.lookup 38 (.map (some gc)) (.string x.f1) false).run Try.prog w' = .ok (.bool v) w') (ds := []) (bt 15 0) (by kernel_rfl) rfl rfl ⟨(old_ S2 HX1.out), (look38v (T := order G) S2 (by repeat (first | exact Spot.here _ _ | apply Spot.there)) HXS.out.1 HCX.out)⟩ (fun hHeld => ?_)
        refine pur 0 100 (bt 15 1) ?_
        refine pur 1 101 (bt 15 3) ?_
        refine pur 2 102 (bt 15 7) ?_
        refine pur 3 103 (bt 15 15) ?_
        refine pur 4 104 (bt 15 31) ?_
        refine pur 7 107 (bt 15 159) ?_
        refine pur 8 108 (bt 15 415) ?_
        refine pur 9 109 (bt 15 927) ?_
        refine pur 10 110 (bt 15 1951) ?_
        refine pur 11 111 (bt 15 3999) ?_
        refine tak 5 105 (bt 15 4031) hHeld ?_
        refine tak 12 112 (bt 15 8127) hHeld ?_
        refine tak 13 113 (bt 15 16319) hHeld ?_
        refine on1 6 106 (bt 15 16383) (fun K hK => ?_)
        have c_ := has_ev (x := ⟨g, bm, n, f, G⟩) (s := x.f1) S2 (by repeat (first | exact Spot.here _ _ | apply Spot.there)) HXS.out.1
        dsimp only at c_
        rw [HDX.out] at c_
        refine goes_ Try.func15 (by kernel_rfl) rfl #[.pointer (some ⟨g, 0, none⟩), .string x.f1] (by rfl) rfl rfl (by simp only [List.map_toArray, List.map_cons, List.map_nil]; rfl) ?_
        with_reducible refine (c_).mono ?_
        rintro z9 w3_ ⟨rfl, S3⟩
        clear c_
        refine ⟨_, rfl, ?_⟩
        refine hK.out _ _ ⟨(old_ S3 HX1.out), (look38v (T := order G) S3 (by repeat (first | exact Spot.here _ _ | apply Spot.there)) HXS.out.1 HCX.out)⟩ (fun hHeld => ?_)
        clear hK K
        refine nrm ?_
        refine pur 14 114 (bt 15 32767) ?_
        refine done_ (by kernel_rfl) ?_

        have S := S3
        clear S2 S3
        go_wp2
        refine ⟨⟨i + 1, by simp [HI1.out], by omega, S⟩, meas hlt HI1.out⟩
       ·obtain rfl : i = l.length := by omega
        have hd5 : decide ((l.length : Int) < (l.length : Int)) = false := decide_eq_false (by omega)
        go_wp2_with (first | (go_at_call 9; (with_reducible refine (awake_calls _).mono ?_); rintro z_ w_ ⟨rfl, hb_⟩; have S_ := Aside0.mk (S.out.keep hb_); clear hb_; clear S; have S := S_; clear S_) | go_in)
        go_ret
        exact ⟨rfl, S.out.below⟩
end Go.Proofs.Ytaomemhnjpemiaa.Mp
