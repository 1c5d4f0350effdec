/- The order. -/
import Derived.Test.YtaomemhnjpemiaaZSl
namespace Go.Proofs.Ytaomemhnjpemiaa.Mp
open Go Go.Maps Go.RowKit Go.Proofs.Ytaomemhnjpemiaa.PB Go.Proofs.Ytaomemhnjpemiaa.Doc Go.Proofs.Ytaomemhnjpemiaa.Sep Go.Proofs.Ytaomemhnjpemiaa.Ev Go.Proofs.Ytaomemhnjpemiaa.Ty Go.Proofs.YtaomemhnjpemiaaW.PrintWords Go.Proofs.YtaomemhnjpemiaaW.PrintLast Go.Proofs.YtaomemhnjpemiaaW.PrintMore
set_option linter.unusedVariables false
set_option linter.unusedSimpArgs false

section
variable {ops : Array Oper} {o : Oper} {a : Act} {Q : Exit → Act → World → Prop} {K : Act → World → Prop} {B : Nat} {w W : World} {L : List Asn} {F : Asn → List Asn}
theorem st_set_put (S : Aside0 (St B w W L)) (hw : Region.wanted o (yielded ops a.tmps) = true) (hN : o.dst = none) (m x v : Operand) (hop : o.op = Op.mapUpdate 60 m x v) (b n : Nat) (T : List ByteArray) (hm : a.eval m = .map (some b)) (hs : Spot L (SetB b n T) F) (hn : n < maxLen) (s : ByteArray) (hx : a.eval x = .string s) (hv : a.eval v = .bool true) (hsz : s.size ≤ maxLen)
  (hK : ∀ w1, Aside0 (St B w w1 (F (SetB b (n + 1) (T ++ [s])))) → K a w1) : if Region.wanted o (yielded ops a.tmps) = true then Oper.wp Try.prog o a W K Q else K (a.put none undef) W := by
 rw [if_pos hw]
 obtain ⟨w', hrun, r1, r2⟩ := (SetB.out (pred_at S.out hs)).put hn hsz
 unfold Oper.wp
 simp [execOp, hop, hm, hx, hv, hrun, Result.andThen, Oper.upon, hN]
 exact hK w' (turn_block S hs r2.grown (SetB.foot_iff.2 rfl) (SetB.mk r1) (fun k hk => .inl (SetB.foot_iff.2 (SetB.foot_iff.1 hk))))
end
theorem add_row {B : Nat} {w W : World} {L : List Asn} (S : Aside0 (St B w W L)) : Aside0 (St B w W (Own Kd.string 9 none 0 [] :: L)) :=
 ⟨S.out.cons _ (Own.nil _ _ _) (Own.nil_foot _ _ _) (fun b _ k h _ => Own.nil_foot _ _ (fun _ => False) k h)⟩
theorem row_cell {W : World} {g c i : Nat} {xs : List ByteArray} {x : ByteArray} (h : (Own Kd.string 9 (some ⟨g, 0, none⟩) c xs).pred W) (hx : xs[i]? = some x) : W.cell? ⟨g, i, none⟩ = some (.string x) := by
 rcases Own.str h with ⟨hn, _⟩ | ⟨g', cur, hg, h1, h2, h3, h4, h5⟩
 ·cases hn
 ·obtain rfl : g = g' := by injection hg with hg; injection hg
  obtain ⟨hi, _⟩ := List.getElem?_eq_some_iff.1 hx
  refine (cell_blk h1 i).trans ?_
  have h6 := congrArg (fun l : List Value => l[i]?) h5
  simp only [List.getElem?_take_of_lt hi, List.getElem?_map, hx, Array.getElem?_toList] at h6
  exact h6
/-- what is left, what may come -/
def leftOf (G : List S73) (out : List ByteArray) : List ByteArray := (names G).filter (fun a => !decide (a ∈ out))
def mayCome (G : List S73) (out : List ByteArray) (a : ByteArray) : Bool := decide (∀ d ∈ depsOf G a, d ∈ out)
theorem find_congr {α : Type} {p q : α → Bool} : ∀ {l : List α}, (∀ x ∈ l, p x = q x) → l.find? p = l.find? q
 | [], _ => rfl
 | x :: l, h => by
  rw [List.find?_cons, List.find?_cons, h x (by simp), find_congr (fun y hy => h y (by simp [hy]))]
theorem order_next {G : List S73} (hG : Doc.Good G) (out : List ByteArray) : orderStep G out = match (leftOf G out).find? (mayCome G out) with | none => out | some a => out ++ [a] := by
 have e : (leftOf G out).find? (mayCome G out) = (G.find? (fun n => isReady n out)).map (fun n => n.f0) := by
  rw [leftOf, List.find?_filter, names, List.find?_map]
  congr 1
  refine find_congr (fun n hn => ?_)
  show decide ((!decide (n.f0 ∈ out)) = true ∧ mayCome G out n.f0 = true) = isReady n out
  have e2 : mayCome G out n.f0 = decide (∀ d ∈ n.f1, d ∈ out) := by unfold mayCome; rw [depsOf_at hG.up.nodup hn]
  rw [e2]
  unfold isReady
  generalize decide (n.f0 ∈ out) = u
  generalize decide (∀ d ∈ n.f1, d ∈ out) = v
  cases u <;> cases v <;> rfl
 rw [orderStep, e]
 cases G.find? (fun n => isReady n out) <;> rfl
theorem filter_one : ∀ {l : List ByteArray} {k : Nat} {x : ByteArray}, l.Nodup → l[k]? = some x → l.filter (fun y => !decide (y = x)) = l.take k ++ l.drop (k + 1)
 | [], _, _, _, h => by simp at h
 | y :: l, 0, x, hn, h => by
  obtain rfl : y = x := by simpa using h
  rw [List.filter_cons_of_neg (by simp)]
  simp only [List.take_zero, List.nil_append, Nat.zero_add, List.drop_succ_cons, List.drop_zero]
  refine List.filter_eq_self.2 fun z hz => ?_
  have : z ≠ y := fun e => (List.nodup_cons.1 hn).1 (e ▸ hz)
  simp [this]
 | y :: l, k + 1, x, hn, h => by
  have hx : l[k]? = some x := by simpa using h
  have : y ≠ x := fun e => (List.nodup_cons.1 hn).1 (e ▸ List.mem_of_getElem? hx)
  rw [List.filter_cons_of_pos (by simp [this]), filter_one (List.nodup_cons.1 hn).2 hx]
  simp
theorem left_next {G : List S73} (hG : Doc.Good G) {out : List ByteArray} {k : Nat} {x : ByteArray} (hx : (leftOf G out)[k]? = some x) : (leftOf G out).take k ++ (leftOf G out).drop (k + 1) = leftOf G (out ++ [x]) := by
 have hn : (leftOf G out).Nodup := hG.up.nodup.filter _
 rw [← filter_one hn hx, leftOf, leftOf, List.filter_filter]
 refine List.filter_congr fun y _ => ?_
 by_cases h1 : y ∈ out <;> by_cases h2 : y = x <;> simp [h1, h2]
theorem order_end {G : List S73} (hG : Doc.Good G) {out : List ByteArray} (ho : out = orderFrom G out.length []) (he : orderStep G out = out) : out = order G := by
 have hc : Come G out := ho ▸ come_from hG _ _ .nil
 have hl : out.length ≤ G.length := by
  have := nodup_len hc.nodup hc.names
  rwa [names_len] at this
 rw [order, show G.length = out.length + (G.length - out.length) by omega, orderFrom_add, ← ho, orderFrom_still G out he]
theorem own_new {B : Nat} {w W : World} {L : List Asn} {F : Asn → List Asn} {A : Option Addr} {c : Nat} {xs : List ByteArray} (S : Aside0 (St B w W L)) (hs : Spot L (Own Kd.string 9 A c xs) F) : Kd.R Kd.string 9 W B (fun k => (Value.slice A xs.length c).ownBlock = some k) (.slice A xs.length c) xs := by
 obtain ⟨h0, inner, ho, hr⟩ := Own.row (pred_at S.out hs)
 refine ⟨h0, inner, ⟨ho.1, ?_⟩, hr⟩
 rcases ho.2 with h1 | ⟨g, cap, cur, h1, h2, h3⟩
 ·exact .inl h1
 ·exact .inr ⟨g, cap, cur, h1, new_at S.out hs g (Own.foot_iff.2 (by rw [h1]; rfl)), h3⟩
def lenOf : Value → Nat
 | .slice _ n _ => n
 | _ => 0
theorem info9 : (Try.prog.info? 9).map (fun i => (i.zero, i.size, i.bytes)) = some (some (.string ⟨#[]⟩), 1, 16) := by kernel_rfl
set_option maxRecDepth 100000 in
set_option maxHeartbeats 16000000 in
theorem order_calls (g bm n : Nat) (f : ByteArray → Option Nat) (G : List S73) (w : World) (h : Gr w g bm n f G) :
  Calls Try.prog 13 #[.pointer (some ⟨g, 0, none⟩)] w fun z w' => ∃ A c, z = .returned (.slice A (order G).length c) ∧ Kd.R Kd.string 9 w' w.heap.size (fun _ => True) (.slice A (order G).length c) (order G) ∧ Below w.heap.size w w' := by
 have HG := Aside0.mk h
 have S := Aside0.mk (St.start w)
 have HC := Aside0.mk h.cell
 have HL0 := Aside0.mk (show leftOf G [] = names G by simp [leftOf])
 clear h
 go_enter Try.func13, Try.ntmps13
 go_wp2_with (first | ((with_reducible refine gate_dst (N := 1) rfl ?_); refine ev_box1 S ?_ 1 rfl rfl rfl rfl ?_; (first | exact want0 rfl | exact want1 rfl rfl rfl rfl); intro g1 w1 S_; clear S; have S := S_; clear S_) | (refine ev_own1 S ?_ rfl o25 rfl (by repeat (first | exact Spot.here _ _ | apply Spot.there)) (by exact rfl) ?_; (first | exact want0 rfl | exact want1 rfl rfl rfl rfl)) | (refine ev_own1 S ?_ rfl o60 rfl (by repeat (first | exact Spot.here _ _ | apply Spot.there)) (by exact rfl) ?_; (first | exact want0 rfl | exact want1 rfl rfl rfl rfl)) | (refine ev_load1 ?_ rfl o50 rfl (old_ S HC.out) ?_; (first | exact want0 rfl | exact want1 rfl rfl rfl rfl)) | ((with_reducible refine gate_dst (N := 4) rfl ?_); refine ev_alloc #[.map none] rfl S ?_ 4 rfl rfl Ty.z60 ?_; (first | exact want0 rfl | exact want1 rfl rfl rfl rfl); intro g4 w4 S_; clear S; have S := S_; clear S_) | (refine ev_make60 S rfl _ rfl rfl ?_; intro gm wm S_; clear S; have S := S_; clear S_) | (refine ev_put1 S ?_ rfl rfl s60 rfl rfl (by repeat (first | exact Spot.here _ _ | apply Spot.there)) ?_ ?_ ?_; (first | exact want0 rfl | exact want1 rfl rfl rfl rfl); rfl; rfl; intro w_ S_; simp only [putAt, List.set_cons_zero, List.set_cons_succ] at S_; clear S; have S := S_; clear S_) | (go_at_call 34; (with_reducible refine (keys34_calls _ _).mono ?_); rintro z_ w_ ⟨rfl, hw_⟩; have HW := Aside0.mk hw_; clear hw_) | (go_at_call 33; have c_ := map_sorted ((HG.out.below S.out.below).map) HG.out.cnt HG.out.good.up HG.out.dom; rw [← HW.out] at c_; (with_reducible refine c_.mono ?_); clear c_; rintro z_ w_ ⟨AL, cL, rfl, hr_, hb_⟩; have S_ := Aside0.mk (St.add S.out hb_ _ (Own.mk rfl hr_) (Own.new hr_)); clear hr_ hb_ HW; clear S; have S := S_; clear S_) | go_in)
 have S1 := add_row S
 clear S
 have S := S1
 clear S1
 go_loopw [3, 5, 6] (fun v3 v5 v6 wr => ∃ (out left : List ByteArray) (A A' : Option Addr) (c c' : Nat), v3 = .slice A left.length c ∧ v5 = .slice A' out.length c' ∧ Aside0 (left = leftOf G out) ∧ Aside0 (out = orderFrom G out.length []) ∧ Aside0 (out.length ≤ 1000) ∧ Aside0 (St w.heap.size w wr [Own Kd.string 9 A' c' out, Bk g4 #[.map (some gm)] 60, SetB gm out.length out, Own Kd.string 9 A c left, Bk g1 #[.pointer (some ⟨g, 0, none⟩)] 25])) (fun v3 _ _ _ => lenOf v3)
 case atStart => exact ⟨[], names G, AL, none, cL, 0, rfl, rfl, ⟨HL0.out.symm⟩, ⟨rfl⟩, ⟨Nat.zero_le _⟩, S⟩
 case round =>
  clear S
  obtain ⟨out, left, A, A', c, c', rfl, rfl, HLE, HOE, HOL, S⟩ := hrel
  by_cases hlen : 0 < left.length
  ·have hd1 : decide ((left.length : Int) > 0) = true := decide_eq_true (by omega)
   have HLR := Aside0.mk (show ∀ x ∈ left, x ∈ names G from fun x hx => by rw [HLE.out] at hx; exact (List.mem_filter.1 hx).1)
   by_cases hany : ∃ x ∈ left, mayCome G out x = true
   ·obtain ⟨k, hk1, hk2, hk3⟩ := ix_some (i := 0) hany
    have hd2 : decide (((0 + k : Nat) : Int) < 0) = false := decide_eq_false (by omega)
    have hkl : (k : Int) < (left.length : Int) := by omega
    have hk0 : (0 : Int) ≤ (k : Int) := by omega
    have hkw : wrap64 ((k : Int) + 1) = ((k + 1 : Nat) : Int) := by
     have := (Own.max (pred_at S.out (a := Own Kd.string 9 A c left) (by repeat (first | exact Spot.here _ _ | apply Spot.there)))); unfold wrap64; omega
    have HIX := Aside0.mk hk1
    have HX := Aside0.mk (List.getElem?_eq_getElem hk2)
    have hxm := List.getElem_mem hk2
    generalize left[k] = x at *
    have HXS := Aside0.mk (HG.out.small x (HLR.out x hxm))
    have HSTEP := Aside0.mk (show orderStep G out = out ++ [x] by rw [order_next HG.out.good, ← HLE.out, hk3, HX.out])
    have HLN := Aside0.mk (show left.take k ++ left.drop (k + 1) = leftOf G (out ++ [x]) by
     have := HX.out
     rw [HLE.out] at this ⊢
     exact left_next HG.out.good this)
    have HLL := Aside0.mk (show (leftOf G (out ++ [x])).length < left.length by rw [← HLN.out]; simp; omega)
    have HON := Aside0.mk (show out ++ [x] = orderFrom G (out ++ [x]).length [] by
     have h1 := orderFrom_add G out.length 1 []
     rw [List.length_append, List.length_singleton, h1, ← HOE.out]
     exact HSTEP.out.symm)
    have HOC := Aside0.mk (show (out ++ [x]).length ≤ 1000 by
     have hc : Come G (out ++ [x]) := by rw [HON.out]; exact come_from HG.out.good _ _ .nil
     have := nodup_len hc.nodup hc.names
     rw [names_len] at this
     exact Nat.le_trans this HG.out.len)
    obtain ⟨gl, rfl⟩ := Own.form (pred_at S.out (a := Own Kd.string 9 A c left) (by repeat (first | exact Spot.here _ _ | apply Spot.there))) hlen
    have HKK := Aside0.mk hk2
    clear hk1 hk2 hk3 hany hxm
    simp only [Nat.zero_add] at HIX hd2
    go_wp2_with (first | ((with_reducible refine gate_dst (N := 1) rfl ?_); refine ev_box1 S ?_ 1 rfl rfl rfl rfl ?_; (first | exact want0 rfl | exact want1 rfl rfl rfl rfl); intro g1 w1 S_; clear S; have S := S_; clear S_) | (refine ev_own1 S ?_ rfl o25 rfl (by repeat (first | exact Spot.here _ _ | apply Spot.there)) (by exact rfl) ?_; (first | exact want0 rfl | exact want1 rfl rfl rfl rfl)) | (refine ev_own1 S ?_ rfl o60 rfl (by repeat (first | exact Spot.here _ _ | apply Spot.there)) (by exact rfl) ?_; (first | exact want0 rfl | exact want1 rfl rfl rfl rfl)) | (refine ev_load1 ?_ rfl o50 rfl (old_ S HC.out) ?_; (first | exact want0 rfl | exact want1 rfl rfl rfl rfl)) | (go_at_call 35; have c_ := index36_calls g1 g4 (mayCome G out) (some ⟨gl, 0, none⟩) c left _ (Own.reads (pred_at S.out (a := Own Kd.string 9 (some ⟨gl, 0, none⟩) c left) (by repeat (first | exact Spot.here _ _ | apply Spot.there)))) (fun x hx W' hb => clo36_calls g1 g4 g bm n gm out.length f G out x W' (HG.out.below (S.out.below.trans (hb.mono S.out.below.size))) (HLR.out x hx) ((hb.cell (World.block_lt_of_cell? _ _ ((own_cell (g := g1) S (by repeat (first | exact Spot.here _ _ | apply Spot.there)) 0).trans rfl))).trans ((own_cell (g := g1) S (by repeat (first | exact Spot.here _ _ | apply Spot.there)) 0).trans rfl)) ((hb.cell (World.block_lt_of_cell? _ _ ((own_cell (g := g4) S (by repeat (first | exact Spot.here _ _ | apply Spot.there)) 0).trans rfl))).trans ((own_cell (g := g4) S (by repeat (first | exact Spot.here _ _ | apply Spot.there)) 0).trans rfl)) ((SetB.out (pred_at S.out (a := SetB gm out.length out) (by repeat (first | exact Spot.here _ _ | apply Spot.there)))).of_block (hb.block gm (SetB.out (pred_at S.out (a := SetB gm out.length out) (by repeat (first | exact Spot.here _ _ | apply Spot.there)))).lt))); rw [HIX.out] at c_; (with_reducible refine c_.mono ?_); clear c_; rintro z_ w_ ⟨rfl, hb_⟩; have S_ := Aside0.mk (S.out.keep hb_); clear hb_; clear S; have S := S_; clear S_) | go_in)
    have S2 := Aside0.mk S.out.drew
    clear S
    refine start_ (n := 6) (S := fun w' => w'.cell? ⟨g4, 0, none⟩ = some (.map (some gm)) ∧ w'.cell? ⟨gl, k, none⟩ = some (.string x)) (ds := [5]) (bt 6 0) (by kernel_rfl) rfl rfl ⟨((own_cell (g := g4) S2 (by repeat (first | exact Spot.here _ _ | apply Spot.there)) 0).trans rfl), (row_cell (pred_at S2.out (a := Own Kd.string 9 (some ⟨gl, 0, none⟩) c left) (by repeat (first | exact Spot.here _ _ | apply Spot.there))) HX.out)⟩ (fun hHeld => ?_)
    refine pur 1 25 (bt 6 2) ?_
    refine pur 2 26 (bt 6 6) ?_
    refine pur 3 27 (bt 6 14) ?_
    refine tak 0 24 (bt 6 15) hHeld ?_
    refine tak 4 28 (bt 6 31) hHeld ?_
    refine last_ (i := 5) (N := none) (bt 6 63) rfl rfl (by kernel_rfl) (by decide) (fun K hK => ?_)
    refine st_set_put S2 (by rfl) rfl _ _ _ rfl gm out.length out rfl (by repeat (first | exact Spot.here _ _ | apply Spot.there)) (by have := HOL.out; unfold maxLen; omega) x rfl rfl HXS.out ?_
    intro w5 S5
    refine hK.out _ _ ?_
    clear hK K
    refine done_ (by kernel_rfl) ?_

    clear S2
    have S := S5
    clear S5
    go_wp2_with (first | ((with_reducible refine gate_dst (N := 1) rfl ?_); refine ev_box1 S ?_ 1 rfl rfl rfl rfl ?_; (first | exact want0 rfl | exact want1 rfl rfl rfl rfl); intro g1 w1 S_; clear S; have S := S_; clear S_) | (refine ev_own1 S ?_ rfl o25 rfl (by repeat (first | exact Spot.here _ _ | apply Spot.there)) (by exact rfl) ?_; (first | exact want0 rfl | exact want1 rfl rfl rfl rfl)) | (refine ev_own1 S ?_ rfl o60 rfl (by repeat (first | exact Spot.here _ _ | apply Spot.there)) (by exact rfl) ?_; (first | exact want0 rfl | exact want1 rfl rfl rfl rfl)) | (refine ev_load1 ?_ rfl o50 rfl (old_ S HC.out) ?_; (first | exact want0 rfl | exact want1 rfl rfl rfl rfl)) | (refine ev_load1 ?_ rfl o9 rfl (row_cell (pred_at S.out (a := Own Kd.string 9 (some ⟨gl, 0, none⟩) c left) (by repeat (first | exact Spot.here _ _ | apply Spot.there))) HX.out) ?_; (first | exact want0 rfl | exact want1 rfl rfl rfl rfl)) | ((with_reducible refine gate_dst (N := 34) rfl ?_); refine ev_lit (enc := Value.string) (h1 := fun _ => rfl) (e := 9) ([x] : List ByteArray) S rfl 34 rfl ?hrun (by simp) ?_; (case hrun => first | (go_simp; done) | (go_simp; rfl)); intro A34 c34 w_ S_; clear S; have S := S_; clear S_) | (((with_reducible refine gate_builtin (b := .append) (xs := #[.tmp 29, .tmp 34]) rfl ?_); at_builtin; refine ev_rows (enc := Value.string) (h1 := fun _ => rfl) (e := 9) ByteArray.empty (.tmp 29) (.tmp 34) 32 (.string ⟨#[]⟩) 16 (n := out.length) (xs := out) (ys := [x]) S rfl rfl Try.underlying32 info9 rfl (by decide) rfl rfl (by repeat (first | exact Spot.here _ _ | apply Spot.there)) rfl (Own.reads (pred_at S.out (a := Own Kd.string 9 A34 c34 [x]) (by repeat (first | exact Spot.here _ _ | apply Spot.there)))) (by have := HOL.out; simp; omega) ?_; intro A35 c35 w_ S_; clear S; have S := S_; clear S_)) | (go_at_call 37; have c_ := delete_ev S (by repeat (first | exact Spot.here _ _ | apply Spot.there)) HKK.out HLN.out; (with_reducible refine c_.mono ?_); clear c_; rintro z_ w_ ⟨rfl, S_⟩; clear S; have S := S_; clear S_) | go_in)
    refine ⟨⟨out ++ [x], leftOf G (out ++ [x]), some ⟨gl, 0, none⟩, A35, c, c35, rfl, by simp, ⟨rfl⟩, HON, HOC, ?_⟩, HLL.out⟩
    have h1 := S.out.drop (List.sublist_cons_self _ _)
    rw [show out.length + 1 = (out ++ [x]).length by simp] at h1
    exact ⟨h1⟩
   ·have hno : ∀ x ∈ left, mayCome G out x = false := fun x hx => by
     cases hp : mayCome G out x with
     | false => rfl
     | true => exact absurd ⟨x, hx, hp⟩ hany
    have HIX := Aside0.mk (ix_none (i := 0) hno)
    have HEND := Aside0.mk (show out = order G from order_end HG.out.good HOE.out (by
     rw [order_next HG.out.good, ← HLE.out, List.find?_eq_none.2 (fun x hx => by simp [hno x hx])]))
    clear hno hany
    go_wp2_with (first | ((with_reducible refine gate_dst (N := 1) rfl ?_); refine ev_box1 S ?_ 1 rfl rfl rfl rfl ?_; (first | exact want0 rfl | exact want1 rfl rfl rfl rfl); intro g1 w1 S_; clear S; have S := S_; clear S_) | (refine ev_own1 S ?_ rfl o25 rfl (by repeat (first | exact Spot.here _ _ | apply Spot.there)) (by exact rfl) ?_; (first | exact want0 rfl | exact want1 rfl rfl rfl rfl)) | (refine ev_own1 S ?_ rfl o60 rfl (by repeat (first | exact Spot.here _ _ | apply Spot.there)) (by exact rfl) ?_; (first | exact want0 rfl | exact want1 rfl rfl rfl rfl)) | (refine ev_load1 ?_ rfl o50 rfl (old_ S HC.out) ?_; (first | exact want0 rfl | exact want1 rfl rfl rfl rfl)) | (go_at_call 35; have c_ := index36_calls g1 g4 (mayCome G out) A c left _ (Own.reads (pred_at S.out (a := Own Kd.string 9 A c left) (by repeat (first | exact Spot.here _ _ | apply Spot.there)))) (fun x hx W' hb => clo36_calls g1 g4 g bm n gm out.length f G out x W' (HG.out.below (S.out.below.trans (hb.mono S.out.below.size))) (HLR.out x hx) ((hb.cell (World.block_lt_of_cell? _ _ ((own_cell (g := g1) S (by repeat (first | exact Spot.here _ _ | apply Spot.there)) 0).trans rfl))).trans ((own_cell (g := g1) S (by repeat (first | exact Spot.here _ _ | apply Spot.there)) 0).trans rfl)) ((hb.cell (World.block_lt_of_cell? _ _ ((own_cell (g := g4) S (by repeat (first | exact Spot.here _ _ | apply Spot.there)) 0).trans rfl))).trans ((own_cell (g := g4) S (by repeat (first | exact Spot.here _ _ | apply Spot.there)) 0).trans rfl)) ((SetB.out (pred_at S.out (a := SetB gm out.length out) (by repeat (first | exact Spot.here _ _ | apply Spot.there)))).of_block (hb.block gm (SetB.out (pred_at S.out (a := SetB gm out.length out) (by repeat (first | exact Spot.here _ _ | apply Spot.there)))).lt))); rw [HIX.out] at c_; (with_reducible refine c_.mono ?_); clear c_; rintro z_ w_ ⟨rfl, hb_⟩; have S_ := Aside0.mk (S.out.keep hb_); clear hb_; clear S; have S := S_; clear S_) | go_in)
    go_ret
    refine ⟨A', c', by rw [← HEND.out]; rfl, ?_, S.out.below⟩
    rw [← HEND.out]
    exact Kd.R_mono (own_new S (by repeat (first | exact Spot.here _ _ | apply Spot.there))) (fun _ _ => trivial)
  ·have hl0 : left = [] := by cases left with | nil => rfl | cons _ _ => simp at hlen
   subst hl0
   have HEND := Aside0.mk (show out = order G from order_end HG.out.good HOE.out (by rw [order_next HG.out.good, ← HLE.out]; rfl))
   clear hlen
   go_wp2_with (first | ((with_reducible refine gate_dst (N := 1) rfl ?_); refine ev_box1 S ?_ 1 rfl rfl rfl rfl ?_; (first | exact want0 rfl | exact want1 rfl rfl rfl rfl); intro g1 w1 S_; clear S; have S := S_; clear S_) | (refine ev_own1 S ?_ rfl o25 rfl (by repeat (first | exact Spot.here _ _ | apply Spot.there)) (by exact rfl) ?_; (first | exact want0 rfl | exact want1 rfl rfl rfl rfl)) | (refine ev_own1 S ?_ rfl o60 rfl (by repeat (first | exact Spot.here _ _ | apply Spot.there)) (by exact rfl) ?_; (first | exact want0 rfl | exact want1 rfl rfl rfl rfl)) | (refine ev_load1 ?_ rfl o50 rfl (old_ S HC.out) ?_; (first | exact want0 rfl | exact want1 rfl rfl rfl rfl)) | (go_at_call 35; have c_ := index36_calls g1 g4 (mayCome G out) A c left _ (Own.reads (pred_at S.out (a := Own Kd.string 9 A c left) (by repeat (first | exact Spot.here _ _ | apply Spot.there)))) (fun x hx W' hb => clo36_calls g1 g4 g bm n gm out.length f G out x W' (HG.out.below (S.out.below.trans (hb.mono S.out.below.size))) (HLR.out x hx) ((hb.cell (World.block_lt_of_cell? _ _ ((own_cell (g := g1) S (by repeat (first | exact Spot.here _ _ | apply Spot.there)) 0).trans rfl))).trans ((own_cell (g := g1) S (by repeat (first | exact Spot.here _ _ | apply Spot.there)) 0).trans rfl)) ((hb.cell (World.block_lt_of_cell? _ _ ((own_cell (g := g4) S (by repeat (first | exact Spot.here _ _ | apply Spot.there)) 0).trans rfl))).trans ((own_cell (g := g4) S (by repeat (first | exact Spot.here _ _ | apply Spot.there)) 0).trans rfl)) ((SetB.out (pred_at S.out (a := SetB gm out.length out) (by repeat (first | exact Spot.here _ _ | apply Spot.there)))).of_block (hb.block gm (SetB.out (pred_at S.out (a := SetB gm out.length out) (by repeat (first | exact Spot.here _ _ | apply Spot.there)))).lt))); rw [HIX.out] at c_; (with_reducible refine c_.mono ?_); clear c_; rintro z_ w_ ⟨rfl, hb_⟩; have S_ := Aside0.mk (S.out.keep hb_); clear hb_; clear S; have S := S_; clear S_) | go_in)
   go_ret
   refine ⟨A', c', by rw [← HEND.out]; rfl, ?_, S.out.below⟩
   rw [← HEND.out]
   exact Kd.R_mono (own_new S (by repeat (first | exact Spot.here _ _ | apply Spot.there))) (fun _ _ => trivial)
end Go.Proofs.Ytaomemhnjpemiaa.Mp
