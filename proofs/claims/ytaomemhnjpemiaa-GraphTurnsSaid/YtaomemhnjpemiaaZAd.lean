/- of: names as a set. -/
import Derived.Test.YtaomemhnjpemiaaGr
import Derived.Test.YtaomemhnjpemiaaDt
namespace Go.Proofs.Ytaomemhnjpemiaa.Mp
open Go Go.Maps Go.RowKit Go.Proofs.Ytaomemhnjpemiaa.PB Go.Proofs.Ytaomemhnjpemiaa.Doc Go.Proofs.Ytaomemhnjpemiaa.Sep Go.Proofs.Ytaomemhnjpemiaa.Ev Go.Proofs.Ytaomemhnjpemiaa.Ty Go.Proofs.YtaomemhnjpemiaaW.PrintWords Go.Proofs.YtaomemhnjpemiaaW.PrintLast Go.Proofs.YtaomemhnjpemiaaW.PrintMore
set_option linter.unusedVariables false
set_option linter.unusedSimpArgs false

set_option maxRecDepth 100000 in
set_option maxHeartbeats 4000000 in
theorem of_calls (A : Option Addr) (c : Nat) (xs : List ByteArray) (w : World) (hC : Kd.C Kd.string w A xs.length xs) (hsz : ∀ x ∈ xs, x.size ≤ maxLen) (hl : xs.length ≤ 1000000) :
  Calls Try.prog 43 #[.slice A xs.length c] w fun z w' => ∃ b, z = .returned (.map (some b)) ∧ w.heap.size ≤ b ∧ SetAt w' b xs.length xs ∧ Below w.heap.size w w' := by
 have HC := Aside0.mk hC
 have HZ := Aside0.mk hsz
 have S := Aside0.mk (St.start w)
 clear hC hsz
 go_enter Try.func43, Try.ntmps43
 go_wp2_with (first | (refine ev_make60 S rfl _ rfl rfl ?_; intro gm wm S_; clear S; have S := S_; clear S_) | (refine ev_load1 ?_ rfl o9 rfl (old_ S HX.out) ?_; (first | exact want0 rfl | exact want1 rfl rfl rfl rfl)) | (at_mapUpdate; refine ev_set_put S rfl _ _ _ rfl _ _ _ rfl (by repeat (first | exact Spot.here _ _ | apply Spot.there)) (by unfold maxLen; omega) x rfl rfl HS.out ?_; intro w_ S_; clear S; have S := S_; clear S_) | go_in)
 go_loopw [5, 9] (fun v5 v9 wr => ∃ (i : Nat), v9 = .int .i64 i ∧ i ≤ xs.length ∧ Aside0 (St w.heap.size w wr [SetB gm i (xs.take i)])) (fun _ v9 _ => xs.length - (intOf v9).toNat)
 case atStart => exact ⟨0, rfl, Nat.zero_le _, by simpa using S⟩
 case round =>
  clear S
  obtain ⟨i, rfl, hi, S⟩ := hrel
  by_cases hlt : i < xs.length
  ·have hd2 : decide ((i : Int) < (xs.length : Int)) = true := decide_eq_true (by omega)
   have hil : (i : Int) < (xs.length : Int) := by omega
   have hi0 : (0 : Int) ≤ (i : Int) := by omega
   have hi1 : wrap64 ((i : Int) + 1) = ((i + 1 : Nat) : Int) := by unfold wrap64; omega
   have HT := Aside0.mk (show xs.take (i + 1) = xs.take i ++ [xs.getD i ByteArray.empty] by rw [List.take_succ_eq_append_getElem hlt]; simp [hlt])
   obtain ⟨ad, rfl, hX⟩ := strC_drop HC.out i hlt
   have hxs : (xs.getD i ByteArray.empty).size ≤ maxLen := HZ.out _ (by simp [hlt])
   generalize xs.getD i ByteArray.empty = x at *
   have HX := Aside0.mk hX
   have HS := Aside0.mk hxs
   clear hX hxs
   go_wp2_with (first | (refine ev_make60 S rfl _ rfl rfl ?_; intro gm wm S_; clear S; have S := S_; clear S_) | (refine ev_load1 ?_ rfl o9 rfl (old_ S HX.out) ?_; (first | exact want0 rfl | exact want1 rfl rfl rfl rfl)) | (at_mapUpdate; refine ev_set_put S rfl _ _ _ rfl _ _ _ rfl (by repeat (first | exact Spot.here _ _ | apply Spot.there)) (by unfold maxLen; omega) x rfl rfl HS.out ?_; intro w_ S_; clear S; have S := S_; clear S_) | go_in)
   refine ⟨⟨i + 1, by simp [hi1], by omega, by rw [HT.out]; exact S⟩, ?_⟩
   simp [intOf, hi1]; omega
  ·obtain rfl : i = xs.length := by omega
   have hd2 : decide ((xs.length : Int) < (xs.length : Int)) = false := decide_eq_false (by omega)
   go_wp2_with (first | (refine ev_make60 S rfl _ rfl rfl ?_; intro gm wm S_; clear S; have S := S_; clear S_) | (refine ev_load1 ?_ rfl o9 rfl (old_ S HX.out) ?_; (first | exact want0 rfl | exact want1 rfl rfl rfl rfl)) | (at_mapUpdate; refine ev_set_put S rfl _ _ _ rfl _ _ _ rfl (by repeat (first | exact Spot.here _ _ | apply Spot.there)) (by unfold maxLen; omega) x rfl rfl HS.out ?_; intro w_ S_; clear S; have S := S_; clear S_) | go_in)
   go_ret
   have h1 := SetB.out (pred_at (a := SetB gm xs.length (xs.take xs.length)) S.out (by repeat (first | exact Spot.here _ _ | apply Spot.there)))
   rw [List.take_length] at h1
   exact ⟨gm, rfl, new_at (a := SetB gm xs.length (xs.take xs.length)) S.out (by repeat (first | exact Spot.here _ _ | apply Spot.there)) gm (SetB.foot_iff.2 rfl), h1, S.out.below⟩
end Go.Proofs.Ytaomemhnjpemiaa.Mp
/- Add. -/
namespace Go.Proofs.Ytaomemhnjpemiaa.Mp
open Go Go.Maps Go.RowKit Go.Proofs.Ytaomemhnjpemiaa.PB Go.Proofs.Ytaomemhnjpemiaa.Doc Go.Proofs.Ytaomemhnjpemiaa.Sep Go.Proofs.Ytaomemhnjpemiaa.Ev Go.Proofs.Ytaomemhnjpemiaa.Ty Go.Proofs.YtaomemhnjpemiaaW.PrintWords Go.Proofs.YtaomemhnjpemiaaW.PrintLast Go.Proofs.YtaomemhnjpemiaaW.PrintMore
set_option linter.unusedVariables false
set_option linter.unusedSimpArgs false

section
variable {ops : Array Oper} {o : Oper} {a : Act} {Q : Exit → Act → World → Prop} {K : Act → World → Prop} {B : Nat} {w W : World} {L : List Asn} {F : Asn → List Asn}
theorem st_map_put (S : Aside0 (St B w W L)) (hw : Region.wanted o (yielded ops a.tmps) = true) (hN : o.dst = none) (m x v : Operand) (hop : o.op = Op.mapUpdate 50 m x v) (b n : Nat) (f : ByteArray → Option Nat) (hm : a.eval m = .map (some b)) (hs : Spot L (MapB b n f) F) (hn : n < maxLen) (s : ByteArray) (hx : a.eval x = .string s) (c : Nat) (hv : a.eval v = .map (some c)) (hsz : s.size ≤ maxLen)
  (hK : ∀ w1, Aside0 (St B w w1 (F (MapB b (n + 1) (fun y => if y = s then some c else f y)))) → K a w1) : if Region.wanted o (yielded ops a.tmps) = true then Oper.wp Try.prog o a W K Q else K (a.put none undef) W := by
 rw [if_pos hw]
 obtain ⟨w', hrun, r1, r2⟩ := (MapB.out (pred_at S.out hs)).put hn hsz c
 unfold Oper.wp
 simp [execOp, hop, hm, hx, hv, hrun, Result.andThen, Oper.upon, hN]
 exact hK w' (turn_block S hs r2.grown (MapB.foot_iff.2 rfl) (MapB.mk r1) (fun k hk => .inl (MapB.foot_iff.2 (MapB.foot_iff.1 hk))))
end
section
variable {ops : Array Oper} {rest : List Oper} {o : Oper} {a : Act} {Q : Exit → Act → World → Prop} {B : Nat} {w W : World} {L : List Asn} {F : Asn → List Asn}
theorem ev_map_del (S : Aside0 (St B w W L)) (hg : o.guard = none) (hN : o.dst = none) (m x : Operand) (hop : o.op = Op.call { callee := Callee.builtin Builtin.delete, args := #[m, x], argTypes := #[50, 9] }) (b n : Nat) (f : ByteArray → Option Nat) (hm : a.eval m = .map (some b)) (hs : Spot L (MapB b n f) F) (s : ByteArray) (hx : a.eval x = .string s) (hsz : s.size ≤ maxLen)
  (hK : ∀ w1, Aside0 (St B w w1 (F (MapB b n (fun y => if y = s then none else f y)))) → wpList Try.prog ops Q rest a w1) : wpList Try.prog ops Q (o :: rest) a W := by
 refine wpList_plain hg fun K' hK' => ?_
 obtain ⟨w', hrun, r1, r2⟩ := (MapB.out (pred_at S.out hs)).drop hsz o.type
 unfold Oper.wp
 simp [execOp, hop, resolve, invoke, builtin, hm, hx, hrun, Result.andThen, Oper.upon, hN]
 exact hK' _ _ (hK w' (turn_block S hs r2.grown (MapB.foot_iff.2 rfl) (MapB.mk r1) (fun k hk => .inl (MapB.foot_iff.2 (MapB.foot_iff.1 hk)))))
end
/-- a node's set has been laid and put in the map -/
structure Laid (w w' : World) (bm n : Nat) (f : ByteArray → Option Nat) (s : ByteArray) (c m : Nat) (T : List ByteArray) : Prop where
 grown : w.grownBy w' (some bm)
 map : MapAt w' bm (n + 1) (fun y => if y = s then some c else f y)
 new : w.heap.size ≤ c
 set : SetAt w' c m T
/-- a node has been taken out of the map -/
structure Gone (w w' : World) (bm n : Nat) (f : ByteArray → Option Nat) (s : ByteArray) : Prop where
 grown : w.grownBy w' (some bm)
 map : MapAt w' bm n (fun y => if y = s then none else f y)
theorem Gr.ne {w : World} {g bm n : Nat} {f : ByteArray → Option Nat} {G : List S73} (h : Gr w g bm n f G) : g ≠ bm := by
 intro e
 obtain ⟨es, c, h1⟩ := h.map.isMap
 have := h.blk
 rw [e, h1] at this
 cases this
theorem start_map {w : World} {bm n : Nat} {f : ByteArray → Option Nat} (h : MapAt w bm n f) : Aside0 (St 0 w w [MapB bm n f, Still w (fun k => ¬ k = bm)]) := St.only (K := fun k => k = bm) (MapB.mk h) (fun k hk => MapB.foot_iff.1 hk)
theorem lacks_yes {G : List S73} {xs : List ByteArray} (h : ¬ ∀ x ∈ xs, x ∈ names G) : xs.any (fun x => !decide (x ∈ names G)) = true := by
 rw [List.any_eq_true]
 refine Classical.byContradiction fun hn => h fun x hx => Classical.byContradiction fun hx' => hn ⟨x, hx, by simp [hx']⟩
theorem lacks_no {G : List S73} {xs : List ByteArray} (h : ∀ x ∈ xs, x ∈ names G) : xs.any (fun x => !decide (x ∈ names G)) = false := by
 cases hv : xs.any (fun x => !decide (x ∈ names G)) with
 | false => rfl
 | true =>
  obtain ⟨x, hx, h1⟩ := List.any_eq_true.1 hv
  simp [h x hx] at h1
/-- no set lies where the map lies -/
def Far (bm : Nat) (f : ByteArray → Option Nat) : Prop := ∀ s c, f s = some c → c ≠ bm
theorem gr_now {w W : World} {g bm n : Nat} {f : ByteArray → Option Nat} {G : List S73} {L : List Asn} {F F2 : Asn → List Asn} (h : Gr w g bm n f G) (hfar : Far bm f) (S : Aside0 (St 0 w W L)) (h1 : Spot L (MapB bm n f) F) (h2 : Spot L (Still w (fun k => ¬ k = bm)) F2) : Gr W g bm n f G :=
 ⟨h.good, (Still.at (pred_at S.out h2) h.ne h.lt).trans h.blk, MapB.out (pred_at S.out h1), h.cnt, h.dom, fun s c hs => by
  obtain ⟨m, h3, h4⟩ := h.set s c hs
  exact ⟨m, h3, still_set S h2 h4 (hfar s c hs)⟩, h.small, h.len⟩

set_option maxRecDepth 100000 in
set_option maxHeartbeats 8000000 in
theorem add_there (g bm n : Nat) (f : ByteArray → Option Nat) (G : List S73) (s : ByteArray) (A : Option Addr) (c : Nat) (xs : List ByteArray) (w : World) (h : Gr w g bm n f G) (hfar : Far bm f) (hs : s.size ≤ maxLen) (hC : Kd.C Kd.string w A xs.length xs) (hsz : ∀ x ∈ xs, x.size ≤ maxLen) (hl : xs.length ≤ 1000000) (hin : s ∈ names G) :
  Calls Try.prog 21 #[.pointer (some ⟨g, 0, none⟩), .string s, .slice A xs.length c] w fun z w' => z = .returned (.int .i64 9) ∧ Below w.heap.size w w' := by
 have HG := Aside0.mk h
 have HC := Aside0.mk hC
 have HZ := Aside0.mk hsz
 have HS := Aside0.mk hs
 have HV := Aside0.mk (decide_eq_true hin)
 have S := Aside0.mk (St.start w)
 clear h hC hsz hs hin
 go_enter Try.func21, Try.ntmps21
 go_wp2_with (first | (go_at_call 15; have c_ := has2_calls (HG.out.below S.out.below) s HS.out; rw [HV.out] at c_; (with_reducible refine c_.mono ?_); clear c_; rintro z_ w_ ⟨rfl, rfl⟩) | go_in)
 go_ret
 exact ⟨rfl, S.out.below⟩

set_option maxRecDepth 100000 in
set_option maxHeartbeats 8000000 in
theorem add_none (g bm n : Nat) (f : ByteArray → Option Nat) (G : List S73) (s : ByteArray) (A : Option Addr) (c : Nat) (xs : List ByteArray) (w : World) (h : Gr w g bm n f G) (hfar : Far bm f) (hs : s.size ≤ maxLen) (hC : Kd.C Kd.string w A xs.length xs) (hsz : ∀ x ∈ xs, x.size ≤ maxLen) (hl : xs.length ≤ 1000000) (hin : s ∉ names G) (hall : ¬ ∀ x ∈ xs, x ∈ names G) :
  Calls Try.prog 21 #[.pointer (some ⟨g, 0, none⟩), .string s, .slice A xs.length c] w fun z w' => z = .returned (.int .i64 8) ∧ Below w.heap.size w w' := by
 have HG := Aside0.mk h
 have HC := Aside0.mk hC
 have HZ := Aside0.mk hsz
 have HS := Aside0.mk hs
 have HV := Aside0.mk (decide_eq_false hin)
 have HW := Aside0.mk (lacks_yes hall)
 have S := Aside0.mk (St.start w)
 clear h hC hsz hs hin hall
 go_enter Try.func21, Try.ntmps21
 go_wp2_with (first | (go_at_call 15; have c_ := has2_calls (HG.out.below S.out.below) s HS.out; rw [HV.out] at c_; (with_reducible refine c_.mono ?_); clear c_; rintro z_ w_ ⟨rfl, rfl⟩) | (go_at_call 40; have c_ := lacks_calls g bm n f G A c xs _ (HG.out.below S.out.below) (Kd.C_below HC.out S.out.below) HZ.out; rw [HW.out] at c_; (with_reducible refine c_.mono ?_); clear c_; rintro z_ w_ ⟨rfl, hb_⟩; have S_ := Aside0.mk (S.out.keep hb_); clear hb_; clear S; have S := S_; clear S_) | go_in)
 go_ret
 exact ⟨rfl, S.out.below⟩

set_option maxRecDepth 100000 in
set_option maxHeartbeats 8000000 in
theorem add_ok (g bm n : Nat) (f : ByteArray → Option Nat) (G : List S73) (s : ByteArray) (A : Option Addr) (c : Nat) (xs : List ByteArray) (w : World) (h : Gr w g bm n f G) (hfar : Far bm f) (hs : s.size ≤ maxLen) (hCN : ∀ W', w.grownBy W' (some bm) → Kd.C Kd.string W' A xs.length xs) (hsz : ∀ x ∈ xs, x.size ≤ maxLen) (hl : xs.length ≤ 1000000) (hin : s ∉ names G) (hall : ∀ x ∈ xs, x ∈ names G) :
  Calls Try.prog 21 #[.pointer (some ⟨g, 0, none⟩), .string s, .slice A xs.length c] w fun z w' => z = .returned (.int .i64 0) ∧ ∃ b, Laid w w' bm n f s b xs.length xs := by
 have HG := Aside0.mk h
 have HCN := Aside0.mk hCN
 have HZ := Aside0.mk hsz
 have HS := Aside0.mk hs
 have HV := Aside0.mk (decide_eq_false hin)
 have HW := Aside0.mk (lacks_no hall)
 have HFAR := Aside0.mk hfar
 have HCL := Aside0.mk h.cell
 have HNE := Aside0.mk h.ne
 have S := start_map h.map
 clear h hCN hsz hs hin hall hfar
 go_enter Try.func21, Try.ntmps21
 go_wp2_with (first | (go_at_call 15; have c_ := has2_calls (gr_now HG.out HFAR.out S (by repeat (first | exact Spot.here _ _ | apply Spot.there)) (by repeat (first | exact Spot.here _ _ | apply Spot.there))) s HS.out; rw [HV.out] at c_; (with_reducible refine c_.mono ?_); clear c_; rintro z_ w_ ⟨rfl, rfl⟩) | (go_at_call 40; have c_ := lacks_calls g bm n f G A c xs _ (gr_now HG.out HFAR.out S (by repeat (first | exact Spot.here _ _ | apply Spot.there)) (by repeat (first | exact Spot.here _ _ | apply Spot.there))) (HCN.out _ (grown_of S (by repeat (first | exact Spot.here _ _ | apply Spot.there)))) HZ.out; rw [HW.out] at c_; (with_reducible refine c_.mono ?_); clear c_; rintro z_ w_ ⟨rfl, hb_⟩; have S_ := Aside0.mk (S.out.keep hb_); clear hb_; clear S; have S := S_; clear S_) | go_in)
 have S2 := Aside0.mk S.out.drew
 clear S
 refine start_ (n := 8) (S := fun w' => w'.cell? ⟨g, 0, none⟩ = some (.map (some bm))) (ds := [7]) (bt 8 0) (by kernel_rfl) rfl rfl ((still_cell S2 (by repeat (first | exact Spot.here _ _ | apply Spot.there)) HCL.out HNE.out)) (fun hHeld => ?_)
 refine pur 0 18 (bt 8 1) ?_
 refine pur 1 19 (bt 8 3) ?_
 refine pur 2 20 (bt 8 7) ?_
 refine pur 4 22 (bt 8 23) ?_
 refine pur 5 23 (bt 8 55) ?_
 refine tak 3 21 (bt 8 63) hHeld ?_
 refine on1 6 24 (bt 8 127) (fun K hK => ?_)
 refine goes_ Try.func43 (by kernel_rfl) rfl #[.slice A xs.length c] (by rfl) rfl rfl (by simp only [List.map_toArray, List.map_cons, List.map_nil]; rfl) ?_
 with_reducible refine (of_calls A c xs _ (HCN.out _ (grown_of S2 (by repeat (first | exact Spot.here _ _ | apply Spot.there)))) HZ.out hl).mono ?_
 rintro z9 w3 ⟨b, rfl, hbn, hbs, hbb⟩
 have S3 := Aside0.mk (St.add S2.out hbb (SetB b xs.length xs) (SetB.mk hbs) (fun k hk => by rw [SetB.foot_iff.1 hk]; exact hbn))
 have HBN := Aside0.mk (Nat.le_trans S2.out.below.size hbn)
 clear hbs hbb hbn
 refine ⟨_, rfl, ?_⟩
 refine hK.out _ _ ((still_cell S3 (by repeat (first | exact Spot.here _ _ | apply Spot.there)) HCL.out HNE.out)) (fun hHeld => ?_)
 clear hK K
 refine nrm ?_
 refine last_ (i := 7) (N := none) (bt 8 255) rfl rfl (by kernel_rfl) (by decide) (fun K hK => ?_)
 refine st_map_put S3 (by rfl) rfl _ _ _ rfl bm n f rfl (by repeat (first | exact Spot.here _ _ | apply Spot.there)) (by have := HG.out.cnt; unfold maxLen; omega) s rfl b rfl HS.out ?_
 intro w5 S5
 refine hK.out _ _ ?_
 clear hK K
 refine done_ (by kernel_rfl) ?_

 clear S2 S3
 have S := S5
 clear S5
 go_wp2
 go_ret
 exact ⟨rfl, b, grown_of S (by repeat (first | exact Spot.here _ _ | apply Spot.there)), MapB.out (pred_at S.out (a := MapB bm (n + 1) (fun y => if y = s then some b else f y)) (by repeat (first | exact Spot.here _ _ | apply Spot.there))), HBN.out, SetB.out (pred_at S.out (a := SetB b xs.length xs) (by repeat (first | exact Spot.here _ _ | apply Spot.there)))⟩
end Go.Proofs.Ytaomemhnjpemiaa.Mp
