/- New, Fork, Remove. -/
import Derived.Test.YtaomemhnjpemiaaTn
import Derived.Test.YtaomemhnjpemiaaRT
namespace Go.Proofs.Ytaomemhnjpemiaa.Mp
open Go Go.Maps Go.RowKit Go.Proofs.Ytaomemhnjpemiaa.PB Go.Proofs.Ytaomemhnjpemiaa.Doc Go.Proofs.Ytaomemhnjpemiaa.Sep Go.Proofs.Ytaomemhnjpemiaa.Ev Go.Proofs.Ytaomemhnjpemiaa.Ty Go.Proofs.YtaomemhnjpemiaaW.PrintWords Go.Proofs.YtaomemhnjpemiaaW.PrintLast Go.Proofs.YtaomemhnjpemiaaW.PrintMore
set_option linter.unusedVariables false
set_option linter.unusedSimpArgs false

section
variable {ops : Array Oper} {rest : List Oper} {o : Oper} {a : Act} {Q : Exit → Act → World → Prop} {B : Nat} {w W : World} {L : List Asn} {F : Asn → List Asn}
theorem add_own {W' : World} {A : Option Addr} {c : Nat} {xs : List ByteArray} {ok : Nat → Prop} (S : Aside0 (St B w W L)) (hr : Kd.R Kd.string 9 W' W.heap.size ok (.slice A xs.length c) xs) (hb : Below W.heap.size W W') : Aside0 (St B w W' (Own Kd.string 9 A c xs :: L)) := ⟨St.add S.out hb _ (Own.mk rfl hr) (Own.new hr)⟩
end
theorem good_nil : Doc.Good [] := ⟨List.Pairwise.nil, fun n hn => by cases hn⟩
set_option maxHeartbeats 4000000 in
theorem new_calls (w : World) : Calls Try.prog 10 #[] w fun z w' => ∃ g bm, z = .returned (.pointer (some ⟨g, 0, none⟩)) ∧ w.heap.size ≤ g ∧ w.heap.size ≤ bm ∧ Gr w' g bm 0 (fun _ => none) [] ∧ Below w.heap.size w w' := by
 have S := Aside0.mk (St.start w)
 go_enter Try.func10, Try.ntmps10
 go_wp2_with (first | (refine ev_make50 S rfl _ rfl rfl ?_; intro gm wm S_; clear S; have S := S_; clear S_) | ((with_reducible refine gate_dst (N := 3) rfl ?_); refine ev_boxs S ?_ 3 rfl rfl rfl ?_; (first | exact want0 rfl | exact want1 rfl rfl rfl rfl); intro g3 w3 S_; clear S; have S := S_; clear S_) | go_in)
 go_ret
 refine ⟨g3, gm, rfl, new_at S.out (a := Bk g3 #[.map (some gm)] 52) (by repeat (first | exact Spot.here _ _ | apply Spot.there)) g3 Bk.at, new_at S.out (a := MapB gm 0 (fun _ => none)) (by repeat (first | exact Spot.here _ _ | apply Spot.there)) gm (MapB.foot_iff.2 rfl), ⟨good_nil, Bk.heap (pred_at S.out (by repeat (first | exact Spot.here _ _ | apply Spot.there))), MapB.out (pred_at S.out (a := MapB gm 0 (fun _ => none)) (by repeat (first | exact Spot.here _ _ | apply Spot.there))), by omega, fun s => (by simp [names]), fun s c h => (by cases h), fun s hs => (by cases hs), (by simp)⟩, S.out.below⟩
theorem clone_calls (b n : Nat) (f : ByteArray → Option Nat) (w : World) (h : MapAt w b n f) : Calls Try.prog 44 #[.map (some b)] w fun z w' => z = .returned (.map (some w.heap.size)) ∧ MapAt w' w.heap.size n f ∧ Below w.heap.size w w' := by
 obtain ⟨D, h1, h2⟩ := h
 have hc := AnyW.maps_Clone_owns Try.clone44 9 Rm b n D w h1
 refine (show Calls Try.prog 44 #[.map (some b)] w _ from hc).mono ?_
 rintro z w' ⟨rfl, h3, _, h4⟩
 exact ⟨rfl, ⟨D, h3, h2⟩, h4⟩
theorem clone2 {b n : Nat} {f : ByteArray → Option Nat} {w W : World} {L : List Asn} (S : Aside0 (St w.heap.size w W L)) (h : MapAt W b n f) : Calls Try.prog 44 #[.map (some b)] W fun z W' => ∃ b2, z = .returned (.map (some b2)) ∧ w.heap.size ≤ b2 ∧ Aside0 (St w.heap.size w W' (MapB b2 n f :: L)) := by
 refine (clone_calls b n f W h).mono ?_
 rintro z w' ⟨rfl, h1, h2⟩
 exact ⟨_, rfl, S.out.below.size, ⟨St.add S.out h2 _ (MapB.mk h1) (fun k hk => by rw [MapB.foot_iff.1 hk]; exact Nat.le_refl _)⟩⟩
set_option maxHeartbeats 4000000 in
theorem fork_calls (g bm n : Nat) (f : ByteArray → Option Nat) (G : List S73) (w : World) (h : Gr w g bm n f G) : Calls Try.prog 20 #[.pointer (some ⟨g, 0, none⟩)] w fun z w' => ∃ g2 bm2, z = .returned (.pointer (some ⟨g2, 0, none⟩)) ∧ w.heap.size ≤ g2 ∧ w.heap.size ≤ bm2 ∧ Gr w' g2 bm2 n f G ∧ Below w.heap.size w w' := by
 have S := Aside0.mk (St.start w)
 have HG := Aside0.mk h
 have HC := Aside0.mk h.cell
 clear h
 go_enter Try.func20, Try.ntmps20
 go_wp2_with (first | (refine ev_load1 ?_ rfl o50 rfl (old_ S HC.out) ?_; (first | exact want0 rfl | exact want1 rfl rfl rfl rfl)) | (go_at_call 44; have c_ := clone2 S (HG.out.below S.out.below).map; (with_reducible refine c_.mono ?_); clear c_; rintro z_ w_ ⟨b2, rfl, hn_, S_⟩; have HN := Aside0.mk hn_; clear hn_; clear S; have S := S_; clear S_) | ((with_reducible refine gate_dst (N := 11) rfl ?_); refine ev_boxs S ?_ 11 rfl rfl rfl ?_; (first | exact want0 rfl | exact want1 rfl rfl rfl rfl); intro g11 w11 S_; clear S; have S := S_; clear S_) | go_in)
 go_ret
 have HM := HN.out
 have hG := HG.out.below S.out.below
 exact ⟨g11, b2, rfl, new_at S.out (a := Bk g11 #[.map (some b2)] 52) (by repeat (first | exact Spot.here _ _ | apply Spot.there)) g11 Bk.at, HM, ⟨hG.good, Bk.heap (pred_at S.out (by repeat (first | exact Spot.here _ _ | apply Spot.there))), MapB.out (pred_at S.out (a := MapB b2 n f) (by repeat (first | exact Spot.here _ _ | apply Spot.there))), hG.cnt, hG.dom, hG.set, hG.small, hG.len⟩, S.out.below⟩

set_option maxRecDepth 100000 in
set_option maxHeartbeats 8000000 in
theorem remove_none (g bm n : Nat) (f : ByteArray → Option Nat) (G : List S73) (s : ByteArray) (w : World) (h : Gr w g bm n f G) (hfar : Far bm f) (hs : s.size ≤ maxLen) (hin : s ∉ names G) :
  Calls Try.prog 22 #[.pointer (some ⟨g, 0, none⟩), .string s] w fun z w' => z = .returned (.int .i64 8) ∧ Below w.heap.size w w' := by
 have HG := Aside0.mk h
 have HS := Aside0.mk hs
 have HV := Aside0.mk (decide_eq_false hin)
 have S := Aside0.mk (St.start w)
 clear h hs hin
 go_enter Try.func22, Try.ntmps22
 go_wp2_with (first | (go_at_call 15; have c_ := has2_calls (HG.out.below S.out.below) s HS.out; rw [HV.out] at c_; (with_reducible refine c_.mono ?_); clear c_; rintro z_ w_ ⟨rfl, rfl⟩) | go_in)
 go_ret
 exact ⟨rfl, S.out.below⟩

set_option maxRecDepth 100000 in
set_option maxHeartbeats 8000000 in
theorem remove_used (g bm n : Nat) (f : ByteArray → Option Nat) (G : List S73) (s : ByteArray) (w : World) (h : Gr w g bm n f G) (hfar : Far bm f) (hs : s.size ≤ maxLen) (hin : s ∈ names G) (hd : 0 < (dependents G s).length) :
  Calls Try.prog 22 #[.pointer (some ⟨g, 0, none⟩), .string s] w fun z w' => z = .returned (.int .i64 26) ∧ Below w.heap.size w w' := by
 have HG := Aside0.mk h
 have HS := Aside0.mk hs
 have HV := Aside0.mk (decide_eq_true hin)
 have hd1 : decide (((dependents G s).length : Int) > 0) = true := decide_eq_true (by omega)
 have S := Aside0.mk (St.start w)
 clear h hs hin
 go_enter Try.func22, Try.ntmps22
 go_wp2_with (first | (go_at_call 15; have c_ := has2_calls (HG.out.below S.out.below) s HS.out; rw [HV.out] at c_; (with_reducible refine c_.mono ?_); clear c_; rintro z_ w_ ⟨rfl, rfl⟩) | (go_at_call 23; have c_ := dependents_calls g bm n f G s _ (HG.out.below S.out.below) HS.out; (with_reducible refine c_.mono ?_); clear c_; rintro z_ w_ ⟨A_, c_, rfl, hr_, hb_⟩; have S_ := add_own S hr_ hb_; clear hr_ hb_; clear S; have S := S_; clear S_) | go_in)
 go_ret
 exact ⟨rfl, S.out.below⟩

set_option maxRecDepth 100000 in
set_option maxHeartbeats 8000000 in
theorem remove_ok (g bm n : Nat) (f : ByteArray → Option Nat) (G : List S73) (s : ByteArray) (w : World) (h : Gr w g bm n f G) (hfar : Far bm f) (hs : s.size ≤ maxLen) (hin : s ∈ names G) (hd : dependents G s = []) :
  Calls Try.prog 22 #[.pointer (some ⟨g, 0, none⟩), .string s] w fun z w' => z = .returned (.int .i64 0) ∧ Gone w w' bm n f s := by
 have HG := Aside0.mk h
 have HS := Aside0.mk hs
 have HV := Aside0.mk (decide_eq_true hin)
 have HD := Aside0.mk hd
 have HFAR := Aside0.mk hfar
 have HCL := Aside0.mk h.cell
 have HNE := Aside0.mk h.ne
 have S := start_map h.map
 clear h hs hin hfar hd
 go_enter Try.func22, Try.ntmps22
 go_wp2_with (first | (go_at_call 15; have c_ := has2_calls (gr_now HG.out HFAR.out S (by repeat (first | exact Spot.here _ _ | apply Spot.there)) (by repeat (first | exact Spot.here _ _ | apply Spot.there))) s HS.out; rw [HV.out] at c_; (with_reducible refine c_.mono ?_); clear c_; rintro z_ w_ ⟨rfl, rfl⟩) | (go_at_call 23; have c_ := dependents_calls g bm n f G s _ (gr_now HG.out HFAR.out S (by repeat (first | exact Spot.here _ _ | apply Spot.there)) (by repeat (first | exact Spot.here _ _ | apply Spot.there))) HS.out; rw [HD.out] at c_; (with_reducible refine c_.mono ?_); clear c_; rintro z_ w_ ⟨A_, c_, rfl, hr_, hb_⟩; have S_ := add_own S hr_ hb_; clear hr_ hb_; clear S; have S := S_; clear S_) | (refine ev_load1 ?_ rfl o50 rfl (still_cell S (by repeat (first | exact Spot.here _ _ | apply Spot.there)) HCL.out HNE.out) ?_; (first | exact want0 rfl | exact want1 rfl rfl rfl rfl)) | (at_delete; refine ev_map_del S rfl rfl _ _ rfl _ _ _ rfl (by repeat (first | exact Spot.here _ _ | apply Spot.there)) s rfl HS.out ?_; intro w_ S_; clear S; have S := S_; clear S_) | go_in)
 go_ret
 exact ⟨rfl, grown_of S (by repeat (first | exact Spot.here _ _ | apply Spot.there)), MapB.out (pred_at S.out (a := MapB bm n (fun y => if y = s then none else f y)) (by repeat (first | exact Spot.here _ _ | apply Spot.there)))⟩
end Go.Proofs.Ytaomemhnjpemiaa.Mp
/- Each method in one sentence: what it tells, and the graph that it leaves; the document's likewise. -/
namespace Go.Proofs.Ytaomemhnjpemiaa.Mp
open Go Go.Maps Go.RowKit Go.Proofs.Ytaomemhnjpemiaa.PB Go.Proofs.Ytaomemhnjpemiaa.Doc Go.Proofs.Ytaomemhnjpemiaa.Sep Go.Proofs.Ytaomemhnjpemiaa.Ev Go.Proofs.Ytaomemhnjpemiaa.Ty Go.Proofs.YtaomemhnjpemiaaW.PrintWords Go.Proofs.YtaomemhnjpemiaaW.PrintLast Go.Proofs.YtaomemhnjpemiaaW.PrintMore
set_option linter.unusedVariables false
set_option linter.unusedSimpArgs false

/-- the answers, and what is left -/
def errAdd (G : List S73) (s : ByteArray) (xs : List ByteArray) : Int := if s ∈ names G then 9 else if ∀ x ∈ xs, x ∈ names G then 0 else 8
def aftAdd (G : List S73) (s : ByteArray) (xs : List ByteArray) : List S73 := if s ∈ names G then G else if ∀ x ∈ xs, x ∈ names G then with_ ⟨s, setOf xs⟩ G else G
def errRem (G : List S73) (s : ByteArray) : Int := if s ∈ names G then (if dependents G s = [] then 0 else 26) else 8
def aftRem (G : List S73) (s : ByteArray) : List S73 := if s ∈ names G then (if dependents G s = [] then without G s else G) else G
def errTurn (G : List S73) (s : ByteArray) (xs : List ByteArray) : Int := if s ∈ names G then (if ∀ x ∈ xs, x ∈ names G then (if xs.any (rounds_ G s) = true then 24 else 0) else 8) else 8
def aftTurn (G : List S73) (s : ByteArray) (xs : List ByteArray) : List S73 := if s ∈ names G then (if ∀ x ∈ xs, x ∈ names G then (if xs.any (rounds_ G s) = true then G else turn G s xs) else G) else G

/-- what a change leaves -/
structure Chg (w w' : World) (g bm n : Nat) (f : ByteArray → Option Nat) (G' : List S73) (n' : Nat) (f' : ByteArray → Option Nat) : Prop where
 grown : w.grownBy w' (some bm)
 gr : Gr w' g bm n' f' G'
 cnt : n' ≤ n + 1
 new : ∀ s c, f' s = some c → f s = some c ∨ w.heap.size ≤ c
section
variable {w w' : World} {g bm n : Nat} {f : ByteArray → Option Nat} {G : List S73} {s : ByteArray} {xs : List ByteArray}
theorem Gr.kept (h : Gr w g bm n f G) {b : Nat} (hg : w.grownBy w' (some b)) (h1 : g ≠ b) (h2 : bm ≠ b) (h3 : Far b f) : Gr w' g bm n f G :=
 ⟨h.good, (hg.block g h.lt (fun e => h1 (Option.some.inj e))).trans h.blk, h.map.of_block (hg.block bm h.map.lt (fun e => h2 (Option.some.inj e))), h.cnt, h.dom, fun s c hs => by
  obtain ⟨m, h4, h5⟩ := h.set s c hs
  exact ⟨m, h4, h5.of_block (hg.block c h5.lt (fun e => h3 s c hs (Option.some.inj e)))⟩, h.small, h.len⟩
theorem Chg.same (h : Gr w g bm n f G) (hb : Below w.heap.size w w') : Chg w w' g bm n f G n f :=
 ⟨⟨hb.os, hb.tape, hb.output, hb.size, fun k hk _ => hb.block k hk⟩, h.below hb, Nat.le_succ _, fun _ _ hs => .inl hs⟩
theorem Chg.far {n' : Nat} {f' : ByteArray → Option Nat} (h : Chg w w' g bm n f G n' f') (hfar : Far bm f) (hl : bm < w.heap.size) : Far bm f' := fun s c hs => by
 rcases h.new s c hs with h1 | h1
 ·exact hfar s c h1
 ·omega
theorem setOf_size (hs : ∀ x ∈ xs, x.size ≤ maxLen) : ∀ x ∈ setOf xs, x.size ≤ maxLen := fun x hx => hs x ((setOf_mem x xs).1 hx)
theorem laid_add (h : Gr w g bm n f G) (hfar : Far bm f) (hn : n < 1000000) (hl : G.length < 1000) (hs : s.size ≤ maxLen) (hin : s ∉ names G) (hall : ∀ x ∈ xs, x ∈ names G) (hx : xs.length ≤ 1000000) {b : Nat} (L : Laid w w' bm n f s b xs.length xs) :
  Chg w w' g bm n f (with_ ⟨s, setOf xs⟩ G) (n + 1) (fun y => if y = s then some b else f y) := by
 have hdep : ∀ y, depsOf (with_ ⟨s, setOf xs⟩ G) y = if s = y then setOf xs else depsOf G y := depsOf_with ⟨s, setOf xs⟩ G hin
 refine ⟨L.grown, ⟨?_, (L.grown.block g h.lt (fun e => h.ne (Option.some.inj e))).trans h.blk, L.map, by omega, fun y => ?_, fun y c hy => ?_, fun y hy => ?_, ?_⟩, Nat.le_refl _, fun y c hy => ?_⟩
 ·exact h.good.with_ ⟨s, setOf xs⟩ hin (setOf_up xs) (fun d hd => .inl (hall d ((setOf_mem d xs).1 hd)))
 ·rw [names_with]
  by_cases e : y = s
  ·subst e; simp [insAt_mem]
  ·simp only [if_neg e, h.dom y]
   simp [insAt_mem, e]
 ·rw [hdep y]
  by_cases e : y = s
  ·subst e
   simp only [if_true] at hy ⊢
   obtain rfl := Option.some.inj hy
   exact ⟨xs.length, hx, L.set.ext (fun x => (setOf_mem x xs).symm)⟩
  ·simp only [if_neg e] at hy
   rw [if_neg (fun e' => e e'.symm)]
   obtain ⟨m, h1, h2⟩ := h.set y c hy
   exact ⟨m, h1, h2.of_block (L.grown.block c h2.lt (fun e' => hfar y c hy (Option.some.inj e')))⟩
 ·rw [names_with, insAt_mem] at hy
  rcases hy with rfl | hy
  ·exact hs
  ·exact h.small y hy
 ·have := names_len (with_ ⟨s, setOf xs⟩ G)
  rw [names_with, insAt_len, names_len] at this
  omega
 ·by_cases e : y = s
  ·simp only [if_pos e] at hy
   exact .inr (Option.some.inj hy ▸ L.new)
  ·simp only [if_neg e] at hy
   exact .inl hy
theorem laid_turn (h : Gr w g bm n f G) (hfar : Far bm f) (hn : n < 1000000) (hin : s ∈ names G) (hall : ∀ x ∈ xs, x ∈ names G) (hx : xs.length ≤ 1000000) {b : Nat} (L : Laid w w' bm n f s b xs.length xs) :
  Chg w w' g bm n f (turn G s xs) (n + 1) (fun y => if y = s then some b else f y) := by
 have hN := names_turn h.good s hin xs
 refine ⟨L.grown, ⟨h.good.turn s hin xs hall, (L.grown.block g h.lt (fun e => h.ne (Option.some.inj e))).trans h.blk, L.map, by omega, fun y => ?_, fun y c hy => ?_, fun y hy => ?_, ?_⟩, Nat.le_refl _, fun y c hy => ?_⟩
 ·rw [hN]
  by_cases e : y = s
  ·subst e; simp [hin]
  ·simp only [if_neg e, h.dom y]
 ·rw [depsOf_turn]
  by_cases e : y = s
  ·subst e
   simp only [if_true] at hy ⊢
   obtain rfl := Option.some.inj hy
   exact ⟨xs.length, hx, L.set.ext (fun x => (setOf_mem x xs).symm)⟩
  ·simp only [if_neg e] at hy
   rw [if_neg (fun e' => e e'.symm)]
   obtain ⟨m, h1, h2⟩ := h.set y c hy
   exact ⟨m, h1, h2.of_block (L.grown.block c h2.lt (fun e' => hfar y c hy (Option.some.inj e')))⟩
 ·rw [hN] at hy; exact h.small y hy
 ·have h1 := names_len (turn G s xs)
  rw [hN, names_len] at h1
  have := h.len
  omega
 ·by_cases e : y = s
  ·simp only [if_pos e] at hy
   exact .inr (Option.some.inj hy ▸ L.new)
  ·simp only [if_neg e] at hy
   exact .inl hy
theorem gone_rem (h : Gr w g bm n f G) (hfar : Far bm f) (hin : s ∈ names G) (hd : dependents G s = []) (L : Gone w w' bm n f s) :
  Chg w w' g bm n f (without G s) n (fun y => if y = s then none else f y) := by
 refine ⟨L.grown, ⟨h.good.without s hd, (L.grown.block g h.lt (fun e => h.ne (Option.some.inj e))).trans h.blk, L.map, h.cnt, fun y => ?_, fun y c hy => ?_, fun y hy => ?_, ?_⟩, Nat.le_succ _, fun y c hy => ?_⟩
 ·rw [names_without]
  by_cases e : y = s
  ·subst e; simp
  ·simp only [if_neg e, h.dom y]
   simp [e]
 ·by_cases e : y = s
  ·simp only [if_pos e] at hy; cases hy
  ·simp only [if_neg e] at hy
   rw [depsOf_without, if_neg e]
   obtain ⟨m, h1, h2⟩ := h.set y c hy
   exact ⟨m, h1, h2.of_block (L.grown.block c h2.lt (fun e' => hfar y c hy (Option.some.inj e')))⟩
 ·rw [names_without] at hy; exact h.small y (List.mem_filter.1 hy).1
 ·have : (without G s).length ≤ G.length := List.length_filter_le _ _
  have := h.len
  omega
 ·by_cases e : y = s
  ·simp only [if_pos e] at hy; cases hy
  ·simp only [if_neg e] at hy; exact .inl hy
theorem kept_self (w : World) (b : Nat) : w.grownBy w (some b) := ⟨rfl, rfl, rfl, Nat.le_refl _, fun _ _ _ => rfl⟩
theorem add_all (A : Option Addr) (c : Nat) (h : Gr w g bm n f G) (hfar : Far bm f) (hn : n < 1000000) (hl : G.length < 1000) (hs : s.size ≤ maxLen) (hCN : ∀ W', w.grownBy W' (some bm) → Kd.C Kd.string W' A xs.length xs) (hsz : ∀ x ∈ xs, x.size ≤ maxLen) (hx : xs.length ≤ 1000000) :
  Calls Try.prog 21 #[.pointer (some ⟨g, 0, none⟩), .string s, .slice A xs.length c] w fun z w' => z = .returned (.int .i64 (errAdd G s xs)) ∧ ∃ n' f', Chg w w' g bm n f (aftAdd G s xs) n' f' := by
 unfold errAdd aftAdd
 by_cases hin : s ∈ names G
 ·rw [if_pos hin, if_pos hin]
  refine (add_there g bm n f G s A c xs w h hfar hs (hCN w (kept_self _ _)) hsz hx hin).mono ?_
  rintro z w' ⟨rfl, hb⟩
  exact ⟨rfl, _, _, Chg.same h hb⟩
 ·rw [if_neg hin, if_neg hin]
  by_cases hall : ∀ x ∈ xs, x ∈ names G
  ·rw [if_pos hall, if_pos hall]
   refine (add_ok g bm n f G s A c xs w h hfar hs hCN hsz hx hin hall).mono ?_
   rintro z w' ⟨rfl, b, L⟩
   exact ⟨rfl, _, _, laid_add h hfar hn hl hs hin hall hx L⟩
  ·rw [if_neg hall, if_neg hall]
   refine (add_none g bm n f G s A c xs w h hfar hs (hCN w (kept_self _ _)) hsz hx hin hall).mono ?_
   rintro z w' ⟨rfl, hb⟩
   exact ⟨rfl, _, _, Chg.same h hb⟩
theorem turn_all (A : Option Addr) (c : Nat) (h : Gr w g bm n f G) (hfar : Far bm f) (hn : n < 1000000) (hs : s.size ≤ maxLen) (hCN : ∀ W', w.grownBy W' (some bm) → Kd.C Kd.string W' A xs.length xs) (hsz : ∀ x ∈ xs, x.size ≤ maxLen) (hx : xs.length ≤ 1000000) :
  Calls Try.prog 17 #[.pointer (some ⟨g, 0, none⟩), .string s, .slice A xs.length c] w fun z w' => z = .returned (.int .i64 (errTurn G s xs)) ∧ ∃ n' f', Chg w w' g bm n f (aftTurn G s xs) n' f' := by
 unfold errTurn aftTurn
 by_cases hin : s ∈ names G
 ·rw [if_pos hin, if_pos hin]
  by_cases hall : ∀ x ∈ xs, x ∈ names G
  ·rw [if_pos hall, if_pos hall]
   cases hr : xs.any (rounds_ G s) with
   | true =>
    refine (turn_cycle g bm n f G s A c xs w h hfar hs (hCN w (kept_self _ _)) hsz hx hin hall hr).mono ?_
    rintro z w' ⟨rfl, hb⟩
    exact ⟨rfl, _, _, Chg.same h hb⟩
   | false =>
    refine (turn_ok g bm n f G s A c xs w h hfar hs hCN hsz hx hin hall hr).mono ?_
    rintro z w' ⟨rfl, b, L⟩
    exact ⟨rfl, _, _, laid_turn h hfar hn hin hall hx L⟩
  ·rw [if_neg hall, if_neg hall]
   refine (turn_none g bm n f G s A c xs w h hfar hs (hCN w (kept_self _ _)) hsz hx hin hall).mono ?_
   rintro z w' ⟨rfl, hb⟩
   exact ⟨rfl, _, _, Chg.same h hb⟩
 ·rw [if_neg hin, if_neg hin]
  refine (turn_no g bm n f G s A c xs w h hfar hs (hCN w (kept_self _ _)) hsz hx hin).mono ?_
  rintro z w' ⟨rfl, hb⟩
  exact ⟨rfl, _, _, Chg.same h hb⟩
theorem remove_all (h : Gr w g bm n f G) (hfar : Far bm f) (hs : s.size ≤ maxLen) :
  Calls Try.prog 22 #[.pointer (some ⟨g, 0, none⟩), .string s] w fun z w' => z = .returned (.int .i64 (errRem G s)) ∧ ∃ n' f', Chg w w' g bm n f (aftRem G s) n' f' := by
 unfold errRem aftRem
 by_cases hin : s ∈ names G
 ·rw [if_pos hin, if_pos hin]
  by_cases hd : dependents G s = []
  ·rw [if_pos hd, if_pos hd]
   refine (remove_ok g bm n f G s w h hfar hs hin hd).mono ?_
   rintro z w' ⟨rfl, L⟩
   exact ⟨rfl, _, _, gone_rem h hfar hin hd L⟩
  ·rw [if_neg hd, if_neg hd]
   refine (remove_used g bm n f G s w h hfar hs hin (List.length_pos_iff.2 hd)).mono ?_
   rintro z w' ⟨rfl, hb⟩
   exact ⟨rfl, _, _, Chg.same h hb⟩
 ·rw [if_neg hin, if_neg hin]
  refine (remove_none g bm n f G s w h hfar hs hin).mono ?_
  rintro z w' ⟨rfl, hb⟩
  exact ⟨rfl, _, _, Chg.same h hb⟩
variable {P : Nat → Prop} {A A1 : Option Addr} {c c1 : Nat}
/-- what the document's method hands back -/
def RefP (w : World) (P : Nat → Prop) (e : Int) (G' : List S73) (z : Ending) (w' : World) : Prop :=
 ∃ v, z = .returned (.tuple #[.agg #[v], .int .i64 e]) ∧ Kd.V k73 73 w' 0 (fun k => P k ∨ w.heap.size ≤ k) v G' ∧ Below w.heap.size w w'
theorem refP_same (hV : Kd.V k73 73 w w.heap.size P (.slice A G.length c) G) (e : Int) {z : Ending} {w' : World} (h : z = .returned (.tuple #[.agg #[.slice A G.length c], .int .i64 e]) ∧ Below w.heap.size w w') : RefP w P e G z w' :=
 ⟨_, h.1, Kd.V_mono (V_base (Kd.V_below hV h.2)) (fun _ hk => .inl hk), h.2⟩
theorem radd_all (hV : Kd.V k73 73 w w.heap.size P (.slice A G.length c) G) (hG : Doc.Good G) (hn : G.length ≤ 1000) (hX : Kd.C Kd.string w A1 xs.length xs) (hxc : xs.length ≤ c1) (hxl : xs.length ≤ 1000) :
  Calls Try.prog 27 #[.agg #[.slice A G.length c], .string s, .slice A1 xs.length c1] w fun z w' => RefP w P (errAdd G s xs) (aftAdd G s xs) z w' := by
 unfold errAdd aftAdd
 by_cases hin : s ∈ names G
 ·rw [if_pos hin, if_pos hin]
  exact (radd_there P A c G s A1 c1 xs w hV hG hn hX hxc hxl hin).mono fun z w' h => refP_same hV _ h
 ·rw [if_neg hin, if_neg hin]
  by_cases hall : ∀ x ∈ xs, x ∈ names G
  ·rw [if_pos hall, if_pos hall]
   exact (radd_ok P A c G s A1 c1 xs w hV hG hn hX hxc hxl hin hall).mono fun z w' h => h
  ·rw [if_neg hall, if_neg hall]
   exact (radd_none P A c G s A1 c1 xs w hV hG hn hX hxc hxl hin hall).mono fun z w' h => refP_same hV _ h
theorem rturn_all (hV : Kd.V k73 73 w w.heap.size P (.slice A G.length c) G) (hG : Doc.Good G) (hn : G.length ≤ 1000) (hX : Kd.C Kd.string w A1 xs.length xs) (hxc : xs.length ≤ c1) (hxl : xs.length ≤ 1000) :
  Calls Try.prog 26 #[.agg #[.slice A G.length c], .string s, .slice A1 xs.length c1] w fun z w' => RefP w P (errTurn G s xs) (aftTurn G s xs) z w' := by
 unfold errTurn aftTurn
 by_cases hin : s ∈ names G
 ·rw [if_pos hin, if_pos hin]
  by_cases hall : ∀ x ∈ xs, x ∈ names G
  ·rw [if_pos hall, if_pos hall]
   refine (rturn_go P A c G s A1 c1 xs w hV hG hn hX hxc hxl hxl hin hall).mono ?_
   rintro z w' (⟨h1, h2⟩ | ⟨h1, h2⟩)
   ·rw [h1]; exact refP_same hV _ h2
   ·rw [h1]; exact h2
  ·rw [if_neg hall, if_neg hall]
   exact (rturn_none P A c G s A1 c1 xs w hV hG hn hX hxc hxl hin hall).mono fun z w' h => refP_same hV _ h
 ·rw [if_neg hin, if_neg hin]
  exact (rturn_no P A c G s A1 c1 xs w hV hG hn hX hxc hxl hin).mono fun z w' h => refP_same hV _ h
theorem rremove_all (hV : Kd.V k73 73 w w.heap.size P (.slice A G.length c) G) (hG : Doc.Good G) (hn : G.length ≤ 1000) :
  Calls Try.prog 25 #[.agg #[.slice A G.length c], .string s] w fun z w' => RefP w P (errRem G s) (aftRem G s) z w' := by
 unfold errRem aftRem
 by_cases hin : s ∈ names G
 ·rw [if_pos hin, if_pos hin]
  by_cases hd : dependents G s = []
  ·rw [if_pos hd, if_pos hd]
   exact (rremove_ok P A c G s w hV hG hn hin hd).mono fun z w' h => h
  ·rw [if_neg hd, if_neg hd]
   exact (rremove_used P A c G s w hV hG hn hin (List.length_pos_iff.2 hd)).mono fun z w' h => refP_same hV _ h
 ·rw [if_neg hin, if_neg hin]
  exact (rremove_none P A c G s w hV hG hn hin).mono fun z w' h => refP_same hV _ h
end
end Go.Proofs.Ytaomemhnjpemiaa.Mp
