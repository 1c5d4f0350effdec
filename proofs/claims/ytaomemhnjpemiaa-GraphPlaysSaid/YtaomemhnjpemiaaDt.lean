/- Dependents: what stands on a node. -/
import Derived.Test.YtaomemhnjpemiaaOr
namespace Go.Proofs.Ytaomemhnjpemiaa.Mp
open Go Go.Maps Go.RowKit Go.Proofs.Ytaomemhnjpemiaa.PB Go.Proofs.Ytaomemhnjpemiaa.Doc Go.Proofs.Ytaomemhnjpemiaa.Sep Go.Proofs.Ytaomemhnjpemiaa.Ev Go.Proofs.Ytaomemhnjpemiaa.Ty Go.Proofs.YtaomemhnjpemiaaW.PrintWords Go.Proofs.YtaomemhnjpemiaaW.PrintLast Go.Proofs.YtaomemhnjpemiaaW.PrintMore
set_option linter.unusedVariables false
set_option linter.unusedSimpArgs false

/-- A range over the graph's map under way. -/
def MapIt (w : World) (b r n : Nat) (f : ByteArray → Option Nat) (left : ByteArray → Bool) (cnt : Nat) : Prop :=
 ∃ D leftL, w.ranges Try.prog 9 Rm b r n D leftL cnt ∧ (∀ s : ByteArray, Maps.has D (lit s) = (f s).isSome ∧ D.atKey (lit s) .nil = blk (f s)) ∧ (∀ s, leftL (lit s) = left s) ∧ ∀ s, left s = true → (f s).isSome = true
theorem MapIt.of_block {w w' : World} {b r n cnt : Nat} {f : ByteArray → Option Nat} {left : ByteArray → Bool} (h : MapIt w b r n f left cnt) (hb : w'.heap[b]? = w.heap[b]?) (hr : w'.heap[r]? = w.heap[r]?) : MapIt w' b r n f left cnt := by
 obtain ⟨D, leftL, ⟨es, clock, since, seen, c0, h1, h2, h3, h4, h5, h6⟩, h7⟩ := h
 exact ⟨D, leftL, ⟨es, clock, since, seen, c0, hb.trans h1, h2, h3, h4, hr.trans h5, h6⟩, h7⟩
theorem MapIt.lt {w : World} {b r n cnt : Nat} {f : ByteArray → Option Nat} {left : ByteArray → Bool} (h : MapIt w b r n f left cnt) : r < w.heap.size := let ⟨_, _, h1, _⟩ := h; h1.lt
def MitA (o : Option Obj) (b r n : Nat) (f : ByteArray → Option Nat) (left : ByteArray → Bool) (cnt : Nat) : Asn where
 foot k := k = r
 pred W := ∃ W1, MapIt W1 b r n f left cnt ∧ W1.heap[r]? = W.heap[r]? ∧ W1.heap[b]? = o
 move h hp := let ⟨W1, h1, h2, h3⟩ := hp; ⟨W1, h1, h2.trans (h r rfl).symm, h3⟩
 lt hp k hk := by
  obtain ⟨W1, h1, h2, h3⟩ := hp
  subst hk
  have h4 := h1.lt
  rw [Array.getElem?_eq_getElem h4] at h2
  exact (Array.getElem?_eq_some_iff.1 h2.symm).1
section
variable {W : World} {o : Option Obj} {b r n cnt k : Nat} {f : ByteArray → Option Nat} {left : ByteArray → Bool}
theorem MitA.out (h : (MitA o b r n f left cnt).pred W) (hb : W.heap[b]? = o) : MapIt W b r n f left cnt := by
 obtain ⟨W1, h1, h2, h3⟩ := h
 exact h1.of_block (hb.trans h3.symm) h2.symm
theorem MitA.mk (h : MapIt W b r n f left cnt) : (MitA (W.heap[b]?) b r n f left cnt).pred W := ⟨W, h, rfl, rfl⟩
theorem MitA.foot_iff : (MitA o b r n f left cnt).foot k ↔ k = r := Iff.rfl
end
attribute [irreducible] MitA
section
variable {ops : Array Oper} {rest : List Oper} {o : Oper} {a : Act} {Q : Exit → Act → World → Prop} {B : Nat} {w W : World} {L : List Asn} {F : Asn → List Asn}
theorem ev_rangeM (S : Aside0 (St B w W L)) (hg : o.guard = none) (N : Tmp) (hN : o.dst = some N) (m : Operand) (hop : o.op = Op.range 50 m) (b n : Nat) (f : ByteArray → Option Nat) (hm : a.eval m = .map (some b)) (hset : MapAt W b n f)
  (hK : ∀ g w1 cnt, Aside0 (St B w w1 (MitA (W.heap[b]?) b g n f (fun s => (f s).isSome) cnt :: L)) → wpList Try.prog ops Q rest (a.put (some N) (.pointer (some ⟨g, 0, none⟩))) w1) : wpList Try.prog ops Q (o :: rest) a W := by
 have hb := hset.lt
 obtain ⟨D, h1, h2⟩ := hset
 refine wpList_range_own W hg m 50 hop 9 60 law9 und50 Rm b n D hm h1 fun w1 r1 r2 r3 => ?_
 rw [hN]
 refine hK _ _ (Maps.size D) ⟨St.add S.out (below_grown r2) _ ?_ (fun k hk => by rw [MitA.foot_iff.1 hk]; exact Nat.le_refl _)⟩
 rw [show W.heap[b]? = w1.heap[b]? from (r2.block b hb (by simp)).symm]
 exact MitA.mk ⟨D, _, r1, h2, fun s => (h2 s).1, fun s hs => hs⟩
theorem ev_nextM (S : Aside0 (St B w W L)) (hg : o.guard = none) (it : Operand) (hop : o.op = Op.next it false) (ob : Option Obj) (b r n : Nat) (f : ByteArray → Option Nat) (left : ByteArray → Bool) (cnt : Nat) (hit : a.eval it = .pointer (some ⟨r, 0, none⟩))
  (hs : Spot L (MitA ob b r n f left cnt) F) (hb : W.heap[b]? = ob)
  (hDone : (∀ s, left s = false) → wpList Try.prog ops Q rest (a.put o.dst (.tuple #[.bool false])) W)
  (hMore : ∀ (x : ByteArray) c w1 cnt', x.size ≤ maxLen → f x = some c → left x = true → cnt' < cnt → (Instr.entry (.pointer (some ⟨r, 0, none⟩))).run Try.prog w1 = .ok (.tuple #[.string x, .map (some c)]) w1 → Aside0 (St B w w1 (F (MitA ob b r n f (fun z => left z && !decide (z = x)) cnt'))) →
   wpList Try.prog ops Q rest (a.put o.dst (.tuple #[.bool true, .string x, .map (some c)])) w1) : wpList Try.prog ops Q (o :: rest) a W := by
 obtain ⟨D, leftL, h1, h2, h3, h4⟩ := MitA.out (pred_at S.out hs) hb
 refine wpList_next_ranges W hg it hop 9 law9 Rm Value.string Value.map (fun key kl hk => by obtain ⟨x, hx, _⟩ := lit_of hk; exact ⟨x, hx⟩) (fun v y hv => ?_) b r n D leftL cnt hit h1 (fun _ hl => hDone fun s => (h3 s).symm.trans (hl _)) ?_
 ·unfold Rm at hv
  split at hv
  ·exact ⟨_, rfl⟩
  ·exact ⟨_, rfl⟩
  ·cases hv
 ·intro x c kl yd w1 cnt1 hkey hlk hv hat hrg hlt hgr hsz hen
  obtain ⟨x', ex, rfl, hx⟩ := lit_of hkey
  injection ex with ex
  subst ex
  have hleft : left x = true := (h3 x).symm.trans hlk
  have hT := h4 x hleft
  obtain ⟨c0, hc0⟩ := Option.isSome_iff_exists.1 hT
  have hc : c = some c0 := by
   have h5 := hat .nil
   rw [(h2 x).2, hc0] at h5
   have h6 : Rm (.map c) = some (blk (some c0), yd.2) := by rw [hv, h5]
   have := Rm_inv h6
   injection this
  subst hc
  have hne : r ≠ b := h1.ne
  refine hMore x c0 w1 cnt1 hx hc0 hleft hlt hen (turn_block S hs hgr (MitA.foot_iff.2 rfl) ?_ (fun k hk => .inl (MitA.foot_iff.2 (MitA.foot_iff.1 hk))))
  have hb1 : w1.heap[b]? = ob := (hgr.block b h1.owns.lt (fun e => hne (Option.some.inj e).symm)).trans hb
  rw [← hb1]
  refine MitA.mk ⟨D, _, hrg, h2, fun s => ?_, fun s hs' => h4 s ?_⟩
  ·show (leftL (lit s) && !(lit s).sameKey (lit x)) = _
   rw [h3 s]
   have : (lit s).sameKey (lit x) = decide (s = x) := by
    by_cases e : s = x
    ·subst e
     rw [decide_eq_true rfl]
     exact WideAt.sameKey_self trivial
    ·rw [decide_eq_false e]
     cases hk : (lit s).sameKey (lit x)
     ·rfl
     ·exact absurd (lit_inj (WideAt.sameKey_eq hk)) e
   rw [this]
  ·have := hs'
   simp only [Bool.and_eq_true] at this
   exact this.1
end
theorem wp_set_lookv {ops : Array Oper} {rest : List Oper} {o : Oper} {a : Act} {Q : Exit → Act → World → Prop} (w : World) (hg : o.guard = none) (m x : Operand) (hop : o.op = Op.lookup 60 m x false) (b n : Nat) (S : List ByteArray) (hm : a.eval m = .map (some b)) (h : SetAt w b n S) (s : ByteArray) (hx : a.eval x = .string s) (hs : s.size ≤ maxLen) (v : Bool) (hv : decide (s ∈ S) = v)
  (hK : wpList Try.prog ops Q rest (a.put o.dst (.bool v)) w) : wpList Try.prog ops Q (o :: rest) a w := by
 subst hv
 exact wp_set_look w hg m x hop b n S hm h s hx hs hK
theorem leftM_is {B : Nat} {w W : World} {L : List Asn} {F : Asn → List Asn} {o : Option Obj} {b r n cnt : Nat} {f : ByteArray → Option Nat} {left : ByteArray → Bool} (S : Aside0 (St B w W L)) (hs : Spot L (MitA o b r n f left cnt) F) (hb : W.heap[b]? = o) : W.rangeLeft b r = cnt := by
 obtain ⟨D, leftL, h1, _⟩ := MitA.out (pred_at S.out hs) hb
 exact h1.left_eq
/-- texts, sorted -/
theorem sortB_is {xs T : List ByteArray} (hn : xs.Nodup) (U : Up T) (hT : ∀ a, a ∈ xs ↔ a ∈ T) : ((ofB xs).mergeSort (fun x y => decide (x ≤ y))).map toB = T := by
 have hp := List.mergeSort_perm (ofB xs) (fun x y => decide (x ≤ y))
 have hnd : (ofB xs).Nodup := List.pairwise_map.2 (hn.imp fun {a b} hne e => hne (by rw [← toB_of a, e, toB_of b]))
 refine Up.ext ?_ U fun a => ?_
 ·refine List.pairwise_map.2 ?_
  have tr : ∀ a b c : List UInt8, decide (a ≤ b) = true → decide (b ≤ c) = true → decide (a ≤ c) = true := fun a b c h1 h2 => by simp only [decide_eq_true_eq] at *; exact List.le_trans h1 h2
  have tot : ∀ a b : List UInt8, (decide (a ≤ b) || decide (b ≤ a)) = true := fun a b => by simp only [Bool.or_eq_true, decide_eq_true_eq]; exact List.le_total a b
  have h1 := List.pairwise_mergeSort (le := fun x y : List UInt8 => decide (x ≤ y)) tr tot (ofB xs)
  have h2 : ((ofB xs).mergeSort (fun x y => decide (x ≤ y))).Nodup := hp.nodup_iff.2 hnd
  refine (h1.and h2).imp fun {x y} hxy => ?_
  show Op.bytesLess (toB x).toList (toB y).toList = true
  rw [toB_list, toB_list]
  exact le_bl (of_decide_eq_true hxy.1) hxy.2
 ·rw [List.mem_map, ← hT a]
  constructor
  ·rintro ⟨l, hl, rfl⟩
   obtain ⟨y, hy, rfl⟩ := List.mem_map.1 (hp.mem_iff.1 hl)
   rw [toB_of]; exact hy
  ·intro ha
   exact ⟨a.data.toList, hp.mem_iff.2 (List.mem_map.2 ⟨a, ha, rfl⟩), toB_of a⟩
theorem dependents_up {G : List S73} (hG : Doc.Good G) (a : ByteArray) : Up (dependents G a) := List.Pairwise.sublist ((List.filter_sublist).map _) hG.up
theorem dependents_iff {G : List S73} (hG : Doc.Good G) (a b : ByteArray) : b ∈ dependents G a ↔ b ∈ names G ∧ a ∈ depsOf G b := by
 rw [dependents_mem]
 constructor
 ·rintro ⟨n, h1, rfl, h2⟩
  exact ⟨List.mem_map.2 ⟨n, h1, rfl⟩, by rw [depsOf_at hG.up.nodup h1]; exact h2⟩
 ·rintro ⟨h1, h2⟩
  obtain ⟨n, h3, rfl⟩ := List.mem_map.1 h1
  exact ⟨n, h3, rfl, by rw [depsOf_at hG.up.nodup h3] at h2; exact h2⟩
/-- what has been gathered -/
structure Got (G : List S73) (a : ByteArray) (left : ByteArray → Bool) (out : List ByteArray) : Prop where
 nodup : out.Nodup
 iff : ∀ x, x ∈ out ↔ (x ∈ names G ∧ left x = false ∧ a ∈ depsOf G x)
theorem Got.len {G : List S73} {a : ByteArray} {left : ByteArray → Bool} {out : List ByteArray} (h : Got G a left out) : out.length ≤ G.length := by
 have := nodup_len h.nodup (fun x hx => ((h.iff x).1 hx).1)
 rwa [names_len] at this
theorem Got.skip {G : List S73} {a : ByteArray} {left : ByteArray → Bool} {out : List ByteArray} (h : Got G a left out) {x : ByteArray} (hx : a ∉ depsOf G x) : Got G a (fun z => left z && !decide (z = x)) out :=
 ⟨h.nodup, fun y => by
  rw [h.iff y]
  by_cases e : y = x
  ·subst e
   constructor
   ·rintro ⟨_, _, h3⟩; exact absurd h3 hx
   ·rintro ⟨_, _, h3⟩; exact absurd h3 hx
  ·simp [e]⟩
theorem Got.more {G : List S73} {a : ByteArray} {left : ByteArray → Bool} {out : List ByteArray} (h : Got G a left out) {x : ByteArray} (hl : left x = true) (hn : x ∈ names G) (hx : a ∈ depsOf G x) : Got G a (fun z => left z && !decide (z = x)) (out ++ [x]) := by
 have hnew : x ∉ out := fun hm => by have := ((h.iff x).1 hm).2.1; rw [hl] at this; cases this
 refine ⟨List.nodup_append.2 ⟨h.nodup, by simp, fun y hy z hz e => hnew (by rw [List.mem_singleton] at hz; rw [← hz, ← e]; exact hy)⟩, fun y => ?_⟩
 rw [List.mem_append, List.mem_singleton, h.iff y]
 by_cases e : y = x
 ·subst e; simp [hn, hx]
 ·simp [e]
theorem Got.start (G : List S73) (a : ByteArray) {left : ByteArray → Bool} (h : ∀ x ∈ names G, left x = true) : Got G a left [] :=
 ⟨List.nodup_nil, fun x => by
  constructor
  ·intro h'; cases h'
  ·rintro ⟨h1, h2, _⟩; rw [h x h1] at h2; cases h2⟩
theorem Got.done {G : List S73} (hG : Doc.Good G) {a : ByteArray} {left : ByteArray → Bool} {out : List ByteArray} (h : Got G a left out) (hl : ∀ x, left x = false) : ((ofB out).mergeSort (fun x y => decide (x ≤ y))).map toB = dependents G a :=
 sortB_is h.nodup (dependents_up hG a) (fun x => by rw [h.iff x, dependents_iff hG, hl]; simp)
set_option maxRecDepth 100000 in
set_option maxHeartbeats 16000000 in
theorem dependents_calls (g bm n : Nat) (f : ByteArray → Option Nat) (G : List S73) (s : ByteArray) (w : World) (h : Gr w g bm n f G) (hs : s.size ≤ maxLen) :
  Calls Try.prog 23 #[.pointer (some ⟨g, 0, none⟩), .string s] w fun z w' => ∃ A c, z = .returned (.slice A (dependents G s).length c) ∧ Kd.R Kd.string 9 w' w.heap.size (fun _ => True) (.slice A (dependents G s).length c) (dependents G s) ∧ Below w.heap.size w w' := by
 have HG := Aside0.mk h
 have S := Aside0.mk (St.start w)
 have HC := Aside0.mk h.cell
 have HMP := Aside0.mk h.map
 have HBW := Aside0.mk h.map.lt
 have HG0 := Aside0.mk (Got.start G s (left := fun x => (f x).isSome) (fun x hx => (h.dom x).trans (decide_eq_true hx)))
 clear h
 go_enter Try.func23, Try.ntmps23
 go_wp2_with (first | (refine ev_load1 ?_ rfl o50 rfl (old_ S HC.out) ?_; (first | exact want0 rfl | exact want1 rfl rfl rfl rfl)) | (at_range; refine ev_rangeM S rfl _ rfl _ rfl bm n f rfl (HMP.out.of_block (S.out.below.block bm HMP.out.lt)) ?_; intro r w1 cnt S_; clear S; have S := S_; clear S_) | go_in)
 go_frame
 have S1 := add_row S
 clear S
 have S := S1
 clear S1
 go_loopw [5, 6, 7] (fun v5 v6 v7 wr => ∃ (left : ByteArray → Bool) (cnt : Nat) (out : List ByteArray) (A : Option Addr) (c : Nat), v5 = .slice A out.length c ∧ wr.rangeLeft bm r = cnt ∧ Aside0 (Got G s left out) ∧ Aside0 (St w.heap.size w wr [Own Kd.string 9 A c out, MitA w.heap[bm]? bm r n f left cnt])) (fun _ _ _ wr => wr.rangeLeft bm r)
 case atStart => exact ⟨_, cnt, [], none, 0, rfl, leftM_is S (by repeat (first | exact Spot.here _ _ | apply Spot.there)) (S.out.below.block bm HBW.out), HG0, S⟩
 case round =>
  clear S
  obtain ⟨left, cnt, out, A, c, rfl, hcnt, HI, S⟩ := hrel
  have hwc := Aside0.mk (S.out.below.block bm HBW.out)
  go_wp2_with (first | (refine ev_load1 ?_ rfl o50 rfl (old_ S HC.out) ?_; (first | exact want0 rfl | exact want1 rfl rfl rfl rfl)) | (at_next; refine ev_nextM S rfl _ rfl w.heap[bm]? bm r n f left cnt rfl (by repeat (first | exact Spot.here _ _ | apply Spot.there)) hwc.out ?_ ?_) | go_in)
  ·intro hl0
   replace hl0 := Aside0.mk hl0
   have HOL := Aside0.mk (HI.out.len)
   have HYS := Aside0.mk (HI.out.done HG.out.good hl0.out)
   go_wp2_with (first | (go_at_call 45; have c_ := sort_ev S (by repeat (first | exact Spot.here _ _ | apply Spot.there)) (by have := HOL.out; have := HG.out.len; omega) HYS.out; (with_reducible refine c_.mono ?_); clear c_; rintro z_ w_ ⟨rfl, S_, hyl⟩; clear S; have S := S_; clear S_) | go_in)
   go_ret
   exact ⟨A, c, by rw [hyl]; rfl, Kd.R_mono (own_new S (by repeat (first | exact Spot.here _ _ | apply Spot.there))) (fun _ _ => trivial), S.out.below⟩
  ·intro x c0 w1 cnt1 hxs hfx hlx hlt hen S_
   have HLX := Aside0.mk hlx
   have HLT := Aside0.mk hlt
   have HN := Aside0.mk (show x ∈ names G by have := HG.out.dom x; rw [hfx] at this; exact of_decide_eq_true this.symm)
   obtain ⟨m0, hm0, hS0⟩ := HG.out.set x c0 hfx
   have HS0 := Aside0.mk hS0
   have HOL := Aside0.mk (HI.out.len)
   clear hlx hlt S hwc hfx hS0
   have S := S_
   clear S_
   have hwc := Aside0.mk (S.out.below.block bm HBW.out)
   by_cases hM : s ∈ depsOf G x
   ·have hM' : decide (s ∈ depsOf G x) = true := decide_eq_true hM
    have HM := Aside0.mk hM
    have HV := Aside0.mk hM'
    clear hM hM'
    go_wp2_with (first | (at_lookup; refine wp_set_lookv _ rfl _ _ rfl c0 m0 (depsOf G x) rfl (HS0.out.of_block (S.out.below.block c0 HS0.out.lt)) s rfl hs true HV.out ?_) | ((with_reducible refine gate_dst (N := 25) rfl ?_); refine ev_lit (enc := Value.string) (h1 := fun _ => rfl) (e := 9) ([x] : List ByteArray) S rfl 25 rfl ?hrun (by simp) ?_; (case hrun => first | (go_simp; done) | (go_simp; rfl)); intro A25 c25 w_ S_; clear S; have S := S_; clear S_) | (((with_reducible refine gate_builtin (b := .append) (xs := #[.tmp 23, .tmp 25]) rfl ?_); at_builtin; refine ev_rows (enc := Value.string) (h1 := fun _ => rfl) (e := 9) ByteArray.empty (.tmp 23) (.tmp 25) 32 (.string ⟨#[]⟩) 16 (n := out.length) (xs := out) (ys := [x]) S rfl rfl Try.underlying32 info9 rfl (by decide) rfl rfl (by repeat (first | exact Spot.here _ _ | apply Spot.there)) rfl (Own.reads (pred_at S.out (a := Own Kd.string 9 A25 c25 [x]) (by repeat (first | exact Spot.here _ _ | apply Spot.there)))) (by have := HOL.out; have := HG.out.len; simp; omega) ?_; intro A26 c26 w_ S_; clear S; have S := S_; clear S_)) | go_in)
    have hwc := Aside0.mk (S.out.below.block bm HBW.out)
    refine ⟨⟨fun z => left z && !decide (z = x), cnt1, out ++ [x], A26, c26, by simp, leftM_is S (by repeat (first | exact Spot.here _ _ | apply Spot.there)) hwc.out, ⟨HI.out.more HLX.out HN.out HM.out⟩, ⟨S.out.drop (List.sublist_cons_self _ _)⟩⟩, ?_⟩
    rw [leftM_is (left := fun z => left z && !decide (z = x)) S (by repeat (first | exact Spot.here _ _ | apply Spot.there)) hwc.out, hcnt]
    exact HLT.out
   ·have hM' : decide (s ∈ depsOf G x) = false := decide_eq_false hM
    have HM := Aside0.mk hM
    have HV := Aside0.mk hM'
    clear hM hM'
    go_wp2_with (first | (at_lookup; refine wp_set_lookv _ rfl _ _ rfl c0 m0 (depsOf G x) rfl (HS0.out.of_block (S.out.below.block c0 HS0.out.lt)) s rfl hs false HV.out ?_) | ((with_reducible refine gate_dst (N := 25) rfl ?_); refine ev_lit (enc := Value.string) (h1 := fun _ => rfl) (e := 9) ([x] : List ByteArray) S rfl 25 rfl ?hrun (by simp) ?_; (case hrun => first | (go_simp; done) | (go_simp; rfl)); intro A25 c25 w_ S_; clear S; have S := S_; clear S_) | (((with_reducible refine gate_builtin (b := .append) (xs := #[.tmp 23, .tmp 25]) rfl ?_); at_builtin; refine ev_rows (enc := Value.string) (h1 := fun _ => rfl) (e := 9) ByteArray.empty (.tmp 23) (.tmp 25) 32 (.string ⟨#[]⟩) 16 (n := out.length) (xs := out) (ys := [x]) S rfl rfl Try.underlying32 info9 rfl (by decide) rfl rfl (by repeat (first | exact Spot.here _ _ | apply Spot.there)) rfl (Own.reads (pred_at S.out (a := Own Kd.string 9 A25 c25 [x]) (by repeat (first | exact Spot.here _ _ | apply Spot.there)))) (by have := HOL.out; have := HG.out.len; simp; omega) ?_; intro A26 c26 w_ S_; clear S; have S := S_; clear S_)) | go_in)
    refine ⟨⟨.slice A out.length c, .string x, .map (some c0), _, _, _, _, _, _, _, .bool false, _, _, _, _, ⟨fun z => left z && !decide (z = x), cnt1, out, A, c, rfl, leftM_is S (by repeat (first | exact Spot.here _ _ | apply Spot.there)) hwc.out, ⟨HI.out.skip HM.out⟩, S⟩, rfl⟩, ?_⟩
    rw [leftM_is (left := fun z => left z && !decide (z = x)) S (by repeat (first | exact Spot.here _ _ | apply Spot.there)) hwc.out, hcnt]
    exact HLT.out
end Go.Proofs.Ytaomemhnjpemiaa.Mp
