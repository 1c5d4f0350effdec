/- Rows of texts of one's own: sorted, one taken out. -/
import Derived.Test.YtaomemhnjpemiaaGr
import Derived.Test.YtaomemhnjpemiaaLayD
import Derived.Sort.OwnSorted
import Derived.Test.YtaomemhnjpemiaaRe
namespace Go.Proofs.Ytaomemhnjpemiaa.Mp
open Go Go.Maps Go.RowKit Go.Proofs.Ytaomemhnjpemiaa.PB Go.Proofs.Ytaomemhnjpemiaa.Doc Go.Proofs.Ytaomemhnjpemiaa.Sep Go.Proofs.Ytaomemhnjpemiaa.Ev Go.Proofs.Ytaomemhnjpemiaa.Ty Go.Proofs.YtaomemhnjpemiaaW.PrintWords Go.Proofs.YtaomemhnjpemiaaW.PrintLast Go.Proofs.YtaomemhnjpemiaaW.PrintMore
set_option linter.unusedVariables false
set_option linter.unusedSimpArgs false

def ofB (xs : List ByteArray) : List (List UInt8) := xs.map (fun x => x.data.toList)
theorem ofB_len (xs : List ByteArray) : (ofB xs).length = xs.length := by simp [ofB]
theorem toB_ofB (xs : List ByteArray) : (ofB xs).map toB = xs := by
 unfold ofB
 rw [List.map_map]
 have : (toB ∘ fun x : ByteArray => x.data.toList) = id := funext fun x => toB_of x
 rw [this, List.map_id]
theorem enc_ofB (xs : List ByteArray) : (ofB xs).map encStr = xs.map Value.string := by
 unfold ofB
 rw [List.map_map]
 rfl
theorem reps_str {W : World} {base : Nat} {ok : Nat → Prop} {xs : List ByteArray} {inner : List Value} (h : Reps (Kd.string.M W base ok) Kd.string.sz xs inner) : inner = xs.map Value.string := by
 have h1 : inner.length = xs.length := by have := h.1; rw [show Kd.string.sz = 1 from rfl, Nat.mul_one] at this; exact this
 apply List.ext_getElem?
 intro j
 rw [List.getElem?_map]
 cases hx : xs[j]? with
 | none => rw [List.getElem?_eq_none_iff] at hx; simp; omega
 | some x =>
  have h2 : ((inner.drop (j * Kd.string.sz)).take Kd.string.sz) = [Value.string x] := h.2 j x hx
  rw [show Kd.string.sz = 1 from rfl, Nat.mul_one] at h2
  have h3 := congrArg (fun l : List Value => l[0]?) h2
  simpa [List.getElem?_take, List.getElem?_drop] using h3
theorem Own.str {W : World} {A : Option Addr} {c : Nat} {xs : List ByteArray} (h : (Own Kd.string 9 A c xs).pred W) : (A = none ∧ c = 0 ∧ xs = []) ∨ ∃ g cur, A = some ⟨g, 0, none⟩ ∧ W.heap[g]? = some (.cells cur 9 (0, 0)) ∧ xs.length ≤ c ∧ c ≤ maxLen ∧ cur.size = c * 1 ∧ cur.toList.take xs.length = xs.map Value.string := by
 obtain ⟨_, inner, ho, hr⟩ := Own.row h
 have hi := reps_str hr
 subst hi
 rcases ho.2 with ⟨hv, hx⟩ | ⟨g, cap, cur, hv, _, h1, h2, h3, h4, h5⟩
 ·injection hv with h6 h7 h8
  exact .inl ⟨h6, h8, by cases xs with | nil => rfl | cons _ _ => simp at hx⟩
 ·injection hv with h6 h7 h8
  subst h6 h8
  rw [show Kd.string.sz = 1 from rfl] at h4 h5
  rw [Nat.mul_one] at h5
  exact .inr ⟨g, cur, rfl, h1, h2, h3, h4, h5⟩
theorem own_put {W : World} {g c q : Nat} {xs ys : List ByteArray} {cur : Array Value} (hb : W.heap[g]? = some (.cells cur 9 (0, 0))) (h1 : xs.length ≤ c) (h2 : c ≤ maxLen) (h3 : cur.size = c * 1) (hl : ys.length = xs.length) :
  (Own Kd.string 9 (some ⟨g, 0, none⟩) c ys).pred (Sort.putRow encStr (Sort.ahead W q) g 0 (ofB ys).toArray) := by
 have h4 := ownsRow_sorted (w := W) (base := 0) (n := q) (os := #[]) (ss := ofB xs) (ts := ofB ys) (by simp [ofB_len, hl]) (Nat.zero_le _) hb (by rw [ofB_len]; exact h1) h2 h3
 rw [Sort.grow_empty, ofB_len, ← hl] at h4
 have h5 := row_of h4
 rw [toB_ofB] at h5
 exact Own.mk rfl h5
section
variable {B : Nat} {w W : World} {L : List Asn} {F : Asn → List Asn} {A : Option Addr} {c : Nat} {xs : List ByteArray}
theorem row_turn {W' : World} {a' : Asn} (S : Aside0 (St B w W L)) (hs : Spot L (Own Kd.string 9 A c xs) F) {g : Nat} (hA : A = some ⟨g, 0, none⟩) (hg : W.grownBy W' (some g)) (hp : a'.pred W') (hf : ∀ k, a'.foot k → k = g) : Aside0 (St B w W' (F a')) := by
 subst hA
 exact turn_block S hs hg (Own.foot_iff.2 rfl) hp (fun k hk => .inl (Own.foot_iff.2 (by rw [hf k hk]; rfl)))
/-- slices.Sort -/
theorem sort_ev (S : Aside0 (St B w W L)) (hs : Spot L (Own Kd.string 9 A c xs) F) (hl : xs.length ≤ 1000000) {ys : List ByteArray} (hy : ((ofB xs).mergeSort (fun x y => decide (x ≤ y))).map toB = ys) :
  Calls Try.prog 45 #[.slice A xs.length c] W fun z W' => z = .returned (.tuple #[]) ∧ Aside0 (St B w W' (F (Own Kd.string 9 A c ys))) ∧ ys.length = xs.length := by
 have hyl : ys.length = xs.length := by rw [← hy]; simp [ofB_len]
 have hO := pred_at S.out hs
 rcases Own.str hO with ⟨rfl, rfl, rfl⟩ | ⟨g, cur, rfl, h1, h2, h3, h4, h5⟩
 ·refine (AnyM.slices_Sort_string_none Try.sort45 none 0 W).mono ?_
  rintro z W' ⟨rfl, rfl⟩
  have : ys = [] := by cases ys with | nil => rfl | cons _ _ => simp at hyl
  subst this
  exact ⟨rfl, ⟨swap_at S.out hs (Own.nil _ _ _) (fun k hk => hk)⟩, rfl⟩
 ·have hH := holds_of_block (ss := ofB xs) h1 (by rw [ofB_len, enc_ofB]; exact h5)
  have hc := AnyM.slices_Sort_string Try.sort45 g 0 c (ofB xs) W hH (Array.getElem?_eq_some_iff.1 h1).1 (by rw [ofB_len]; omega)
  rw [ofB_len] at hc
  refine hc.mono ?_
  rintro z W' ⟨rfl, q, os, rfl⟩
  have e : ((ofB xs).mergeSort fun x y => decide (x ≤ y)) = ofB ys := by
   rw [← hy]
   unfold ofB
   rw [List.map_map]
   have : ((fun x : ByteArray => x.data.toList) ∘ toB) = id := funext fun l => by simp [toB]
   rw [this, List.map_id]
  rw [e]
  have h6 := ownsRow_sorted (w := W) (base := 0) (n := q) (os := os) (ss := ofB xs) (ts := ofB ys) (by simp [ofB_len, hyl]) (Nat.zero_le _) h1 (by rw [ofB_len]; exact h2) h3 h4
  rw [ofB_len, ← hyl] at h6
  have h7 := row_of h6
  rw [toB_ofB] at h7
  exact ⟨rfl, row_turn S hs rfl (grownBy_sorted _) (Own.mk rfl h7) (fun k hk => (Option.some.inj (Own.foot_iff.1 hk)).symm), hyl⟩
/-- slices.Delete of one element -/
theorem delete_ev (S : Aside0 (St B w W L)) (hs : Spot L (Own Kd.string 9 A c xs) F) {i : Nat} (hi : i < xs.length) {ys : List ByteArray} (hy : xs.take i ++ xs.drop (i + 1) = ys) :
  Calls Try.prog 37 #[.slice A xs.length c, .int .i64 i, .int .i64 ((i : Int) + 1)] W fun z W' => z = .returned (.slice A ys.length c) ∧ Aside0 (St B w W' (F (Own Kd.string 9 A c ys))) := by
 have hO := pred_at S.out hs
 have hyl : ys.length = xs.length - 1 := by rw [← hy]; simp; omega
 rcases Own.str hO with ⟨rfl, rfl, rfl⟩ | ⟨g, cur, rfl, h1, h2, h3, h4, h5⟩
 ·simp at hi
 ·have hH := holds_of_block (ss := ofB xs) h1 (by rw [ofB_len, enc_ofB]; exact h5)
  have hc := AnyG.slices_Delete_string Try.delete37 g 0 c i (i + 1) (ofB xs) W hH (by rw [ofB_len]; exact h2) (by unfold maxLen at h3; omega) (by omega) (by rw [ofB_len]; omega)
  rw [ofB_len, Int.natCast_add] at hc
  refine hc.mono ?_
  rintro z W' ⟨rfl, q, rfl⟩
  have e : (ofB xs).take i ++ (ofB xs).drop (i + 1) ++ List.replicate (i + 1 - i) [] = ofB (ys ++ [ByteArray.empty]) := by
   rw [← hy]
   have : i + 1 - i = 1 := by omega
   rw [this]
   unfold ofB
   simp [List.map_take, List.map_drop]
  rw [e]
  have h6 := own_put (q := q) (xs := xs) (ys := ys ++ [ByteArray.empty]) h1 h2 h3 h4 (by simp [hyl]; omega)
  have h7 := Own.take (m := ys.length) rfl h6 (by simp)
  rw [List.take_left'] at h7
  ·refine ⟨by rw [hyl]; congr 2; omega, row_turn S hs rfl ?_ h7 (fun k hk => (Option.some.inj (Own.foot_iff.1 hk)).symm)⟩
   have := grownBy_sorted (w := W) (g := g) (n := q) (os := #[]) (ofB (ys ++ [ByteArray.empty])).toArray
   rw [Sort.grow_empty] at this
   exact this
  ·rfl
end
end Go.Proofs.Ytaomemhnjpemiaa.Mp
/- The order: may a node come? -/
namespace Go.Proofs.Ytaomemhnjpemiaa.Mp
open Go Go.Maps Go.RowKit Go.Proofs.Ytaomemhnjpemiaa.PB Go.Proofs.Ytaomemhnjpemiaa.Doc Go.Proofs.Ytaomemhnjpemiaa.Sep Go.Proofs.Ytaomemhnjpemiaa.Ev Go.Proofs.Ytaomemhnjpemiaa.Ty Go.Proofs.YtaomemhnjpemiaaW.PrintWords Go.Proofs.YtaomemhnjpemiaaW.PrintLast Go.Proofs.YtaomemhnjpemiaaW.PrintMore
set_option linter.unusedVariables false
set_option linter.unusedSimpArgs false

set_option maxRecDepth 100000 in
set_option maxHeartbeats 8000000 in
theorem clo36_calls (g1 g2 g bm n cm k : Nat) (f : ByteArray → Option Nat) (G : List S73) (C : List ByteArray) (x : ByteArray) (w : World) (h : Gr w g bm n f G) (hx : x ∈ names G) (h1 : w.cell? ⟨g1, 0, none⟩ = some (.pointer (some ⟨g, 0, none⟩))) (h2 : w.cell? ⟨g2, 0, none⟩ = some (.map (some cm))) (h3 : SetAt w cm k C) :
  Calls Try.prog 36 #[.string x, .pointer (some ⟨g1, 0, none⟩), .pointer (some ⟨g2, 0, none⟩)] w fun z w' => z = .returned (.bool (decide (∀ d ∈ depsOf G x, d ∈ C))) ∧ Below w.heap.size w w' := by
 obtain ⟨c, m, hf, hm, hS⟩ := h.at hx
 have HCW := Aside0.mk hS.lt
 have HSM := Aside0.mk (h.small x hx)
 have HF := Aside0.mk hf
 have HS := Aside0.mk hS
 have HC := Aside0.mk h.cell
 have HMP := Aside0.mk h.map
 have C1 := Aside0.mk h1
 have C2 := Aside0.mk h2
 have C3 := Aside0.mk h3
 have S := Aside0.mk (St.start w)
 have HZ := Aside0.mk (show ∀ d ∈ depsOf G x, d.size ≤ maxLen from fun d hd => h.small d (h.good.sub hd))
 generalize hT : depsOf G x = T at *
 clear hf hS h h1 h2 h3 hx
 go_enter Try.func36, Try.ntmps36
 go_wp2_with (first | (refine ev_load1 ?_ rfl o25 rfl (old_ S C1.out) ?_; (first | exact want0 rfl | exact want1 rfl rfl rfl rfl)) | (refine ev_load1 ?_ rfl o60 rfl (old_ S C2.out) ?_; (first | exact want0 rfl | exact want1 rfl rfl rfl rfl)) | (refine ev_load1 ?_ rfl o50 rfl (old_ S HC.out) ?_; (first | exact want0 rfl | exact want1 rfl rfl rfl rfl)) | (at_lookup; refine wp_map_lookf _ rfl _ _ rfl bm n f rfl (HMP.out.of_block (S.out.below.block bm HMP.out.lt)) x rfl HSM.out (some c) HF.out ?_) | (at_range; refine ev_range S rfl _ rfl _ rfl c m T rfl (HS.out.of_block (S.out.below.block c HS.out.lt)) ?_; intro r w1 cnt S_; clear S; have S := S_; clear S_) | go_in)
 go_frame
 go_loopw [5] (fun v5 wr => ∃ (left : ByteArray → Bool) (cnt : Nat), wr.rangeLeft c r = cnt ∧ Aside0 (∀ d ∈ T, left d = false → d ∈ C) ∧ Aside0 (St w.heap.size w wr [ItA w.heap[c]? c r m T left cnt])) (fun _ wr => wr.rangeLeft c r)
 case atStart => exact ⟨_, cnt, left_is S (by repeat (first | exact Spot.here _ _ | apply Spot.there)) (S.out.below.block c HCW.out), ⟨fun d hd hl => by simp [hd] at hl⟩, S⟩
 case round =>
  clear S
  obtain ⟨left, cnt, hcnt, HI, S⟩ := hrel
  have hwc := Aside0.mk (S.out.below.block c HCW.out)
  go_wp2_with (first | (refine ev_load1 ?_ rfl o25 rfl (old_ S C1.out) ?_; (first | exact want0 rfl | exact want1 rfl rfl rfl rfl)) | (refine ev_load1 ?_ rfl o60 rfl (old_ S C2.out) ?_; (first | exact want0 rfl | exact want1 rfl rfl rfl rfl)) | (refine ev_load1 ?_ rfl o50 rfl (old_ S HC.out) ?_; (first | exact want0 rfl | exact want1 rfl rfl rfl rfl)) | (at_lookup; refine wp_map_lookf _ rfl _ _ rfl bm n f rfl (HMP.out.of_block (S.out.below.block bm HMP.out.lt)) x rfl HSM.out (some c) HF.out ?_) | (at_next; refine ev_next S rfl _ rfl w.heap[c]? c r m T left cnt rfl (by repeat (first | exact Spot.here _ _ | apply Spot.there)) hwc.out ?_ ?_) | go_in)
  ·intro hl0
   replace hl0 := Aside0.mk hl0
   go_wp2_with (first | (refine ev_load1 ?_ rfl o25 rfl (old_ S C1.out) ?_; (first | exact want0 rfl | exact want1 rfl rfl rfl rfl)) | (refine ev_load1 ?_ rfl o60 rfl (old_ S C2.out) ?_; (first | exact want0 rfl | exact want1 rfl rfl rfl rfl)) | (refine ev_load1 ?_ rfl o50 rfl (old_ S HC.out) ?_; (first | exact want0 rfl | exact want1 rfl rfl rfl rfl)) | (at_lookup; refine wp_set_look _ rfl _ _ rfl cm k C rfl (C3.out.of_block (S.out.below.block cm C3.out.lt)) d rfl hds ?_) | go_in)
   go_ret
   refine ⟨?_, S.out.below⟩
   rw [decide_eq_true]
   ·rfl
   ·exact fun d hd => HI.out d hd (hl0.out d (HZ.out d hd))
  ·intro d w1 cnt1 hds hdT hdl hlt hen S_
   have HDT := Aside0.mk hdT
   have HLT := Aside0.mk hlt
   clear hdT hdl hlt S hwc
   have S := S_
   clear S_
   have hwc := Aside0.mk (S.out.below.block c HCW.out)
   by_cases hM : d ∈ C
   ·have hM' : decide (d ∈ C) = true := decide_eq_true hM
    have HM := Aside0.mk hM
    clear hM
    go_wp2_with (first | (refine ev_load1 ?_ rfl o25 rfl (old_ S C1.out) ?_; (first | exact want0 rfl | exact want1 rfl rfl rfl rfl)) | (refine ev_load1 ?_ rfl o60 rfl (old_ S C2.out) ?_; (first | exact want0 rfl | exact want1 rfl rfl rfl rfl)) | (refine ev_load1 ?_ rfl o50 rfl (old_ S HC.out) ?_; (first | exact want0 rfl | exact want1 rfl rfl rfl rfl)) | (at_lookup; refine wp_set_look _ rfl _ _ rfl cm k C rfl (C3.out.of_block (S.out.below.block cm C3.out.lt)) d rfl hds ?_) | go_in)
    refine ⟨⟨fun z => left z && !decide (z = d), cnt1, left_is S (by repeat (first | exact Spot.here _ _ | apply Spot.there)) hwc.out, ⟨fun y hy hl => ?_⟩, S⟩, ?_⟩
    ·by_cases e : y = d
     ·exact e ▸ HM.out
     ·exact HI.out y hy (by simpa [e] using hl)
    ·rw [left_is (left := fun z => left z && !decide (z = d)) S (by repeat (first | exact Spot.here _ _ | apply Spot.there)) hwc.out, hcnt]
     exact HLT.out
   ·have hM' : decide (d ∈ C) = false := decide_eq_false hM
    have HM := Aside0.mk hM
    clear hM
    go_wp2_with (first | (refine ev_load1 ?_ rfl o25 rfl (old_ S C1.out) ?_; (first | exact want0 rfl | exact want1 rfl rfl rfl rfl)) | (refine ev_load1 ?_ rfl o60 rfl (old_ S C2.out) ?_; (first | exact want0 rfl | exact want1 rfl rfl rfl rfl)) | (refine ev_load1 ?_ rfl o50 rfl (old_ S HC.out) ?_; (first | exact want0 rfl | exact want1 rfl rfl rfl rfl)) | (at_lookup; refine wp_set_look _ rfl _ _ rfl cm k C rfl (C3.out.of_block (S.out.below.block cm C3.out.lt)) d rfl hds ?_) | go_in)
    go_ret
    refine ⟨?_, S.out.below⟩
    rw [decide_eq_false]
    ·rfl
    ·exact fun hall => HM.out (hall d HDT.out)
end Go.Proofs.Ytaomemhnjpemiaa.Mp
