/- Reaches: the search in depth. -/
import Derived.Test.YtaomemhnjpemiaaZIx
namespace Go.Proofs.Ytaomemhnjpemiaa.Mp
open Go Go.Maps Go.RowKit Go.Proofs.Ytaomemhnjpemiaa.PB Go.Proofs.Ytaomemhnjpemiaa.Doc Go.Proofs.Ytaomemhnjpemiaa.Sep Go.Proofs.Ytaomemhnjpemiaa.Ev Go.Proofs.Ytaomemhnjpemiaa.Ty Go.Proofs.YtaomemhnjpemiaaW.PrintWords Go.Proofs.YtaomemhnjpemiaaW.PrintLast Go.Proofs.YtaomemhnjpemiaaW.PrintMore
set_option linter.unusedVariables false
set_option linter.unusedSimpArgs false

/-- how many nodes have not been met -/
def unmet (G : List S73) (M : List ByteArray) : Nat := ((names G).filter (fun x => !decide (x ∈ M))).length
theorem unmet_less {G : List S73} {M : List ByteArray} {d : ByteArray} (hd : d ∈ names G) (hM : d ∉ M) : unmet G (M ++ [d]) < unmet G M := by
 unfold unmet
 have e : (names G).filter (fun x => !decide (x ∈ M ++ [d])) = ((names G).filter (fun x => !decide (x ∈ M))).filter (fun x => !decide (x = d)) := by
  rw [List.filter_filter]
  refine List.filter_congr fun x _ => ?_
  by_cases h1 : x ∈ M <;> by_cases h2 : x = d <;> simp [h1, h2]
 rw [e]
 have hmem : d ∈ (names G).filter (fun x => !decide (x ∈ M)) := List.mem_filter.2 ⟨hd, by simp [hM]⟩
 refine Nat.lt_of_le_of_ne (List.length_filter_le _ _) fun h => ?_
 have := (List.filter_eq_self.1 (List.filter_sublist.eq_of_length h)) d hmem
 simp at this
theorem left_is {B : Nat} {w W : World} {L : List Asn} {F : Asn → List Asn} {o : Option Obj} {b r n cnt : Nat} {T : List ByteArray} {left : ByteArray → Bool} (S : Aside0 (St B w W L)) (hs : Spot L (ItA o b r n T left cnt) F) (hb : W.heap[b]? = o) : W.rangeLeft b r = cnt := by
 obtain ⟨D, leftL, h1, _⟩ := ItA.out (pred_at S.out hs) hb
 exact h1.left_eq
theorem Missing.cong {g : List S73} {b : ByteArray} {S S' M M' : ByteArray → Prop} (h : Missing g b S M M') (hs : ∀ x, S' x → S x) : Missing g b S' M M' := ⟨h.sub, fun d hd => h.deps d (hs d hd), h.shut⟩
theorem unmet_mono {G : List S73} {M M' : List ByteArray} (h : ∀ x, x ∈ M → x ∈ M') : unmet G M' ≤ unmet G M := by
 unfold unmet
 have e : (names G).filter (fun x => !decide (x ∈ M')) = ((names G).filter (fun x => !decide (x ∈ M))).filter (fun x => !decide (x ∈ M')) := by
  rw [List.filter_filter]
  refine List.filter_congr fun x _ => ?_
  by_cases h1 : x ∈ M
  ·simp [h1, h x h1]
  ·simp [h1]
 rw [e]
 exact List.length_filter_le _ _
theorem Missed.app {g : List S73} {b n d : ByteArray} {M2 : List ByteArray} {M' : ByteArray → Prop} (h : Missed g b n (fun x => x ∈ M2 ++ [d]) M') : Missed g b n (fun x => x ∈ M2 ∨ x = d) M' :=
 ⟨fun x hx => h.sub x (by simpa using hx), h.deps, fun x hx hn => h.shut x hx (fun hm => hn (by simpa using hm))⟩
/-- what the search leaves -/
def Found (G : List S73) (a b : ByteArray) (mb : Nat) (k : Nat) (M : List ByteArray) (W : World) (z : Ending) (W' : World) : Prop :=
 ∃ (r : Bool) (k' : Nat) (M' : List ByteArray), z = .returned (.bool r) ∧ SetAt W' mb k' M' ∧ W.grownBy W' (some mb) ∧ k' + unmet G M' ≤ k + unmet G M ∧ (r = true → Path G a b) ∧ (r = false → Missed G b a (fun x => x ∈ M) (fun x => x ∈ M'))
set_option maxRecDepth 100000 in
set_option maxHeartbeats 16000000 in
theorem search_calls (w0 : World) (g bm n : Nat) (f : ByteArray → Option Nat) (G : List S73) (h0 : Gr w0 g bm n f G) (b : ByteArray) (g3 b5 m7 l8 mb : Nat) (hmb : w0.heap.size ≤ mb) (h3 : g3 ≠ mb) (h5 : b5 ≠ mb) (h7 : m7 ≠ mb) (h8 : l8 ≠ mb) :
  ∀ (N : Nat) (a : ByteArray) (k : Nat) (M : List ByteArray) (W : World), unmet G M ≤ N → a ∈ names G → Below w0.heap.size w0 W → W.cell? ⟨g3, 0, none⟩ = some (.pointer (some ⟨g, 0, none⟩)) → W.cell? ⟨b5, 0, none⟩ = some (.string b) →
   W.cell? ⟨m7, 0, none⟩ = some (.map (some mb)) → W.cell? ⟨l8, 0, none⟩ = some (.func (.func 39) #[] #[.pointer (some ⟨g3, 0, none⟩), .pointer (some ⟨b5, 0, none⟩), .pointer (some ⟨m7, 0, none⟩), .pointer (some ⟨l8, 0, none⟩)]) → SetAt W mb k M → k + unmet G M ≤ 1000000 →
   Calls Try.prog 39 #[.string a, .pointer (some ⟨g3, 0, none⟩), .pointer (some ⟨b5, 0, none⟩), .pointer (some ⟨m7, 0, none⟩), .pointer (some ⟨l8, 0, none⟩)] W fun z W' => Found G a b mb k M W z W' := by
 intro N
 induction N using Nat.strongRecOn with
 | _ N IH =>
 intro a k M W hN ha hB c3 c5 c7 c8 hM hk
 have HG := Aside0.mk (h0.below hB)
 obtain ⟨c, m, hf, hm, hS⟩ := HG.out.at ha
 have hcw : c < w0.heap.size := by
  obtain ⟨c', m', hf', _, hS'⟩ := h0.at ha
  rw [hf] at hf'
  exact (Option.some.inj hf') ▸ hS'.lt
 have hcm : c ≠ mb := by omega
 have hgm : g ≠ mb := by have := h0.lt; omega
 have hbm : bm ≠ mb := by have := h0.map.lt; omega
 have HSM := Aside0.mk (h0.small a ha)
 have HD := Aside0.mk (show ∀ d ∈ depsOf G a, d ∈ names G from fun d hd => h0.good.sub hd)
 have HDS := Aside0.mk (show ∀ d ∈ depsOf G a, d.size ≤ maxLen from fun d hd => h0.small d (h0.good.sub hd))
 have HN := Aside0.mk hN
 have HK := Aside0.mk hk
 have HB := Aside0.mk hB
 have HF := Aside0.mk hf
 have HS := Aside0.mk hS
 have HC := Aside0.mk HG.out.cell
 have HMP := Aside0.mk HG.out.map
 have C3 := Aside0.mk c3
 have C5 := Aside0.mk c5
 have C7 := Aside0.mk c7
 have C8 := Aside0.mk c8
 have IH' := Aside0.mk IH
 have S := St.only (K := fun k => k = mb) (SetB.mk hM) (fun k hk => SetB.foot_iff.1 hk)
 have HMS := Aside0.mk (Missing.start G b (fun x => x ∈ M))
 clear hN hk hB hf hS c3 c5 c7 c8 hM ha IH
 go_enter Try.func39, Try.ntmps39
 go_wp2_with (first | (refine ev_load1 ?_ rfl o25 rfl (still_cell S (by repeat (first | exact Spot.here _ _ | apply Spot.there)) C3.out h3) ?_; (first | exact want0 rfl | exact want1 rfl rfl rfl rfl)) | (refine ev_load1 ?_ rfl o9 rfl (still_cell S (by repeat (first | exact Spot.here _ _ | apply Spot.there)) C5.out h5) ?_; (first | exact want0 rfl | exact want1 rfl rfl rfl rfl)) | (refine ev_load1 ?_ rfl o60 rfl (still_cell S (by repeat (first | exact Spot.here _ _ | apply Spot.there)) C7.out h7) ?_; (first | exact want0 rfl | exact want1 rfl rfl rfl rfl)) | (refine ev_load1 ?_ rfl o40 rfl (still_cell S (by repeat (first | exact Spot.here _ _ | apply Spot.there)) C8.out h8) ?_; (first | exact want0 rfl | exact want1 rfl rfl rfl rfl)) | (refine ev_load1 ?_ rfl o50 rfl (still_cell S (by repeat (first | exact Spot.here _ _ | apply Spot.there)) HC.out hgm) ?_; (first | exact want0 rfl | exact want1 rfl rfl rfl rfl)) | (at_lookup; refine wp_map_lookf _ rfl _ _ rfl bm n f rfl (still_map S (by repeat (first | exact Spot.here _ _ | apply Spot.there)) HMP.out hbm) a rfl HSM.out (some c) HF.out ?_) | (at_range; refine ev_range S rfl _ rfl _ rfl c m (depsOf G a) rfl (still_set S (by repeat (first | exact Spot.here _ _ | apply Spot.there)) HS.out hcm) ?_; intro r w1 cnt S_; clear S; have S := S_; clear S_) | go_in)
 go_frame
 go_loopw [7] (fun v7 wr => ∃ (left : ByteArray → Bool) (cnt k2 : Nat) (M2 : List ByteArray), wr.rangeLeft c r = cnt ∧ k2 + unmet G M2 ≤ k + unmet G M ∧ unmet G M2 ≤ unmet G M ∧ Aside0 (Missing G b (fun x => x ∈ depsOf G a ∧ left x = false) (fun x => x ∈ M) (fun x => x ∈ M2)) ∧ Aside0 (St 0 W wr [ItA W.heap[c]? c r m (depsOf G a) left cnt, SetB mb k2 M2, Still W (fun k => ¬ k = mb)])) (fun _ wr => wr.rangeLeft c r)
 case atStart => exact ⟨_, cnt, k, M, left_is S (by repeat (first | exact Spot.here _ _ | apply Spot.there)) (Still.at (pred_at (a := Still W (fun k => ¬ k = mb)) S.out (by repeat (first | exact Spot.here _ _ | apply Spot.there))) hcm (Nat.lt_of_lt_of_le hcw HB.out.size)), Nat.le_refl _, Nat.le_refl _, ⟨Missing.cong HMS.out (fun x hx => by have h1 := hx.1; have h2 := hx.2; simp [h1] at h2)⟩, S⟩
 case round =>
  clear S HMS
  obtain ⟨left, cnt, k2, M2, hcnt, hk2, hu2, HMS, S⟩ := hrel
  have hwc := Aside0.mk (Still.at (pred_at (a := Still W (fun k => ¬ k = mb)) S.out (by repeat (first | exact Spot.here _ _ | apply Spot.there))) hcm (Nat.lt_of_lt_of_le hcw HB.out.size))
  go_wp2_with (first | (refine ev_load1 ?_ rfl o25 rfl (still_cell S (by repeat (first | exact Spot.here _ _ | apply Spot.there)) C3.out h3) ?_; (first | exact want0 rfl | exact want1 rfl rfl rfl rfl)) | (refine ev_load1 ?_ rfl o9 rfl (still_cell S (by repeat (first | exact Spot.here _ _ | apply Spot.there)) C5.out h5) ?_; (first | exact want0 rfl | exact want1 rfl rfl rfl rfl)) | (refine ev_load1 ?_ rfl o60 rfl (still_cell S (by repeat (first | exact Spot.here _ _ | apply Spot.there)) C7.out h7) ?_; (first | exact want0 rfl | exact want1 rfl rfl rfl rfl)) | (refine ev_load1 ?_ rfl o40 rfl (still_cell S (by repeat (first | exact Spot.here _ _ | apply Spot.there)) C8.out h8) ?_; (first | exact want0 rfl | exact want1 rfl rfl rfl rfl)) | (refine ev_load1 ?_ rfl o50 rfl (still_cell S (by repeat (first | exact Spot.here _ _ | apply Spot.there)) HC.out hgm) ?_; (first | exact want0 rfl | exact want1 rfl rfl rfl rfl)) | (at_lookup; refine wp_map_lookf _ rfl _ _ rfl bm n f rfl (still_map S (by repeat (first | exact Spot.here _ _ | apply Spot.there)) HMP.out hbm) a rfl HSM.out (some c) HF.out ?_) | (at_next; refine ev_next S rfl _ rfl W.heap[c]? c r m (depsOf G a) left cnt rfl (by repeat (first | exact Spot.here _ _ | apply Spot.there)) hwc.out ?_ ?_) | go_in)
  ·intro hl0
   replace hl0 := Aside0.mk hl0
   go_wp2_with (first | (refine ev_load1 ?_ rfl o25 rfl (still_cell S (by repeat (first | exact Spot.here _ _ | apply Spot.there)) C3.out h3) ?_; (first | exact want0 rfl | exact want1 rfl rfl rfl rfl)) | (refine ev_load1 ?_ rfl o9 rfl (still_cell S (by repeat (first | exact Spot.here _ _ | apply Spot.there)) C5.out h5) ?_; (first | exact want0 rfl | exact want1 rfl rfl rfl rfl)) | (refine ev_load1 ?_ rfl o60 rfl (still_cell S (by repeat (first | exact Spot.here _ _ | apply Spot.there)) C7.out h7) ?_; (first | exact want0 rfl | exact want1 rfl rfl rfl rfl)) | (refine ev_load1 ?_ rfl o40 rfl (still_cell S (by repeat (first | exact Spot.here _ _ | apply Spot.there)) C8.out h8) ?_; (first | exact want0 rfl | exact want1 rfl rfl rfl rfl)) | (refine ev_load1 ?_ rfl o50 rfl (still_cell S (by repeat (first | exact Spot.here _ _ | apply Spot.there)) HC.out hgm) ?_; (first | exact want0 rfl | exact want1 rfl rfl rfl rfl)) | (at_lookup; refine ev_set_look S rfl _ _ rfl _ _ _ rfl (by repeat (first | exact Spot.here _ _ | apply Spot.there)) d rfl hds ?_) | go_in)
   go_ret
   exact ⟨false, k2, M2, rfl, SetB.out (pred_at (a := SetB mb k2 M2) S.out (by repeat (first | exact Spot.here _ _ | apply Spot.there))), grown_of S (by repeat (first | exact Spot.here _ _ | apply Spot.there)), hk2, (fun h => by cases h), fun _ => HMS.out.done (fun d hd => ⟨hd, hl0.out d (HDS.out d hd)⟩)⟩
  ·intro d w1 cnt1 hds hdT hdl hlt hen S_
   have HDT := Aside0.mk hdT
   have HLT := Aside0.mk hlt
   have HDL := Aside0.mk hdl
   clear hdT hdl hlt S hwc
   have S := S_
   clear S_
   have hwc := Aside0.mk (Still.at (pred_at (a := Still W (fun k => ¬ k = mb)) S.out (by repeat (first | exact Spot.here _ _ | apply Spot.there))) hcm (Nat.lt_of_lt_of_le hcw HB.out.size))
   by_cases eb : d = b
   ·subst eb
    have he : (d.toList == d.toList) = true := by simp
    go_wp2_with (first | (refine ev_load1 ?_ rfl o25 rfl (still_cell S (by repeat (first | exact Spot.here _ _ | apply Spot.there)) C3.out h3) ?_; (first | exact want0 rfl | exact want1 rfl rfl rfl rfl)) | (refine ev_load1 ?_ rfl o9 rfl (still_cell S (by repeat (first | exact Spot.here _ _ | apply Spot.there)) C5.out h5) ?_; (first | exact want0 rfl | exact want1 rfl rfl rfl rfl)) | (refine ev_load1 ?_ rfl o60 rfl (still_cell S (by repeat (first | exact Spot.here _ _ | apply Spot.there)) C7.out h7) ?_; (first | exact want0 rfl | exact want1 rfl rfl rfl rfl)) | (refine ev_load1 ?_ rfl o40 rfl (still_cell S (by repeat (first | exact Spot.here _ _ | apply Spot.there)) C8.out h8) ?_; (first | exact want0 rfl | exact want1 rfl rfl rfl rfl)) | (refine ev_load1 ?_ rfl o50 rfl (still_cell S (by repeat (first | exact Spot.here _ _ | apply Spot.there)) HC.out hgm) ?_; (first | exact want0 rfl | exact want1 rfl rfl rfl rfl)) | (at_lookup; refine ev_set_look S rfl _ _ rfl _ _ _ rfl (by repeat (first | exact Spot.here _ _ | apply Spot.there)) d rfl hds ?_) | go_in)
    go_ret
    exact ⟨true, k2, M2, rfl, SetB.out (pred_at (a := SetB mb k2 M2) S.out (by repeat (first | exact Spot.here _ _ | apply Spot.there))), grown_of S (by repeat (first | exact Spot.here _ _ | apply Spot.there)), hk2, fun _ => .one HDT.out, fun h => by cases h⟩
   have he : (d.toList == b.toList) = false := by
    cases hq : d.toList == b.toList with
    | false => rfl
    | true => exact absurd (bytes_eq.1 (by simpa using hq)) eb
   have HLE := Aside0.mk (show ∀ x, (x ∈ depsOf G a ∧ (left x && !decide (x = d)) = false) → ((x ∈ depsOf G a ∧ left x = false) ∨ x = d) from fun x hx => by
    by_cases ex : x = d
    ·exact .inr ex
    ·have h2 := hx.2
     rw [decide_eq_false ex] at h2
     exact .inl ⟨hx.1, by simpa using h2⟩)
   by_cases hM : d ∈ M2
   ·have hM' : decide (d ∈ M2) = true := decide_eq_true hM
    have HM := Aside0.mk hM
    clear hM
    go_wp2_with (first | (refine ev_load1 ?_ rfl o25 rfl (still_cell S (by repeat (first | exact Spot.here _ _ | apply Spot.there)) C3.out h3) ?_; (first | exact want0 rfl | exact want1 rfl rfl rfl rfl)) | (refine ev_load1 ?_ rfl o9 rfl (still_cell S (by repeat (first | exact Spot.here _ _ | apply Spot.there)) C5.out h5) ?_; (first | exact want0 rfl | exact want1 rfl rfl rfl rfl)) | (refine ev_load1 ?_ rfl o60 rfl (still_cell S (by repeat (first | exact Spot.here _ _ | apply Spot.there)) C7.out h7) ?_; (first | exact want0 rfl | exact want1 rfl rfl rfl rfl)) | (refine ev_load1 ?_ rfl o40 rfl (still_cell S (by repeat (first | exact Spot.here _ _ | apply Spot.there)) C8.out h8) ?_; (first | exact want0 rfl | exact want1 rfl rfl rfl rfl)) | (refine ev_load1 ?_ rfl o50 rfl (still_cell S (by repeat (first | exact Spot.here _ _ | apply Spot.there)) HC.out hgm) ?_; (first | exact want0 rfl | exact want1 rfl rfl rfl rfl)) | (at_lookup; refine ev_set_look S rfl _ _ rfl _ _ _ rfl (by repeat (first | exact Spot.here _ _ | apply Spot.there)) d rfl hds ?_) | go_in)
    refine ⟨⟨fun z => left z && !decide (z = d), cnt1, k2, M2, left_is S (by repeat (first | exact Spot.here _ _ | apply Spot.there)) hwc.out, hk2, hu2, ⟨Missing.cong (HMS.out.met HM.out eb) HLE.out⟩, S⟩, ?_⟩
    rw [left_is (left := fun z => left z && !decide (z = d)) S (by repeat (first | exact Spot.here _ _ | apply Spot.there)) hwc.out, hcnt]
    exact HLT.out
   ·have hM' : decide (d ∈ M2) = false := decide_eq_false hM
    have HU := Aside0.mk (unmet_less (HD.out d HDT.out) hM)
    have HKN := Aside0.mk (show k2 < maxLen by have := HK.out; unfold maxLen; omega)
    clear hM
    go_wp2_with (first | (refine ev_load1 ?_ rfl o25 rfl (still_cell S (by repeat (first | exact Spot.here _ _ | apply Spot.there)) C3.out h3) ?_; (first | exact want0 rfl | exact want1 rfl rfl rfl rfl)) | (refine ev_load1 ?_ rfl o9 rfl (still_cell S (by repeat (first | exact Spot.here _ _ | apply Spot.there)) C5.out h5) ?_; (first | exact want0 rfl | exact want1 rfl rfl rfl rfl)) | (refine ev_load1 ?_ rfl o60 rfl (still_cell S (by repeat (first | exact Spot.here _ _ | apply Spot.there)) C7.out h7) ?_; (first | exact want0 rfl | exact want1 rfl rfl rfl rfl)) | (refine ev_load1 ?_ rfl o40 rfl (still_cell S (by repeat (first | exact Spot.here _ _ | apply Spot.there)) C8.out h8) ?_; (first | exact want0 rfl | exact want1 rfl rfl rfl rfl)) | (refine ev_load1 ?_ rfl o50 rfl (still_cell S (by repeat (first | exact Spot.here _ _ | apply Spot.there)) HC.out hgm) ?_; (first | exact want0 rfl | exact want1 rfl rfl rfl rfl)) | (at_lookup; refine ev_set_look S rfl _ _ rfl _ _ _ rfl (by repeat (first | exact Spot.here _ _ | apply Spot.there)) d rfl hds ?_) | (at_mapUpdate; refine ev_set_put S rfl _ _ _ rfl _ _ _ rfl (by repeat (first | exact Spot.here _ _ | apply Spot.there)) HKN.out d rfl rfl hds ?_; intro w_ S_; clear S; have S := S_; clear S_) | (go_at_call 39; have c_ := (IH'.out (unmet G (M2 ++ [d])) (by have := HU.out; have := HN.out; omega) d (k2 + 1) (M2 ++ [d]) _ (Nat.le_refl _) (HD.out d HDT.out) (below_grownBy HB.out (grown_of S (by repeat (first | exact Spot.here _ _ | apply Spot.there))) hmb) (still_cell S (by repeat (first | exact Spot.here _ _ | apply Spot.there)) C3.out h3) (still_cell S (by repeat (first | exact Spot.here _ _ | apply Spot.there)) C5.out h5) (still_cell S (by repeat (first | exact Spot.here _ _ | apply Spot.there)) C7.out h7) (still_cell S (by repeat (first | exact Spot.here _ _ | apply Spot.there)) C8.out h8) (SetB.out (pred_at S.out (by repeat (first | exact Spot.here _ _ | apply Spot.there)))) (by have := HU.out; have := HK.out; omega)); (with_reducible refine c_.mono ?_); clear c_; rintro z_ w_ ⟨r2, k3, M3, rfl, hs3, hg3, hk3, hr3, hq3⟩; have S_ := turn_block (a' := SetB mb k3 M3) S (by repeat (first | exact Spot.here _ _ | apply Spot.there)) hg3 (SetB.foot_iff.2 rfl) (SetB.mk hs3) (fun k hk => .inl (SetB.foot_iff.2 (SetB.foot_iff.1 hk))); have HR3 := Aside0.mk hr3; have HQ3 := Aside0.mk hq3; have HK3 := Aside0.mk hk3; clear hs3 hg3 hr3 hq3 hk3; clear S; have S := S_; clear S_; cases r2) | go_in)
    rotate_left
    ·go_ret
     exact ⟨true, k3, M3, rfl, SetB.out (pred_at (a := SetB mb k3 M3) S.out (by repeat (first | exact Spot.here _ _ | apply Spot.there))), grown_of S (by repeat (first | exact Spot.here _ _ | apply Spot.there)), by have := HK3.out; have := HU.out; omega, fun _ => .step HDT.out (HR3.out (by trivial)), fun h => by cases h⟩
    ·have HU3 := Aside0.mk (unmet_mono (G := G) (M := M2 ++ [d]) (M' := M3) (HQ3.out (by trivial)).sub)
     have hwc3 := Aside0.mk (Still.at (pred_at (a := Still W (fun k => ¬ k = mb)) S.out (by repeat (first | exact Spot.here _ _ | apply Spot.there))) hcm (Nat.lt_of_lt_of_le hcw HB.out.size))
     refine ⟨⟨fun z => left z && !decide (z = d), cnt1, k3, M3, left_is S (by repeat (first | exact Spot.here _ _ | apply Spot.there)) hwc3.out, by have := HK3.out; have := HU.out; omega, by have := HU3.out; have := HU.out; omega, ⟨Missing.cong (HMS.out.new eb (Missed.app (HQ3.out (by trivial)))) HLE.out⟩, S⟩, ?_⟩
     rw [left_is (left := fun z => left z && !decide (z = d)) S (by repeat (first | exact Spot.here _ _ | apply Spot.there)) hwc3.out, hcnt]
     exact HLT.out
end Go.Proofs.Ytaomemhnjpemiaa.Mp
