/- A call upon both graphs. -/
import Derived.Test.YtaomemhnjpemiaaZRm
namespace Go.Proofs.Ytaomemhnjpemiaa.Mp
open Go Go.Maps Go.RowKit Go.Proofs.Ytaomemhnjpemiaa.PB Go.Proofs.Ytaomemhnjpemiaa.Doc Go.Proofs.Ytaomemhnjpemiaa.Sep Go.Proofs.Ytaomemhnjpemiaa.Ev Go.Proofs.Ytaomemhnjpemiaa.Ty Go.Proofs.YtaomemhnjpemiaaW.PrintWords Go.Proofs.YtaomemhnjpemiaaW.PrintLast Go.Proofs.YtaomemhnjpemiaaW.PrintMore
set_option linter.unusedVariables false
set_option linter.unusedSimpArgs false

theorem meas {i n : Nat} (h : i < n) (e : wrap64 ((i : Int) + 1) = ((i + 1 : Nat) : Int)) : n - (intOf (.int .i64 (wrap64 ((i : Int) + 1)))).toNat < n - (intOf (.int .i64 (i : Int))).toNat := by
 rw [e]
 simp only [intOf, Int.toNat_natCast]
 omega
/-- what do leaves -/
structure Did (w w' : World) (g bm n : Nat) (f : ByteArray → Option Nat) (G' : List S73) (P : Nat → Prop) (n' : Nat) (f' : ByteArray → Option Nat) (D : Nat → Prop) (v : Value) : Prop where
 grown : w.grownBy w' (some bm)
 gr : Gr w' g bm n' f' G'
 cnt : n' ≤ n + 1
 new : ∀ s c, f' s = some c → f s = some c ∨ w.heap.size ≤ c
 view : Kd.V k73 73 w' 0 D v G'
 data : ∀ k, D k → (P k ∨ w.heap.size ≤ k) ∧ k < w'.heap.size ∧ ∀ s, f' s ≠ some k
section
variable {w W W' : World} {g bm n : Nat} {f : ByteArray → Option Nat} {G : List S73} {L : List Asn} {F F2 : Asn → List Asn} {P : Nat → Prop} {v : Value}
theorem v_now (hV : Kd.V k73 73 w w.heap.size P v G) (hP : ∀ k, P k → ¬ k = bm) (S : Aside0 (St 0 w W L)) (h2 : Spot L (Still w (fun k => ¬ k = bm)) F2) {b : Nat} : Kd.V k73 73 W b P v G :=
 V_base (Kd.V_step hV (fun k hk hl => Still.at (pred_at S.out h2) (hP k hk) hl))
theorem own_stable {A : Option Addr} {c : Nat} {xs : List ByteArray} (S : Aside0 (St 0 w W L)) (h1 : Spot L (Own Kd.string 9 A c xs) F) (ht : Two L (Own Kd.string 9 A c xs) (MapB bm n f)) : ∀ W', W.grownBy W' (some bm) → Kd.C Kd.string W' A xs.length xs := fun W' hg =>
 Own.reads ((Own Kd.string 9 A c xs).move (fun k hk => hg.block k ((Own Kd.string 9 A c xs).lt (pred_at S.out h1) k hk) (fun e => apart_at S.out ht k hk (MapB.foot_iff.2 (Option.some.inj e)))) (pred_at S.out h1))
/-- behind a change: what is new lies so -/
theorem chg_step {G' : List S73} {n' : Nat} {f' : ByteArray → Option Nat} (S : Aside0 (St 0 w W L)) (hs : Spot L (MapB bm n f) F) (C : Chg W W' g bm n f G' n' f') : Aside0 (St 0 w W' (Still W' (fun k => W.heap.size ≤ k) :: F (MapB bm n' f'))) := by
 have h1 := turn_block (a' := MapB bm n' f') S hs C.grown (MapB.foot_iff.2 rfl) (MapB.mk C.gr.map) (fun k hk => .inl (MapB.foot_iff.2 (MapB.foot_iff.1 hk)))
 refine ⟨h1.out.cons _ (fun _ _ _ => rfl) (fun _ _ => Nat.zero_le _) (fun b hb k hk1 hk2 => ?_)⟩
 obtain ⟨pre, post, e1, e2⟩ := hs.split
 have h4 : ∀ b, b ∈ L → b.foot k → False := fun b hb hk => by
  have h5 := b.lt (S.out.holds b hb) k hk
  have h6 : W.heap.size ≤ k := hk1.1
  omega
 rw [e2] at hb
 rcases List.mem_append.1 hb with hb | hb
 ·exact h4 b (by rw [e1]; exact List.mem_append.2 (.inl hb)) hk2
 ·rcases List.mem_cons.1 hb with rfl | hb
  ·exact h4 _ hs.mem (MapB.foot_iff.2 (MapB.foot_iff.1 hk2))
  ·exact h4 b (by rw [e1]; exact List.mem_append.2 (.inr (List.mem_cons.2 (.inr hb)))) hk2
theorem world_name (S : Aside0 (St 0 w W L)) (h2 : Spot L (Still w (fun k => ¬ k = bm)) F2) : ∃ w1, w1 = W ∧ w.heap.size ≤ w1.heap.size ∧ w.grownBy w1 (some bm) := ⟨W, rfl, S.out.below.size, grown_of S h2⟩
theorem new_step (S : Aside0 (St 0 w W L)) (hb : Below W.heap.size W W') : Aside0 (St 0 w W' (Still W' (fun k => W.heap.size ≤ k) :: L)) := ⟨St.add S.out hb _ (fun _ _ _ => rfl) (fun k hk => hk.1)⟩
/-- at the end -/
theorem did_end {W1 W2 W3 : World} {G' : List S73} {n' : Nat} {f' : ByteArray → Option Nat} {F3 F4 : Asn → List Asn} (h : Gr w g bm n f G) (hfar : Far bm f) (hP : ∀ k, P k → ¬ k = bm ∧ k < w.heap.size ∧ ∀ s, f s ≠ some k) (C : Chg W W1 g bm n f G' n' f') (hV : Kd.V k73 73 W3 0 (fun k => P k ∨ W2.heap.size ≤ k) v G')
  (S : Aside0 (St 0 w W' L)) (h1 : Spot L (MapB bm n' f') F) (h2 : Spot L (Still w (fun k => ¬ k = bm)) F2) (h3 : Spot L (Still W1 (fun k => W.heap.size ≤ k)) F3) (h4 : Spot L (Still W3 (fun k => W2.heap.size ≤ k)) F4)
  (hW : w.heap.size ≤ W.heap.size) (hW2 : W1.heap.size ≤ W2.heap.size) (hgW : w.grownBy W (some bm)) (hg3 : w.grownBy W3 (some bm)) : ∃ n' f' D, Did w W' g bm n f G' P n' f' D v := by
 have hg := grown_of S h2
 have hblt : bm < w.heap.size := h.map.lt
 have hset : ∀ s c, f' s = some c → c < W1.heap.size := fun s c hs => by obtain ⟨m, _, h5⟩ := C.gr.set s c hs; exact h5.lt
 refine ⟨n', f', fun k => (P k ∨ W2.heap.size ≤ k) ∧ k < W3.heap.size, hg, ⟨C.gr.good, (hg.block g h.lt (fun e => h.ne (Option.some.inj e))).trans h.blk, MapB.out (pred_at S.out h1), C.gr.cnt, C.gr.dom, fun s c hs => ?_, C.gr.small, C.gr.len⟩, C.cnt, fun s c hs => ?_, ?_, fun k hk => ?_⟩
 ·obtain ⟨m, h5, h6⟩ := C.gr.set s c hs
  refine ⟨m, h5, ?_⟩
  rcases C.new s c hs with h7 | h7
  ·obtain ⟨m0, _, h8⟩ := h.set s c h7
   have h9 := hfar s c h7
   refine h6.of_block ?_
   rw [hg.block c h8.lt (fun e => h9 (Option.some.inj e))]
   rw [← hgW.block c h8.lt (fun e => h9 (Option.some.inj e))]
   exact (C.grown.block c (Nat.lt_of_lt_of_le h8.lt hW) (fun e => h9 (Option.some.inj e))).symm
  ·exact h6.of_block (Still.at (pred_at S.out h3) h7 (hset s c hs))
 ·rcases C.new s c hs with h7 | h7
  ·exact .inl h7
  ·exact .inr (Nat.le_trans hW h7)
 ·refine Kd.V_step (Kd.V_bound hV) (fun k hk hl => ?_)
  rcases hk.1 with h5 | h5
  ·have h6 := hP k h5
   exact (hg.block k h6.2.1 (fun e => h6.1 (Option.some.inj e))).trans (hg3.block k h6.2.1 (fun e => h6.1 (Option.some.inj e))).symm
  ·exact Still.at (pred_at S.out h4) h5 hl
 ·refine ⟨hk.1.imp_right (fun h5 => ?_), ?_, fun s hs => ?_⟩
  ·have := C.grown.size; omega
  ·rcases hk.1 with h5 | h5
   ·exact Nat.lt_of_lt_of_le (hP k h5).2.1 hg.size
   ·have h6 := Still.at (pred_at S.out h4) h5 hk.2
    rw [Array.getElem?_eq_getElem hk.2] at h6
    exact (Array.getElem?_eq_some_iff.1 h6).1
  ·have h5 := hset s k hs
   rcases hk.1 with h6 | h6
   ·rcases C.new s k hs with h7 | h7
    ·exact (hP k h6).2.2 s h7
    ·have := (hP k h6).2.1; omega
   ·omega
end

set_option maxRecDepth 100000 in
set_option maxHeartbeats 16000000 in
theorem do_add (g bm n : Nat) (f : ByteArray → Option Nat) (G : List S73) (P : Nat → Prop) (Ar : Option Addr) (cr : Nat) (kind : Int) (s : ByteArray) (A : Option Addr) (c : Nat) (xs : List ByteArray) (w : World) (h : Gr w g bm n f G) (hfar : Far bm f) (hn : n < 1000000) (hl : G.length < 1000) (hV : Kd.V k73 73 w w.heap.size P (.slice Ar G.length cr) G)
  (hP : ∀ k, P k → ¬ k = bm ∧ k < w.heap.size ∧ ∀ s, f s ≠ some k) (hs : s.size ≤ maxLen) (hCN : ∀ W', w.grownBy W' (some bm) → Kd.C Kd.string W' A xs.length xs) (hxc : xs.length ≤ c) (hsz : ∀ x ∈ xs, x.size ≤ maxLen) (hx : xs.length ≤ 1000) (hk : (Int.tmod kind 4 == 2) = false) (hk3 : (Int.tmod kind 4 == 3) = false) :
  Calls Try.prog 11 #[.pointer (some ⟨g, 0, none⟩), .agg #[.slice Ar G.length cr], .agg #[.int .u8 kind, .string s, .slice A xs.length c]] w fun z w' => ∃ v, z = .returned (.tuple #[.agg #[v], .bool true]) ∧ ∃ n' f' D, Did w w' g bm n f (aftAdd G s xs) P n' f' D v := by
 have HG := Aside0.mk h
 have HFAR := Aside0.mk hfar
 have HV := Aside0.mk hV
 have HP := Aside0.mk hP
 have HPB := Aside0.mk (fun k hk => (hP k hk).1)
 have HS := Aside0.mk hs
 have HCN := Aside0.mk hCN
 have HXC := Aside0.mk hxc
 have HSZ := Aside0.mk hsz
 have HXL := Aside0.mk hx
 have HXL2 := Aside0.mk (show xs.length ≤ 1000000 by omega)
 have HNN := Aside0.mk hn
 have HLL := Aside0.mk hl
 have HL2 := Aside0.mk (show G.length ≤ 1000 by omega)
 have HPRG := Aside0.mk (fun (W : World) (A1 : Option Addr) (c1 : Nat) (h1 : Gr W g bm n f G) (hC : ∀ W', W.grownBy W' (some bm) → Kd.C Kd.string W' A1 xs.length xs) => add_all (xs := xs) A1 c1 h1 HFAR.out HNN.out HLL.out HS.out hC HSZ.out HXL2.out)
 have HREF := Aside0.mk (fun (W : World) (h1 : Kd.V k73 73 W W.heap.size P (.slice Ar G.length cr) G) (hC : Kd.C Kd.string W A xs.length xs) => radd_all (s := s) (xs := xs) h1 HG.out.good HL2.out hC HXC.out HXL.out)
 obtain ⟨e, he⟩ : ∃ e, e = errAdd G s xs := ⟨_, rfl⟩
 obtain ⟨G', hG'⟩ : ∃ G', G' = aftAdd G s xs := ⟨_, rfl⟩
 simp only [← he, ← hG'] at HPRG HREF ⊢
 have hee : (e == e) = true := by simp
 have S := start_map h.map
 clear h hfar hV hP hs hCN hxc hsz hx hn hl he hG'
 go_enter Try.func11, Try.ntmps11
 go_wp2_with (first | ((with_reducible refine gate_dst (N := 4) rfl ?_); refine ev_boxs S ?_ 4 rfl rfl rfl ?_; (first | exact want0 rfl | exact want1 rfl rfl rfl rfl); intro g4 w4 S_; clear S; have S := S_; clear S_) | ((with_reducible refine gate_dst (N := 5) rfl ?_); refine ev_boxs S ?_ 5 rfl rfl rfl ?_; (first | exact want0 rfl | exact want1 rfl rfl rfl rfl); intro g5 w5 S_; clear S; have S := S_; clear S_) | ((with_reducible refine gate_dst (N := 6) rfl ?_); refine ev_alloc #[.slice none 0 0] rfl S ?_ 6 rfl rfl Ty.z29 ?_; (first | exact want0 rfl | exact want1 rfl rfl rfl rfl); intro g6 w6 S_; clear S; have S := S_; clear S_) | (refine ev_owns (vs := [_]) S ?_ rfl m29 rfl (by repeat (first | exact Spot.here _ _ | apply Spot.there)) (by exact rfl) ?_; (first | exact want0 rfl | exact want1 rfl rfl rfl rfl)) | (refine ev_puts S ?_ rfl rfl s29 rfl rfl (by repeat (first | exact Spot.here _ _ | apply Spot.there)) rfl ?_ ?_ ?_; (first | exact want0 rfl | exact want1 rfl rfl rfl rfl); rfl; rfl; intro w_ S_; simp only [putAt, List.set_cons_zero, List.set_cons_succ] at S_; clear S; have S := S_; clear S_) | (refine ev_own1 S ?_ rfl o5 rfl (by repeat (first | exact Spot.here _ _ | apply Spot.there)) (by exact rfl) ?_; (first | exact want0 rfl | exact want1 rfl rfl rfl rfl)) | (refine ev_own1 S ?_ rfl o9 rfl (by repeat (first | exact Spot.here _ _ | apply Spot.there)) (by exact rfl) ?_; (first | exact want0 rfl | exact want1 rfl rfl rfl rfl)) | (refine ev_own1 S ?_ rfl o32 rfl (by repeat (first | exact Spot.here _ _ | apply Spot.there)) (by exact rfl) ?_; (first | exact want0 rfl | exact want1 rfl rfl rfl rfl)) | ((with_reducible refine gate_dst (N := 12) rfl ?_); refine ev_lit (enc := Value.string) (h1 := fun _ => rfl) (e := 9) ([] : List ByteArray) S rfl 12 rfl ?hrun (by simp) ?_; (case hrun => first | (go_simp; done) | (go_simp; rfl)); intro A12 c12 w_ S_; clear S; have S := S_; clear S_) | (((with_reducible refine gate_builtin (b := .append) (xs := #[.tmp 12, .tmp 14]) rfl ?_); at_builtin; refine ev_rows (enc := Value.string) (h1 := fun _ => rfl) (e := 9) ByteArray.empty (.tmp 12) (.tmp 14) 32 (.string ⟨#[]⟩) 16 (xs := []) (ys := xs) S rfl rfl Try.underlying32 info9 rfl (by decide) rfl rfl (by repeat (first | exact Spot.here _ _ | apply Spot.there)) rfl (HCN.out _ (grown_of S (by repeat (first | exact Spot.here _ _ | apply Spot.there)))) (by have := HXL.out; simp only [List.length_nil]; omega) ?_; intro A15 c15 w_ S_; simp only [List.nil_append] at S_ ⊢; clear S; have S := S_; clear S_)) | (go_at_call 21; obtain ⟨w1, rfl, hs1, hg1⟩ := world_name S (by repeat (first | exact Spot.here _ _ | apply Spot.there)); have HHS1 := Aside0.mk hs1; have HHG1 := Aside0.mk hg1; clear hs1 hg1; have c_ := HPRG.out _ A15 c15 (gr_now HG.out HFAR.out S (by repeat (first | exact Spot.here _ _ | apply Spot.there)) (by repeat (first | exact Spot.here _ _ | apply Spot.there))) (own_stable (n := n) (f := f) S (by repeat (first | exact Spot.here _ _ | apply Spot.there)) (by repeat (first | exact Two.first (by repeat (first | exact Spot.here _ _ | apply Spot.there)) | exact Two.second (by repeat (first | exact Spot.here _ _ | apply Spot.there)) | apply Two.there))); (with_reducible refine c_.mono ?_); clear c_; rintro z_ w2 ⟨rfl, n', f', hc_⟩; have S_ := chg_step S (by repeat (first | exact Spot.here _ _ | apply Spot.there)) hc_; have HCH := Aside0.mk hc_; clear hc_; clear S; have S := S_; clear S_) | (go_at_call 27; have c_ := HREF.out w2 (v_now HV.out HPB.out S (by repeat (first | exact Spot.here _ _ | apply Spot.there))) (HCN.out _ (grown_of S (by repeat (first | exact Spot.here _ _ | apply Spot.there)))); (with_reducible refine c_.mono ?_); clear c_; rintro z_ w4 ⟨v_, rfl, hv_, hb_⟩; obtain ⟨A5, c5, rfl⟩ := Kd.V_slice hv_; have S_ := new_step S hb_; have HV4 := Aside0.mk hv_; have HG4 := Aside0.mk (grown_of S_ (by repeat (first | exact Spot.here _ _ | apply Spot.there))); clear hv_ hb_; clear S; have S := S_; clear S_) | go_in)
 go_loopw [11] (fun v11 wr => ∃ (i : Nat) (own : List ByteArray), v11 = .int .i64 i ∧ i ≤ xs.length ∧ Aside0 (own.length = xs.length ∧ own.drop i = xs.drop i) ∧ Aside0 (Chg w1 w2 g bm n f G' n' f') ∧ Aside0 (St 0 w wr [Still w4 (fun k => w2.heap.size ≤ k), Still w2 (fun k => w1.heap.size ≤ k), Own Kd.string 9 A15 c15 own, Bk g6 #[.slice none 0 0] 29, Bk g5 #[.int .u8 kind, .string s, .slice A xs.length c] 34, Bk g4 #[.slice A5 G'.length c5] 29, MapB bm n' f', Still w (fun k => ¬ k = bm)])) (fun v11 _ => xs.length - (intOf v11).toNat)
 case atStart => exact ⟨0, xs, rfl, Nat.zero_le _, ⟨rfl, rfl⟩, HCH, S⟩
 case round =>
  clear S HCH
  obtain ⟨i, own, rfl, hi, HO, HCH, S⟩ := hrel
  by_cases hlt : i < xs.length
  ·have hd2 : decide ((i : Int) < (xs.length : Int)) = true := decide_eq_true (by omega)
   have hil : (i : Int) < (xs.length : Int) := by omega
   have hi0 : (0 : Int) ≤ (i : Int) := by omega
   have HI1 := Aside0.mk (show wrap64 ((i : Int) + 1) = ((i + 1 : Nat) : Int) by have := HXL.out; unfold wrap64; omega)
   have hio : i < own.length := by have := HO.out.1; omega
   have HIO := Aside0.mk hio
   obtain ⟨g15, rfl⟩ := Own.form (pred_at S.out (a := Own Kd.string 9 A15 c15 own) (by repeat (first | exact Spot.here _ _ | apply Spot.there))) (by omega)
   have hox : own[i]? = some (xs.getD i ByteArray.empty) := by
    have h1 := congrArg (fun l : List ByteArray => l[0]?) HO.out.2
    simp only [List.getElem?_drop, Nat.add_zero] at h1
    rw [h1, List.getElem?_eq_getElem hlt]; simp [hlt]
   obtain ⟨ad, rfl, hXI⟩ := strC_drop (HCN.out _ (grown_of S (by repeat (first | exact Spot.here _ _ | apply Spot.there)))) i hlt
   generalize xs.getD i ByteArray.empty = x at *
   have HOX := Aside0.mk hox
   have HXI := Aside0.mk hXI
   have hxx : (x.toList != x.toList) = false := by simp
   clear hox hXI hio
   go_wp2
   have S2 := Aside0.mk S.out.drew
   clear S
   refine start_ (n := 10) (S := fun w' => w'.cell? ⟨g15, i, none⟩ = some (.string x) ∧ w'.cell? ⟨g5, 2, none⟩ = some (.slice (some ad) xs.length c) ∧ w'.cell? (ad.add i) = some (.string x)) (ds := []) (bt 10 0) (by kernel_rfl) rfl rfl ⟨(row_cell (pred_at S2.out (a := Own Kd.string 9 (some ⟨g15, 0, none⟩) c15 own) (by repeat (first | exact Spot.here _ _ | apply Spot.there))) HOX.out), ((own_cell (g := g5) S2 (by repeat (first | exact Spot.here _ _ | apply Spot.there)) 2).trans rfl), HXI.out⟩ (fun hHeld => ?_)
   refine pur 0 68 (bt 10 1) ?_
   refine pur 1 69 (bt 10 3) ?_
   refine pur 2 70 (bt 10 7) ?_
   refine pur 4 72 (bt 10 23) ?_
   refine pur 6 74 (bt 10 87) ?_
   refine tak 3 71 (bt 10 95) hHeld ?_
   refine tak 5 73 (bt 10 127) hHeld ?_
   refine pur 7 75 (bt 10 255) ?_
   refine tak 8 76 (bt 10 511) hHeld ?_
   refine pur 9 77 (bt 10 1023) ?_
   refine done_ (by kernel_rfl) ?_

   have S := S2
   clear S2
   go_wp2_with (first | (refine ev_owns (vs := [_]) S ?_ rfl m29 rfl (by repeat (first | exact Spot.here _ _ | apply Spot.there)) (by exact rfl) ?_; (first | exact want0 rfl | exact want1 rfl rfl rfl rfl)) | (refine ev_puts S ?_ rfl rfl s29 rfl rfl (by repeat (first | exact Spot.here _ _ | apply Spot.there)) rfl ?_ ?_ ?_; (first | exact want0 rfl | exact want1 rfl rfl rfl rfl); rfl; rfl; intro w_ S_; simp only [putAt, List.set_cons_zero, List.set_cons_succ] at S_; clear S; have S := S_; clear S_) | (refine ev_rowput (enc := Value.string) (h1 := fun _ => rfl) (e := 9) ByteArray.empty ⟨#[63]⟩ (g := g15) (i := i) (xs := own) S ?_ rfl rfl s9 rfl rfl (by repeat (first | exact Spot.here _ _ | apply Spot.there)) HIO.out ?_; (first | exact want0 rfl | exact want1 rfl rfl rfl rfl); intro w_ S_; clear S; have S := S_; clear S_) | go_in)
   refine ⟨⟨i + 1, own.set i ⟨#[63]⟩, by simp [HI1.out], by omega, ⟨by simpa using HO.out.1, ?_⟩, HCH, S⟩, ?_⟩
   ·have h1 := congrArg (List.drop 1) HO.out.2
    rw [List.drop_set_of_lt (by omega)]
    simpa [List.drop_drop, Nat.add_comm] using h1
   ·exact meas hlt HI1.out
  ·obtain rfl : i = xs.length := by omega
   have hd2 : decide ((xs.length : Int) < (xs.length : Int)) = false := decide_eq_false (by omega)
   go_wp2_with (first | (refine ev_owns (vs := [_]) S ?_ rfl m29 rfl (by repeat (first | exact Spot.here _ _ | apply Spot.there)) (by exact rfl) ?_; (first | exact want0 rfl | exact want1 rfl rfl rfl rfl)) | (refine ev_puts S ?_ rfl rfl s29 rfl rfl (by repeat (first | exact Spot.here _ _ | apply Spot.there)) rfl ?_ ?_ ?_; (first | exact want0 rfl | exact want1 rfl rfl rfl rfl); rfl; rfl; intro w_ S_; simp only [putAt, List.set_cons_zero, List.set_cons_succ] at S_; clear S; have S := S_; clear S_) | (refine ev_rowput (enc := Value.string) (h1 := fun _ => rfl) (e := 9) ByteArray.empty ⟨#[63]⟩ (g := g15) (i := i) (xs := own) S ?_ rfl rfl s9 rfl rfl (by repeat (first | exact Spot.here _ _ | apply Spot.there)) HIO.out ?_; (first | exact want0 rfl | exact want1 rfl rfl rfl rfl); intro w_ S_; clear S; have S := S_; clear S_) | go_in)
   refine retN (rs := [.cell 6 29, .tmp 7]) rfl rfl ?_ (Bk.vals S rfl (by repeat (first | exact Spot.here _ _ | apply Spot.there)) m29 (by exact rfl) (.tmp .nil)) ?_
   ·simp
   exact ⟨_, rfl, did_end HG.out HFAR.out HP.out HCH.out HV4.out S (by repeat (first | exact Spot.here _ _ | apply Spot.there)) (by repeat (first | exact Spot.here _ _ | apply Spot.there)) (by repeat (first | exact Spot.here _ _ | apply Spot.there)) (by repeat (first | exact Spot.here _ _ | apply Spot.there)) HHS1.out (Nat.le_refl _) HHG1.out HG4.out⟩

set_option maxRecDepth 100000 in
set_option maxHeartbeats 16000000 in
theorem do_turn (g bm n : Nat) (f : ByteArray → Option Nat) (G : List S73) (P : Nat → Prop) (Ar : Option Addr) (cr : Nat) (kind : Int) (s : ByteArray) (A : Option Addr) (c : Nat) (xs : List ByteArray) (w : World) (h : Gr w g bm n f G) (hfar : Far bm f) (hn : n < 1000000) (hl : G.length < 1000) (hV : Kd.V k73 73 w w.heap.size P (.slice Ar G.length cr) G)
  (hP : ∀ k, P k → ¬ k = bm ∧ k < w.heap.size ∧ ∀ s, f s ≠ some k) (hs : s.size ≤ maxLen) (hCN : ∀ W', w.grownBy W' (some bm) → Kd.C Kd.string W' A xs.length xs) (hxc : xs.length ≤ c) (hsz : ∀ x ∈ xs, x.size ≤ maxLen) (hx : xs.length ≤ 1000) (hk : (Int.tmod kind 4 == 2) = false) (hk3 : (Int.tmod kind 4 == 3) = true) :
  Calls Try.prog 11 #[.pointer (some ⟨g, 0, none⟩), .agg #[.slice Ar G.length cr], .agg #[.int .u8 kind, .string s, .slice A xs.length c]] w fun z w' => ∃ v, z = .returned (.tuple #[.agg #[v], .bool true]) ∧ ∃ n' f' D, Did w w' g bm n f (aftTurn G s xs) P n' f' D v := by
 have HG := Aside0.mk h
 have HFAR := Aside0.mk hfar
 have HV := Aside0.mk hV
 have HP := Aside0.mk hP
 have HPB := Aside0.mk (fun k hk => (hP k hk).1)
 have HS := Aside0.mk hs
 have HCN := Aside0.mk hCN
 have HXC := Aside0.mk hxc
 have HSZ := Aside0.mk hsz
 have HXL := Aside0.mk hx
 have HXL2 := Aside0.mk (show xs.length ≤ 1000000 by omega)
 have HNN := Aside0.mk hn
 have HLL := Aside0.mk hl
 have HL2 := Aside0.mk (show G.length ≤ 1000 by omega)
 have HPRG := Aside0.mk (fun (W : World) (A1 : Option Addr) (c1 : Nat) (h1 : Gr W g bm n f G) (hC : ∀ W', W.grownBy W' (some bm) → Kd.C Kd.string W' A1 xs.length xs) => turn_all (xs := xs) A1 c1 h1 HFAR.out HNN.out HS.out hC HSZ.out HXL2.out)
 have HREF := Aside0.mk (fun (W : World) (h1 : Kd.V k73 73 W W.heap.size P (.slice Ar G.length cr) G) (hC : Kd.C Kd.string W A xs.length xs) => rturn_all (s := s) (xs := xs) h1 HG.out.good HL2.out hC HXC.out HXL.out)
 obtain ⟨e, he⟩ : ∃ e, e = errTurn G s xs := ⟨_, rfl⟩
 obtain ⟨G', hG'⟩ : ∃ G', G' = aftTurn G s xs := ⟨_, rfl⟩
 simp only [← he, ← hG'] at HPRG HREF ⊢
 have hee : (e == e) = true := by simp
 have S := start_map h.map
 clear h hfar hV hP hs hCN hxc hsz hx hn hl he hG'
 go_enter Try.func11, Try.ntmps11
 go_wp2_with (first | ((with_reducible refine gate_dst (N := 4) rfl ?_); refine ev_boxs S ?_ 4 rfl rfl rfl ?_; (first | exact want0 rfl | exact want1 rfl rfl rfl rfl); intro g4 w4 S_; clear S; have S := S_; clear S_) | ((with_reducible refine gate_dst (N := 5) rfl ?_); refine ev_boxs S ?_ 5 rfl rfl rfl ?_; (first | exact want0 rfl | exact want1 rfl rfl rfl rfl); intro g5 w5 S_; clear S; have S := S_; clear S_) | ((with_reducible refine gate_dst (N := 6) rfl ?_); refine ev_alloc #[.slice none 0 0] rfl S ?_ 6 rfl rfl Ty.z29 ?_; (first | exact want0 rfl | exact want1 rfl rfl rfl rfl); intro g6 w6 S_; clear S; have S := S_; clear S_) | (refine ev_owns (vs := [_]) S ?_ rfl m29 rfl (by repeat (first | exact Spot.here _ _ | apply Spot.there)) (by exact rfl) ?_; (first | exact want0 rfl | exact want1 rfl rfl rfl rfl)) | (refine ev_puts S ?_ rfl rfl s29 rfl rfl (by repeat (first | exact Spot.here _ _ | apply Spot.there)) rfl ?_ ?_ ?_; (first | exact want0 rfl | exact want1 rfl rfl rfl rfl); rfl; rfl; intro w_ S_; simp only [putAt, List.set_cons_zero, List.set_cons_succ] at S_; clear S; have S := S_; clear S_) | (refine ev_own1 S ?_ rfl o5 rfl (by repeat (first | exact Spot.here _ _ | apply Spot.there)) (by exact rfl) ?_; (first | exact want0 rfl | exact want1 rfl rfl rfl rfl)) | (refine ev_own1 S ?_ rfl o9 rfl (by repeat (first | exact Spot.here _ _ | apply Spot.there)) (by exact rfl) ?_; (first | exact want0 rfl | exact want1 rfl rfl rfl rfl)) | (refine ev_own1 S ?_ rfl o32 rfl (by repeat (first | exact Spot.here _ _ | apply Spot.there)) (by exact rfl) ?_; (first | exact want0 rfl | exact want1 rfl rfl rfl rfl)) | ((with_reducible refine gate_dst (N := 12) rfl ?_); refine ev_lit (enc := Value.string) (h1 := fun _ => rfl) (e := 9) ([] : List ByteArray) S rfl 12 rfl ?hrun (by simp) ?_; (case hrun => first | (go_simp; done) | (go_simp; rfl)); intro A12 c12 w_ S_; clear S; have S := S_; clear S_) | (((with_reducible refine gate_builtin (b := .append) (xs := #[.tmp 12, .tmp 14]) rfl ?_); at_builtin; refine ev_rows (enc := Value.string) (h1 := fun _ => rfl) (e := 9) ByteArray.empty (.tmp 12) (.tmp 14) 32 (.string ⟨#[]⟩) 16 (xs := []) (ys := xs) S rfl rfl Try.underlying32 info9 rfl (by decide) rfl rfl (by repeat (first | exact Spot.here _ _ | apply Spot.there)) rfl (HCN.out _ (grown_of S (by repeat (first | exact Spot.here _ _ | apply Spot.there)))) (by have := HXL.out; simp only [List.length_nil]; omega) ?_; intro A15 c15 w_ S_; simp only [List.nil_append] at S_ ⊢; clear S; have S := S_; clear S_)) | (go_at_call 17; obtain ⟨w1, rfl, hs1, hg1⟩ := world_name S (by repeat (first | exact Spot.here _ _ | apply Spot.there)); have HHS1 := Aside0.mk hs1; have HHG1 := Aside0.mk hg1; clear hs1 hg1; have c_ := HPRG.out _ A15 c15 (gr_now HG.out HFAR.out S (by repeat (first | exact Spot.here _ _ | apply Spot.there)) (by repeat (first | exact Spot.here _ _ | apply Spot.there))) (own_stable (n := n) (f := f) S (by repeat (first | exact Spot.here _ _ | apply Spot.there)) (by repeat (first | exact Two.first (by repeat (first | exact Spot.here _ _ | apply Spot.there)) | exact Two.second (by repeat (first | exact Spot.here _ _ | apply Spot.there)) | apply Two.there))); (with_reducible refine c_.mono ?_); clear c_; rintro z_ w2 ⟨rfl, n', f', hc_⟩; have S_ := chg_step S (by repeat (first | exact Spot.here _ _ | apply Spot.there)) hc_; have HCH := Aside0.mk hc_; clear hc_; clear S; have S := S_; clear S_) | (go_at_call 26; have c_ := HREF.out w2 (v_now HV.out HPB.out S (by repeat (first | exact Spot.here _ _ | apply Spot.there))) (HCN.out _ (grown_of S (by repeat (first | exact Spot.here _ _ | apply Spot.there)))); (with_reducible refine c_.mono ?_); clear c_; rintro z_ w4 ⟨v_, rfl, hv_, hb_⟩; obtain ⟨A5, c5, rfl⟩ := Kd.V_slice hv_; have S_ := new_step S hb_; have HV4 := Aside0.mk hv_; have HG4 := Aside0.mk (grown_of S_ (by repeat (first | exact Spot.here _ _ | apply Spot.there))); clear hv_ hb_; clear S; have S := S_; clear S_) | go_in)
 go_loopw [11] (fun v11 wr => ∃ (i : Nat) (own : List ByteArray), v11 = .int .i64 i ∧ i ≤ xs.length ∧ Aside0 (own.length = xs.length ∧ own.drop i = xs.drop i) ∧ Aside0 (Chg w1 w2 g bm n f G' n' f') ∧ Aside0 (St 0 w wr [Still w4 (fun k => w2.heap.size ≤ k), Still w2 (fun k => w1.heap.size ≤ k), Own Kd.string 9 A15 c15 own, Bk g6 #[.slice none 0 0] 29, Bk g5 #[.int .u8 kind, .string s, .slice A xs.length c] 34, Bk g4 #[.slice A5 G'.length c5] 29, MapB bm n' f', Still w (fun k => ¬ k = bm)])) (fun v11 _ => xs.length - (intOf v11).toNat)
 case atStart => exact ⟨0, xs, rfl, Nat.zero_le _, ⟨rfl, rfl⟩, HCH, S⟩
 case round =>
  clear S HCH
  obtain ⟨i, own, rfl, hi, HO, HCH, S⟩ := hrel
  by_cases hlt : i < xs.length
  ·have hd2 : decide ((i : Int) < (xs.length : Int)) = true := decide_eq_true (by omega)
   have hil : (i : Int) < (xs.length : Int) := by omega
   have hi0 : (0 : Int) ≤ (i : Int) := by omega
   have HI1 := Aside0.mk (show wrap64 ((i : Int) + 1) = ((i + 1 : Nat) : Int) by have := HXL.out; unfold wrap64; omega)
   have hio : i < own.length := by have := HO.out.1; omega
   have HIO := Aside0.mk hio
   obtain ⟨g15, rfl⟩ := Own.form (pred_at S.out (a := Own Kd.string 9 A15 c15 own) (by repeat (first | exact Spot.here _ _ | apply Spot.there))) (by omega)
   have hox : own[i]? = some (xs.getD i ByteArray.empty) := by
    have h1 := congrArg (fun l : List ByteArray => l[0]?) HO.out.2
    simp only [List.getElem?_drop, Nat.add_zero] at h1
    rw [h1, List.getElem?_eq_getElem hlt]; simp [hlt]
   obtain ⟨ad, rfl, hXI⟩ := strC_drop (HCN.out _ (grown_of S (by repeat (first | exact Spot.here _ _ | apply Spot.there)))) i hlt
   generalize xs.getD i ByteArray.empty = x at *
   have HOX := Aside0.mk hox
   have HXI := Aside0.mk hXI
   have hxx : (x.toList != x.toList) = false := by simp
   clear hox hXI hio
   go_wp2
   have S2 := Aside0.mk S.out.drew
   clear S
   refine start_ (n := 10) (S := fun w' => w'.cell? ⟨g15, i, none⟩ = some (.string x) ∧ w'.cell? ⟨g5, 2, none⟩ = some (.slice (some ad) xs.length c) ∧ w'.cell? (ad.add i) = some (.string x)) (ds := []) (bt 10 0) (by kernel_rfl) rfl rfl ⟨(row_cell (pred_at S2.out (a := Own Kd.string 9 (some ⟨g15, 0, none⟩) c15 own) (by repeat (first | exact Spot.here _ _ | apply Spot.there))) HOX.out), ((own_cell (g := g5) S2 (by repeat (first | exact Spot.here _ _ | apply Spot.there)) 2).trans rfl), HXI.out⟩ (fun hHeld => ?_)
   refine pur 0 68 (bt 10 1) ?_
   refine pur 1 69 (bt 10 3) ?_
   refine pur 2 70 (bt 10 7) ?_
   refine pur 4 72 (bt 10 23) ?_
   refine pur 6 74 (bt 10 87) ?_
   refine tak 3 71 (bt 10 95) hHeld ?_
   refine tak 5 73 (bt 10 127) hHeld ?_
   refine pur 7 75 (bt 10 255) ?_
   refine tak 8 76 (bt 10 511) hHeld ?_
   refine pur 9 77 (bt 10 1023) ?_
   refine done_ (by kernel_rfl) ?_

   have S := S2
   clear S2
   go_wp2_with (first | (refine ev_owns (vs := [_]) S ?_ rfl m29 rfl (by repeat (first | exact Spot.here _ _ | apply Spot.there)) (by exact rfl) ?_; (first | exact want0 rfl | exact want1 rfl rfl rfl rfl)) | (refine ev_puts S ?_ rfl rfl s29 rfl rfl (by repeat (first | exact Spot.here _ _ | apply Spot.there)) rfl ?_ ?_ ?_; (first | exact want0 rfl | exact want1 rfl rfl rfl rfl); rfl; rfl; intro w_ S_; simp only [putAt, List.set_cons_zero, List.set_cons_succ] at S_; clear S; have S := S_; clear S_) | (refine ev_rowput (enc := Value.string) (h1 := fun _ => rfl) (e := 9) ByteArray.empty ⟨#[63]⟩ (g := g15) (i := i) (xs := own) S ?_ rfl rfl s9 rfl rfl (by repeat (first | exact Spot.here _ _ | apply Spot.there)) HIO.out ?_; (first | exact want0 rfl | exact want1 rfl rfl rfl rfl); intro w_ S_; clear S; have S := S_; clear S_) | go_in)
   refine ⟨⟨i + 1, own.set i ⟨#[63]⟩, by simp [HI1.out], by omega, ⟨by simpa using HO.out.1, ?_⟩, HCH, S⟩, ?_⟩
   ·have h1 := congrArg (List.drop 1) HO.out.2
    rw [List.drop_set_of_lt (by omega)]
    simpa [List.drop_drop, Nat.add_comm] using h1
   ·exact meas hlt HI1.out
  ·obtain rfl : i = xs.length := by omega
   have hd2 : decide ((xs.length : Int) < (xs.length : Int)) = false := decide_eq_false (by omega)
   go_wp2_with (first | (refine ev_owns (vs := [_]) S ?_ rfl m29 rfl (by repeat (first | exact Spot.here _ _ | apply Spot.there)) (by exact rfl) ?_; (first | exact want0 rfl | exact want1 rfl rfl rfl rfl)) | (refine ev_puts S ?_ rfl rfl s29 rfl rfl (by repeat (first | exact Spot.here _ _ | apply Spot.there)) rfl ?_ ?_ ?_; (first | exact want0 rfl | exact want1 rfl rfl rfl rfl); rfl; rfl; intro w_ S_; simp only [putAt, List.set_cons_zero, List.set_cons_succ] at S_; clear S; have S := S_; clear S_) | (refine ev_rowput (enc := Value.string) (h1 := fun _ => rfl) (e := 9) ByteArray.empty ⟨#[63]⟩ (g := g15) (i := i) (xs := own) S ?_ rfl rfl s9 rfl rfl (by repeat (first | exact Spot.here _ _ | apply Spot.there)) HIO.out ?_; (first | exact want0 rfl | exact want1 rfl rfl rfl rfl); intro w_ S_; clear S; have S := S_; clear S_) | go_in)
   refine retN (rs := [.cell 6 29, .tmp 7]) rfl rfl ?_ (Bk.vals S rfl (by repeat (first | exact Spot.here _ _ | apply Spot.there)) m29 (by exact rfl) (.tmp .nil)) ?_
   ·simp
   exact ⟨_, rfl, did_end HG.out HFAR.out HP.out HCH.out HV4.out S (by repeat (first | exact Spot.here _ _ | apply Spot.there)) (by repeat (first | exact Spot.here _ _ | apply Spot.there)) (by repeat (first | exact Spot.here _ _ | apply Spot.there)) (by repeat (first | exact Spot.here _ _ | apply Spot.there)) HHS1.out (Nat.le_refl _) HHG1.out HG4.out⟩

set_option maxRecDepth 100000 in
set_option maxHeartbeats 16000000 in
theorem do_remove (g bm n : Nat) (f : ByteArray → Option Nat) (G : List S73) (P : Nat → Prop) (Ar : Option Addr) (cr : Nat) (kind : Int) (s : ByteArray) (A : Option Addr) (c : Nat) (xs : List ByteArray) (w : World) (h : Gr w g bm n f G) (hfar : Far bm f) (hn : n < 1000000) (hl : G.length < 1000) (hV : Kd.V k73 73 w w.heap.size P (.slice Ar G.length cr) G)
  (hP : ∀ k, P k → ¬ k = bm ∧ k < w.heap.size ∧ ∀ s, f s ≠ some k) (hs : s.size ≤ maxLen) (hCN : ∀ W', w.grownBy W' (some bm) → Kd.C Kd.string W' A xs.length xs) (hxc : xs.length ≤ c) (hsz : ∀ x ∈ xs, x.size ≤ maxLen) (hx : xs.length ≤ 1000) (hk : (Int.tmod kind 4 == 2) = true) :
  Calls Try.prog 11 #[.pointer (some ⟨g, 0, none⟩), .agg #[.slice Ar G.length cr], .agg #[.int .u8 kind, .string s, .slice A xs.length c]] w fun z w' => ∃ v, z = .returned (.tuple #[.agg #[v], .bool true]) ∧ ∃ n' f' D, Did w w' g bm n f (aftRem G s) P n' f' D v := by
 have HG := Aside0.mk h
 have HFAR := Aside0.mk hfar
 have HV := Aside0.mk hV
 have HP := Aside0.mk hP
 have HPB := Aside0.mk (fun k hk => (hP k hk).1)
 have HS := Aside0.mk hs
 have HCN := Aside0.mk hCN
 have HXC := Aside0.mk hxc
 have HSZ := Aside0.mk hsz
 have HXL := Aside0.mk hx
 have HXL2 := Aside0.mk (show xs.length ≤ 1000000 by omega)
 have HNN := Aside0.mk hn
 have HLL := Aside0.mk hl
 have HL2 := Aside0.mk (show G.length ≤ 1000 by omega)
 have HPRG := Aside0.mk (fun (W : World) (h1 : Gr W g bm n f G) => remove_all h1 HFAR.out HS.out)
 have HREF := Aside0.mk (fun (W : World) (h1 : Kd.V k73 73 W W.heap.size P (.slice Ar G.length cr) G) (hC : Kd.C Kd.string W A xs.length xs) => rremove_all (s := s) h1 HG.out.good HL2.out)
 obtain ⟨e, he⟩ : ∃ e, e = errRem G s := ⟨_, rfl⟩
 obtain ⟨G', hG'⟩ : ∃ G', G' = aftRem G s := ⟨_, rfl⟩
 simp only [← he, ← hG'] at HPRG HREF ⊢
 have hee : (e == e) = true := by simp
 have S := start_map h.map
 clear h hfar hV hP hs hCN hxc hsz hx hn hl he hG'
 go_enter Try.func11, Try.ntmps11
 go_wp2_with (first | ((with_reducible refine gate_dst (N := 4) rfl ?_); refine ev_boxs S ?_ 4 rfl rfl rfl ?_; (first | exact want0 rfl | exact want1 rfl rfl rfl rfl); intro g4 w4 S_; clear S; have S := S_; clear S_) | ((with_reducible refine gate_dst (N := 5) rfl ?_); refine ev_boxs S ?_ 5 rfl rfl rfl ?_; (first | exact want0 rfl | exact want1 rfl rfl rfl rfl); intro g5 w5 S_; clear S; have S := S_; clear S_) | ((with_reducible refine gate_dst (N := 6) rfl ?_); refine ev_alloc #[.slice none 0 0] rfl S ?_ 6 rfl rfl Ty.z29 ?_; (first | exact want0 rfl | exact want1 rfl rfl rfl rfl); intro g6 w6 S_; clear S; have S := S_; clear S_) | (refine ev_owns (vs := [_]) S ?_ rfl m29 rfl (by repeat (first | exact Spot.here _ _ | apply Spot.there)) (by exact rfl) ?_; (first | exact want0 rfl | exact want1 rfl rfl rfl rfl)) | (refine ev_puts S ?_ rfl rfl s29 rfl rfl (by repeat (first | exact Spot.here _ _ | apply Spot.there)) rfl ?_ ?_ ?_; (first | exact want0 rfl | exact want1 rfl rfl rfl rfl); rfl; rfl; intro w_ S_; simp only [putAt, List.set_cons_zero, List.set_cons_succ] at S_; clear S; have S := S_; clear S_) | (refine ev_own1 S ?_ rfl o5 rfl (by repeat (first | exact Spot.here _ _ | apply Spot.there)) (by exact rfl) ?_; (first | exact want0 rfl | exact want1 rfl rfl rfl rfl)) | (refine ev_own1 S ?_ rfl o9 rfl (by repeat (first | exact Spot.here _ _ | apply Spot.there)) (by exact rfl) ?_; (first | exact want0 rfl | exact want1 rfl rfl rfl rfl)) | (refine ev_own1 S ?_ rfl o32 rfl (by repeat (first | exact Spot.here _ _ | apply Spot.there)) (by exact rfl) ?_; (first | exact want0 rfl | exact want1 rfl rfl rfl rfl)) | ((with_reducible refine gate_dst (N := 12) rfl ?_); refine ev_lit (enc := Value.string) (h1 := fun _ => rfl) (e := 9) ([] : List ByteArray) S rfl 12 rfl ?hrun (by simp) ?_; (case hrun => first | (go_simp; done) | (go_simp; rfl)); intro A12 c12 w_ S_; clear S; have S := S_; clear S_) | (((with_reducible refine gate_builtin (b := .append) (xs := #[.tmp 12, .tmp 14]) rfl ?_); at_builtin; refine ev_rows (enc := Value.string) (h1 := fun _ => rfl) (e := 9) ByteArray.empty (.tmp 12) (.tmp 14) 32 (.string ⟨#[]⟩) 16 (xs := []) (ys := xs) S rfl rfl Try.underlying32 info9 rfl (by decide) rfl rfl (by repeat (first | exact Spot.here _ _ | apply Spot.there)) rfl (HCN.out _ (grown_of S (by repeat (first | exact Spot.here _ _ | apply Spot.there)))) (by have := HXL.out; simp only [List.length_nil]; omega) ?_; intro A15 c15 w_ S_; simp only [List.nil_append] at S_ ⊢; clear S; have S := S_; clear S_)) | (go_at_call 22; obtain ⟨w1, rfl, hs1, hg1⟩ := world_name S (by repeat (first | exact Spot.here _ _ | apply Spot.there)); have HHS1 := Aside0.mk hs1; have HHG1 := Aside0.mk hg1; clear hs1 hg1; have c_ := HPRG.out _ (gr_now HG.out HFAR.out S (by repeat (first | exact Spot.here _ _ | apply Spot.there)) (by repeat (first | exact Spot.here _ _ | apply Spot.there))); (with_reducible refine c_.mono ?_); clear c_; rintro z_ w2 ⟨rfl, n', f', hc_⟩; have S_ := chg_step S (by repeat (first | exact Spot.here _ _ | apply Spot.there)) hc_; have HCH := Aside0.mk hc_; clear hc_; clear S; have S := S_; clear S_) | (go_at_call 25; have c_ := HREF.out w2 (v_now HV.out HPB.out S (by repeat (first | exact Spot.here _ _ | apply Spot.there))) (HCN.out _ (grown_of S (by repeat (first | exact Spot.here _ _ | apply Spot.there)))); (with_reducible refine c_.mono ?_); clear c_; rintro z_ w4 ⟨v_, rfl, hv_, hb_⟩; obtain ⟨A5, c5, rfl⟩ := Kd.V_slice hv_; have S_ := new_step S hb_; have HV4 := Aside0.mk hv_; have HG4 := Aside0.mk (grown_of S_ (by repeat (first | exact Spot.here _ _ | apply Spot.there))); clear hv_ hb_; clear S; have S := S_; clear S_) | go_in)
 go_loopw [11] (fun v11 wr => ∃ (i : Nat) (own : List ByteArray), v11 = .int .i64 i ∧ i ≤ xs.length ∧ Aside0 (own.length = xs.length ∧ own.drop i = xs.drop i) ∧ Aside0 (Chg w1 w2 g bm n f G' n' f') ∧ Aside0 (St 0 w wr [Still w4 (fun k => w2.heap.size ≤ k), Still w2 (fun k => w1.heap.size ≤ k), Own Kd.string 9 A15 c15 own, Bk g6 #[.slice none 0 0] 29, Bk g5 #[.int .u8 kind, .string s, .slice A xs.length c] 34, Bk g4 #[.slice A5 G'.length c5] 29, MapB bm n' f', Still w (fun k => ¬ k = bm)])) (fun v11 _ => xs.length - (intOf v11).toNat)
 case atStart => exact ⟨0, xs, rfl, Nat.zero_le _, ⟨rfl, rfl⟩, HCH, S⟩
 case round =>
  clear S HCH
  obtain ⟨i, own, rfl, hi, HO, HCH, S⟩ := hrel
  by_cases hlt : i < xs.length
  ·have hd2 : decide ((i : Int) < (xs.length : Int)) = true := decide_eq_true (by omega)
   have hil : (i : Int) < (xs.length : Int) := by omega
   have hi0 : (0 : Int) ≤ (i : Int) := by omega
   have HI1 := Aside0.mk (show wrap64 ((i : Int) + 1) = ((i + 1 : Nat) : Int) by have := HXL.out; unfold wrap64; omega)
   have hio : i < own.length := by have := HO.out.1; omega
   have HIO := Aside0.mk hio
   obtain ⟨g15, rfl⟩ := Own.form (pred_at S.out (a := Own Kd.string 9 A15 c15 own) (by repeat (first | exact Spot.here _ _ | apply Spot.there))) (by omega)
   have hox : own[i]? = some (xs.getD i ByteArray.empty) := by
    have h1 := congrArg (fun l : List ByteArray => l[0]?) HO.out.2
    simp only [List.getElem?_drop, Nat.add_zero] at h1
    rw [h1, List.getElem?_eq_getElem hlt]; simp [hlt]
   obtain ⟨ad, rfl, hXI⟩ := strC_drop (HCN.out _ (grown_of S (by repeat (first | exact Spot.here _ _ | apply Spot.there)))) i hlt
   generalize xs.getD i ByteArray.empty = x at *
   have HOX := Aside0.mk hox
   have HXI := Aside0.mk hXI
   have hxx : (x.toList != x.toList) = false := by simp
   clear hox hXI hio
   go_wp2
   have S2 := Aside0.mk S.out.drew
   clear S
   refine start_ (n := 10) (S := fun w' => w'.cell? ⟨g15, i, none⟩ = some (.string x) ∧ w'.cell? ⟨g5, 2, none⟩ = some (.slice (some ad) xs.length c) ∧ w'.cell? (ad.add i) = some (.string x)) (ds := []) (bt 10 0) (by kernel_rfl) rfl rfl ⟨(row_cell (pred_at S2.out (a := Own Kd.string 9 (some ⟨g15, 0, none⟩) c15 own) (by repeat (first | exact Spot.here _ _ | apply Spot.there))) HOX.out), ((own_cell (g := g5) S2 (by repeat (first | exact Spot.here _ _ | apply Spot.there)) 2).trans rfl), HXI.out⟩ (fun hHeld => ?_)
   refine pur 0 68 (bt 10 1) ?_
   refine pur 1 69 (bt 10 3) ?_
   refine pur 2 70 (bt 10 7) ?_
   refine pur 4 72 (bt 10 23) ?_
   refine pur 6 74 (bt 10 87) ?_
   refine tak 3 71 (bt 10 95) hHeld ?_
   refine tak 5 73 (bt 10 127) hHeld ?_
   refine pur 7 75 (bt 10 255) ?_
   refine tak 8 76 (bt 10 511) hHeld ?_
   refine pur 9 77 (bt 10 1023) ?_
   refine done_ (by kernel_rfl) ?_

   have S := S2
   clear S2
   go_wp2_with (first | (refine ev_owns (vs := [_]) S ?_ rfl m29 rfl (by repeat (first | exact Spot.here _ _ | apply Spot.there)) (by exact rfl) ?_; (first | exact want0 rfl | exact want1 rfl rfl rfl rfl)) | (refine ev_puts S ?_ rfl rfl s29 rfl rfl (by repeat (first | exact Spot.here _ _ | apply Spot.there)) rfl ?_ ?_ ?_; (first | exact want0 rfl | exact want1 rfl rfl rfl rfl); rfl; rfl; intro w_ S_; simp only [putAt, List.set_cons_zero, List.set_cons_succ] at S_; clear S; have S := S_; clear S_) | (refine ev_rowput (enc := Value.string) (h1 := fun _ => rfl) (e := 9) ByteArray.empty ⟨#[63]⟩ (g := g15) (i := i) (xs := own) S ?_ rfl rfl s9 rfl rfl (by repeat (first | exact Spot.here _ _ | apply Spot.there)) HIO.out ?_; (first | exact want0 rfl | exact want1 rfl rfl rfl rfl); intro w_ S_; clear S; have S := S_; clear S_) | go_in)
   refine ⟨⟨i + 1, own.set i ⟨#[63]⟩, by simp [HI1.out], by omega, ⟨by simpa using HO.out.1, ?_⟩, HCH, S⟩, ?_⟩
   ·have h1 := congrArg (List.drop 1) HO.out.2
    rw [List.drop_set_of_lt (by omega)]
    simpa [List.drop_drop, Nat.add_comm] using h1
   ·exact meas hlt HI1.out
  ·obtain rfl : i = xs.length := by omega
   have hd2 : decide ((xs.length : Int) < (xs.length : Int)) = false := decide_eq_false (by omega)
   go_wp2_with (first | (refine ev_owns (vs := [_]) S ?_ rfl m29 rfl (by repeat (first | exact Spot.here _ _ | apply Spot.there)) (by exact rfl) ?_; (first | exact want0 rfl | exact want1 rfl rfl rfl rfl)) | (refine ev_puts S ?_ rfl rfl s29 rfl rfl (by repeat (first | exact Spot.here _ _ | apply Spot.there)) rfl ?_ ?_ ?_; (first | exact want0 rfl | exact want1 rfl rfl rfl rfl); rfl; rfl; intro w_ S_; simp only [putAt, List.set_cons_zero, List.set_cons_succ] at S_; clear S; have S := S_; clear S_) | (refine ev_rowput (enc := Value.string) (h1 := fun _ => rfl) (e := 9) ByteArray.empty ⟨#[63]⟩ (g := g15) (i := i) (xs := own) S ?_ rfl rfl s9 rfl rfl (by repeat (first | exact Spot.here _ _ | apply Spot.there)) HIO.out ?_; (first | exact want0 rfl | exact want1 rfl rfl rfl rfl); intro w_ S_; clear S; have S := S_; clear S_) | go_in)
   refine retN (rs := [.cell 6 29, .tmp 7]) rfl rfl ?_ (Bk.vals S rfl (by repeat (first | exact Spot.here _ _ | apply Spot.there)) m29 (by exact rfl) (.tmp .nil)) ?_
   ·simp
   exact ⟨_, rfl, did_end HG.out HFAR.out HP.out HCH.out HV4.out S (by repeat (first | exact Spot.here _ _ | apply Spot.there)) (by repeat (first | exact Spot.here _ _ | apply Spot.there)) (by repeat (first | exact Spot.here _ _ | apply Spot.there)) (by repeat (first | exact Spot.here _ _ | apply Spot.there)) HHS1.out (Nat.le_refl _) HHG1.out HG4.out⟩
end Go.Proofs.Ytaomemhnjpemiaa.Mp
