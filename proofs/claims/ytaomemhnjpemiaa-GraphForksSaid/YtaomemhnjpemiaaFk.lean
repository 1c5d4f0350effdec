/- A fork is its own. -/
import Derived.Test.YtaomemhnjpemiaaSd
import Derived.Test.YtaomemhnjpemiaaNil
namespace Go.Proofs.Ytaomemhnjpemiaa.Mp
open Go Go.Maps Go.RowKit Go.Proofs.Ytaomemhnjpemiaa.PB Go.Proofs.Ytaomemhnjpemiaa.Doc Go.Proofs.Ytaomemhnjpemiaa.Sep Go.Proofs.Ytaomemhnjpemiaa.Ev Go.Proofs.Ytaomemhnjpemiaa.Ty Go.Proofs.YtaomemhnjpemiaaW.PrintWords Go.Proofs.YtaomemhnjpemiaaW.PrintLast Go.Proofs.YtaomemhnjpemiaaW.PrintMore
set_option linter.unusedVariables false
set_option linter.unusedSimpArgs false

section
variable {B : Nat} {w W W' : World} {L : List Asn} {F : Asn → List Asn} {x : Gd} {l : List Gd} {D : Nat → Prop} {Ar A : Option Addr} {cr c : Nat} {kind : Int} {s : ByteArray} {xs : List ByteArray} {R : Asn}
theorem do_ev2 (S : Aside0 (St w.heap.size w W (GAs (x :: l) :: both (View k73 73 D (.slice Ar x.G.length cr) x.G) R :: L))) (hn : x.n < 1000000) (hl : x.G.length < 1000) (hs : s.size ≤ maxLen) (hC : Kd.C Kd.string w A xs.length xs) (hxc : xs.length ≤ c) (hsz : ∀ x ∈ xs, x.size ≤ maxLen) (hx : xs.length ≤ 1000) :
  Calls Try.prog 11 #[.pointer (some ⟨x.g, 0, none⟩), .agg #[.slice Ar x.G.length cr], .agg #[.int .u8 kind, .string s, .slice A xs.length c]] W fun z W' => ∃ n' f' D' A' c', z = .returned (.tuple #[.agg #[.slice A' (aft x.G kind s xs).length c'], .bool true]) ∧ n' ≤ x.n + 1 ∧
   Aside0 (St w.heap.size w W' (GAs (⟨x.g, x.bm, n', f', aft x.G kind s xs⟩ :: l) :: both (View k73 73 D' (.slice A' (aft x.G kind s xs).length c') (aft x.G kind s xs)) R :: L)) := by
 have h1 : Spot (GAs (x :: l) :: both (View k73 73 D (.slice Ar x.G.length cr) x.G) R :: L) (GAs (x :: l)) _ := .here _ _
 have h2 : Spot (GAs (x :: l) :: both (View k73 73 D (.slice Ar x.G.length cr) x.G) R :: L) (both (View k73 73 D (.slice Ar x.G.length cr) x.G) R) _ := .there _ (.here _ _)
 have hV := both_l S h2
 have hR := both_r S h2
 have hap : ∀ k, ((View k73 73 D (.slice Ar x.G.length cr) x.G).foot k ∨ R.foot k) → (GAs (x :: l)).foot k → False := fun k hk1 hk2 => (List.pairwise_cons.1 S.out.apart).1 (both (View k73 73 D (.slice Ar x.G.length cr) x.G) R) (by simp) k hk2 hk1
 have hP : ∀ k, D k → ¬ k = x.bm ∧ k < W.heap.size ∧ ∀ s, x.f s ≠ some k := fun k hk =>
  ⟨fun e => hap k (.inl (View.at hk)) (GAs.foot_iff.2 ⟨x, by simp, .inr (.inl e)⟩), View.lt' hV k hk, fun s hs => hap k (.inl (View.at hk)) (GAs.foot_iff.2 ⟨x, by simp, .inr (.inr ⟨s, hs⟩)⟩)⟩
 have hPg : ∀ k, (D k ∨ R.foot k) → ∀ y ∈ x :: l, ¬ y.foot k := fun k hk y hy hf => hap k (hk.imp_left View.at) (GAs.foot_iff.2 ⟨y, hy, hf⟩)
 have hcalls : Calls Try.prog 11 #[.pointer (some ⟨x.g, 0, none⟩), .agg #[.slice Ar x.G.length cr], .agg #[.int .u8 kind, .string s, .slice A xs.length c]] W fun z w' => ∃ v, z = .returned (.tuple #[.agg #[v], .bool true]) ∧ ∃ n' f' D', Did W w' x.g x.bm x.n x.f (aft x.G kind s xs) D n' f' D' v := by
  unfold aft
  by_cases hk : (Int.tmod kind 4 == 2) = true
  ·rw [if_pos hk]
   exact (do_remove x.g x.bm x.n x.f x.G D Ar cr kind s A c xs W (gr_at S h1) (far_at S h1) hn hl (View.v hV _) hP hs (old_far S h1 hC) hxc hsz hx hk)
  ·rw [if_neg hk]
   by_cases hk3 : (Int.tmod kind 4 == 3) = true
   ·rw [if_pos hk3]
    exact (do_turn x.g x.bm x.n x.f x.G D Ar cr kind s A c xs W (gr_at S h1) (far_at S h1) hn hl (View.v hV _) hP hs (old_far S h1 hC) hxc hsz hx (by simpa using hk) hk3)
   ·rw [if_neg hk3]
    exact (do_add x.g x.bm x.n x.f x.G D Ar cr kind s A c xs W (gr_at S h1) (far_at S h1) hn hl (View.v hV _) hP hs (old_far S h1 hC) hxc hsz hx (by simpa using hk) (by simpa using hk3))
 refine hcalls.mono ?_
 rintro z W' ⟨v, rfl, n', f', D', d⟩
 obtain ⟨A', c', rfl⟩ := Kd.V_slice d.view
 refine ⟨n', f', fun k => D' k ∧ k < W'.heap.size, A', c', rfl, d.cnt, ⟨?_⟩⟩
 have hG := (turn_at S.out h1 d.grown.os d.grown.tape d.grown.output d.grown.size (fun k hk hn => d.grown.block k hk (fun e => hn (GAs.foot_iff.2 ⟨x, by simp, .inr (.inl (Option.some.inj e))⟩))) (GAs.mk (gds_chg (gds_at S h1) d.grown d.gr d.new)) (fun k hk => foot_chg d.new hk))
 have hrest := hG.drop (L' := GAs (⟨x.g, x.bm, n', f', aft x.G kind s xs⟩ :: l) :: L) ((List.sublist_cons_self _ _).cons_cons _)
 have hLlt : ∀ b ∈ L, ∀ k, b.foot k → k < W.heap.size := fun b hb k hk => b.lt (S.out.holds b (by simp [hb])) k hk
 have hLD : ∀ b ∈ L, ∀ k, b.foot k → ¬ (D k ∨ R.foot k) := fun b hb k hk hd => by
  have h5 := (List.pairwise_cons.1 S.out.apart).2
  exact (List.pairwise_cons.1 h5).1 b hb k (hd.imp_left View.at) hk
 have hD : ∀ k, ((View k73 73 (fun k => D' k ∧ k < W'.heap.size) (.slice A' (aft x.G kind s xs).length c') (aft x.G kind s xs)).foot k ∨ R.foot k) → ((D k ∨ R.foot k) ∨ W.heap.size ≤ k) ∧ ((D k ∨ R.foot k) ∨ ∀ s, f' s ≠ some k) := fun k hk => by
  rcases hk with hk | hk
  ·have h5 := d.data k (View.foot hk).1
   exact ⟨h5.1.imp_left .inl, .inr h5.2.2⟩
  ·exact ⟨.inl (.inr hk), .inl (.inr hk)⟩
 have hR' : R.pred W' := R.move (fun k hk => d.grown.block k (R.lt hR k hk) (fun e => hPg k (.inr hk) x (by simp) (.inr (.inl (Option.some.inj e))))) hR
 have hsw := (hrest.cons (both (View k73 73 (fun k => D' k ∧ k < W'.heap.size) (.slice A' (aft x.G kind s xs).length c') (aft x.G kind s xs)) R) ⟨View.mk d.view, hR'⟩ (fun k hk => ?_) (fun b hb k hk1 hk2 => ?_))
 ·exact hsw.swap (List.Perm.swap _ _ _)
 ·rcases (hD k hk).1 with h5 | h5
  ·exact new_at S.out h2 k (h5.imp_left View.at)
  ·exact Nat.le_trans S.out.leW h5
 ·obtain ⟨h5, h6⟩ := hD k hk1
  rcases List.mem_cons.1 hb with rfl | hb
  ·obtain ⟨y, hy, h7⟩ := GAs.foot_iff.1 hk2
   rcases List.mem_cons.1 hy with rfl | hy
   ·rcases h7 with h7 | h7 | ⟨s', h7⟩
    ·rcases h5 with h8 | h8
     ·exact hPg k h8 x (by simp) (.inl h7)
     ·have h9 : x.g < W.heap.size := (gr_at S h1).lt
      have h10 : k = x.g := h7
      omega
    ·rcases h5 with h8 | h8
     ·exact hPg k h8 x (by simp) (.inr (.inl h7))
     ·have h9 : x.bm < W.heap.size := (gr_at S h1).map.lt
      have h10 : k = x.bm := h7
      omega
    ·rcases h6 with h8 | h8
     ·rcases d.new s' k h7 with h9 | h9
      ·exact hPg k h8 x (by simp) (.inr (.inr ⟨s', h9⟩))
      ·have h10 : k < W.heap.size := by
        rcases h8 with h8 | h8
        ·exact View.lt' hV k h8
        ·exact R.lt hR k h8
       omega
     ·exact h8 s' h7
   ·rcases h5 with h8 | h8
    ·exact hPg k h8 y (List.mem_cons_of_mem _ hy) h7
    ·have h9 := Gd.at_lt ((gds_at S h1).gr y (List.mem_cons_of_mem _ hy)) h7
     omega
  ·rcases h5 with h8 | h8
   ·exact hLD b hb k hk2 h8
   ·have h9 := hLlt b hb k hk2
    omega
theorem same_evm {y : Gd} (S : Aside0 (St B w W L)) (h1 : Spot L (GAs l) F) (hy : y ∈ l) (hV : Kd.V k73 73 W W.heap.size D (.slice Ar y.G.length cr) y.G) {a b : ByteArray} (ha : a.size ≤ maxLen) (hb : b.size ≤ maxLen) :
  Calls Try.prog 12 #[.pointer (some ⟨y.g, 0, none⟩), .agg #[.slice Ar y.G.length cr], .string a, .string b] W fun z W' => z = .returned (.bool true) ∧ Aside0 (St B w W' L) := by
 refine (same_calls y.g y.bm y.n y.f y.G D Ar cr a b W ((gds_at S h1).gr y hy) hV ha hb).mono ?_
 rintro z W' ⟨rfl, h3⟩
 exact ⟨rfl, ⟨S.out.keep h3⟩⟩
theorem two_views {v : Value} {G : List S73} (S : Aside0 (St B w W L)) (hs : Spot L (View k73 73 D v G) F) : Aside0 (St B w W (F (both (View k73 73 D v G) (View k73 73 D v G)))) :=
 ⟨swap_at S.out hs ⟨pred_at S.out hs, pred_at S.out hs⟩ (fun k hk => hk.elim id id)⟩
end

set_option maxRecDepth 100000 in
set_option maxHeartbeats 16000000 in
theorem forks (A0 : Option Addr) (l : List S34) (c0 : Nat) (A1 : Option Addr) (m : List S34) (c1 : Nat) (w : World) (hC : Kd.C k34 w A0 l.length l) (hc : l.length ≤ c0) (hok : Ok34 l) (hC1 : Kd.C k34 w A1 m.length m) (hc1 : m.length ≤ c1) (hok1 : Ok34 m) :
  Calls Try.prog 6 #[.slice A0 l.length c0, .slice A1 m.length c1] w fun z w' => z = .returned (.bool true) ∧ Below w.heap.size w w' := by
 have HC := Aside0.mk hC
 have HCC := Aside0.mk hc
 have HOK := Aside0.mk hok
 obtain ⟨kf, b, hf, hfb⟩ := few_ok l
 have HFW := Aside0.mk hf
 have HFB := Aside0.mk hfb
 have S := Aside0.mk (St.start w)
 clear hC hc hok hf hfb
 have HC1 := Aside0.mk hC1
 have HCC1 := Aside0.mk hc1
 have HOK1 := Aside0.mk hok1
 obtain ⟨kf1, b1, hf1, hfb1⟩ := few_ok m
 have HFW1 := Aside0.mk hf1
 have HFB1 := Aside0.mk hfb1
 clear hC1 hc1 hok1 hf1 hfb1
 cases b with
 | false =>
  go_enter Try.func6, Try.ntmps6
  go_wp2_with (first | (go_at_call 8; have c_ := budwoodlaw14_few.calls _ A0 c0 l _ _ (Kd.C_below HC.out S.out.below) HCC.out HFW.out; (with_reducible refine c_.mono ?_); clear c_; rintro z_ w_ ⟨rfl, hb_⟩; have S_ := Aside0.mk (S.out.keep hb_); clear hb_; clear S; have S := S_; clear S_) | (go_at_call 8; have c_ := budwoodlaw14_few.calls _ A1 c1 m _ _ (Kd.C_below HC1.out S.out.below) HCC1.out HFW1.out; (with_reducible refine c_.mono ?_); clear c_; rintro z_ w_ ⟨rfl, hb_⟩; have S_ := Aside0.mk (S.out.keep hb_); clear hb_; clear S; have S := S_; clear S_) | (go_at_call 9; (with_reducible refine (awake_calls _).mono ?_); rintro z_ w_ ⟨rfl, hb_⟩; have S_ := Aside0.mk (S.out.keep hb_); clear hb_; clear S; have S := S_; clear S_) | (go_at_call 10; have c_ := new_ev S; (with_reducible refine c_.mono ?_); clear c_; rintro z_ w_ ⟨g, bm, rfl, S_⟩; clear S; have S := S_; clear S_) | ((with_reducible refine gate_dst (N := 6) rfl ?_); refine ev_alloc #[.slice none 0 0] rfl S ?_ 6 rfl rfl Ty.z29 ?_; (first | exact want0 rfl | exact want1 rfl rfl rfl rfl); intro g6 w6 S_; clear S; have S := S_; clear S_) | (refine ev_puts S ?_ rfl rfl s29 rfl rfl (by repeat (first | exact Spot.here _ _ | apply Spot.there)) rfl ?_ ?_ ?_; (first | exact want0 rfl | exact want1 rfl rfl rfl rfl); rfl; rfl; intro w_ S_; simp only [putAt, List.set_cons_zero, List.set_cons_succ] at S_; clear S; have S := S_; clear S_) | (refine ev_owns (vs := [_]) S ?_ rfl m29 rfl (by repeat (first | exact Spot.here _ _ | apply Spot.there)) (by exact rfl) ?_; (first | exact want0 rfl | exact want1 rfl rfl rfl rfl)) | go_in)
  go_ret
  exact ⟨rfl, S.out.below⟩
 | true =>
  cases b1 with
  | false =>
   go_enter Try.func6, Try.ntmps6
   go_wp2_with (first | (go_at_call 8; have c_ := budwoodlaw14_few.calls _ A0 c0 l _ _ (Kd.C_below HC.out S.out.below) HCC.out HFW.out; (with_reducible refine c_.mono ?_); clear c_; rintro z_ w_ ⟨rfl, hb_⟩; have S_ := Aside0.mk (S.out.keep hb_); clear hb_; clear S; have S := S_; clear S_) | (go_at_call 8; have c_ := budwoodlaw14_few.calls _ A1 c1 m _ _ (Kd.C_below HC1.out S.out.below) HCC1.out HFW1.out; (with_reducible refine c_.mono ?_); clear c_; rintro z_ w_ ⟨rfl, hb_⟩; have S_ := Aside0.mk (S.out.keep hb_); clear hb_; clear S; have S := S_; clear S_) | (go_at_call 9; (with_reducible refine (awake_calls _).mono ?_); rintro z_ w_ ⟨rfl, hb_⟩; have S_ := Aside0.mk (S.out.keep hb_); clear hb_; clear S; have S := S_; clear S_) | (go_at_call 10; have c_ := new_ev S; (with_reducible refine c_.mono ?_); clear c_; rintro z_ w_ ⟨g, bm, rfl, S_⟩; clear S; have S := S_; clear S_) | ((with_reducible refine gate_dst (N := 6) rfl ?_); refine ev_alloc #[.slice none 0 0] rfl S ?_ 6 rfl rfl Ty.z29 ?_; (first | exact want0 rfl | exact want1 rfl rfl rfl rfl); intro g6 w6 S_; clear S; have S := S_; clear S_) | (refine ev_puts S ?_ rfl rfl s29 rfl rfl (by repeat (first | exact Spot.here _ _ | apply Spot.there)) rfl ?_ ?_ ?_; (first | exact want0 rfl | exact want1 rfl rfl rfl rfl); rfl; rfl; intro w_ S_; simp only [putAt, List.set_cons_zero, List.set_cons_succ] at S_; clear S; have S := S_; clear S_) | (refine ev_owns (vs := [_]) S ?_ rfl m29 rfl (by repeat (first | exact Spot.here _ _ | apply Spot.there)) (by exact rfl) ?_; (first | exact want0 rfl | exact want1 rfl rfl rfl rfl)) | go_in)
   go_ret
   exact ⟨rfl, S.out.below⟩
  | true =>
   go_enter Try.func6, Try.ntmps6
   go_wp2_with (first | (go_at_call 8; have c_ := budwoodlaw14_few.calls _ A0 c0 l _ _ (Kd.C_below HC.out S.out.below) HCC.out HFW.out; (with_reducible refine c_.mono ?_); clear c_; rintro z_ w_ ⟨rfl, hb_⟩; have S_ := Aside0.mk (S.out.keep hb_); clear hb_; clear S; have S := S_; clear S_) | (go_at_call 8; have c_ := budwoodlaw14_few.calls _ A1 c1 m _ _ (Kd.C_below HC1.out S.out.below) HCC1.out HFW1.out; (with_reducible refine c_.mono ?_); clear c_; rintro z_ w_ ⟨rfl, hb_⟩; have S_ := Aside0.mk (S.out.keep hb_); clear hb_; clear S; have S := S_; clear S_) | (go_at_call 9; (with_reducible refine (awake_calls _).mono ?_); rintro z_ w_ ⟨rfl, hb_⟩; have S_ := Aside0.mk (S.out.keep hb_); clear hb_; clear S; have S := S_; clear S_) | (go_at_call 10; have c_ := new_ev S; (with_reducible refine c_.mono ?_); clear c_; rintro z_ w_ ⟨g, bm, rfl, S_⟩; clear S; have S := S_; clear S_) | ((with_reducible refine gate_dst (N := 6) rfl ?_); refine ev_alloc #[.slice none 0 0] rfl S ?_ 6 rfl rfl Ty.z29 ?_; (first | exact want0 rfl | exact want1 rfl rfl rfl rfl); intro g6 w6 S_; clear S; have S := S_; clear S_) | (refine ev_puts S ?_ rfl rfl s29 rfl rfl (by repeat (first | exact Spot.here _ _ | apply Spot.there)) rfl ?_ ?_ ?_; (first | exact want0 rfl | exact want1 rfl rfl rfl rfl); rfl; rfl; intro w_ S_; simp only [putAt, List.set_cons_zero, List.set_cons_succ] at S_; clear S; have S := S_; clear S_) | (refine ev_owns (vs := [_]) S ?_ rfl m29 rfl (by repeat (first | exact Spot.here _ _ | apply Spot.there)) (by exact rfl) ?_; (first | exact want0 rfl | exact want1 rfl rfl rfl rfl)) | go_in)
   have S1 := start_sys S
   clear S
   have S := S1
   clear S1
   go_loopw [7] (fun vi wr => ∃ (i n : Nat) (f : ByteArray → Option Nat) (G : List S73) (D : Nat → Prop) (Ar : Option Addr) (cr : Nat), vi = .int .i64 i ∧ i ≤ l.length ∧ Aside0 (n ≤ i) ∧ Aside0 (G.length ≤ i) ∧ Aside0 (NoRound G) ∧ Aside0 (St w.heap.size w wr [GAs [⟨g, bm, n, f, G⟩], View k73 73 D (.slice Ar G.length cr) G, Bk g6 #[.slice Ar G.length cr] 29])) (fun vi _ => l.length - (intOf vi).toNat)
   case atStart => exact ⟨0, 0, fun _ => none, [], fun _ => False, none, 0, rfl, Nat.zero_le _, ⟨Nat.le_refl _⟩, ⟨Nat.le_refl _⟩, ⟨noround_nil⟩, S⟩
   case round =>
    clear S
    obtain ⟨i, n, f, G, D, Ar, cr, rfl, hi, HNI, HGI, HNR, S⟩ := hrel
    by_cases hlt : i < l.length
    ·have HLI := Aside0.mk hlt
     have hd2 : decide ((i : Int) < (l.length : Int)) = true := decide_eq_true (by omega)
     have hil : (i : Int) < (l.length : Int) := by omega
     have hi0 : (0 : Int) ≤ (i : Int) := by omega
     have HI1 := Aside0.mk (show wrap64 ((i : Int) + 1) = ((i + 1 : Nat) : Int) by have := (HFB.out (by trivial)).1; unfold wrap64; omega)
     obtain ⟨ad, Ah, ch, rfl, hH, hxc, hch, hxm⟩ := act_at HC.out i hlt
     have HXS := Aside0.mk (HOK.out _ hxm)
     have HXL := Aside0.mk (show (rd_T34 l (i : Int)).f2.length ≤ 1000 from Nat.le_trans ((HFB.out (by trivial)).2 _ hxm) (by omega))
     generalize rd_T34 l (i : Int) = x at *
     have HH := Aside0.mk hH
     have HX1 := Aside0.mk (has_cell hH (by omega : (1 : Nat) ≠ 0) rfl)
     have HX2 := Aside0.mk (has_cell hH (by omega : (2 : Nat) ≠ 0) rfl)
     have HXC := Aside0.mk hxc
     have HCH := Aside0.mk hch
     clear hH hxc hch hxm
     have HN := Aside0.mk (show n < 1000000 by have := (HFB.out (by trivial)).1; have := HNI.out; omega)
     have HL := Aside0.mk (show G.length < 1000 by have := (HFB.out (by trivial)).1; have := HGI.out; omega)
     have HNR9 := Aside0.mk (noround_aft (gr_at S (by repeat (first | exact Spot.here _ _ | apply Spot.there))).good HNR.out x.f0 x.f1 x.f2)
     go_wp2
     have S2 := Aside0.mk S.out.drew
     clear S
     refine start_ (n := 11) (S := fun w' => w'.cell? ⟨g6, 0, none⟩ = some (.slice Ar G.length cr)) (ds := [10]) (bt 11 0) (by kernel_rfl) rfl rfl (((own_cell (g := g6) S2 (by repeat (first | exact Spot.here _ _ | apply Spot.there)) 0).trans rfl)) (fun hHeld => ?_)
     refine pur 0 32 (bt 11 1) ?_
     refine pur 2 34 (bt 11 5) ?_
     refine pur 3 35 (bt 11 13) ?_
     refine pur 4 36 (bt 11 29) ?_
     refine tak 1 33 (bt 11 31) hHeld ?_
     refine on1 5 37 (bt 11 63) (fun K hK => ?_)
     refine st_loads (N := some 37) (vs := [_, _, _]) (by rfl) rfl rfl m34 rfl (olds_ S2 HH.out) ?_
     refine hK.out _ _ (((own_cell (g := g6) S2 (by repeat (first | exact Spot.here _ _ | apply Spot.there)) 0).trans rfl)) (fun hHeld => ?_)
     clear hK K
     refine nrm ?_
     refine on1 6 38 (bt 11 127) (fun K hK => ?_)
     have c_ := do_ev (x := ⟨g, bm, n, f, G⟩) (kind := x.f0) (s := x.f1) (xs := x.f2) (A := Ah) (c := ch) S2 HN.out HL.out HXS.out.1 HCH.out HXC.out HXS.out.2 HXL.out
     refine goes_ Try.func11 (by kernel_rfl) rfl #[.pointer (some ⟨g, 0, none⟩), .agg #[.slice Ar G.length cr], .agg #[.int .u8 x.f0, .string x.f1, .slice Ah x.f2.length ch]] (by rfl) rfl rfl (by simp only [List.map_toArray, List.map_cons, List.map_nil]; rfl) ?_
     with_reducible refine (c_).mono ?_
     rintro z9 w9 ⟨n9, f9, D9, A9, c9, rfl, hn9, S9⟩
     clear c_
     (try dsimp only at S9 hn9)
     have HN9 := Aside0.mk hn9
     clear hn9
     generalize hG9 : aft G x.f0 x.f1 x.f2 = G9 at *
     refine ⟨_, rfl, ?_⟩
     refine hK.out _ _ (((own_cell (g := g6) S9 (by repeat (first | exact Spot.here _ _ | apply Spot.there)) 0).trans rfl)) (fun hHeld => ?_)
     clear hK K
     refine nrm ?_
     refine pur 7 31 (bt 11 255) ?_
     refine pur 8 39 (bt 11 511) ?_
     refine pur 9 40 (bt 11 1023) ?_
     refine last_ (i := 10) (N := none) (bt 11 2047) rfl rfl (by kernel_rfl) (by decide) (fun K hK => ?_)
     refine st_puts (g := g6) S9 (by rfl) rfl rfl s29 rfl rfl (by repeat (first | exact Spot.here _ _ | apply Spot.there)) rfl (by rfl) (by rfl) ?_
     intro w8 S8
     simp only [putAt, List.set_cons_zero, List.set_cons_succ] at S8
     refine hK.out _ _ ?_
     clear hK K
     refine done_ (by kernel_rfl) ?_

     clear S2 S9
     have S := S8
     clear S8
     go_wp2
     refine ⟨⟨i + 1, n9, f9, G9, D9, A9, c9, by simp [HI1.out], by omega, ⟨by have := HN9.out; have := HNI.out; omega⟩, ⟨by have h1 := aft_len G x.f0 x.f1 x.f2; rw [hG9] at h1; have := HGI.out; omega⟩, ⟨hG9 ▸ HNR9.out⟩, S⟩, meas hlt HI1.out⟩
    ·obtain rfl : i = l.length := by omega
     have hd2 : decide ((l.length : Int) < (l.length : Int)) = false := decide_eq_false (by omega)
     have HLL := Aside0.mk (show n < 1000000 ∧ G.length < 1000 by have := (HFB.out (by trivial)).1; have := HNI.out; have := HGI.out; omega)
     go_wp2
     have S1 := two_views S (by repeat (first | exact Spot.here _ _ | apply Spot.there))
     clear S
     have S := S1
     clear S1
     have S2 := Aside0.mk S.out.drew
     clear S
     refine start_ (n := 7) (S := fun w' => w'.cell? ⟨g6, 0, none⟩ = some (.slice Ar G.length cr)) (ds := []) (bt 7 0) (by kernel_rfl) rfl rfl (((own_cell (g := g6) S2 (by repeat (first | exact Spot.here _ _ | apply Spot.there)) 0).trans rfl)) (fun hHeld => ?_)
     refine pur 0 41 (bt 7 1) ?_
     refine tak 2 43 (bt 7 5) hHeld ?_
     refine join_ (σ := Nat × Nat × Nat) 3 (bt 7 15) (fun s => [(42, .pointer (some ⟨s.1, 0, none⟩)), (9, .pointer (some ⟨s.2.2, 0, none⟩))]) (fun s w' => Aside0 (St w.heap.size w w' [Bk s.2.2 #[.slice none 0 0] 29, GAs [⟨s.1, s.2.1, n, f, G⟩, ⟨g, bm, n, f, G⟩], both (View k73 73 D (.slice Ar G.length cr) G) (View k73 73 D (.slice Ar G.length cr) G), Bk g6 #[.slice Ar G.length cr] 29])) ?_ ?_
     rotate_left
     ·intro hCont
      refine two_ (i := 1) (j := 3) (Ni := some 42) (Nj := some 9) (bt 7 7) (bt 7 13) rfl rfl rfl rfl (by kernel_rfl) (by decide) (by decide) (fun K hK => ?_) (fun K hK => ?_)
      ·skip
       have c_ := fork_ev (x := ⟨g, bm, n, f, G⟩) S2 (by repeat (first | exact Spot.here _ _ | apply Spot.there))
       refine goes_ Try.func20 (by kernel_rfl) rfl #[.pointer (some ⟨g, 0, none⟩)] (by rfl) rfl rfl (by simp only [List.map_toArray, List.map_cons, List.map_nil]; rfl) ?_
       with_reducible refine (c_).mono ?_
       rintro z9 w5 ⟨gf, bf, rfl, S5⟩
       clear c_
       (try dsimp only at S5)
       refine ⟨_, rfl, ?_⟩
       refine hK.out _ _ (((own_cell (g := g6) S5 (by repeat (first | exact Spot.here _ _ | apply Spot.there)) 0).trans rfl)) (fun hHeld => ?_)
       clear hK K
       refine nrm ?_
       refine on1 3 9 (bt 7 15) (fun K hK => ?_)
       refine st_alloc #[.slice none 0 0] rfl S5 (want0 rfl) 9 rfl rfl Ty.z29 ?_
       intro g9 w6 S6
       refine hK.out _ _ (((own_cell (g := g6) S6 (by repeat (first | exact Spot.here _ _ | apply Spot.there)) 0).trans rfl)) (fun hHeld => ?_)
       clear hK K
       refine nrm ?_
       exact norm_ (by simp only [putAll, Act.put, List.setIfInBounds_toArray, List.set_cons_zero, List.set_cons_succ]) (hCont (gf, bf, g9) _ S6)
      ·skip
       refine st_alloc #[.slice none 0 0] rfl S2 (want0 rfl) 9 rfl rfl Ty.z29 ?_
       intro g9 w6 S6
       refine hK.out _ _ (((own_cell (g := g6) S6 (by repeat (first | exact Spot.here _ _ | apply Spot.there)) 0).trans rfl)) (fun hHeld => ?_)
       clear hK K
       refine nrm ?_
       refine on1 1 42 (bt 7 15) (fun K hK => ?_)
       have c_ := fork_ev (x := ⟨g, bm, n, f, G⟩) S6 (by repeat (first | exact Spot.here _ _ | apply Spot.there))
       refine goes_ Try.func20 (by kernel_rfl) rfl #[.pointer (some ⟨g, 0, none⟩)] (by rfl) rfl rfl (by simp only [List.map_toArray, List.map_cons, List.map_nil]; rfl) ?_
       with_reducible refine (c_).mono ?_
       rintro z9 w5 ⟨gf, bf, rfl, S5⟩
       clear c_
       (try dsimp only at S5)
       refine ⟨_, rfl, ?_⟩
       refine hK.out _ _ (((own_cell (g := g6) S5 (by repeat (first | exact Spot.here _ _ | apply Spot.there)) 0).trans rfl)) (fun hHeld => ?_)
       clear hK K
       refine nrm ?_
       exact norm_ (by simp only [putAll, Act.put, List.setIfInBounds_toArray, List.set_cons_zero, List.set_cons_succ]) (hCont (gf, bf, g9) _ S5)
     rintro ⟨gf, bf, g9⟩ w8 S8
     simp only at S8
     have hHeld : w8.cell? ⟨g6, 0, none⟩ = some (.slice Ar G.length cr) := ((own_cell (g := g6) S8 (by repeat (first | exact Spot.here _ _ | apply Spot.there)) 0).trans rfl)
     refine norm_ (a' := ?_) ?_ ?_
     rotate_left
     ·simp only [putAll, Act.put, List.setIfInBounds_toArray, List.set_cons_zero, List.set_cons_succ]
      rfl
     refine pur 4 8 (bt 7 31) ?_
     refine one_ (i := 5) (N := none) (bt 7 63) rfl rfl (by kernel_rfl) (by decide) (fun K hK => ?_)
     refine st_puts (g := g9) S8 (want0 rfl) rfl rfl s29 rfl rfl (by repeat (first | exact Spot.here _ _ | apply Spot.there)) rfl (by rfl) (by rfl) ?_
     intro w9 S9
     simp only [putAt, List.set_cons_zero, List.set_cons_succ] at S9
     refine hK.out _ _ (((own_cell (g := g6) S9 (by repeat (first | exact Spot.here _ _ | apply Spot.there)) 0).trans rfl)) (fun hHeld => ?_)
     clear hK K
     refine pur 6 10 (bt 7 127) ?_
     refine done_ (by kernel_rfl) ?_

     clear S2 S8
     have S := S9
     clear S9
     have S1 := Aside0.mk (S.out.swap (L' := [GAs [⟨gf, bf, n, f, G⟩, ⟨g, bm, n, f, G⟩], both (View k73 73 D (.slice Ar G.length cr) G) (View k73 73 D (.slice Ar G.length cr) G), Bk g9 #[.slice Ar G.length cr] 29, Bk g6 #[.slice Ar G.length cr] 29]) ((List.Perm.swap _ _ _).trans ((List.Perm.swap _ _ _).cons _)))
     clear S
     have S := S1
     clear S1
     go_wp2
     go_loopw [10, 11] (fun v10 v11 wr => ∃ (i n2 : Nat) (f2 : ByteArray → Option Nat) (G2 : List S73) (D2 : Nat → Prop) (A2 : Option Addr) (c2 : Nat), v10 = .bool true ∧ v11 = .int .i64 i ∧ i ≤ m.length ∧ Aside0 (n2 ≤ i + l.length) ∧ Aside0 (G2.length ≤ i + l.length) ∧ Aside0 (St w.heap.size w wr [GAs [⟨gf, bf, n2, f2, G2⟩, ⟨g, bm, n, f, G⟩], both (View k73 73 D2 (.slice A2 G2.length c2) G2) (View k73 73 D (.slice Ar G.length cr) G), Bk g9 #[.slice A2 G2.length c2] 29, Bk g6 #[.slice Ar G.length cr] 29])) (fun _ v11 _ => m.length - (intOf v11).toNat)
     case atStart => exact ⟨0, n, f, G, D, Ar, cr, rfl, rfl, Nat.zero_le _, ⟨by have := HNI.out; omega⟩, ⟨by have := HGI.out; omega⟩, S⟩
     case round =>
      clear S
      obtain ⟨i, n2, f2, G2, D2, A2, c2, rfl, rfl, hi, HNI2, HGI2, S⟩ := hrel
      by_cases hlt : i < m.length
      ·have HLI2 := Aside0.mk hlt
       have hd2 : decide ((i : Int) < (m.length : Int)) = true := decide_eq_true (by omega)
       have hil : (i : Int) < (m.length : Int) := by omega
       have hi0 : (0 : Int) ≤ (i : Int) := by omega
       have HI1 := Aside0.mk (show wrap64 ((i : Int) + 1) = ((i + 1 : Nat) : Int) by have := (HFB1.out (by trivial)).1; unfold wrap64; omega)
       obtain ⟨ad, Ah, ch, rfl, hH, hxc, hch, hxm⟩ := act_at HC1.out i hlt
       have HXS := Aside0.mk (HOK1.out _ hxm)
       have HXL := Aside0.mk (show (rd_T34 m (i : Int)).f2.length ≤ 1000 from Nat.le_trans ((HFB1.out (by trivial)).2 _ hxm) (by omega))
       generalize rd_T34 m (i : Int) = x at *
       have HH := Aside0.mk hH
       have HX1 := Aside0.mk (has_cell hH (by omega : (1 : Nat) ≠ 0) rfl)
       have HX2 := Aside0.mk (has_cell hH (by omega : (2 : Nat) ≠ 0) rfl)
       have HXC := Aside0.mk hxc
       have HCH := Aside0.mk hch
       clear hH hxc hch hxm
       have HN := Aside0.mk (show n2 < 1000000 by have := (HFB1.out (by trivial)).1; have := HNI2.out; have := (HFB.out (by trivial)).1; omega)
       have HL := Aside0.mk (show G2.length < 1000 by have := (HFB1.out (by trivial)).1; have := HGI2.out; have := (HFB.out (by trivial)).1; omega)
       go_wp2
       have S2 := Aside0.mk S.out.drew
       clear S
       refine start_ (n := 12) (S := fun w' => w'.cell? ⟨g9, 0, none⟩ = some (.slice A2 G2.length c2)) (ds := [10]) (bt 12 0) (by kernel_rfl) rfl rfl (((own_cell (g := g9) S2 (by repeat (first | exact Spot.here _ _ | apply Spot.there)) 0).trans rfl)) (fun hHeld => ?_)
       refine pur 0 53 (bt 12 1) ?_
       refine pur 2 55 (bt 12 5) ?_
       refine pur 3 56 (bt 12 13) ?_
       refine pur 4 57 (bt 12 29) ?_
       refine tak 1 54 (bt 12 31) hHeld ?_
       refine on1 5 58 (bt 12 63) (fun K hK => ?_)
       refine st_loads (N := some 58) (vs := [_, _, _]) (by rfl) rfl rfl m34 rfl (olds_ S2 HH.out) ?_
       refine hK.out _ _ (((own_cell (g := g9) S2 (by repeat (first | exact Spot.here _ _ | apply Spot.there)) 0).trans rfl)) (fun hHeld => ?_)
       clear hK K
       refine nrm ?_
       refine on1 6 59 (bt 12 127) (fun K hK => ?_)
       have c_ := do_ev2 (x := ⟨gf, bf, n2, f2, G2⟩) (kind := x.f0) (s := x.f1) (xs := x.f2) (A := Ah) (c := ch) S2 HN.out HL.out HXS.out.1 HCH.out HXC.out HXS.out.2 HXL.out
       refine goes_ Try.func11 (by kernel_rfl) rfl #[.pointer (some ⟨gf, 0, none⟩), .agg #[.slice A2 G2.length c2], .agg #[.int .u8 x.f0, .string x.f1, .slice Ah x.f2.length ch]] (by rfl) rfl rfl (by simp only [List.map_toArray, List.map_cons, List.map_nil]; rfl) ?_
       with_reducible refine (c_).mono ?_
       rintro z9 w9 ⟨n9, f9, D9, A9, c9, rfl, hn9, S9⟩
       clear c_
       (try dsimp only at S9 hn9)
       have HN9 := Aside0.mk hn9
       clear hn9
       generalize hG9 : aft G2 x.f0 x.f1 x.f2 = G9 at *
       refine ⟨_, rfl, ?_⟩
       refine hK.out _ _ (((own_cell (g := g9) S9 (by repeat (first | exact Spot.here _ _ | apply Spot.there)) 0).trans rfl)) (fun hHeld => ?_)
       clear hK K
       refine nrm ?_
       refine pur 7 52 (bt 12 255) ?_
       refine pur 8 60 (bt 12 511) ?_
       refine pur 9 61 (bt 12 1023) ?_
       refine last_ (i := 10) (N := none) (bt 12 2047) rfl rfl (by kernel_rfl) (by decide) (fun K hK => ?_)
       refine st_puts (g := g9) S9 (by rfl) rfl rfl s29 rfl rfl (by repeat (first | exact Spot.here _ _ | apply Spot.there)) rfl (by rfl) (by rfl) ?_
       intro w8 S8
       simp only [putAt, List.set_cons_zero, List.set_cons_succ] at S8
       refine hK.out _ _ ?_
       clear hK K
       refine pur 11 10 (bt 12 4095) ?_
       refine done_ (by kernel_rfl) ?_

       clear S2 S9
       have S := S8
       clear S8
       go_wp2
       refine ⟨⟨i + 1, n9, f9, G9, D9, A9, c9, rfl, by simp [HI1.out], by omega, ⟨by have := HN9.out; have := HNI2.out; omega⟩, ⟨by have h1 := aft_len G2 x.f0 x.f1 x.f2; rw [hG9] at h1; have := HGI2.out; omega⟩, S⟩, meas hlt HI1.out⟩
      ·obtain rfl : i = m.length := by omega
       have hd2 : decide ((m.length : Int) < (m.length : Int)) = false := decide_eq_false (by omega)
       go_wp2_with (first | (go_at_call 21; (with_reducible refine (nil_add _ nA).mono ?_); rintro z_ w_ ⟨rfl, hb_⟩; have S_ := Aside0.mk (S.out.keep hb_); clear hb_; clear S; have S := S_; clear S_) | (go_at_call 22; (with_reducible refine (nil_remove _ nA).mono ?_); rintro z_ w_ ⟨rfl, hb_⟩; have S_ := Aside0.mk (S.out.keep hb_); clear hb_; clear S; have S := S_; clear S_) | (go_at_call 17; (with_reducible refine (nil_turn _ nA).mono ?_); rintro z_ w_ ⟨rfl, hb_⟩; have S_ := Aside0.mk (S.out.keep hb_); clear hb_; clear S; have S := S_; clear S_) | (go_at_call 15; (with_reducible refine (nil_has _ nA).mono ?_); rintro z_ w_ ⟨rfl, hb_⟩; have S_ := Aside0.mk (S.out.keep hb_); clear hb_; clear S; have S := S_; clear S_) | (go_at_call 14; (with_reducible refine (nil_deps _ nA).mono ?_); rintro z_ w_ ⟨rfl, hb_⟩; have S_ := Aside0.mk (S.out.keep hb_); clear hb_; clear S; have S := S_; clear S_) | (go_at_call 23; (with_reducible refine (nil_dependents _ nA).mono ?_); rintro z_ w_ ⟨rfl, hb_⟩; have S_ := Aside0.mk (S.out.keep hb_); clear hb_; clear S; have S := S_; clear S_) | (go_at_call 16; (with_reducible refine (nil_reaches _ nA nA).mono ?_); rintro z_ w_ ⟨rfl, hb_⟩; have S_ := Aside0.mk (S.out.keep hb_); clear hb_; clear S; have S := S_; clear S_) | (go_at_call 13; (with_reducible refine (nil_order _).mono ?_); rintro z_ w_ ⟨rfl, hb_⟩; have S_ := Aside0.mk (S.out.keep hb_); clear hb_; clear S; have S := S_; clear S_) | (go_at_call 20; (with_reducible refine (nil_fork _).mono ?_); rintro z_ w_ ⟨rfl, hb_⟩; have S_ := Aside0.mk (S.out.keep hb_); clear hb_; clear S; have S := S_; clear S_) | (go_at_call 12; have c_ := same_evm (y := ⟨gf, bf, n2, f2, G2⟩) (a := nA) (b := nB) S (by repeat (first | exact Spot.here _ _ | apply Spot.there)) (by simp) (View.v (both_l S (by repeat (first | exact Spot.here _ _ | apply Spot.there))) _) sA sB; (with_reducible refine c_.mono ?_); clear c_; rintro z_ w_ ⟨rfl, S_⟩; clear S; have S := S_; clear S_) | (go_at_call 12; have c_ := same_evm (y := ⟨g, bm, n, f, G⟩) (a := nA) (b := nB) S (by repeat (first | exact Spot.here _ _ | apply Spot.there)) (by simp) (View.v (both_r S (by repeat (first | exact Spot.here _ _ | apply Spot.there))) _) sA sB; (with_reducible refine c_.mono ?_); clear c_; rintro z_ w_ ⟨rfl, S_⟩; clear S; have S := S_; clear S_) | (go_at_call 9; (with_reducible refine (awake_calls _).mono ?_); rintro z_ w_ ⟨rfl, hb_⟩; have S_ := Aside0.mk (S.out.keep hb_); clear hb_; clear S; have S := S_; clear S_) | (refine ev_owns (vs := [_]) S ?_ rfl m29 rfl (by repeat (first | exact Spot.here _ _ | apply Spot.there)) (by exact rfl) ?_; (first | exact want0 rfl | exact want1 rfl rfl rfl rfl)))
       go_ret
       exact ⟨rfl, S.out.below⟩
end Go.Proofs.Ytaomemhnjpemiaa.Mp
