/- What Turn does. -/
import Derived.Test.YtaomemhnjpemiaaSd
namespace Go.Proofs.Ytaomemhnjpemiaa.Mp
open Go Go.Maps Go.RowKit Go.Proofs.Ytaomemhnjpemiaa.PB Go.Proofs.Ytaomemhnjpemiaa.Doc Go.Proofs.Ytaomemhnjpemiaa.Sep Go.Proofs.Ytaomemhnjpemiaa.Ev Go.Proofs.Ytaomemhnjpemiaa.Ty Go.Proofs.YtaomemhnjpemiaaW.PrintWords Go.Proofs.YtaomemhnjpemiaaW.PrintLast Go.Proofs.YtaomemhnjpemiaaW.PrintMore
set_option linter.unusedVariables false
set_option linter.unusedSimpArgs false

theorem fold_len (l : List ByteArray) : ∀ xs : List ByteArray, (l.foldl setIn xs).length ≤ xs.length + l.length := by
 induction l with
 | nil => intro xs; simp
 | cons a l ih =>
  intro xs
  rw [List.foldl_cons]
  have h1 := ih (setIn xs a)
  have h2 := setIn_len a xs
  simp only [List.length_cons]
  omega
theorem setOf_len (l : List ByteArray) : (setOf l).length ≤ l.length := by
 have := fold_len l []
 simpa [Doc.setOf] using this
theorem turn_cases {G : List S73} {s : ByteArray} {xs : List ByteArray} {hs0 : Bool} (h0 : decide (s ∈ names G) = hs0) :
  ((!hs0 || xs.any (fun d => !decide (d ∈ names G))) = true → errTurn G s xs = 8 ∧ aftTurn G s xs = G) ∧
  ((!hs0 || xs.any (fun d => !decide (d ∈ names G))) = false → xs.any (rounds_ G s) = true → errTurn G s xs = 24 ∧ aftTurn G s xs = G) ∧
  ((!hs0 || xs.any (fun d => !decide (d ∈ names G))) = false → xs.any (rounds_ G s) = false → errTurn G s xs = 0 ∧ aftTurn G s xs = turn G s xs) := by
 subst h0
 by_cases hin : s ∈ names G
 ·by_cases hall : ∀ x ∈ xs, x ∈ names G
  ·have h1 := lacks_no hall
   rw [h1, decide_eq_true hin]
   unfold errTurn aftTurn
   rw [if_pos hin, if_pos hin, if_pos hall, if_pos hall]
   refine ⟨fun h => by simp at h, fun _ hp => by rw [if_pos hp, if_pos hp]; exact ⟨rfl, rfl⟩, fun _ hp => by rw [hp]; exact ⟨rfl, rfl⟩⟩
  ·have h1 := lacks_yes hall
   rw [h1, decide_eq_true hin]
   unfold errTurn aftTurn
   rw [if_pos hin, if_pos hin, if_neg hall, if_neg hall]
   exact ⟨fun _ => ⟨rfl, rfl⟩, fun h => by simp at h, fun h => by simp at h⟩
 ·rw [decide_eq_false hin]
  unfold errTurn aftTurn
  rw [if_neg hin, if_neg hin]
  exact ⟨fun _ => ⟨rfl, rfl⟩, fun h => by simp at h, fun h => by simp at h⟩
theorem set_ev {B : Nat} {w W : World} {L : List Asn} {A : Option Addr} {c : Nat} {xs : List ByteArray} (S : Aside0 (St B w W L)) (hX : Kd.C Kd.string W A xs.length xs) (hc : xs.length ≤ c) (hl : xs.length ≤ 1000) :
  Calls Try.prog 19 #[.slice A xs.length c] W fun z W' => ∃ A' c', z = .returned (.slice A' (setOf xs).length c') ∧ Aside0 (St B w W' (Own Kd.string 9 A' c' (setOf xs) :: L)) := by
 obtain ⟨k, hk⟩ := set_f xs (by omega)
 refine (budwoodref14_Set.calls k A c xs (setOf xs) W hX hc (hk k (Nat.le_refl _))).mono ?_
 rintro z W' ⟨v, rfl, hr, hb⟩
 obtain ⟨A', c', rfl, _⟩ := Kd.R_reads hr
 exact ⟨A', c', rfl, add_own S hr hb⟩
set_option maxRecDepth 100000 in
set_option maxHeartbeats 16000000 in
theorem turns (A0 : Option Addr) (l : List S34) (c0 : Nat) (kind : Int) (s : ByteArray) (A1 : Option Addr) (c1 : Nat) (xs : List ByteArray) (w : World) (hC : Kd.C k34 w A0 l.length l) (hc : l.length ≤ c0) (hok : Ok34 l) (hX1 : Kd.C Kd.string w A1 xs.length xs) (hx1 : xs.length ≤ c1) (hs : s.size ≤ maxLen) (hsz : ∀ x ∈ xs, x.size ≤ maxLen) :
  Calls Try.prog 5 #[.slice A0 l.length c0, .agg #[.int .u8 kind, .string s, .slice A1 xs.length c1]] w fun z w' => z = .returned (.bool true) ∧ Below w.heap.size w w' := by
 have HC := Aside0.mk hC
 have HCC := Aside0.mk hc
 have HOK := Aside0.mk hok
 obtain ⟨kf, b, hf, hfb⟩ := few_ok l
 have HFW := Aside0.mk hf
 have HFB := Aside0.mk hfb
 have S := Aside0.mk (St.start w)
 clear hC hc hok hf hfb
 have HX1 := Aside0.mk hX1
 have HXC := Aside0.mk hx1
 have HSS := Aside0.mk hs
 have HSZ := Aside0.mk hsz
 clear hX1 hx1 hs hsz
 cases b with
 | false =>
  go_enter Try.func5, Try.ntmps5
  go_wp2_with (first | (go_at_call 8; have c_ := budwoodlaw14_few.calls _ A0 c0 l _ _ (Kd.C_below HC.out S.out.below) HCC.out HFW.out; (with_reducible refine c_.mono ?_); clear c_; rintro z_ w_ ⟨rfl, hb_⟩; have S_ := Aside0.mk (S.out.keep hb_); clear hb_; clear S; have S := S_; clear S_) | (go_at_call 9; (with_reducible refine (awake_calls _).mono ?_); rintro z_ w_ ⟨rfl, hb_⟩; have S_ := Aside0.mk (S.out.keep hb_); clear hb_; clear S; have S := S_; clear S_) | (go_at_call 10; have c_ := new_ev S; (with_reducible refine c_.mono ?_); clear c_; rintro z_ w_ ⟨g, bm, rfl, S_⟩; clear S; have S := S_; clear S_) | ((with_reducible refine gate_dst (N := 3) rfl ?_); refine ev_boxs S ?_ 3 rfl rfl rfl ?_; (first | exact want0 rfl | exact want1 rfl rfl rfl rfl); intro g3 w3 S_; clear S; have S := S_; clear S_) | ((with_reducible refine gate_dst (N := 6) rfl ?_); refine ev_alloc #[.slice none 0 0] rfl S ?_ 6 rfl rfl Ty.z29 ?_; (first | exact want0 rfl | exact want1 rfl rfl rfl rfl); intro g6 w6 S_; clear S; have S := S_; clear S_) | (refine ev_puts S ?_ rfl rfl s29 rfl rfl (by repeat (first | exact Spot.here _ _ | apply Spot.there)) rfl ?_ ?_ ?_; (first | exact want0 rfl | exact want1 rfl rfl rfl rfl); rfl; rfl; intro w_ S_; simp only [putAt, List.set_cons_zero, List.set_cons_succ] at S_; clear S; have S := S_; clear S_) | (refine ev_own1 S ?_ rfl o32 rfl (by repeat (first | exact Spot.here _ _ | apply Spot.there)) (by exact rfl) ?_; (first | exact want0 rfl | exact want1 rfl rfl rfl rfl)) | (refine ev_owns (vs := [_]) S ?_ rfl m29 rfl (by repeat (first | exact Spot.here _ _ | apply Spot.there)) (by exact rfl) ?_; (first | exact want0 rfl | exact want1 rfl rfl rfl rfl)) | go_in)
  go_ret
  exact ⟨rfl, S.out.below⟩
 | true =>
  by_cases h40 : (xs.length : Int) > 40
  ·have hd40 : decide ((xs.length : Int) > 40) = true := decide_eq_true h40
   go_enter Try.func5, Try.ntmps5
   go_wp2_with (first | (go_at_call 8; have c_ := budwoodlaw14_few.calls _ A0 c0 l _ _ (Kd.C_below HC.out S.out.below) HCC.out HFW.out; (with_reducible refine c_.mono ?_); clear c_; rintro z_ w_ ⟨rfl, hb_⟩; have S_ := Aside0.mk (S.out.keep hb_); clear hb_; clear S; have S := S_; clear S_) | (go_at_call 9; (with_reducible refine (awake_calls _).mono ?_); rintro z_ w_ ⟨rfl, hb_⟩; have S_ := Aside0.mk (S.out.keep hb_); clear hb_; clear S; have S := S_; clear S_) | (go_at_call 10; have c_ := new_ev S; (with_reducible refine c_.mono ?_); clear c_; rintro z_ w_ ⟨g, bm, rfl, S_⟩; clear S; have S := S_; clear S_) | ((with_reducible refine gate_dst (N := 3) rfl ?_); refine ev_boxs S ?_ 3 rfl rfl rfl ?_; (first | exact want0 rfl | exact want1 rfl rfl rfl rfl); intro g3 w3 S_; clear S; have S := S_; clear S_) | ((with_reducible refine gate_dst (N := 6) rfl ?_); refine ev_alloc #[.slice none 0 0] rfl S ?_ 6 rfl rfl Ty.z29 ?_; (first | exact want0 rfl | exact want1 rfl rfl rfl rfl); intro g6 w6 S_; clear S; have S := S_; clear S_) | (refine ev_puts S ?_ rfl rfl s29 rfl rfl (by repeat (first | exact Spot.here _ _ | apply Spot.there)) rfl ?_ ?_ ?_; (first | exact want0 rfl | exact want1 rfl rfl rfl rfl); rfl; rfl; intro w_ S_; simp only [putAt, List.set_cons_zero, List.set_cons_succ] at S_; clear S; have S := S_; clear S_) | (refine ev_own1 S ?_ rfl o32 rfl (by repeat (first | exact Spot.here _ _ | apply Spot.there)) (by exact rfl) ?_; (first | exact want0 rfl | exact want1 rfl rfl rfl rfl)) | (refine ev_owns (vs := [_]) S ?_ rfl m29 rfl (by repeat (first | exact Spot.here _ _ | apply Spot.there)) (by exact rfl) ?_; (first | exact want0 rfl | exact want1 rfl rfl rfl rfl)) | go_in)
   go_ret
   exact ⟨rfl, S.out.below⟩
  have hd40 : decide ((xs.length : Int) > 40) = false := decide_eq_false h40
  have HXL := Aside0.mk (show xs.length ≤ 1000 by omega)
  clear h40
  go_enter Try.func5, Try.ntmps5
  go_wp2_with (first | (go_at_call 8; have c_ := budwoodlaw14_few.calls _ A0 c0 l _ _ (Kd.C_below HC.out S.out.below) HCC.out HFW.out; (with_reducible refine c_.mono ?_); clear c_; rintro z_ w_ ⟨rfl, hb_⟩; have S_ := Aside0.mk (S.out.keep hb_); clear hb_; clear S; have S := S_; clear S_) | (go_at_call 9; (with_reducible refine (awake_calls _).mono ?_); rintro z_ w_ ⟨rfl, hb_⟩; have S_ := Aside0.mk (S.out.keep hb_); clear hb_; clear S; have S := S_; clear S_) | (go_at_call 10; have c_ := new_ev S; (with_reducible refine c_.mono ?_); clear c_; rintro z_ w_ ⟨g, bm, rfl, S_⟩; clear S; have S := S_; clear S_) | ((with_reducible refine gate_dst (N := 3) rfl ?_); refine ev_boxs S ?_ 3 rfl rfl rfl ?_; (first | exact want0 rfl | exact want1 rfl rfl rfl rfl); intro g3 w3 S_; clear S; have S := S_; clear S_) | ((with_reducible refine gate_dst (N := 6) rfl ?_); refine ev_alloc #[.slice none 0 0] rfl S ?_ 6 rfl rfl Ty.z29 ?_; (first | exact want0 rfl | exact want1 rfl rfl rfl rfl); intro g6 w6 S_; clear S; have S := S_; clear S_) | (refine ev_puts S ?_ rfl rfl s29 rfl rfl (by repeat (first | exact Spot.here _ _ | apply Spot.there)) rfl ?_ ?_ ?_; (first | exact want0 rfl | exact want1 rfl rfl rfl rfl); rfl; rfl; intro w_ S_; simp only [putAt, List.set_cons_zero, List.set_cons_succ] at S_; clear S; have S := S_; clear S_) | (refine ev_own1 S ?_ rfl o32 rfl (by repeat (first | exact Spot.here _ _ | apply Spot.there)) (by exact rfl) ?_; (first | exact want0 rfl | exact want1 rfl rfl rfl rfl)) | (refine ev_owns (vs := [_]) S ?_ rfl m29 rfl (by repeat (first | exact Spot.here _ _ | apply Spot.there)) (by exact rfl) ?_; (first | exact want0 rfl | exact want1 rfl rfl rfl rfl)) | go_in)
  have S1 := start_sys S
  clear S
  have S := S1
  clear S1
  go_loopw [7] (fun vi wr => ∃ (i n : Nat) (f : ByteArray → Option Nat) (G : List S73) (D : Nat → Prop) (Ar : Option Addr) (cr : Nat), vi = .int .i64 i ∧ i ≤ l.length ∧ Aside0 (n ≤ i) ∧ Aside0 (G.length ≤ i) ∧ Aside0 (NoRound G) ∧ Aside0 (St w.heap.size w wr [GAs [⟨g, bm, n, f, G⟩], View k73 73 D (.slice Ar G.length cr) G, Bk g6 #[.slice Ar G.length cr] 29, Bk g3 #[.int .u8 kind, .string s, .slice A1 xs.length c1] 34])) (fun vi _ => l.length - (intOf vi).toNat)
  case atStart => exact ⟨0, 0, fun _ => none, [], fun _ => False, none, 0, rfl, Nat.zero_le _, ⟨Nat.le_refl _⟩, ⟨Nat.le_refl _⟩, ⟨noround_nil⟩, S⟩
  case round =>
   clear S
   obtain ⟨i, n, f, G, D, Ar, cr, rfl, hi, HNI, HGI, HNR, S⟩ := hrel
   by_cases hlt : i < l.length
   ·have HLI := Aside0.mk hlt
    have hd2 : decide ((i : Int) < (l.length : Int)) = true := decide_eq_true (by omega)
    have hil : (i : Int) < (l.length : Int) := by omega
    have hi0 : (0 : Int) ≤ (i : Int) := by omega
    have HI1 := Aside0.mk (show wrap64 ((i : Int) + 1) = ((i + 1 : Nat) : Int) by have := (HFB.out (by trivial)).1; unfold wrap64; omega)
    obtain ⟨ad, Ah, ch, rfl, hH, hxc, hch, hxm⟩ := act_at HC.out i hlt
    have HXS := Aside0.mk (HOK.out _ hxm)
    have HXL := Aside0.mk (show (rd_T34 l (i : Int)).f2.length ≤ 1000 from Nat.le_trans ((HFB.out (by trivial)).2 _ hxm) (by omega))
    generalize rd_T34 l (i : Int) = x at *
    have HH := Aside0.mk hH
    have HX1 := Aside0.mk (has_cell hH (by omega : (1 : Nat) ≠ 0) rfl)
    have HX2 := Aside0.mk (has_cell hH (by omega : (2 : Nat) ≠ 0) rfl)
    have HXC := Aside0.mk hxc
    have HCH := Aside0.mk hch
    clear hH hxc hch hxm
    have HN := Aside0.mk (show n < 1000000 by have := (HFB.out (by trivial)).1; have := HNI.out; omega)
    have HL := Aside0.mk (show G.length < 1000 by have := (HFB.out (by trivial)).1; have := HGI.out; omega)
    have HNR9 := Aside0.mk (noround_aft (gr_at S (by repeat (first | exact Spot.here _ _ | apply Spot.there))).good HNR.out x.f0 x.f1 x.f2)
    go_wp2_with (first | (refine ev_own1 S ?_ rfl o32 rfl (by repeat (first | exact Spot.here _ _ | apply Spot.there)) (by exact rfl) ?_; (first | exact want0 rfl | exact want1 rfl rfl rfl rfl)) | go_in)
    have S2 := Aside0.mk S.out.drew
    clear S
    refine start_ (n := 11) (S := fun w' => w'.cell? ⟨g6, 0, none⟩ = some (.slice Ar G.length cr)) (ds := [10]) (bt 11 0) (by kernel_rfl) rfl rfl (((own_cell (g := g6) S2 (by repeat (first | exact Spot.here _ _ | apply Spot.there)) 0).trans rfl)) (fun hHeld => ?_)
    refine pur 0 31 (bt 11 1) ?_
    refine pur 2 33 (bt 11 5) ?_
    refine pur 3 34 (bt 11 13) ?_
    refine pur 4 35 (bt 11 29) ?_
    refine tak 1 32 (bt 11 31) hHeld ?_
    refine on1 5 36 (bt 11 63) (fun K hK => ?_)
    refine st_loads (N := some 36) (vs := [_, _, _]) (by rfl) rfl rfl m34 rfl (olds_ S2 HH.out) ?_
    refine hK.out _ _ (((own_cell (g := g6) S2 (by repeat (first | exact Spot.here _ _ | apply Spot.there)) 0).trans rfl)) (fun hHeld => ?_)
    clear hK K
    refine nrm ?_
    refine on1 6 37 (bt 11 127) (fun K hK => ?_)
    have c_ := do_ev (x := ⟨g, bm, n, f, G⟩) (kind := x.f0) (s := x.f1) (xs := x.f2) (A := Ah) (c := ch) S2 HN.out HL.out HXS.out.1 HCH.out HXC.out HXS.out.2 HXL.out
    refine goes_ Try.func11 (by kernel_rfl) rfl #[.pointer (some ⟨g, 0, none⟩), .agg #[.slice Ar G.length cr], .agg #[.int .u8 x.f0, .string x.f1, .slice Ah x.f2.length ch]] (by rfl) rfl rfl (by simp only [List.map_toArray, List.map_cons, List.map_nil]; rfl) ?_
    with_reducible refine (c_).mono ?_
    rintro z9 w9 ⟨n9, f9, D9, A9, c9, rfl, hn9, S9⟩
    clear c_
    (try dsimp only at S9 hn9)
    have HN9 := Aside0.mk hn9
    clear hn9
    generalize hG9 : aft G x.f0 x.f1 x.f2 = G9 at *
    refine ⟨_, rfl, ?_⟩
    refine hK.out _ _ (((own_cell (g := g6) S9 (by repeat (first | exact Spot.here _ _ | apply Spot.there)) 0).trans rfl)) (fun hHeld => ?_)
    clear hK K
    refine nrm ?_
    refine pur 7 30 (bt 11 255) ?_
    refine pur 8 38 (bt 11 511) ?_
    refine pur 9 39 (bt 11 1023) ?_
    refine last_ (i := 10) (N := none) (bt 11 2047) rfl rfl (by kernel_rfl) (by decide) (fun K hK => ?_)
    refine st_puts (g := g6) S9 (by rfl) rfl rfl s29 rfl rfl (by repeat (first | exact Spot.here _ _ | apply Spot.there)) rfl (by rfl) (by rfl) ?_
    intro w8 S8
    simp only [putAt, List.set_cons_zero, List.set_cons_succ] at S8
    refine hK.out _ _ ?_
    clear hK K
    refine done_ (by kernel_rfl) ?_

    clear S2 S9
    have S := S8
    clear S8
    go_wp2_with (first | (refine ev_own1 S ?_ rfl o32 rfl (by repeat (first | exact Spot.here _ _ | apply Spot.there)) (by exact rfl) ?_; (first | exact want0 rfl | exact want1 rfl rfl rfl rfl)) | go_in)
    refine ⟨⟨i + 1, n9, f9, G9, D9, A9, c9, by simp [HI1.out], by omega, ⟨by have := HN9.out; have := HNI.out; omega⟩, ⟨by have h1 := aft_len G x.f0 x.f1 x.f2; rw [hG9] at h1; have := HGI.out; omega⟩, ⟨hG9 ▸ HNR9.out⟩, S⟩, meas hlt HI1.out⟩
   ·obtain rfl : i = l.length := by omega
    have hd2 : decide ((l.length : Int) < (l.length : Int)) = false := decide_eq_false (by omega)
    have HLL := Aside0.mk (show n < 1000000 ∧ G.length < 1000 by have := (HFB.out (by trivial)).1; have := HNI.out; have := HGI.out; omega)
    have HGR := Aside0.mk (show Doc.Good G from (gr_at S (by repeat (first | exact Spot.here _ _ | apply Spot.there))).good)
    obtain ⟨hs0, hhs0⟩ : ∃ v, v = decide (s ∈ names G) := ⟨_, rfl⟩
    have HS0 := Aside0.mk hhs0.symm
    clear hhs0
    go_wp2_with (first | (refine ev_own1 S ?_ rfl o9 rfl (by repeat (first | exact Spot.here _ _ | apply Spot.there)) (by exact rfl) ?_; (first | exact want0 rfl | exact want1 rfl rfl rfl rfl)) | (go_at_call 15; have c_ := has_ev (x := ⟨g, bm, n, f, G⟩) (s := s) S (by repeat (first | exact Spot.here _ _ | apply Spot.there)) HSS.out; dsimp only at c_; rw [HS0.out] at c_; (with_reducible refine c_.mono ?_); clear c_; rintro z_ w_ ⟨rfl, S_⟩; clear S; have S := S_; clear S_) | go_in)
    go_loopw [8, 9, 10] (fun v8 v9 v10 wr => ∃ (i : Nat), v10 = .int .i64 i ∧ i ≤ xs.length ∧ v8 = .bool ((xs.take i).any (rounds_ G s)) ∧ v9 = .bool (!hs0 || (xs.take i).any (fun d => !decide (d ∈ names G))) ∧ Aside0 (St w.heap.size w wr [GAs [⟨g, bm, n, f, G⟩], View k73 73 D (.slice Ar G.length cr) G, Bk g6 #[.slice Ar G.length cr] 29, Bk g3 #[.int .u8 kind, .string s, .slice A1 xs.length c1] 34])) (fun _ _ v10 _ => xs.length - (intOf v10).toNat)
    case atStart => exact ⟨0, rfl, Nat.zero_le _, by simp, by simp, S⟩
    case round =>
     clear S
     obtain ⟨i, rfl, hi, rfl, rfl, S⟩ := hrel
     by_cases hlt : i < xs.length
     ·have hd3 : decide ((i : Int) < (xs.length : Int)) = true := decide_eq_true (by omega)
      have hil : (i : Int) < (xs.length : Int) := by omega
      have hi0 : (0 : Int) ≤ (i : Int) := by omega
      have HI1 := Aside0.mk (show wrap64 ((i : Int) + 1) = ((i + 1 : Nat) : Int) by have := HXL.out; unfold wrap64; omega)
      have HT := Aside0.mk (show xs.take (i + 1) = xs.take i ++ [xs.getD i ByteArray.empty] by rw [List.take_succ_eq_append_getElem hlt]; simp [hlt])
      have HDM := Aside0.mk (show xs.getD i ByteArray.empty ∈ xs by simp [hlt])
      obtain ⟨ad, rfl, hXI⟩ := strC_drop HX1.out i hlt
      generalize xs.getD i ByteArray.empty = d at *
      have HXI := Aside0.mk hXI
      have HSD := Aside0.mk (HSZ.out d HDM.out)
      clear hXI
      obtain ⟨u, hu⟩ : ∃ u, u = (decide (d ∈ names G) && (decide (s ∈ names G) && decide (s ∈ reached G d))) := ⟨_, rfl⟩
      have HRV := Aside0.mk hu.symm
      have HRD := Aside0.mk (show rounds_ G s d = (decide (d = s) || u) by rw [hu]; rfl)
      have hbb := bytes_beq d s
      clear hu
      obtain ⟨h, hh⟩ : ∃ h, h = decide (d ∈ names G) := ⟨_, rfl⟩
      have HHD := Aside0.mk hh.symm
      clear hh
      obtain ⟨p, hp⟩ : ∃ p, p = (xs.take i).any (rounds_ G s) := ⟨_, rfl⟩
      obtain ⟨q, hq⟩ : ∃ q, q = (!hs0 || (xs.take i).any (fun d => !decide (d ∈ names G))) := ⟨_, rfl⟩
      have HP9 := Aside0.mk (show (xs.take (i + 1)).any (rounds_ G s) = (p || rounds_ G s d) by rw [HT.out, List.any_append, ← hp]; simp)
      have HQ9 := Aside0.mk (show (!hs0 || (xs.take (i + 1)).any (fun d => !decide (d ∈ names G))) = (q || !h) by rw [HT.out, List.any_append, hq, ← HHD.out]; simp [Bool.or_assoc])
      rw [← hp, ← hq]
      clear hp hq
      cases p with
      | true =>
       cases q with
       | true =>
        go_wp2_with (first | (refine ev_own1 S ?_ rfl o32 rfl (by repeat (first | exact Spot.here _ _ | apply Spot.there)) (by exact rfl) ?_; (first | exact want0 rfl | exact want1 rfl rfl rfl rfl)) | go_in)
        have S2 := Aside0.mk S.out.drew
        clear S
        refine start_ (n := 23) (S := fun w' => w'.cell? ⟨g3, 1, none⟩ = some (.string s) ∧ w'.cell? ⟨g3, 2, none⟩ = some (.slice (some ad) xs.length c1) ∧ w'.cell? (ad.add i) = some (.string d)) (ds := []) (bt 23 0) (by kernel_rfl) rfl rfl ⟨((own_cell (g := g3) S2 (by repeat (first | exact Spot.here _ _ | apply Spot.there)) 1).trans rfl), ((own_cell (g := g3) S2 (by repeat (first | exact Spot.here _ _ | apply Spot.there)) 2).trans rfl), (old_ S2 HXI.out)⟩ (fun hHeld => ?_)
        refine pur 0 52 (bt 23 1) ?_
        refine pur 1 53 (bt 23 3) ?_
        refine und 2 54 (bt 23 7) ?_
        refine und 3 55 (bt 23 15) ?_
        refine und 4 56 (bt 23 31) ?_
        refine und 5 57 (bt 23 63) ?_
        refine und 6 58 (bt 23 127) ?_
        refine und 7 59 (bt 23 255) ?_
        refine und 8 60 (bt 23 511) ?_
        refine und 9 61 (bt 23 1023) ?_
        refine pur 10 62 (bt 23 2047) ?_
        refine pur 11 63 (bt 23 4095) ?_
        refine und 12 64 (bt 23 8191) ?_
        refine und 13 65 (bt 23 16383) ?_
        refine und 14 66 (bt 23 32767) ?_
        refine und 15 67 (bt 23 65535) ?_
        refine und 16 68 (bt 23 131071) ?_
        refine und 17 69 (bt 23 262143) ?_
        refine und 18 70 (bt 23 524287) ?_
        refine und 19 71 (bt 23 1048575) ?_
        refine und 20 72 (bt 23 2097151) ?_
        refine pur 21 73 (bt 23 4194303) ?_
        refine pur 22 8 (bt 23 8388607) ?_
        refine done_ (by kernel_rfl) ?_

        have S := S2
        clear S2
        go_wp2_with (first | (refine ev_own1 S ?_ rfl o32 rfl (by repeat (first | exact Spot.here _ _ | apply Spot.there)) (by exact rfl) ?_; (first | exact want0 rfl | exact want1 rfl rfl rfl rfl)) | (refine ev_load1 ?_ rfl o9 rfl (old_ S HXI.out) ?_; (first | exact want0 rfl | exact want1 rfl rfl rfl rfl)) | (go_at_call 15; have c_ := has_ev (x := ⟨g, bm, n, f, G⟩) (s := d) S (by repeat (first | exact Spot.here _ _ | apply Spot.there)) HSD.out; dsimp only at c_; rw [HHD.out] at c_; (with_reducible refine c_.mono ?_); clear c_; rintro z_ w_ ⟨rfl, S_⟩; clear S; have S := S_; clear S_) | go_in)
        refine ⟨⟨i + 1, by simp [HI1.out], by omega, by rw [HP9.out]; rfl, by rw [HQ9.out]; rfl, S⟩, meas hlt HI1.out⟩
       | false =>
        go_wp2_with (first | (refine ev_own1 S ?_ rfl o32 rfl (by repeat (first | exact Spot.here _ _ | apply Spot.there)) (by exact rfl) ?_; (first | exact want0 rfl | exact want1 rfl rfl rfl rfl)) | go_in)
        have S2 := Aside0.mk S.out.drew
        clear S
        refine start_ (n := 23) (S := fun w' => w'.cell? ⟨g3, 1, none⟩ = some (.string s) ∧ w'.cell? ⟨g3, 2, none⟩ = some (.slice (some ad) xs.length c1) ∧ w'.cell? (ad.add i) = some (.string d)) (ds := []) (bt 23 0) (by kernel_rfl) rfl rfl ⟨((own_cell (g := g3) S2 (by repeat (first | exact Spot.here _ _ | apply Spot.there)) 1).trans rfl), ((own_cell (g := g3) S2 (by repeat (first | exact Spot.here _ _ | apply Spot.there)) 2).trans rfl), (old_ S2 HXI.out)⟩ (fun hHeld => ?_)
        refine pur 0 52 (bt 23 1) ?_
        refine pur 1 53 (bt 23 3) ?_
        refine und 2 54 (bt 23 7) ?_
        refine und 3 55 (bt 23 15) ?_
        refine und 4 56 (bt 23 31) ?_
        refine und 5 57 (bt 23 63) ?_
        refine und 6 58 (bt 23 127) ?_
        refine und 7 59 (bt 23 255) ?_
        refine und 8 60 (bt 23 511) ?_
        refine und 9 61 (bt 23 1023) ?_
        refine pur 10 62 (bt 23 2047) ?_
        refine pur 11 63 (bt 23 4095) ?_
        refine und 12 64 (bt 23 8191) ?_
        refine und 13 65 (bt 23 16383) ?_
        refine und 14 66 (bt 23 32767) ?_
        refine und 15 67 (bt 23 65535) ?_
        refine und 16 68 (bt 23 131071) ?_
        refine und 17 69 (bt 23 262143) ?_
        refine und 18 70 (bt 23 524287) ?_
        refine und 19 71 (bt 23 1048575) ?_
        refine und 20 72 (bt 23 2097151) ?_
        refine pur 21 73 (bt 23 4194303) ?_
        refine pur 22 8 (bt 23 8388607) ?_
        refine done_ (by kernel_rfl) ?_

        have S := S2
        clear S2
        go_wp2_with (first | (refine ev_own1 S ?_ rfl o32 rfl (by repeat (first | exact Spot.here _ _ | apply Spot.there)) (by exact rfl) ?_; (first | exact want0 rfl | exact want1 rfl rfl rfl rfl)) | (refine ev_load1 ?_ rfl o9 rfl (old_ S HXI.out) ?_; (first | exact want0 rfl | exact want1 rfl rfl rfl rfl)) | (go_at_call 15; have c_ := has_ev (x := ⟨g, bm, n, f, G⟩) (s := d) S (by repeat (first | exact Spot.here _ _ | apply Spot.there)) HSD.out; dsimp only at c_; rw [HHD.out] at c_; (with_reducible refine c_.mono ?_); clear c_; rintro z_ w_ ⟨rfl, S_⟩; clear S; have S := S_; clear S_) | go_in)
        refine ⟨⟨i + 1, by simp [HI1.out], by omega, by rw [HP9.out]; rfl, by rw [HQ9.out]; rfl, S⟩, meas hlt HI1.out⟩
      | false =>
       by_cases e : d = s
       ·rw [decide_eq_true e] at hbb HRD
        clear e
        cases q with
        | true =>
         go_wp2_with (first | (refine ev_own1 S ?_ rfl o32 rfl (by repeat (first | exact Spot.here _ _ | apply Spot.there)) (by exact rfl) ?_; (first | exact want0 rfl | exact want1 rfl rfl rfl rfl)) | go_in)
         have S2 := Aside0.mk S.out.drew
         clear S
         refine start_ (n := 23) (S := fun w' => w'.cell? ⟨g3, 1, none⟩ = some (.string s) ∧ w'.cell? ⟨g3, 2, none⟩ = some (.slice (some ad) xs.length c1) ∧ w'.cell? (ad.add i) = some (.string d)) (ds := []) (bt 23 0) (by kernel_rfl) rfl rfl ⟨((own_cell (g := g3) S2 (by repeat (first | exact Spot.here _ _ | apply Spot.there)) 1).trans rfl), ((own_cell (g := g3) S2 (by repeat (first | exact Spot.here _ _ | apply Spot.there)) 2).trans rfl), (old_ S2 HXI.out)⟩ (fun hHeld => ?_)
         refine pur 0 52 (bt 23 1) ?_
         refine pur 1 53 (bt 23 3) ?_
         refine pur 2 54 (bt 23 7) ?_
         refine pur 4 56 (bt 23 23) ?_
         refine pur 7 59 (bt 23 151) ?_
         refine tak 3 55 (bt 23 159) hHeld ?_
         refine pur 5 57 (bt 23 191) ?_
         refine tak 6 58 (bt 23 255) hHeld ?_
         refine tak 8 60 (bt 23 511) hHeld ?_
         refine pur 9 61 (bt 23 1023) ?_
         refine pur 10 62 (bt 23 2047) ?_
         refine pur 11 63 (bt 23 4095) ?_
         refine und 12 64 (bt 23 8191) ?_
         refine und 13 65 (bt 23 16383) ?_
         refine und 14 66 (bt 23 32767) ?_
         refine und 15 67 (bt 23 65535) ?_
         refine und 16 68 (bt 23 131071) ?_
         refine und 17 69 (bt 23 262143) ?_
         refine und 18 70 (bt 23 524287) ?_
         refine und 19 71 (bt 23 1048575) ?_
         refine und 20 72 (bt 23 2097151) ?_
         refine pur 21 73 (bt 23 4194303) ?_
         refine pur 22 8 (bt 23 8388607) ?_
         refine done_ (by kernel_rfl) ?_

         have S := S2
         clear S2
         go_wp2_with (first | (refine ev_own1 S ?_ rfl o32 rfl (by repeat (first | exact Spot.here _ _ | apply Spot.there)) (by exact rfl) ?_; (first | exact want0 rfl | exact want1 rfl rfl rfl rfl)) | (refine ev_load1 ?_ rfl o9 rfl (old_ S HXI.out) ?_; (first | exact want0 rfl | exact want1 rfl rfl rfl rfl)) | (go_at_call 15; have c_ := has_ev (x := ⟨g, bm, n, f, G⟩) (s := d) S (by repeat (first | exact Spot.here _ _ | apply Spot.there)) HSD.out; dsimp only at c_; rw [HHD.out] at c_; (with_reducible refine c_.mono ?_); clear c_; rintro z_ w_ ⟨rfl, S_⟩; clear S; have S := S_; clear S_) | go_in)
         refine ⟨⟨i + 1, by simp [HI1.out], by omega, by rw [HP9.out, HRD.out]; rfl, by rw [HQ9.out]; rfl, S⟩, meas hlt HI1.out⟩
        | false =>
         go_wp2_with (first | (refine ev_own1 S ?_ rfl o32 rfl (by repeat (first | exact Spot.here _ _ | apply Spot.there)) (by exact rfl) ?_; (first | exact want0 rfl | exact want1 rfl rfl rfl rfl)) | go_in)
         have S2 := Aside0.mk S.out.drew
         clear S
         refine start_ (n := 23) (S := fun w' => w'.cell? ⟨g3, 1, none⟩ = some (.string s) ∧ w'.cell? ⟨g3, 2, none⟩ = some (.slice (some ad) xs.length c1) ∧ w'.cell? (ad.add i) = some (.string d)) (ds := []) (bt 23 0) (by kernel_rfl) rfl rfl ⟨((own_cell (g := g3) S2 (by repeat (first | exact Spot.here _ _ | apply Spot.there)) 1).trans rfl), ((own_cell (g := g3) S2 (by repeat (first | exact Spot.here _ _ | apply Spot.there)) 2).trans rfl), (old_ S2 HXI.out)⟩ (fun hHeld => ?_)
         refine pur 0 52 (bt 23 1) ?_
         refine pur 1 53 (bt 23 3) ?_
         refine pur 2 54 (bt 23 7) ?_
         refine pur 4 56 (bt 23 23) ?_
         refine pur 7 59 (bt 23 151) ?_
         refine tak 3 55 (bt 23 159) hHeld ?_
         refine pur 5 57 (bt 23 191) ?_
         refine tak 6 58 (bt 23 255) hHeld ?_
         refine tak 8 60 (bt 23 511) hHeld ?_
         refine pur 9 61 (bt 23 1023) ?_
         refine pur 10 62 (bt 23 2047) ?_
         refine pur 11 63 (bt 23 4095) ?_
         refine und 12 64 (bt 23 8191) ?_
         refine und 13 65 (bt 23 16383) ?_
         refine und 14 66 (bt 23 32767) ?_
         refine und 15 67 (bt 23 65535) ?_
         refine und 16 68 (bt 23 131071) ?_
         refine und 17 69 (bt 23 262143) ?_
         refine und 18 70 (bt 23 524287) ?_
         refine und 19 71 (bt 23 1048575) ?_
         refine und 20 72 (bt 23 2097151) ?_
         refine pur 21 73 (bt 23 4194303) ?_
         refine pur 22 8 (bt 23 8388607) ?_
         refine done_ (by kernel_rfl) ?_

         have S := S2
         clear S2
         go_wp2_with (first | (refine ev_own1 S ?_ rfl o32 rfl (by repeat (first | exact Spot.here _ _ | apply Spot.there)) (by exact rfl) ?_; (first | exact want0 rfl | exact want1 rfl rfl rfl rfl)) | (refine ev_load1 ?_ rfl o9 rfl (old_ S HXI.out) ?_; (first | exact want0 rfl | exact want1 rfl rfl rfl rfl)) | (go_at_call 15; have c_ := has_ev (x := ⟨g, bm, n, f, G⟩) (s := d) S (by repeat (first | exact Spot.here _ _ | apply Spot.there)) HSD.out; dsimp only at c_; rw [HHD.out] at c_; (with_reducible refine c_.mono ?_); clear c_; rintro z_ w_ ⟨rfl, S_⟩; clear S; have S := S_; clear S_) | go_in)
         refine ⟨⟨i + 1, by simp [HI1.out], by omega, by rw [HP9.out, HRD.out]; rfl, by rw [HQ9.out]; rfl, S⟩, meas hlt HI1.out⟩
       ·rw [decide_eq_false e] at hbb HRD
        clear e
        cases q with
        | true =>
         go_wp2_with (first | (refine ev_own1 S ?_ rfl o32 rfl (by repeat (first | exact Spot.here _ _ | apply Spot.there)) (by exact rfl) ?_; (first | exact want0 rfl | exact want1 rfl rfl rfl rfl)) | go_in)
         have S2 := Aside0.mk S.out.drew
         clear S
         refine start_ (n := 23) (S := fun w' => w'.cell? ⟨g3, 1, none⟩ = some (.string s) ∧ w'.cell? ⟨g3, 2, none⟩ = some (.slice (some ad) xs.length c1) ∧ w'.cell? (ad.add i) = some (.string d)) (ds := []) (bt 23 0) (by kernel_rfl) rfl rfl ⟨((own_cell (g := g3) S2 (by repeat (first | exact Spot.here _ _ | apply Spot.there)) 1).trans rfl), ((own_cell (g := g3) S2 (by repeat (first | exact Spot.here _ _ | apply Spot.there)) 2).trans rfl), (old_ S2 HXI.out)⟩ (fun hHeld => ?_)
         refine pur 0 52 (bt 23 1) ?_
         refine pur 1 53 (bt 23 3) ?_
         refine pur 2 54 (bt 23 7) ?_
         refine pur 4 56 (bt 23 23) ?_
         refine pur 7 59 (bt 23 151) ?_
         refine tak 3 55 (bt 23 159) hHeld ?_
         refine pur 5 57 (bt 23 191) ?_
         refine tak 6 58 (bt 23 255) hHeld ?_
         refine tak 8 60 (bt 23 511) hHeld ?_
         refine pur 9 61 (bt 23 1023) ?_
         refine pur 10 62 (bt 23 2047) ?_
         refine pur 11 63 (bt 23 4095) ?_
         refine pur 12 64 (bt 23 8191) ?_
         refine pur 13 65 (bt 23 16383) ?_
         refine pur 15 67 (bt 23 49151) ?_
         refine pur 18 70 (bt 23 311295) ?_
         refine tak 14 66 (bt 23 327679) hHeld ?_
         refine pur 16 68 (bt 23 393215) ?_
         refine tak 17 69 (bt 23 524287) hHeld ?_
         refine tak 19 71 (bt 23 1048575) hHeld ?_
         refine on1 20 72 (bt 23 2097151) (fun K hK => ?_)
         have c_ := reaches_ev (x := ⟨g, bm, n, f, G⟩) (s := d) (b := s) S2 (by repeat (first | exact Spot.here _ _ | apply Spot.there)) HSD.out HSS.out
         dsimp only at c_
         rw [HRV.out] at c_
         refine goes_ Try.func16 (by kernel_rfl) rfl #[.pointer (some ⟨g, 0, none⟩), .string d, .string s] (by rfl) rfl rfl (by simp only [List.map_toArray, List.map_cons, List.map_nil]; rfl) ?_
         with_reducible refine (c_).mono ?_
         rintro z9 w3_ ⟨rfl, S3⟩
         clear c_
         refine ⟨_, rfl, ?_⟩
         refine hK.out _ _ ⟨((own_cell (g := g3) S3 (by repeat (first | exact Spot.here _ _ | apply Spot.there)) 1).trans rfl), ((own_cell (g := g3) S3 (by repeat (first | exact Spot.here _ _ | apply Spot.there)) 2).trans rfl), (old_ S3 HXI.out)⟩ (fun hHeld => ?_)
         clear hK K
         refine nrm ?_
         refine pur 21 73 (bt 23 4194303) ?_
         refine pur 22 8 (bt 23 8388607) ?_
         refine done_ (by kernel_rfl) ?_

         have S := S3
         clear S2 S3
         go_wp2_with (first | (refine ev_own1 S ?_ rfl o32 rfl (by repeat (first | exact Spot.here _ _ | apply Spot.there)) (by exact rfl) ?_; (first | exact want0 rfl | exact want1 rfl rfl rfl rfl)) | (refine ev_load1 ?_ rfl o9 rfl (old_ S HXI.out) ?_; (first | exact want0 rfl | exact want1 rfl rfl rfl rfl)) | (go_at_call 15; have c_ := has_ev (x := ⟨g, bm, n, f, G⟩) (s := d) S (by repeat (first | exact Spot.here _ _ | apply Spot.there)) HSD.out; dsimp only at c_; rw [HHD.out] at c_; (with_reducible refine c_.mono ?_); clear c_; rintro z_ w_ ⟨rfl, S_⟩; clear S; have S := S_; clear S_) | go_in)
         refine ⟨⟨i + 1, by simp [HI1.out], by omega, by rw [HP9.out, HRD.out]; rfl, by rw [HQ9.out]; rfl, S⟩, meas hlt HI1.out⟩
        | false =>
         go_wp2_with (first | (refine ev_own1 S ?_ rfl o32 rfl (by repeat (first | exact Spot.here _ _ | apply Spot.there)) (by exact rfl) ?_; (first | exact want0 rfl | exact want1 rfl rfl rfl rfl)) | go_in)
         have S2 := Aside0.mk S.out.drew
         clear S
         refine start_ (n := 23) (S := fun w' => w'.cell? ⟨g3, 1, none⟩ = some (.string s) ∧ w'.cell? ⟨g3, 2, none⟩ = some (.slice (some ad) xs.length c1) ∧ w'.cell? (ad.add i) = some (.string d)) (ds := []) (bt 23 0) (by kernel_rfl) rfl rfl ⟨((own_cell (g := g3) S2 (by repeat (first | exact Spot.here _ _ | apply Spot.there)) 1).trans rfl), ((own_cell (g := g3) S2 (by repeat (first | exact Spot.here _ _ | apply Spot.there)) 2).trans rfl), (old_ S2 HXI.out)⟩ (fun hHeld => ?_)
         refine pur 0 52 (bt 23 1) ?_
         refine pur 1 53 (bt 23 3) ?_
         refine pur 2 54 (bt 23 7) ?_
         refine pur 4 56 (bt 23 23) ?_
         refine pur 7 59 (bt 23 151) ?_
         refine tak 3 55 (bt 23 159) hHeld ?_
         refine pur 5 57 (bt 23 191) ?_
         refine tak 6 58 (bt 23 255) hHeld ?_
         refine tak 8 60 (bt 23 511) hHeld ?_
         refine pur 9 61 (bt 23 1023) ?_
         refine pur 10 62 (bt 23 2047) ?_
         refine pur 11 63 (bt 23 4095) ?_
         refine pur 12 64 (bt 23 8191) ?_
         refine pur 13 65 (bt 23 16383) ?_
         refine pur 15 67 (bt 23 49151) ?_
         refine pur 18 70 (bt 23 311295) ?_
         refine tak 14 66 (bt 23 327679) hHeld ?_
         refine pur 16 68 (bt 23 393215) ?_
         refine tak 17 69 (bt 23 524287) hHeld ?_
         refine tak 19 71 (bt 23 1048575) hHeld ?_
         refine on1 20 72 (bt 23 2097151) (fun K hK => ?_)
         have c_ := reaches_ev (x := ⟨g, bm, n, f, G⟩) (s := d) (b := s) S2 (by repeat (first | exact Spot.here _ _ | apply Spot.there)) HSD.out HSS.out
         dsimp only at c_
         rw [HRV.out] at c_
         refine goes_ Try.func16 (by kernel_rfl) rfl #[.pointer (some ⟨g, 0, none⟩), .string d, .string s] (by rfl) rfl rfl (by simp only [List.map_toArray, List.map_cons, List.map_nil]; rfl) ?_
         with_reducible refine (c_).mono ?_
         rintro z9 w3_ ⟨rfl, S3⟩
         clear c_
         refine ⟨_, rfl, ?_⟩
         refine hK.out _ _ ⟨((own_cell (g := g3) S3 (by repeat (first | exact Spot.here _ _ | apply Spot.there)) 1).trans rfl), ((own_cell (g := g3) S3 (by repeat (first | exact Spot.here _ _ | apply Spot.there)) 2).trans rfl), (old_ S3 HXI.out)⟩ (fun hHeld => ?_)
         clear hK K
         refine nrm ?_
         refine pur 21 73 (bt 23 4194303) ?_
         refine pur 22 8 (bt 23 8388607) ?_
         refine done_ (by kernel_rfl) ?_

         have S := S3
         clear S2 S3
         go_wp2_with (first | (refine ev_own1 S ?_ rfl o32 rfl (by repeat (first | exact Spot.here _ _ | apply Spot.there)) (by exact rfl) ?_; (first | exact want0 rfl | exact want1 rfl rfl rfl rfl)) | (refine ev_load1 ?_ rfl o9 rfl (old_ S HXI.out) ?_; (first | exact want0 rfl | exact want1 rfl rfl rfl rfl)) | (go_at_call 15; have c_ := has_ev (x := ⟨g, bm, n, f, G⟩) (s := d) S (by repeat (first | exact Spot.here _ _ | apply Spot.there)) HSD.out; dsimp only at c_; rw [HHD.out] at c_; (with_reducible refine c_.mono ?_); clear c_; rintro z_ w_ ⟨rfl, S_⟩; clear S; have S := S_; clear S_) | go_in)
         refine ⟨⟨i + 1, by simp [HI1.out], by omega, by rw [HP9.out, HRD.out]; rfl, by rw [HQ9.out]; rfl, S⟩, meas hlt HI1.out⟩
     ·obtain rfl : i = xs.length := by omega
      have hd3 : decide ((xs.length : Int) < (xs.length : Int)) = false := decide_eq_false (by omega)
      rw [List.take_length]
      have HCASE := Aside0.mk (turn_cases (G := G) (s := s) (xs := xs) HS0.out)
      generalize (xs.any (rounds_ G s)) = p at *
      generalize (!hs0 || xs.any (fun d => !decide (d ∈ names G))) = q at *
      obtain ⟨e, he⟩ : ∃ e, e = errTurn G s xs := ⟨_, rfl⟩
      obtain ⟨G2, hG2⟩ : ∃ G2, G2 = aftTurn G s xs := ⟨_, rfl⟩
      have HE := Aside0.mk he.symm
      have HAF := Aside0.mk hG2.symm
      cases q with
      | true =>
       obtain ⟨h1, h2⟩ := HCASE.out.1 rfl
       obtain rfl : e = 8 := he.trans h1
       obtain rfl : G = G2 := (hG2.trans h2).symm
       clear he hG2 h1 h2 HCASE
       go_wp2_with (first | (refine ev_own1 S ?_ rfl o9 rfl (by repeat (first | exact Spot.here _ _ | apply Spot.there)) (by exact rfl) ?_; (first | exact want0 rfl | exact want1 rfl rfl rfl rfl)) | (refine ev_own1 S ?_ rfl o32 rfl (by repeat (first | exact Spot.here _ _ | apply Spot.there)) (by exact rfl) ?_; (first | exact want0 rfl | exact want1 rfl rfl rfl rfl)) | (refine ev_owns (vs := [_]) S ?_ rfl m29 rfl (by repeat (first | exact Spot.here _ _ | apply Spot.there)) (by exact rfl) ?_; (first | exact want0 rfl | exact want1 rfl rfl rfl rfl)) | (go_at_call 17; have c_ := turn_ev (x := ⟨g, bm, n, f, G⟩) (s := s) (xs := xs) A1 c1 S (by repeat (first | exact Spot.here _ _ | apply Spot.there)) HLL.out.1 HSS.out (old_far S (by repeat (first | exact Spot.here _ _ | apply Spot.there)) HX1.out) HSZ.out (by have := HXL.out; omega); dsimp only at c_; rw [HE.out, HAF.out] at c_; (with_reducible refine c_.mono ?_); clear c_; rintro z_ w_ ⟨n2, f2, rfl, hn2, S_⟩; clear hn2; clear S; have S := S_; clear S_) | (go_at_call 12; have c_ := same_ev (x := ⟨g, bm, n2, f2, G⟩) (a := s) (b := nA) S (by repeat (first | exact Spot.here _ _ | apply Spot.there)) (by repeat (first | exact Spot.here _ _ | apply Spot.there)) HSS.out sA; (with_reducible refine c_.mono ?_); clear c_; rintro z_ w_ ⟨rfl, S_⟩; clear S; have S := S_; clear S_) | (go_at_call 9; (with_reducible refine (awake_calls _).mono ?_); rintro z_ w_ ⟨rfl, hb_⟩; have S_ := Aside0.mk (S.out.keep hb_); clear hb_; clear S; have S := S_; clear S_))
       go_ret
       exact ⟨rfl, S.out.below⟩
      | false =>
       cases p with
       | true =>
        obtain ⟨h1, h2⟩ := HCASE.out.2.1 rfl rfl
        obtain rfl : e = 24 := he.trans h1
        obtain rfl : G = G2 := (hG2.trans h2).symm
        clear he hG2 h1 h2 HCASE
        go_wp2_with (first | (refine ev_own1 S ?_ rfl o9 rfl (by repeat (first | exact Spot.here _ _ | apply Spot.there)) (by exact rfl) ?_; (first | exact want0 rfl | exact want1 rfl rfl rfl rfl)) | (refine ev_own1 S ?_ rfl o32 rfl (by repeat (first | exact Spot.here _ _ | apply Spot.there)) (by exact rfl) ?_; (first | exact want0 rfl | exact want1 rfl rfl rfl rfl)) | (refine ev_owns (vs := [_]) S ?_ rfl m29 rfl (by repeat (first | exact Spot.here _ _ | apply Spot.there)) (by exact rfl) ?_; (first | exact want0 rfl | exact want1 rfl rfl rfl rfl)) | (go_at_call 17; have c_ := turn_ev (x := ⟨g, bm, n, f, G⟩) (s := s) (xs := xs) A1 c1 S (by repeat (first | exact Spot.here _ _ | apply Spot.there)) HLL.out.1 HSS.out (old_far S (by repeat (first | exact Spot.here _ _ | apply Spot.there)) HX1.out) HSZ.out (by have := HXL.out; omega); dsimp only at c_; rw [HE.out, HAF.out] at c_; (with_reducible refine c_.mono ?_); clear c_; rintro z_ w_ ⟨n2, f2, rfl, hn2, S_⟩; clear hn2; clear S; have S := S_; clear S_) | (go_at_call 12; have c_ := same_ev (x := ⟨g, bm, n2, f2, G⟩) (a := s) (b := nA) S (by repeat (first | exact Spot.here _ _ | apply Spot.there)) (by repeat (first | exact Spot.here _ _ | apply Spot.there)) HSS.out sA; (with_reducible refine c_.mono ?_); clear c_; rintro z_ w_ ⟨rfl, S_⟩; clear S; have S := S_; clear S_) | (go_at_call 9; (with_reducible refine (awake_calls _).mono ?_); rintro z_ w_ ⟨rfl, hb_⟩; have S_ := Aside0.mk (S.out.keep hb_); clear hb_; clear S; have S := S_; clear S_))
        go_ret
        exact ⟨rfl, S.out.below⟩
       | false =>
        obtain ⟨h1, h2⟩ := HCASE.out.2.2 rfl rfl
        obtain rfl : e = 0 := he.trans h1
        have HD2 := Aside0.mk (show depsOf G2 s = setOf xs by rw [hG2, h2, depsOf_turn, if_pos rfl])
        have HSL := Aside0.mk (show (setOf xs).length ≤ 1000 from Nat.le_trans (setOf_len xs) HXL.out)
        clear he hG2 h1 h2 HCASE
        go_wp2_with (first | (refine ev_own1 S ?_ rfl o9 rfl (by repeat (first | exact Spot.here _ _ | apply Spot.there)) (by exact rfl) ?_; (first | exact want0 rfl | exact want1 rfl rfl rfl rfl)) | (refine ev_own1 S ?_ rfl o32 rfl (by repeat (first | exact Spot.here _ _ | apply Spot.there)) (by exact rfl) ?_; (first | exact want0 rfl | exact want1 rfl rfl rfl rfl)) | (refine ev_owns (vs := [_]) S ?_ rfl m29 rfl (by repeat (first | exact Spot.here _ _ | apply Spot.there)) (by exact rfl) ?_; (first | exact want0 rfl | exact want1 rfl rfl rfl rfl)) | (go_at_call 17; have c_ := turn_ev (x := ⟨g, bm, n, f, G⟩) (s := s) (xs := xs) A1 c1 S (by repeat (first | exact Spot.here _ _ | apply Spot.there)) HLL.out.1 HSS.out (old_far S (by repeat (first | exact Spot.here _ _ | apply Spot.there)) HX1.out) HSZ.out (by have := HXL.out; omega); dsimp only at c_; rw [HE.out, HAF.out] at c_; (with_reducible refine c_.mono ?_); clear c_; rintro z_ w_ ⟨n2, f2, rfl, hn2, S_⟩; clear hn2; clear S; have S := S_; clear S_) | (go_at_call 12; have c_ := same_ev (x := ⟨g, bm, n2, f2, G⟩) (a := s) (b := nA) S (by repeat (first | exact Spot.here _ _ | apply Spot.there)) (by repeat (first | exact Spot.here _ _ | apply Spot.there)) HSS.out sA; (with_reducible refine c_.mono ?_); clear c_; rintro z_ w_ ⟨rfl, S_⟩; clear S; have S := S_; clear S_) | (go_at_call 9; (with_reducible refine (awake_calls _).mono ?_); rintro z_ w_ ⟨rfl, hb_⟩; have S_ := Aside0.mk (S.out.keep hb_); clear hb_; clear S; have S := S_; clear S_))
        have S2 := Aside0.mk S.out.drew
        clear S
        refine start_ (n := 16) (S := fun w' => w'.cell? ⟨g3, 1, none⟩ = some (.string s) ∧ w'.cell? ⟨g3, 2, none⟩ = some (.slice A1 xs.length c1)) (ds := []) (bt 16 0) (by kernel_rfl) rfl rfl ⟨((own_cell (g := g3) S2 (by repeat (first | exact Spot.here _ _ | apply Spot.there)) 1).trans rfl), ((own_cell (g := g3) S2 (by repeat (first | exact Spot.here _ _ | apply Spot.there)) 2).trans rfl)⟩ (fun hHeld => ?_)
        refine pur 0 119 (bt 16 1) ?_
        refine pur 1 120 (bt 16 3) ?_
        refine pur 2 121 (bt 16 7) ?_
        refine pur 3 122 (bt 16 15) ?_
        refine pur 4 123 (bt 16 31) ?_
        refine pur 7 126 (bt 16 159) ?_
        refine tak 5 124 (bt 16 191) hHeld ?_
        refine tak 8 127 (bt 16 447) hHeld ?_
        refine on1 6 125 (bt 16 511) (fun K hK => ?_)
        have c_ := deps_ev (x := ⟨g, bm, n2, f2, G2⟩) (s := s) S2 (by repeat (first | exact Spot.here _ _ | apply Spot.there)) HSS.out
        dsimp only at c_
        rw [HD2.out] at c_
        refine goes_ Try.func14 (by kernel_rfl) rfl #[.pointer (some ⟨g, 0, none⟩), .string s] (by rfl) rfl rfl (by simp only [List.map_toArray, List.map_cons, List.map_nil]; rfl) ?_
        with_reducible refine (c_).mono ?_
        rintro z9 w3_ ⟨A25, c25, rfl, S3⟩
        clear c_
        refine ⟨_, rfl, ?_⟩
        refine hK.out _ _ ⟨((own_cell (g := g3) S3 (by repeat (first | exact Spot.here _ _ | apply Spot.there)) 1).trans rfl), ((own_cell (g := g3) S3 (by repeat (first | exact Spot.here _ _ | apply Spot.there)) 2).trans rfl)⟩ (fun hHeld => ?_)
        clear hK K
        refine nrm ?_
        refine on1 9 128 (bt 16 1023) (fun K hK => ?_)
        have c_ := set_ev (A := A1) (c := c1) (xs := xs) S3 (Kd.C_below HX1.out S3.out.below) HXC.out HXL.out
        refine goes_ Try.func19 (by kernel_rfl) rfl #[.slice A1 xs.length c1] (by rfl) rfl rfl (by simp only [List.map_toArray, List.map_cons, List.map_nil]; rfl) ?_
        with_reducible refine (c_).mono ?_
        rintro z9 w4_ ⟨A28, c28, rfl, S4⟩
        clear c_
        refine ⟨_, rfl, ?_⟩
        refine hK.out _ _ ⟨((own_cell (g := g3) S4 (by repeat (first | exact Spot.here _ _ | apply Spot.there)) 1).trans rfl), ((own_cell (g := g3) S4 (by repeat (first | exact Spot.here _ _ | apply Spot.there)) 2).trans rfl)⟩ (fun hHeld => ?_)
        clear hK K
        refine nrm ?_
        refine on1 10 129 (bt 16 2047) (fun K hK => ?_)
        have c_ := aw_same (A := A25) (c := c25) (A2 := A28) (c2 := c28) (xs := setOf xs) rfl S4 (by repeat (first | exact Spot.here _ _ | apply Spot.there)) (by repeat (first | exact Spot.here _ _ | apply Spot.there)) HSL.out
        refine goes_ Try.func18 (by kernel_rfl) rfl #[.slice A25 (setOf xs).length c25, .slice A28 (setOf xs).length c28] (by rfl) rfl rfl (by simp only [List.map_toArray, List.map_cons, List.map_nil]; rfl) ?_
        with_reducible refine (c_).mono ?_
        rintro z9 w5_ ⟨rfl, S5⟩
        clear c_
        refine ⟨_, rfl, ?_⟩
        refine hK.out _ _ ⟨((own_cell (g := g3) S5 (by repeat (first | exact Spot.here _ _ | apply Spot.there)) 1).trans rfl), ((own_cell (g := g3) S5 (by repeat (first | exact Spot.here _ _ | apply Spot.there)) 2).trans rfl)⟩ (fun hHeld => ?_)
        clear hK K
        refine nrm ?_
        refine pur 11 130 (bt 16 4095) ?_
        refine pur 12 131 (bt 16 8191) ?_
        refine on1 13 132 (bt 16 16383) (fun K hK => ?_)
        refine goes_ Try.func9 (by kernel_rfl) rfl #[] (by rfl) rfl rfl (by simp only [List.map_toArray, List.map_cons, List.map_nil]) ?_
        with_reducible refine (awake_calls _).mono ?_
        rintro z9 w6_ ⟨rfl, hb_⟩
        have S6 := Aside0.mk (S5.out.keep hb_)
        clear hb_
        refine ⟨_, rfl, ?_⟩
        refine hK.out _ _ ⟨((own_cell (g := g3) S6 (by repeat (first | exact Spot.here _ _ | apply Spot.there)) 1).trans rfl), ((own_cell (g := g3) S6 (by repeat (first | exact Spot.here _ _ | apply Spot.there)) 2).trans rfl)⟩ (fun hHeld => ?_)
        clear hK K
        refine nrm ?_
        refine pur 14 133 (bt 16 32767) ?_
        refine pur 15 4 (bt 16 65535) ?_
        refine done_ (by kernel_rfl) ?_

        have S := S6
        clear S2 S3 S4 S5 S6
        go_wp2_with (first | (refine ev_own1 S ?_ rfl o9 rfl (by repeat (first | exact Spot.here _ _ | apply Spot.there)) (by exact rfl) ?_; (first | exact want0 rfl | exact want1 rfl rfl rfl rfl)) | (refine ev_own1 S ?_ rfl o32 rfl (by repeat (first | exact Spot.here _ _ | apply Spot.there)) (by exact rfl) ?_; (first | exact want0 rfl | exact want1 rfl rfl rfl rfl)) | (refine ev_owns (vs := [_]) S ?_ rfl m29 rfl (by repeat (first | exact Spot.here _ _ | apply Spot.there)) (by exact rfl) ?_; (first | exact want0 rfl | exact want1 rfl rfl rfl rfl)) | (go_at_call 17; have c_ := turn_ev (x := ⟨g, bm, n, f, G⟩) (s := s) (xs := xs) A1 c1 S (by repeat (first | exact Spot.here _ _ | apply Spot.there)) HLL.out.1 HSS.out (old_far S (by repeat (first | exact Spot.here _ _ | apply Spot.there)) HX1.out) HSZ.out (by have := HXL.out; omega); dsimp only at c_; rw [HE.out, HAF.out] at c_; (with_reducible refine c_.mono ?_); clear c_; rintro z_ w_ ⟨n2, f2, rfl, hn2, S_⟩; clear hn2; clear S; have S := S_; clear S_) | (go_at_call 12; have c_ := same_ev (x := ⟨g, bm, n2, f2, G⟩) (a := s) (b := nA) S (by repeat (first | exact Spot.here _ _ | apply Spot.there)) (by repeat (first | exact Spot.here _ _ | apply Spot.there)) HSS.out sA; (with_reducible refine c_.mono ?_); clear c_; rintro z_ w_ ⟨rfl, S_⟩; clear S; have S := S_; clear S_) | (go_at_call 9; (with_reducible refine (awake_calls _).mono ?_); rintro z_ w_ ⟨rfl, hb_⟩; have S_ := Aside0.mk (S.out.keep hb_); clear hb_; clear S; have S := S_; clear S_))
        go_ret
        exact ⟨rfl, S.out.below⟩
end Go.Proofs.Ytaomemhnjpemiaa.Mp
