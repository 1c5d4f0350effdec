/- slices.DeleteFunc at the clock's waiting, in place. -/
import Derived.Test.YtajmfmgfdgdioaaIx
namespace Go.Proofs.Ytajmfmgfdgdioaa.Cl
open Go.RowKit Go.Proofs.Ytajmfmgfdgdioaa.Sep Go.Proofs.YtajmfmgfdgdioaaW.PrintWords Go.Proofs.YtajmfmgfdgdioaaW.PrintLast Go.Proofs.YtajmfmgfdgdioaaW.PrintMore Go.Proofs.Ytajmfmgfdgdioaa.Ev Go.Proofs.Ytajmfmgfdgdioaa.Ty
open Go.Proofs.Ytajmfmgfdgdioaa.PC hiding z46 z59 z67
set_option linter.unusedVariables false
set_option linter.unusedSimpArgs false

theorem ix_none (del : S46 → Bool) : ∀ (xs : List S46) (i : Nat), ix del xs i = -1 → xs.filter (fun x => !del x) = xs
  | [], _, _ => rfl
  | x :: r, i, h => by
    unfold ix at h
    by_cases hx : del x = true
    · rw [if_pos hx] at h; omega
    · rw [if_neg hx] at h
      rw [List.filter_cons_of_pos (by simpa using hx), ix_none del r _ h]
theorem ix_some (del : S46 → Bool) : ∀ (xs : List S46) (i k : Nat), ix del xs i = (k : Int) → ∃ j, k = i + j ∧ j < xs.length ∧ (xs.take j).filter (fun x => !del x) = xs.take j ∧ (xs.take (j + 1)).filter (fun x => !del x) = xs.take j
  | [], i, k, h => by unfold ix at h; omega
  | x :: r, i, k, h => by
    unfold ix at h
    by_cases hx : del x = true
    · rw [if_pos hx] at h
      refine ⟨0, by omega, by simp, rfl, ?_⟩
      simp [hx]
    · rw [if_neg hx] at h
      obtain ⟨j, h1, h2, h3, h4⟩ := ix_some del r (i + 1) k h
      have hx2 : del x = false := by simpa using hx
      refine ⟨j + 1, by omega, by simpa using h2, ?_, ?_⟩
      · simp only [List.take_succ_cons, List.filter_cons, hx2, Bool.not_false, if_true, h3]
      · simp only [List.take_succ_cons, List.filter_cons, hx2, Bool.not_false, if_true, h4]
theorem ix_cases (del : S46 → Bool) : ∀ (xs : List S46) (i : Nat), ix del xs i = -1 ∨ ∃ k : Nat, ix del xs i = (k : Int)
  | [], _ => .inl rfl
  | x :: r, i => by
    unfold ix
    by_cases hx : del x = true
    · rw [if_pos hx]; exact .inr ⟨i, rfl⟩
    · rw [if_neg hx]; exact ix_cases del r (i + 1)
/-- What a round leaves: the kept ones ahead, what is not looked at yet behind. -/
structure Mid (del : S46 → Bool) (xs ys : List S46) (i j : Nat) : Prop where
  len : ys.length = xs.length
  lt : i < j
  le : j ≤ xs.length
  fore : ys.take i = (xs.take j).filter (fun x => !del x)
  hind : ys.drop j = xs.drop j
theorem Mid.start {del : S46 → Bool} {xs : List S46} {k : Nat} (h : ix del xs 0 = (k : Int)) : Mid del xs xs k (k + 1) := by
  obtain ⟨j, h1, h2, h3, h4⟩ := ix_some del xs 0 k h
  obtain rfl : k = j := by omega
  exact ⟨rfl, by omega, by omega, h4.symm, rfl⟩
theorem Mid.at {del : S46 → Bool} {xs ys : List S46} {i j : Nat} (h : Mid del xs ys i j) (z : S46) (hj : j < xs.length) : xs.getD j z = ys.getD j z := by
  have h1 := congrArg (fun l => l.getD 0 z) h.hind
  simpa using h1.symm
theorem take_next (xs : List S46) (z : S46) (j : Nat) (hj : j < xs.length) : xs.take (j + 1) = xs.take j ++ [xs.getD j z] := by
  rw [List.take_succ_eq_append_getElem hj, List.getD_eq_getElem?_getD, List.getElem?_eq_getElem hj]; rfl
theorem Mid.drop_ {del : S46 → Bool} {xs ys : List S46} {i j : Nat} (h : Mid del xs ys i j) (z : S46) (hj : j < xs.length) (hd : del (ys.getD j z) = true) : Mid del xs ys i (j + 1) := by
  refine ⟨h.len, by have := h.lt; omega, hj, ?_, ?_⟩
  · rw [take_next xs z j hj, List.filter_append, h.at z hj, h.fore]
    rw [List.getD_eq_getElem?_getD] at hd ⊢
    simp [hd]
  · have h1 := congrArg (List.drop 1) h.hind
    simpa [List.drop_drop, Nat.add_comm] using h1
theorem Mid.keep_ {del : S46 → Bool} {xs ys : List S46} {i j : Nat} (h : Mid del xs ys i j) (z : S46) (hj : j < xs.length) (hd : del (ys.getD j z) = false) : Mid del xs (ys.set i (ys.getD j z)) (i + 1) (j + 1) := by
  have hl := h.len; have h1 := h.lt
  refine ⟨by simp [hl], by omega, hj, ?_, ?_⟩
  · rw [take_next xs z j hj, List.filter_append, h.at z hj, ← h.fore, take_next _ z i (by simp; omega)]
    congr 1
    · rw [List.take_set_of_le (Nat.le_refl _)]
    · rw [List.getD_eq_getElem?_getD] at hd
      simp [hd, List.getD_eq_getElem?_getD, List.getElem?_set, show i < ys.length by omega]
  · rw [List.drop_set_of_lt (by omega)]
    have h1 := congrArg (List.drop 1) h.hind
    simpa [List.drop_drop, Nat.add_comm] using h1
theorem Mid.done {del : S46 → Bool} {xs ys : List S46} {i : Nat} (h : Mid del xs ys i xs.length) : ys.take i = xs.filter (fun x => !del x) := by
  rw [h.fore, List.take_length]

set_option maxRecDepth 100000 in
set_option maxHeartbeats 4000000 in
theorem delete_26_calls (gh : Nat) (del : S46 → Bool) (g c : Nat) (xs : List S46) (w : World) (hO : (Own k46 46 (some ⟨g, 0, none⟩) c xs).pred w) (hk : ∀ x W', Turn w W' (fun k => k = g) → Calls Try.prog 26 #[.agg #[.int .u16 x.f0, .int .u64 x.f1], .pointer (some ⟨gh, 0, none⟩)] W' fun z w' => z = .returned (.bool (del x)) ∧ Below W'.heap.size W' w') :
    Calls Try.prog 28 #[.slice (some ⟨g, 0, none⟩) xs.length c, .func (.func 26) #[] #[.pointer (some ⟨gh, 0, none⟩)]] w fun z w' => z = .returned (.slice (some ⟨g, 0, none⟩) (xs.filter (fun x => !del x)).length c) ∧ (Own k46 46 (some ⟨g, 0, none⟩) c (xs.filter (fun x => !del x))).pred w' ∧ Turn w w' (fun k => k = g) := by
  have S : Aside0 (St 0 w w [Own k46 46 (some ⟨g, 0, none⟩) c xs, Still w (fun k => ¬ k = g)]) := St.only (K := fun k => k = g) hO (fun k hk => (Option.some.inj (Own.foot_iff.1 hk)).symm)
  have HO0 := Aside0.mk hO
  have HK := Aside0.mk hk
  have hm : xs.length ≤ 9223372036854775807 := (Own.reads hO).2.1
  have hcap : xs.length ≤ c := Own.cap hO
  clear hO hk
  go_enter Try.func28, Try.ntmps28
  rcases ix_cases del xs 0 with he | ⟨k0, he⟩
  · go_wp2_with (first | (go_at_call 31; have c_ := index26_calls gh del (some ⟨g, 0, none⟩) c xs _ (Own.reads HO0.out) (fun x W' hb => HK.out x W' (Turn.of_below _ hb)); (with_reducible refine c_.mono ?_); clear c_; rintro z_ w_ ⟨rfl, hb_⟩; (try rw [he]); have hb2_ := hb_; have S_ := Aside0.mk (S.out.keep hb2_); clear hb2_ hb_; clear S; have S := S_; clear S_) | (go_at_call 26; have c_ := HK.out x _ (turn_of S (by repeat (first | exact Spot.here _ _ | apply Spot.there))); (with_reducible refine c_.mono ?_); clear c_; rintro z_ w_ ⟨rfl, hb_⟩; have hb2_ := hb_; have S_ := Aside0.mk (S.out.keep hb2_); clear hb2_ hb_; clear S; have S := S_; clear S_) | (refine ev_loads (vs := [_, _]) ?_ rfl m46 rfl HH.out ?_; (first | exact want0 rfl | exact want1 rfl rfl rfl rfl)) | (refine ev_rowputs (d := k46) (e := 46) (g := g) (i := i) (c := c) (v := x) (xs := ys) rfl S ?_ rfl rfl s46 rfl rfl (by repeat (first | exact Spot.here _ _ | apply Spot.there)) (by omega) (fun W => k46_mkM W _ _ x) rfl rfl ?_; (first | exact want0 rfl | exact want1 rfl rfl rfl rfl); intro w_ S_; clear S; have S := S_; clear S_) | (refine ev_clear (d := k46) (e := 46) (g := g) (c := c) (xs := zs) rfl S rfl rfl rfl Try.underlying43 Ty.z46 rfl (by omega) (by repeat (first | exact Spot.here _ _ | apply Spot.there)) (by have := HL.out; show zs.length * 2 ≤ i * 2; omega) (by show i * 2 + (xs.length - i) * 2 ≤ c * 2; omega) rfl rfl ?_; intro w_ S_; clear S; have S := S_; clear S_) | (refine ev_puts S ?_ rfl rfl s46 rfl rfl (by repeat (first | exact Spot.here _ _ | apply Spot.there)) rfl ?_ ?_ ?_; (first | exact want0 rfl | exact want1 rfl rfl rfl rfl); rfl; rfl; intro w_ S_; simp only [putAt, List.set_cons_zero, List.set_cons_succ] at S_; clear S; have S := S_; clear S_) | (refine ev_owns (vs := [_, _]) S ?_ rfl m46 rfl (by repeat (first | exact Spot.here _ _ | apply Spot.there)) (by exact rfl) ?_; (first | exact want0 rfl | exact want1 rfl rfl rfl rfl)) | ((with_reducible refine gate_dst (N := 7) rfl ?_); refine ev_alloc #[.int .u16 0, .int .u64 0] rfl S ?_ 7 rfl rfl Ty.z46 ?_; (first | exact want0 rfl | exact want1 rfl rfl rfl rfl); intro g7 w7 S_; clear S; have S := S_; clear S_))
    go_ret
    refine ⟨?_, ?_, turn_of S (by repeat (first | exact Spot.here _ _ | apply Spot.there))⟩
    · rw [ix_none del xs 0 he]; rfl
    · rw [ix_none del xs 0 he]; exact pred_at S.out (by repeat (first | exact Spot.here _ _ | apply Spot.there))
  · have hM := Mid.start he
    have hk1 : wrap64 ((k0 : Int) + 1) = ((k0 + 1 : Nat) : Int) := by have := hM.le; unfold wrap64; omega
    have hne : (((k0 : Int)) == (-1 : Int)) = false := by simp
    go_wp2_with (first | (go_at_call 31; have c_ := index26_calls gh del (some ⟨g, 0, none⟩) c xs _ (Own.reads HO0.out) (fun x W' hb => HK.out x W' (Turn.of_below _ hb)); (with_reducible refine c_.mono ?_); clear c_; rintro z_ w_ ⟨rfl, hb_⟩; (try rw [he]); have hb2_ := hb_; have S_ := Aside0.mk (S.out.keep hb2_); clear hb2_ hb_; clear S; have S := S_; clear S_) | (go_at_call 26; have c_ := HK.out x _ (turn_of S (by repeat (first | exact Spot.here _ _ | apply Spot.there))); (with_reducible refine c_.mono ?_); clear c_; rintro z_ w_ ⟨rfl, hb_⟩; have hb2_ := hb_; have S_ := Aside0.mk (S.out.keep hb2_); clear hb2_ hb_; clear S; have S := S_; clear S_) | (refine ev_loads (vs := [_, _]) ?_ rfl m46 rfl HH.out ?_; (first | exact want0 rfl | exact want1 rfl rfl rfl rfl)) | (refine ev_rowputs (d := k46) (e := 46) (g := g) (i := i) (c := c) (v := x) (xs := ys) rfl S ?_ rfl rfl s46 rfl rfl (by repeat (first | exact Spot.here _ _ | apply Spot.there)) (by omega) (fun W => k46_mkM W _ _ x) rfl rfl ?_; (first | exact want0 rfl | exact want1 rfl rfl rfl rfl); intro w_ S_; clear S; have S := S_; clear S_) | (refine ev_clear (d := k46) (e := 46) (g := g) (c := c) (xs := zs) rfl S rfl rfl rfl Try.underlying43 Ty.z46 rfl (by omega) (by repeat (first | exact Spot.here _ _ | apply Spot.there)) (by have := HL.out; show zs.length * 2 ≤ i * 2; omega) (by show i * 2 + (xs.length - i) * 2 ≤ c * 2; omega) rfl rfl ?_; intro w_ S_; clear S; have S := S_; clear S_) | (refine ev_puts S ?_ rfl rfl s46 rfl rfl (by repeat (first | exact Spot.here _ _ | apply Spot.there)) rfl ?_ ?_ ?_; (first | exact want0 rfl | exact want1 rfl rfl rfl rfl); rfl; rfl; intro w_ S_; simp only [putAt, List.set_cons_zero, List.set_cons_succ] at S_; clear S; have S := S_; clear S_) | (refine ev_owns (vs := [_, _]) S ?_ rfl m46 rfl (by repeat (first | exact Spot.here _ _ | apply Spot.there)) (by exact rfl) ?_; (first | exact want0 rfl | exact want1 rfl rfl rfl rfl)) | ((with_reducible refine gate_dst (N := 7) rfl ?_); refine ev_alloc #[.int .u16 0, .int .u64 0] rfl S ?_ 7 rfl rfl Ty.z46 ?_; (first | exact want0 rfl | exact want1 rfl rfl rfl rfl); intro g7 w7 S_; clear S; have S := S_; clear S_))
    go_loopw [5, 6] (fun v5 v6 wr => ∃ (i j : Nat) (ys : List S46), v5 = .int .i64 i ∧ v6 = .int .i64 j ∧ Mid del xs ys i j ∧ Aside0 (St 0 w wr [Own k46 46 (some ⟨g, 0, none⟩) c ys, Still w (fun k => ¬ k = g)])) (fun _ v6 _ => xs.length - (intOf v6).toNat)
    case atStart => exact ⟨k0, k0 + 1, xs, rfl, by first | rfl | rw [← hk1], hM, S⟩
    case round =>
      clear S hM hk1 hne he
      obtain ⟨i, j, ys, rfl, rfl, hM, S⟩ := hrel
      have hlen := hM.len
      have hlt := hM.lt
      have hle := hM.le
      by_cases hj : j < xs.length
      · have hd2 : decide ((j : Int) < (xs.length : Int)) = true := decide_eq_true (by omega)
        have hil : (j : Int) < (xs.length : Int) := by omega
        have hi0 : (0 : Int) ≤ (j : Int) := by omega
        have hil2 : (i : Int) < (xs.length : Int) := by omega
        have hi02 : (0 : Int) ≤ (i : Int) := by omega
        have hi1 : wrap64 ((i : Int) + 1) = ((i + 1 : Nat) : Int) := by unfold wrap64; omega
        have hj1 : wrap64 ((j : Int) + 1) = ((j + 1 : Nat) : Int) := by unfold wrap64; omega
        obtain ⟨cs, hcs, hH⟩ := Own.elem (pred_at S.out (by repeat (first | exact Spot.here _ _ | apply Spot.there))) PC.z46 j (by omega)
        obtain rfl := k46_open hcs
        have HH := Aside0.mk (show Has wr ⟨g, j * 2, none⟩ _ from hH)
        clear hH hcs
        have HM1 := Aside0.mk (fun hd => hM.drop_ PC.z46 hj hd)
        have HM2 := Aside0.mk (fun hd => hM.keep_ PC.z46 hj hd)
        generalize ys.getD j PC.z46 = x at *
        cases hp : del x with
        | true =>
          go_wp2_with (first | (go_at_call 31; have c_ := index26_calls gh del (some ⟨g, 0, none⟩) c xs _ (Own.reads HO0.out) (fun x W' hb => HK.out x W' (Turn.of_below _ hb)); (with_reducible refine c_.mono ?_); clear c_; rintro z_ w_ ⟨rfl, hb_⟩; have hb2_ := hb_; have S_ := Aside0.mk (S.out.keep hb2_); clear hb2_ hb_; clear S; have S := S_; clear S_) | (go_at_call 26; have c_ := HK.out x _ (turn_of S (by repeat (first | exact Spot.here _ _ | apply Spot.there))); (with_reducible refine c_.mono ?_); clear c_; rintro z_ w_ ⟨rfl, hb_⟩; have hb2_ := hb_; have S_ := Aside0.mk (S.out.keep hb2_); clear hb2_ hb_; clear S; have S := S_; clear S_) | (refine ev_loads (vs := [_, _]) ?_ rfl m46 rfl HH.out ?_; (first | exact want0 rfl | exact want1 rfl rfl rfl rfl)) | (refine ev_rowputs (d := k46) (e := 46) (g := g) (i := i) (c := c) (v := x) (xs := ys) rfl S ?_ rfl rfl s46 rfl rfl (by repeat (first | exact Spot.here _ _ | apply Spot.there)) (by omega) (fun W => k46_mkM W _ _ x) rfl rfl ?_; (first | exact want0 rfl | exact want1 rfl rfl rfl rfl); intro w_ S_; clear S; have S := S_; clear S_) | (refine ev_clear (d := k46) (e := 46) (g := g) (c := c) (xs := zs) rfl S rfl rfl rfl Try.underlying43 Ty.z46 rfl (by omega) (by repeat (first | exact Spot.here _ _ | apply Spot.there)) (by have := HL.out; show zs.length * 2 ≤ i * 2; omega) (by show i * 2 + (xs.length - i) * 2 ≤ c * 2; omega) rfl rfl ?_; intro w_ S_; clear S; have S := S_; clear S_) | (refine ev_puts S ?_ rfl rfl s46 rfl rfl (by repeat (first | exact Spot.here _ _ | apply Spot.there)) rfl ?_ ?_ ?_; (first | exact want0 rfl | exact want1 rfl rfl rfl rfl); rfl; rfl; intro w_ S_; simp only [putAt, List.set_cons_zero, List.set_cons_succ] at S_; clear S; have S := S_; clear S_) | (refine ev_owns (vs := [_, _]) S ?_ rfl m46 rfl (by repeat (first | exact Spot.here _ _ | apply Spot.there)) (by exact rfl) ?_; (first | exact want0 rfl | exact want1 rfl rfl rfl rfl)) | ((with_reducible refine gate_dst (N := 7) rfl ?_); refine ev_alloc #[.int .u16 0, .int .u64 0] rfl S ?_ 7 rfl rfl Ty.z46 ?_; (first | exact want0 rfl | exact want1 rfl rfl rfl rfl); intro g7 w7 S_; clear S; have S := S_; clear S_))
          refine ⟨⟨i, j + 1, ys, rfl, by simp [hj1], HM1.out hp, ⟨S.out.drop (List.sublist_cons_self _ _)⟩⟩, ?_⟩
          simp [intOf, hj1]; omega
        | false =>
          go_wp2_with (first | (go_at_call 31; have c_ := index26_calls gh del (some ⟨g, 0, none⟩) c xs _ (Own.reads HO0.out) (fun x W' hb => HK.out x W' (Turn.of_below _ hb)); (with_reducible refine c_.mono ?_); clear c_; rintro z_ w_ ⟨rfl, hb_⟩; have hb2_ := hb_; have S_ := Aside0.mk (S.out.keep hb2_); clear hb2_ hb_; clear S; have S := S_; clear S_) | (go_at_call 26; have c_ := HK.out x _ (turn_of S (by repeat (first | exact Spot.here _ _ | apply Spot.there))); (with_reducible refine c_.mono ?_); clear c_; rintro z_ w_ ⟨rfl, hb_⟩; have hb2_ := hb_; have S_ := Aside0.mk (S.out.keep hb2_); clear hb2_ hb_; clear S; have S := S_; clear S_) | (refine ev_loads (vs := [_, _]) ?_ rfl m46 rfl HH.out ?_; (first | exact want0 rfl | exact want1 rfl rfl rfl rfl)) | (refine ev_rowputs (d := k46) (e := 46) (g := g) (i := i) (c := c) (v := x) (xs := ys) rfl S ?_ rfl rfl s46 rfl rfl (by repeat (first | exact Spot.here _ _ | apply Spot.there)) (by omega) (fun W => k46_mkM W _ _ x) rfl rfl ?_; (first | exact want0 rfl | exact want1 rfl rfl rfl rfl); intro w_ S_; clear S; have S := S_; clear S_) | (refine ev_clear (d := k46) (e := 46) (g := g) (c := c) (xs := zs) rfl S rfl rfl rfl Try.underlying43 Ty.z46 rfl (by omega) (by repeat (first | exact Spot.here _ _ | apply Spot.there)) (by have := HL.out; show zs.length * 2 ≤ i * 2; omega) (by show i * 2 + (xs.length - i) * 2 ≤ c * 2; omega) rfl rfl ?_; intro w_ S_; clear S; have S := S_; clear S_) | (refine ev_puts S ?_ rfl rfl s46 rfl rfl (by repeat (first | exact Spot.here _ _ | apply Spot.there)) rfl ?_ ?_ ?_; (first | exact want0 rfl | exact want1 rfl rfl rfl rfl); rfl; rfl; intro w_ S_; simp only [putAt, List.set_cons_zero, List.set_cons_succ] at S_; clear S; have S := S_; clear S_) | (refine ev_owns (vs := [_, _]) S ?_ rfl m46 rfl (by repeat (first | exact Spot.here _ _ | apply Spot.there)) (by exact rfl) ?_; (first | exact want0 rfl | exact want1 rfl rfl rfl rfl)) | ((with_reducible refine gate_dst (N := 7) rfl ?_); refine ev_alloc #[.int .u16 0, .int .u64 0] rfl S ?_ 7 rfl rfl Ty.z46 ?_; (first | exact want0 rfl | exact want1 rfl rfl rfl rfl); intro g7 w7 S_; clear S; have S := S_; clear S_))
          refine ⟨⟨i + 1, j + 1, ys.set i x, by simp [hi1], by simp [hj1], HM2.out hp, ⟨S.out.drop (List.sublist_cons_self _ _)⟩⟩, ?_⟩
          simp [intOf, hj1]; omega
      · obtain rfl : j = xs.length := by omega
        have hd2 : decide ((xs.length : Int) < (xs.length : Int)) = false := decide_eq_false (by omega)
        have hD := hM.done
        have hL : (ys.take i).length = i := by rw [List.length_take]; omega
        have S1 : Aside0 (St 0 w wr [Own k46 46 (some ⟨g, 0, none⟩) c (ys.take i), Still w (fun k => ¬ k = g)]) := ⟨swap_at S.out (Spot.here _ _) (Own.take rfl (pred_at S.out (Spot.here _ _)) (by omega)) (fun k hk => Own.foot_iff.2 (show (Value.slice (some ⟨g, 0, none⟩) ys.length c).ownBlock = some k from (show (Value.slice (some ⟨g, 0, none⟩) (ys.take i).length c).ownBlock = some k from Own.foot_iff.1 hk)))⟩
        clear S
        have S := S1
        clear S1
        have HL := Aside0.mk hL
        have HD := Aside0.mk hD
        clear hL hD
        generalize ys.take i = zs at *
        have hi0 : (0 : Int) ≤ (i : Int) := by omega
        have hil : (i : Int) ≤ (xs.length : Int) := by omega
        go_wp2_with (first | (go_at_call 31; have c_ := index26_calls gh del (some ⟨g, 0, none⟩) c xs _ (Own.reads HO0.out) (fun x W' hb => HK.out x W' (Turn.of_below _ hb)); (with_reducible refine c_.mono ?_); clear c_; rintro z_ w_ ⟨rfl, hb_⟩; have hb2_ := hb_; have S_ := Aside0.mk (S.out.keep hb2_); clear hb2_ hb_; clear S; have S := S_; clear S_) | (go_at_call 26; have c_ := HK.out x _ (turn_of S (by repeat (first | exact Spot.here _ _ | apply Spot.there))); (with_reducible refine c_.mono ?_); clear c_; rintro z_ w_ ⟨rfl, hb_⟩; have hb2_ := hb_; have S_ := Aside0.mk (S.out.keep hb2_); clear hb2_ hb_; clear S; have S := S_; clear S_) | (refine ev_loads (vs := [_, _]) ?_ rfl m46 rfl HH.out ?_; (first | exact want0 rfl | exact want1 rfl rfl rfl rfl)) | (refine ev_rowputs (d := k46) (e := 46) (g := g) (i := i) (c := c) (v := x) (xs := ys) rfl S ?_ rfl rfl s46 rfl rfl (by repeat (first | exact Spot.here _ _ | apply Spot.there)) (by omega) (fun W => k46_mkM W _ _ x) rfl rfl ?_; (first | exact want0 rfl | exact want1 rfl rfl rfl rfl); intro w_ S_; clear S; have S := S_; clear S_) | (refine ev_clear (d := k46) (e := 46) (g := g) (c := c) (xs := zs) rfl S rfl rfl rfl Try.underlying43 Ty.z46 rfl (by omega) (by repeat (first | exact Spot.here _ _ | apply Spot.there)) (by have := HL.out; show zs.length * 2 ≤ i * 2; omega) (by show i * 2 + (xs.length - i) * 2 ≤ c * 2; omega) rfl rfl ?_; intro w_ S_; clear S; have S := S_; clear S_) | (refine ev_puts S ?_ rfl rfl s46 rfl rfl (by repeat (first | exact Spot.here _ _ | apply Spot.there)) rfl ?_ ?_ ?_; (first | exact want0 rfl | exact want1 rfl rfl rfl rfl); rfl; rfl; intro w_ S_; simp only [putAt, List.set_cons_zero, List.set_cons_succ] at S_; clear S; have S := S_; clear S_) | (refine ev_owns (vs := [_, _]) S ?_ rfl m46 rfl (by repeat (first | exact Spot.here _ _ | apply Spot.there)) (by exact rfl) ?_; (first | exact want0 rfl | exact want1 rfl rfl rfl rfl)) | ((with_reducible refine gate_dst (N := 7) rfl ?_); refine ev_alloc #[.int .u16 0, .int .u64 0] rfl S ?_ 7 rfl rfl Ty.z46 ?_; (first | exact want0 rfl | exact want1 rfl rfl rfl rfl); intro g7 w7 S_; clear S; have S := S_; clear S_))
        go_ret
        refine ⟨?_, ?_, turn_of S (by repeat (first | exact Spot.here _ _ | apply Spot.there))⟩
        · rw [← HD.out, HL.out]; rfl
        · rw [← HD.out]; exact pred_at S.out (by repeat (first | exact Spot.here _ _ | apply Spot.there))

set_option maxRecDepth 100000 in
set_option maxHeartbeats 4000000 in
theorem delete_30_calls (gh : Nat) (del : S46 → Bool) (g c : Nat) (xs : List S46) (w : World) (hO : (Own k46 46 (some ⟨g, 0, none⟩) c xs).pred w) (hk : ∀ x W', Turn w W' (fun k => k = g) → Calls Try.prog 30 #[.agg #[.int .u16 x.f0, .int .u64 x.f1], .pointer (some ⟨gh, 0, none⟩)] W' fun z w' => z = .returned (.bool (del x)) ∧ Below W'.heap.size W' w') :
    Calls Try.prog 28 #[.slice (some ⟨g, 0, none⟩) xs.length c, .func (.func 30) #[] #[.pointer (some ⟨gh, 0, none⟩)]] w fun z w' => z = .returned (.slice (some ⟨g, 0, none⟩) (xs.filter (fun x => !del x)).length c) ∧ (Own k46 46 (some ⟨g, 0, none⟩) c (xs.filter (fun x => !del x))).pred w' ∧ Turn w w' (fun k => k = g) := by
  have S : Aside0 (St 0 w w [Own k46 46 (some ⟨g, 0, none⟩) c xs, Still w (fun k => ¬ k = g)]) := St.only (K := fun k => k = g) hO (fun k hk => (Option.some.inj (Own.foot_iff.1 hk)).symm)
  have HO0 := Aside0.mk hO
  have HK := Aside0.mk hk
  have hm : xs.length ≤ 9223372036854775807 := (Own.reads hO).2.1
  have hcap : xs.length ≤ c := Own.cap hO
  clear hO hk
  go_enter Try.func28, Try.ntmps28
  rcases ix_cases del xs 0 with he | ⟨k0, he⟩
  · go_wp2_with (first | (go_at_call 31; have c_ := index30_calls gh del (some ⟨g, 0, none⟩) c xs _ (Own.reads HO0.out) (fun x W' hb => HK.out x W' (Turn.of_below _ hb)); (with_reducible refine c_.mono ?_); clear c_; rintro z_ w_ ⟨rfl, hb_⟩; (try rw [he]); have hb2_ := hb_; have S_ := Aside0.mk (S.out.keep hb2_); clear hb2_ hb_; clear S; have S := S_; clear S_) | (go_at_call 30; have c_ := HK.out x _ (turn_of S (by repeat (first | exact Spot.here _ _ | apply Spot.there))); (with_reducible refine c_.mono ?_); clear c_; rintro z_ w_ ⟨rfl, hb_⟩; have hb2_ := hb_; have S_ := Aside0.mk (S.out.keep hb2_); clear hb2_ hb_; clear S; have S := S_; clear S_) | (refine ev_loads (vs := [_, _]) ?_ rfl m46 rfl HH.out ?_; (first | exact want0 rfl | exact want1 rfl rfl rfl rfl)) | (refine ev_rowputs (d := k46) (e := 46) (g := g) (i := i) (c := c) (v := x) (xs := ys) rfl S ?_ rfl rfl s46 rfl rfl (by repeat (first | exact Spot.here _ _ | apply Spot.there)) (by omega) (fun W => k46_mkM W _ _ x) rfl rfl ?_; (first | exact want0 rfl | exact want1 rfl rfl rfl rfl); intro w_ S_; clear S; have S := S_; clear S_) | (refine ev_clear (d := k46) (e := 46) (g := g) (c := c) (xs := zs) rfl S rfl rfl rfl Try.underlying43 Ty.z46 rfl (by omega) (by repeat (first | exact Spot.here _ _ | apply Spot.there)) (by have := HL.out; show zs.length * 2 ≤ i * 2; omega) (by show i * 2 + (xs.length - i) * 2 ≤ c * 2; omega) rfl rfl ?_; intro w_ S_; clear S; have S := S_; clear S_) | (refine ev_puts S ?_ rfl rfl s46 rfl rfl (by repeat (first | exact Spot.here _ _ | apply Spot.there)) rfl ?_ ?_ ?_; (first | exact want0 rfl | exact want1 rfl rfl rfl rfl); rfl; rfl; intro w_ S_; simp only [putAt, List.set_cons_zero, List.set_cons_succ] at S_; clear S; have S := S_; clear S_) | (refine ev_owns (vs := [_, _]) S ?_ rfl m46 rfl (by repeat (first | exact Spot.here _ _ | apply Spot.there)) (by exact rfl) ?_; (first | exact want0 rfl | exact want1 rfl rfl rfl rfl)) | ((with_reducible refine gate_dst (N := 7) rfl ?_); refine ev_alloc #[.int .u16 0, .int .u64 0] rfl S ?_ 7 rfl rfl Ty.z46 ?_; (first | exact want0 rfl | exact want1 rfl rfl rfl rfl); intro g7 w7 S_; clear S; have S := S_; clear S_))
    go_ret
    refine ⟨?_, ?_, turn_of S (by repeat (first | exact Spot.here _ _ | apply Spot.there))⟩
    · rw [ix_none del xs 0 he]; rfl
    · rw [ix_none del xs 0 he]; exact pred_at S.out (by repeat (first | exact Spot.here _ _ | apply Spot.there))
  · have hM := Mid.start he
    have hk1 : wrap64 ((k0 : Int) + 1) = ((k0 + 1 : Nat) : Int) := by have := hM.le; unfold wrap64; omega
    have hne : (((k0 : Int)) == (-1 : Int)) = false := by simp
    go_wp2_with (first | (go_at_call 31; have c_ := index30_calls gh del (some ⟨g, 0, none⟩) c xs _ (Own.reads HO0.out) (fun x W' hb => HK.out x W' (Turn.of_below _ hb)); (with_reducible refine c_.mono ?_); clear c_; rintro z_ w_ ⟨rfl, hb_⟩; (try rw [he]); have hb2_ := hb_; have S_ := Aside0.mk (S.out.keep hb2_); clear hb2_ hb_; clear S; have S := S_; clear S_) | (go_at_call 30; have c_ := HK.out x _ (turn_of S (by repeat (first | exact Spot.here _ _ | apply Spot.there))); (with_reducible refine c_.mono ?_); clear c_; rintro z_ w_ ⟨rfl, hb_⟩; have hb2_ := hb_; have S_ := Aside0.mk (S.out.keep hb2_); clear hb2_ hb_; clear S; have S := S_; clear S_) | (refine ev_loads (vs := [_, _]) ?_ rfl m46 rfl HH.out ?_; (first | exact want0 rfl | exact want1 rfl rfl rfl rfl)) | (refine ev_rowputs (d := k46) (e := 46) (g := g) (i := i) (c := c) (v := x) (xs := ys) rfl S ?_ rfl rfl s46 rfl rfl (by repeat (first | exact Spot.here _ _ | apply Spot.there)) (by omega) (fun W => k46_mkM W _ _ x) rfl rfl ?_; (first | exact want0 rfl | exact want1 rfl rfl rfl rfl); intro w_ S_; clear S; have S := S_; clear S_) | (refine ev_clear (d := k46) (e := 46) (g := g) (c := c) (xs := zs) rfl S rfl rfl rfl Try.underlying43 Ty.z46 rfl (by omega) (by repeat (first | exact Spot.here _ _ | apply Spot.there)) (by have := HL.out; show zs.length * 2 ≤ i * 2; omega) (by show i * 2 + (xs.length - i) * 2 ≤ c * 2; omega) rfl rfl ?_; intro w_ S_; clear S; have S := S_; clear S_) | (refine ev_puts S ?_ rfl rfl s46 rfl rfl (by repeat (first | exact Spot.here _ _ | apply Spot.there)) rfl ?_ ?_ ?_; (first | exact want0 rfl | exact want1 rfl rfl rfl rfl); rfl; rfl; intro w_ S_; simp only [putAt, List.set_cons_zero, List.set_cons_succ] at S_; clear S; have S := S_; clear S_) | (refine ev_owns (vs := [_, _]) S ?_ rfl m46 rfl (by repeat (first | exact Spot.here _ _ | apply Spot.there)) (by exact rfl) ?_; (first | exact want0 rfl | exact want1 rfl rfl rfl rfl)) | ((with_reducible refine gate_dst (N := 7) rfl ?_); refine ev_alloc #[.int .u16 0, .int .u64 0] rfl S ?_ 7 rfl rfl Ty.z46 ?_; (first | exact want0 rfl | exact want1 rfl rfl rfl rfl); intro g7 w7 S_; clear S; have S := S_; clear S_))
    go_loopw [5, 6] (fun v5 v6 wr => ∃ (i j : Nat) (ys : List S46), v5 = .int .i64 i ∧ v6 = .int .i64 j ∧ Mid del xs ys i j ∧ Aside0 (St 0 w wr [Own k46 46 (some ⟨g, 0, none⟩) c ys, Still w (fun k => ¬ k = g)])) (fun _ v6 _ => xs.length - (intOf v6).toNat)
    case atStart => exact ⟨k0, k0 + 1, xs, rfl, by first | rfl | rw [← hk1], hM, S⟩
    case round =>
      clear S hM hk1 hne he
      obtain ⟨i, j, ys, rfl, rfl, hM, S⟩ := hrel
      have hlen := hM.len
      have hlt := hM.lt
      have hle := hM.le
      by_cases hj : j < xs.length
      · have hd2 : decide ((j : Int) < (xs.length : Int)) = true := decide_eq_true (by omega)
        have hil : (j : Int) < (xs.length : Int) := by omega
        have hi0 : (0 : Int) ≤ (j : Int) := by omega
        have hil2 : (i : Int) < (xs.length : Int) := by omega
        have hi02 : (0 : Int) ≤ (i : Int) := by omega
        have hi1 : wrap64 ((i : Int) + 1) = ((i + 1 : Nat) : Int) := by unfold wrap64; omega
        have hj1 : wrap64 ((j : Int) + 1) = ((j + 1 : Nat) : Int) := by unfold wrap64; omega
        obtain ⟨cs, hcs, hH⟩ := Own.elem (pred_at S.out (by repeat (first | exact Spot.here _ _ | apply Spot.there))) PC.z46 j (by omega)
        obtain rfl := k46_open hcs
        have HH := Aside0.mk (show Has wr ⟨g, j * 2, none⟩ _ from hH)
        clear hH hcs
        have HM1 := Aside0.mk (fun hd => hM.drop_ PC.z46 hj hd)
        have HM2 := Aside0.mk (fun hd => hM.keep_ PC.z46 hj hd)
        generalize ys.getD j PC.z46 = x at *
        cases hp : del x with
        | true =>
          go_wp2_with (first | (go_at_call 31; have c_ := index30_calls gh del (some ⟨g, 0, none⟩) c xs _ (Own.reads HO0.out) (fun x W' hb => HK.out x W' (Turn.of_below _ hb)); (with_reducible refine c_.mono ?_); clear c_; rintro z_ w_ ⟨rfl, hb_⟩; have hb2_ := hb_; have S_ := Aside0.mk (S.out.keep hb2_); clear hb2_ hb_; clear S; have S := S_; clear S_) | (go_at_call 30; have c_ := HK.out x _ (turn_of S (by repeat (first | exact Spot.here _ _ | apply Spot.there))); (with_reducible refine c_.mono ?_); clear c_; rintro z_ w_ ⟨rfl, hb_⟩; have hb2_ := hb_; have S_ := Aside0.mk (S.out.keep hb2_); clear hb2_ hb_; clear S; have S := S_; clear S_) | (refine ev_loads (vs := [_, _]) ?_ rfl m46 rfl HH.out ?_; (first | exact want0 rfl | exact want1 rfl rfl rfl rfl)) | (refine ev_rowputs (d := k46) (e := 46) (g := g) (i := i) (c := c) (v := x) (xs := ys) rfl S ?_ rfl rfl s46 rfl rfl (by repeat (first | exact Spot.here _ _ | apply Spot.there)) (by omega) (fun W => k46_mkM W _ _ x) rfl rfl ?_; (first | exact want0 rfl | exact want1 rfl rfl rfl rfl); intro w_ S_; clear S; have S := S_; clear S_) | (refine ev_clear (d := k46) (e := 46) (g := g) (c := c) (xs := zs) rfl S rfl rfl rfl Try.underlying43 Ty.z46 rfl (by omega) (by repeat (first | exact Spot.here _ _ | apply Spot.there)) (by have := HL.out; show zs.length * 2 ≤ i * 2; omega) (by show i * 2 + (xs.length - i) * 2 ≤ c * 2; omega) rfl rfl ?_; intro w_ S_; clear S; have S := S_; clear S_) | (refine ev_puts S ?_ rfl rfl s46 rfl rfl (by repeat (first | exact Spot.here _ _ | apply Spot.there)) rfl ?_ ?_ ?_; (first | exact want0 rfl | exact want1 rfl rfl rfl rfl); rfl; rfl; intro w_ S_; simp only [putAt, List.set_cons_zero, List.set_cons_succ] at S_; clear S; have S := S_; clear S_) | (refine ev_owns (vs := [_, _]) S ?_ rfl m46 rfl (by repeat (first | exact Spot.here _ _ | apply Spot.there)) (by exact rfl) ?_; (first | exact want0 rfl | exact want1 rfl rfl rfl rfl)) | ((with_reducible refine gate_dst (N := 7) rfl ?_); refine ev_alloc #[.int .u16 0, .int .u64 0] rfl S ?_ 7 rfl rfl Ty.z46 ?_; (first | exact want0 rfl | exact want1 rfl rfl rfl rfl); intro g7 w7 S_; clear S; have S := S_; clear S_))
          refine ⟨⟨i, j + 1, ys, rfl, by simp [hj1], HM1.out hp, ⟨S.out.drop (List.sublist_cons_self _ _)⟩⟩, ?_⟩
          simp [intOf, hj1]; omega
        | false =>
          go_wp2_with (first | (go_at_call 31; have c_ := index30_calls gh del (some ⟨g, 0, none⟩) c xs _ (Own.reads HO0.out) (fun x W' hb => HK.out x W' (Turn.of_below _ hb)); (with_reducible refine c_.mono ?_); clear c_; rintro z_ w_ ⟨rfl, hb_⟩; have hb2_ := hb_; have S_ := Aside0.mk (S.out.keep hb2_); clear hb2_ hb_; clear S; have S := S_; clear S_) | (go_at_call 30; have c_ := HK.out x _ (turn_of S (by repeat (first | exact Spot.here _ _ | apply Spot.there))); (with_reducible refine c_.mono ?_); clear c_; rintro z_ w_ ⟨rfl, hb_⟩; have hb2_ := hb_; have S_ := Aside0.mk (S.out.keep hb2_); clear hb2_ hb_; clear S; have S := S_; clear S_) | (refine ev_loads (vs := [_, _]) ?_ rfl m46 rfl HH.out ?_; (first | exact want0 rfl | exact want1 rfl rfl rfl rfl)) | (refine ev_rowputs (d := k46) (e := 46) (g := g) (i := i) (c := c) (v := x) (xs := ys) rfl S ?_ rfl rfl s46 rfl rfl (by repeat (first | exact Spot.here _ _ | apply Spot.there)) (by omega) (fun W => k46_mkM W _ _ x) rfl rfl ?_; (first | exact want0 rfl | exact want1 rfl rfl rfl rfl); intro w_ S_; clear S; have S := S_; clear S_) | (refine ev_clear (d := k46) (e := 46) (g := g) (c := c) (xs := zs) rfl S rfl rfl rfl Try.underlying43 Ty.z46 rfl (by omega) (by repeat (first | exact Spot.here _ _ | apply Spot.there)) (by have := HL.out; show zs.length * 2 ≤ i * 2; omega) (by show i * 2 + (xs.length - i) * 2 ≤ c * 2; omega) rfl rfl ?_; intro w_ S_; clear S; have S := S_; clear S_) | (refine ev_puts S ?_ rfl rfl s46 rfl rfl (by repeat (first | exact Spot.here _ _ | apply Spot.there)) rfl ?_ ?_ ?_; (first | exact want0 rfl | exact want1 rfl rfl rfl rfl); rfl; rfl; intro w_ S_; simp only [putAt, List.set_cons_zero, List.set_cons_succ] at S_; clear S; have S := S_; clear S_) | (refine ev_owns (vs := [_, _]) S ?_ rfl m46 rfl (by repeat (first | exact Spot.here _ _ | apply Spot.there)) (by exact rfl) ?_; (first | exact want0 rfl | exact want1 rfl rfl rfl rfl)) | ((with_reducible refine gate_dst (N := 7) rfl ?_); refine ev_alloc #[.int .u16 0, .int .u64 0] rfl S ?_ 7 rfl rfl Ty.z46 ?_; (first | exact want0 rfl | exact want1 rfl rfl rfl rfl); intro g7 w7 S_; clear S; have S := S_; clear S_))
          refine ⟨⟨i + 1, j + 1, ys.set i x, by simp [hi1], by simp [hj1], HM2.out hp, ⟨S.out.drop (List.sublist_cons_self _ _)⟩⟩, ?_⟩
          simp [intOf, hj1]; omega
      · obtain rfl : j = xs.length := by omega
        have hd2 : decide ((xs.length : Int) < (xs.length : Int)) = false := decide_eq_false (by omega)
        have hD := hM.done
        have hL : (ys.take i).length = i := by rw [List.length_take]; omega
        have S1 : Aside0 (St 0 w wr [Own k46 46 (some ⟨g, 0, none⟩) c (ys.take i), Still w (fun k => ¬ k = g)]) := ⟨swap_at S.out (Spot.here _ _) (Own.take rfl (pred_at S.out (Spot.here _ _)) (by omega)) (fun k hk => Own.foot_iff.2 (show (Value.slice (some ⟨g, 0, none⟩) ys.length c).ownBlock = some k from (show (Value.slice (some ⟨g, 0, none⟩) (ys.take i).length c).ownBlock = some k from Own.foot_iff.1 hk)))⟩
        clear S
        have S := S1
        clear S1
        have HL := Aside0.mk hL
        have HD := Aside0.mk hD
        clear hL hD
        generalize ys.take i = zs at *
        have hi0 : (0 : Int) ≤ (i : Int) := by omega
        have hil : (i : Int) ≤ (xs.length : Int) := by omega
        go_wp2_with (first | (go_at_call 31; have c_ := index30_calls gh del (some ⟨g, 0, none⟩) c xs _ (Own.reads HO0.out) (fun x W' hb => HK.out x W' (Turn.of_below _ hb)); (with_reducible refine c_.mono ?_); clear c_; rintro z_ w_ ⟨rfl, hb_⟩; have hb2_ := hb_; have S_ := Aside0.mk (S.out.keep hb2_); clear hb2_ hb_; clear S; have S := S_; clear S_) | (go_at_call 30; have c_ := HK.out x _ (turn_of S (by repeat (first | exact Spot.here _ _ | apply Spot.there))); (with_reducible refine c_.mono ?_); clear c_; rintro z_ w_ ⟨rfl, hb_⟩; have hb2_ := hb_; have S_ := Aside0.mk (S.out.keep hb2_); clear hb2_ hb_; clear S; have S := S_; clear S_) | (refine ev_loads (vs := [_, _]) ?_ rfl m46 rfl HH.out ?_; (first | exact want0 rfl | exact want1 rfl rfl rfl rfl)) | (refine ev_rowputs (d := k46) (e := 46) (g := g) (i := i) (c := c) (v := x) (xs := ys) rfl S ?_ rfl rfl s46 rfl rfl (by repeat (first | exact Spot.here _ _ | apply Spot.there)) (by omega) (fun W => k46_mkM W _ _ x) rfl rfl ?_; (first | exact want0 rfl | exact want1 rfl rfl rfl rfl); intro w_ S_; clear S; have S := S_; clear S_) | (refine ev_clear (d := k46) (e := 46) (g := g) (c := c) (xs := zs) rfl S rfl rfl rfl Try.underlying43 Ty.z46 rfl (by omega) (by repeat (first | exact Spot.here _ _ | apply Spot.there)) (by have := HL.out; show zs.length * 2 ≤ i * 2; omega) (by show i * 2 + (xs.length - i) * 2 ≤ c * 2; omega) rfl rfl ?_; intro w_ S_; clear S; have S := S_; clear S_) | (refine ev_puts S ?_ rfl rfl s46 rfl rfl (by repeat (first | exact Spot.here _ _ | apply Spot.there)) rfl ?_ ?_ ?_; (first | exact want0 rfl | exact want1 rfl rfl rfl rfl); rfl; rfl; intro w_ S_; simp only [putAt, List.set_cons_zero, List.set_cons_succ] at S_; clear S; have S := S_; clear S_) | (refine ev_owns (vs := [_, _]) S ?_ rfl m46 rfl (by repeat (first | exact Spot.here _ _ | apply Spot.there)) (by exact rfl) ?_; (first | exact want0 rfl | exact want1 rfl rfl rfl rfl)) | ((with_reducible refine gate_dst (N := 7) rfl ?_); refine ev_alloc #[.int .u16 0, .int .u64 0] rfl S ?_ 7 rfl rfl Ty.z46 ?_; (first | exact want0 rfl | exact want1 rfl rfl rfl rfl); intro g7 w7 S_; clear S; have S := S_; clear S_))
        go_ret
        refine ⟨?_, ?_, turn_of S (by repeat (first | exact Spot.here _ _ | apply Spot.there))⟩
        · rw [← HD.out, HL.out]; rfl
        · rw [← HD.out]; exact pred_at S.out (by repeat (first | exact Spot.here _ _ | apply Spot.there))
end Go.Proofs.Ytajmfmgfdgdioaa.Cl
