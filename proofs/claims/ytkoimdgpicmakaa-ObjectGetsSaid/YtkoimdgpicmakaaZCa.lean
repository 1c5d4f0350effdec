/- slices.Grow and slices.Concat at bytes. -/
import Derived.Test.YtkoimdgpicmakaaZSa
import Derived.Lib.AppendZeros
import Derived.Test.YtkoimdgpicmakaaZPb
import Derived.Test.YtkoimdgpicmakaaZPe
import Derived.Test.YtkoimdgpicmakaaZPu
import Derived.RegionTactic
import Derived.BigRegion
namespace Go.Proofs.Ytkoimdgpicmakaa.Ob
open Go.RowKit Go.Proofs.Ytkoimdgpicmakaa.Sep Go.Proofs.YtkoimdgpicmakaaW.PrintWords Go.Proofs.YtkoimdgpicmakaaW.PrintLast Go.Proofs.Ytkoimdgpicmakaa.Wm Go.Proofs.Ytkoimdgpicmakaa.Ev Go.Proofs.Ytkoimdgpicmakaa.Ty Go.Proofs.Ytkoimdgpicmakaa.PB
set_option linter.unusedVariables false
set_option linter.unusedSimpArgs false

theorem grown_pred (W : World) (n : Nat) (h : n ≤ maxLen) : (Ow (Kd.int .u8) 5 (some ⟨W.heap.size, 0, none⟩) (grownCap W n 0 5) ([] : List Int)).pred (W.drew.alloc (.cells (Builtin.zeroCells #[.int .u8 0] n ++ Builtin.zeroCells #[.int .u8 0] (grownCap W n 0 5 - n)) 5)) := by
  refine Ow.mk (base := W.heap.size) (ok := fun _ => True) rfl ⟨fun _ _ => trivial, [], ⟨rfl, .inr ⟨W.heap.size, _, _, rfl, Nat.le_refl _, heap_alloc_new _ _, Nat.zero_le _, grownCap_le_maxLen W n 0 5 h, ?_, rfl⟩⟩, Reps.none _ _⟩
  have h1 := grownCap_ge W n 0 5
  rw [Array.size_append, size_zeroCells, size_zeroCells]
  show n * 1 + (grownCap W n 0 5 - n) * 1 = grownCap W n 0 5 * 1
  omega
section
variable {ops : Array Oper} {rest : List Oper} {o : Oper} {a : Act} {Q : Exit → Act → World → Prop} {B : Nat} {w W : World} {L : List Asn}
theorem ev_grow0 {s x : Operand} {n : Nat} (S : Aside0 (St B w W L)) (hgd : o.guard = none) (ho : o.op = .call { callee := .builtin .append, args := #[s, x], argTypes := #[30, 3] }) (hs : a.eval s = .slice none 0 0) (hx : a.eval x = .int .i64 n) (h0 : 0 < n) (hn : n ≤ 1099511627776)
    (h : ∀ g c w1, Aside0 (St B w w1 (Ow (Kd.int .u8) 5 (some ⟨g, 0, none⟩) c ([] : List Int) :: L)) → wpList Try.prog ops Q rest (a.put o.dst (.slice (some ⟨g, 0, none⟩) n c)) w1) : wpList Try.prog ops Q (o :: rest) a W := by
  obtain ⟨i, hi, hz⟩ := Option.map_eq_some_iff.1 info5
  injection hz with h1 h2
  injection h2 with h2 h3
  have hr := Lib.run_append_nil_zeros (P := Try.prog) W 30 3 o.type 5 i (.int .u8 0) .i64 .i64 Try.underlying30 Try.underlying3 hi h1 n h0 (by omega) (by omega) (by rw [h3]; omega)
  refine Lib.wpList_append_run W hgd s x 30 3 ho _ _ hs hx _ _ hr ?_
  exact h _ _ _ ⟨St.add S.out ((Below.refl _ _).drew.alloc (by exact Nat.le_refl _) _) _ (grown_pred W n (by simp [maxLen]; omega)) (fun k hk => by have h1 : some W.heap.size = some k := Ow.foot_iff.1 hk; injection h1 with h1; omega)⟩
end
set_option maxRecDepth 100000 in
theorem grow_calls (n : Nat) (h0 : 0 < n) (hn : n ≤ 1099511627776) (w : World) : Calls Try.prog 59 #[.slice none 0 0, .int .i64 n] w fun z w' => ∃ A c, z = .returned (.slice A 0 c) ∧ (Ow (Kd.int .u8) 5 A c ([] : List Int)).pred w' ∧ (∀ k, (Ow (Kd.int .u8) 5 A c ([] : List Int)).foot k → w.heap.size ≤ k) ∧ Below w.heap.size w w' := by
  have S := Aside0.mk (St.start w)
  have d1 : decide ((n : Int) < 0) = false := decide_eq_false (by omega)
  have d2 : decide ((n : Int) > 0) = true := decide_eq_true (by omega)
  have d3 : decide (0 < n) = true := decide_eq_true h0
  have e1 : wrap64 (n : Int) = n := by unfold wrap64; omega
  go_enter Try.func59, Try.ntmps59
  go_wp2_with (first | ((with_reducible refine gate_builtin (b := .append) (xs := #[.tmp 20, .tmp 21]) rfl ?_); at_builtin; refine ev_grow0 (n := n) S rfl rfl rfl rfl h0 hn ?_; intro g22 c22 w_ S_; clear S; have S := S_; clear S_))
  go_ret
  exact ⟨_, _, rfl, pred_at S.out (by repeat (first | exact Spot.here _ _ | apply Spot.there)), new_at S.out (by repeat (first | exact Spot.here _ _ | apply Spot.there)), S.out.below⟩

theorem w64 (i : Nat) (h : i < 9223372036854775807) : wrap64 ((i : Int) + 1) = ((i + 1 : Nat) : Int) := by unfold wrap64; omega
theorem wadd (i j : Nat) (h : i + j < 9223372036854775807) : wrap64 ((i : Int) + (j : Int)) = ((i + j : Nat) : Int) := by unfold wrap64; omega
def tl (ps : List (Option Addr × Nat × List Int)) : Nat := ((ps.map (fun p => p.2.2.length)).sum)
theorem tl_take (ps : List (Option Addr × Nat × List Int)) (z : Option Addr × Nat × List Int) (i : Nat) (hi : i < ps.length) : tl (ps.take (i + 1)) = tl (ps.take i) + (ps.getD i z).2.2.length := by
  unfold tl
  rw [List.take_succ_eq_append_getElem hi, List.map_append, List.sum_append, List.getD_eq_getElem?_getD, List.getElem?_eq_getElem hi]
  simp
theorem tl_le (ps : List (Option Addr × Nat × List Int)) (i : Nat) : tl (ps.take i) ≤ tl ps := by
  unfold tl
  conv => rhs; rw [← List.take_append_drop i ps, List.map_append, List.sum_append]
  omega
def fl (ps : List (Option Addr × Nat × List Int)) : List Int := ps.flatMap (fun p => p.2.2)
theorem fl_take (ps : List (Option Addr × Nat × List Int)) (z : Option Addr × Nat × List Int) (i : Nat) (hi : i < ps.length) : fl (ps.take (i + 1)) = fl (ps.take i) ++ (ps.getD i z).2.2 := by
  unfold fl
  rw [List.take_succ_eq_append_getElem hi, List.flatMap_append, List.getD_eq_getElem?_getD, List.getElem?_eq_getElem hi]
  simp
theorem fl_len (ps : List (Option Addr × Nat × List Int)) : (fl ps).length = tl ps := by unfold fl tl; rw [List.length_flatMap]
def zP : Option Addr × Nat × List Int := (none, 0, [])
set_option maxRecDepth 100000 in
set_option maxHeartbeats 4000000 in
theorem concat_calls (gv m cv : Nat) (ps : List (Option Addr × Nat × List Int)) (hm : m = ps.length) (hmm : m ≤ 1000000) (tot : Nat) (ht : tl ps = tot) (h0 : 0 < tot) (htot : tot ≤ 1099511627776) (w : World)
    (hp : ∀ i, i < ps.length → w.cell? ⟨gv, i, none⟩ = some (.slice (ps.getD i zP).1 (ps.getD i zP).2.2.length (ps.getD i zP).2.1) ∧ Kd.C (Kd.int .u8) w (ps.getD i zP).1 (ps.getD i zP).2.2.length (ps.getD i zP).2.2) :
    Calls Try.prog 21 #[.slice (some ⟨gv, 0, none⟩) m cv] w fun z w' => ∃ A c, z = .returned (.slice A (fl ps).length c) ∧ (Ow (Kd.int .u8) 5 A c (fl ps)).pred w' ∧ (∀ k, (Ow (Kd.int .u8) 5 A c (fl ps)).foot k → w.heap.size ≤ k) ∧ Below w.heap.size w w' := by
  have S := Aside0.mk (St.start w)
  have HPS := Aside0.mk hp
  have HT := Aside0.mk ht
  have HM := Aside0.mk hm
  clear hp ht hm
  go_enter Try.func21, Try.ntmps21
  go_wp2_with (first | (refine ev_load1 ?_ rfl o30 rfl (old_ S HX.out) ?_; (first | exact want0 rfl | exact want1 rfl rfl rfl rfl)) | (((with_reducible refine gate_builtin (b := .append) (xs := #[.tmp 31, .tmp 32]) rfl ?_); at_builtin; refine ev_rows (h1 := fun _ => rfl) (0 : Int) (.tmp 31) (.tmp 32) 30 (.int .u8 0) 1 (n := acc.length) (xs := acc) (ys := px.2.2) S rfl rfl Try.underlying30 info5 rfl (by decide) rfl rfl (by repeat (first | exact Spot.here _ _ | apply Spot.there)) rfl (Kd.C_below HP.out S.out.below) hcap ?_; intro A33 c33 w_ S_; clear S; have S := S_; clear S_)) | (refine ev_own1 S ?_ rfl o30 rfl (by repeat (first | exact Spot.here _ _ | apply Spot.there)) (by exact rfl) ?_; (first | exact want0 rfl | exact want1 rfl rfl rfl rfl)) | (go_at_call 59; (with_reducible refine (grow_calls _ h0 htot _).mono ?_); rintro z_ w_ ⟨A6, c6, rfl, h1_, h2_, hb_⟩; have S_ := Aside0.mk (St.add S.out hb_ _ h1_ h2_); clear h1_ h2_ hb_; clear S; have S := S_; clear S_))
  go_loopw [3, 11] (fun v3 v11 wr => ∃ (i k : Nat), v3 = .int .i64 k ∧ v11 = .int .i64 i ∧ i ≤ m ∧ Aside0 (k = tl (ps.take i)) ∧ Aside0 (St w.heap.size w wr [])) (fun _ v11 _ => m - (intOf v11).toNat)
  case atStart => exact ⟨0, 0, rfl, rfl, Nat.zero_le _, ⟨rfl⟩, S⟩
  case round =>
    clear S
    obtain ⟨i, k, rfl, rfl, hi, HK, S⟩ := hrel
    by_cases hlt : i < m
    · have hlp : i < ps.length := by rw [← HM.out]; exact hlt
      have hd2 : decide ((i : Int) < (m : Int)) = true := decide_eq_true (by omega)
      have hil : (i : Int) < (m : Int) := by omega
      have hi0 : (0 : Int) ≤ (i : Int) := by omega
      have hb0 : i + 1 ≤ m := hlt
      have HB1 := Aside0.mk (show m - (i + 1) < m - i by omega)
      have HX := Aside0.mk (HPS.out i hlp).1
      have hk1 := tl_take ps zP i hlp
      rw [← HK.out] at hk1
      have hk2 := tl_le ps (i + 1)
      rw [hk1, HT.out] at hk2
      obtain ⟨px, hpx⟩ : ∃ p, ps.getD i zP = p := ⟨_, rfl⟩
      rw [hpx] at HX hk1 hk2
      have HK2 : Aside0 (k + px.2.2.length = tl (ps.take (i + 1))) := ⟨hk1.symm⟩
      have hs1 : wrap64 ((k : Int) + (px.2.2.length : Int)) = ((k + px.2.2.length : Nat) : Int) := wadd _ _ (by omega)
      have hd3 : decide (((k + px.2.2.length : Nat) : Int) < 0) = false := decide_eq_false (by omega)
      clear hk1 hk2 hpx
      have hi1 : wrap64 ((i : Int) + 1) = ((i + 1 : Nat) : Int) := w64 i (by omega)
      go_wp2_with (first | (refine ev_load1 ?_ rfl o30 rfl (old_ S HX.out) ?_; (first | exact want0 rfl | exact want1 rfl rfl rfl rfl)) | (((with_reducible refine gate_builtin (b := .append) (xs := #[.tmp 31, .tmp 32]) rfl ?_); at_builtin; refine ev_rows (h1 := fun _ => rfl) (0 : Int) (.tmp 31) (.tmp 32) 30 (.int .u8 0) 1 (n := acc.length) (xs := acc) (ys := px.2.2) S rfl rfl Try.underlying30 info5 rfl (by decide) rfl rfl (by repeat (first | exact Spot.here _ _ | apply Spot.there)) rfl (Kd.C_below HP.out S.out.below) hcap ?_; intro A33 c33 w_ S_; clear S; have S := S_; clear S_)) | (refine ev_own1 S ?_ rfl o30 rfl (by repeat (first | exact Spot.here _ _ | apply Spot.there)) (by exact rfl) ?_; (first | exact want0 rfl | exact want1 rfl rfl rfl rfl)) | (go_at_call 59; (with_reducible refine (grow_calls _ h0 htot _).mono ?_); rintro z_ w_ ⟨A6, c6, rfl, h1_, h2_, hb_⟩; have S_ := Aside0.mk (St.add S.out hb_ _ h1_ h2_); clear h1_ h2_ hb_; clear S; have S := S_; clear S_))
      refine ⟨⟨i + 1, k + px.2.2.length, by simp [hs1], by simp [hi1], hb0, HK2, S⟩, ?_⟩
      simpa [intOf, hi1] using HB1.out
    · obtain rfl : i = m := by omega
      have hd2 : decide ((i : Int) < (i : Int)) = false := decide_eq_false (by omega)
      have hk : k = tot := by rw [HK.out, HM.out, List.take_length, HT.out]
      subst hk
      clear HK
      go_wp2_with (first | (refine ev_load1 ?_ rfl o30 rfl (old_ S HX.out) ?_; (first | exact want0 rfl | exact want1 rfl rfl rfl rfl)) | (((with_reducible refine gate_builtin (b := .append) (xs := #[.tmp 31, .tmp 32]) rfl ?_); at_builtin; refine ev_rows (h1 := fun _ => rfl) (0 : Int) (.tmp 31) (.tmp 32) 30 (.int .u8 0) 1 (n := acc.length) (xs := acc) (ys := px.2.2) S rfl rfl Try.underlying30 info5 rfl (by decide) rfl rfl (by repeat (first | exact Spot.here _ _ | apply Spot.there)) rfl (Kd.C_below HP.out S.out.below) hcap ?_; intro A33 c33 w_ S_; clear S; have S := S_; clear S_)) | (refine ev_own1 S ?_ rfl o30 rfl (by repeat (first | exact Spot.here _ _ | apply Spot.there)) (by exact rfl) ?_; (first | exact want0 rfl | exact want1 rfl rfl rfl rfl)) | (go_at_call 59; (with_reducible refine (grow_calls _ h0 htot _).mono ?_); rintro z_ w_ ⟨A6, c6, rfl, h1_, h2_, hb_⟩; have S_ := Aside0.mk (St.add S.out hb_ _ h1_ h2_); clear h1_ h2_ hb_; clear S; have S := S_; clear S_))
      go_loopw [6, 27] (fun v6 v27 wr => ∃ (j : Nat) (A : Option Addr) (c : Nat) (acc : List Int), v6 = .slice A acc.length c ∧ v27 = .int .i64 j ∧ j ≤ i ∧ Aside0 (acc = fl (ps.take j)) ∧ Aside0 (St w.heap.size w wr [Ow (Kd.int .u8) 5 A c acc])) (fun _ v27 _ => i - (intOf v27).toNat)
      case atStart => exact ⟨0, A6, c6, [], rfl, rfl, Nat.zero_le _, ⟨rfl⟩, S⟩
      case round =>
        clear S
        obtain ⟨j, A, c, acc, rfl, rfl, hj, HA, S⟩ := hrel
        by_cases hlt : j < i
        · have hlp : j < ps.length := by rw [← HM.out]; exact hlt
          have hd2 : decide ((j : Int) < (i : Int)) = true := decide_eq_true (by omega)
          have hil : (j : Int) < (i : Int) := by omega
          have hi0 : (0 : Int) ≤ (j : Int) := by omega
          have hb0 : j + 1 ≤ i := hlt
          have HB1 := Aside0.mk (show i - (j + 1) < i - j by omega)
          have HX := Aside0.mk (HPS.out j hlp).1
          have HP := Aside0.mk (HPS.out j hlp).2
          have hk1 := fl_take ps zP j hlp
          have hk2 := tl_le ps (j + 1)
          rw [← fl_len, hk1, HT.out, List.length_append, ← HA.out] at hk2
          rw [← HA.out] at hk1
          obtain ⟨px, hpx⟩ : ∃ p, ps.getD j zP = p := ⟨_, rfl⟩
          rw [hpx] at HX HP hk1 hk2
          have HA2 : Aside0 (acc ++ px.2.2 = fl (ps.take (j + 1))) := ⟨hk1.symm⟩
          have hcap : (acc.length + px.2.2.length) * 1 ≤ 140737488355328 := by omega
          clear hk1 hk2 hpx
          have hi1 : wrap64 ((j : Int) + 1) = ((j + 1 : Nat) : Int) := w64 j (by omega)
          go_wp2_with (first | (refine ev_load1 ?_ rfl o30 rfl (old_ S HX.out) ?_; (first | exact want0 rfl | exact want1 rfl rfl rfl rfl)) | (((with_reducible refine gate_builtin (b := .append) (xs := #[.tmp 31, .tmp 32]) rfl ?_); at_builtin; refine ev_rows (h1 := fun _ => rfl) (0 : Int) (.tmp 31) (.tmp 32) 30 (.int .u8 0) 1 (n := acc.length) (xs := acc) (ys := px.2.2) S rfl rfl Try.underlying30 info5 rfl (by decide) rfl rfl (by repeat (first | exact Spot.here _ _ | apply Spot.there)) rfl (Kd.C_below HP.out S.out.below) hcap ?_; intro A33 c33 w_ S_; clear S; have S := S_; clear S_)) | (refine ev_own1 S ?_ rfl o30 rfl (by repeat (first | exact Spot.here _ _ | apply Spot.there)) (by exact rfl) ?_; (first | exact want0 rfl | exact want1 rfl rfl rfl rfl)) | (go_at_call 59; (with_reducible refine (grow_calls _ h0 htot _).mono ?_); rintro z_ w_ ⟨A6, c6, rfl, h1_, h2_, hb_⟩; have S_ := Aside0.mk (St.add S.out hb_ _ h1_ h2_); clear h1_ h2_ hb_; clear S; have S := S_; clear S_))
          refine ⟨⟨j + 1, A33, c33, acc ++ px.2.2, by rw [List.length_append], by simp [hi1], hb0, HA2, S⟩, ?_⟩
          simpa [intOf, hi1] using HB1.out
        · obtain rfl : j = i := by omega
          have hd2 : decide ((j : Int) < (j : Int)) = false := decide_eq_false (by omega)
          have ha : acc = fl ps := by rw [HA.out, HM.out, List.take_length]
          subst ha
          clear HA
          go_wp2_with (first | (refine ev_load1 ?_ rfl o30 rfl (old_ S HX.out) ?_; (first | exact want0 rfl | exact want1 rfl rfl rfl rfl)) | (((with_reducible refine gate_builtin (b := .append) (xs := #[.tmp 31, .tmp 32]) rfl ?_); at_builtin; refine ev_rows (h1 := fun _ => rfl) (0 : Int) (.tmp 31) (.tmp 32) 30 (.int .u8 0) 1 (n := acc.length) (xs := acc) (ys := px.2.2) S rfl rfl Try.underlying30 info5 rfl (by decide) rfl rfl (by repeat (first | exact Spot.here _ _ | apply Spot.there)) rfl (Kd.C_below HP.out S.out.below) hcap ?_; intro A33 c33 w_ S_; clear S; have S := S_; clear S_)) | (refine ev_own1 S ?_ rfl o30 rfl (by repeat (first | exact Spot.here _ _ | apply Spot.there)) (by exact rfl) ?_; (first | exact want0 rfl | exact want1 rfl rfl rfl rfl)) | (go_at_call 59; (with_reducible refine (grow_calls _ h0 htot _).mono ?_); rintro z_ w_ ⟨A6, c6, rfl, h1_, h2_, hb_⟩; have S_ := Aside0.mk (St.add S.out hb_ _ h1_ h2_); clear h1_ h2_ hb_; clear S; have S := S_; clear S_))
          go_ret
          exact ⟨_, _, rfl, pred_at S.out (by repeat (first | exact Spot.here _ _ | apply Spot.there)), new_at S.out (by repeat (first | exact Spot.here _ _ | apply Spot.there)), S.out.below⟩
end Go.Proofs.Ytkoimdgpicmakaa.Ob
namespace Go.Proofs.Ytkoimdgpicmakaa.Ob
open Go.RowKit Go.Proofs.Ytkoimdgpicmakaa.Sep Go.Proofs.YtkoimdgpicmakaaW.PrintWords Go.Proofs.YtkoimdgpicmakaaW.PrintLast Go.Proofs.Ytkoimdgpicmakaa.Wm Go.Proofs.Ytkoimdgpicmakaa.Ev Go.Proofs.Ytkoimdgpicmakaa.Ty Go.Proofs.Ytkoimdgpicmakaa.PB
set_option linter.unusedVariables false
set_option linter.unusedSimpArgs false

def ix {α : Type} (keep : α → Bool) : List α → Nat → Int
  | [], _ => -1
  | x :: r, i => if keep x then (i : Int) else ix keep r (i + 1)
theorem ix_drop {α : Type} (keep : α → Bool) (xs : List α) (z : α) (i : Nat) (hi : i < xs.length) : ix keep (xs.drop i) i = if keep (xs.getD i z) then (i : Int) else ix keep (xs.drop (i + 1)) (i + 1) := by
  rw [List.drop_eq_getElem_cons hi, List.getD_eq_getElem?_getD, List.getElem?_eq_getElem hi]
  rfl
theorem ix_any {α : Type} (keep : α → Bool) : ∀ (xs : List α) (i : Nat), decide (0 ≤ ix keep xs i) = xs.any keep
  | [], _ => rfl
  | x :: r, i => by
    unfold ix
    by_cases h : keep x = true
    · rw [if_pos h, List.any_cons, h]; simp
    · rw [if_neg h, List.any_cons, ix_any keep r (i + 1)]; simp [h]
def longS (s : ByteArray) : Bool := decide ((s.size : Int) > 96)
def badR (r : S50) : Bool := decide (r.f0 > 7)
theorem long_calls (s : ByteArray) (w : World) : Calls Try.prog 31 #[.string s] w fun z w' => z = .returned (.bool (longS s)) ∧ Below w.heap.size w w' := by
  have S := Aside0.mk (St.start w)
  go_enter Try.func31, Try.ntmps31
  go_wp2
  go_ret
  exact ⟨rfl, S.out.below⟩
theorem bad_calls (r : S50) (w : World) : Calls Try.prog 34 #[.agg #[.int .u8 r.f0, .int .u16 r.f1, .int .u16 r.f2]] w fun z w' => z = .returned (.bool (badR r)) ∧ Below w.heap.size w w' := by
  have S := Aside0.mk (St.start w)
  go_enter Try.func34, Try.ntmps34
  go_wp2_with (first | ((with_reducible refine gate_dst (N := 1) rfl ?_); refine ev_boxs S ?_ 1 rfl rfl rfl ?_; (first | exact want0 rfl | exact want1 rfl rfl rfl rfl); intro g1 w1 S_; clear S; have S := S_; clear S_) | (refine ev_own1 S ?_ rfl o47 rfl (by repeat (first | exact Spot.here _ _ | apply Spot.there)) (by exact rfl) ?_; (first | exact want0 rfl | exact want1 rfl rfl rfl rfl)))
  go_ret
  exact ⟨rfl, S.out.below⟩

theorem has1 {w : World} {ad : Addr} {i : Nat} {v : Value} (h : Has w (ad.add (i * (Kd.string).sz)) [v]) : w.cell? (ad.add i) = some v := by
  have h1 := h 0 _ rfl
  have e : (ad.add (i * (Kd.string).sz)).add 0 = ad.add i := by unfold Addr.add; simp [show (Kd.string).sz = 1 from rfl]
  rw [e] at h1
  exact h1
/-- The bounds of a module. -/
def chk (nm : ByteArray) (ex im : List ByteArray) (code data : List Int) (rel : List S50) : Int :=
  if decide ((ex.length : Int) > 8) = true then 5 else if decide ((im.length : Int) > 16) = true then 5 else if decide ((rel.length : Int) > 256) = true then 5 else
  if decide ((code.length : Int) > 512) = true then 5 else if decide ((data.length : Int) > 128) = true then 5 else
  if longS nm = true then 5 else if ex.any longS = true then 5 else if im.any longS = true then 5 else if rel.any badR = true then 2 else 0

set_option maxRecDepth 100000 in
theorem indexS_calls (A : Option Addr) (c : Nat) (xs : List ByteArray) (w : World) (hC : Kd.C Kd.string w A xs.length xs) :
    Calls Try.prog 63 #[.slice A xs.length c, .func (.func 31) #[] #[]] w fun z w' => z = .returned (.int .i64 (ix longS xs 0)) ∧ Below w.heap.size w w' := by
  have HC := Aside0.mk hC
  have S := Aside0.mk (St.start w)
  have hm : xs.length ≤ 9223372036854775807 := hC.2.1
  clear hC
  go_enter Try.func63, Try.ntmps63
  go_wp2_with (first | (refine ev_load1 ?_ rfl o9 rfl (old_ S (has1 HH.out)) ?_; (first | exact want0 rfl | exact want1 rfl rfl rfl rfl)) | (refine ev_own1 S ?_ rfl o9 rfl (by repeat (first | exact Spot.here _ _ | apply Spot.there)) (by exact rfl) ?_; (first | exact want0 rfl | exact want1 rfl rfl rfl rfl)) | (go_at_call 31; (with_reducible refine (long_calls x _).mono ?_); rintro z_ w_ ⟨rfl, hb_⟩; rw [HK.out]; have hb2_ := hb_; have S_ := Aside0.mk (S.out.keep hb2_); clear hb2_ hb_; clear S; have S := S_; clear S_))
  go_loopw [8] (fun v8 wr => ∃ (i : Nat), v8 = .int .i64 i ∧ i ≤ xs.length ∧ Aside0 (ix longS (xs.drop i) i = ix longS xs 0) ∧ Aside0 (St w.heap.size w wr [])) (fun v8 _ => xs.length - (intOf v8).toNat)
  case atStart => exact ⟨0, rfl, Nat.zero_le _, ⟨by simp⟩, S⟩
  case round =>
    clear S
    obtain ⟨i, rfl, hi, HI, S⟩ := hrel
    by_cases hlt : i < xs.length
    · have hd2 : decide ((i : Int) < (xs.length : Int)) = true := decide_eq_true (by omega)
      have hil : (i : Int) < (xs.length : Int) := by omega
      have hi0 : (0 : Int) ≤ (i : Int) := by omega
      have hb0 : i + 1 ≤ xs.length := hlt
      have hb1 : xs.length - (i + 1) < xs.length - i := by omega
      have hi1 : wrap64 ((i : Int) + 1) = ((i + 1 : Nat) : Int) := by unfold wrap64; omega
      have HD := Aside0.mk (ix_drop longS xs ByteArray.empty i hlt)
      obtain ⟨ad, cs, rfl, hK, hH⟩ := has_of HC.out ByteArray.empty i hlt
      obtain ⟨x, hx⟩ : ∃ x, xs.getD i ByteArray.empty = x := ⟨_, rfl⟩
      rw [hx] at hK HD
      clear hx
      obtain rfl : cs = [.string x] := hK
      have HH := Aside0.mk (show Has w (ad.add (i * (Kd.string).sz)) _ from hH)
      clear hH
      try clear hK
      cases hk : longS x with
      | true =>
        have HK := Aside0.mk hk
        rw [hk, if_pos rfl] at HD
        clear hk
        go_wp2_with (first | (refine ev_load1 ?_ rfl o9 rfl (old_ S (has1 HH.out)) ?_; (first | exact want0 rfl | exact want1 rfl rfl rfl rfl)) | (refine ev_own1 S ?_ rfl o9 rfl (by repeat (first | exact Spot.here _ _ | apply Spot.there)) (by exact rfl) ?_; (first | exact want0 rfl | exact want1 rfl rfl rfl rfl)) | (go_at_call 31; (with_reducible refine (long_calls x _).mono ?_); rintro z_ w_ ⟨rfl, hb_⟩; rw [HK.out]; have hb2_ := hb_; have S_ := Aside0.mk (S.out.keep hb2_); clear hb2_ hb_; clear S; have S := S_; clear S_))
        go_ret
        exact ⟨by rw [← HI.out, HD.out]; rfl, S.out.below⟩
      | false =>
        have HK := Aside0.mk hk
        rw [hk, if_neg (by simp)] at HD
        clear hk
        go_wp2_with (first | (refine ev_load1 ?_ rfl o9 rfl (old_ S (has1 HH.out)) ?_; (first | exact want0 rfl | exact want1 rfl rfl rfl rfl)) | (refine ev_own1 S ?_ rfl o9 rfl (by repeat (first | exact Spot.here _ _ | apply Spot.there)) (by exact rfl) ?_; (first | exact want0 rfl | exact want1 rfl rfl rfl rfl)) | (go_at_call 31; (with_reducible refine (long_calls x _).mono ?_); rintro z_ w_ ⟨rfl, hb_⟩; rw [HK.out]; have hb2_ := hb_; have S_ := Aside0.mk (S.out.keep hb2_); clear hb2_ hb_; clear S; have S := S_; clear S_))
        refine ⟨⟨i + 1, by simp [hi1], hb0, ⟨HD.out.symm.trans HI.out⟩, S⟩, ?_⟩
        simpa [intOf, hi1] using hb1
    · obtain rfl : i = xs.length := by omega
      have hd2 : decide ((xs.length : Int) < (xs.length : Int)) = false := decide_eq_false (by omega)
      go_wp2_with (first | (refine ev_load1 ?_ rfl o9 rfl (old_ S (has1 HH.out)) ?_; (first | exact want0 rfl | exact want1 rfl rfl rfl rfl)) | (refine ev_own1 S ?_ rfl o9 rfl (by repeat (first | exact Spot.here _ _ | apply Spot.there)) (by exact rfl) ?_; (first | exact want0 rfl | exact want1 rfl rfl rfl rfl)) | (go_at_call 31; (with_reducible refine (long_calls x _).mono ?_); rintro z_ w_ ⟨rfl, hb_⟩; rw [HK.out]; have hb2_ := hb_; have S_ := Aside0.mk (S.out.keep hb2_); clear hb2_ hb_; clear S; have S := S_; clear S_))
      go_ret
      refine ⟨?_, S.out.below⟩
      have h1 := HI.out
      rw [List.drop_length] at h1
      rw [← h1]; rfl
theorem anyS_calls (A : Option Addr) (c : Nat) (xs : List ByteArray) (w : World) (hC : Kd.C Kd.string w A xs.length xs) :
    Calls Try.prog 32 #[.slice A xs.length c, .func (.func 31) #[] #[]] w fun z w' => z = .returned (.bool (xs.any longS)) ∧ Below w.heap.size w w' := by
  have HC := Aside0.mk hC
  have S := Aside0.mk (St.start w)
  have HX := Aside0.mk (ix_any longS xs 0)
  generalize hy : ix longS xs 0 = y at *
  have HY := Aside0.mk hy
  clear hC hy
  go_enter Try.func32, Try.ntmps32
  go_wp2_with (first | (go_at_call 63; have c_ := indexS_calls A c xs _ (Kd.C_below HC.out S.out.below); rw [HY.out] at c_; (with_reducible refine c_.mono ?_); clear c_; rintro z_ w_ ⟨rfl, hb_⟩; have hb2_ := hb_; have S_ := Aside0.mk (S.out.keep hb2_); clear hb2_ hb_; clear S; have S := S_; clear S_))
  go_ret
  exact ⟨by rw [← HX.out]; rfl, S.out.below⟩

set_option maxRecDepth 100000 in
theorem indexR_calls (A : Option Addr) (c : Nat) (xs : List S50) (w : World) (hC : Kd.C k50 w A xs.length xs) :
    Calls Try.prog 64 #[.slice A xs.length c, .func (.func 34) #[] #[]] w fun z w' => z = .returned (.int .i64 (ix badR xs 0)) ∧ Below w.heap.size w w' := by
  have HC := Aside0.mk hC
  have S := Aside0.mk (St.start w)
  have hm : xs.length ≤ 9223372036854775807 := hC.2.1
  clear hC
  go_enter Try.func64, Try.ntmps64
  go_wp2_with (first | (refine ev_loads (vs := [_, _, _]) ?_ rfl m50 rfl (olds_ S HH.out) ?_; (first | exact want0 rfl | exact want1 rfl rfl rfl rfl)) | (refine ev_owns (vs := [_, _, _]) S ?_ rfl m50 rfl (by repeat (first | exact Spot.here _ _ | apply Spot.there)) (by exact rfl) ?_; (first | exact want0 rfl | exact want1 rfl rfl rfl rfl)) | (go_at_call 34; (with_reducible refine (bad_calls x _).mono ?_); rintro z_ w_ ⟨rfl, hb_⟩; rw [HK.out]; have hb2_ := hb_; have S_ := Aside0.mk (S.out.keep hb2_); clear hb2_ hb_; clear S; have S := S_; clear S_))
  go_loopw [8] (fun v8 wr => ∃ (i : Nat), v8 = .int .i64 i ∧ i ≤ xs.length ∧ Aside0 (ix badR (xs.drop i) i = ix badR xs 0) ∧ Aside0 (St w.heap.size w wr [])) (fun v8 _ => xs.length - (intOf v8).toNat)
  case atStart => exact ⟨0, rfl, Nat.zero_le _, ⟨by simp⟩, S⟩
  case round =>
    clear S
    obtain ⟨i, rfl, hi, HI, S⟩ := hrel
    by_cases hlt : i < xs.length
    · have hd2 : decide ((i : Int) < (xs.length : Int)) = true := decide_eq_true (by omega)
      have hil : (i : Int) < (xs.length : Int) := by omega
      have hi0 : (0 : Int) ≤ (i : Int) := by omega
      have hb0 : i + 1 ≤ xs.length := hlt
      have hb1 : xs.length - (i + 1) < xs.length - i := by omega
      have hi1 : wrap64 ((i : Int) + 1) = ((i + 1 : Nat) : Int) := by unfold wrap64; omega
      have HD := Aside0.mk (ix_drop badR xs z50 i hlt)
      obtain ⟨ad, cs, rfl, hK, hH⟩ := has_of HC.out z50 i hlt
      obtain ⟨x, hx⟩ : ∃ x, xs.getD i z50 = x := ⟨_, rfl⟩
      rw [hx] at hK HD
      clear hx
      obtain rfl := k50_open hK
      have HH := Aside0.mk (show Has w (ad.add (i * 3)) _ from hH)
      clear hH
      try clear hK
      cases hk : badR x with
      | true =>
        have HK := Aside0.mk hk
        rw [hk, if_pos rfl] at HD
        clear hk
        go_wp2_with (first | (refine ev_loads (vs := [_, _, _]) ?_ rfl m50 rfl (olds_ S HH.out) ?_; (first | exact want0 rfl | exact want1 rfl rfl rfl rfl)) | (refine ev_owns (vs := [_, _, _]) S ?_ rfl m50 rfl (by repeat (first | exact Spot.here _ _ | apply Spot.there)) (by exact rfl) ?_; (first | exact want0 rfl | exact want1 rfl rfl rfl rfl)) | (go_at_call 34; (with_reducible refine (bad_calls x _).mono ?_); rintro z_ w_ ⟨rfl, hb_⟩; rw [HK.out]; have hb2_ := hb_; have S_ := Aside0.mk (S.out.keep hb2_); clear hb2_ hb_; clear S; have S := S_; clear S_))
        go_ret
        exact ⟨by rw [← HI.out, HD.out]; rfl, S.out.below⟩
      | false =>
        have HK := Aside0.mk hk
        rw [hk, if_neg (by simp)] at HD
        clear hk
        go_wp2_with (first | (refine ev_loads (vs := [_, _, _]) ?_ rfl m50 rfl (olds_ S HH.out) ?_; (first | exact want0 rfl | exact want1 rfl rfl rfl rfl)) | (refine ev_owns (vs := [_, _, _]) S ?_ rfl m50 rfl (by repeat (first | exact Spot.here _ _ | apply Spot.there)) (by exact rfl) ?_; (first | exact want0 rfl | exact want1 rfl rfl rfl rfl)) | (go_at_call 34; (with_reducible refine (bad_calls x _).mono ?_); rintro z_ w_ ⟨rfl, hb_⟩; rw [HK.out]; have hb2_ := hb_; have S_ := Aside0.mk (S.out.keep hb2_); clear hb2_ hb_; clear S; have S := S_; clear S_))
        refine ⟨⟨i + 1, by simp [hi1], hb0, ⟨HD.out.symm.trans HI.out⟩, S⟩, ?_⟩
        simpa [intOf, hi1] using hb1
    · obtain rfl : i = xs.length := by omega
      have hd2 : decide ((xs.length : Int) < (xs.length : Int)) = false := decide_eq_false (by omega)
      go_wp2_with (first | (refine ev_loads (vs := [_, _, _]) ?_ rfl m50 rfl (olds_ S HH.out) ?_; (first | exact want0 rfl | exact want1 rfl rfl rfl rfl)) | (refine ev_owns (vs := [_, _, _]) S ?_ rfl m50 rfl (by repeat (first | exact Spot.here _ _ | apply Spot.there)) (by exact rfl) ?_; (first | exact want0 rfl | exact want1 rfl rfl rfl rfl)) | (go_at_call 34; (with_reducible refine (bad_calls x _).mono ?_); rintro z_ w_ ⟨rfl, hb_⟩; rw [HK.out]; have hb2_ := hb_; have S_ := Aside0.mk (S.out.keep hb2_); clear hb2_ hb_; clear S; have S := S_; clear S_))
      go_ret
      refine ⟨?_, S.out.below⟩
      have h1 := HI.out
      rw [List.drop_length] at h1
      rw [← h1]; rfl
theorem anyR_calls (A : Option Addr) (c : Nat) (xs : List S50) (w : World) (hC : Kd.C k50 w A xs.length xs) :
    Calls Try.prog 33 #[.slice A xs.length c, .func (.func 34) #[] #[]] w fun z w' => z = .returned (.bool (xs.any badR)) ∧ Below w.heap.size w w' := by
  have HC := Aside0.mk hC
  have S := Aside0.mk (St.start w)
  have HX := Aside0.mk (ix_any badR xs 0)
  generalize hy : ix badR xs 0 = y at *
  have HY := Aside0.mk hy
  clear hC hy
  go_enter Try.func33, Try.ntmps33
  go_wp2_with (first | (go_at_call 64; have c_ := indexR_calls A c xs _ (Kd.C_below HC.out S.out.below); rw [HY.out] at c_; (with_reducible refine c_.mono ?_); clear c_; rintro z_ w_ ⟨rfl, hb_⟩; have hb2_ := hb_; have S_ := Aside0.mk (S.out.keep hb2_); clear hb2_ hb_; clear S; have S := S_; clear S_))
  go_ret
  exact ⟨by rw [← HX.out]; rfl, S.out.below⟩

/-- The six parts of a module are read. -/
structure Md (W : World) (nm : ByteArray) (Aex : Option Addr) (cex : Nat) (ex : List ByteArray) (Aim : Option Addr) (cim : Nat) (im : List ByteArray) (Aco : Option Addr) (cco : Nat) (co : List Int) (Ada : Option Addr) (cda : Nat) (da : List Int) (Are : Option Addr) (cre : Nat) (re : List S50) : Prop where
  r1 : Kd.C Kd.string W Aex ex.length ex
  l1 : ex.length ≤ cex
  r2 : Kd.C Kd.string W Aim im.length im
  l2 : im.length ≤ cim
  r3 : Kd.C (Kd.int .u32) W Aco co.length co
  l3 : co.length ≤ cco
  r4 : Kd.C (Kd.int .u32) W Ada da.length da
  l4 : da.length ≤ cda
  r5 : Kd.C k50 W Are re.length re
  l5 : re.length ≤ cre
set_option maxRecDepth 100000 in
set_option maxHeartbeats 8000000 in
theorem check_calls (nm : ByteArray) (Aex : Option Addr) (cex : Nat) (ex : List ByteArray) (Aim : Option Addr) (cim : Nat) (im : List ByteArray) (Aco : Option Addr) (cco : Nat) (co : List Int) (Ada : Option Addr) (cda : Nat) (da : List Int) (Are : Option Addr) (cre : Nat) (re : List S50) (w : World) (h : Md w nm Aex cex ex Aim cim im Aco cco co Ada cda da Are cre re) :
    Calls Try.prog 14 #[.agg #[.string nm, .slice Aex ex.length cex, .slice Aim im.length cim, .slice Aco co.length cco, .slice Ada da.length cda, .slice Are re.length cre]] w fun z w' => z = .returned (.int .i64 (chk nm ex im co da re)) ∧ Below w.heap.size w w' := by
  have H1 := Aside0.mk h.r1
  have H2 := Aside0.mk h.r2
  have H5 := Aside0.mk h.r5
  clear h
  obtain ⟨f, hf⟩ : ∃ f, chk nm ex im co da re = f := ⟨_, rfl⟩
  rw [hf]
  unfold chk at hf
  have S := Aside0.mk (St.start w)
  cases q_ : decide ((ex.length : Int) > 8) with
  | true =>
    rw [q_, if_pos rfl] at hf
    have d1 := q_
    clear q_
    subst hf
    go_enter Try.func14, Try.ntmps14
    go_wp2_with (first | ((with_reducible refine gate_dst (N := 1) rfl ?_); refine ev_boxs S ?_ 1 rfl rfl rfl ?_; (first | exact want0 rfl | exact want1 rfl rfl rfl rfl); intro g1 w1 S_; clear S; have S := S_; clear S_) | (refine ev_own1 S ?_ rfl o22 rfl (by repeat (first | exact Spot.here _ _ | apply Spot.there)) (by exact rfl) ?_; (first | exact want0 rfl | exact want1 rfl rfl rfl rfl)) | (refine ev_own1 S ?_ rfl o24 rfl (by repeat (first | exact Spot.here _ _ | apply Spot.there)) (by exact rfl) ?_; (first | exact want0 rfl | exact want1 rfl rfl rfl rfl)) | (refine ev_own1 S ?_ rfl o23 rfl (by repeat (first | exact Spot.here _ _ | apply Spot.there)) (by exact rfl) ?_; (first | exact want0 rfl | exact want1 rfl rfl rfl rfl)) | (refine ev_own1 S ?_ rfl o9 rfl (by repeat (first | exact Spot.here _ _ | apply Spot.there)) (by exact rfl) ?_; (first | exact want0 rfl | exact want1 rfl rfl rfl rfl)) | (go_at_call 31; (with_reducible refine (long_calls nm _).mono ?_); rintro z_ w_ ⟨rfl, hb_⟩; rw [HN.out]; have hb2_ := hb_; have S_ := Aside0.mk (S.out.keep hb2_); clear hb2_ hb_; clear S; have S := S_; clear S_) | (go_at_call 32; have c_ := anyS_calls Aex cex ex _ (Kd.C_below H1.out S.out.below); rw [HE.out] at c_; (with_reducible refine c_.mono ?_); clear c_; rintro z_ w_ ⟨rfl, hb_⟩; have hb2_ := hb_; have S_ := Aside0.mk (S.out.keep hb2_); clear hb2_ hb_; clear S; have S := S_; clear S_) | (go_at_call 32; have c_ := anyS_calls Aim cim im _ (Kd.C_below H2.out S.out.below); rw [HI.out] at c_; (with_reducible refine c_.mono ?_); clear c_; rintro z_ w_ ⟨rfl, hb_⟩; have hb2_ := hb_; have S_ := Aside0.mk (S.out.keep hb2_); clear hb2_ hb_; clear S; have S := S_; clear S_) | (go_at_call 33; have c_ := anyR_calls Are cre re _ (Kd.C_below H5.out S.out.below); rw [HR.out] at c_; (with_reducible refine c_.mono ?_); clear c_; rintro z_ w_ ⟨rfl, hb_⟩; have hb2_ := hb_; have S_ := Aside0.mk (S.out.keep hb2_); clear hb2_ hb_; clear S; have S := S_; clear S_))
    go_ret
    exact ⟨rfl, S.out.below⟩
  | false =>
    rw [q_, if_neg (by simp)] at hf
    have d1 := q_
    clear q_
    cases q_ : decide ((im.length : Int) > 16) with
    | true =>
      rw [q_, if_pos rfl] at hf
      have d2 := q_
      clear q_
      subst hf
      go_enter Try.func14, Try.ntmps14
      go_wp2_with (first | ((with_reducible refine gate_dst (N := 1) rfl ?_); refine ev_boxs S ?_ 1 rfl rfl rfl ?_; (first | exact want0 rfl | exact want1 rfl rfl rfl rfl); intro g1 w1 S_; clear S; have S := S_; clear S_) | (refine ev_own1 S ?_ rfl o22 rfl (by repeat (first | exact Spot.here _ _ | apply Spot.there)) (by exact rfl) ?_; (first | exact want0 rfl | exact want1 rfl rfl rfl rfl)) | (refine ev_own1 S ?_ rfl o24 rfl (by repeat (first | exact Spot.here _ _ | apply Spot.there)) (by exact rfl) ?_; (first | exact want0 rfl | exact want1 rfl rfl rfl rfl)) | (refine ev_own1 S ?_ rfl o23 rfl (by repeat (first | exact Spot.here _ _ | apply Spot.there)) (by exact rfl) ?_; (first | exact want0 rfl | exact want1 rfl rfl rfl rfl)) | (refine ev_own1 S ?_ rfl o9 rfl (by repeat (first | exact Spot.here _ _ | apply Spot.there)) (by exact rfl) ?_; (first | exact want0 rfl | exact want1 rfl rfl rfl rfl)) | (go_at_call 31; (with_reducible refine (long_calls nm _).mono ?_); rintro z_ w_ ⟨rfl, hb_⟩; rw [HN.out]; have hb2_ := hb_; have S_ := Aside0.mk (S.out.keep hb2_); clear hb2_ hb_; clear S; have S := S_; clear S_) | (go_at_call 32; have c_ := anyS_calls Aex cex ex _ (Kd.C_below H1.out S.out.below); rw [HE.out] at c_; (with_reducible refine c_.mono ?_); clear c_; rintro z_ w_ ⟨rfl, hb_⟩; have hb2_ := hb_; have S_ := Aside0.mk (S.out.keep hb2_); clear hb2_ hb_; clear S; have S := S_; clear S_) | (go_at_call 32; have c_ := anyS_calls Aim cim im _ (Kd.C_below H2.out S.out.below); rw [HI.out] at c_; (with_reducible refine c_.mono ?_); clear c_; rintro z_ w_ ⟨rfl, hb_⟩; have hb2_ := hb_; have S_ := Aside0.mk (S.out.keep hb2_); clear hb2_ hb_; clear S; have S := S_; clear S_) | (go_at_call 33; have c_ := anyR_calls Are cre re _ (Kd.C_below H5.out S.out.below); rw [HR.out] at c_; (with_reducible refine c_.mono ?_); clear c_; rintro z_ w_ ⟨rfl, hb_⟩; have hb2_ := hb_; have S_ := Aside0.mk (S.out.keep hb2_); clear hb2_ hb_; clear S; have S := S_; clear S_))
      go_ret
      exact ⟨rfl, S.out.below⟩
    | false =>
      rw [q_, if_neg (by simp)] at hf
      have d2 := q_
      clear q_
      cases q_ : decide ((re.length : Int) > 256) with
      | true =>
        rw [q_, if_pos rfl] at hf
        have d3 := q_
        clear q_
        subst hf
        go_enter Try.func14, Try.ntmps14
        go_wp2_with (first | ((with_reducible refine gate_dst (N := 1) rfl ?_); refine ev_boxs S ?_ 1 rfl rfl rfl ?_; (first | exact want0 rfl | exact want1 rfl rfl rfl rfl); intro g1 w1 S_; clear S; have S := S_; clear S_) | (refine ev_own1 S ?_ rfl o22 rfl (by repeat (first | exact Spot.here _ _ | apply Spot.there)) (by exact rfl) ?_; (first | exact want0 rfl | exact want1 rfl rfl rfl rfl)) | (refine ev_own1 S ?_ rfl o24 rfl (by repeat (first | exact Spot.here _ _ | apply Spot.there)) (by exact rfl) ?_; (first | exact want0 rfl | exact want1 rfl rfl rfl rfl)) | (refine ev_own1 S ?_ rfl o23 rfl (by repeat (first | exact Spot.here _ _ | apply Spot.there)) (by exact rfl) ?_; (first | exact want0 rfl | exact want1 rfl rfl rfl rfl)) | (refine ev_own1 S ?_ rfl o9 rfl (by repeat (first | exact Spot.here _ _ | apply Spot.there)) (by exact rfl) ?_; (first | exact want0 rfl | exact want1 rfl rfl rfl rfl)) | (go_at_call 31; (with_reducible refine (long_calls nm _).mono ?_); rintro z_ w_ ⟨rfl, hb_⟩; rw [HN.out]; have hb2_ := hb_; have S_ := Aside0.mk (S.out.keep hb2_); clear hb2_ hb_; clear S; have S := S_; clear S_) | (go_at_call 32; have c_ := anyS_calls Aex cex ex _ (Kd.C_below H1.out S.out.below); rw [HE.out] at c_; (with_reducible refine c_.mono ?_); clear c_; rintro z_ w_ ⟨rfl, hb_⟩; have hb2_ := hb_; have S_ := Aside0.mk (S.out.keep hb2_); clear hb2_ hb_; clear S; have S := S_; clear S_) | (go_at_call 32; have c_ := anyS_calls Aim cim im _ (Kd.C_below H2.out S.out.below); rw [HI.out] at c_; (with_reducible refine c_.mono ?_); clear c_; rintro z_ w_ ⟨rfl, hb_⟩; have hb2_ := hb_; have S_ := Aside0.mk (S.out.keep hb2_); clear hb2_ hb_; clear S; have S := S_; clear S_) | (go_at_call 33; have c_ := anyR_calls Are cre re _ (Kd.C_below H5.out S.out.below); rw [HR.out] at c_; (with_reducible refine c_.mono ?_); clear c_; rintro z_ w_ ⟨rfl, hb_⟩; have hb2_ := hb_; have S_ := Aside0.mk (S.out.keep hb2_); clear hb2_ hb_; clear S; have S := S_; clear S_))
        go_ret
        exact ⟨rfl, S.out.below⟩
      | false =>
        rw [q_, if_neg (by simp)] at hf
        have d3 := q_
        clear q_
        cases q_ : decide ((co.length : Int) > 512) with
        | true =>
          rw [q_, if_pos rfl] at hf
          have d4 := q_
          clear q_
          subst hf
          go_enter Try.func14, Try.ntmps14
          go_wp2_with (first | ((with_reducible refine gate_dst (N := 1) rfl ?_); refine ev_boxs S ?_ 1 rfl rfl rfl ?_; (first | exact want0 rfl | exact want1 rfl rfl rfl rfl); intro g1 w1 S_; clear S; have S := S_; clear S_) | (refine ev_own1 S ?_ rfl o22 rfl (by repeat (first | exact Spot.here _ _ | apply Spot.there)) (by exact rfl) ?_; (first | exact want0 rfl | exact want1 rfl rfl rfl rfl)) | (refine ev_own1 S ?_ rfl o24 rfl (by repeat (first | exact Spot.here _ _ | apply Spot.there)) (by exact rfl) ?_; (first | exact want0 rfl | exact want1 rfl rfl rfl rfl)) | (refine ev_own1 S ?_ rfl o23 rfl (by repeat (first | exact Spot.here _ _ | apply Spot.there)) (by exact rfl) ?_; (first | exact want0 rfl | exact want1 rfl rfl rfl rfl)) | (refine ev_own1 S ?_ rfl o9 rfl (by repeat (first | exact Spot.here _ _ | apply Spot.there)) (by exact rfl) ?_; (first | exact want0 rfl | exact want1 rfl rfl rfl rfl)) | (go_at_call 31; (with_reducible refine (long_calls nm _).mono ?_); rintro z_ w_ ⟨rfl, hb_⟩; rw [HN.out]; have hb2_ := hb_; have S_ := Aside0.mk (S.out.keep hb2_); clear hb2_ hb_; clear S; have S := S_; clear S_) | (go_at_call 32; have c_ := anyS_calls Aex cex ex _ (Kd.C_below H1.out S.out.below); rw [HE.out] at c_; (with_reducible refine c_.mono ?_); clear c_; rintro z_ w_ ⟨rfl, hb_⟩; have hb2_ := hb_; have S_ := Aside0.mk (S.out.keep hb2_); clear hb2_ hb_; clear S; have S := S_; clear S_) | (go_at_call 32; have c_ := anyS_calls Aim cim im _ (Kd.C_below H2.out S.out.below); rw [HI.out] at c_; (with_reducible refine c_.mono ?_); clear c_; rintro z_ w_ ⟨rfl, hb_⟩; have hb2_ := hb_; have S_ := Aside0.mk (S.out.keep hb2_); clear hb2_ hb_; clear S; have S := S_; clear S_) | (go_at_call 33; have c_ := anyR_calls Are cre re _ (Kd.C_below H5.out S.out.below); rw [HR.out] at c_; (with_reducible refine c_.mono ?_); clear c_; rintro z_ w_ ⟨rfl, hb_⟩; have hb2_ := hb_; have S_ := Aside0.mk (S.out.keep hb2_); clear hb2_ hb_; clear S; have S := S_; clear S_))
          go_ret
          exact ⟨rfl, S.out.below⟩
        | false =>
          rw [q_, if_neg (by simp)] at hf
          have d4 := q_
          clear q_
          cases q_ : decide ((da.length : Int) > 128) with
          | true =>
            rw [q_, if_pos rfl] at hf
            have d5 := q_
            clear q_
            subst hf
            go_enter Try.func14, Try.ntmps14
            go_wp2_with (first | ((with_reducible refine gate_dst (N := 1) rfl ?_); refine ev_boxs S ?_ 1 rfl rfl rfl ?_; (first | exact want0 rfl | exact want1 rfl rfl rfl rfl); intro g1 w1 S_; clear S; have S := S_; clear S_) | (refine ev_own1 S ?_ rfl o22 rfl (by repeat (first | exact Spot.here _ _ | apply Spot.there)) (by exact rfl) ?_; (first | exact want0 rfl | exact want1 rfl rfl rfl rfl)) | (refine ev_own1 S ?_ rfl o24 rfl (by repeat (first | exact Spot.here _ _ | apply Spot.there)) (by exact rfl) ?_; (first | exact want0 rfl | exact want1 rfl rfl rfl rfl)) | (refine ev_own1 S ?_ rfl o23 rfl (by repeat (first | exact Spot.here _ _ | apply Spot.there)) (by exact rfl) ?_; (first | exact want0 rfl | exact want1 rfl rfl rfl rfl)) | (refine ev_own1 S ?_ rfl o9 rfl (by repeat (first | exact Spot.here _ _ | apply Spot.there)) (by exact rfl) ?_; (first | exact want0 rfl | exact want1 rfl rfl rfl rfl)) | (go_at_call 31; (with_reducible refine (long_calls nm _).mono ?_); rintro z_ w_ ⟨rfl, hb_⟩; rw [HN.out]; have hb2_ := hb_; have S_ := Aside0.mk (S.out.keep hb2_); clear hb2_ hb_; clear S; have S := S_; clear S_) | (go_at_call 32; have c_ := anyS_calls Aex cex ex _ (Kd.C_below H1.out S.out.below); rw [HE.out] at c_; (with_reducible refine c_.mono ?_); clear c_; rintro z_ w_ ⟨rfl, hb_⟩; have hb2_ := hb_; have S_ := Aside0.mk (S.out.keep hb2_); clear hb2_ hb_; clear S; have S := S_; clear S_) | (go_at_call 32; have c_ := anyS_calls Aim cim im _ (Kd.C_below H2.out S.out.below); rw [HI.out] at c_; (with_reducible refine c_.mono ?_); clear c_; rintro z_ w_ ⟨rfl, hb_⟩; have hb2_ := hb_; have S_ := Aside0.mk (S.out.keep hb2_); clear hb2_ hb_; clear S; have S := S_; clear S_) | (go_at_call 33; have c_ := anyR_calls Are cre re _ (Kd.C_below H5.out S.out.below); rw [HR.out] at c_; (with_reducible refine c_.mono ?_); clear c_; rintro z_ w_ ⟨rfl, hb_⟩; have hb2_ := hb_; have S_ := Aside0.mk (S.out.keep hb2_); clear hb2_ hb_; clear S; have S := S_; clear S_))
            go_ret
            exact ⟨rfl, S.out.below⟩
          | false =>
            rw [q_, if_neg (by simp)] at hf
            have d5 := q_
            clear q_
            cases q_ : longS nm with
            | true =>
              rw [q_, if_pos rfl] at hf
              have HN := Aside0.mk q_
              clear q_
              subst hf
              go_enter Try.func14, Try.ntmps14
              go_wp2_with (first | ((with_reducible refine gate_dst (N := 1) rfl ?_); refine ev_boxs S ?_ 1 rfl rfl rfl ?_; (first | exact want0 rfl | exact want1 rfl rfl rfl rfl); intro g1 w1 S_; clear S; have S := S_; clear S_) | (refine ev_own1 S ?_ rfl o22 rfl (by repeat (first | exact Spot.here _ _ | apply Spot.there)) (by exact rfl) ?_; (first | exact want0 rfl | exact want1 rfl rfl rfl rfl)) | (refine ev_own1 S ?_ rfl o24 rfl (by repeat (first | exact Spot.here _ _ | apply Spot.there)) (by exact rfl) ?_; (first | exact want0 rfl | exact want1 rfl rfl rfl rfl)) | (refine ev_own1 S ?_ rfl o23 rfl (by repeat (first | exact Spot.here _ _ | apply Spot.there)) (by exact rfl) ?_; (first | exact want0 rfl | exact want1 rfl rfl rfl rfl)) | (refine ev_own1 S ?_ rfl o9 rfl (by repeat (first | exact Spot.here _ _ | apply Spot.there)) (by exact rfl) ?_; (first | exact want0 rfl | exact want1 rfl rfl rfl rfl)) | (go_at_call 31; (with_reducible refine (long_calls nm _).mono ?_); rintro z_ w_ ⟨rfl, hb_⟩; rw [HN.out]; have hb2_ := hb_; have S_ := Aside0.mk (S.out.keep hb2_); clear hb2_ hb_; clear S; have S := S_; clear S_) | (go_at_call 32; have c_ := anyS_calls Aex cex ex _ (Kd.C_below H1.out S.out.below); rw [HE.out] at c_; (with_reducible refine c_.mono ?_); clear c_; rintro z_ w_ ⟨rfl, hb_⟩; have hb2_ := hb_; have S_ := Aside0.mk (S.out.keep hb2_); clear hb2_ hb_; clear S; have S := S_; clear S_) | (go_at_call 32; have c_ := anyS_calls Aim cim im _ (Kd.C_below H2.out S.out.below); rw [HI.out] at c_; (with_reducible refine c_.mono ?_); clear c_; rintro z_ w_ ⟨rfl, hb_⟩; have hb2_ := hb_; have S_ := Aside0.mk (S.out.keep hb2_); clear hb2_ hb_; clear S; have S := S_; clear S_) | (go_at_call 33; have c_ := anyR_calls Are cre re _ (Kd.C_below H5.out S.out.below); rw [HR.out] at c_; (with_reducible refine c_.mono ?_); clear c_; rintro z_ w_ ⟨rfl, hb_⟩; have hb2_ := hb_; have S_ := Aside0.mk (S.out.keep hb2_); clear hb2_ hb_; clear S; have S := S_; clear S_))
              go_ret
              exact ⟨rfl, S.out.below⟩
            | false =>
              rw [q_, if_neg (by simp)] at hf
              have HN := Aside0.mk q_
              clear q_
              cases q_ : ex.any longS with
              | true =>
                rw [q_, if_pos rfl] at hf
                have HE := Aside0.mk q_
                clear q_
                subst hf
                go_enter Try.func14, Try.ntmps14
                go_wp2_with (first | ((with_reducible refine gate_dst (N := 1) rfl ?_); refine ev_boxs S ?_ 1 rfl rfl rfl ?_; (first | exact want0 rfl | exact want1 rfl rfl rfl rfl); intro g1 w1 S_; clear S; have S := S_; clear S_) | (refine ev_own1 S ?_ rfl o22 rfl (by repeat (first | exact Spot.here _ _ | apply Spot.there)) (by exact rfl) ?_; (first | exact want0 rfl | exact want1 rfl rfl rfl rfl)) | (refine ev_own1 S ?_ rfl o24 rfl (by repeat (first | exact Spot.here _ _ | apply Spot.there)) (by exact rfl) ?_; (first | exact want0 rfl | exact want1 rfl rfl rfl rfl)) | (refine ev_own1 S ?_ rfl o23 rfl (by repeat (first | exact Spot.here _ _ | apply Spot.there)) (by exact rfl) ?_; (first | exact want0 rfl | exact want1 rfl rfl rfl rfl)) | (refine ev_own1 S ?_ rfl o9 rfl (by repeat (first | exact Spot.here _ _ | apply Spot.there)) (by exact rfl) ?_; (first | exact want0 rfl | exact want1 rfl rfl rfl rfl)) | (go_at_call 31; (with_reducible refine (long_calls nm _).mono ?_); rintro z_ w_ ⟨rfl, hb_⟩; rw [HN.out]; have hb2_ := hb_; have S_ := Aside0.mk (S.out.keep hb2_); clear hb2_ hb_; clear S; have S := S_; clear S_) | (go_at_call 32; have c_ := anyS_calls Aex cex ex _ (Kd.C_below H1.out S.out.below); rw [HE.out] at c_; (with_reducible refine c_.mono ?_); clear c_; rintro z_ w_ ⟨rfl, hb_⟩; have hb2_ := hb_; have S_ := Aside0.mk (S.out.keep hb2_); clear hb2_ hb_; clear S; have S := S_; clear S_) | (go_at_call 32; have c_ := anyS_calls Aim cim im _ (Kd.C_below H2.out S.out.below); rw [HI.out] at c_; (with_reducible refine c_.mono ?_); clear c_; rintro z_ w_ ⟨rfl, hb_⟩; have hb2_ := hb_; have S_ := Aside0.mk (S.out.keep hb2_); clear hb2_ hb_; clear S; have S := S_; clear S_) | (go_at_call 33; have c_ := anyR_calls Are cre re _ (Kd.C_below H5.out S.out.below); rw [HR.out] at c_; (with_reducible refine c_.mono ?_); clear c_; rintro z_ w_ ⟨rfl, hb_⟩; have hb2_ := hb_; have S_ := Aside0.mk (S.out.keep hb2_); clear hb2_ hb_; clear S; have S := S_; clear S_))
                go_ret
                exact ⟨rfl, S.out.below⟩
              | false =>
                rw [q_, if_neg (by simp)] at hf
                have HE := Aside0.mk q_
                clear q_
                cases q_ : im.any longS with
                | true =>
                  rw [q_, if_pos rfl] at hf
                  have HI := Aside0.mk q_
                  clear q_
                  subst hf
                  go_enter Try.func14, Try.ntmps14
                  go_wp2_with (first | ((with_reducible refine gate_dst (N := 1) rfl ?_); refine ev_boxs S ?_ 1 rfl rfl rfl ?_; (first | exact want0 rfl | exact want1 rfl rfl rfl rfl); intro g1 w1 S_; clear S; have S := S_; clear S_) | (refine ev_own1 S ?_ rfl o22 rfl (by repeat (first | exact Spot.here _ _ | apply Spot.there)) (by exact rfl) ?_; (first | exact want0 rfl | exact want1 rfl rfl rfl rfl)) | (refine ev_own1 S ?_ rfl o24 rfl (by repeat (first | exact Spot.here _ _ | apply Spot.there)) (by exact rfl) ?_; (first | exact want0 rfl | exact want1 rfl rfl rfl rfl)) | (refine ev_own1 S ?_ rfl o23 rfl (by repeat (first | exact Spot.here _ _ | apply Spot.there)) (by exact rfl) ?_; (first | exact want0 rfl | exact want1 rfl rfl rfl rfl)) | (refine ev_own1 S ?_ rfl o9 rfl (by repeat (first | exact Spot.here _ _ | apply Spot.there)) (by exact rfl) ?_; (first | exact want0 rfl | exact want1 rfl rfl rfl rfl)) | (go_at_call 31; (with_reducible refine (long_calls nm _).mono ?_); rintro z_ w_ ⟨rfl, hb_⟩; rw [HN.out]; have hb2_ := hb_; have S_ := Aside0.mk (S.out.keep hb2_); clear hb2_ hb_; clear S; have S := S_; clear S_) | (go_at_call 32; have c_ := anyS_calls Aex cex ex _ (Kd.C_below H1.out S.out.below); rw [HE.out] at c_; (with_reducible refine c_.mono ?_); clear c_; rintro z_ w_ ⟨rfl, hb_⟩; have hb2_ := hb_; have S_ := Aside0.mk (S.out.keep hb2_); clear hb2_ hb_; clear S; have S := S_; clear S_) | (go_at_call 32; have c_ := anyS_calls Aim cim im _ (Kd.C_below H2.out S.out.below); rw [HI.out] at c_; (with_reducible refine c_.mono ?_); clear c_; rintro z_ w_ ⟨rfl, hb_⟩; have hb2_ := hb_; have S_ := Aside0.mk (S.out.keep hb2_); clear hb2_ hb_; clear S; have S := S_; clear S_) | (go_at_call 33; have c_ := anyR_calls Are cre re _ (Kd.C_below H5.out S.out.below); rw [HR.out] at c_; (with_reducible refine c_.mono ?_); clear c_; rintro z_ w_ ⟨rfl, hb_⟩; have hb2_ := hb_; have S_ := Aside0.mk (S.out.keep hb2_); clear hb2_ hb_; clear S; have S := S_; clear S_))
                  go_ret
                  exact ⟨rfl, S.out.below⟩
                | false =>
                  rw [q_, if_neg (by simp)] at hf
                  have HI := Aside0.mk q_
                  clear q_
                  cases q_ : re.any badR with
                  | true =>
                    rw [q_, if_pos rfl] at hf
                    have HR := Aside0.mk q_
                    clear q_
                    subst hf
                    go_enter Try.func14, Try.ntmps14
                    go_wp2_with (first | ((with_reducible refine gate_dst (N := 1) rfl ?_); refine ev_boxs S ?_ 1 rfl rfl rfl ?_; (first | exact want0 rfl | exact want1 rfl rfl rfl rfl); intro g1 w1 S_; clear S; have S := S_; clear S_) | (refine ev_own1 S ?_ rfl o22 rfl (by repeat (first | exact Spot.here _ _ | apply Spot.there)) (by exact rfl) ?_; (first | exact want0 rfl | exact want1 rfl rfl rfl rfl)) | (refine ev_own1 S ?_ rfl o24 rfl (by repeat (first | exact Spot.here _ _ | apply Spot.there)) (by exact rfl) ?_; (first | exact want0 rfl | exact want1 rfl rfl rfl rfl)) | (refine ev_own1 S ?_ rfl o23 rfl (by repeat (first | exact Spot.here _ _ | apply Spot.there)) (by exact rfl) ?_; (first | exact want0 rfl | exact want1 rfl rfl rfl rfl)) | (refine ev_own1 S ?_ rfl o9 rfl (by repeat (first | exact Spot.here _ _ | apply Spot.there)) (by exact rfl) ?_; (first | exact want0 rfl | exact want1 rfl rfl rfl rfl)) | (go_at_call 31; (with_reducible refine (long_calls nm _).mono ?_); rintro z_ w_ ⟨rfl, hb_⟩; rw [HN.out]; have hb2_ := hb_; have S_ := Aside0.mk (S.out.keep hb2_); clear hb2_ hb_; clear S; have S := S_; clear S_) | (go_at_call 32; have c_ := anyS_calls Aex cex ex _ (Kd.C_below H1.out S.out.below); rw [HE.out] at c_; (with_reducible refine c_.mono ?_); clear c_; rintro z_ w_ ⟨rfl, hb_⟩; have hb2_ := hb_; have S_ := Aside0.mk (S.out.keep hb2_); clear hb2_ hb_; clear S; have S := S_; clear S_) | (go_at_call 32; have c_ := anyS_calls Aim cim im _ (Kd.C_below H2.out S.out.below); rw [HI.out] at c_; (with_reducible refine c_.mono ?_); clear c_; rintro z_ w_ ⟨rfl, hb_⟩; have hb2_ := hb_; have S_ := Aside0.mk (S.out.keep hb2_); clear hb2_ hb_; clear S; have S := S_; clear S_) | (go_at_call 33; have c_ := anyR_calls Are cre re _ (Kd.C_below H5.out S.out.below); rw [HR.out] at c_; (with_reducible refine c_.mono ?_); clear c_; rintro z_ w_ ⟨rfl, hb_⟩; have hb2_ := hb_; have S_ := Aside0.mk (S.out.keep hb2_); clear hb2_ hb_; clear S; have S := S_; clear S_))
                    go_ret
                    exact ⟨rfl, S.out.below⟩
                  | false =>
                    rw [q_, if_neg (by simp)] at hf
                    have HR := Aside0.mk q_
                    clear q_
                    subst hf
                    go_enter Try.func14, Try.ntmps14
                    go_wp2_with (first | ((with_reducible refine gate_dst (N := 1) rfl ?_); refine ev_boxs S ?_ 1 rfl rfl rfl ?_; (first | exact want0 rfl | exact want1 rfl rfl rfl rfl); intro g1 w1 S_; clear S; have S := S_; clear S_) | (refine ev_own1 S ?_ rfl o22 rfl (by repeat (first | exact Spot.here _ _ | apply Spot.there)) (by exact rfl) ?_; (first | exact want0 rfl | exact want1 rfl rfl rfl rfl)) | (refine ev_own1 S ?_ rfl o24 rfl (by repeat (first | exact Spot.here _ _ | apply Spot.there)) (by exact rfl) ?_; (first | exact want0 rfl | exact want1 rfl rfl rfl rfl)) | (refine ev_own1 S ?_ rfl o23 rfl (by repeat (first | exact Spot.here _ _ | apply Spot.there)) (by exact rfl) ?_; (first | exact want0 rfl | exact want1 rfl rfl rfl rfl)) | (refine ev_own1 S ?_ rfl o9 rfl (by repeat (first | exact Spot.here _ _ | apply Spot.there)) (by exact rfl) ?_; (first | exact want0 rfl | exact want1 rfl rfl rfl rfl)) | (go_at_call 31; (with_reducible refine (long_calls nm _).mono ?_); rintro z_ w_ ⟨rfl, hb_⟩; rw [HN.out]; have hb2_ := hb_; have S_ := Aside0.mk (S.out.keep hb2_); clear hb2_ hb_; clear S; have S := S_; clear S_) | (go_at_call 32; have c_ := anyS_calls Aex cex ex _ (Kd.C_below H1.out S.out.below); rw [HE.out] at c_; (with_reducible refine c_.mono ?_); clear c_; rintro z_ w_ ⟨rfl, hb_⟩; have hb2_ := hb_; have S_ := Aside0.mk (S.out.keep hb2_); clear hb2_ hb_; clear S; have S := S_; clear S_) | (go_at_call 32; have c_ := anyS_calls Aim cim im _ (Kd.C_below H2.out S.out.below); rw [HI.out] at c_; (with_reducible refine c_.mono ?_); clear c_; rintro z_ w_ ⟨rfl, hb_⟩; have hb2_ := hb_; have S_ := Aside0.mk (S.out.keep hb2_); clear hb2_ hb_; clear S; have S := S_; clear S_) | (go_at_call 33; have c_ := anyR_calls Are cre re _ (Kd.C_below H5.out S.out.below); rw [HR.out] at c_; (with_reducible refine c_.mono ?_); clear c_; rintro z_ w_ ⟨rfl, hb_⟩; have hb2_ := hb_; have S_ := Aside0.mk (S.out.keep hb2_); clear hb2_ hb_; clear S; have S := S_; clear S_))
                    go_ret
                    exact ⟨rfl, S.out.below⟩
end Go.Proofs.Ytkoimdgpicmakaa.Ob
namespace Go.Proofs.Ytkoimdgpicmakaa.Ob
open Go.Proofs.Ytkoimdgpicmakaa.Pure2 Go.Proofs.Ytkoimdgpicmakaa.Pure4
open Go.RowKit Go.Proofs.Ytkoimdgpicmakaa.Sep Go.Proofs.YtkoimdgpicmakaaW.PrintWords Go.Proofs.YtkoimdgpicmakaaW.PrintLast Go.Proofs.Ytkoimdgpicmakaa.Wm Go.Proofs.Ytkoimdgpicmakaa.Ev Go.Proofs.Ytkoimdgpicmakaa.Ty Go.Proofs.Ytkoimdgpicmakaa.PB
set_option linter.unusedVariables false
set_option linter.unusedSimpArgs false

theorem freeze_cell (W : World) (p : Addr) (n : Nat) (ad : Addr) : (W.freeze p n).cell? ad = W.cell? ad := by
  unfold World.freeze
  split
  · rfl
  · unfold World.cell?
    simp only [Array.getElem?_modify]
    by_cases h : p.block = ad.block
    · rw [if_pos h]
      cases W.heap[ad.block]? with
      | none => rfl
      | some o => cases o <;> rfl
    · rw [if_neg h]
theorem freeze_below {B : Nat} {w W : World} (h : Below B w W) {p : Addr} (hp : B ≤ p.block) (n : Nat) : Below B w (W.freeze p n) := by
  have hk : ∀ k, k < B → (W.freeze p n).heap[k]? = W.heap[k]? := by
    intro k hk
    unfold World.freeze
    by_cases hn : n = 0
    · rw [if_pos hn]
    · rw [if_neg hn]
      show (W.heap.modify p.block _)[k]? = _
      rw [Array.getElem?_modify, if_neg (by omega)]
  have hs : (W.freeze p n).heap.size = W.heap.size ∧ (W.freeze p n).os = W.os ∧ (W.freeze p n).tape = W.tape ∧ (W.freeze p n).output = W.output := by
    unfold World.freeze
    split <;> simp
  exact ⟨hs.2.1.trans h.os, hs.2.2.1.trans h.tape, hs.2.2.2.trans h.output, by rw [hs.1]; exact h.size, fun k hl => (hk k hl).trans (h.block k hl)⟩
theorem C_cells {k : IntKind} {W W' : World} {A : Option Addr} {n : Nat} {xs : List Int} (h : Kd.C (Kd.int k) W A n xs) (hc : ∀ ad v, W.cell? ad = some v → W'.cell? ad = some v) : Kd.C (Kd.int k) W' A n xs := by
  refine ⟨h.1, h.2.1, fun hn => ?_⟩
  obtain ⟨ad, e, hr⟩ := h.2.2 hn
  refine ⟨ad, e, fun j p hj => ?_⟩
  obtain ⟨cs, h1, h2, h3⟩ := hr j p hj
  exact ⟨cs, h1, h2, fun i u hi => hc _ _ (h3 i u hi)⟩
/-- Rows of bytes that lie at W. -/
structure Rs (B : Nat) (w W : World) (ps : List (Option Addr × Nat × List Int)) : Prop where
  le : B ≤ w.heap.size
  below : Below B w W
  rows : ∀ p ∈ ps, p.2.2.length ≤ p.2.1 ∧ Kd.C (Kd.int .u8) W p.1 p.2.2.length p.2.2
section
variable {B : Nat} {w W W' : World} {ps qs : List (Option Addr × Nat × List Int)}
theorem Rs.start (w : World) : Rs w.heap.size w w.drew [] := ⟨Nat.le_refl _, (Below.refl _ _).drew, fun p h => (by cases h)⟩
theorem Rs.leW (h : Rs B w W ps) : B ≤ W.heap.size := Nat.le_trans h.le h.below.size
theorem Rs.keep (h : Rs B w W ps) (hb : Below W.heap.size W W') : Rs B w W' ps :=
  ⟨h.le, h.below.trans (hb.mono h.leW), fun p hp => ⟨(h.rows p hp).1, Kd.C_below (h.rows p hp).2 hb⟩⟩
theorem Rs.add (h : Rs B w W ps) (hb : Below W.heap.size W W') {A : Option Addr} {c : Nat} {xs : List Int} (hl : xs.length ≤ c) (hC : Kd.C (Kd.int .u8) W' A xs.length xs) : Rs B w W' ((A, c, xs) :: ps) := by
  have h1 := h.keep hb
  refine ⟨h1.le, h1.below, fun p hp => ?_⟩
  rcases List.mem_cons.1 hp with rfl | hp
  · exact ⟨hl, hC⟩
  · exact h1.rows p hp
theorem Rs.addR (h : Rs B w W ps) (hb : Below W.heap.size W W') {A : Option Addr} {c : Nat} {xs : List Int} (hR : Kd.R (Kd.int .u8) 5 W' W.heap.size (fun _ => True) (.slice A xs.length c) xs) : Rs B w W' ((A, c, xs) :: ps) := by
  have h1 := Kd.R_reads' hR
  exact h.add hb h1.2.1 h1.2.2
theorem Rs.addO (h : Rs B w W ps) (hb : Below W.heap.size W W') {A : Option Addr} {c : Nat} {xs : List Int} (hO : (Ow (Kd.int .u8) 5 A c xs).pred W') : Rs B w W' ((A, c, xs) :: ps) := h.add hb (Ow.cap hO) (Ow.reads hO)
theorem Rs.perm (h : Rs B w W ps) (hq : ∀ p ∈ qs, p ∈ ps) : Rs B w W qs := ⟨h.le, h.below, fun p hp => h.rows p (hq p hp)⟩
theorem Rs.cell (h : Rs w.heap.size w W ps) {ad : Addr} {v : Value} (hc : w.cell? ad = some v) : W.cell? ad = some v := h.below.cell (World.block_lt_of_cell? w _ hc) |>.trans hc
theorem Rs.freeze (h : Rs B w W ps) {p : Addr} (hp : B ≤ p.block) (n : Nat) : Rs B w (W.freeze p n) ps :=
  ⟨h.le, freeze_below h.below hp n, fun q hq => ⟨(h.rows q hq).1, C_cells (h.rows q hq).2 (fun ad v hc => (freeze_cell W p n ad).trans hc)⟩⟩
end
section
variable {ops : Array Oper} {o : Oper} {a : Act} {Q : Exit → Act → World → Prop} {K : Act → World → Prop} {B : Nat} {w W : World} {ps : List (Option Addr × Nat × List Int)}
/-- A literal of bytes. -/
theorem rs_lit (xs : List Int) {n : Nat} (hl : xs.length = n) (R : Aside0 (Rs B w W ps)) (hw : Region.wanted o (yielded ops a.tmps) = true) (N : Tmp) (hN : o.dst = some N)
    (hrun : (execOp a.eval o).run Try.prog W = .ok (.value (.slice (some ⟨W.heap.size, 0, none⟩) n n)) (W.alloc (.cells (xs.map (Value.int .u8)).toArray 5))) (hm : n ≤ 9223372036854775807)
    (h : ∀ g w1, B ≤ g → Aside0 (Rs B w w1 ((some ⟨g, 0, none⟩, n, xs) :: ps)) → K (a.put (some N) (.slice (some ⟨g, 0, none⟩) n n)) w1) : if Region.wanted o (yielded ops a.tmps) = true then Oper.wp Try.prog o a W K Q else K (a.put (some N) undef) W := by
  subst hl
  rw [if_pos hw]
  unfold Oper.wp
  simp only [hrun]
  show K (a.put o.dst _) _
  rw [hN]
  have hR := lit_R (W := W) (d := Kd.int .u8) (e := 5) rfl (reps_scalar W _ _ xs) hm
  exact h _ _ R.out.leW ⟨R.out.addR ((Below.refl _ _).alloc (Nat.le_refl _) _) hR⟩
/-- A row of bytes as such: a mark behind its end. -/
theorem rs_conv (R : Aside0 (Rs B w W ps)) {x : Operand} {g n c : Nat} (hw : Region.wanted o (yielded ops a.tmps) = true) (N : Tmp) (hN : o.dst = some N) (ho : o.op = .convert 30 30 x) (hx : a.eval x = .slice (some ⟨g, 0, none⟩) n c) (hg : B ≤ g)
    (h : ∀ w1, Aside0 (Rs B w w1 ps) → K (a.put (some N) (.slice (some ⟨g, 0, none⟩) n c)) w1) : if Region.wanted o (yielded ops a.tmps) = true then Oper.wp Try.prog o a W K Q else K (a.put (some N) undef) W := by
  rw [if_pos hw]
  have hr : ∃ W1, (convert 30 30 (.slice (some ⟨g, 0, none⟩) n c)).run Try.prog W = .ok (.slice (some ⟨g, 0, none⟩) n c) W1 ∧ Rs B w W1 ps := by
    have e1 : (convert 30 30 (.slice (some ⟨g, 0, none⟩) n c)).run Try.prog W = ((markStringish ⟨g, 0, none⟩).run Try.prog W).andThen (fun _ w' => .ok (.slice (some ⟨g, 0, none⟩) n c) w') := by
      unfold convert
      simp [Sem.run_bind, run_underlying Try.underlying30, run_underlying Try.underlying5]
    rw [e1]
    unfold markStringish
    simp only [Sem.run_bind]
    cases hs : W.shape? g with
    | none => exact ⟨W, by simp [shape, Sem.run, hs], R.out⟩
    | some q => exact ⟨W.freeze ⟨g, q.2, none⟩ 1, by simp [shape, Sem.run, hs], R.out.freeze hg 1⟩
  obtain ⟨W1, h1, h2⟩ := hr
  unfold Oper.wp execOp
  simp only [ho, hx, h1, Sem.run_bind, Result.andThen_ok, Sem.run_pure]
  show K (a.put o.dst _) _
  rw [hN]
  exact h W1 ⟨h2⟩
/-- A row of rows. -/
theorem rs_litV {cs : Array Value} {t : TypeId} {n : Nat} (R : Aside0 (Rs B w W ps)) (hw : Region.wanted o (yielded ops a.tmps) = true) (N : Tmp) (hN : o.dst = some N)
    (hrun : (execOp a.eval o).run Try.prog W = .ok (.value (.slice (some ⟨W.heap.size, 0, none⟩) n n)) (W.alloc (.cells cs t (0, 0))))
    (h : ∀ g w1, w1.heap[g]? = some (.cells cs t (0, 0)) → Aside0 (Rs B w w1 ps) → K (a.put (some N) (.slice (some ⟨g, 0, none⟩) n n)) w1) : if Region.wanted o (yielded ops a.tmps) = true then Oper.wp Try.prog o a W K Q else K (a.put (some N) undef) W := by
  rw [if_pos hw]
  unfold Oper.wp
  simp only [hrun]
  show K (a.put o.dst _) _
  rw [hN]
  exact h _ _ (heap_alloc_new _ _) ⟨R.out.keep ((Below.refl _ _).alloc (Nat.le_refl _) _)⟩
end

theorem txt_len (s : ByteArray) (h : s.size ≤ 1000) : (txt s).length ≤ 2000 := by
  unfold txt
  have := (num_len ((s.size : Int) % 4294967296)).2
  rw [List.length_append, bytesOf_length]
  omega

set_option maxRecDepth 100000 in
set_option maxHeartbeats 4000000 in
theorem layT_calls (A : Option Addr) (c : Nat) (xs : List ByteArray) (w : World) (hC : Kd.C Kd.string w A xs.length xs) (hl : xs.length ≤ 1000) (hb : ∀ s ∈ xs, s.size ≤ 1000) :
    Calls Try.prog 23 #[.slice A xs.length c, .func (.func 22) #[] #[]] w fun z w' => ∃ A' c', z = .returned (.slice A' (num (xs.length : Int) ++ xs.flatMap txt).length c') ∧ (Ow (Kd.int .u8) 5 A' c' (num (xs.length : Int) ++ xs.flatMap txt)).pred w' ∧ (∀ k, (Ow (Kd.int .u8) 5 A' c' (num (xs.length : Int) ++ xs.flatMap txt)).foot k → w.heap.size ≤ k) ∧ Below w.heap.size w w' := by
  have S := Aside0.mk (St.start w)
  have HC := Aside0.mk hC
  have hnl := (num_len (xs.length : Int)).2
  have hV := var_up (xs.length : Int) (by omega) (by omega) (Nat.le_refl 5)
  obtain ⟨hd, hhd⟩ : ∃ l, num (xs.length : Int) = l := ⟨_, rfl⟩
  rw [hhd] at hV hnl ⊢
  have HV := Aside0.mk hV
  clear hC hV hhd
  go_enter Try.func23, Try.ntmps23
  go_wp2_with (first | (refine ev_load1 ?_ rfl o9 rfl (old_ S (has1 HH.out)) ?_; (first | exact want0 rfl | exact want1 rfl rfl rfl rfl)) | (((with_reducible refine gate_builtin (b := .append) (xs := #[.tmp 18, .tmp 21]) rfl ?_); at_builtin; refine ev_rows (h1 := fun _ => rfl) (0 : Int) (.tmp 18) (.tmp 21) 30 (.int .u8 0) 1 (n := acc.length) (xs := acc) (ys := txt x) S rfl rfl Try.underlying30 info5 rfl (by decide) rfl rfl (by repeat (first | exact Spot.here _ _ | apply Spot.there)) rfl (Ow.reads (pred_at S.out (a := Ow (Kd.int .u8) 5 A21 c21 (txt x)) (by repeat (first | exact Spot.here _ _ | apply Spot.there)))) hcap ?_; intro A22 c22 w_ S_; clear S; have S := S_; clear S_)) | (refine ev_own1 S ?_ rfl o9 rfl (by repeat (first | exact Spot.here _ _ | apply Spot.there)) (by exact rfl) ?_; (first | exact want0 rfl | exact want1 rfl rfl rfl rfl)) | (go_at_call 60; (with_reducible refine (wire_Var.calls 5 (xs.length : Int) hd _ HV.out).mono ?_); rintro z_ w_ ⟨v0, rfl, hR, hb_⟩; obtain ⟨A11, c11, rfl, _⟩ := Kd.R_reads hR; have S_ := Aside0.mk (St.add S.out hb_ (Ow (Kd.int .u8) 5 A11 c11 hd) (Ow.mk rfl hR) (Ow.new hR)); clear hR hb_; clear S; have S := S_; clear S_) | (go_at_call 22; (with_reducible refine (wire_Text.calls 5 x (txt x) _ HTX.out).mono ?_); rintro z_ w_ ⟨v0, rfl, hR, hb_⟩; obtain ⟨A21, c21, rfl, _⟩ := Kd.R_reads hR; have S_ := Aside0.mk (St.add S.out hb_ (Ow (Kd.int .u8) 5 A21 c21 (txt x)) (Ow.mk rfl hR) (Ow.new hR)); clear hR hb_; clear S; have S := S_; clear S_))
  go_loopw [5, 14] (fun v5 v14 wr => ∃ (i : Nat) (A' : Option Addr) (c' : Nat) (acc : List Int), v5 = .slice A' acc.length c' ∧ v14 = .int .i64 i ∧ i ≤ xs.length ∧ acc.length ≤ 5 + i * 2000 ∧ Aside0 (acc = hd ++ (xs.take i).flatMap txt) ∧ Aside0 (St w.heap.size w wr [Ow (Kd.int .u8) 5 A' c' acc])) (fun _ v14 _ => xs.length - (intOf v14).toNat)
  case atStart => exact ⟨0, A11, c11, hd, rfl, rfl, Nat.zero_le _, by omega, ⟨by simp⟩, S⟩
  case round =>
    clear S
    obtain ⟨i, A', c', acc, rfl, rfl, hi, hal, HA, S⟩ := hrel
    by_cases hlt : i < xs.length
    · have hd2 : decide ((i : Int) < (xs.length : Int)) = true := decide_eq_true (by omega)
      have hil : (i : Int) < (xs.length : Int) := by omega
      have hi0 : (0 : Int) ≤ (i : Int) := by omega
      have hb0 : i + 1 ≤ xs.length := hlt
      have HB1 := Aside0.mk (show xs.length - (i + 1) < xs.length - i by omega)
      have hpt : (xs.take (i + 1)).flatMap txt = (xs.take i).flatMap txt ++ txt (xs.getD i ByteArray.empty) := by
        rw [List.take_succ_eq_append_getElem hlt, List.flatMap_append, List.getD_eq_getElem?_getD, List.getElem?_eq_getElem hlt]
        simp
      obtain ⟨ad, cs, rfl, hK, hH⟩ := has_of HC.out ByteArray.empty i hlt
      have hmem : xs.getD i ByteArray.empty ∈ xs := by rw [List.getD_eq_getElem?_getD, List.getElem?_eq_getElem hlt]; exact List.getElem_mem hlt
      have hpl := hb _ hmem
      clear hmem
      obtain ⟨x, hx⟩ : ∃ x, xs.getD i ByteArray.empty = x := ⟨_, rfl⟩
      rw [hx] at hK hpt
      try rw [hx] at hpl
      obtain rfl : cs = [.string x] := hK
      have HTX := Aside0.mk (text_up x (by omega) (Nat.le_refl 5))
      have hpl := txt_len x hpl
      have HH := Aside0.mk (show Has w (ad.add (i * (Kd.string).sz)) [.string x] from hH)
      clear hH
      have HA2 : Aside0 (acc ++ txt x = hd ++ (xs.take (i + 1)).flatMap txt) := ⟨by rw [hpt, HA.out, List.append_assoc]⟩
      have hcap : (acc.length + (txt x).length) * 1 ≤ 140737488355328 := by omega
      have hal2 : (acc ++ txt x).length ≤ 5 + (i + 1) * 2000 := by rw [List.length_append]; omega
      clear hpt hx
      have hi1 : wrap64 ((i : Int) + 1) = ((i + 1 : Nat) : Int) := w64 i (by omega)
      go_wp2_with (first | (refine ev_load1 ?_ rfl o9 rfl (old_ S (has1 HH.out)) ?_; (first | exact want0 rfl | exact want1 rfl rfl rfl rfl)) | (((with_reducible refine gate_builtin (b := .append) (xs := #[.tmp 18, .tmp 21]) rfl ?_); at_builtin; refine ev_rows (h1 := fun _ => rfl) (0 : Int) (.tmp 18) (.tmp 21) 30 (.int .u8 0) 1 (n := acc.length) (xs := acc) (ys := txt x) S rfl rfl Try.underlying30 info5 rfl (by decide) rfl rfl (by repeat (first | exact Spot.here _ _ | apply Spot.there)) rfl (Ow.reads (pred_at S.out (a := Ow (Kd.int .u8) 5 A21 c21 (txt x)) (by repeat (first | exact Spot.here _ _ | apply Spot.there)))) hcap ?_; intro A22 c22 w_ S_; clear S; have S := S_; clear S_)) | (refine ev_own1 S ?_ rfl o9 rfl (by repeat (first | exact Spot.here _ _ | apply Spot.there)) (by exact rfl) ?_; (first | exact want0 rfl | exact want1 rfl rfl rfl rfl)) | (go_at_call 60; (with_reducible refine (wire_Var.calls 5 (xs.length : Int) hd _ HV.out).mono ?_); rintro z_ w_ ⟨v0, rfl, hR, hb_⟩; obtain ⟨A11, c11, rfl, _⟩ := Kd.R_reads hR; have S_ := Aside0.mk (St.add S.out hb_ (Ow (Kd.int .u8) 5 A11 c11 hd) (Ow.mk rfl hR) (Ow.new hR)); clear hR hb_; clear S; have S := S_; clear S_) | (go_at_call 22; (with_reducible refine (wire_Text.calls 5 x (txt x) _ HTX.out).mono ?_); rintro z_ w_ ⟨v0, rfl, hR, hb_⟩; obtain ⟨A21, c21, rfl, _⟩ := Kd.R_reads hR; have S_ := Aside0.mk (St.add S.out hb_ (Ow (Kd.int .u8) 5 A21 c21 (txt x)) (Ow.mk rfl hR) (Ow.new hR)); clear hR hb_; clear S; have S := S_; clear S_))
      refine ⟨⟨i + 1, A22, c22, acc ++ txt x, by rw [List.length_append], by simp [hi1], hb0, hal2, HA2, ⟨S.out.drop (List.sublist_cons_self _ _)⟩⟩, ?_⟩
      simpa [intOf, hi1] using HB1.out
    · obtain rfl : i = xs.length := by omega
      have hd2 : decide ((xs.length : Int) < (xs.length : Int)) = false := decide_eq_false (by omega)
      have ha : acc = hd ++ xs.flatMap txt := by rw [HA.out, List.take_length]
      subst ha
      clear HA
      go_wp2_with (first | (refine ev_load1 ?_ rfl o9 rfl (old_ S (has1 HH.out)) ?_; (first | exact want0 rfl | exact want1 rfl rfl rfl rfl)) | (((with_reducible refine gate_builtin (b := .append) (xs := #[.tmp 18, .tmp 21]) rfl ?_); at_builtin; refine ev_rows (h1 := fun _ => rfl) (0 : Int) (.tmp 18) (.tmp 21) 30 (.int .u8 0) 1 (n := acc.length) (xs := acc) (ys := txt x) S rfl rfl Try.underlying30 info5 rfl (by decide) rfl rfl (by repeat (first | exact Spot.here _ _ | apply Spot.there)) rfl (Ow.reads (pred_at S.out (a := Ow (Kd.int .u8) 5 A21 c21 (txt x)) (by repeat (first | exact Spot.here _ _ | apply Spot.there)))) hcap ?_; intro A22 c22 w_ S_; clear S; have S := S_; clear S_)) | (refine ev_own1 S ?_ rfl o9 rfl (by repeat (first | exact Spot.here _ _ | apply Spot.there)) (by exact rfl) ?_; (first | exact want0 rfl | exact want1 rfl rfl rfl rfl)) | (go_at_call 60; (with_reducible refine (wire_Var.calls 5 (xs.length : Int) hd _ HV.out).mono ?_); rintro z_ w_ ⟨v0, rfl, hR, hb_⟩; obtain ⟨A11, c11, rfl, _⟩ := Kd.R_reads hR; have S_ := Aside0.mk (St.add S.out hb_ (Ow (Kd.int .u8) 5 A11 c11 hd) (Ow.mk rfl hR) (Ow.new hR)); clear hR hb_; clear S; have S := S_; clear S_) | (go_at_call 22; (with_reducible refine (wire_Text.calls 5 x (txt x) _ HTX.out).mono ?_); rintro z_ w_ ⟨v0, rfl, hR, hb_⟩; obtain ⟨A21, c21, rfl, _⟩ := Kd.R_reads hR; have S_ := Aside0.mk (St.add S.out hb_ (Ow (Kd.int .u8) 5 A21 c21 (txt x)) (Ow.mk rfl hR) (Ow.new hR)); clear hR hb_; clear S; have S := S_; clear S_))
      go_ret
      exact ⟨_, _, rfl, pred_at S.out (by repeat (first | exact Spot.here _ _ | apply Spot.there)), new_at S.out (by repeat (first | exact Spot.here _ _ | apply Spot.there)), S.out.below⟩
end Go.Proofs.Ytkoimdgpicmakaa.Ob
namespace Go.Proofs.Ytkoimdgpicmakaa.Ob
open Go.Proofs.Ytkoimdgpicmakaa.Pure2 Go.Proofs.Ytkoimdgpicmakaa.Pure4
open Go.RowKit Go.Proofs.Ytkoimdgpicmakaa.Sep Go.Proofs.YtkoimdgpicmakaaW.PrintWords Go.Proofs.YtkoimdgpicmakaaW.PrintLast Go.Proofs.Ytkoimdgpicmakaa.Wm Go.Proofs.Ytkoimdgpicmakaa.Ev Go.Proofs.Ytkoimdgpicmakaa.Ty Go.Proofs.Ytkoimdgpicmakaa.PB
set_option linter.unusedVariables false
set_option linter.unusedSimpArgs false

/-- The bytes of a reloc. -/
def lr (r : S50) : List Int := [r.f0] ++ (num (r.f1 % 4294967296) ++ num (r.f2 % 4294967296))
theorem has_row {W : World} {g : Nat} {cs : Array Value} {t : TypeId} (h : W.heap[g]? = some (.cells cs t (0, 0))) (i : Nat) (v : Value) (hv : cs[i]? = some v) : W.cell? ⟨g, i, none⟩ = some v := (cell_blk h i).trans hv
theorem cat3 {W : World} {g c1 c2 c3 : Nat} {A1 A2 A3 : Option Addr} {x n1 n2 : List Int} (hv : W.heap[g]? = some (.cells #[.slice A1 1 c1, .slice A2 n1.length c2, .slice A3 n2.length c3] 30 (0, 0))) (h1 : Kd.C (Kd.int .u8) W A1 x.length x) (h2 : Kd.C (Kd.int .u8) W A2 n1.length n1) (h3 : Kd.C (Kd.int .u8) W A3 n2.length n2) (hx : x.length = 1) (_ : True) (hl1 : n1.length ≤ 5) (hl2 : n2.length ≤ 5) :
    Calls Try.prog 21 #[.slice (some ⟨g, 0, none⟩) 3 3] W fun z w' => ∃ A c, z = .returned (.slice A (x ++ (n1 ++ n2)).length c) ∧ (Ow (Kd.int .u8) 5 A c (x ++ (n1 ++ n2))).pred w' ∧ (∀ k, (Ow (Kd.int .u8) 5 A c (x ++ (n1 ++ n2))).foot k → W.heap.size ≤ k) ∧ Below W.heap.size W w' := by
  have e : fl [(A1, c1, x), (A2, c2, n1), (A3, c3, n2)] = x ++ (n1 ++ n2) := by simp [fl]
  have et : tl [(A1, c1, x), (A2, c2, n1), (A3, c3, n2)] = x.length + (n1.length + n2.length) := by simp [tl]
  have c_ := concat_calls g 3 3 [(A1, c1, x), (A2, c2, n1), (A3, c3, n2)] rfl (by decide) _ et (by omega) (by omega) W (fun i hi => by
    match i, hi with
    | 0, _ => exact ⟨has_row hv 0 _ (by rw [show ([(A1, c1, x), (A2, c2, n1), (A3, c3, n2)].getD 0 zP).2.2.length = 1 from hx]; rfl), h1⟩
    | 1, _ => exact ⟨has_row hv 1 _ rfl, h2⟩
    | 2, _ => exact ⟨has_row hv 2 _ rfl, h3⟩)
  rw [e] at c_
  exact c_
set_option maxRecDepth 100000 in
set_option maxHeartbeats 4000000 in
theorem reloc_calls (r : S50) (w : World) :
    Calls Try.prog 26 #[.agg #[.int .u8 r.f0, .int .u16 r.f1, .int .u16 r.f2]] w fun z w' => ∃ A c, z = .returned (.slice A (lr r).length c) ∧ (Ow (Kd.int .u8) 5 A c (lr r)).pred w' ∧ (∀ k, (Ow (Kd.int .u8) 5 A c (lr r)).foot k → w.heap.size ≤ k) ∧ Below w.heap.size w w' := by
  have S := Aside0.mk (St.start w)
  unfold lr
  have hl1 := (num_len (r.f1 % 4294967296)).2
  have hl2 := (num_len (r.f2 % 4294967296)).2
  have hn1 := var_up (r.f1 % 4294967296) (by omega) (by omega) (Nat.le_refl 5)
  have hn2 := var_up (r.f2 % 4294967296) (by omega) (by omega) (Nat.le_refl 5)
  obtain ⟨n1, e1⟩ : ∃ l, num (r.f1 % 4294967296) = l := ⟨_, rfl⟩
  obtain ⟨n2, e2⟩ : ∃ l, num (r.f2 % 4294967296) = l := ⟨_, rfl⟩
  rw [e1] at hl1 hn1 ⊢
  rw [e2] at hl2 hn2 ⊢
  have HL1 := Aside0.mk hl1
  have HL2 := Aside0.mk hl2
  have HN1 := Aside0.mk hn1
  have HN2 := Aside0.mk hn2
  clear hl1 hl2 hn1 hn2 e1 e2
  go_enter Try.func26, Try.ntmps26
  go_wp2_with (first | ((with_reducible refine gate_dst (N := 1) rfl ?_); refine ev_boxs S ?_ 1 rfl rfl rfl ?_; (first | exact want0 rfl | exact want1 rfl rfl rfl rfl); intro g1 w1 S_; clear S; have S := S_; clear S_) | (refine ev_own1 S ?_ rfl o47 rfl (by repeat (first | exact Spot.here _ _ | apply Spot.there)) (by exact rfl) ?_; (first | exact want0 rfl | exact want1 rfl rfl rfl rfl)) | (refine ev_own1 S ?_ rfl o48 rfl (by repeat (first | exact Spot.here _ _ | apply Spot.there)) (by exact rfl) ?_; (first | exact want0 rfl | exact want1 rfl rfl rfl rfl)))
  have HC0 := Aside0.mk ((own_cell (g := g1) S (by repeat (first | exact Spot.here _ _ | apply Spot.there)) 0).trans rfl)
  have HC1 := Aside0.mk ((own_cell (g := g1) S (by repeat (first | exact Spot.here _ _ | apply Spot.there)) 1).trans rfl)
  have HC2 := Aside0.mk ((own_cell (g := g1) S (by repeat (first | exact Spot.here _ _ | apply Spot.there)) 2).trans rfl)
  have HS := Aside0.mk S.out.below
  clear S
  have R2 := Aside0.mk (Rs.start w1)
  refine start_ (n := 14) (S := fun w' => w'.cell? ⟨g1, 0, none⟩ = some (.int .u8 r.f0) ∧ w'.cell? ⟨g1, 1, none⟩ = some (.int .u16 r.f1) ∧ w'.cell? ⟨g1, 2, none⟩ = some (.int .u16 r.f2)) (ds := []) #[false, false, false, false, false, false, false, false, false, false, false, false, false, false] (by kernel_rfl) rfl rfl ⟨(R2.out.cell HC0.out), (R2.out.cell HC1.out), (R2.out.cell HC2.out)⟩ (fun hHeld => ?_)
  refine pure_ (i := 0) (N := some 3) (v := ?_) (a' := ?_) #[true, false, false, false, false, false, false, false, false, false, false, false, false, false] rfl rfl (by kernel_rfl) (fun _ _ _ h => h) (Or.inl ⟨by rfl, ?_⟩) ?_ ?_
  rotate_left
  · intro w'
    go_simp
    with_reducible rfl
  rotate_left
  · simp only [Act.put, List.setIfInBounds_toArray, List.set_cons_zero, List.set_cons_succ, i64_w, i32_w]
    rfl
  refine pure_ (i := 3) (N := some 6) (v := ?_) (a' := ?_) #[true, false, false, true, false, false, false, false, false, false, false, false, false, false] rfl rfl (by kernel_rfl) (fun _ _ _ h => h) (Or.inl ⟨by rfl, ?_⟩) ?_ ?_
  rotate_left
  · intro w'
    go_simp
    with_reducible rfl
  rotate_left
  · simp only [Act.put, List.setIfInBounds_toArray, List.set_cons_zero, List.set_cons_succ, i64_w, i32_w]
    rfl
  refine pure_ (i := 7) (N := some 10) (v := ?_) (a' := ?_) #[true, false, false, true, false, false, false, true, false, false, false, false, false, false] rfl rfl (by kernel_rfl) (fun _ _ _ h => h) (Or.inl ⟨by rfl, ?_⟩) ?_ ?_
  rotate_left
  · intro w'
    go_simp
    with_reducible rfl
  rotate_left
  · simp only [Act.put, List.setIfInBounds_toArray, List.set_cons_zero, List.set_cons_succ, i64_w, i32_w]
    rfl
  refine take_ (i := 1) (N := some 4) (v := ?_) (a' := ?_) #[true, true, false, true, false, false, false, true, false, false, false, false, false, false] rfl rfl (by kernel_rfl) (fun _ _ _ h => h) (Or.inl ⟨by rfl, ?_⟩) hHeld ?_ ?_
  rotate_left
  · rintro w' ⟨s0, s1, s2⟩
    go_simp
    with_reducible rfl
  rotate_left
  · simp only [Act.put, List.setIfInBounds_toArray, List.set_cons_zero, List.set_cons_succ, i64_w, i32_w]
    rfl
  refine take_ (i := 4) (N := some 7) (v := ?_) (a' := ?_) #[true, true, false, true, true, false, false, true, false, false, false, false, false, false] rfl rfl (by kernel_rfl) (fun _ _ _ h => h) (Or.inl ⟨by rfl, ?_⟩) hHeld ?_ ?_
  rotate_left
  · rintro w' ⟨s0, s1, s2⟩
    go_simp
    with_reducible rfl
  rotate_left
  · simp only [Act.put, List.setIfInBounds_toArray, List.set_cons_zero, List.set_cons_succ, i64_w, i32_w]
    rfl
  refine pure_ (i := 5) (N := some 8) (v := ?_) (a' := ?_) #[true, true, false, true, true, true, false, true, false, false, false, false, false, false] rfl rfl (by kernel_rfl) (fun _ _ _ h => h) (Or.inl ⟨by rfl, ?_⟩) ?_ ?_
  rotate_left
  · intro w'
    go_simp
    with_reducible rfl
  rotate_left
  · simp only [Act.put, List.setIfInBounds_toArray, List.set_cons_zero, List.set_cons_succ, i64_w, i32_w]
    rfl
  refine take_ (i := 8) (N := some 11) (v := ?_) (a' := ?_) #[true, true, false, true, true, true, false, true, true, false, false, false, false, false] rfl rfl (by kernel_rfl) (fun _ _ _ h => h) (Or.inl ⟨by rfl, ?_⟩) hHeld ?_ ?_
  rotate_left
  · rintro w' ⟨s0, s1, s2⟩
    go_simp
    with_reducible rfl
  rotate_left
  · simp only [Act.put, List.setIfInBounds_toArray, List.set_cons_zero, List.set_cons_succ, i64_w, i32_w]
    rfl
  refine pure_ (i := 9) (N := some 12) (v := ?_) (a' := ?_) #[true, true, false, true, true, true, false, true, true, true, false, false, false, false] rfl rfl (by kernel_rfl) (fun _ _ _ h => h) (Or.inl ⟨by rfl, ?_⟩) ?_ ?_
  rotate_left
  · intro w'
    go_simp
    with_reducible rfl
  rotate_left
  · simp only [Act.put, List.setIfInBounds_toArray, List.set_cons_zero, List.set_cons_succ, i64_w, i32_w]
    rfl
  refine join_ (σ := (Option Addr × Nat) × (Option Addr × Nat) × (Option Addr × Nat)) 3 #[true, true, true, true, true, true, true, true, true, true, true, false, false, false] (fun s => [(5, .slice s.1.1 1 s.1.2), (9, .slice s.2.1.1 n1.length s.2.1.2), (13, .slice s.2.2.1 n2.length s.2.2.2)]) (fun s w' => Aside0 (Rs w1.heap.size w1 w' [(s.1.1, s.1.2, [r.f0]), (s.2.1.1, s.2.1.2, n1), (s.2.2.1, s.2.2.2, n2)])) ?_ ?_
  rotate_left
  · intro hCont
    refine two_ (i := 2) (j := 6) (Ni := some 5) (Nj := some 9) #[true, true, true, true, true, true, false, true, true, true, false, false, false, false] #[true, true, false, true, true, true, true, true, true, true, false, false, false, false] rfl rfl rfl rfl (by kernel_rfl) (by decide) (by decide) (fun K hK => ?_) (fun K hK => ?_)
    · skip
      refine rs_lit [r.f0] (n := 1) rfl R2 (by rfl) 5 rfl (by first | (go_simp; done) | (go_simp; rfl)) (by simp) ?_
      intro g5 w5 _ R5
      refine hK.out _ _ ⟨(R5.out.cell HC0.out), (R5.out.cell HC1.out), (R5.out.cell HC2.out)⟩ (fun hHeld => ?_)
      clear hK K
      refine norm_ (a' := ?_) ?_ ?_
      rotate_left
      · show Act.put _ (some 5) _ = _
        simp only [Act.put, List.setIfInBounds_toArray, List.set_cons_zero, List.set_cons_succ, i64_w, i32_w]
        rfl
      refine one_ (i := 6) (N := some 9) #[true, true, true, true, true, true, true, true, true, true, false, false, false, false] rfl rfl (by kernel_rfl) (by decide) (fun K hK => ?_)
      refine goes_ Try.func60 (by kernel_rfl) rfl #[.int .u32 (r.f1 % 4294967296)] (by rfl) rfl rfl (by simp only [List.map_toArray, List.map_cons, List.map_nil]; rfl) ?_
      with_reducible refine (wire_Var.calls 5 (r.f1 % 4294967296) n1 _ HN1.out).mono ?_
      rintro z9 w9 ⟨v0, rfl, hR, hb_⟩
      obtain ⟨A9, c9, rfl, _⟩ := Kd.R_reads hR
      have R9 := Aside0.mk (R5.out.addR hb_ hR)
      clear hR hb_
      refine ⟨_, rfl, ?_⟩
      refine hK.out _ _ ⟨(R9.out.cell HC0.out), (R9.out.cell HC1.out), (R9.out.cell HC2.out)⟩ (fun hHeld => ?_)
      clear hK K
      refine norm_ (a' := ?_) ?_ ?_
      rotate_left
      · show Act.put _ (some 9) _ = _
        simp only [Act.put, List.setIfInBounds_toArray, List.set_cons_zero, List.set_cons_succ, i64_w, i32_w]
        rfl
      refine one_ (i := 10) (N := some 13) #[true, true, true, true, true, true, true, true, true, true, true, false, false, false] rfl rfl (by kernel_rfl) (by decide) (fun K hK => ?_)
      refine goes_ Try.func60 (by kernel_rfl) rfl #[.int .u32 (r.f2 % 4294967296)] (by rfl) rfl rfl (by simp only [List.map_toArray, List.map_cons, List.map_nil]; rfl) ?_
      with_reducible refine (wire_Var.calls 5 (r.f2 % 4294967296) n2 _ HN2.out).mono ?_
      rintro z9 w13 ⟨v0, rfl, hR, hb_⟩
      obtain ⟨A13, c13, rfl, _⟩ := Kd.R_reads hR
      have R13 := Aside0.mk (R9.out.addR hb_ hR)
      clear hR hb_
      refine ⟨_, rfl, ?_⟩
      refine hK.out _ _ ⟨(R13.out.cell HC0.out), (R13.out.cell HC1.out), (R13.out.cell HC2.out)⟩ (fun hHeld => ?_)
      clear hK K
      refine norm_ (a' := ?_) ?_ ?_
      rotate_left
      · show Act.put _ (some 13) _ = _
        simp only [Act.put, List.setIfInBounds_toArray, List.set_cons_zero, List.set_cons_succ, i64_w, i32_w]
        rfl
      exact norm_ (by simp only [putAll, Act.put, List.setIfInBounds_toArray, List.set_cons_zero, List.set_cons_succ]) (hCont ((some ⟨g5, 0, none⟩, 1), (A9, c9), (A13, c13)) _ ⟨R13.out.perm (fun p hp => by simp only [List.mem_cons, List.not_mem_nil, or_false] at hp ⊢; rcases hp with rfl | rfl | rfl <;> simp)⟩)
    · skip
      refine goes_ Try.func60 (by kernel_rfl) rfl #[.int .u32 (r.f1 % 4294967296)] (by rfl) rfl rfl (by simp only [List.map_toArray, List.map_cons, List.map_nil]; rfl) ?_
      with_reducible refine (wire_Var.calls 5 (r.f1 % 4294967296) n1 _ HN1.out).mono ?_
      rintro z9 w9 ⟨v0, rfl, hR, hb_⟩
      obtain ⟨A9, c9, rfl, _⟩ := Kd.R_reads hR
      have R9 := Aside0.mk (R2.out.addR hb_ hR)
      clear hR hb_
      refine ⟨_, rfl, ?_⟩
      refine hK.out _ _ ⟨(R9.out.cell HC0.out), (R9.out.cell HC1.out), (R9.out.cell HC2.out)⟩ (fun hHeld => ?_)
      clear hK K
      refine norm_ (a' := ?_) ?_ ?_
      rotate_left
      · show Act.put _ (some 9) _ = _
        simp only [Act.put, List.setIfInBounds_toArray, List.set_cons_zero, List.set_cons_succ, i64_w, i32_w]
        rfl
      refine two_ (i := 2) (j := 10) (Ni := some 5) (Nj := some 13) #[true, true, true, true, true, true, true, true, true, true, false, false, false, false] #[true, true, false, true, true, true, true, true, true, true, true, false, false, false] rfl rfl rfl rfl (by kernel_rfl) (by decide) (by decide) (fun K hK => ?_) (fun K hK => ?_)
      · skip
        refine rs_lit [r.f0] (n := 1) rfl R9 (by rfl) 5 rfl (by first | (go_simp; done) | (go_simp; rfl)) (by simp) ?_
        intro g5 w5 _ R5
        refine hK.out _ _ ⟨(R5.out.cell HC0.out), (R5.out.cell HC1.out), (R5.out.cell HC2.out)⟩ (fun hHeld => ?_)
        clear hK K
        refine norm_ (a' := ?_) ?_ ?_
        rotate_left
        · show Act.put _ (some 5) _ = _
          simp only [Act.put, List.setIfInBounds_toArray, List.set_cons_zero, List.set_cons_succ, i64_w, i32_w]
          rfl
        refine one_ (i := 10) (N := some 13) #[true, true, true, true, true, true, true, true, true, true, true, false, false, false] rfl rfl (by kernel_rfl) (by decide) (fun K hK => ?_)
        refine goes_ Try.func60 (by kernel_rfl) rfl #[.int .u32 (r.f2 % 4294967296)] (by rfl) rfl rfl (by simp only [List.map_toArray, List.map_cons, List.map_nil]; rfl) ?_
        with_reducible refine (wire_Var.calls 5 (r.f2 % 4294967296) n2 _ HN2.out).mono ?_
        rintro z9 w13 ⟨v0, rfl, hR, hb_⟩
        obtain ⟨A13, c13, rfl, _⟩ := Kd.R_reads hR
        have R13 := Aside0.mk (R5.out.addR hb_ hR)
        clear hR hb_
        refine ⟨_, rfl, ?_⟩
        refine hK.out _ _ ⟨(R13.out.cell HC0.out), (R13.out.cell HC1.out), (R13.out.cell HC2.out)⟩ (fun hHeld => ?_)
        clear hK K
        refine norm_ (a' := ?_) ?_ ?_
        rotate_left
        · show Act.put _ (some 13) _ = _
          simp only [Act.put, List.setIfInBounds_toArray, List.set_cons_zero, List.set_cons_succ, i64_w, i32_w]
          rfl
        exact norm_ (by simp only [putAll, Act.put, List.setIfInBounds_toArray, List.set_cons_zero, List.set_cons_succ]) (hCont ((some ⟨g5, 0, none⟩, 1), (A9, c9), (A13, c13)) _ ⟨R13.out.perm (fun p hp => by simp only [List.mem_cons, List.not_mem_nil, or_false] at hp ⊢; rcases hp with rfl | rfl | rfl <;> simp)⟩)
      · skip
        refine goes_ Try.func60 (by kernel_rfl) rfl #[.int .u32 (r.f2 % 4294967296)] (by rfl) rfl rfl (by simp only [List.map_toArray, List.map_cons, List.map_nil]; rfl) ?_
        with_reducible refine (wire_Var.calls 5 (r.f2 % 4294967296) n2 _ HN2.out).mono ?_
        rintro z9 w13 ⟨v0, rfl, hR, hb_⟩
        obtain ⟨A13, c13, rfl, _⟩ := Kd.R_reads hR
        have R13 := Aside0.mk (R9.out.addR hb_ hR)
        clear hR hb_
        refine ⟨_, rfl, ?_⟩
        refine hK.out _ _ ⟨(R13.out.cell HC0.out), (R13.out.cell HC1.out), (R13.out.cell HC2.out)⟩ (fun hHeld => ?_)
        clear hK K
        refine norm_ (a' := ?_) ?_ ?_
        rotate_left
        · show Act.put _ (some 13) _ = _
          simp only [Act.put, List.setIfInBounds_toArray, List.set_cons_zero, List.set_cons_succ, i64_w, i32_w]
          rfl
        refine one_ (i := 2) (N := some 5) #[true, true, true, true, true, true, true, true, true, true, true, false, false, false] rfl rfl (by kernel_rfl) (by decide) (fun K hK => ?_)
        refine rs_lit [r.f0] (n := 1) rfl R13 (by rfl) 5 rfl (by first | (go_simp; done) | (go_simp; rfl)) (by simp) ?_
        intro g5 w5 _ R5
        refine hK.out _ _ ⟨(R5.out.cell HC0.out), (R5.out.cell HC1.out), (R5.out.cell HC2.out)⟩ (fun hHeld => ?_)
        clear hK K
        refine norm_ (a' := ?_) ?_ ?_
        rotate_left
        · show Act.put _ (some 5) _ = _
          simp only [Act.put, List.setIfInBounds_toArray, List.set_cons_zero, List.set_cons_succ, i64_w, i32_w]
          rfl
        exact norm_ (by simp only [putAll, Act.put, List.setIfInBounds_toArray, List.set_cons_zero, List.set_cons_succ]) (hCont ((some ⟨g5, 0, none⟩, 1), (A9, c9), (A13, c13)) _ ⟨R5.out.perm (fun p hp => by simp only [List.mem_cons, List.not_mem_nil, or_false] at hp ⊢; rcases hp with rfl | rfl | rfl <;> simp)⟩)
  rintro ⟨⟨A5, c5⟩, ⟨A9, c9⟩, ⟨A13, c13⟩⟩ w8 R8
  simp only at R8
  have hHeld : w8.cell? ⟨g1, 0, none⟩ = some (.int .u8 r.f0) ∧ w8.cell? ⟨g1, 1, none⟩ = some (.int .u16 r.f1) ∧ w8.cell? ⟨g1, 2, none⟩ = some (.int .u16 r.f2) := ⟨(R8.out.cell HC0.out), (R8.out.cell HC1.out), (R8.out.cell HC2.out)⟩
  refine norm_ (a' := ?_) ?_ ?_
  rotate_left
  · simp only [putAll, Act.put, List.setIfInBounds_toArray, List.set_cons_zero, List.set_cons_succ]
    rfl
  refine one_ (i := 11) (N := some 14) #[true, true, true, true, true, true, true, true, true, true, true, true, false, false] rfl rfl (by kernel_rfl) (by decide) (fun K hK => ?_)
  refine rs_litV (cs := #[.slice A5 1 c5, .slice A9 n1.length c9, .slice A13 n2.length c13]) (t := 30) (n := 3) R8 (by rfl) 14 rfl (by first | (go_simp; done) | (go_simp; rfl)) ?_
  intro g14 w14 hv_ R14
  have HV := Aside0.mk hv_
  clear hv_
  refine hK.out _ _ ⟨(R14.out.cell HC0.out), (R14.out.cell HC1.out), (R14.out.cell HC2.out)⟩ (fun hHeld => ?_)
  clear hK K
  refine norm_ (a' := ?_) ?_ ?_
  rotate_left
  · show Act.put _ (some 14) _ = _
    simp only [Act.put, List.setIfInBounds_toArray, List.set_cons_zero, List.set_cons_succ, i64_w, i32_w]
    rfl
  refine one_ (i := 12) (N := some 15) #[true, true, true, true, true, true, true, true, true, true, true, true, true, false] rfl rfl (by kernel_rfl) (by decide) (fun K hK => ?_)
  refine goes_ Try.func21 (by kernel_rfl) rfl #[.slice (some ⟨g14, 0, none⟩) 3 3] (by rfl) rfl rfl (by simp only [List.map_toArray, List.map_cons, List.map_nil]; rfl) ?_
  with_reducible refine (cat3 (n1 := n1) (n2 := n2) (x := [r.f0]) HV.out (R14.out.rows (A5, c5, [r.f0]) (by simp)).2 (R14.out.rows (A9, c9, n1) (by simp)).2 (R14.out.rows (A13, c13, n2) (by simp)).2 (by simp) (by simp) HL1.out HL2.out).mono ?_
  rintro z9 w15 ⟨A15, c15, rfl, h1_, h2_, hb_⟩
  have R15 := Aside0.mk (R14.out.keep hb_)
  have HO := Aside0.mk h1_
  have HNW := Aside0.mk (fun k hk => Nat.le_trans R14.out.below.size (h2_ k hk))
  clear h1_ h2_ hb_
  refine ⟨_, rfl, ?_⟩
  refine hK.out _ _ ⟨(R15.out.cell HC0.out), (R15.out.cell HC1.out), (R15.out.cell HC2.out)⟩ (fun hHeld => ?_)
  clear hK K
  refine norm_ (a' := ?_) ?_ ?_
  rotate_left
  · show Act.put _ (some 15) _ = _
    simp only [Act.put, List.setIfInBounds_toArray, List.set_cons_zero, List.set_cons_succ, i64_w, i32_w]
    rfl
  refine pure_ (i := 13) (N := some 2) (v := ?_) (a' := ?_) #[true, true, true, true, true, true, true, true, true, true, true, true, true, true] rfl rfl (by kernel_rfl) (fun _ _ _ h => h) (Or.inl ⟨by rfl, ?_⟩) ?_ ?_
  rotate_left
  · intro w'
    go_simp
    with_reducible rfl
  rotate_left
  · simp only [Act.put, List.setIfInBounds_toArray, List.set_cons_zero, List.set_cons_succ, i64_w, i32_w]
    rfl
  refine done_ (by kernel_rfl) ?_

  go_wp2
  go_ret
  exact ⟨A15, c15, by first | rfl | (simp; done) | (simp; omega), HO.out, fun k hk => Nat.le_trans HS.out.size (HNW.out k hk), HS.out.trans (R15.out.below.mono HS.out.size)⟩

theorem lr_len (r : S50) : (lr r).length ≤ 2000 := by
  unfold lr
  have h1 := (num_len (r.f1 % 4294967296)).2
  have h2 := (num_len (r.f2 % 4294967296)).2
  simp only [List.length_append, List.length_cons, List.length_nil]
  omega

set_option maxRecDepth 100000 in
set_option maxHeartbeats 4000000 in
theorem layR_calls (A : Option Addr) (c : Nat) (xs : List S50) (w : World) (hC : Kd.C k50 w A xs.length xs) (hl : xs.length ≤ 1000) :
    Calls Try.prog 25 #[.slice A xs.length c, .func (.func 26) #[] #[]] w fun z w' => ∃ A' c', z = .returned (.slice A' (num (xs.length : Int) ++ xs.flatMap lr).length c') ∧ (Ow (Kd.int .u8) 5 A' c' (num (xs.length : Int) ++ xs.flatMap lr)).pred w' ∧ (∀ k, (Ow (Kd.int .u8) 5 A' c' (num (xs.length : Int) ++ xs.flatMap lr)).foot k → w.heap.size ≤ k) ∧ Below w.heap.size w w' := by
  have S := Aside0.mk (St.start w)
  have HC := Aside0.mk hC
  have hnl := (num_len (xs.length : Int)).2
  have hV := var_up (xs.length : Int) (by omega) (by omega) (Nat.le_refl 5)
  obtain ⟨hd, hhd⟩ : ∃ l, num (xs.length : Int) = l := ⟨_, rfl⟩
  rw [hhd] at hV hnl ⊢
  have HV := Aside0.mk hV
  clear hC hV hhd
  go_enter Try.func25, Try.ntmps25
  go_wp2_with (first | (refine ev_loads (vs := [_, _, _]) ?_ rfl m50 rfl (olds_ S HH.out) ?_; (first | exact want0 rfl | exact want1 rfl rfl rfl rfl)) | (((with_reducible refine gate_builtin (b := .append) (xs := #[.tmp 18, .tmp 21]) rfl ?_); at_builtin; refine ev_rows (h1 := fun _ => rfl) (0 : Int) (.tmp 18) (.tmp 21) 30 (.int .u8 0) 1 (n := acc.length) (xs := acc) (ys := lr x) S rfl rfl Try.underlying30 info5 rfl (by decide) rfl rfl (by repeat (first | exact Spot.here _ _ | apply Spot.there)) rfl (Ow.reads (pred_at S.out (a := Ow (Kd.int .u8) 5 A21 c21 (lr x)) (by repeat (first | exact Spot.here _ _ | apply Spot.there)))) hcap ?_; intro A22 c22 w_ S_; clear S; have S := S_; clear S_)) | (refine ev_owns (vs := [_, _, _]) S ?_ rfl m50 rfl (by repeat (first | exact Spot.here _ _ | apply Spot.there)) (by exact rfl) ?_; (first | exact want0 rfl | exact want1 rfl rfl rfl rfl)) | ((with_reducible refine gate_dst (N := 7) rfl ?_); refine ev_alloc #[.int .u8 0, .int .u16 0, .int .u16 0] rfl S ?_ 7 rfl rfl z50 ?_; (first | exact want0 rfl | exact want1 rfl rfl rfl rfl); intro g7 w7 S_; clear S; have S := S_; clear S_) | (refine ev_puts S ?_ rfl rfl s50 rfl rfl (by repeat (first | exact Spot.here _ _ | apply Spot.there)) rfl ?_ ?_ ?_; (first | exact want0 rfl | exact want1 rfl rfl rfl rfl); rfl; rfl; intro w_ S_; simp only [putAt, List.set_cons_zero, List.set_cons_succ] at S_; clear S; have S := S_; clear S_) | (go_at_call 60; (with_reducible refine (wire_Var.calls 5 (xs.length : Int) hd _ HV.out).mono ?_); rintro z_ w_ ⟨v0, rfl, hR, hb_⟩; obtain ⟨A11, c11, rfl, _⟩ := Kd.R_reads hR; have S_ := Aside0.mk (St.add S.out hb_ (Ow (Kd.int .u8) 5 A11 c11 hd) (Ow.mk rfl hR) (Ow.new hR)); clear hR hb_; clear S; have S := S_; clear S_) | (go_at_call 26; (with_reducible refine (reloc_calls x _).mono ?_); rintro z_ w_ ⟨A21, c21, rfl, h1_, h2_, hb_⟩; have S_ := Aside0.mk (St.add S.out hb_ _ h1_ h2_); clear h1_ h2_ hb_; clear S; have S := S_; clear S_))
  go_loopw [5, 14] (fun v5 v14 wr => ∃ (i : Nat) (A' : Option Addr) (c' : Nat) (acc : List Int), v5 = .slice A' acc.length c' ∧ v14 = .int .i64 i ∧ i ≤ xs.length ∧ acc.length ≤ 5 + i * 2000 ∧ Aside0 (acc = hd ++ (xs.take i).flatMap lr) ∧ Aside0 (St w.heap.size w wr [Ow (Kd.int .u8) 5 A' c' acc])) (fun _ v14 _ => xs.length - (intOf v14).toNat)
  case atStart => exact ⟨0, A11, c11, hd, rfl, rfl, Nat.zero_le _, by omega, ⟨by simp⟩, S⟩
  case round =>
    clear S
    obtain ⟨i, A', c', acc, rfl, rfl, hi, hal, HA, S⟩ := hrel
    by_cases hlt : i < xs.length
    · have hd2 : decide ((i : Int) < (xs.length : Int)) = true := decide_eq_true (by omega)
      have hil : (i : Int) < (xs.length : Int) := by omega
      have hi0 : (0 : Int) ≤ (i : Int) := by omega
      have hb0 : i + 1 ≤ xs.length := hlt
      have HB1 := Aside0.mk (show xs.length - (i + 1) < xs.length - i by omega)
      have hpt : (xs.take (i + 1)).flatMap lr = (xs.take i).flatMap lr ++ lr (xs.getD i z50) := by
        rw [List.take_succ_eq_append_getElem hlt, List.flatMap_append, List.getD_eq_getElem?_getD, List.getElem?_eq_getElem hlt]
        simp
      obtain ⟨ad, cs, rfl, hK, hH⟩ := has_of HC.out z50 i hlt
      have hpl : True := trivial
      obtain ⟨x, hx⟩ : ∃ x, xs.getD i z50 = x := ⟨_, rfl⟩
      rw [hx] at hK hpt
      try rw [hx] at hpl
      obtain rfl := k50_open hK
      have hpl := lr_len x
      have HH := Aside0.mk (show Has w (ad.add (i * 3)) _ from hH)
      clear hH
      have HA2 : Aside0 (acc ++ lr x = hd ++ (xs.take (i + 1)).flatMap lr) := ⟨by rw [hpt, HA.out, List.append_assoc]⟩
      have hcap : (acc.length + (lr x).length) * 1 ≤ 140737488355328 := by omega
      have hal2 : (acc ++ lr x).length ≤ 5 + (i + 1) * 2000 := by rw [List.length_append]; omega
      clear hpt hx
      have hi1 : wrap64 ((i : Int) + 1) = ((i + 1 : Nat) : Int) := w64 i (by omega)
      go_wp2_with (first | (refine ev_loads (vs := [_, _, _]) ?_ rfl m50 rfl (olds_ S HH.out) ?_; (first | exact want0 rfl | exact want1 rfl rfl rfl rfl)) | (((with_reducible refine gate_builtin (b := .append) (xs := #[.tmp 18, .tmp 21]) rfl ?_); at_builtin; refine ev_rows (h1 := fun _ => rfl) (0 : Int) (.tmp 18) (.tmp 21) 30 (.int .u8 0) 1 (n := acc.length) (xs := acc) (ys := lr x) S rfl rfl Try.underlying30 info5 rfl (by decide) rfl rfl (by repeat (first | exact Spot.here _ _ | apply Spot.there)) rfl (Ow.reads (pred_at S.out (a := Ow (Kd.int .u8) 5 A21 c21 (lr x)) (by repeat (first | exact Spot.here _ _ | apply Spot.there)))) hcap ?_; intro A22 c22 w_ S_; clear S; have S := S_; clear S_)) | (refine ev_owns (vs := [_, _, _]) S ?_ rfl m50 rfl (by repeat (first | exact Spot.here _ _ | apply Spot.there)) (by exact rfl) ?_; (first | exact want0 rfl | exact want1 rfl rfl rfl rfl)) | ((with_reducible refine gate_dst (N := 7) rfl ?_); refine ev_alloc #[.int .u8 0, .int .u16 0, .int .u16 0] rfl S ?_ 7 rfl rfl z50 ?_; (first | exact want0 rfl | exact want1 rfl rfl rfl rfl); intro g7 w7 S_; clear S; have S := S_; clear S_) | (refine ev_puts S ?_ rfl rfl s50 rfl rfl (by repeat (first | exact Spot.here _ _ | apply Spot.there)) rfl ?_ ?_ ?_; (first | exact want0 rfl | exact want1 rfl rfl rfl rfl); rfl; rfl; intro w_ S_; simp only [putAt, List.set_cons_zero, List.set_cons_succ] at S_; clear S; have S := S_; clear S_) | (go_at_call 60; (with_reducible refine (wire_Var.calls 5 (xs.length : Int) hd _ HV.out).mono ?_); rintro z_ w_ ⟨v0, rfl, hR, hb_⟩; obtain ⟨A11, c11, rfl, _⟩ := Kd.R_reads hR; have S_ := Aside0.mk (St.add S.out hb_ (Ow (Kd.int .u8) 5 A11 c11 hd) (Ow.mk rfl hR) (Ow.new hR)); clear hR hb_; clear S; have S := S_; clear S_) | (go_at_call 26; (with_reducible refine (reloc_calls x _).mono ?_); rintro z_ w_ ⟨A21, c21, rfl, h1_, h2_, hb_⟩; have S_ := Aside0.mk (St.add S.out hb_ _ h1_ h2_); clear h1_ h2_ hb_; clear S; have S := S_; clear S_))
      refine ⟨⟨i + 1, A22, c22, acc ++ lr x, by rw [List.length_append], by simp [hi1], hb0, hal2, HA2, ⟨S.out.drop ((List.sublist_cons_self _ _).trans (List.sublist_cons_self _ _))⟩⟩, ?_⟩
      simpa [intOf, hi1] using HB1.out
    · obtain rfl : i = xs.length := by omega
      have hd2 : decide ((xs.length : Int) < (xs.length : Int)) = false := decide_eq_false (by omega)
      have ha : acc = hd ++ xs.flatMap lr := by rw [HA.out, List.take_length]
      subst ha
      clear HA
      go_wp2_with (first | (refine ev_loads (vs := [_, _, _]) ?_ rfl m50 rfl (olds_ S HH.out) ?_; (first | exact want0 rfl | exact want1 rfl rfl rfl rfl)) | (((with_reducible refine gate_builtin (b := .append) (xs := #[.tmp 18, .tmp 21]) rfl ?_); at_builtin; refine ev_rows (h1 := fun _ => rfl) (0 : Int) (.tmp 18) (.tmp 21) 30 (.int .u8 0) 1 (n := acc.length) (xs := acc) (ys := lr x) S rfl rfl Try.underlying30 info5 rfl (by decide) rfl rfl (by repeat (first | exact Spot.here _ _ | apply Spot.there)) rfl (Ow.reads (pred_at S.out (a := Ow (Kd.int .u8) 5 A21 c21 (lr x)) (by repeat (first | exact Spot.here _ _ | apply Spot.there)))) hcap ?_; intro A22 c22 w_ S_; clear S; have S := S_; clear S_)) | (refine ev_owns (vs := [_, _, _]) S ?_ rfl m50 rfl (by repeat (first | exact Spot.here _ _ | apply Spot.there)) (by exact rfl) ?_; (first | exact want0 rfl | exact want1 rfl rfl rfl rfl)) | ((with_reducible refine gate_dst (N := 7) rfl ?_); refine ev_alloc #[.int .u8 0, .int .u16 0, .int .u16 0] rfl S ?_ 7 rfl rfl z50 ?_; (first | exact want0 rfl | exact want1 rfl rfl rfl rfl); intro g7 w7 S_; clear S; have S := S_; clear S_) | (refine ev_puts S ?_ rfl rfl s50 rfl rfl (by repeat (first | exact Spot.here _ _ | apply Spot.there)) rfl ?_ ?_ ?_; (first | exact want0 rfl | exact want1 rfl rfl rfl rfl); rfl; rfl; intro w_ S_; simp only [putAt, List.set_cons_zero, List.set_cons_succ] at S_; clear S; have S := S_; clear S_) | (go_at_call 60; (with_reducible refine (wire_Var.calls 5 (xs.length : Int) hd _ HV.out).mono ?_); rintro z_ w_ ⟨v0, rfl, hR, hb_⟩; obtain ⟨A11, c11, rfl, _⟩ := Kd.R_reads hR; have S_ := Aside0.mk (St.add S.out hb_ (Ow (Kd.int .u8) 5 A11 c11 hd) (Ow.mk rfl hR) (Ow.new hR)); clear hR hb_; clear S; have S := S_; clear S_) | (go_at_call 26; (with_reducible refine (reloc_calls x _).mono ?_); rintro z_ w_ ⟨A21, c21, rfl, h1_, h2_, hb_⟩; have S_ := Aside0.mk (St.add S.out hb_ _ h1_ h2_); clear h1_ h2_ hb_; clear S; have S := S_; clear S_))
      go_ret
      exact ⟨_, _, rfl, pred_at S.out (by repeat (first | exact Spot.here _ _ | apply Spot.there)), new_at S.out (by repeat (first | exact Spot.here _ _ | apply Spot.there)), S.out.below⟩

def magic : List Int := [66, 85, 68, 49]
def texts (l : List ByteArray) : List Int := num (l.length : Int) ++ l.flatMap txt
def rels (l : List S50) : List Int := num (l.length : Int) ++ l.flatMap lr
/-- The bytes of a module. -/
def enc (nm : ByteArray) (ex im : List ByteArray) (co da : List Int) (re : List S50) : List Int := magic ++ (txt nm ++ (texts ex ++ (texts im ++ (wds co ++ (wds da ++ rels re)))))
end Go.Proofs.Ytkoimdgpicmakaa.Ob
