/- slices.IndexFunc, slices.ContainsFunc at []string, by what the function tells. -/
import Derived.Test.YtaomemhnjpemiaaGr
import Derived.Test.YtaomemhnjpemiaaZMp
namespace Go.Proofs.Ytaomemhnjpemiaa.Mp
open Go Go.Maps Go.RowKit Go.Proofs.Ytaomemhnjpemiaa.PB Go.Proofs.Ytaomemhnjpemiaa.Doc Go.Proofs.Ytaomemhnjpemiaa.Sep Go.Proofs.Ytaomemhnjpemiaa.Ev Go.Proofs.Ytaomemhnjpemiaa.Ty Go.Proofs.YtaomemhnjpemiaaW.PrintWords Go.Proofs.YtaomemhnjpemiaaW.PrintLast Go.Proofs.YtaomemhnjpemiaaW.PrintMore
set_option linter.unusedVariables false
set_option linter.unusedSimpArgs false

def ix (p : ByteArray → Bool) : List ByteArray → Nat → Int
 | [], _ => -1
 | x :: r, i => if p x then (i : Int) else ix p r (i + 1)
theorem ix_drop (p : ByteArray → Bool) (xs : List ByteArray) (i : Nat) (hi : i < xs.length) : ix p (xs.drop i) i = if p (xs.getD i ByteArray.empty) then (i : Int) else ix p (xs.drop (i + 1)) (i + 1) := by
 rw [List.drop_eq_getElem_cons hi, List.getD_eq_getElem?_getD, List.getElem?_eq_getElem hi]
 rfl
theorem ix_none {p : ByteArray → Bool} : ∀ {xs : List ByteArray} {i : Nat}, (∀ x ∈ xs, p x = false) → ix p xs i = -1
 | [], _, _ => rfl
 | x :: r, i, h => by rw [ix, if_neg (by simp [h x (by simp)])]; exact ix_none (fun y hy => h y (by simp [hy]))
theorem ix_some {p : ByteArray → Bool} : ∀ {xs : List ByteArray} {i : Nat}, (∃ x ∈ xs, p x = true) → ∃ k : Nat, ix p xs i = ((i + k : Nat) : Int) ∧ k < xs.length ∧ xs.find? p = xs[k]?
 | [], _, h => by obtain ⟨x, hx, _⟩ := h; cases hx
 | x :: r, i, h => by
  by_cases hp : p x = true
  ·exact ⟨0, by rw [ix, if_pos hp]; simp, by simp, by simp [List.find?, hp]⟩
  ·obtain ⟨k, h1, h2, h3⟩ := ix_some (p := p) (xs := r) (i := i + 1) (by
    obtain ⟨y, hy, hpy⟩ := h
    rcases List.mem_cons.1 hy with rfl | hy
    ·exact absurd hpy hp
    ·exact ⟨y, hy, hpy⟩)
   refine ⟨k + 1, by rw [ix, if_neg hp, h1]; congr 1; omega, by simp; omega, ?_⟩
   rw [List.find?_cons_of_neg hp, h3]; simp
theorem ix_any {p : ByteArray → Bool} (xs : List ByteArray) : decide (ix p xs 0 ≥ 0) = xs.any p := by
 by_cases h : ∃ x ∈ xs, p x = true
 ·obtain ⟨k, h1, _⟩ := ix_some (i := 0) h
  rw [h1, List.any_eq_true.2 h]
  exact decide_eq_true (by omega)
 ·have h' : ∀ x ∈ xs, p x = false := fun x hx => by
   cases hp : p x with
   | false => rfl
   | true => exact absurd ⟨x, hx, hp⟩ h
  rw [ix_none h']
  have : xs.any p = false := by
   cases ha : xs.any p with
   | false => rfl
   | true => exact absurd (List.any_eq_true.1 ha) h
  rw [this]; rfl

set_option maxRecDepth 100000 in
set_option maxHeartbeats 4000000 in
theorem index55_calls (g1 : Nat) (p : ByteArray → Bool) (A : Option Addr) (c : Nat) (xs : List ByteArray) (w : World) (hC : Kd.C Kd.string w A xs.length xs) (hk : ∀ x ∈ xs, ∀ W', Below w.heap.size w W' → Calls Try.prog 55 #[.string x, .pointer (some ⟨g1, 0, none⟩)] W' fun z w' => z = .returned (.bool (p x)) ∧ Below W'.heap.size W' w') :
  Calls Try.prog 35 #[.slice A xs.length c, .func (.func 55) #[] #[.pointer (some ⟨g1, 0, none⟩)]] w fun z w' => z = .returned (.int .i64 (ix p xs 0)) ∧ Below w.heap.size w w' := by
 have HC := Aside0.mk hC
 have HK := Aside0.mk hk
 have S := Aside0.mk (St.start w)
 have hm : xs.length ≤ 9223372036854775807 := hC.2.1
 clear hC hk
 go_enter Try.func35, Try.ntmps35
 go_wp2
 go_loopw [5, 8] (fun v5 v8 wr => ∃ (i : Nat), v8 = .int .i64 i ∧ i ≤ xs.length ∧ Aside0 (ix p (xs.drop i) i = ix p xs 0) ∧ Aside0 (St w.heap.size w wr [])) (fun _ v8 _ => xs.length - (intOf v8).toNat)
 case atStart => exact ⟨0, rfl, Nat.zero_le _, ⟨by simp⟩, S⟩
 case round =>
  clear S
  obtain ⟨i, rfl, hi, HI, S⟩ := hrel
  by_cases hlt : i < xs.length
  ·have hd2 : decide ((i : Int) < (xs.length : Int)) = true := decide_eq_true (by omega)
   have hil : (i : Int) < (xs.length : Int) := by omega
   have hi0 : (0 : Int) ≤ (i : Int) := by omega
   have HJ := Aside0.mk (ix_drop p xs i hlt)
   obtain ⟨ad, rfl, hX⟩ := strC_drop HC.out i hlt
   have HX2 := Aside0.mk (show xs.getD i ByteArray.empty ∈ xs by simp [hlt])
   generalize xs.getD i ByteArray.empty = x at *
   have HX := Aside0.mk hX
   clear hX
   cases hp : p x with
   | true =>
    have HP_ := Aside0.mk hp
    go_wp2_with (first | (refine ev_load1 ?_ rfl o9 rfl (old_ S HX.out) ?_; (first | exact want0 rfl | exact want1 rfl rfl rfl rfl)) | (go_at_call 55; have c_ := HK.out x HX2.out _ S.out.below; rw [HP_.out] at c_; (with_reducible refine c_.mono ?_); clear c_; rintro z_ w_ ⟨rfl, hb_⟩; have S_ := Aside0.mk (S.out.keep hb_); clear hb_; clear S; have S := S_; clear S_) | go_in)
    go_ret
    refine ⟨?_, S.out.below⟩
    have h1 := HI.out
    rw [HJ.out, if_pos hp] at h1
    rw [← h1]
    rfl
   | false =>
    have HP_ := Aside0.mk hp
    go_wp2_with (first | (refine ev_load1 ?_ rfl o9 rfl (old_ S HX.out) ?_; (first | exact want0 rfl | exact want1 rfl rfl rfl rfl)) | (go_at_call 55; have c_ := HK.out x HX2.out _ S.out.below; rw [HP_.out] at c_; (with_reducible refine c_.mono ?_); clear c_; rintro z_ w_ ⟨rfl, hb_⟩; have S_ := Aside0.mk (S.out.keep hb_); clear hb_; clear S; have S := S_; clear S_) | go_in)
    have hi1 : wrap64 ((i : Int) + 1) = ((i + 1 : Nat) : Int) := by unfold wrap64; omega
    refine ⟨⟨i + 1, by simp [hi1], by omega, ?_, S⟩, ?_⟩
    ·have h1 := HI.out
     rw [HJ.out, if_neg (by simp [hp])] at h1
     exact ⟨h1⟩
    ·simp [intOf, hi1]; omega
  ·obtain rfl : i = xs.length := by omega
   have hd2 : decide ((xs.length : Int) < (xs.length : Int)) = false := decide_eq_false (by omega)
   go_wp2
   go_ret
   refine ⟨?_, S.out.below⟩
   rw [← HI.out, List.drop_length]; rfl

set_option maxHeartbeats 4000000 in
theorem contains55_calls (g1 : Nat) (p : ByteArray → Bool) (A : Option Addr) (c : Nat) (xs : List ByteArray) (w : World) (hC : Kd.C Kd.string w A xs.length xs) (hk : ∀ x ∈ xs, ∀ W', Below w.heap.size w W' → Calls Try.prog 55 #[.string x, .pointer (some ⟨g1, 0, none⟩)] W' fun z w' => z = .returned (.bool (p x)) ∧ Below W'.heap.size W' w') :
  Calls Try.prog 41 #[.slice A xs.length c, .func (.func 55) #[] #[.pointer (some ⟨g1, 0, none⟩)]] w fun z w' => z = .returned (.bool (xs.any p)) ∧ Below w.heap.size w w' := by
 have HC := Aside0.mk (index55_calls g1 p A c xs w hC hk)
 have HA := Aside0.mk (ix_any (p := p) xs)
 clear hC hk
 generalize ix p xs 0 = r at *
 generalize xs.any p = b at *
 have hr : decide (r ≥ 0) = b := HA.out
 have S := Aside0.mk (St.start w)
 go_enter Try.func41, Try.ntmps41
 go_wp2_with (first | (go_at_call 35; (with_reducible refine HC.out.mono ?_); rintro z_ w_ ⟨rfl, hb_⟩; have hb2_ := Aside0.mk hb_; clear hb_) | go_in)
 go_ret
 exact ⟨by first | rfl | rw [hr], hb2_.out⟩

set_option maxRecDepth 100000 in
set_option maxHeartbeats 4000000 in
theorem index42_calls (g1 g2 : Nat) (p : ByteArray → Bool) (A : Option Addr) (c : Nat) (xs : List ByteArray) (w : World) (hC : Kd.C Kd.string w A xs.length xs) (hk : ∀ x ∈ xs, ∀ W', Below w.heap.size w W' → Calls Try.prog 42 #[.string x, .pointer (some ⟨g1, 0, none⟩), .pointer (some ⟨g2, 0, none⟩)] W' fun z w' => z = .returned (.bool (p x)) ∧ Below W'.heap.size W' w') :
  Calls Try.prog 35 #[.slice A xs.length c, .func (.func 42) #[] #[.pointer (some ⟨g1, 0, none⟩), .pointer (some ⟨g2, 0, none⟩)]] w fun z w' => z = .returned (.int .i64 (ix p xs 0)) ∧ Below w.heap.size w w' := by
 have HC := Aside0.mk hC
 have HK := Aside0.mk hk
 have S := Aside0.mk (St.start w)
 have hm : xs.length ≤ 9223372036854775807 := hC.2.1
 clear hC hk
 go_enter Try.func35, Try.ntmps35
 go_wp2
 go_loopw [5, 8] (fun v5 v8 wr => ∃ (i : Nat), v8 = .int .i64 i ∧ i ≤ xs.length ∧ Aside0 (ix p (xs.drop i) i = ix p xs 0) ∧ Aside0 (St w.heap.size w wr [])) (fun _ v8 _ => xs.length - (intOf v8).toNat)
 case atStart => exact ⟨0, rfl, Nat.zero_le _, ⟨by simp⟩, S⟩
 case round =>
  clear S
  obtain ⟨i, rfl, hi, HI, S⟩ := hrel
  by_cases hlt : i < xs.length
  ·have hd2 : decide ((i : Int) < (xs.length : Int)) = true := decide_eq_true (by omega)
   have hil : (i : Int) < (xs.length : Int) := by omega
   have hi0 : (0 : Int) ≤ (i : Int) := by omega
   have HJ := Aside0.mk (ix_drop p xs i hlt)
   obtain ⟨ad, rfl, hX⟩ := strC_drop HC.out i hlt
   have HX2 := Aside0.mk (show xs.getD i ByteArray.empty ∈ xs by simp [hlt])
   generalize xs.getD i ByteArray.empty = x at *
   have HX := Aside0.mk hX
   clear hX
   cases hp : p x with
   | true =>
    have HP_ := Aside0.mk hp
    go_wp2_with (first | (refine ev_load1 ?_ rfl o9 rfl (old_ S HX.out) ?_; (first | exact want0 rfl | exact want1 rfl rfl rfl rfl)) | (go_at_call 42; have c_ := HK.out x HX2.out _ S.out.below; rw [HP_.out] at c_; (with_reducible refine c_.mono ?_); clear c_; rintro z_ w_ ⟨rfl, hb_⟩; have S_ := Aside0.mk (S.out.keep hb_); clear hb_; clear S; have S := S_; clear S_) | go_in)
    go_ret
    refine ⟨?_, S.out.below⟩
    have h1 := HI.out
    rw [HJ.out, if_pos hp] at h1
    rw [← h1]
    rfl
   | false =>
    have HP_ := Aside0.mk hp
    go_wp2_with (first | (refine ev_load1 ?_ rfl o9 rfl (old_ S HX.out) ?_; (first | exact want0 rfl | exact want1 rfl rfl rfl rfl)) | (go_at_call 42; have c_ := HK.out x HX2.out _ S.out.below; rw [HP_.out] at c_; (with_reducible refine c_.mono ?_); clear c_; rintro z_ w_ ⟨rfl, hb_⟩; have S_ := Aside0.mk (S.out.keep hb_); clear hb_; clear S; have S := S_; clear S_) | go_in)
    have hi1 : wrap64 ((i : Int) + 1) = ((i + 1 : Nat) : Int) := by unfold wrap64; omega
    refine ⟨⟨i + 1, by simp [hi1], by omega, ?_, S⟩, ?_⟩
    ·have h1 := HI.out
     rw [HJ.out, if_neg (by simp [hp])] at h1
     exact ⟨h1⟩
    ·simp [intOf, hi1]; omega
  ·obtain rfl : i = xs.length := by omega
   have hd2 : decide ((xs.length : Int) < (xs.length : Int)) = false := decide_eq_false (by omega)
   go_wp2
   go_ret
   refine ⟨?_, S.out.below⟩
   rw [← HI.out, List.drop_length]; rfl

set_option maxHeartbeats 4000000 in
theorem contains42_calls (g1 g2 : Nat) (p : ByteArray → Bool) (A : Option Addr) (c : Nat) (xs : List ByteArray) (w : World) (hC : Kd.C Kd.string w A xs.length xs) (hk : ∀ x ∈ xs, ∀ W', Below w.heap.size w W' → Calls Try.prog 42 #[.string x, .pointer (some ⟨g1, 0, none⟩), .pointer (some ⟨g2, 0, none⟩)] W' fun z w' => z = .returned (.bool (p x)) ∧ Below W'.heap.size W' w') :
  Calls Try.prog 41 #[.slice A xs.length c, .func (.func 42) #[] #[.pointer (some ⟨g1, 0, none⟩), .pointer (some ⟨g2, 0, none⟩)]] w fun z w' => z = .returned (.bool (xs.any p)) ∧ Below w.heap.size w w' := by
 have HC := Aside0.mk (index42_calls g1 g2 p A c xs w hC hk)
 have HA := Aside0.mk (ix_any (p := p) xs)
 clear hC hk
 generalize ix p xs 0 = r at *
 generalize xs.any p = b at *
 have hr : decide (r ≥ 0) = b := HA.out
 have S := Aside0.mk (St.start w)
 go_enter Try.func41, Try.ntmps41
 go_wp2_with (first | (go_at_call 35; (with_reducible refine HC.out.mono ?_); rintro z_ w_ ⟨rfl, hb_⟩; have hb2_ := Aside0.mk hb_; clear hb_) | go_in)
 go_ret
 exact ⟨by first | rfl | rw [hr], hb2_.out⟩

set_option maxRecDepth 100000 in
set_option maxHeartbeats 4000000 in
theorem index36_calls (g1 g2 : Nat) (p : ByteArray → Bool) (A : Option Addr) (c : Nat) (xs : List ByteArray) (w : World) (hC : Kd.C Kd.string w A xs.length xs) (hk : ∀ x ∈ xs, ∀ W', Below w.heap.size w W' → Calls Try.prog 36 #[.string x, .pointer (some ⟨g1, 0, none⟩), .pointer (some ⟨g2, 0, none⟩)] W' fun z w' => z = .returned (.bool (p x)) ∧ Below W'.heap.size W' w') :
  Calls Try.prog 35 #[.slice A xs.length c, .func (.func 36) #[] #[.pointer (some ⟨g1, 0, none⟩), .pointer (some ⟨g2, 0, none⟩)]] w fun z w' => z = .returned (.int .i64 (ix p xs 0)) ∧ Below w.heap.size w w' := by
 have HC := Aside0.mk hC
 have HK := Aside0.mk hk
 have S := Aside0.mk (St.start w)
 have hm : xs.length ≤ 9223372036854775807 := hC.2.1
 clear hC hk
 go_enter Try.func35, Try.ntmps35
 go_wp2
 go_loopw [5, 8] (fun v5 v8 wr => ∃ (i : Nat), v8 = .int .i64 i ∧ i ≤ xs.length ∧ Aside0 (ix p (xs.drop i) i = ix p xs 0) ∧ Aside0 (St w.heap.size w wr [])) (fun _ v8 _ => xs.length - (intOf v8).toNat)
 case atStart => exact ⟨0, rfl, Nat.zero_le _, ⟨by simp⟩, S⟩
 case round =>
  clear S
  obtain ⟨i, rfl, hi, HI, S⟩ := hrel
  by_cases hlt : i < xs.length
  ·have hd2 : decide ((i : Int) < (xs.length : Int)) = true := decide_eq_true (by omega)
   have hil : (i : Int) < (xs.length : Int) := by omega
   have hi0 : (0 : Int) ≤ (i : Int) := by omega
   have HJ := Aside0.mk (ix_drop p xs i hlt)
   obtain ⟨ad, rfl, hX⟩ := strC_drop HC.out i hlt
   have HX2 := Aside0.mk (show xs.getD i ByteArray.empty ∈ xs by simp [hlt])
   generalize xs.getD i ByteArray.empty = x at *
   have HX := Aside0.mk hX
   clear hX
   cases hp : p x with
   | true =>
    have HP_ := Aside0.mk hp
    go_wp2_with (first | (refine ev_load1 ?_ rfl o9 rfl (old_ S HX.out) ?_; (first | exact want0 rfl | exact want1 rfl rfl rfl rfl)) | (go_at_call 36; have c_ := HK.out x HX2.out _ S.out.below; rw [HP_.out] at c_; (with_reducible refine c_.mono ?_); clear c_; rintro z_ w_ ⟨rfl, hb_⟩; have S_ := Aside0.mk (S.out.keep hb_); clear hb_; clear S; have S := S_; clear S_) | go_in)
    go_ret
    refine ⟨?_, S.out.below⟩
    have h1 := HI.out
    rw [HJ.out, if_pos hp] at h1
    rw [← h1]
    rfl
   | false =>
    have HP_ := Aside0.mk hp
    go_wp2_with (first | (refine ev_load1 ?_ rfl o9 rfl (old_ S HX.out) ?_; (first | exact want0 rfl | exact want1 rfl rfl rfl rfl)) | (go_at_call 36; have c_ := HK.out x HX2.out _ S.out.below; rw [HP_.out] at c_; (with_reducible refine c_.mono ?_); clear c_; rintro z_ w_ ⟨rfl, hb_⟩; have S_ := Aside0.mk (S.out.keep hb_); clear hb_; clear S; have S := S_; clear S_) | go_in)
    have hi1 : wrap64 ((i : Int) + 1) = ((i + 1 : Nat) : Int) := by unfold wrap64; omega
    refine ⟨⟨i + 1, by simp [hi1], by omega, ?_, S⟩, ?_⟩
    ·have h1 := HI.out
     rw [HJ.out, if_neg (by simp [hp])] at h1
     exact ⟨h1⟩
    ·simp [intOf, hi1]; omega
  ·obtain rfl : i = xs.length := by omega
   have hd2 : decide ((xs.length : Int) < (xs.length : Int)) = false := decide_eq_false (by omega)
   go_wp2
   go_ret
   refine ⟨?_, S.out.below⟩
   rw [← HI.out, List.drop_length]; rfl
end Go.Proofs.Ytaomemhnjpemiaa.Mp
/- Does a graph lack some of these names? -/
namespace Go.Proofs.Ytaomemhnjpemiaa.Mp
open Go Go.Maps Go.RowKit Go.Proofs.Ytaomemhnjpemiaa.PB Go.Proofs.Ytaomemhnjpemiaa.Doc Go.Proofs.Ytaomemhnjpemiaa.Sep Go.Proofs.Ytaomemhnjpemiaa.Ev Go.Proofs.Ytaomemhnjpemiaa.Ty Go.Proofs.YtaomemhnjpemiaaW.PrintWords Go.Proofs.YtaomemhnjpemiaaW.PrintLast Go.Proofs.YtaomemhnjpemiaaW.PrintMore
set_option linter.unusedVariables false
set_option linter.unusedSimpArgs false

theorem has2_calls {g bm n : Nat} {f : ByteArray → Option Nat} {G : List S73} {w : World} (h : Gr w g bm n f G) (s : ByteArray) (hs : s.size ≤ maxLen) :
  Calls Try.prog 15 #[.pointer (some ⟨g, 0, none⟩), .string s] w fun z w' => z = .returned (.bool (decide (s ∈ names G))) ∧ w' = w := by
 have := has_calls g bm n f s w h.cell h.map hs
 rw [h.dom s] at this
 exact this
set_option maxHeartbeats 4000000 in
theorem clo55_calls (g1 g bm n : Nat) (f : ByteArray → Option Nat) (G : List S73) (x : ByteArray) (w : World) (h : Gr w g bm n f G) (hx : x.size ≤ maxLen) (hc : w.cell? ⟨g1, 0, none⟩ = some (.pointer (some ⟨g, 0, none⟩))) :
  Calls Try.prog 55 #[.string x, .pointer (some ⟨g1, 0, none⟩)] w fun z w' => z = .returned (.bool (!decide (x ∈ names G))) ∧ Below w.heap.size w w' := by
 have HC := Aside0.mk (has2_calls h x hx)
 clear h
 generalize decide (x ∈ names G) = b at *
 go_enter Try.func55, Try.ntmps55
 go_wp2_with (first | (go_at_call 15; have c_ := HC.out; (with_reducible refine c_.mono ?_); clear c_; rintro z_ w_ ⟨rfl, rfl⟩) | go_in)
 go_ret
 exact ⟨rfl, Below.refl _ _⟩
set_option maxRecDepth 100000 in
set_option maxHeartbeats 4000000 in
theorem lacks_calls (g bm n : Nat) (f : ByteArray → Option Nat) (G : List S73) (A : Option Addr) (c : Nat) (xs : List ByteArray) (w : World) (h : Gr w g bm n f G) (hC : Kd.C Kd.string w A xs.length xs) (hsz : ∀ x ∈ xs, x.size ≤ maxLen) :
  Calls Try.prog 40 #[.pointer (some ⟨g, 0, none⟩), .slice A xs.length c] w fun z w' => z = .returned (.bool (xs.any (fun x => !decide (x ∈ names G)))) ∧ Below w.heap.size w w' := by
 have HC := Aside0.mk hC
 have HG := Aside0.mk h
 have HZ := Aside0.mk hsz
 have S := Aside0.mk (St.start w)
 clear hC h hsz
 obtain ⟨b, hb⟩ : ∃ b, b = xs.any (fun x => !decide (x ∈ names G)) := ⟨_, rfl⟩
 have HB := Aside0.mk hb
 rw [← hb]
 clear hb
 go_enter Try.func40, Try.ntmps40
 go_wp2_with (first | ((with_reducible refine gate_dst (N := 2) rfl ?_); refine ev_box1 S ?_ 2 rfl rfl rfl rfl ?_; (first | exact want0 rfl | exact want1 rfl rfl rfl rfl); intro g2 w2 S_; clear S; have S := S_; clear S_) | (go_at_call 41; have c_ := contains55_calls g2 (fun x => !decide (x ∈ names G)) A c xs _ (Kd.C_below HC.out S.out.below) (fun x hx W' hb => clo55_calls g2 g bm n f G x W' (HG.out.below (S.out.below.trans (hb.mono S.out.below.size))) (HZ.out x hx) ((hb.cell (World.block_lt_of_cell? _ _ (own_cell (g := g2) S (by repeat (first | exact Spot.here _ _ | apply Spot.there)) 0))).trans ((own_cell (g := g2) S (by repeat (first | exact Spot.here _ _ | apply Spot.there)) 0).trans rfl))); rw [← HB.out] at c_; (with_reducible refine c_.mono ?_); clear c_; rintro z_ w_ ⟨rfl, hb_⟩; have S_ := Aside0.mk (S.out.keep hb_); clear hb_; clear S; have S := S_; clear S_) | go_in)
 go_ret
 exact ⟨rfl, S.out.below⟩
end Go.Proofs.Ytaomemhnjpemiaa.Mp
/- Deps: what a node stands on. -/
namespace Go.Proofs.Ytaomemhnjpemiaa.Mp
open Go Go.Maps Go.RowKit Go.Proofs.Ytaomemhnjpemiaa.PB Go.Proofs.Ytaomemhnjpemiaa.Doc Go.Proofs.Ytaomemhnjpemiaa.Sep Go.Proofs.Ytaomemhnjpemiaa.Ev Go.Proofs.Ytaomemhnjpemiaa.Ty Go.Proofs.YtaomemhnjpemiaaW.PrintWords Go.Proofs.YtaomemhnjpemiaaW.PrintLast Go.Proofs.YtaomemhnjpemiaaW.PrintMore
set_option linter.unusedVariables false
set_option linter.unusedSimpArgs false

theorem below_one {w w' : World} {o : Obj} (h : Below (w.alloc o).heap.size (w.alloc o) w') : Below w.heap.size w w' := ((Below.refl _ w).alloc (Nat.le_refl _) o).trans (h.mono (by simp))
theorem set_sorted {w : World} {b m : Nat} {T : List ByteArray} (h : SetAt w b m T) (hm : m ≤ 1000000) (U : Up T) :
  Calls Try.prog 33 #[.func (.func 54) #[] #[.pointer (some ⟨w.heap.size, 0, none⟩)]] (w.alloc (.cells #[.map (some b)] 60)) fun z w' => ∃ A c, z = .returned (.slice A T.length c) ∧ Kd.R Kd.string 9 w' w.heap.size (fun _ => True) (.slice A T.length c) T ∧ Below w.heap.size w w' := by
 obtain ⟨D, h1, h2⟩ := h
 have hz := size_of h1
 refine (sorted38_calls b m D Rb w h1 (by unfold maxLen; omega) (by omega)).mono ?_
 rintro z w' ⟨v, ss, rfl, h3, h4, _, h5⟩
 have h6 := row_of h4
 rw [sorted_is h1 h3 U (fun s => (h2 s).1)] at h6
 obtain ⟨A, c, rfl, _⟩ := Kd.R_reads h6
 exact ⟨A, c, rfl, Kd.R_lower h6 (by simp), below_one h5⟩
theorem map_sorted {w : World} {b n : Nat} {f : ByteArray → Option Nat} {T : List ByteArray} (h : MapAt w b n f) (hm : n ≤ 1000000) (U : Up T) (hT : ∀ s, (f s).isSome = decide (s ∈ T)) :
  Calls Try.prog 33 #[.func (.func 53) #[] #[.pointer (some ⟨w.heap.size, 0, none⟩)]] (w.alloc (.cells #[.map (some b)] 50)) fun z w' => ∃ A c, z = .returned (.slice A T.length c) ∧ Kd.R Kd.string 9 w' w.heap.size (fun _ => True) (.slice A T.length c) T ∧ Below w.heap.size w w' := by
 obtain ⟨D, h1, h2⟩ := h
 have hz := size_of h1
 refine (sorted34_calls b n D Rm w h1 (by unfold maxLen; omega) (by omega)).mono ?_
 rintro z w' ⟨v, ss, rfl, h3, h4, _, h5⟩
 have h6 := row_of h4
 rw [sorted_is h1 h3 U (fun s => (h2 s).1.trans (hT s))] at h6
 obtain ⟨A, c, rfl, _⟩ := Kd.R_reads h6
 exact ⟨A, c, rfl, Kd.R_lower h6 (by simp), below_one h5⟩
set_option maxHeartbeats 4000000 in
theorem deps_calls (g bm n : Nat) (f : ByteArray → Option Nat) (G : List S73) (s : ByteArray) (w : World) (h : Gr w g bm n f G) (hs : s.size ≤ maxLen) :
  Calls Try.prog 14 #[.pointer (some ⟨g, 0, none⟩), .string s] w fun z w' => ∃ A c, z = .returned (.slice A (depsOf G s).length c) ∧ Kd.R Kd.string 9 w' w.heap.size (fun _ => True) (.slice A (depsOf G s).length c) (depsOf G s) ∧ Below w.heap.size w w' := by
 have hc := h.cell
 have HM := Aside0.mk h.map
 by_cases ha : s ∈ names G
 ·obtain ⟨c, m, hf, hm, hS⟩ := h.at ha
  have HF := Aside0.mk hf
  have HS := Aside0.mk (set_sorted hS hm (h.good.depsUp s))
  clear h ha hf hS
  generalize depsOf G s = T at *
  go_enter Try.func14, Try.ntmps14
  go_wp2_with (first | (at_lookup; refine wp_map_lookf _ rfl _ _ rfl bm n f rfl HM.out s rfl hs (some c) HF.out ?_) | (go_at_call 38; (with_reducible refine (keys38_calls _ _).mono ?_); rintro z_ w_ ⟨rfl, rfl⟩) | (go_at_call 33; (with_reducible refine HS.out.mono ?_); rintro z_ w_ ⟨A_, c_, rfl, h2_, h3_⟩; replace h2_ := Aside0.mk h2_; replace h3_ := Aside0.mk h3_) | go_in)
  go_ret
  exact ⟨_, _, rfl, h2_.out, h3_.out⟩
 ·have HF := Aside0.mk (h.at_none ha)
  have hD : depsOf G s = [] := depsOf_none (placeOf_none.2 ha)
  have HS := Aside0.mk (sorted_nil_calls w)
  rw [hD]
  clear h ha hD
  go_enter Try.func14, Try.ntmps14
  go_wp2_with (first | (at_lookup; refine wp_map_lookf _ rfl _ _ rfl bm n f rfl HM.out s rfl hs none HF.out ?_) | (go_at_call 38; (with_reducible refine (keys38_calls _ _).mono ?_); rintro z_ w_ ⟨rfl, rfl⟩) | (go_at_call 33; (with_reducible refine HS.out.mono ?_); rintro z_ w_ ⟨rfl, h3_⟩; replace h3_ := Aside0.mk h3_) | go_in)
  go_ret
  exact ⟨none, 0, rfl, Kd.R_nil _ _ _ _ _, below_one h3_.out⟩
end Go.Proofs.Ytaomemhnjpemiaa.Mp
