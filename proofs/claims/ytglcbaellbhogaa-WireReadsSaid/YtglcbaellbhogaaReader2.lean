/- The reader of bytes (wire.Reader), told as what is left and the first error: Var, take, Text. -/
import Derived.Test.YtglcbaellbhogaaReader
import Derived.Test.YtglcbaellbhogaaPBx1
namespace Go.Proofs.Ytglcbaellbhogaa.Reader
open Go.RowKit Go.Proofs.Ytglcbaellbhogaa.Sep Go.Proofs.YtglcbaellbhogaaW.PrintWords Go.Proofs.YtglcbaellbhogaaW.PrintLast Go.Proofs.YtglcbaellbhogaaW.PrintMore Go.Proofs.Ytglcbaellbhogaa.PB
set_option linter.unusedVariables false
set_option linter.unusedSimpArgs false

/-- A reader at block g with these bytes left and this error; the reader and the bytes lie below B. -/
def Rd (B : Nat) (w : World) (g : Nat) (xs : List Int) (e : Int) : Prop :=
  ∃ A c, At w g A xs.length c e ∧ xs.length ≤ c ∧ Kd.C (Kd.int .u8) w A xs.length xs ∧ (∀ ad, A = some ad → 0 < xs.length → ad.block ≠ g ∧ ad.block < B) ∧ g < B
theorem Turn.keep {w w' : World} {g : Nat} (h : Turn w w' g) : KeepBut w w' g none := ⟨h.size, fun i hi hg _ => h.block i hi hg⟩
theorem C_turn {w w' : World} {g : Nat} {A : Option Addr} {n : Nat} {xs : List Int} (h : Kd.C (Kd.int .u8) w A n xs) (t : Turn w w' g) (hf : ∀ ad, A = some ad → 0 < n → ad.block ≠ g) : Kd.C (Kd.int .u8) w' A n xs :=
  Kd.C_keep (enc := Value.int .u8) (h1 := fun _ => rfl) (0 : Int) h t.keep hf
theorem C_under {B : Nat} {w w' : World} {A : Option Addr} {n : Nat} {xs : List Int} (h : Kd.C (Kd.int .u8) w A n xs) (hb : Below B w w') (hf : ∀ ad, A = some ad → 0 < n → ad.block < B) : Kd.C (Kd.int .u8) w' A n xs := by
  refine ⟨h.1, h.2.1, fun hn => ?_⟩
  obtain ⟨ad, e, hc⟩ := h.2.2 hn
  have hB := hf ad e hn
  refine ⟨ad, e, fun j p hj => ?_⟩
  obtain ⟨cs, h1, h2, h3⟩ := hc j p hj
  refine ⟨cs, h1, h2, fun i u hu => ?_⟩
  have := h3 i u hu
  rw [← this]
  refine hb.cell ?_
  unfold Addr.add
  split <;> simpa using hB
theorem At.under {B : Nat} {W W1 : World} {g : Nat} {A : Option Addr} {n c : Nat} {e : Int} (h : At W g A n c e) (hb : Below B W W1) (hg : g < B) : At W1 g A n c e := (hb.block g hg).trans h
theorem Rd.below {B : Nat} {w w' : World} {g : Nat} {xs : List Int} {e : Int} (h : Rd B w g xs e) (hb : Below B w w') : Rd B w' g xs e := by
  obtain ⟨A, c, h1, h2, h3, h4, h5⟩ := h
  exact ⟨A, c, h1.under hb h5, h2, C_under h3 hb (fun ad ha hp => (h4 ad ha hp).2), h4, h5⟩
theorem Rd.mono {B B' : Nat} {w : World} {g : Nat} {xs : List Int} {e : Int} (h : Rd B w g xs e) (hB : B ≤ B') : Rd B' w g xs e := by
  obtain ⟨A, c, h1, h2, h3, h4, h5⟩ := h
  exact ⟨A, c, h1, h2, h3, fun ad ha hp => ⟨(h4 ad ha hp).1, Nat.lt_of_lt_of_le (h4 ad ha hp).2 hB⟩, by omega⟩
theorem Rd.len {B : Nat} {w : World} {g : Nat} {xs : List Int} {e : Int} (h : Rd B w g xs e) : xs.length ≤ 9223372036854775807 := by
  obtain ⟨A, c, h1, h2, h3, h4, h5⟩ := h
  exact h3.2.1
theorem Rd.stopped {B : Nat} {w : World} {g : Nat} {e : Int} (h : At w g none 0 0 e) (hg : g < B) : Rd B w g [] e := ⟨none, 0, h, Nat.zero_le _, Kd.C_nil _ _, (fun ad h => by cases h), hg⟩
theorem Turn.below_then {w w1 w2 : World} {g : Nat} (h : Turn w w1 g) (k : Below w1.heap.size w1 w2) : Turn w w2 g := h.trans (Turn.of_below g k)
/-- Behind a turn: blocks that w had are as they were. -/
theorem Turn.under {w w1 w2 : World} {g : Nat} (h : Turn w w1 g) (k : Below w.heap.size w1 w2) : Turn w w2 g :=
  ⟨k.os.trans h.os, k.tape.trans h.tape, k.output.trans h.output, Nat.le_trans h.size k.size, fun i hi hg => (k.block i hi).trans (h.block i hi hg)⟩

theorem take_at (g : Nat) (A : Option Addr) (xs : List Int) (c : Nat) (n : Nat) (w : World) (h : At w g A xs.length c 0) (hc : xs.length ≤ c) (hn : n ≤ xs.length) (hm : xs.length ≤ 9223372036854775807) :
    Calls Try.prog 32 #[.pointer (some ⟨g, 0, none⟩), .int .i64 (n : Int)] w fun z w' => z = .returned (.slice A n c) ∧ Aft w' g A xs.length c (some n) 0 ∧ Turn w w' g := by
  have h0 := h.c0; have h1 := h.c1; have f0 := h.f 0; have f1 := h.f 1
  have HA := Aside0.mk h
  have hn1 : decide (xs.length < n) = false := decide_eq_false (by omega)
  by_cases hcn : c = n
  · go_enter Try.func32, Try.ntmps32
    go_wp2_with (go_at_call 26; refine (up_calls g A _ c 0 _ h).mono ?_; rintro z w1 ⟨rfl, rfl⟩)
    go_ret
    refine ⟨by rw [hcn]; rfl, ?_, Turn.set _ _ _ _⟩
    have h7 := HA.out.set0 A (xs.length - n) 0
    simp only [Aft, hcn, if_true, Nat.sub_self]
    exact h7
  · go_enter Try.func32, Try.ntmps32
    go_wp2_with (go_at_call 26; refine (up_calls g A _ c 0 _ h).mono ?_; rintro z w1 ⟨rfl, rfl⟩)
    go_ret
    refine ⟨rfl, ?_, Turn.set _ _ _ _⟩
    simp only [Aft, if_neg hcn]
    exact HA.out.set0 _ _ _
theorem take_cut (g : Nat) (A : Option Addr) (xs : List Int) (c : Nat) (n : Nat) (w : World) (h : At w g A xs.length c 0) (hn : xs.length < n) :
    Calls Try.prog 32 #[.pointer (some ⟨g, 0, none⟩), .int .i64 (n : Int)] w fun z w' => z = .returned (.slice none 0 0) ∧ At w' g none 0 0 3 ∧ Turn w w' g := by
  have h0 := h.c0; have h1 := h.c1; have f0 := h.f 0; have f1 := h.f 1
  have HA := Aside0.mk h
  have hn1 : decide (xs.length < n) = true := decide_eq_true (by omega)
  go_enter Try.func32, Try.ntmps32
  go_wp2_with (first | (go_at_call 26; refine (up_calls g A _ c 0 _ h).mono ?_; rintro z w1 ⟨rfl, rfl⟩) | (go_at_call 27; refine (stop_calls g _ _ c 0 _ _ HA.out).mono ?_; rintro z w2 ⟨rfl, hA, hT⟩; have hA2 := Aside0.mk hA; have hT2 := Aside0.mk hT; clear hA hT))
  go_ret
  exact ⟨rfl, hA2.out, hT2.out⟩
theorem take_down (g : Nat) (A : Option Addr) (m c : Nat) (e n : Int) (w : World) (h : At w g A m c e) (he : (e == 0) = false) :
    Calls Try.prog 32 #[.pointer (some ⟨g, 0, none⟩), .int .i64 n] w fun z w' => z = .returned (.slice none 0 0) ∧ w' = w := by
  go_enter Try.func32, Try.ntmps32
  go_wp2_with (go_at_call 26; refine (up_calls g A _ c e _ h).mono ?_; rintro z w1 ⟨rfl, rfl⟩)
  go_ret
  exact ⟨rfl, rfl⟩
theorem take_nil (n : Int) (w : World) : Calls Try.prog 32 #[.pointer none, .int .i64 n] w fun z w' => z = .returned (.slice none 0 0) ∧ w' = w := by
  go_enter Try.func32, Try.ntmps32
  go_wp2_with (go_at_call 26; refine (up_nil _).mono ?_; rintro z w1 ⟨rfl, rfl⟩)
  go_ret
  exact ⟨rfl, rfl⟩
theorem var_down (g : Nat) (A : Option Addr) (m c : Nat) (e n : Int) (w : World) (h : At w g A m c e) (he : (e == 0) = false) :
    Calls Try.prog 12 #[.pointer (some ⟨g, 0, none⟩), .int .u32 n] w fun z w' => z = .returned (.int .u32 0) ∧ w' = w := by
  go_enter Try.func12, Try.ntmps12
  go_wp2_with (go_at_call 26; refine (up_calls g A _ c e _ h).mono ?_; rintro z w1 ⟨rfl, rfl⟩)
  go_ret
  exact ⟨rfl, rfl⟩
theorem var_nil (n : Int) (w : World) : Calls Try.prog 12 #[.pointer none, .int .u32 n] w fun z w' => z = .returned (.int .u32 0) ∧ w' = w := by
  go_enter Try.func12, Try.ntmps12
  go_wp2_with (go_at_call 26; refine (up_nil _).mono ?_; rintro z w1 ⟨rfl, rfl⟩)
  go_ret
  exact ⟨rfl, rfl⟩

/-- What reading a number does: what is left, the error, the number. -/
def rVar (xs : List Int) (e most : Int) : List Int × Int × Int :=
  if e = 0 then (match vr xs most 5 0 0 with | (some j, e', r) => (xs.drop j, e', r) | (none, e', r) => ([], e', r)) else (xs, e, 0)
/-- What taking some bytes does. -/
def rTake (xs : List Int) (e : Int) (n : Nat) : List Int × Int × List Int :=
  if e = 0 then (if n ≤ xs.length then (xs.drop n, 0, xs.take n) else ([], 3, [])) else (xs, e, [])
theorem vr_le {xs : List Int} {most : Int} : ∀ {k i : Nat} {nv : Int} {j : Nat} {e r : Int}, vr xs most k i nv = (some j, e, r) → j ≤ xs.length
  | 0, i, nv, j, e, r, h => by simp [vr] at h
  | k + 1, i, nv, j, e, r, h => by
    simp only [vr] at h
    cases hx : xs[i]? with
    | none => rw [hx] at h; simp at h
    | some b =>
      rw [hx] at h
      have hi : i < xs.length := (List.getElem?_eq_some_iff.1 hx).1
      simp only at h
      split at h
      · exact vr_le h
      · split at h
        · split at h
          · simp at h
          · injection h with h1 h2; injection h1 with h1; omega
        · simp at h
theorem vr_bd {xs : List Int} {most : Int} : ∀ {k i : Nat} {nv : Int} {j : Option Nat} {e r : Int}, vr xs most k i nv = (j, e, r) → 0 ≤ r ∧ r < 4294967296
  | 0, i, nv, j, e, r, h => by simp only [vr] at h; injection h with h1 h2; injection h2 with h2 h3; omega
  | k + 1, i, nv, j, e, r, h => by
    simp only [vr] at h
    cases hx : xs[i]? with
    | none => rw [hx] at h; simp at h; omega
    | some b =>
      rw [hx] at h
      simp only at h
      split at h
      · exact vr_bd h
      · split at h
        · rename_i hq
          split at h
          · injection h with h1 h2; injection h2 with h2 h3; omega
          · injection h with h1 h2; injection h2 with h2 h3; subst h3; have := hq.1; omega
        · injection h with h1 h2; injection h2 with h2 h3; omega
theorem rVar_bd (xs : List Int) (e most : Int) : 0 ≤ (rVar xs e most).2.2 ∧ (rVar xs e most).2.2 < 4294967296 := by
  unfold rVar
  split
  · rcases h : vr xs most 5 0 0 with ⟨j, e', r⟩
    have := vr_bd h
    cases j <;> exact this
  · exact ⟨by simp, by simp⟩
theorem Rd.of_aft {B : Nat} {w w' : World} {g : Nat} {A : Option Addr} {xs : List Int} {c : Nat} {j : Nat} {e : Int} (h : Aft w' g A xs.length c (some j) e) (t : Turn w w' g) (hc : xs.length ≤ c) (hC : Kd.C (Kd.int .u8) w A xs.length xs) (hf : ∀ ad, A = some ad → 0 < xs.length → ad.block ≠ g ∧ ad.block < B) (hg : g < B) (hj : j ≤ xs.length) : Rd B w' g (xs.drop j) e := by
  have hC' := Kd.C_drop (c := c) (C_turn hC t (fun ad ha hp => (hf ad ha hp).1)) hj hc
  have hl : (xs.drop j).length = xs.length - j := List.length_drop
  refine ⟨(if c = j then A else A.map (·.add j)), c - j, ?_, by omega, ?_, ?_, hg⟩
  · rw [hl]; exact h
  · simpa [Kd.int, Kd.scalar] using hC'
  · intro ad he hp
    rw [hl] at hp
    rw [if_neg (by omega)] at he
    cases A with
    | none => cases he
    | some a =>
      simp only [Option.map_some, Option.some.injEq] at he
      subst he
      have := hf a rfl (by omega)
      unfold Addr.add
      split <;> simpa using this
theorem varR {B : Nat} (g : Nat) (xs : List Int) (e most : Int) (w : World) (h : Rd B w g xs e) :
    Calls Try.prog 12 #[.pointer (some ⟨g, 0, none⟩), .int .u32 most] w fun z w' => z = .returned (.int .u32 (rVar xs e most).2.2) ∧ Rd B w' g (rVar xs e most).1 (rVar xs e most).2.1 ∧ Turn w w' g := by
  obtain ⟨A, c, h1, h2, h3, h4, h5⟩ := h
  by_cases he : e = 0
  · subst he
    rcases hv : vr xs most 5 0 0 with ⟨j, e', r⟩
    refine (var_calls g A xs c 0 most w h1 rfl h3 h2 j e' r hv).mono ?_
    rintro z w' ⟨rfl, hA, hT⟩
    cases j with
    | none => simp only [rVar, hv, if_true]; exact ⟨trivial, Rd.stopped hA h5, hT⟩
    | some j => simp only [rVar, hv, if_true]; exact ⟨trivial, Rd.of_aft hA hT h2 h3 h4 h5 (vr_le hv), hT⟩
  · refine (var_down g A _ c e most w h1 (by simpa using he)).mono ?_
    rintro z w' ⟨rfl, rfl⟩
    simp only [rVar, if_neg he]
    exact ⟨trivial, ⟨A, c, h1, h2, h3, h4, h5⟩, Turn.refl _ _⟩
theorem takeR {B : Nat} (g : Nat) (xs : List Int) (e : Int) (n : Nat) (w : World) (h : Rd B w g xs e) :
    Calls Try.prog 32 #[.pointer (some ⟨g, 0, none⟩), .int .i64 (n : Int)] w fun z w' => (∃ A c, z = .returned (.slice A (rTake xs e n).2.2.length c) ∧ (rTake xs e n).2.2.length ≤ c ∧ Kd.C (Kd.int .u8) w' A (rTake xs e n).2.2.length (rTake xs e n).2.2 ∧ (∀ ad, A = some ad → 0 < (rTake xs e n).2.2.length → ad.block ≠ g ∧ ad.block < B)) ∧ Rd B w' g (rTake xs e n).1 (rTake xs e n).2.1 ∧ Turn w w' g := by
  obtain ⟨A, c, h1, h2, h3, h4, h5⟩ := h
  by_cases he : e = 0
  · subst he
    by_cases hn : n ≤ xs.length
    · refine (take_at g A xs c n w h1 h2 hn h3.2.1).mono ?_
      rintro z w' ⟨rfl, hA, hT⟩
      have hl : (xs.take n).length = n := by rw [List.length_take]; omega
      have := Kd.C_take (C_turn h3 hT (fun ad ha hp => (h4 ad ha hp).1)) hn
      simp only [rTake, if_pos hn, if_true]
      exact ⟨⟨A, c, by rw [hl], by omega, this, fun ad h hp => h4 ad h (by omega)⟩, Rd.of_aft hA hT h2 h3 h4 h5 hn, hT⟩
    · refine (take_cut g A xs c n w h1 (by omega)).mono ?_
      rintro z w' ⟨rfl, hA, hT⟩
      simp only [rTake, if_neg hn, if_true]
      exact ⟨⟨none, 0, rfl, Nat.le_refl _, Kd.C_nil _ _, fun ad h => by cases h⟩, Rd.stopped hA h5, hT⟩
  · refine (take_down g A _ c e n w h1 (by simpa using he)).mono ?_
    rintro z w' ⟨rfl, rfl⟩
    simp only [rTake, if_neg he]
    exact ⟨⟨none, 0, rfl, Nat.le_refl _, Kd.C_nil _ _, fun ad h => by cases h⟩, ⟨A, c, h1, h2, h3, h4, h5⟩, Turn.refl _ _⟩
/-- A bound as a number. -/
def atM (most : Int) : Int := mx 0 (mn most 4294967295)
/-- What reading a text does. -/
def rText (xs : List Int) (e most : Int) : List Int × Int × List Int :=
  rTake (rVar xs e (atM most)).1 (rVar xs e (atM most)).2.1 (rVar xs e (atM most)).2.2.toNat
theorem textR {B : Nat} (g : Nat) (xs : List Int) (e most : Int) (w : World) (h : Rd B w g xs e) (hB : B ≤ w.heap.size) :
    Calls Try.prog 23 #[.pointer (some ⟨g, 0, none⟩), .int .i64 most] w fun z w' => z = .returned (.string (strOfNums (rText xs e most).2.2)) ∧ Rd B w' g (rText xs e most).1 (rText xs e most).2.1 ∧ Turn w w' g := by
  obtain ⟨n, hn⟩ : ∃ n : Nat, ((rVar xs e (atM most)).2.2 = (n : Int)) := ⟨_, (Int.toNat_of_nonneg (rVar_bd _ _ _).1).symm⟩
  have hb : n < 4294967296 := by have := (rVar_bd xs e (atM most)).2; omega
  have HN := Aside0.mk hn
  have HD := Aside0.mk h
  have HB := Aside0.mk hB
  clear hn h hB
  go_enter Try.func23, Try.ntmps23
  go_wp2_with (first
    | (go_at_call 33; refine (wire_atMost.calls most _ _ rfl).mono ?_; rintro z w1 ⟨rfl, hb1⟩; have B1 := Aside0.mk hb1; clear hb1)
    | (go_at_call 12; refine (varR (B := B) g xs e (atM most) _ (HD.out.below (B1.out.mono HB.out))).mono ?_; rw [HN.out]; rintro z w2 ⟨rfl, hR, hT⟩; have R2 := Aside0.mk hR; have T2 := Aside0.mk ((Turn.of_below g B1.out).trans hT); clear hR hT)
    | (go_at_call 32; refine (takeR (B := B) g _ _ n _ R2.out).mono ?_; rintro z w3 ⟨⟨A3, c3, rfl, hc3, hC3, hf3⟩, hR, hT⟩; have R3 := Aside0.mk hR; have T3 := Aside0.mk (T2.out.trans hT); have hs := Kd.C_string (P := Try.prog) (src := 23) (dst := 9) (e := 5) (c := c3) Try.underlying23 Try.underlying5 Try.underlying9 hC3; clear hR hT hC3 hf3 hc3))
  go_ret
  have e1 : (rVar xs e (atM most)).2.2.toNat = n := by rw [HN.out]; rfl
  simp only [rText, e1]
  exact ⟨rfl, R3.out, T3.out⟩
theorem text_nil (most : Int) (w : World) : Calls Try.prog 23 #[.pointer none, .int .i64 most] w fun z w' => z = .returned (.string (strOfNums [])) ∧ Below w.heap.size w w' := by
  have hs := fun w => run_convert_bytes_nil (P := Try.prog) w 23 5 Try.underlying23 Try.underlying5 0 0 9 Try.underlying9
  go_enter Try.func23, Try.ntmps23
  go_wp2_with (first
    | (go_at_call 33; refine (wire_atMost.calls most _ _ rfl).mono ?_; rintro z w1 ⟨rfl, hb1⟩; have B1 := Aside0.mk hb1; clear hb1)
    | (go_at_call 12; refine (var_nil _ _).mono ?_; rintro z w2 ⟨rfl, rfl⟩)
    | (go_at_call 32; refine (take_nil _ _).mono ?_; rintro z w3 ⟨rfl, rfl⟩))
  go_ret
  exact ⟨rfl, B1.out⟩
theorem upR {B : Nat} (g : Nat) (xs : List Int) (e : Int) (w : World) (h : Rd B w g xs e) :
    Calls Try.prog 26 #[.pointer (some ⟨g, 0, none⟩)] w fun z w' => z = .returned (.bool (e == 0)) ∧ w' = w := by
  obtain ⟨A, c, h1, h2, h3, h4, h5⟩ := h
  exact up_calls g A _ c e w h1
theorem errR {B : Nat} (g : Nat) (xs : List Int) (e : Int) (w : World) (h : Rd B w g xs e) :
    Calls Try.prog 13 #[.pointer (some ⟨g, 0, none⟩)] w fun z w' => z = .returned (.int .i64 e) ∧ w' = w := by
  obtain ⟨A, c, h1, h2, h3, h4, h5⟩ := h
  exact err_calls g A _ c e w h1
theorem leftR {B : Nat} (g : Nat) (xs : List Int) (e : Int) (w : World) (h : Rd B w g xs e) :
    Calls Try.prog 14 #[.pointer (some ⟨g, 0, none⟩)] w fun z w' => z = .returned (.int .i64 xs.length) ∧ w' = w := by
  obtain ⟨A, c, h1, h2, h3, h4, h5⟩ := h
  exact left_calls g A _ c e w h1
theorem stopR {B : Nat} (g : Nat) (xs : List Int) (e e' : Int) (w : World) (h : Rd B w g xs e) :
    Calls Try.prog 27 #[.pointer (some ⟨g, 0, none⟩), .int .i64 e'] w fun z w' => z = .returned (.tuple #[]) ∧ Rd B w' g [] e' ∧ Turn w w' g := by
  obtain ⟨A, c, h1, h2, h3, h4, h5⟩ := h
  refine (stop_calls g A _ c e e' w h1).mono ?_
  rintro z w' ⟨rfl, hA, hT⟩
  exact ⟨rfl, Rd.stopped hA h5, hT⟩
theorem newR (A : Option Addr) (xs : List Int) (c : Nat) (w : World) (hC : Kd.C (Kd.int .u8) w A xs.length xs) (hc : xs.length ≤ c) :
    Calls Try.prog 11 #[.slice A xs.length c] w fun z w' => z = .returned (.pointer (some ⟨w.heap.size, 0, none⟩)) ∧ Rd (w.heap.size + 1) w' w.heap.size xs 0 ∧ Below w.heap.size w w' ∧ w.heap.size < w'.heap.size := by
  refine (new_calls A xs.length c w).mono ?_
  rintro z w' ⟨rfl, hA, hB⟩
  refine ⟨rfl, ⟨A, c, hA, hc, Kd.C_below hC hB, fun ad ha hp => ?_, by omega⟩, hB, (Array.getElem?_eq_some_iff.1 hA).1⟩
  subst ha
  have := Kd.C_lt hC hp (by decide)
  omega
end Go.Proofs.Ytglcbaellbhogaa.Reader
