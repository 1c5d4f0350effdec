/- The reader of bytes (wire.Reader): its methods, each once. -/
import Derived.Test.YtglcbaellbhogaaPBx0
import Derived.Test.YtglcbaellbhogaaSep
namespace Go.Proofs.Ytglcbaellbhogaa.Reader
open Go.RowKit Go.Proofs.Ytglcbaellbhogaa.Sep Go.Proofs.YtglcbaellbhogaaW.PrintWords Go.Proofs.YtglcbaellbhogaaW.PrintLast Go.Proofs.YtglcbaellbhogaaW.PrintMore
set_option linter.unusedVariables false
set_option linter.unusedSimpArgs false

/-- A reader lies at block g. -/
def At (W : World) (g : Nat) (A : Option Addr) (n c : Nat) (e : Int) : Prop := W.heap[g]? = some (.cells #[.slice A n c, .int .i64 e] 51 (0, 0))
theorem At.c0 {W : World} {g : Nat} {A : Option Addr} {n c : Nat} {e : Int} (h : At W g A n c e) : W.cell? ⟨g, 0, none⟩ = some (.slice A n c) := (cell_blk h 0).trans rfl
theorem At.c1 {W : World} {g : Nat} {A : Option Addr} {n c : Nat} {e : Int} (h : At W g A n c e) : W.cell? ⟨g, 1, none⟩ = some (.int .i64 e) := (cell_blk h 1).trans rfl
theorem At.f {W : World} {g : Nat} {A : Option Addr} {n c : Nat} {e : Int} (h : At W g A n c e) (i : Nat) : W.frozen? ⟨g, i, none⟩ = false := frozen_blk h i

/-- From w to w' nothing but block g has changed, and there may be new blocks. -/
structure Turn (w w' : World) (g : Nat) : Prop where
  os : w'.os = w.os
  tape : w'.tape = w.tape
  output : w'.output = w.output
  size : w.heap.size ≤ w'.heap.size
  block : ∀ k, k < w.heap.size → k ≠ g → w'.heap[k]? = w.heap[k]?
theorem Turn.of_below {w w' : World} (g : Nat) (h : Below w.heap.size w w') : Turn w w' g := ⟨h.os, h.tape, h.output, h.size, fun k hk _ => h.block k hk⟩
theorem Turn.refl (w : World) (g : Nat) : Turn w w g := Turn.of_below g (Below.refl _ _)
theorem Turn.trans {w w1 w2 : World} {g : Nat} (h : Turn w w1 g) (k : Turn w1 w2 g) : Turn w w2 g :=
  ⟨k.os.trans h.os, k.tape.trans h.tape, k.output.trans h.output, Nat.le_trans h.size k.size, fun i hi hg => (k.block i (Nat.lt_of_lt_of_le hi h.size) hg).trans (h.block i hi hg)⟩
theorem Turn.set (w : World) (g i : Nat) (v : Value) : Turn w (w.setCell ⟨g, i, none⟩ v) g :=
  ⟨rfl, rfl, rfl, by simp [World.setCell], fun k _ hg => Below.heap_setCell w ⟨g, i, none⟩ v k hg⟩
theorem At.below {W W1 : World} {g : Nat} {A : Option Addr} {n c : Nat} {e : Int} (h : At W g A n c e) (hb : Below W.heap.size W W1) : At W1 g A n c e :=
  (hb.block g (Array.getElem?_eq_some_iff.1 h).1).trans h
theorem At.set0 {W : World} {g : Nat} {A : Option Addr} {n c : Nat} {e : Int} (h : At W g A n c e) (A' : Option Addr) (n' c' : Nat) : At (W.setCell ⟨g, 0, none⟩ (.slice A' n' c')) g A' n' c' e := by
  have hl := (Array.getElem?_eq_some_iff.1 h).1
  have he := (Array.getElem?_eq_some_iff.1 h).2
  unfold At World.setCell
  simp [hl, Array.getElem_modify, he]
theorem At.set1 {W : World} {g : Nat} {A : Option Addr} {n c : Nat} {e : Int} (h : At W g A n c e) (e' : Int) : At (W.setCell ⟨g, 1, none⟩ (.int .i64 e')) g A n c e' := by
  have hl := (Array.getElem?_eq_some_iff.1 h).1
  have he := (Array.getElem?_eq_some_iff.1 h).2
  unfold At World.setCell
  simp [hl, Array.getElem_modify, he]

theorem up_calls (g : Nat) (A : Option Addr) (n c : Nat) (e : Int) (w : World) (h : At w g A n c e) :
    Calls Try.prog 26 #[.pointer (some ⟨g, 0, none⟩)] w fun z w' => z = .returned (.bool (e == 0)) ∧ w' = w := by
  have h0 := h.c0; have h1 := h.c1; have f0 := h.f 0; have f1 := h.f 1
  go_enter Try.func26, Try.ntmps26
  go_wp2
  go_ret
  exact ⟨rfl, rfl⟩
theorem up_nil (w : World) : Calls Try.prog 26 #[.pointer none] w fun z w' => z = .returned (.bool false) ∧ w' = w := by
  go_enter Try.func26, Try.ntmps26
  go_wp2
  go_ret
  exact ⟨rfl, rfl⟩
theorem err_calls (g : Nat) (A : Option Addr) (n c : Nat) (e : Int) (w : World) (h : At w g A n c e) :
    Calls Try.prog 13 #[.pointer (some ⟨g, 0, none⟩)] w fun z w' => z = .returned (.int .i64 e) ∧ w' = w := by
  have h0 := h.c0; have h1 := h.c1; have f0 := h.f 0; have f1 := h.f 1
  go_enter Try.func13, Try.ntmps13
  go_wp2
  go_ret
  exact ⟨rfl, rfl⟩
theorem err_nil (w : World) : Calls Try.prog 13 #[.pointer none] w fun z w' => z = .returned (.int .i64 1) ∧ w' = w := by
  go_enter Try.func13, Try.ntmps13
  go_wp2
  go_ret
  exact ⟨rfl, rfl⟩
theorem left_calls (g : Nat) (A : Option Addr) (n c : Nat) (e : Int) (w : World) (h : At w g A n c e) :
    Calls Try.prog 14 #[.pointer (some ⟨g, 0, none⟩)] w fun z w' => z = .returned (.int .i64 n) ∧ w' = w := by
  have h0 := h.c0; have h1 := h.c1; have f0 := h.f 0; have f1 := h.f 1
  go_enter Try.func14, Try.ntmps14
  go_wp2
  go_ret
  exact ⟨rfl, rfl⟩
theorem left_nil (w : World) : Calls Try.prog 14 #[.pointer none] w fun z w' => z = .returned (.int .i64 0) ∧ w' = w := by
  go_enter Try.func14, Try.ntmps14
  go_wp2
  go_ret
  exact ⟨rfl, rfl⟩
theorem stop_calls (g : Nat) (A : Option Addr) (n c : Nat) (e e' : Int) (w : World) (h : At w g A n c e) :
    Calls Try.prog 27 #[.pointer (some ⟨g, 0, none⟩), .int .i64 e'] w fun z w' => z = .returned (.tuple #[]) ∧ At w' g none 0 0 e' ∧ Turn w w' g := by
  have h0 := h.c0; have h1 := h.c1; have f0 := h.f 0; have f1 := h.f 1
  go_enter Try.func27, Try.ntmps27
  go_wp2
  refine bodyPost_end (results_none rfl _ _ _) rfl ?_
  exact ⟨rfl, (h.set0 _ _ _).set1 _, (Turn.set w g 0 _).trans (Turn.set _ g 1 _)⟩
theorem new_calls (A : Option Addr) (n c : Nat) (w : World) :
    Calls Try.prog 11 #[.slice A n c] w fun z w' => z = .returned (.pointer (some ⟨w.heap.size, 0, none⟩)) ∧ At w' w.heap.size A n c 0 ∧ Below w.heap.size w w' := by
  go_enter Try.func11, Try.ntmps11
  go_wp2
  go_ret
  exact ⟨rfl, heap_alloc_new _ _, (Below.refl _ _).alloc (Nat.le_refl _) _⟩
/-- One more byte of a number. -/
abbrev nx (b nv : Int) (i : Nat) : Int := bits BinOp.or IntKind.u64 nv (IntKind.u64.wrap (IntKind.u64.wrap (bits BinOp.andNot IntKind.u8 b 128) * 2 ^ (7 * i)))
/-- What reading a number does, from byte i on: by how much the reader goes on (none: it stops), its error, the number. -/
def vr (xs : List Int) (most : Int) : Nat → Nat → Int → Option Nat × Int × Int
  | 0, _, _ => (none, 4, 0)
  | k + 1, i, nv => match xs[i]? with
    | none => (none, 3, 0)
    | some b => if (bits BinOp.and IntKind.u8 b 128 != 0) = true then vr xs most k (i + 1) (nx b nv i)
      else if nx b nv i / 4294967296 = 0 ∧ ¬ (0 < i ∧ b = 0) then (if IntKind.u64.wrap most < nx b nv i then (none, 5, 0) else (some (i + 1), 0, nx b nv i)) else (none, 4, 0)
/-- The reader behind it. -/
def Aft (W : World) (g : Nat) (A : Option Addr) (n c : Nat) : Option Nat → Int → Prop
  | none, e => At W g none 0 0 e
  | some j, e => At W g (if c = j then A else A.map (·.add j)) (n - j) (c - j) e
theorem vr_go {xs : List Int} {most : Int} {k i : Nat} {nv b : Int} (h : xs[i]? = some b) (h1 : (bits BinOp.and IntKind.u8 b 128 != 0) = true) : vr xs most (k + 1) i nv = vr xs most k (i + 1) (nx b nv i) := by
  simp only [vr, h]; rw [if_pos h1]
theorem vr_form {xs : List Int} {most : Int} {k i : Nat} {nv b : Int} (h : xs[i]? = some b) (h1 : (bits BinOp.and IntKind.u8 b 128 != 0) = false) (h2 : nx b nv i / 4294967296 = 0) (h3 : 0 < i) (h4 : (b == 0) = true) : vr xs most (k + 1) i nv = (none, 4, 0) := by
  simp only [vr, h]; rw [if_neg (by rw [h1]; simp), if_neg (fun q => q.2 ⟨h3, by simpa using h4⟩)]
theorem vr_big {xs : List Int} {most : Int} {k i : Nat} {nv b : Int} (h : xs[i]? = some b) (h1 : (bits BinOp.and IntKind.u8 b 128 != 0) = false) (h2 : ¬ nx b nv i / 4294967296 = 0) : vr xs most (k + 1) i nv = (none, 4, 0) := by
  simp only [vr, h]; rw [if_neg (by rw [h1]; simp), if_neg (fun q => h2 q.1)]
theorem vr_long {xs : List Int} {most : Int} {k i : Nat} {nv b : Int} (h : xs[i]? = some b) (h1 : (bits BinOp.and IntKind.u8 b 128 != 0) = false) (h2 : nx b nv i / 4294967296 = 0) (h3 : ¬ 0 < i ∨ (b == 0) = false) (h5 : IntKind.u64.wrap most < nx b nv i) : vr xs most (k + 1) i nv = (none, 5, 0) := by
  simp only [vr, h]; rw [if_neg (by rw [h1]; simp), if_pos ⟨h2, fun q => h3.elim (fun h => h q.1) (fun h => by simp [q.2] at h)⟩, if_pos h5]
theorem vr_done {xs : List Int} {most : Int} {k i : Nat} {nv b : Int} (h : xs[i]? = some b) (h1 : (bits BinOp.and IntKind.u8 b 128 != 0) = false) (h2 : nx b nv i / 4294967296 = 0) (h3 : ¬ 0 < i ∨ (b == 0) = false) (h5 : nx b nv i ≤ IntKind.u64.wrap most) : vr xs most (k + 1) i nv = (some (i + 1), 0, nx b nv i) := by
  simp only [vr, h]; rw [if_neg (by rw [h1]; simp), if_pos ⟨h2, fun q => h3.elim (fun h => h q.1) (fun h => by simp [q.2] at h)⟩, if_neg (by omega)]
/-- A byte of a row of bytes. -/
theorem byte_at {W : World} {A : Option Addr} {xs : List Int} (h : Kd.C (Kd.int .u8) W A xs.length xs) (i : Nat) (hi : i < xs.length) :
    ∃ ad b, A = some ad ∧ xs[i]? = some b ∧ W.cell? (ad.add i) = some (.int .u8 b) := by
  obtain ⟨ad, e, hc⟩ := h.2.2 (by omega)
  obtain ⟨c, _, hr, hcell⟩ := hc i _ (List.getElem?_eq_getElem hi)
  subst hr
  exact ⟨ad, xs[i], e, List.getElem?_eq_getElem hi, by simpa [Kd.int, Kd.scalar] using hcell 0 _ rfl⟩
set_option maxHeartbeats 8000000 in
theorem var_calls (g : Nat) (A : Option Addr) (xs : List Int) (c : Nat) (e : Int) (most : Int) (w : World) (h : At w g A xs.length c e) (he : (e == 0) = true) (hC : Kd.C (Kd.int .u8) w A xs.length xs) (hc : xs.length ≤ c) (adv : Option Nat) (e' r : Int)
    (H0 : vr xs most 5 0 0 = (adv, e', r)) :
    Calls Try.prog 12 #[.pointer (some ⟨g, 0, none⟩), .int .u32 most] w fun z w' => z = .returned (.int .u32 r) ∧ Aft w' g A xs.length c adv e' ∧ Turn w w' g := by
  have h0 := h.c0; have h1 := h.c1; have f0 := h.f 0; have f1 := h.f 1
  have HR := Aside0.mk hC; clear hC
  obtain rfl : e = 0 := by simpa using he
  have HA := Aside0.mk h
  go_enter Try.func12, Try.ntmps12
  go_wp2_with (go_at_call 26; refine (up_calls g A _ c 0 _ h).mono ?_; rintro z w1 ⟨rfl, rfl⟩)
  clear h
  go_loopg [6, 14] 5 (fun k v6 v14 w' => ∃ (nv : Int) (i : Nat), v6 = .int .u64 nv ∧ v14 = .int .i64 i ∧ k + i = 5 ∧ i ≤ xs.length ∧ w' = w1 ∧ Aside0 (vr xs most k i nv = (adv, e', r)))
  case atStart => exact ⟨0, 0, rfl, rfl, rfl, Nat.zero_le _, rfl, ⟨H0⟩⟩
  case round =>
    clear H0
    obtain ⟨nv, i, rfl, rfl, hki, hix, rfl, H⟩ := hrel
    have HC := Aside0.mk hc
    clear hc he
    cases gk with
    | zero =>
      obtain rfl : i = 5 := by omega
      obtain ⟨H⟩ := H
      simp only [vr] at H
      injection H with H1 H2; injection H2 with H2 H3; subst H1; subst H2; subst H3
      go_wp2_with (go_at_call 27; refine (stop_calls g _ _ c 0 _ _ HA.out).mono ?_; rintro z w2 ⟨rfl, hA, hT⟩; have hA2 := Aside0.mk hA; have hT2 := Aside0.mk hT; clear hA hT)
      go_ret
      exact ⟨rfl, hA2.out, hT2.out⟩
    | succ k =>
    have hc1 : decide ((i : Int) < 5) = true := decide_eq_true (by omega)
    by_cases hi : i < xs.length
    · obtain ⟨ad, b, rfl, hb, hx⟩ : ∃ ad b, A = some ad ∧ xs[i]? = some b ∧ wr.cell? (ad.add i) = some (.int .u8 b)   := byte_at HR.out i hi
      have HB := Aside0.mk hb
      have hc2 : ((i : Int) == (xs.length : Int)) = false := beq_eq_false_iff_ne.mpr (by omega)
      have hc3 : decide ((i : Int) < (xs.length : Int)) = true := decide_eq_true (by omega)
      clear hb
      go_wp2_with (go_at_call 27; refine (stop_calls g _ _ c 0 _ _ HA.out).mono ?_; rintro z w2 ⟨rfl, hA, hT⟩; have hA2 := Aside0.mk hA; have hT2 := Aside0.mk hT; clear hA hT)
      case _ h1 =>
        go_roundg k
        case measure => omega
        case rel => exact ⟨_, i + 1, rfl, rfl, by omega, by omega, rfl, ⟨(vr_go HB.out h1).symm.trans H.out⟩⟩
      all_goals first
        | (have h9 := (vr_form (k := k) HB.out ‹(bits BinOp.and IntKind.u8 b 128 != 0) = false› ‹nx b nv i / 4294967296 = 0› ‹0 < i› ‹(b == 0) = true›).symm.trans H.out
           injection h9 with H1 H2; injection H2 with H2 H3; subst H1; subst H2; subst H3
           go_ret
           exact ⟨rfl, hA2.out, hT2.out⟩)
        | (have h9 := (vr_big (k := k) HB.out ‹(bits BinOp.and IntKind.u8 b 128 != 0) = false› ‹¬ nx b nv i / 4294967296 = 0›).symm.trans H.out
           injection h9 with H1 H2; injection H2 with H2 H3; subst H1; subst H2; subst H3
           go_ret
           exact ⟨rfl, hA2.out, hT2.out⟩)
        | (have h9 := (vr_long (k := k) HB.out ‹(bits BinOp.and IntKind.u8 b 128 != 0) = false› ‹nx b nv i / 4294967296 = 0› (by first | exact .inr ‹(b == 0) = false› | exact .inl ‹¬ 0 < i›) ‹IntKind.u64.wrap most < nx b nv i›).symm.trans H.out
           injection h9 with H1 H2; injection H2 with H2 H3; subst H1; subst H2; subst H3
           go_ret
           exact ⟨rfl, hA2.out, hT2.out⟩)
        | (have h9 := (vr_done (k := k) HB.out ‹(bits BinOp.and IntKind.u8 b 128 != 0) = false› ‹nx b nv i / 4294967296 = 0› (by first | exact .inr ‹(b == 0) = false› | exact .inl ‹¬ 0 < i›) ‹nx b nv i ≤ IntKind.u64.wrap most›).symm.trans H.out
           injection h9 with H1 H2; injection H2 with H2 H3; subst H1; subst H2; subst H3
           go_ret
           refine ⟨rfl, ?_, Turn.set _ _ _ _⟩
           first
             | (have h8 : c = i + 1 := ‹c = i + 1›
                have h7 := HA.out.set0 (some ad) (xs.length - (i + 1)) 0
                simp only [Aft, h8, if_true, Nat.sub_self]
                exact h7)
             | (have h8 : ¬ c = i + 1 := ‹¬ c = i + 1›
                simp only [Aft, if_neg h8]
                exact HA.out.set0 _ _ _))
    · obtain ⟨H⟩ := H
      simp only [vr, List.getElem?_eq_none (Nat.le_of_not_lt hi)] at H
      injection H with H1 H2; injection H2 with H2 H3; subst H1; subst H2; subst H3
      have hc2 : ((i : Int) == (xs.length : Int)) = true := beq_iff_eq.mpr (by omega)
      go_wp2_with (go_at_call 27; refine (stop_calls g _ _ c 0 _ _ HA.out).mono ?_; rintro z w2 ⟨rfl, hA, hT⟩; have hA2 := Aside0.mk hA; have hT2 := Aside0.mk hT; clear hA hT)
      go_ret
      exact ⟨rfl, hA2.out, hT2.out⟩
end Go.Proofs.Ytglcbaellbhogaa.Reader
