/- A filter of a row that is one's own, and the waiting of a clock. -/
import Derived.Test.YtajmfmgfdgdioaaDel
import Derived.Test.YtajmfmgfdgdioaaClone
import Derived.Test.YtajmfmgfdgdioaaPure
namespace Go.Proofs.Ytajmfmgfdgdioaa.Cl
open Go.Proofs.Ytajmfmgfdgdioaa.Pure
open Go.RowKit Go.Proofs.Ytajmfmgfdgdioaa.Sep Go.Proofs.YtajmfmgfdgdioaaW.PrintWords Go.Proofs.YtajmfmgfdgdioaaW.PrintLast Go.Proofs.YtajmfmgfdgdioaaW.PrintMore Go.Proofs.Ytajmfmgfdgdioaa.Ev Go.Proofs.Ytajmfmgfdgdioaa.Ty
open Go.Proofs.Ytajmfmgfdgdioaa.PC hiding z46 z59 z67
set_option linter.unusedVariables false
set_option linter.unusedSimpArgs false

/-- The block that a row begins in. -/
def blkOf (A : Option Addr) : Nat → Prop := fun k => (Value.slice A 0 0).ownBlock = some k
theorem foot_blk {α : Type} {d : Kd α} {e : Nat} {A : Option Addr} {c : Nat} {xs : List α} {k : Nat} : (Own d e A c xs).foot k ↔ blkOf A k := by
  rw [Own.foot_iff]; unfold blkOf; cases A <;> exact Iff.rfl
theorem own_none {α : Type} {d : Kd α} {e c : Nat} {xs : List α} {W : World} (h : (Own d e none c xs).pred W) : xs = [] ∧ c = 0 := by
  obtain ⟨_, inner, ho, hr⟩ := Own.row h
  rcases ho.2 with ⟨hv, hn⟩ | ⟨g', cap', cur, hv, _⟩
  · injection hv with h1 h2 h3
    exact ⟨List.eq_nil_of_length_eq_zero h2, h3⟩
  · injection hv with h1; cases h1
theorem own_head {α : Type} {d : Kd α} {e c : Nat} {ad : Addr} {xs : List α} {W : World} (h : (Own d e (some ad) c xs).pred W) : ∃ g, ad = ⟨g, 0, none⟩ := by
  obtain ⟨g, rfl⟩ := Kd.R_head (Own.row h); exact ⟨g, rfl⟩
theorem below_turn {B : Nat} {w W W' : World} {K : Nat → Prop} (h : Below B w W) (T : Turn W W' K) (hB : B ≤ W.heap.size) (hK : ∀ k, K k → B ≤ k) : Below B w W' :=
  have b := T.below hB hK
  ⟨b.os.trans h.os, b.tape.trans h.tape, b.output.trans h.output, Nat.le_trans h.size b.size, fun k hk => (b.block k hk).trans (h.block k hk)⟩
theorem row_step {α : Type} {d : Kd α} {e B : Nat} {w W W' : World} {L : List Asn} {F : Asn → List Asn} {A : Option Addr} {c : Nat} {xs ys : List α} (S : Aside0 (St B w W L)) (hs : Spot L (Own d e A c xs) F) (T : Turn W W' (blkOf A)) (h : (Own d e A c ys).pred W') : Aside0 (St B w W' (F (Own d e A c ys))) :=
  ⟨turn_at S.out hs T.os T.tape T.output T.size (fun k hk hn => T.block k hk (fun e => hn (foot_blk.2 e))) h (fun k hk => .inl (foot_blk.2 (foot_blk.1 hk)))⟩
theorem cell_row_ne {α : Type} {d : Kd α} {e c gh : Nat} {t : TypeId} {A : Option Addr} {xs : List α} {cs : Array Value} {W : World} (h1 : (Own d e A c xs).pred W) (h2 : (Bk gh cs t).pred W) (hne : t ≠ e) : ¬ blkOf A gh := by
  intro hb
  cases A with
  | none => cases hb
  | some ad =>
    obtain ⟨g, rfl⟩ := own_head h1
    obtain rfl := Option.some.inj hb
    obtain ⟨cur, h3, _⟩ := Own.blk h1
    have h4 := (Bk.heap h2).symm.trans h3
    injection h4 with h4
    injection h4 with h5 h6
    exact hne h6

theorem delete_26_nil (gh : Nat) (del : S46 → Bool) (w : World) (hk : ∀ x W', Turn w W' (blkOf none) → Calls Try.prog 26 #[.agg #[.int .u16 x.f0, .int .u64 x.f1], .pointer (some ⟨gh, 0, none⟩)] W' fun z w' => z = .returned (.bool (del x)) ∧ Below W'.heap.size W' w') :
    Calls Try.prog 28 #[.slice none 0 0, .func (.func 26) #[] #[.pointer (some ⟨gh, 0, none⟩)]] w fun z w' => z = .returned (.slice none 0 0) ∧ Below w.heap.size w w' := by
  have S := Aside0.mk (St.start w)
  have HK := Aside0.mk hk
  have HC0 := Aside0.mk (Own.reads (Own.nil k46 46 w))
  clear hk
  go_enter Try.func28, Try.ntmps28
  go_wp2_with (first | (go_at_call 31; have c_ := index26_calls gh del none 0 [] _ HC0.out (fun x W' hb => HK.out x W' (Turn.of_below _ hb)); simp only [List.length_nil, ix] at c_; (with_reducible refine c_.mono ?_); clear c_; rintro z_ w_ ⟨rfl, hb_⟩; have hb2_ := hb_; have S_ := Aside0.mk (S.out.keep hb2_); clear hb2_ hb_; clear S; have S := S_; clear S_))
  go_ret
  exact ⟨rfl, S.out.below⟩
theorem late_ev {B : Nat} {w W : World} {L : List Asn} {F F2 : Asn → List Asn} {A Ah : Option Addr} {c ch gh : Nat} {xs : List S46} {hs : List S59} (S : Aside0 (St B w W L)) (hsp : Spot L (Own k46 46 A c xs) F) (hc2 : Spot L (Bk gh #[.slice Ah hs.length ch] 22) F2) (hC : ∀ W', Turn W W' (blkOf A) → Kd.C k59 W' Ah hs.length hs) (hc : hs.length ≤ ch) :
    Calls Try.prog 28 #[.slice A xs.length c, .func (.func 26) #[] #[.pointer (some ⟨gh, 0, none⟩)]] W fun z W' => z = .returned (.slice A (xs.filter (fun x => pas hs x.f1)).length c) ∧ Aside0 (St B w W' (F (Own k46 46 A c (xs.filter (fun x => pas hs x.f1))))) ∧ Turn W W' (blkOf A) := by
  have hO := pred_at S.out hsp
  have hne := cell_row_ne hO (pred_at S.out hc2) (by decide)
  have hcell := own_cell (g := gh) S hc2 0
  have hm : hs.length ≤ 9223372036854775807 := (hC W (Turn.refl _ _)).2.1
  have hk : ∀ (x : S46) W', Turn W W' (blkOf A) → Calls Try.prog 26 #[.agg #[.int .u16 x.f0, .int .u64 x.f1], .pointer (some ⟨gh, 0, none⟩)] W' fun z w' => z = .returned (.bool (!pas hs x.f1)) ∧ Below W'.heap.size W' w' := fun x W' T =>
    late_calls (hs.length + 1) x gh Ah ch hs (pas hs x.f1) W' (cell_turn T hne (hcell.trans rfl)) (hC W' T) hc (passed_f hs hm _ (by omega) _)
  cases A with
  | none =>
    obtain ⟨rfl, rfl⟩ := own_none hO
    refine (delete_26_nil gh (fun x => !pas hs x.f1) W hk).mono ?_
    rintro z W' ⟨rfl, hb⟩
    exact ⟨rfl, row_step S hsp (Turn.of_below _ hb) (Own.nil _ _ _), Turn.of_below _ hb⟩
  | some ad =>
    obtain ⟨g, rfl⟩ := own_head hO
    refine (delete_26_calls gh (fun x => !pas hs x.f1) g c xs W hO (fun x W' T => hk x W' (T.mono (fun k _ h => by rw [h]; rfl)))).mono ?_
    rintro z W' ⟨rfl, h1, T1⟩
    have T : Turn W W' (blkOf (some ⟨g, 0, none⟩)) := T1.mono (fun k _ h => by rw [h]; rfl)
    try simp only [Bool.not_not] at h1
    exact ⟨by first | rfl | simp only [Bool.not_not], row_step S hsp T h1, T⟩

theorem delete_30_nil (gh : Nat) (del : S46 → Bool) (w : World) (hk : ∀ x W', Turn w W' (blkOf none) → Calls Try.prog 30 #[.agg #[.int .u16 x.f0, .int .u64 x.f1], .pointer (some ⟨gh, 0, none⟩)] W' fun z w' => z = .returned (.bool (del x)) ∧ Below W'.heap.size W' w') :
    Calls Try.prog 28 #[.slice none 0 0, .func (.func 30) #[] #[.pointer (some ⟨gh, 0, none⟩)]] w fun z w' => z = .returned (.slice none 0 0) ∧ Below w.heap.size w w' := by
  have S := Aside0.mk (St.start w)
  have HK := Aside0.mk hk
  have HC0 := Aside0.mk (Own.reads (Own.nil k46 46 w))
  clear hk
  go_enter Try.func28, Try.ntmps28
  go_wp2_with (first | (go_at_call 31; have c_ := index30_calls gh del none 0 [] _ HC0.out (fun x W' hb => HK.out x W' (Turn.of_below _ hb)); simp only [List.length_nil, ix] at c_; (with_reducible refine c_.mono ?_); clear c_; rintro z_ w_ ⟨rfl, hb_⟩; have hb2_ := hb_; have S_ := Aside0.mk (S.out.keep hb2_); clear hb2_ hb_; clear S; have S := S_; clear S_))
  go_ret
  exact ⟨rfl, S.out.below⟩
theorem done_ev {B : Nat} {w W : World} {L : List Asn} {F F2 : Asn → List Asn} {A Ah : Option Addr} {c ch gh : Nat} {xs : List S46} {hs : List S59} (S : Aside0 (St B w W L)) (hsp : Spot L (Own k46 46 A c xs) F) (hc2 : Spot L (Bk gh #[.slice Ah hs.length ch] 22) F2) (hC : ∀ W', Turn W W' (blkOf A) → Kd.C k59 W' Ah hs.length hs) (hc : hs.length ≤ ch) :
    Calls Try.prog 28 #[.slice A xs.length c, .func (.func 30) #[] #[.pointer (some ⟨gh, 0, none⟩)]] W fun z W' => z = .returned (.slice A (xs.filter (fun x => !pas hs x.f1)).length c) ∧ Aside0 (St B w W' (F (Own k46 46 A c (xs.filter (fun x => !pas hs x.f1))))) ∧ Turn W W' (blkOf A) := by
  have hO := pred_at S.out hsp
  have hne := cell_row_ne hO (pred_at S.out hc2) (by decide)
  have hcell := own_cell (g := gh) S hc2 0
  have hm : hs.length ≤ 9223372036854775807 := (hC W (Turn.refl _ _)).2.1
  have hk : ∀ (x : S46) W', Turn W W' (blkOf A) → Calls Try.prog 30 #[.agg #[.int .u16 x.f0, .int .u64 x.f1], .pointer (some ⟨gh, 0, none⟩)] W' fun z w' => z = .returned (.bool (pas hs x.f1)) ∧ Below W'.heap.size W' w' := fun x W' T =>
    done_calls (hs.length + 1) x gh Ah ch hs (pas hs x.f1) W' (cell_turn T hne (hcell.trans rfl)) (hC W' T) hc (passed_f hs hm _ (by omega) _)
  cases A with
  | none =>
    obtain ⟨rfl, rfl⟩ := own_none hO
    refine (delete_30_nil gh (fun x => pas hs x.f1) W hk).mono ?_
    rintro z W' ⟨rfl, hb⟩
    exact ⟨rfl, row_step S hsp (Turn.of_below _ hb) (Own.nil _ _ _), Turn.of_below _ hb⟩
  | some ad =>
    obtain ⟨g, rfl⟩ := own_head hO
    refine (delete_30_calls gh (fun x => pas hs x.f1) g c xs W hO (fun x W' T => hk x W' (T.mono (fun k _ h => by rw [h]; rfl)))).mono ?_
    rintro z W' ⟨rfl, h1, T1⟩
    have T : Turn W W' (blkOf (some ⟨g, 0, none⟩)) := T1.mono (fun k _ h => by rw [h]; rfl)
    try simp only [Bool.not_not] at h1
    exact ⟨by first | rfl | simp only [Bool.not_not], row_step S hsp T h1, T⟩
end Go.Proofs.Ytajmfmgfdgdioaa.Cl
