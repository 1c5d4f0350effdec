/- The reader of bytes (wire.Reader): Word and Words. -/
import Derived.Test.YtglcbaellbhogaaReader2
import Derived.Test.YtglcbaellbhogaaBack
namespace Go.Proofs.Ytglcbaellbhogaa.Reader
open Go.RowKit Go.Shelf Go.Proofs.Ytglcbaellbhogaa.Sep Go.Proofs.YtglcbaellbhogaaW.PrintWords Go.Proofs.YtglcbaellbhogaaW.PrintLast Go.Proofs.YtglcbaellbhogaaW.PrintMore Go.Proofs.Ytglcbaellbhogaa.PB Go.Proofs.Ytglcbaellbhogaa.Back
attribute [local go_sem] Oper.semAt_some
set_option linter.unusedVariables false
set_option linter.unusedSimpArgs false

theorem bytes_of_C {w : World} {A : Option Addr} {c : Nat} {l : List Int} (h : Kd.C (Kd.int .u8) w A l.length l) : Bytes w.heap.size w (.slice A l.length c) l := by
  rcases Nat.eq_zero_or_pos l.length with h0 | h0
  · exact .inl ⟨A, c, by rw [h0], List.eq_nil_of_length_eq_zero h0⟩
  · obtain ⟨ad, rfl, _⟩ := h.2.2 h0
    have hcell : ∀ j, j < l.length → w.cell? (ad.add j) = some (.int .u8 (at0 l j)) := fun j hj => by
      obtain ⟨ad', b, e, hb, hc⟩ := byte_at h j hj
      injection e with e; subst e
      rw [hc, at0, hb]; rfl
    obtain ⟨b, off, spot⟩ := ad
    have hspot : spot = none := by simpa [Addr.add] using World.cell?_spot (hcell 0 h0)
    subst hspot
    have hc' : ∀ j, j < l.length → w.cell? ⟨b, off + j, none⟩ = some (.int .u8 (at0 l j)) := fun j hj => by rw [← Go.WideShapes.add_plain]; exact hcell j hj
    exact .inr ⟨b, off, c, rfl, h0, World.block_lt_of_cell? w _ (hc' 0 h0), hc'⟩
/-- The word that bytes make, the last one first. -/
def wsum (xs : List (Nat × Int)) : Int := xs.foldl (fun m x => bits BinOp.or IntKind.u32 (m * 256 % 4294967296) (x.2 % 4294967296)) 0
theorem wsum_snoc (xs : List (Nat × Int)) (x : Nat × Int) : wsum (xs ++ [x]) = bits BinOp.or IntKind.u32 (wsum xs * 256 % 4294967296) (x.2 % 4294967296) := by simp [wsum, List.foldl_append]
theorem cell_of_box_l {W : World} {B : Nat} {v : Value} {t : TypeId} (h : W.heap[B]? = some (.cells #[v] t (0, 0))) : W.cell? ⟨B, 0, none⟩ = some v ∧ W.frozen? ⟨B, 0, none⟩ = false := by
  constructor <;> simp [World.cell?, World.frozen?, h]
theorem cell_new_l (W : World) (v : Value) (t : TypeId) : (W.alloc (.cells #[v] t)).cell? ⟨W.heap.size, 0, none⟩ = some v ∧ (W.alloc (.cells #[v] t)).frozen? ⟨W.heap.size, 0, none⟩ = false :=
  cell_of_box_l (World.alloc_heap_new W _)
theorem cell_alloc_l {W : World} {a : Addr} {v : Value} (o : Obj) (h : W.cell? a = some v) : (W.alloc o).cell? a = some v := cell_kept h (World.grownBy_alloc W o none) (fun r e => by cases e)
theorem frozen_alloc_l {W : World} {a : Addr} {v : Value} (o : Obj) (h : W.cell? a = some v) (hf : W.frozen? a = false) : (W.alloc o).frozen? a = false := (frozen_kept h (World.grownBy_alloc W o none) (fun r e => by cases e)).trans hf
theorem kp_set {n₀ Bs : Nat} {W : World} {b o : Nat} (hb : n₀ ≤ b) (hne : Bs ≠ b) (v : Value) : Kp n₀ Bs W (W.setCell ⟨b, o, none⟩ v) :=
  ⟨(Below.refl n₀ W).setCell (p := ⟨b, o, none⟩) hb _, fun cs t fr e => (Below.heap_setCell W ⟨b, o, none⟩ v Bs hne).trans e⟩

def rWord (xs : List Int) (e : Int) : List Int × Int × Int :=
  ((rTake xs e 4).1, (rTake xs e 4).2.1, wsum (back (rTake xs e 4).2.2 (rTake xs e 4).2.2.length))

theorem rTake_len (xs : List Int) (e : Int) (n : Nat) : (rTake xs e n).2.2.length ≤ n := by
  unfold rTake
  split
  · split
    · simp; omega
    · simp
  · simp
set_option maxRecDepth 100000 in
set_option maxHeartbeats 2000000 in
theorem word_in (F : Fence) (n : Nat) (hf : F.fn 24) (h32 : F.fn 32) (h34 : F.fn 34) (h37 : F.fn 37) (hro : F.round = none) (hn : 3 ≤ n) (P : Value) (w : World) (n₀ : Nat) (hn₀ : n₀ ≤ w.heap.size) (G : World → Prop) (ys : List Int) (hl4 : ys.length ≤ 4)
    (hT : CallsIn F (n - 1) Try.prog 32 #[P, .int .i64 4] (w.alloc (.cells #[.int .u32 0] 22)) fun z w' => (∃ A c, z = .returned (.slice A ys.length c) ∧ Bytes n₀ w' (.slice A ys.length c) ys) ∧ G w' ∧ w.heap.size < w'.heap.size ∧ w'.heap[w.heap.size]? = some (.cells #[.int .u32 0] 22 (0, 0))) :
    CallsIn F n Try.prog 24 #[P] w fun e W' => e = .returned (.int .u32 (wsum (back ys ys.length))) ∧ ∃ w1, G w1 ∧ w.heap.size < w1.heap.size ∧ Below n₀ w1 W' := by
  have h1 : 1 ≤ n := by omega
  refine callsIn_of_wp_marks Try.func24 rfl hf ?_ hro
  simp only [Try.ntmps24, List.size_toArray, List.length_cons, List.length_nil, Nat.reduceAdd, Nat.reduceSub, Array.replicate_succ, Array.replicate_zero, List.push_toArray, List.append_toArray, List.nil_append, List.cons_append]
  gi_wp2_with (first
    | (gi_at_call 32; refine hT.mono ?_; rintro z w1 ⟨⟨A, c, rfl, hBy⟩, hG, hsz, hbx⟩; have HG := Aside0.mk hG; have HY := Aside0.mk hBy; have HX := Aside0.mk hbx; have HS := Aside0.mk hsz; clear hG hBy hbx hsz)
    | (gi_at_call 34; refine (backward_in F (n - 1) h34 hro _ _ _ _).mono ?_; rintro e w' ⟨rfl, rfl⟩))
  have hsz : w.heap.size < w1.heap.size := HS.out
  have c0 : w1.cell? ⟨w.heap.size, 0, none⟩ = some (.int .u32 0) ∧ w1.frozen? ⟨w.heap.size, 0, none⟩ = false := cell_of_box_l HX.out
  have hB0 : Below n₀ w1 (w1.alloc (.cells #[.slice A ys.length c] 23)) := (Below.refl n₀ w1).alloc (by omega) _
  have hbox : (w1.alloc (.cells #[.slice A ys.length c] 23)).heap[w1.heap.size]? = some (.cells #[.slice A ys.length c] 23 (0, 0)) := World.alloc_heap_new w1 _
  refine wpIn_rangeFunc_ownF hro h1 (gf := 37) (lb := #[.pointer (some ⟨w1.heap.size, 0, none⟩)]) rfl h37 (enters_of Try.func37 (by kernel_rfl) rfl)
    (back_stops F (n - 1) h37 hro (by omega) w1.heap.size n₀ (.slice A ys.length c) ys (by omega) _ (by simp; omega) hbox (HY.out.below hB0)) kp_t (kp_b (by simp; omega)) (Below.refl _ _) (fun _ => rfl)
    (fun pre W => (W.cell? ⟨w.heap.size, 0, none⟩ = some (.int .u32 (wsum pre)) ∧ W.frozen? ⟨w.heap.size, 0, none⟩ = false) ∧ Below n₀ w1 W)
    (fun _ _ _ => False)
    (OwnFrom.and (Own.from (fun s A B row hs hg hr => ⟨cell_kept hs.1 hg hr, (frozen_kept hs.1 hg hr).trans hs.2⟩) _) (ownFrom_below (by omega) (by simp; omega)))
    (fun _ _ _ _ _ hs _ _ => hs)
    ⟨⟨cell_alloc_l _ c0.1, frozen_alloc_l _ c0.1 c0.2⟩, hB0⟩
    (fun x => { tmps := #[P, undef, .int .u32 0, .pointer (some ⟨w.heap.size, 0, none⟩), undef, .int .u8 x.2, P, .slice A ys.length c, .func (.func 37) #[] #[.pointer (some ⟨w1.heap.size, 0, none⟩)], .int .i64 (x.1 : Int), .int .u8 x.2, undef, undef, undef, undef, undef, undef], defers := [] }) ?assign ?body ?done ?stop
  case assign =>
    intro l x W K hK
    simp only [enc2]
    gi_wp2
    exact hK
  case body =>
    rintro l pre x W ⟨⟨hc, hf⟩, hB⟩ _
    gi_wp2
    have e := wsum_snoc pre x
    exact ⟨KeepsOthers.setCell _ _ _, kp_set (by omega) (by omega) _, ⟨(World.cell?_setCell_same' _ _ _ (by rw [hc]; rfl)).trans (by rw [e]), by rw [World.frozen?_setCell]; exact hf⟩, hB.setCell (p := ⟨w.heap.size, 0, none⟩) hn₀ _⟩
  case done =>
    rintro D ys' W hD rfl ⟨⟨hc, _⟩, hB⟩ hK
    gi_wp2
    refine ⟨by simp, .inl ⟨_, _, rfl, run_takeDeferred hK, ?_⟩⟩
    exact ⟨_, results_tmp rfl _ _ _, rfl, _, HG.out, hsz, hB.trans (belowK_b (w := w1) (by omega) W D _ _ (by simp at hD; omega) hK rfl rfl)⟩
  case stop =>
    rintro D c pre W _ _ h _
    exact h.elim
theorem C_bytes {B : Nat} {w : World} {A : Option Addr} {c : Nat} {l : List Int} (h : Kd.C (Kd.int .u8) w A l.length l) (hB : ∀ ad, A = some ad → 0 < l.length → ad.block < B) : Bytes B w (.slice A l.length c) l := by
  rcases bytes_of_C (c := c) h with ⟨a, c', h1, rfl⟩ | ⟨b, off, cap, e, h0, hb, hc⟩
  · exact .inl ⟨a, c', h1, rfl⟩
  · injection e with e1 e2 e3
    exact .inr ⟨b, off, cap, by rw [e1, e3], h0, hB _ e1 h0, hc⟩
theorem wordR {B : Nat} (g : Nat) (xs : List Int) (e : Int) (w : World) (h : Rd B w g xs e) (hB : B ≤ w.heap.size) :
    Calls Try.prog 24 #[.pointer (some ⟨g, 0, none⟩)] w fun z w' => z = .returned (.int .u32 (rWord xs e).2.2) ∧ Rd B w' g (rWord xs e).1 (rWord xs e).2.1 ∧ Turn w w' g := by
  have hg : g < B := by obtain ⟨A, c, h1, h2, h3, h4, h5⟩ := h; exact h5
  have hb := (Below.refl w.heap.size w).alloc (Nat.le_refl _) (.cells #[.int .u32 0] 22)
  refine (callsIn_wide.1 (word_in Fence.wide 3 trivial trivial trivial trivial rfl (Nat.le_refl _) (.pointer (some ⟨g, 0, none⟩)) w w.heap.size (Nat.le_refl _) (fun w1 => Rd B w1 g (rTake xs e 4).1 (rTake xs e 4).2.1 ∧ Turn (w.alloc (.cells #[.int .u32 0] 22)) w1 g) (rTake xs e 4).2.2 (rTake_len _ _ _) ?_)).mono ?_
  · refine callsIn_wide.2 ((takeR (B := B) g xs e 4 _ (h.below (hb.mono hB))).mono ?_)
    rintro z w' ⟨⟨A, c, rfl, hc, hC, hf⟩, hR, hT⟩
    have hsz := hT.size
    rw [World.size_alloc] at hsz
    refine ⟨⟨A, c, rfl, C_bytes hC (fun ad ha hp => by have := (hf ad ha hp).2; omega)⟩, ⟨hR, hT⟩, by omega, ?_⟩
    rw [hT.block w.heap.size (by rw [World.size_alloc]; omega) (by omega)]
    exact World.alloc_heap_new w _
  · rintro z w' ⟨rfl, w1, ⟨hR, hT⟩, hsz, hb1⟩
    have hT2 : Turn w w1 g := (Turn.of_below g hb).trans hT
    exact ⟨rfl, hR.below (hb1.mono hB), hT2.under hb1⟩
end Go.Proofs.Ytglcbaellbhogaa.Reader
