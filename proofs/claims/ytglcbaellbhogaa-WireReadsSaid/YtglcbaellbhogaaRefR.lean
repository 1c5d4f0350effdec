/- The document's reader (budwoodref03.Reader), a value: its methods, each once. -/
import Derived.Test.YtglcbaellbhogaaReader4
import Derived.RegionTactic
import Derived.BigRegion
namespace Go.Proofs.Ytglcbaellbhogaa.RefR
open Go.RowKit Go.Proofs.Ytglcbaellbhogaa.Sep Go.Proofs.YtglcbaellbhogaaW.PrintWords Go.Proofs.YtglcbaellbhogaaW.PrintLast Go.Proofs.YtglcbaellbhogaaW.PrintMore Go.Proofs.Ytglcbaellbhogaa.PB Go.Proofs.Ytglcbaellbhogaa.Reader
attribute [local go_sem] max2_int min2_int max_two min_two max_three min_three max_four min_four
set_option linter.unusedVariables false
set_option linter.unusedSimpArgs false

/-- A reader as a value; its bytes lie below B. -/
def RS (B : Nat) (w : World) (v : Value) (xs : List Int) (e : Int) : Prop := ∃ A c, v = .agg #[.slice A xs.length c, .int .i64 e] ∧ xs.length ≤ c ∧ Kd.C (Kd.int .u8) w A xs.length xs ∧ (∀ ad, A = some ad → 0 < xs.length → ad.block < B)
theorem C_back {B : Nat} {w w' : World} {A : Option Addr} {n : Nat} {xs : List Int} (h : Kd.C (Kd.int .u8) w' A n xs) (hb : Below B w w') (hf : ∀ ad, A = some ad → 0 < n → ad.block < B) : Kd.C (Kd.int .u8) w A n xs := by
  refine ⟨h.1, h.2.1, fun hn => ?_⟩
  obtain ⟨ad, e, hc⟩ := h.2.2 hn
  have hB := hf ad e hn
  refine ⟨ad, e, fun j p hj => ?_⟩
  obtain ⟨cs, h1, h2, h3⟩ := hc j p hj
  refine ⟨cs, h1, h2, fun i u hu => ?_⟩
  have := h3 i u hu
  rw [← this]
  refine (hb.cell ?_).symm
  unfold Addr.add
  split <;> simpa using hB
theorem RS.under {B : Nat} {w w' : World} {v : Value} {xs : List Int} {e : Int} (h : RS B w v xs e) (hb : Below B w w') : RS B w' v xs e := by
  obtain ⟨A, c, h1, h2, h3, h4⟩ := h
  exact ⟨A, c, h1, h2, C_under h3 hb h4, h4⟩
theorem RS.back {B : Nat} {w w' : World} {v : Value} {xs : List Int} {e : Int} (h : RS B w' v xs e) (hb : Below B w w') : RS B w v xs e := by
  obtain ⟨A, c, h1, h2, h3, h4⟩ := h
  exact ⟨A, c, h1, h2, C_back h3 hb h4, h4⟩
theorem RS.stopped (B : Nat) (w : World) (e : Int) : RS B w (.agg #[.slice none 0 0, .int .i64 e]) [] e := ⟨none, 0, rfl, Nat.le_refl _, Kd.C_nil _ _, fun ad h => by cases h⟩
theorem rstop (e : Int) (w : World) : Calls Try.prog 35 #[.int .i64 e] w fun z w' => z = .returned (.agg #[.slice none 0 0, .int .i64 e]) ∧ Below w.heap.size w w' := by
  go_enter Try.func35, Try.ntmps35
  go_wp2
  exact bodyPost_ret (v := .agg #[.slice none 0 0, .int .i64 e]) (by simp [results, Try.results35, go_sem]) rfl ⟨rfl, (Below.refl _ _).alloc (Nat.le_refl _) _⟩
theorem rtake_go (A : Option Addr) (xs : List Int) (c n : Nat) (w : World) (hc : xs.length ≤ c) (hn : n ≤ xs.length) (hm : xs.length ≤ 9223372036854775807) :
    Calls Try.prog 36 #[.agg #[.slice A xs.length c, .int .i64 0], .int .i64 (n : Int)] w fun z w' => z = .returned (.tuple #[.agg #[.slice (if c = n then A else A.map (·.add n)) (xs.length - n) (c - n), .int .i64 0], .slice A n c]) ∧ Below w.heap.size w w' := by
  have hn1 : decide (xs.length < n) = false := decide_eq_false (by omega)
  by_cases hcn : c = n
  · go_enter Try.func36, Try.ntmps36
    go_wp2
    go_region
    go_wp2
    exact bodyPost_ret (v := .tuple #[.agg #[.slice A (xs.length - n) 0, .int .i64 0], .slice A n n]) (by simp [results, Try.results36, go_sem]) rfl ⟨by simp [hcn], (((Below.refl _ _).alloc (Nat.le_refl _) _).alloc (by simp) _).drew⟩
  · go_enter Try.func36, Try.ntmps36
    go_wp2
    go_region
    go_wp2
    exact bodyPost_ret (v := .tuple #[.agg #[.slice (A.map (·.add n)) (xs.length - n) (c - n), .int .i64 0], .slice A n c]) (by simp [results, Try.results36, go_sem]) rfl ⟨by simp [hcn], (((Below.refl _ _).alloc (Nat.le_refl _) _).alloc (by simp) _).drew⟩
theorem rtake_down (A : Option Addr) (m c : Nat) (n e : Int) (w : World) (he : (e != 0) = true) :
    Calls Try.prog 36 #[.agg #[.slice A m c, .int .i64 e], .int .i64 n] w fun z w' => z = .returned (.tuple #[.agg #[.slice A m c, .int .i64 e], .slice none 0 0]) ∧ Below w.heap.size w w' := by
  go_enter Try.func36, Try.ntmps36
  go_wp2
  exact bodyPost_ret (v := .tuple #[.agg #[.slice A m c, .int .i64 e], .slice none 0 0]) (by simp [results, Try.results36, go_sem]) rfl ⟨rfl, ((Below.refl _ _).alloc (Nat.le_refl _) _).alloc (by simp) _⟩
theorem rtake_cut (A : Option Addr) (xs : List Int) (c n : Nat) (w : World) (hn : xs.length < n) :
    Calls Try.prog 36 #[.agg #[.slice A xs.length c, .int .i64 0], .int .i64 (n : Int)] w fun z w' => z = .returned (.tuple #[.agg #[.slice none 0 0, .int .i64 3], .slice none 0 0]) ∧ Below w.heap.size w w' := by
  have hn1 : decide (xs.length < n) = true := decide_eq_true (by omega)
  have S := Aside0.mk (St.start w)
  go_enter Try.func36, Try.ntmps36
  go_wp2_with (first | ((with_reducible refine gate_dst (N := 2) rfl ?_); refine box_event ?hg (N := 2) ?hd (cs := #[.slice A xs.length c, .int .i64 0]) (t := 41) ?hr ?_; (case hd => rfl); (case hg => rfl); (case hr => first | (go_simp; done) | (go_simp; rfl)); intro g1 hgN w1 hbox hbN; have n0_ := Aside0.mk (St.boxed (by repeat (first | exact S.out | apply St.drewN | apply St.drew)) hgN hbox hbN); clear S; have S := n0_; clear n0_ hgN hbox hbN; have hB_g1 := S.out.blk (g := g1) (cs := #[.slice A xs.length c, .int .i64 0]) (t := 41) (List.mem_of_getElem? (i := 0) rfl); have hc_g1_0 : w1.cell? ⟨g1, 0, none⟩ = some (.slice A xs.length c) := (cell_blk hB_g1 0).trans rfl; have hf_g1_0 := frozen_blk hB_g1 0; have hc_g1_1 : w1.cell? ⟨g1, 1, none⟩ = some (.int .i64 0) := (cell_blk hB_g1 1).trans rfl; have hf_g1_1 := frozen_blk hB_g1 1; clear hB_g1) | ((with_reducible refine gate_dst (N := 4) rfl ?_); refine box_event ?hg (N := 4) ?hd (cs := #[.slice none 0 0, .int .i64 0]) (t := 41) ?hr ?_; (case hd => rfl); (case hg => rfl); (case hr => first | (go_simp; done) | (go_simp; rfl)); intro g2 hgN w2 hbox hbN; have n0_ := Aside0.mk (St.boxed (by repeat (first | exact S.out | apply St.drewN | apply St.drew)) hgN hbox hbN); clear S; have S := n0_; clear n0_ hgN hbox hbN; clear hc_g1_0 hf_g1_0 hc_g1_1 hf_g1_1; have hB_g2 := S.out.blk (g := g2) (cs := #[.slice none 0 0, .int .i64 0]) (t := 41) (List.mem_of_getElem? (i := 0) rfl); have hc_g2_0 : w2.cell? ⟨g2, 0, none⟩ = some (.slice none 0 0) := (cell_blk hB_g2 0).trans rfl; have hf_g2_0 := frozen_blk hB_g2 0; have hc_g2_1 : w2.cell? ⟨g2, 1, none⟩ = some (.int .i64 0) := (cell_blk hB_g2 1).trans rfl; have hf_g2_1 := frozen_blk hB_g2 1; clear hB_g2; have hB_g1 := S.out.blk (g := g1) (cs := #[.slice A xs.length c, .int .i64 0]) (t := 41) (List.mem_of_getElem? (i := 1) rfl); have hc_g1_0 : w2.cell? ⟨g1, 0, none⟩ = some (.slice A xs.length c) := (cell_blk hB_g1 0).trans rfl; have hf_g1_0 := frozen_blk hB_g1 0; have hc_g1_1 : w2.cell? ⟨g1, 1, none⟩ = some (.int .i64 0) := (cell_blk hB_g1 1).trans rfl; have hf_g1_1 := frozen_blk hB_g1 1; clear hB_g1) | (go_at_call 35; refine (rstop _ _).mono ?_; rintro e w3 ⟨rfl, hb⟩; have n0_ := Aside0.mk (St.keep (by repeat (first | exact S.out | apply St.drewN | apply St.drew)) hb); clear S; have S := n0_; clear n0_ hb; clear hc_g2_0 hf_g2_0 hc_g2_1 hf_g2_1 hc_g1_0 hf_g1_0 hc_g1_1 hf_g1_1; have hB_g2 := S.out.blk (g := g2) (cs := #[.slice none 0 0, .int .i64 0]) (t := 41) (List.mem_of_getElem? (i := 0) rfl); have hc_g2_0 : w3.cell? ⟨g2, 0, none⟩ = some (.slice none 0 0) := (cell_blk hB_g2 0).trans rfl; have hf_g2_0 := frozen_blk hB_g2 0; have hc_g2_1 : w3.cell? ⟨g2, 1, none⟩ = some (.int .i64 0) := (cell_blk hB_g2 1).trans rfl; have hf_g2_1 := frozen_blk hB_g2 1; clear hB_g2; have hB_g1 := S.out.blk (g := g1) (cs := #[.slice A xs.length c, .int .i64 0]) (t := 41) (List.mem_of_getElem? (i := 1) rfl); have hc_g1_0 : w3.cell? ⟨g1, 0, none⟩ = some (.slice A xs.length c) := (cell_blk hB_g1 0).trans rfl; have hf_g1_0 := frozen_blk hB_g1 0; have hc_g1_1 : w3.cell? ⟨g1, 1, none⟩ = some (.int .i64 0) := (cell_blk hB_g1 1).trans rfl; have hf_g1_1 := frozen_blk hB_g1 1; clear hB_g1) | ((with_reducible refine gate_store (t := 41) (p := 4) rfl ?_); refine store_event (t := 41) (p := 4) (v := ?vo_w4) (w1 := ?w1_w4) ?hg ?ho ?hn ?hr ?_; (case ho => rfl); (case hg => rfl); (case hn => rfl); (case hr => first | (go_simp; done) | (go_simp; rfl)); intro w4 hw; have n0_ : Aside0 (St w w4 [Blk g2 #[.slice none 0 0, .int .i64 3] 41, Blk g1 #[.slice A xs.length c, .int .i64 0] 41]) := ⟨by rw [hw]; exact (St.set (pre := []) (post := [Blk g1 #[.slice A xs.length c, .int .i64 0] 41]) (g := g2) (cs := #[.slice none 0 0, .int .i64 0]) (t := 41) (St.set (pre := []) (post := [Blk g1 #[.slice A xs.length c, .int .i64 0] 41]) (g := g2) (cs := #[.slice none 0 0, .int .i64 0]) (t := 41) (by repeat (first | exact S.out | apply St.drewN | apply St.drew)) 0 (.slice none 0 0)) 1 (.int .i64 3))⟩; clear S; have S := n0_; clear n0_ hw; clear hc_g2_0 hf_g2_0 hc_g2_1 hf_g2_1 hc_g1_0 hf_g1_0 hc_g1_1 hf_g1_1; have hB_g2 := S.out.blk (g := g2) (cs := #[.slice none 0 0, .int .i64 3]) (t := 41) (List.mem_of_getElem? (i := 0) rfl); have hc_g2_0 : w4.cell? ⟨g2, 0, none⟩ = some (.slice none 0 0) := (cell_blk hB_g2 0).trans rfl; have hf_g2_0 := frozen_blk hB_g2 0; have hc_g2_1 : w4.cell? ⟨g2, 1, none⟩ = some (.int .i64 3) := (cell_blk hB_g2 1).trans rfl; have hf_g2_1 := frozen_blk hB_g2 1; clear hB_g2; have hB_g1 := S.out.blk (g := g1) (cs := #[.slice A xs.length c, .int .i64 0]) (t := 41) (List.mem_of_getElem? (i := 1) rfl); have hc_g1_0 : w4.cell? ⟨g1, 0, none⟩ = some (.slice A xs.length c) := (cell_blk hB_g1 0).trans rfl; have hf_g1_0 := frozen_blk hB_g1 0; have hc_g1_1 : w4.cell? ⟨g1, 1, none⟩ = some (.int .i64 0) := (cell_blk hB_g1 1).trans rfl; have hf_g1_1 := frozen_blk hB_g1 1; clear hB_g1))
  exact bodyPost_ret (v := .tuple #[.agg #[.slice none 0 0, .int .i64 3], .slice none 0 0]) (by simp [results, Try.results36, go_sem, hc_g2_0, hc_g2_1]) rfl ⟨rfl, S.out.below⟩
/-- One more byte of a number, as the document adds it. -/
abbrev rx (b nv : Int) (i : Nat) : Int := IntKind.u64.wrap (nv + IntKind.u64.wrap (b % 128 * 2 ^ (7 * i)))
/-- What reading a number does, from byte i on: by how much the reader goes on (none: it stops), its error, the number. -/
def rvr (xs : List Int) (most : Int) : Nat → Nat → Int → Option Nat × Int × Int
  | 0, _, _ => (none, 4, 0)
  | k + 1, i, nv => match xs[i]? with
    | none => (none, 3, 0)
    | some b => if 128 ≤ b then rvr xs most k (i + 1) (rx b nv i)
      else if 4294967295 < rx b nv i ∨ (0 < i ∧ b = 0) then (none, 4, 0) else if IntKind.u64.wrap most < rx b nv i then (none, 5, 0) else (some (i + 1), 0, rx b nv i % 4294967296)
/-- What is left behind it. -/
def lft (xs : List Int) : Option Nat → List Int
  | none => []
  | some j => xs.drop j
/-- A reader and a value are handed back; what lay below lies as it did. -/
def Two (B : Nat) (w : World) (xs : List Int) (e : Int) (r : Value → Prop) (z : Ending) (w' : World) : Prop := ∃ v u, z = .returned (.tuple #[v, u]) ∧ RS B w v xs e ∧ r u ∧ Below w.heap.size w w'
set_option maxHeartbeats 2000000 in
theorem rvar_calls {B : Nat} (A : Option Addr) (xs : List Int) (c : Nat) (most : Int) (w : World) (hC : Kd.C (Kd.int .u8) w A xs.length xs) (hc : xs.length ≤ c) (hm : xs.length ≤ 9223372036854775807) (hbd : ∀ x ∈ xs, 0 ≤ x ∧ x < 256) (hf : ∀ ad, A = some ad → 0 < xs.length → ad.block < B) (adv : Option Nat) (e' r : Int) (H0 : rvr xs most 5 0 0 = (adv, e', r)) :
    Calls Try.prog 28 #[.agg #[.slice A xs.length c, .int .i64 0], .int .u32 most] w (Two B w (lft xs adv) e' (fun u => u = .int .u32 r)) := by
  have S := Aside0.mk (St.start w)
  have HR := Aside0.mk hC; clear hC
  have HC := Aside0.mk hc
  have HF := Aside0.mk hf; clear hf
  have HBD := Aside0.mk hbd; clear hbd
  go_enter Try.func28, Try.ntmps28
  go_wp2_with (first | ((with_reducible refine gate_dst (N := 2) rfl ?_); refine box_event ?hg (N := 2) ?hd (cs := #[.slice A xs.length c, .int .i64 0]) (t := 41) ?hr ?_; (case hd => rfl); (case hg => rfl); (case hr => first | (go_simp; done) | (go_simp; rfl)); intro g1 hgN w1 hbox hbN; have n0_ := Aside0.mk (St.boxed (by repeat (first | exact S.out | apply St.drewN | apply St.drew)) hgN hbox hbN); clear S; have S := n0_; clear n0_ hgN hbox hbN; have hB_g1 := S.out.blk (g := g1) (cs := #[.slice A xs.length c, .int .i64 0]) (t := 41) (List.mem_of_getElem? (i := 0) rfl); have hc_g1_0 : w1.cell? ⟨g1, 0, none⟩ = some (.slice A xs.length c) := (cell_blk hB_g1 0).trans rfl; have hf_g1_0 := frozen_blk hB_g1 0; have hc_g1_1 : w1.cell? ⟨g1, 1, none⟩ = some (.int .i64 0) := (cell_blk hB_g1 1).trans rfl; have hf_g1_1 := frozen_blk hB_g1 1; clear hB_g1) | ((with_reducible refine gate_dst (N := 4) rfl ?_); refine box_event ?hg (N := 4) ?hd (cs := #[.slice none 0 0, .int .i64 0]) (t := 41) ?hr ?_; (case hd => rfl); (case hg => rfl); (case hr => first | (go_simp; done) | (go_simp; rfl)); intro g2 hgN w2 hbox hbN; have n0_ := Aside0.mk (St.boxed (by repeat (first | exact S.out | apply St.drewN | apply St.drew)) hgN hbox hbN); clear S; have S := n0_; clear n0_ hgN hbox hbN; clear hc_g1_0 hf_g1_0 hc_g1_1 hf_g1_1; have hB_g2 := S.out.blk (g := g2) (cs := #[.slice none 0 0, .int .i64 0]) (t := 41) (List.mem_of_getElem? (i := 0) rfl); have hc_g2_0 : w2.cell? ⟨g2, 0, none⟩ = some (.slice none 0 0) := (cell_blk hB_g2 0).trans rfl; have hf_g2_0 := frozen_blk hB_g2 0; have hc_g2_1 : w2.cell? ⟨g2, 1, none⟩ = some (.int .i64 0) := (cell_blk hB_g2 1).trans rfl; have hf_g2_1 := frozen_blk hB_g2 1; clear hB_g2; have hB_g1 := S.out.blk (g := g1) (cs := #[.slice A xs.length c, .int .i64 0]) (t := 41) (List.mem_of_getElem? (i := 1) rfl); have hc_g1_0 : w2.cell? ⟨g1, 0, none⟩ = some (.slice A xs.length c) := (cell_blk hB_g1 0).trans rfl; have hf_g1_0 := frozen_blk hB_g1 0; have hc_g1_1 : w2.cell? ⟨g1, 1, none⟩ = some (.int .i64 0) := (cell_blk hB_g1 1).trans rfl; have hf_g1_1 := frozen_blk hB_g1 1; clear hB_g1))
  have HG2 := Aside0.mk (S.out.new (Blk g2 #[.slice none 0 0, .int .i64 0] 41) (List.mem_of_getElem? (i := 0) rfl) g2 rfl)
  clear hc
  go_loopg [6, 7] 5 (fun k v6 v7 w' => ∃ (nv : Int) (i : Nat), v6 = .int .u64 nv ∧ v7 = .int .i64 i ∧ k + i = 5 ∧ i ≤ xs.length ∧ w' = w2 ∧ Aside0 (rvr xs most k i nv = (adv, e', r)))
  case atStart => exact ⟨0, 0, rfl, rfl, rfl, Nat.zero_le _, rfl, ⟨H0⟩⟩
  case round =>
    clear H0
    obtain ⟨nv, i, rfl, rfl, hki, hix, rfl, H⟩ := hrel
    cases gk with
    | zero =>
      obtain rfl : i = 5 := by omega
      replace H := H.out
      simp only [rvr] at H
      injection H with H1 H2; injection H2 with H2 H3; subst H1; subst H2; subst H3
      go_wp2_with (first | (go_at_call 35; refine (rstop _ _).mono ?_; rintro e w3 ⟨rfl, hb⟩; have n0_ := Aside0.mk (St.keep (by repeat (first | exact S.out | apply St.drewN | apply St.drew)) hb); clear S; have S := n0_; clear n0_ hb; clear hc_g2_0 hf_g2_0 hc_g2_1 hf_g2_1 hc_g1_0 hf_g1_0 hc_g1_1 hf_g1_1; have hB_g2 := S.out.blk (g := g2) (cs := #[.slice none 0 0, .int .i64 0]) (t := 41) (List.mem_of_getElem? (i := 0) rfl); have hc_g2_0 : w3.cell? ⟨g2, 0, none⟩ = some (.slice none 0 0) := (cell_blk hB_g2 0).trans rfl; have hf_g2_0 := frozen_blk hB_g2 0; have hc_g2_1 : w3.cell? ⟨g2, 1, none⟩ = some (.int .i64 0) := (cell_blk hB_g2 1).trans rfl; have hf_g2_1 := frozen_blk hB_g2 1; clear hB_g2; have hB_g1 := S.out.blk (g := g1) (cs := #[.slice A xs.length c, .int .i64 0]) (t := 41) (List.mem_of_getElem? (i := 1) rfl); have hc_g1_0 : w3.cell? ⟨g1, 0, none⟩ = some (.slice A xs.length c) := (cell_blk hB_g1 0).trans rfl; have hf_g1_0 := frozen_blk hB_g1 0; have hc_g1_1 : w3.cell? ⟨g1, 1, none⟩ = some (.int .i64 0) := (cell_blk hB_g1 1).trans rfl; have hf_g1_1 := frozen_blk hB_g1 1; clear hB_g1) | ((with_reducible refine gate_store (t := 41) (p := 4) rfl ?_); refine store_event (t := 41) (p := 4) (v := ?vo_w4) (w1 := ?w1_w4) ?hg ?ho ?hn ?hr ?_; (case ho => rfl); (case hg => rfl); (case hn => rfl); (case hr => first | (go_simp; done) | (go_simp; rfl)); intro w4 hw; have n0_ : Aside0 (St w w4 [Blk g2 #[.slice none 0 0, .int .i64 4] 41, Blk g1 #[.slice A xs.length c, .int .i64 0] 41]) := ⟨by rw [hw]; exact (St.set (pre := []) (post := [Blk g1 #[.slice A xs.length c, .int .i64 0] 41]) (g := g2) (cs := #[.slice none 0 0, .int .i64 0]) (t := 41) (St.set (pre := []) (post := [Blk g1 #[.slice A xs.length c, .int .i64 0] 41]) (g := g2) (cs := #[.slice none 0 0, .int .i64 0]) (t := 41) (by repeat (first | exact S.out | apply St.drewN | apply St.drew)) 0 (.slice none 0 0)) 1 (.int .i64 4))⟩; clear S; have S := n0_; clear n0_ hw; clear hc_g2_0 hf_g2_0 hc_g2_1 hf_g2_1 hc_g1_0 hf_g1_0 hc_g1_1 hf_g1_1; have hB_g2 := S.out.blk (g := g2) (cs := #[.slice none 0 0, .int .i64 4]) (t := 41) (List.mem_of_getElem? (i := 0) rfl); have hc_g2_0 : w4.cell? ⟨g2, 0, none⟩ = some (.slice none 0 0) := (cell_blk hB_g2 0).trans rfl; have hf_g2_0 := frozen_blk hB_g2 0; have hc_g2_1 : w4.cell? ⟨g2, 1, none⟩ = some (.int .i64 4) := (cell_blk hB_g2 1).trans rfl; have hf_g2_1 := frozen_blk hB_g2 1; clear hB_g2; have hB_g1 := S.out.blk (g := g1) (cs := #[.slice A xs.length c, .int .i64 0]) (t := 41) (List.mem_of_getElem? (i := 1) rfl); have hc_g1_0 : w4.cell? ⟨g1, 0, none⟩ = some (.slice A xs.length c) := (cell_blk hB_g1 0).trans rfl; have hf_g1_0 := frozen_blk hB_g1 0; have hc_g1_1 : w4.cell? ⟨g1, 1, none⟩ = some (.int .i64 0) := (cell_blk hB_g1 1).trans rfl; have hf_g1_1 := frozen_blk hB_g1 1; clear hB_g1))
      exact bodyPost_ret (v := .tuple #[.agg #[.slice none 0 0, .int .i64 4], .int .u32 0]) (by simp [results, Try.results28, go_sem, hc_g2_0, hc_g2_1]) rfl ⟨_, _, rfl, RS.stopped _ _ _, rfl, by first | exact S.out.below | exact ((S.out.below.setCell (p := ⟨g2, 0, none⟩) HG2.out _).setCell (p := ⟨g2, 1, none⟩) HG2.out _)⟩
    | succ k =>
    have hc1 : decide ((i : Int) < 5) = true := decide_eq_true (by omega)
    by_cases hi : i < xs.length
    · obtain ⟨ad, b, rfl, hb, hx⟩ : ∃ ad b, A = some ad ∧ xs[i]? = some b ∧ wr.cell? (ad.add i) = some (.int .u8 b) := byte_at (Kd.C_below HR.out S.out.below) i hi
      have hc3 : decide ((i : Int) < (xs.length : Int)) = true := decide_eq_true (by omega)
      have hc4 : decide ((xs.length : Int) ≤ (i : Int)) = false := decide_eq_false (by omega)
      have hc5 : decide (xs.length ≤ i) = false := decide_eq_false (by omega)
      replace H := H.out
      simp only [rvr, hb] at H
      have hb0 := (HBD.out b (List.mem_of_getElem? hb)).1
      have hb1 := (HBD.out b (List.mem_of_getElem? hb)).2
      clear hb
      by_cases h7 : 128 ≤ b
      · rw [if_pos h7] at H
        have HH := Aside0.mk H
        clear H
        go_wp2
        go_roundg k
        case measure => omega
        case rel => exact ⟨_, i + 1, rfl, by go_num, by omega, by omega, rfl, HH⟩
      · rw [if_neg h7] at H
        have h7' : decide (128 ≤ b) = false := decide_eq_false h7
        clear h7
        by_cases h8 : 4294967295 < rx b nv i
        · rw [if_pos (.inl h8)] at H
          injection H with H1 H2; injection H2 with H2 H3; subst H1; subst H2; subst H3
          have h8' := decide_eq_true h8
          go_wp2_with (first | (go_at_call 35; refine (rstop _ _).mono ?_; rintro e w3 ⟨rfl, hb⟩; have n0_ := Aside0.mk (St.keep (by repeat (first | exact S.out | apply St.drewN | apply St.drew)) hb); clear S; have S := n0_; clear n0_ hb; clear hc_g2_0 hf_g2_0 hc_g2_1 hf_g2_1 hc_g1_0 hf_g1_0 hc_g1_1 hf_g1_1; have hB_g2 := S.out.blk (g := g2) (cs := #[.slice none 0 0, .int .i64 0]) (t := 41) (List.mem_of_getElem? (i := 0) rfl); have hc_g2_0 : w3.cell? ⟨g2, 0, none⟩ = some (.slice none 0 0) := (cell_blk hB_g2 0).trans rfl; have hf_g2_0 := frozen_blk hB_g2 0; have hc_g2_1 : w3.cell? ⟨g2, 1, none⟩ = some (.int .i64 0) := (cell_blk hB_g2 1).trans rfl; have hf_g2_1 := frozen_blk hB_g2 1; clear hB_g2; have hB_g1 := S.out.blk (g := g1) (cs := #[.slice (some ad) xs.length c, .int .i64 0]) (t := 41) (List.mem_of_getElem? (i := 1) rfl); have hc_g1_0 : w3.cell? ⟨g1, 0, none⟩ = some (.slice (some ad) xs.length c) := (cell_blk hB_g1 0).trans rfl; have hf_g1_0 := frozen_blk hB_g1 0; have hc_g1_1 : w3.cell? ⟨g1, 1, none⟩ = some (.int .i64 0) := (cell_blk hB_g1 1).trans rfl; have hf_g1_1 := frozen_blk hB_g1 1; clear hB_g1) | ((with_reducible refine gate_store (t := 41) (p := 4) rfl ?_); refine store_event (t := 41) (p := 4) (v := ?vo_w4) (w1 := ?w1_w4) ?hg ?ho ?hn ?hr ?_; (case ho => rfl); (case hg => rfl); (case hn => rfl); (case hr => first | (go_simp; done) | (go_simp; rfl)); intro w4 hw; have n0_ : Aside0 (St w w4 [Blk g2 #[.slice none 0 0, .int .i64 4] 41, Blk g1 #[.slice (some ad) xs.length c, .int .i64 0] 41]) := ⟨by rw [hw]; exact (St.set (pre := []) (post := [Blk g1 #[.slice (some ad) xs.length c, .int .i64 0] 41]) (g := g2) (cs := #[.slice none 0 0, .int .i64 0]) (t := 41) (St.set (pre := []) (post := [Blk g1 #[.slice (some ad) xs.length c, .int .i64 0] 41]) (g := g2) (cs := #[.slice none 0 0, .int .i64 0]) (t := 41) (by repeat (first | exact S.out | apply St.drewN | apply St.drew)) 0 (.slice none 0 0)) 1 (.int .i64 4))⟩; clear S; have S := n0_; clear n0_ hw; clear hc_g2_0 hf_g2_0 hc_g2_1 hf_g2_1 hc_g1_0 hf_g1_0 hc_g1_1 hf_g1_1; have hB_g2 := S.out.blk (g := g2) (cs := #[.slice none 0 0, .int .i64 4]) (t := 41) (List.mem_of_getElem? (i := 0) rfl); have hc_g2_0 : w4.cell? ⟨g2, 0, none⟩ = some (.slice none 0 0) := (cell_blk hB_g2 0).trans rfl; have hf_g2_0 := frozen_blk hB_g2 0; have hc_g2_1 : w4.cell? ⟨g2, 1, none⟩ = some (.int .i64 4) := (cell_blk hB_g2 1).trans rfl; have hf_g2_1 := frozen_blk hB_g2 1; clear hB_g2; have hB_g1 := S.out.blk (g := g1) (cs := #[.slice (some ad) xs.length c, .int .i64 0]) (t := 41) (List.mem_of_getElem? (i := 1) rfl); have hc_g1_0 : w4.cell? ⟨g1, 0, none⟩ = some (.slice (some ad) xs.length c) := (cell_blk hB_g1 0).trans rfl; have hf_g1_0 := frozen_blk hB_g1 0; have hc_g1_1 : w4.cell? ⟨g1, 1, none⟩ = some (.int .i64 0) := (cell_blk hB_g1 1).trans rfl; have hf_g1_1 := frozen_blk hB_g1 1; clear hB_g1))
          exact bodyPost_ret (v := .tuple #[.agg #[.slice none 0 0, .int .i64 4], .int .u32 0]) (by simp [results, Try.results28, go_sem, hc_g2_0, hc_g2_1]) rfl ⟨_, _, rfl, RS.stopped _ _ _, rfl, by first | exact S.out.below | exact ((S.out.below.setCell (p := ⟨g2, 0, none⟩) HG2.out _).setCell (p := ⟨g2, 1, none⟩) HG2.out _)⟩
        · have h8' : decide (4294967295 < rx b nv i) = false := decide_eq_false h8
          by_cases h9 : 0 < i ∧ b = 0
          · rw [if_pos (.inr h9)] at H
            injection H with H1 H2; injection H2 with H2 H3; subst H1; subst H2; subst H3
            obtain ⟨h91, h90⟩ := h9
            have h94 : (b == 0) = true := beq_iff_eq.mpr h90
            clear h90
            have h92 : decide (0 < i) = true := decide_eq_true h91
            have h93 : decide (0 < (i : Int)) = true := decide_eq_true (by omega)
            go_wp2_with (first | (go_at_call 35; refine (rstop _ _).mono ?_; rintro e w3 ⟨rfl, hb⟩; have n0_ := Aside0.mk (St.keep (by repeat (first | exact S.out | apply St.drewN | apply St.drew)) hb); clear S; have S := n0_; clear n0_ hb; clear hc_g2_0 hf_g2_0 hc_g2_1 hf_g2_1 hc_g1_0 hf_g1_0 hc_g1_1 hf_g1_1; have hB_g2 := S.out.blk (g := g2) (cs := #[.slice none 0 0, .int .i64 0]) (t := 41) (List.mem_of_getElem? (i := 0) rfl); have hc_g2_0 : w3.cell? ⟨g2, 0, none⟩ = some (.slice none 0 0) := (cell_blk hB_g2 0).trans rfl; have hf_g2_0 := frozen_blk hB_g2 0; have hc_g2_1 : w3.cell? ⟨g2, 1, none⟩ = some (.int .i64 0) := (cell_blk hB_g2 1).trans rfl; have hf_g2_1 := frozen_blk hB_g2 1; clear hB_g2; have hB_g1 := S.out.blk (g := g1) (cs := #[.slice (some ad) xs.length c, .int .i64 0]) (t := 41) (List.mem_of_getElem? (i := 1) rfl); have hc_g1_0 : w3.cell? ⟨g1, 0, none⟩ = some (.slice (some ad) xs.length c) := (cell_blk hB_g1 0).trans rfl; have hf_g1_0 := frozen_blk hB_g1 0; have hc_g1_1 : w3.cell? ⟨g1, 1, none⟩ = some (.int .i64 0) := (cell_blk hB_g1 1).trans rfl; have hf_g1_1 := frozen_blk hB_g1 1; clear hB_g1) | ((with_reducible refine gate_store (t := 41) (p := 4) rfl ?_); refine store_event (t := 41) (p := 4) (v := ?vo_w4) (w1 := ?w1_w4) ?hg ?ho ?hn ?hr ?_; (case ho => rfl); (case hg => rfl); (case hn => rfl); (case hr => first | (go_simp; done) | (go_simp; rfl)); intro w4 hw; have n0_ : Aside0 (St w w4 [Blk g2 #[.slice none 0 0, .int .i64 4] 41, Blk g1 #[.slice (some ad) xs.length c, .int .i64 0] 41]) := ⟨by rw [hw]; exact (St.set (pre := []) (post := [Blk g1 #[.slice (some ad) xs.length c, .int .i64 0] 41]) (g := g2) (cs := #[.slice none 0 0, .int .i64 0]) (t := 41) (St.set (pre := []) (post := [Blk g1 #[.slice (some ad) xs.length c, .int .i64 0] 41]) (g := g2) (cs := #[.slice none 0 0, .int .i64 0]) (t := 41) (by repeat (first | exact S.out | apply St.drewN | apply St.drew)) 0 (.slice none 0 0)) 1 (.int .i64 4))⟩; clear S; have S := n0_; clear n0_ hw; clear hc_g2_0 hf_g2_0 hc_g2_1 hf_g2_1 hc_g1_0 hf_g1_0 hc_g1_1 hf_g1_1; have hB_g2 := S.out.blk (g := g2) (cs := #[.slice none 0 0, .int .i64 4]) (t := 41) (List.mem_of_getElem? (i := 0) rfl); have hc_g2_0 : w4.cell? ⟨g2, 0, none⟩ = some (.slice none 0 0) := (cell_blk hB_g2 0).trans rfl; have hf_g2_0 := frozen_blk hB_g2 0; have hc_g2_1 : w4.cell? ⟨g2, 1, none⟩ = some (.int .i64 4) := (cell_blk hB_g2 1).trans rfl; have hf_g2_1 := frozen_blk hB_g2 1; clear hB_g2; have hB_g1 := S.out.blk (g := g1) (cs := #[.slice (some ad) xs.length c, .int .i64 0]) (t := 41) (List.mem_of_getElem? (i := 1) rfl); have hc_g1_0 : w4.cell? ⟨g1, 0, none⟩ = some (.slice (some ad) xs.length c) := (cell_blk hB_g1 0).trans rfl; have hf_g1_0 := frozen_blk hB_g1 0; have hc_g1_1 : w4.cell? ⟨g1, 1, none⟩ = some (.int .i64 0) := (cell_blk hB_g1 1).trans rfl; have hf_g1_1 := frozen_blk hB_g1 1; clear hB_g1))
            exact bodyPost_ret (v := .tuple #[.agg #[.slice none 0 0, .int .i64 4], .int .u32 0]) (by simp [results, Try.results28, go_sem, hc_g2_0, hc_g2_1]) rfl ⟨_, _, rfl, RS.stopped _ _ _, rfl, by first | exact S.out.below | exact ((S.out.below.setCell (p := ⟨g2, 0, none⟩) HG2.out _).setCell (p := ⟨g2, 1, none⟩) HG2.out _)⟩
          · rw [if_neg (fun q => q.elim h8 h9)] at H
            have hq : (decide (0 < i) = false ∧ decide (0 < (i : Int)) = false) ∨ ((b == 0) = false ∧ decide (0 < i) = true ∧ decide (0 < (i : Int)) = true) := by
              by_cases h91 : 0 < i
              · exact .inr ⟨beq_eq_false_iff_ne.mpr (fun h => h9 ⟨h91, h⟩), decide_eq_true h91, decide_eq_true (by omega)⟩
              · exact .inl ⟨decide_eq_false h91, decide_eq_false (by omega)⟩
            clear h9
            by_cases h10 : IntKind.u64.wrap most < rx b nv i
            · rw [if_pos h10] at H
              injection H with H1 H2; injection H2 with H2 H3; subst H1; subst H2; subst H3
              have h10' := decide_eq_true h10
              clear h8 h10
              rcases hq with ⟨q1, q2⟩ | ⟨q1, q2, q3⟩
              all_goals
                go_wp2_with (first | (go_at_call 35; refine (rstop _ _).mono ?_; rintro e w3 ⟨rfl, hb⟩; have n0_ := Aside0.mk (St.keep (by repeat (first | exact S.out | apply St.drewN | apply St.drew)) hb); clear S; have S := n0_; clear n0_ hb; clear hc_g2_0 hf_g2_0 hc_g2_1 hf_g2_1 hc_g1_0 hf_g1_0 hc_g1_1 hf_g1_1; have hB_g2 := S.out.blk (g := g2) (cs := #[.slice none 0 0, .int .i64 0]) (t := 41) (List.mem_of_getElem? (i := 0) rfl); have hc_g2_0 : w3.cell? ⟨g2, 0, none⟩ = some (.slice none 0 0) := (cell_blk hB_g2 0).trans rfl; have hf_g2_0 := frozen_blk hB_g2 0; have hc_g2_1 : w3.cell? ⟨g2, 1, none⟩ = some (.int .i64 0) := (cell_blk hB_g2 1).trans rfl; have hf_g2_1 := frozen_blk hB_g2 1; clear hB_g2; have hB_g1 := S.out.blk (g := g1) (cs := #[.slice (some ad) xs.length c, .int .i64 0]) (t := 41) (List.mem_of_getElem? (i := 1) rfl); have hc_g1_0 : w3.cell? ⟨g1, 0, none⟩ = some (.slice (some ad) xs.length c) := (cell_blk hB_g1 0).trans rfl; have hf_g1_0 := frozen_blk hB_g1 0; have hc_g1_1 : w3.cell? ⟨g1, 1, none⟩ = some (.int .i64 0) := (cell_blk hB_g1 1).trans rfl; have hf_g1_1 := frozen_blk hB_g1 1; clear hB_g1) | ((with_reducible refine gate_store (t := 41) (p := 4) rfl ?_); refine store_event (t := 41) (p := 4) (v := ?vo_w4) (w1 := ?w1_w4) ?hg ?ho ?hn ?hr ?_; (case ho => rfl); (case hg => rfl); (case hn => rfl); (case hr => first | (go_simp; done) | (go_simp; rfl)); intro w4 hw; have n0_ : Aside0 (St w w4 [Blk g2 #[.slice none 0 0, .int .i64 5] 41, Blk g1 #[.slice (some ad) xs.length c, .int .i64 0] 41]) := ⟨by rw [hw]; exact (St.set (pre := []) (post := [Blk g1 #[.slice (some ad) xs.length c, .int .i64 0] 41]) (g := g2) (cs := #[.slice none 0 0, .int .i64 0]) (t := 41) (St.set (pre := []) (post := [Blk g1 #[.slice (some ad) xs.length c, .int .i64 0] 41]) (g := g2) (cs := #[.slice none 0 0, .int .i64 0]) (t := 41) (by repeat (first | exact S.out | apply St.drewN | apply St.drew)) 0 (.slice none 0 0)) 1 (.int .i64 5))⟩; clear S; have S := n0_; clear n0_ hw; clear hc_g2_0 hf_g2_0 hc_g2_1 hf_g2_1 hc_g1_0 hf_g1_0 hc_g1_1 hf_g1_1; have hB_g2 := S.out.blk (g := g2) (cs := #[.slice none 0 0, .int .i64 5]) (t := 41) (List.mem_of_getElem? (i := 0) rfl); have hc_g2_0 : w4.cell? ⟨g2, 0, none⟩ = some (.slice none 0 0) := (cell_blk hB_g2 0).trans rfl; have hf_g2_0 := frozen_blk hB_g2 0; have hc_g2_1 : w4.cell? ⟨g2, 1, none⟩ = some (.int .i64 5) := (cell_blk hB_g2 1).trans rfl; have hf_g2_1 := frozen_blk hB_g2 1; clear hB_g2; have hB_g1 := S.out.blk (g := g1) (cs := #[.slice (some ad) xs.length c, .int .i64 0]) (t := 41) (List.mem_of_getElem? (i := 1) rfl); have hc_g1_0 : w4.cell? ⟨g1, 0, none⟩ = some (.slice (some ad) xs.length c) := (cell_blk hB_g1 0).trans rfl; have hf_g1_0 := frozen_blk hB_g1 0; have hc_g1_1 : w4.cell? ⟨g1, 1, none⟩ = some (.int .i64 0) := (cell_blk hB_g1 1).trans rfl; have hf_g1_1 := frozen_blk hB_g1 1; clear hB_g1))
                exact bodyPost_ret (v := .tuple #[.agg #[.slice none 0 0, .int .i64 5], .int .u32 0]) (by simp [results, Try.results28, go_sem, hc_g2_0, hc_g2_1]) rfl ⟨_, _, rfl, RS.stopped _ _ _, rfl, by first | exact S.out.below | exact ((S.out.below.setCell (p := ⟨g2, 0, none⟩) HG2.out _).setCell (p := ⟨g2, 1, none⟩) HG2.out _)⟩
            · rw [if_neg h10] at H
              injection H with H1 H2; injection H2 with H2 H3; subst H1; subst H2; subst H3
              have h10' : decide (IntKind.u64.wrap most < rx b nv i) = false := decide_eq_false h10
              clear h10
              have HD := Kd.C_drop (c := c) (m := i + 1) HR.out (by omega) HC.out
              have hl : (xs.drop (i + 1)).length = xs.length - (i + 1) := List.length_drop
              rw [hl] at HD
              have HD' := Aside0.mk HD
              clear HD hl
              by_cases hcc : c = i + 1
              · have HE := Aside0.mk hcc
                rcases hq with ⟨q1, q2⟩ | ⟨q1, q2, q3⟩
                all_goals
                  go_wp2
                  exact bodyPost_ret (v := .tuple #[.agg #[.slice (some ad) (xs.length - (i + 1)) 0, .int .i64 0], .int .u32 (rx b nv i % 4294967296)]) (by simp [results, Try.results28, go_sem, hc_g2_0, hc_g2_1]) rfl
                    ⟨_, _, rfl, ⟨some ad, 0, by simp [lft], by have := HC.out; have := HE.out; simp [lft]; omega, by
                      have h0 := HD'.out
                      rw [if_pos HE.out] at h0
                      have hl : (xs.drop (i + 1)).length = xs.length - (i + 1) := List.length_drop
                      rw [lft, hl]
                      exact h0, fun ad' he hp => HF.out ad' he (by omega)⟩,
                    rfl, (S.out.below.setCell (p := ⟨g2, 0, none⟩) HG2.out _).setCell (p := ⟨g2, 1, none⟩) HG2.out _⟩
              · rcases hq with ⟨q1, q2⟩ | ⟨q1, q2, q3⟩
                all_goals
                  go_wp2
                  exact bodyPost_ret (v := .tuple #[.agg #[.slice (some (ad.add (i + 1))) (xs.length - (i + 1)) (c - (i + 1)), .int .i64 0], .int .u32 (rx b nv i % 4294967296)]) (by simp [results, Try.results28, go_sem, hc_g2_0, hc_g2_1]) rfl
                    ⟨_, _, rfl, ⟨some (ad.add (i + 1)), c - (i + 1), by simp [lft], by have := HC.out; simp [lft]; omega, by
                      have h0 := HD'.out
                      rw [if_neg hcc] at h0
                      replace h0 : Kd.C (Kd.int .u8) w (some (ad.add (i + 1))) (xs.length - (i + 1)) (xs.drop (i + 1)) := by simpa [Kd.int, Kd.scalar] using h0
                      have hl : (xs.drop (i + 1)).length = xs.length - (i + 1) := List.length_drop
                      rw [lft, hl]
                      exact h0, fun ad' he hp => by
                        injection he with he; subst he
                        have := HF.out ad rfl (by omega)
                        unfold Addr.add; split <;> simpa using this⟩,
                    rfl, (S.out.below.setCell (p := ⟨g2, 0, none⟩) HG2.out _).setCell (p := ⟨g2, 1, none⟩) HG2.out _⟩
    · have H := H.out
      simp only [rvr, List.getElem?_eq_none (Nat.le_of_not_lt hi)] at H
      injection H with H1 H2; injection H2 with H2 H3; subst H1; subst H2; subst H3
      have hc4 : decide ((xs.length : Int) ≤ (i : Int)) = true := decide_eq_true (by omega)
      have hc5 : decide (xs.length ≤ i) = true := decide_eq_true (by omega)
      go_wp2_with (first | (go_at_call 35; refine (rstop _ _).mono ?_; rintro e w3 ⟨rfl, hb⟩; have n0_ := Aside0.mk (St.keep (by repeat (first | exact S.out | apply St.drewN | apply St.drew)) hb); clear S; have S := n0_; clear n0_ hb; clear hc_g2_0 hf_g2_0 hc_g2_1 hf_g2_1 hc_g1_0 hf_g1_0 hc_g1_1 hf_g1_1; have hB_g2 := S.out.blk (g := g2) (cs := #[.slice none 0 0, .int .i64 0]) (t := 41) (List.mem_of_getElem? (i := 0) rfl); have hc_g2_0 : w3.cell? ⟨g2, 0, none⟩ = some (.slice none 0 0) := (cell_blk hB_g2 0).trans rfl; have hf_g2_0 := frozen_blk hB_g2 0; have hc_g2_1 : w3.cell? ⟨g2, 1, none⟩ = some (.int .i64 0) := (cell_blk hB_g2 1).trans rfl; have hf_g2_1 := frozen_blk hB_g2 1; clear hB_g2; have hB_g1 := S.out.blk (g := g1) (cs := #[.slice A xs.length c, .int .i64 0]) (t := 41) (List.mem_of_getElem? (i := 1) rfl); have hc_g1_0 : w3.cell? ⟨g1, 0, none⟩ = some (.slice A xs.length c) := (cell_blk hB_g1 0).trans rfl; have hf_g1_0 := frozen_blk hB_g1 0; have hc_g1_1 : w3.cell? ⟨g1, 1, none⟩ = some (.int .i64 0) := (cell_blk hB_g1 1).trans rfl; have hf_g1_1 := frozen_blk hB_g1 1; clear hB_g1) | ((with_reducible refine gate_store (t := 41) (p := 4) rfl ?_); refine store_event (t := 41) (p := 4) (v := ?vo_w4) (w1 := ?w1_w4) ?hg ?ho ?hn ?hr ?_; (case ho => rfl); (case hg => rfl); (case hn => rfl); (case hr => first | (go_simp; done) | (go_simp; rfl)); intro w4 hw; have n0_ : Aside0 (St w w4 [Blk g2 #[.slice none 0 0, .int .i64 3] 41, Blk g1 #[.slice A xs.length c, .int .i64 0] 41]) := ⟨by rw [hw]; exact (St.set (pre := []) (post := [Blk g1 #[.slice A xs.length c, .int .i64 0] 41]) (g := g2) (cs := #[.slice none 0 0, .int .i64 0]) (t := 41) (St.set (pre := []) (post := [Blk g1 #[.slice A xs.length c, .int .i64 0] 41]) (g := g2) (cs := #[.slice none 0 0, .int .i64 0]) (t := 41) (by repeat (first | exact S.out | apply St.drewN | apply St.drew)) 0 (.slice none 0 0)) 1 (.int .i64 3))⟩; clear S; have S := n0_; clear n0_ hw; clear hc_g2_0 hf_g2_0 hc_g2_1 hf_g2_1 hc_g1_0 hf_g1_0 hc_g1_1 hf_g1_1; have hB_g2 := S.out.blk (g := g2) (cs := #[.slice none 0 0, .int .i64 3]) (t := 41) (List.mem_of_getElem? (i := 0) rfl); have hc_g2_0 : w4.cell? ⟨g2, 0, none⟩ = some (.slice none 0 0) := (cell_blk hB_g2 0).trans rfl; have hf_g2_0 := frozen_blk hB_g2 0; have hc_g2_1 : w4.cell? ⟨g2, 1, none⟩ = some (.int .i64 3) := (cell_blk hB_g2 1).trans rfl; have hf_g2_1 := frozen_blk hB_g2 1; clear hB_g2; have hB_g1 := S.out.blk (g := g1) (cs := #[.slice A xs.length c, .int .i64 0]) (t := 41) (List.mem_of_getElem? (i := 1) rfl); have hc_g1_0 : w4.cell? ⟨g1, 0, none⟩ = some (.slice A xs.length c) := (cell_blk hB_g1 0).trans rfl; have hf_g1_0 := frozen_blk hB_g1 0; have hc_g1_1 : w4.cell? ⟨g1, 1, none⟩ = some (.int .i64 0) := (cell_blk hB_g1 1).trans rfl; have hf_g1_1 := frozen_blk hB_g1 1; clear hB_g1))
      exact bodyPost_ret (v := .tuple #[.agg #[.slice none 0 0, .int .i64 3], .int .u32 0]) (by simp [results, Try.results28, go_sem, hc_g2_0, hc_g2_1]) rfl ⟨_, _, rfl, RS.stopped _ _ _, rfl, by first | exact S.out.below | exact ((S.out.below.setCell (p := ⟨g2, 0, none⟩) HG2.out _).setCell (p := ⟨g2, 1, none⟩) HG2.out _)⟩
end Go.Proofs.Ytglcbaellbhogaa.RefR
