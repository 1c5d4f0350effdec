/- A call on both readers (do): what the program's tells is what the document's tells. -/
import Derived.Test.YtglcbaellbhogaaRefR3
import Derived.Test.YtglcbaellbhogaaLay
import Derived.Deep.QuietTactic
import Derived.BigQuiet
import Derived.IntWalk
namespace Go.Proofs.Ytglcbaellbhogaa.Do
open Go.RowKit Go.Proofs.Ytglcbaellbhogaa.Sep Go.Proofs.YtglcbaellbhogaaW.PrintWords Go.Proofs.YtglcbaellbhogaaW.PrintLast Go.Proofs.YtglcbaellbhogaaW.PrintMore Go.Proofs.Ytglcbaellbhogaa.PB Go.Proofs.Ytglcbaellbhogaa.Reader Go.Proofs.Ytglcbaellbhogaa.Awake
open Go.Proofs.Ytglcbaellbhogaa.Pure1 Go.Proofs.Ytglcbaellbhogaa.RefR
set_option linter.unusedVariables false
set_option linter.unusedSimpArgs false

theorem Turn_cell {w w' : World} {g : Nat} (h : Turn w w' g) {b : Nat} (o : Nat) (hb : b < w.heap.size) (hg : b ≠ g) : w'.cell? ⟨b, o, none⟩ = w.cell? ⟨b, o, none⟩ := by
  simp only [World.cell?, h.block b hb hg]
theorem Turn_frozen {w w' : World} {g : Nat} (h : Turn w w' g) {b : Nat} (o : Nat) (hb : b < w.heap.size) (hg : b ≠ g) : w'.frozen? ⟨b, o, none⟩ = w.frozen? ⟨b, o, none⟩ := by
  simp only [World.frozen?, h.block b hb hg]
/-- What a call leaves of both: the same bytes and the same error, told alike. -/
def Done (B0 B g : Nat) (w : World) (xs : List Int) (e : Int) (z : Ending) (w' : World) : Prop := ∃ v, z = .returned (.tuple #[v, .bool true]) ∧ RS B0 w' v xs e ∧ Rd B w' g xs e ∧ Turn w w' g
set_option maxHeartbeats 4000000 in
theorem do0 {B0 B g : Nat} (A : Option Addr) (c : Nat) (xs : List Int) (e kd most : Int) (w : World) (hB0 : B0 ≤ g) (hB : B ≤ w.heap.size) (hV : RS B0 w (.agg #[.slice A xs.length c, .int .i64 e]) xs e) (hR : Rd B w g xs e) (hbd : ∀ x ∈ xs, 0 ≤ x ∧ x < 256)
    (hk0 : 0 ≤ kd) (hk1 : kd < 256) (hk : kd % 4 = 0) (hm0 : -2147483648 ≤ most) (hm1 : most < 2147483648) :
    Calls Try.prog 22 #[.pointer (some ⟨g, 0, none⟩), .agg #[.slice A xs.length c, .int .i64 e], .agg #[.int .u8 kd, .int .i32 most]] w (Done B0 B g w (rVar xs e (most % 4294967296)).1 (rVar xs e (most % 4294967296)).2.1) := by
  have hgB : g < B := by obtain ⟨A', c', h1, h2, h3, h4, h5⟩ := hR; exact h5
  have HG := Aside0.mk (show g < w.heap.size by omega)
  have HBB := Aside0.mk hB
  have HB := Aside0.mk (show B0 ≤ w.heap.size by omega)
  have HB0 := Aside0.mk hB0
  have HV := Aside0.mk hV
  have HR := Aside0.mk hR
  have HBD := Aside0.mk hbd
  clear hV hR hbd hB hgB hB0
  have S := Aside0.mk (St.start w)
  go_enter Try.func22, Try.ntmps22
  go_wp2_with (first | ((with_reducible refine gate_dst (N := 4) rfl ?_); refine box_event ?hg (N := 4) ?hd (cs := #[.slice A xs.length c, .int .i64 e]) (t := 41) ?hr ?_; (case hd => rfl); (case hg => rfl); (case hr => first | (go_simp; done) | (go_simp; rfl)); intro g4 hgN w1 hbox hbN; have n0_ := Aside0.mk (St.boxed (by repeat (first | exact S.out | apply St.drewN | apply St.drew)) hgN hbox hbN); clear S; have S := n0_; clear n0_ hgN hbox hbN; have hB_g4 := S.out.blk (g := g4) (cs := #[.slice A xs.length c, .int .i64 e]) (t := 41) (List.mem_of_getElem? (i := 0) rfl); have hc_g4_0 : w1.cell? ⟨g4, 0, none⟩ = some (.slice A xs.length c) := (cell_blk hB_g4 0).trans rfl; have hf_g4_0 := frozen_blk hB_g4 0; have hc_g4_1 : w1.cell? ⟨g4, 1, none⟩ = some (.int .i64 e) := (cell_blk hB_g4 1).trans rfl; have hf_g4_1 := frozen_blk hB_g4 1; clear hB_g4) | ((with_reducible refine gate_dst (N := 5) rfl ?_); refine box_event ?hg (N := 5) ?hd (cs := #[.int .u8 kd, .int .i32 most]) (t := 45) ?hr ?_; (case hd => rfl); (case hg => rfl); (case hr => first | (go_simp; done) | (go_simp; rfl)); intro g5 hgN w2 hbox hbN; have n0_ := Aside0.mk (St.boxed (by repeat (first | exact S.out | apply St.drewN | apply St.drew)) hgN hbox hbN); clear S; have S := n0_; clear n0_ hgN hbox hbN; clear hc_g4_0 hf_g4_0 hc_g4_1 hf_g4_1; have hB_g5 := S.out.blk (g := g5) (cs := #[.int .u8 kd, .int .i32 most]) (t := 45) (List.mem_of_getElem? (i := 0) rfl); have hc_g5_0 : w2.cell? ⟨g5, 0, none⟩ = some (.int .u8 kd) := (cell_blk hB_g5 0).trans rfl; have hf_g5_0 := frozen_blk hB_g5 0; have hc_g5_1 : w2.cell? ⟨g5, 1, none⟩ = some (.int .i32 most) := (cell_blk hB_g5 1).trans rfl; have hf_g5_1 := frozen_blk hB_g5 1; clear hB_g5; have hB_g4 := S.out.blk (g := g4) (cs := #[.slice A xs.length c, .int .i64 e]) (t := 41) (List.mem_of_getElem? (i := 1) rfl); have hc_g4_0 : w2.cell? ⟨g4, 0, none⟩ = some (.slice A xs.length c) := (cell_blk hB_g4 0).trans rfl; have hf_g4_0 := frozen_blk hB_g4 0; have hc_g4_1 : w2.cell? ⟨g4, 1, none⟩ = some (.int .i64 e) := (cell_blk hB_g4 1).trans rfl; have hf_g4_1 := frozen_blk hB_g4 1; clear hB_g4) | ((with_reducible refine gate_dst (N := 6) rfl ?_); refine box_event ?hg (N := 6) ?hd (cs := #[.slice none 0 0, .int .i64 0]) (t := 41) ?hr ?_; (case hd => rfl); (case hg => rfl); (case hr => first | (go_simp; done) | (go_simp; rfl)); intro g6 hgN w3 hbox hbN; have n0_ := Aside0.mk (St.boxed (by repeat (first | exact S.out | apply St.drewN | apply St.drew)) hgN hbox hbN); clear S; have S := n0_; clear n0_ hgN hbox hbN; clear hc_g5_0 hf_g5_0 hc_g5_1 hf_g5_1 hc_g4_0 hf_g4_0 hc_g4_1 hf_g4_1; have hB_g6 := S.out.blk (g := g6) (cs := #[.slice none 0 0, .int .i64 0]) (t := 41) (List.mem_of_getElem? (i := 0) rfl); have hc_g6_0 : w3.cell? ⟨g6, 0, none⟩ = some (.slice none 0 0) := (cell_blk hB_g6 0).trans rfl; have hf_g6_0 := frozen_blk hB_g6 0; have hc_g6_1 : w3.cell? ⟨g6, 1, none⟩ = some (.int .i64 0) := (cell_blk hB_g6 1).trans rfl; have hf_g6_1 := frozen_blk hB_g6 1; clear hB_g6; have hB_g5 := S.out.blk (g := g5) (cs := #[.int .u8 kd, .int .i32 most]) (t := 45) (List.mem_of_getElem? (i := 1) rfl); have hc_g5_0 : w3.cell? ⟨g5, 0, none⟩ = some (.int .u8 kd) := (cell_blk hB_g5 0).trans rfl; have hf_g5_0 := frozen_blk hB_g5 0; have hc_g5_1 : w3.cell? ⟨g5, 1, none⟩ = some (.int .i32 most) := (cell_blk hB_g5 1).trans rfl; have hf_g5_1 := frozen_blk hB_g5 1; clear hB_g5; have hB_g4 := S.out.blk (g := g4) (cs := #[.slice A xs.length c, .int .i64 e]) (t := 41) (List.mem_of_getElem? (i := 2) rfl); have hc_g4_0 : w3.cell? ⟨g4, 0, none⟩ = some (.slice A xs.length c) := (cell_blk hB_g4 0).trans rfl; have hf_g4_0 := frozen_blk hB_g4 0; have hc_g4_1 : w3.cell? ⟨g4, 1, none⟩ = some (.int .i64 e) := (cell_blk hB_g4 1).trans rfl; have hf_g4_1 := frozen_blk hB_g4 1; clear hB_g4) | (go_at_call 28; refine (rvarR (B := B0) (v := .agg #[.slice A xs.length c, .int .i64 e]) (xs := xs) (e := e) (most % 4294967296) _ (HV.out.under (S.out.below.mono HB.out)) HBD.out).mono ?_; have BW := Aside0.mk S.out.below; rintro z w4 ⟨v2, u2, rfl, hRS, hu2, hb⟩; have n0_ := Aside0.mk (St.keep (by repeat (first | exact S.out | apply St.drewN | apply St.drew)) hb); clear S; have S := n0_; clear n0_ hb; clear hc_g6_0 hf_g6_0 hc_g6_1 hf_g6_1 hc_g5_0 hf_g5_0 hc_g5_1 hf_g5_1 hc_g4_0 hf_g4_0 hc_g4_1 hf_g4_1; subst hu2; have HV2 := Aside0.mk (hRS.back (BW.out.mono HB.out)); obtain ⟨A2, c2, rfl, _, _, _⟩ := hRS; have hB_g6 := S.out.blk (g := g6) (cs := #[.slice none 0 0, .int .i64 0]) (t := 41) (List.mem_of_getElem? (i := 0) rfl); have hc_g6_0 : w4.cell? ⟨g6, 0, none⟩ = some (.slice none 0 0) := (cell_blk hB_g6 0).trans rfl; have hf_g6_0 := frozen_blk hB_g6 0; have hc_g6_1 : w4.cell? ⟨g6, 1, none⟩ = some (.int .i64 0) := (cell_blk hB_g6 1).trans rfl; have hf_g6_1 := frozen_blk hB_g6 1; clear hB_g6; have hB_g5 := S.out.blk (g := g5) (cs := #[.int .u8 kd, .int .i32 most]) (t := 45) (List.mem_of_getElem? (i := 1) rfl); have hc_g5_0 : w4.cell? ⟨g5, 0, none⟩ = some (.int .u8 kd) := (cell_blk hB_g5 0).trans rfl; have hf_g5_0 := frozen_blk hB_g5 0; have hc_g5_1 : w4.cell? ⟨g5, 1, none⟩ = some (.int .i32 most) := (cell_blk hB_g5 1).trans rfl; have hf_g5_1 := frozen_blk hB_g5 1; clear hB_g5; have hB_g4 := S.out.blk (g := g4) (cs := #[.slice A xs.length c, .int .i64 e]) (t := 41) (List.mem_of_getElem? (i := 2) rfl); have hc_g4_0 : w4.cell? ⟨g4, 0, none⟩ = some (.slice A xs.length c) := (cell_blk hB_g4 0).trans rfl; have hf_g4_0 := frozen_blk hB_g4 0; have hc_g4_1 : w4.cell? ⟨g4, 1, none⟩ = some (.int .i64 e) := (cell_blk hB_g4 1).trans rfl; have hf_g4_1 := frozen_blk hB_g4 1; clear hB_g4) | ((with_reducible refine gate_dst (N := 8) rfl ?_); refine box_event ?hg (N := 8) ?hd (cs := #[.slice none 0 0, .int .i64 0]) (t := 41) ?hr ?_; (case hd => rfl); (case hg => rfl); (case hr => first | (go_simp; done) | (go_simp; rfl)); intro g8 hgN w5 hbox hbN; have n0_ := Aside0.mk (St.boxed (by repeat (first | exact S.out | apply St.drewN | apply St.drew)) hgN hbox hbN); clear S; have S := n0_; clear n0_ hgN hbox hbN; clear hc_g6_0 hf_g6_0 hc_g6_1 hf_g6_1 hc_g5_0 hf_g5_0 hc_g5_1 hf_g5_1 hc_g4_0 hf_g4_0 hc_g4_1 hf_g4_1; have hB_g8 := S.out.blk (g := g8) (cs := #[.slice none 0 0, .int .i64 0]) (t := 41) (List.mem_of_getElem? (i := 0) rfl); have hc_g8_0 : w5.cell? ⟨g8, 0, none⟩ = some (.slice none 0 0) := (cell_blk hB_g8 0).trans rfl; have hf_g8_0 := frozen_blk hB_g8 0; have hc_g8_1 : w5.cell? ⟨g8, 1, none⟩ = some (.int .i64 0) := (cell_blk hB_g8 1).trans rfl; have hf_g8_1 := frozen_blk hB_g8 1; clear hB_g8; have hB_g6 := S.out.blk (g := g6) (cs := #[.slice none 0 0, .int .i64 0]) (t := 41) (List.mem_of_getElem? (i := 1) rfl); have hc_g6_0 : w5.cell? ⟨g6, 0, none⟩ = some (.slice none 0 0) := (cell_blk hB_g6 0).trans rfl; have hf_g6_0 := frozen_blk hB_g6 0; have hc_g6_1 : w5.cell? ⟨g6, 1, none⟩ = some (.int .i64 0) := (cell_blk hB_g6 1).trans rfl; have hf_g6_1 := frozen_blk hB_g6 1; clear hB_g6; have hB_g5 := S.out.blk (g := g5) (cs := #[.int .u8 kd, .int .i32 most]) (t := 45) (List.mem_of_getElem? (i := 2) rfl); have hc_g5_0 : w5.cell? ⟨g5, 0, none⟩ = some (.int .u8 kd) := (cell_blk hB_g5 0).trans rfl; have hf_g5_0 := frozen_blk hB_g5 0; have hc_g5_1 : w5.cell? ⟨g5, 1, none⟩ = some (.int .i32 most) := (cell_blk hB_g5 1).trans rfl; have hf_g5_1 := frozen_blk hB_g5 1; clear hB_g5; have hB_g4 := S.out.blk (g := g4) (cs := #[.slice A xs.length c, .int .i64 e]) (t := 41) (List.mem_of_getElem? (i := 3) rfl); have hc_g4_0 : w5.cell? ⟨g4, 0, none⟩ = some (.slice A xs.length c) := (cell_blk hB_g4 0).trans rfl; have hf_g4_0 := frozen_blk hB_g4 0; have hc_g4_1 : w5.cell? ⟨g4, 1, none⟩ = some (.int .i64 e) := (cell_blk hB_g4 1).trans rfl; have hf_g4_1 := frozen_blk hB_g4 1; clear hB_g4) | ((with_reducible refine gate_store (t := 41) (p := 8) rfl ?_); refine store_event (t := 41) (p := 8) (v := ?_) (w1 := ?_) ?hg ?ho ?hn ?hr ?_; (case ho => rfl); (case hg => rfl); (case hn => rfl); (case hr => first | (go_simp; done) | (go_simp; rfl)); intro w6 hw; have n0_ : Aside0 (St w w6 [Blk g8 #[.slice A2 (rVar xs e (most % 4294967296)).1.length c2, .int .i64 (rVar xs e (most % 4294967296)).2.1] 41, Blk g6 #[.slice none 0 0, .int .i64 0] 41, Blk g5 #[.int .u8 kd, .int .i32 most] 45, Blk g4 #[.slice A xs.length c, .int .i64 e] 41]) := ⟨by rw [hw]; exact (St.set (pre := []) (post := [Blk g6 #[.slice none 0 0, .int .i64 0] 41, Blk g5 #[.int .u8 kd, .int .i32 most] 45, Blk g4 #[.slice A xs.length c, .int .i64 e] 41]) (g := g8) (cs := #[.slice A2 (rVar xs e (most % 4294967296)).1.length c2, .int .i64 0]) (t := 41) (St.set (pre := []) (post := [Blk g6 #[.slice none 0 0, .int .i64 0] 41, Blk g5 #[.int .u8 kd, .int .i32 most] 45, Blk g4 #[.slice A xs.length c, .int .i64 e] 41]) (g := g8) (cs := #[.slice none 0 0, .int .i64 0]) (t := 41) (by repeat (first | exact S.out | apply St.drewN | apply St.drew)) 0 (.slice A2 (rVar xs e (most % 4294967296)).1.length c2)) 1 (.int .i64 (rVar xs e (most % 4294967296)).2.1))⟩; clear S; have S := n0_; clear n0_ hw; clear hc_g8_0 hf_g8_0 hc_g8_1 hf_g8_1 hc_g6_0 hf_g6_0 hc_g6_1 hf_g6_1 hc_g5_0 hf_g5_0 hc_g5_1 hf_g5_1 hc_g4_0 hf_g4_0 hc_g4_1 hf_g4_1; have hB_g8 := S.out.blk (g := g8) (cs := #[.slice A2 (rVar xs e (most % 4294967296)).1.length c2, .int .i64 (rVar xs e (most % 4294967296)).2.1]) (t := 41) (List.mem_of_getElem? (i := 0) rfl); have hc_g8_0 : w6.cell? ⟨g8, 0, none⟩ = some (.slice A2 (rVar xs e (most % 4294967296)).1.length c2) := (cell_blk hB_g8 0).trans rfl; have hf_g8_0 := frozen_blk hB_g8 0; have hc_g8_1 : w6.cell? ⟨g8, 1, none⟩ = some (.int .i64 (rVar xs e (most % 4294967296)).2.1) := (cell_blk hB_g8 1).trans rfl; have hf_g8_1 := frozen_blk hB_g8 1; clear hB_g8; have hB_g6 := S.out.blk (g := g6) (cs := #[.slice none 0 0, .int .i64 0]) (t := 41) (List.mem_of_getElem? (i := 1) rfl); have hc_g6_0 : w6.cell? ⟨g6, 0, none⟩ = some (.slice none 0 0) := (cell_blk hB_g6 0).trans rfl; have hf_g6_0 := frozen_blk hB_g6 0; have hc_g6_1 : w6.cell? ⟨g6, 1, none⟩ = some (.int .i64 0) := (cell_blk hB_g6 1).trans rfl; have hf_g6_1 := frozen_blk hB_g6 1; clear hB_g6; have hB_g5 := S.out.blk (g := g5) (cs := #[.int .u8 kd, .int .i32 most]) (t := 45) (List.mem_of_getElem? (i := 2) rfl); have hc_g5_0 : w6.cell? ⟨g5, 0, none⟩ = some (.int .u8 kd) := (cell_blk hB_g5 0).trans rfl; have hf_g5_0 := frozen_blk hB_g5 0; have hc_g5_1 : w6.cell? ⟨g5, 1, none⟩ = some (.int .i32 most) := (cell_blk hB_g5 1).trans rfl; have hf_g5_1 := frozen_blk hB_g5 1; clear hB_g5; have hB_g4 := S.out.blk (g := g4) (cs := #[.slice A xs.length c, .int .i64 e]) (t := 41) (List.mem_of_getElem? (i := 3) rfl); have hc_g4_0 : w6.cell? ⟨g4, 0, none⟩ = some (.slice A xs.length c) := (cell_blk hB_g4 0).trans rfl; have hf_g4_0 := frozen_blk hB_g4 0; have hc_g4_1 : w6.cell? ⟨g4, 1, none⟩ = some (.int .i64 e) := (cell_blk hB_g4 1).trans rfl; have hf_g4_1 := frozen_blk hB_g4 1; clear hB_g4))
  have HR8 := Aside0.mk (HR.out.below (S.out.below.mono HBB.out))
  have B8 := Aside0.mk S.out.below
  have q8 := S.out.blk (g := g8) (List.mem_of_getElem? (i := 0) rfl)
  have q6 := S.out.blk (g := g6) (List.mem_of_getElem? (i := 1) rfl)
  have q5 := S.out.blk (g := g5) (List.mem_of_getElem? (i := 2) rfl)
  have n8 := S.out.new _ (List.mem_of_getElem? (i := 0) rfl) g8 rfl
  have n6 := S.out.new _ (List.mem_of_getElem? (i := 1) rfl) g6 rfl
  have n5 := S.out.new _ (List.mem_of_getElem? (i := 2) rfl) g5 rfl
  have L8 := (Array.getElem?_eq_some_iff.1 q8).1
  have L6 := (Array.getElem?_eq_some_iff.1 q6).1
  have L5 := (Array.getElem?_eq_some_iff.1 q5).1
  have N8 : g8 ≠ g := by have := HG.out; omega
  have N6 : g6 ≠ g := by have := HG.out; omega
  have N5 : g5 ≠ g := by have := HG.out; omega
  have M6 := Aside0.mk n6
  clear q8 q6 q5 n8 n6 n5 S
  generalize w6 = W8 at *
  have HU8 := Aside0.mk (show w.heap.size ≤ W8.drew.heap.size from B8.out.size)
  have hwm : IntKind.i64.wrap most = most := IntWalk.i64_in most ⟨by omega, by omega⟩
  refine start_ (n := 10) (S := fun w' => w'.cell? ⟨g8, 0, none⟩ = some (.slice A2 (rVar xs e (most % 4294967296)).1.length c2) ∧ w'.cell? ⟨g8, 1, none⟩ = some (.int .i64 (rVar xs e (most % 4294967296)).2.1) ∧ w'.cell? ⟨g5, 1, none⟩ = some (.int .i32 most)) (ds := [8]) #[false, false, false, false, false, false, false, false, false, false] (by kernel_rfl) rfl rfl ⟨(by rw [World.cell?_drew]; exact hc_g8_0), (by rw [World.cell?_drew]; exact hc_g8_1), (by rw [World.cell?_drew]; exact hc_g5_1)⟩ (fun hHeld => ?_)
  refine pure_ (i := 1) (N := some 31) (v := ?_) (a' := ?_) #[false, true, false, false, false, false, false, false, false, false] rfl rfl (by kernel_rfl) (fun _ _ _ h => h) (Or.inl ⟨by rfl, ?_⟩) ?_ ?_
  rotate_left
  · intro w'
    go_simp
    with_reducible rfl
  rotate_left
  · simp only [Act.put, List.setIfInBounds_toArray, List.set_cons_zero, List.set_cons_succ, i64_w, i32_w]
    rfl
  refine pure_ (i := 2) (N := some 32) (v := ?_) (a' := ?_) #[false, true, true, false, false, false, false, false, false, false] rfl rfl (by kernel_rfl) (fun _ _ _ h => h) (Or.inl ⟨by rfl, ?_⟩) ?_ ?_
  rotate_left
  · intro w'
    go_simp
    with_reducible rfl
  rotate_left
  · simp only [Act.put, List.setIfInBounds_toArray, List.set_cons_zero, List.set_cons_succ, i64_w, i32_w]
    rfl
  refine pure_ (i := 6) (N := some 36) (v := ?_) (a' := ?_) #[false, true, true, false, false, false, true, false, false, false] rfl rfl (by kernel_rfl) (fun _ _ _ h => h) (Or.inl ⟨by rfl, ?_⟩) ?_ ?_
  rotate_left
  · intro w'
    go_simp
    with_reducible rfl
  rotate_left
  · simp only [Act.put, List.setIfInBounds_toArray, List.set_cons_zero, List.set_cons_succ, i64_w, i32_w]
    rfl
  refine take_ (i := 0) (N := some 30) (v := ?_) (a' := ?_) #[true, true, true, false, false, false, true, false, false, false] rfl rfl (by kernel_rfl) (fun _ _ _ h => h) (Or.inl ⟨by rfl, ?_⟩) hHeld ?_ ?_
  rotate_left
  · rintro w' ⟨s0, s1, s2⟩
    go_simp
    with_reducible rfl
  rotate_left
  · simp only [Act.put, List.setIfInBounds_toArray, List.set_cons_zero, List.set_cons_succ, i64_w, i32_w]
    rfl
  refine take_ (i := 3) (N := some 33) (v := ?_) (a' := ?_) #[true, true, true, true, false, false, true, false, false, false] rfl rfl (by kernel_rfl) (fun _ _ _ h => h) (Or.inl ⟨by rfl, ?_⟩) hHeld ?_ ?_
  rotate_left
  · rintro w' ⟨s0, s1, s2⟩
    go_simp
    with_reducible rfl
  rotate_left
  · simp only [Act.put, List.setIfInBounds_toArray, List.set_cons_zero, List.set_cons_succ, i64_w, i32_w]
    rfl
  refine pure_ (i := 4) (N := some 34) (v := ?_) (a' := ?_) #[true, true, true, true, true, false, true, false, false, false] rfl rfl (by kernel_rfl) (fun _ _ _ h => h) (Or.inl ⟨by rfl, ?_⟩) ?_ ?_
  rotate_left
  · intro w'
    go_simp
    with_reducible rfl
  rotate_left
  · simp only [Act.put, List.setIfInBounds_toArray, List.set_cons_zero, List.set_cons_succ, i64_w, i32_w]
    rfl
  refine one_ (i := 5) (N := some 35) #[true, true, true, true, true, true, true, false, false, false] rfl rfl (by kernel_rfl) (by decide) (fun K hK => ?_)
  refine goes_ Try.func12 (by kernel_rfl) rfl #[.pointer (some ⟨g, 0, none⟩), .int .u32 (most % 4294967296)] (by rfl) rfl rfl (by simp only [List.map_toArray, List.map_cons, List.map_nil]; rfl) ?_
  with_reducible refine (varR (B := B) g xs e (most % 4294967296) _ (HR8.out.below (below_drew (Below.refl _ _)))).mono ?_
  rintro z w9 ⟨rfl, hR, hT⟩
  have k80 := (Turn_cell hT 0 L8 N8).trans hc_g8_0
  have k81 := (Turn_cell hT 1 L8 N8).trans hc_g8_1
  have k51 := (Turn_cell hT 1 L5 N5).trans hc_g5_1
  have k60 := (Turn_cell hT 0 L6 N6).trans hc_g6_0
  have k61 := (Turn_cell hT 1 L6 N6).trans hc_g6_1
  have f60 := (Turn_frozen hT 0 L6 N6).trans hf_g6_0
  have f61 := (Turn_frozen hT 1 L6 N6).trans hf_g6_1
  have HR9 := Aside0.mk hR
  have HT9 := Aside0.mk ((Turn.of_below g (below_drew (Below.refl _ _))).trans hT)
  clear hR hT hc_g8_0 hc_g8_1 hc_g5_1 hc_g6_0 hc_g6_1 hf_g6_0 hf_g6_1
  refine ⟨_, rfl, ?_⟩
  refine hK.out _ _ ⟨k80, k81, k51⟩ (fun hHeld => ?_)
  clear hK K
  refine norm_ (a' := ?_) ?_ ?_
  rotate_left
  · show Act.put _ (some 35) _ = _
    simp only [Act.put, List.setIfInBounds_toArray, List.set_cons_zero, List.set_cons_succ, i64_w, i32_w]
    rfl
  refine pure_ (i := 7) (N := some 37) (v := ?_) (a' := ?_) #[true, true, true, true, true, true, true, true, false, false] rfl rfl (by kernel_rfl) (fun _ _ _ h => h) (Or.inl ⟨by rfl, ?_⟩) ?_ ?_
  rotate_left
  · intro w'
    go_simp
    with_reducible rfl
  rotate_left
  · simp only [Act.put, List.setIfInBounds_toArray, List.set_cons_zero, List.set_cons_succ, i64_w, i32_w]
    rfl
  refine last_ (i := 8) (N := none) #[true, true, true, true, true, true, true, true, true, false] rfl rfl (by kernel_rfl) (by decide) (fun K hK => ?_)
  refine skip_ (w1 := ?_) (by rfl) rfl ?_ ?_
  rotate_left
  · go_simp
    rfl
  refine hK.out _ _ ?_
  clear hK K
  refine pure_ (i := 9) (N := some 7) (v := ?_) (a' := ?_) #[true, true, true, true, true, true, true, true, true, true] rfl rfl (by kernel_rfl) (fun _ _ _ h => h) (Or.inl ⟨by rfl, ?_⟩) ?_ ?_
  rotate_left
  · intro w'
    go_simp
    with_reducible rfl
  rotate_left
  · simp only [Act.put, List.setIfInBounds_toArray, List.set_cons_zero, List.set_cons_succ, i64_w, i32_w]
    rfl
  refine done_ (by kernel_rfl) ?_
  go_wp2
  exact bodyPost_ret (v := .tuple #[.agg #[.slice A2 (rVar xs e (most % 4294967296)).1.length c2, .int .i64 (rVar xs e (most % 4294967296)).2.1], .bool true]) (by simp [results, Try.results22, go_sem, k60, k61]) rfl ⟨_, rfl,
    RS.under HV2.out ((B8.out.mono HB.out).trans ((Turn.below2 HT9.out HB0.out (Nat.le_trans HB.out B8.out.size)).trans (((Below.refl B0 _).setCell (p := ⟨g6, 0, none⟩) (Nat.le_trans HB.out M6.out) _).setCell (p := ⟨g6, 1, none⟩) (Nat.le_trans HB.out M6.out) _))),
    Rd.below HR9.out (((Below.refl B _).setCell (p := ⟨g6, 0, none⟩) (Nat.le_trans HBB.out M6.out) _).setCell (p := ⟨g6, 1, none⟩) (Nat.le_trans HBB.out M6.out) _),
    ((Turn.of_below g B8.out).trans HT9.out).under (((Below.refl w.heap.size _).setCell (p := ⟨g6, 0, none⟩) M6.out _).setCell (p := ⟨g6, 1, none⟩) M6.out _)⟩
set_option maxHeartbeats 4000000 in
theorem do1 {B0 B g : Nat} (A : Option Addr) (c : Nat) (xs : List Int) (e kd most : Int) (w : World) (hB0 : B0 ≤ g) (hB : B ≤ w.heap.size) (hV : RS B0 w (.agg #[.slice A xs.length c, .int .i64 e]) xs e) (hR : Rd B w g xs e) (hbd : ∀ x ∈ xs, 0 ≤ x ∧ x < 256)
    (hk0 : 0 ≤ kd) (hk1 : kd < 256) (hk : kd % 4 = 1) (hm0 : -2147483648 ≤ most) (hm1 : most < 2147483648) :
    Calls Try.prog 22 #[.pointer (some ⟨g, 0, none⟩), .agg #[.slice A xs.length c, .int .i64 e], .agg #[.int .u8 kd, .int .i32 most]] w (Done B0 B g w (rText xs e most).1 (rText xs e most).2.1) := by
  have hgB : g < B := by obtain ⟨A', c', h1, h2, h3, h4, h5⟩ := hR; exact h5
  have HG := Aside0.mk (show g < w.heap.size by omega)
  have HBB := Aside0.mk hB
  have HB := Aside0.mk (show B0 ≤ w.heap.size by omega)
  have HB0 := Aside0.mk hB0
  have HV := Aside0.mk hV
  have HR := Aside0.mk hR
  have HBD := Aside0.mk hbd
  clear hV hR hbd hB hgB hB0
  have S := Aside0.mk (St.start w)
  go_enter Try.func22, Try.ntmps22
  go_wp2_with (first | ((with_reducible refine gate_dst (N := 4) rfl ?_); refine box_event ?hg (N := 4) ?hd (cs := #[.slice A xs.length c, .int .i64 e]) (t := 41) ?hr ?_; (case hd => rfl); (case hg => rfl); (case hr => first | (go_simp; done) | (go_simp; rfl)); intro g4 hgN w1 hbox hbN; have n0_ := Aside0.mk (St.boxed (by repeat (first | exact S.out | apply St.drewN | apply St.drew)) hgN hbox hbN); clear S; have S := n0_; clear n0_ hgN hbox hbN; have hB_g4 := S.out.blk (g := g4) (cs := #[.slice A xs.length c, .int .i64 e]) (t := 41) (List.mem_of_getElem? (i := 0) rfl); have hc_g4_0 : w1.cell? ⟨g4, 0, none⟩ = some (.slice A xs.length c) := (cell_blk hB_g4 0).trans rfl; have hf_g4_0 := frozen_blk hB_g4 0; have hc_g4_1 : w1.cell? ⟨g4, 1, none⟩ = some (.int .i64 e) := (cell_blk hB_g4 1).trans rfl; have hf_g4_1 := frozen_blk hB_g4 1; clear hB_g4) | ((with_reducible refine gate_dst (N := 5) rfl ?_); refine box_event ?hg (N := 5) ?hd (cs := #[.int .u8 kd, .int .i32 most]) (t := 45) ?hr ?_; (case hd => rfl); (case hg => rfl); (case hr => first | (go_simp; done) | (go_simp; rfl)); intro g5 hgN w2 hbox hbN; have n0_ := Aside0.mk (St.boxed (by repeat (first | exact S.out | apply St.drewN | apply St.drew)) hgN hbox hbN); clear S; have S := n0_; clear n0_ hgN hbox hbN; clear hc_g4_0 hf_g4_0 hc_g4_1 hf_g4_1; have hB_g5 := S.out.blk (g := g5) (cs := #[.int .u8 kd, .int .i32 most]) (t := 45) (List.mem_of_getElem? (i := 0) rfl); have hc_g5_0 : w2.cell? ⟨g5, 0, none⟩ = some (.int .u8 kd) := (cell_blk hB_g5 0).trans rfl; have hf_g5_0 := frozen_blk hB_g5 0; have hc_g5_1 : w2.cell? ⟨g5, 1, none⟩ = some (.int .i32 most) := (cell_blk hB_g5 1).trans rfl; have hf_g5_1 := frozen_blk hB_g5 1; clear hB_g5; have hB_g4 := S.out.blk (g := g4) (cs := #[.slice A xs.length c, .int .i64 e]) (t := 41) (List.mem_of_getElem? (i := 1) rfl); have hc_g4_0 : w2.cell? ⟨g4, 0, none⟩ = some (.slice A xs.length c) := (cell_blk hB_g4 0).trans rfl; have hf_g4_0 := frozen_blk hB_g4 0; have hc_g4_1 : w2.cell? ⟨g4, 1, none⟩ = some (.int .i64 e) := (cell_blk hB_g4 1).trans rfl; have hf_g4_1 := frozen_blk hB_g4 1; clear hB_g4) | ((with_reducible refine gate_dst (N := 6) rfl ?_); refine box_event ?hg (N := 6) ?hd (cs := #[.slice none 0 0, .int .i64 0]) (t := 41) ?hr ?_; (case hd => rfl); (case hg => rfl); (case hr => first | (go_simp; done) | (go_simp; rfl)); intro g6 hgN w3 hbox hbN; have n0_ := Aside0.mk (St.boxed (by repeat (first | exact S.out | apply St.drewN | apply St.drew)) hgN hbox hbN); clear S; have S := n0_; clear n0_ hgN hbox hbN; clear hc_g5_0 hf_g5_0 hc_g5_1 hf_g5_1 hc_g4_0 hf_g4_0 hc_g4_1 hf_g4_1; have hB_g6 := S.out.blk (g := g6) (cs := #[.slice none 0 0, .int .i64 0]) (t := 41) (List.mem_of_getElem? (i := 0) rfl); have hc_g6_0 : w3.cell? ⟨g6, 0, none⟩ = some (.slice none 0 0) := (cell_blk hB_g6 0).trans rfl; have hf_g6_0 := frozen_blk hB_g6 0; have hc_g6_1 : w3.cell? ⟨g6, 1, none⟩ = some (.int .i64 0) := (cell_blk hB_g6 1).trans rfl; have hf_g6_1 := frozen_blk hB_g6 1; clear hB_g6; have hB_g5 := S.out.blk (g := g5) (cs := #[.int .u8 kd, .int .i32 most]) (t := 45) (List.mem_of_getElem? (i := 1) rfl); have hc_g5_0 : w3.cell? ⟨g5, 0, none⟩ = some (.int .u8 kd) := (cell_blk hB_g5 0).trans rfl; have hf_g5_0 := frozen_blk hB_g5 0; have hc_g5_1 : w3.cell? ⟨g5, 1, none⟩ = some (.int .i32 most) := (cell_blk hB_g5 1).trans rfl; have hf_g5_1 := frozen_blk hB_g5 1; clear hB_g5; have hB_g4 := S.out.blk (g := g4) (cs := #[.slice A xs.length c, .int .i64 e]) (t := 41) (List.mem_of_getElem? (i := 2) rfl); have hc_g4_0 : w3.cell? ⟨g4, 0, none⟩ = some (.slice A xs.length c) := (cell_blk hB_g4 0).trans rfl; have hf_g4_0 := frozen_blk hB_g4 0; have hc_g4_1 : w3.cell? ⟨g4, 1, none⟩ = some (.int .i64 e) := (cell_blk hB_g4 1).trans rfl; have hf_g4_1 := frozen_blk hB_g4 1; clear hB_g4) | (go_at_call 29; refine (rtextR (B := B0) (v := .agg #[.slice A xs.length c, .int .i64 e]) (xs := xs) (e := e) most _ (Nat.le_trans HB.out S.out.below.size) (HV.out.under (S.out.below.mono HB.out)) HBD.out).mono ?_; have BW := Aside0.mk S.out.below; rintro z w4 ⟨v2, u2, rfl, hRS, hu2, hb⟩; have n0_ := Aside0.mk (St.keep (by repeat (first | exact S.out | apply St.drewN | apply St.drew)) hb); clear S; have S := n0_; clear n0_ hb; clear hc_g6_0 hf_g6_0 hc_g6_1 hf_g6_1 hc_g5_0 hf_g5_0 hc_g5_1 hf_g5_1 hc_g4_0 hf_g4_0 hc_g4_1 hf_g4_1; subst hu2; have HV2 := Aside0.mk (hRS.back (BW.out.mono HB.out)); obtain ⟨A2, c2, rfl, _, _, _⟩ := hRS; have hB_g6 := S.out.blk (g := g6) (cs := #[.slice none 0 0, .int .i64 0]) (t := 41) (List.mem_of_getElem? (i := 0) rfl); have hc_g6_0 : w4.cell? ⟨g6, 0, none⟩ = some (.slice none 0 0) := (cell_blk hB_g6 0).trans rfl; have hf_g6_0 := frozen_blk hB_g6 0; have hc_g6_1 : w4.cell? ⟨g6, 1, none⟩ = some (.int .i64 0) := (cell_blk hB_g6 1).trans rfl; have hf_g6_1 := frozen_blk hB_g6 1; clear hB_g6; have hB_g5 := S.out.blk (g := g5) (cs := #[.int .u8 kd, .int .i32 most]) (t := 45) (List.mem_of_getElem? (i := 1) rfl); have hc_g5_0 : w4.cell? ⟨g5, 0, none⟩ = some (.int .u8 kd) := (cell_blk hB_g5 0).trans rfl; have hf_g5_0 := frozen_blk hB_g5 0; have hc_g5_1 : w4.cell? ⟨g5, 1, none⟩ = some (.int .i32 most) := (cell_blk hB_g5 1).trans rfl; have hf_g5_1 := frozen_blk hB_g5 1; clear hB_g5; have hB_g4 := S.out.blk (g := g4) (cs := #[.slice A xs.length c, .int .i64 e]) (t := 41) (List.mem_of_getElem? (i := 2) rfl); have hc_g4_0 : w4.cell? ⟨g4, 0, none⟩ = some (.slice A xs.length c) := (cell_blk hB_g4 0).trans rfl; have hf_g4_0 := frozen_blk hB_g4 0; have hc_g4_1 : w4.cell? ⟨g4, 1, none⟩ = some (.int .i64 e) := (cell_blk hB_g4 1).trans rfl; have hf_g4_1 := frozen_blk hB_g4 1; clear hB_g4) | ((with_reducible refine gate_dst (N := 10) rfl ?_); refine box_event ?hg (N := 10) ?hd (cs := #[.slice none 0 0, .int .i64 0]) (t := 41) ?hr ?_; (case hd => rfl); (case hg => rfl); (case hr => first | (go_simp; done) | (go_simp; rfl)); intro g8 hgN w5 hbox hbN; have n0_ := Aside0.mk (St.boxed (by repeat (first | exact S.out | apply St.drewN | apply St.drew)) hgN hbox hbN); clear S; have S := n0_; clear n0_ hgN hbox hbN; clear hc_g6_0 hf_g6_0 hc_g6_1 hf_g6_1 hc_g5_0 hf_g5_0 hc_g5_1 hf_g5_1 hc_g4_0 hf_g4_0 hc_g4_1 hf_g4_1; have hB_g8 := S.out.blk (g := g8) (cs := #[.slice none 0 0, .int .i64 0]) (t := 41) (List.mem_of_getElem? (i := 0) rfl); have hc_g8_0 : w5.cell? ⟨g8, 0, none⟩ = some (.slice none 0 0) := (cell_blk hB_g8 0).trans rfl; have hf_g8_0 := frozen_blk hB_g8 0; have hc_g8_1 : w5.cell? ⟨g8, 1, none⟩ = some (.int .i64 0) := (cell_blk hB_g8 1).trans rfl; have hf_g8_1 := frozen_blk hB_g8 1; clear hB_g8; have hB_g6 := S.out.blk (g := g6) (cs := #[.slice none 0 0, .int .i64 0]) (t := 41) (List.mem_of_getElem? (i := 1) rfl); have hc_g6_0 : w5.cell? ⟨g6, 0, none⟩ = some (.slice none 0 0) := (cell_blk hB_g6 0).trans rfl; have hf_g6_0 := frozen_blk hB_g6 0; have hc_g6_1 : w5.cell? ⟨g6, 1, none⟩ = some (.int .i64 0) := (cell_blk hB_g6 1).trans rfl; have hf_g6_1 := frozen_blk hB_g6 1; clear hB_g6; have hB_g5 := S.out.blk (g := g5) (cs := #[.int .u8 kd, .int .i32 most]) (t := 45) (List.mem_of_getElem? (i := 2) rfl); have hc_g5_0 : w5.cell? ⟨g5, 0, none⟩ = some (.int .u8 kd) := (cell_blk hB_g5 0).trans rfl; have hf_g5_0 := frozen_blk hB_g5 0; have hc_g5_1 : w5.cell? ⟨g5, 1, none⟩ = some (.int .i32 most) := (cell_blk hB_g5 1).trans rfl; have hf_g5_1 := frozen_blk hB_g5 1; clear hB_g5; have hB_g4 := S.out.blk (g := g4) (cs := #[.slice A xs.length c, .int .i64 e]) (t := 41) (List.mem_of_getElem? (i := 3) rfl); have hc_g4_0 : w5.cell? ⟨g4, 0, none⟩ = some (.slice A xs.length c) := (cell_blk hB_g4 0).trans rfl; have hf_g4_0 := frozen_blk hB_g4 0; have hc_g4_1 : w5.cell? ⟨g4, 1, none⟩ = some (.int .i64 e) := (cell_blk hB_g4 1).trans rfl; have hf_g4_1 := frozen_blk hB_g4 1; clear hB_g4) | ((with_reducible refine gate_store (t := 41) (p := 10) rfl ?_); refine store_event (t := 41) (p := 10) (v := ?_) (w1 := ?_) ?hg ?ho ?hn ?hr ?_; (case ho => rfl); (case hg => rfl); (case hn => rfl); (case hr => first | (go_simp; done) | (go_simp; rfl)); intro w6 hw; have n0_ : Aside0 (St w w6 [Blk g8 #[.slice A2 (rText xs e most).1.length c2, .int .i64 (rText xs e most).2.1] 41, Blk g6 #[.slice none 0 0, .int .i64 0] 41, Blk g5 #[.int .u8 kd, .int .i32 most] 45, Blk g4 #[.slice A xs.length c, .int .i64 e] 41]) := ⟨by rw [hw]; exact (St.set (pre := []) (post := [Blk g6 #[.slice none 0 0, .int .i64 0] 41, Blk g5 #[.int .u8 kd, .int .i32 most] 45, Blk g4 #[.slice A xs.length c, .int .i64 e] 41]) (g := g8) (cs := #[.slice A2 (rText xs e most).1.length c2, .int .i64 0]) (t := 41) (St.set (pre := []) (post := [Blk g6 #[.slice none 0 0, .int .i64 0] 41, Blk g5 #[.int .u8 kd, .int .i32 most] 45, Blk g4 #[.slice A xs.length c, .int .i64 e] 41]) (g := g8) (cs := #[.slice none 0 0, .int .i64 0]) (t := 41) (by repeat (first | exact S.out | apply St.drewN | apply St.drew)) 0 (.slice A2 (rText xs e most).1.length c2)) 1 (.int .i64 (rText xs e most).2.1))⟩; clear S; have S := n0_; clear n0_ hw; clear hc_g8_0 hf_g8_0 hc_g8_1 hf_g8_1 hc_g6_0 hf_g6_0 hc_g6_1 hf_g6_1 hc_g5_0 hf_g5_0 hc_g5_1 hf_g5_1 hc_g4_0 hf_g4_0 hc_g4_1 hf_g4_1; have hB_g8 := S.out.blk (g := g8) (cs := #[.slice A2 (rText xs e most).1.length c2, .int .i64 (rText xs e most).2.1]) (t := 41) (List.mem_of_getElem? (i := 0) rfl); have hc_g8_0 : w6.cell? ⟨g8, 0, none⟩ = some (.slice A2 (rText xs e most).1.length c2) := (cell_blk hB_g8 0).trans rfl; have hf_g8_0 := frozen_blk hB_g8 0; have hc_g8_1 : w6.cell? ⟨g8, 1, none⟩ = some (.int .i64 (rText xs e most).2.1) := (cell_blk hB_g8 1).trans rfl; have hf_g8_1 := frozen_blk hB_g8 1; clear hB_g8; have hB_g6 := S.out.blk (g := g6) (cs := #[.slice none 0 0, .int .i64 0]) (t := 41) (List.mem_of_getElem? (i := 1) rfl); have hc_g6_0 : w6.cell? ⟨g6, 0, none⟩ = some (.slice none 0 0) := (cell_blk hB_g6 0).trans rfl; have hf_g6_0 := frozen_blk hB_g6 0; have hc_g6_1 : w6.cell? ⟨g6, 1, none⟩ = some (.int .i64 0) := (cell_blk hB_g6 1).trans rfl; have hf_g6_1 := frozen_blk hB_g6 1; clear hB_g6; have hB_g5 := S.out.blk (g := g5) (cs := #[.int .u8 kd, .int .i32 most]) (t := 45) (List.mem_of_getElem? (i := 2) rfl); have hc_g5_0 : w6.cell? ⟨g5, 0, none⟩ = some (.int .u8 kd) := (cell_blk hB_g5 0).trans rfl; have hf_g5_0 := frozen_blk hB_g5 0; have hc_g5_1 : w6.cell? ⟨g5, 1, none⟩ = some (.int .i32 most) := (cell_blk hB_g5 1).trans rfl; have hf_g5_1 := frozen_blk hB_g5 1; clear hB_g5; have hB_g4 := S.out.blk (g := g4) (cs := #[.slice A xs.length c, .int .i64 e]) (t := 41) (List.mem_of_getElem? (i := 3) rfl); have hc_g4_0 : w6.cell? ⟨g4, 0, none⟩ = some (.slice A xs.length c) := (cell_blk hB_g4 0).trans rfl; have hf_g4_0 := frozen_blk hB_g4 0; have hc_g4_1 : w6.cell? ⟨g4, 1, none⟩ = some (.int .i64 e) := (cell_blk hB_g4 1).trans rfl; have hf_g4_1 := frozen_blk hB_g4 1; clear hB_g4))
  have HR8 := Aside0.mk (HR.out.below (S.out.below.mono HBB.out))
  have B8 := Aside0.mk S.out.below
  have q8 := S.out.blk (g := g8) (List.mem_of_getElem? (i := 0) rfl)
  have q6 := S.out.blk (g := g6) (List.mem_of_getElem? (i := 1) rfl)
  have q5 := S.out.blk (g := g5) (List.mem_of_getElem? (i := 2) rfl)
  have n8 := S.out.new _ (List.mem_of_getElem? (i := 0) rfl) g8 rfl
  have n6 := S.out.new _ (List.mem_of_getElem? (i := 1) rfl) g6 rfl
  have n5 := S.out.new _ (List.mem_of_getElem? (i := 2) rfl) g5 rfl
  have L8 := (Array.getElem?_eq_some_iff.1 q8).1
  have L6 := (Array.getElem?_eq_some_iff.1 q6).1
  have L5 := (Array.getElem?_eq_some_iff.1 q5).1
  have N8 : g8 ≠ g := by have := HG.out; omega
  have N6 : g6 ≠ g := by have := HG.out; omega
  have N5 : g5 ≠ g := by have := HG.out; omega
  have M6 := Aside0.mk n6
  clear q8 q6 q5 n8 n6 n5 S
  generalize w6 = W8 at *
  have HU8 := Aside0.mk (show w.heap.size ≤ W8.drew.heap.size from B8.out.size)
  have hwm : IntKind.i64.wrap most = most := IntWalk.i64_in most ⟨by omega, by omega⟩
  refine start_ (n := 10) (S := fun w' => w'.cell? ⟨g8, 0, none⟩ = some (.slice A2 (rText xs e most).1.length c2) ∧ w'.cell? ⟨g8, 1, none⟩ = some (.int .i64 (rText xs e most).2.1) ∧ w'.cell? ⟨g5, 1, none⟩ = some (.int .i32 most)) (ds := [8]) #[false, false, false, false, false, false, false, false, false, false] (by kernel_rfl) rfl rfl ⟨(by rw [World.cell?_drew]; exact hc_g8_0), (by rw [World.cell?_drew]; exact hc_g8_1), (by rw [World.cell?_drew]; exact hc_g5_1)⟩ (fun hHeld => ?_)
  refine pure_ (i := 1) (N := some 49) (v := ?_) (a' := ?_) #[false, true, false, false, false, false, false, false, false, false] rfl rfl (by kernel_rfl) (fun _ _ _ h => h) (Or.inl ⟨by rfl, ?_⟩) ?_ ?_
  rotate_left
  · intro w'
    go_simp
    with_reducible rfl
  rotate_left
  · simp only [Act.put, List.setIfInBounds_toArray, List.set_cons_zero, List.set_cons_succ, i64_w, i32_w]
    rfl
  refine pure_ (i := 2) (N := some 50) (v := ?_) (a' := ?_) #[false, true, true, false, false, false, false, false, false, false] rfl rfl (by kernel_rfl) (fun _ _ _ h => h) (Or.inl ⟨by rfl, ?_⟩) ?_ ?_
  rotate_left
  · intro w'
    go_simp
    with_reducible rfl
  rotate_left
  · simp only [Act.put, List.setIfInBounds_toArray, List.set_cons_zero, List.set_cons_succ, i64_w, i32_w]
    rfl
  refine pure_ (i := 6) (N := some 54) (v := ?_) (a' := ?_) #[false, true, true, false, false, false, true, false, false, false] rfl rfl (by kernel_rfl) (fun _ _ _ h => h) (Or.inl ⟨by rfl, ?_⟩) ?_ ?_
  rotate_left
  · intro w'
    go_simp
    with_reducible rfl
  rotate_left
  · simp only [Act.put, List.setIfInBounds_toArray, List.set_cons_zero, List.set_cons_succ, i64_w, i32_w]
    rfl
  refine take_ (i := 0) (N := some 48) (v := ?_) (a' := ?_) #[true, true, true, false, false, false, true, false, false, false] rfl rfl (by kernel_rfl) (fun _ _ _ h => h) (Or.inl ⟨by rfl, ?_⟩) hHeld ?_ ?_
  rotate_left
  · rintro w' ⟨s0, s1, s2⟩
    go_simp
    with_reducible rfl
  rotate_left
  · simp only [Act.put, List.setIfInBounds_toArray, List.set_cons_zero, List.set_cons_succ, i64_w, i32_w]
    rfl
  refine take_ (i := 3) (N := some 51) (v := ?_) (a' := ?_) #[true, true, true, true, false, false, true, false, false, false] rfl rfl (by kernel_rfl) (fun _ _ _ h => h) (Or.inl ⟨by rfl, ?_⟩) hHeld ?_ ?_
  rotate_left
  · rintro w' ⟨s0, s1, s2⟩
    go_simp
    with_reducible rfl
  rotate_left
  · simp only [Act.put, List.setIfInBounds_toArray, List.set_cons_zero, List.set_cons_succ, i64_w, i32_w]
    rfl
  refine pure_ (i := 4) (N := some 52) (v := ?_) (a' := ?_) #[true, true, true, true, true, false, true, false, false, false] rfl rfl (by kernel_rfl) (fun _ _ _ h => h) (Or.inl ⟨by rfl, ?_⟩) ?_ ?_
  rotate_left
  · intro w'
    go_simp
    with_reducible rfl
  rotate_left
  · simp only [Act.put, List.setIfInBounds_toArray, List.set_cons_zero, List.set_cons_succ, i64_w, i32_w]
    rfl
  refine one_ (i := 5) (N := some 53) #[true, true, true, true, true, true, true, false, false, false] rfl rfl (by kernel_rfl) (by decide) (fun K hK => ?_)
  refine goes_ Try.func23 (by kernel_rfl) rfl #[.pointer (some ⟨g, 0, none⟩), .int .i64 most] (by rfl) rfl rfl (by simp only [List.map_toArray, List.map_cons, List.map_nil]; rfl) ?_
  with_reducible refine (textR (B := B) g xs e most _ (HR8.out.below (below_drew (Below.refl _ _))) (Nat.le_trans HBB.out HU8.out)).mono ?_
  rintro z w9 ⟨rfl, hR, hT⟩
  have k80 := (Turn_cell hT 0 L8 N8).trans hc_g8_0
  have k81 := (Turn_cell hT 1 L8 N8).trans hc_g8_1
  have k51 := (Turn_cell hT 1 L5 N5).trans hc_g5_1
  have k60 := (Turn_cell hT 0 L6 N6).trans hc_g6_0
  have k61 := (Turn_cell hT 1 L6 N6).trans hc_g6_1
  have f60 := (Turn_frozen hT 0 L6 N6).trans hf_g6_0
  have f61 := (Turn_frozen hT 1 L6 N6).trans hf_g6_1
  have HR9 := Aside0.mk hR
  have HT9 := Aside0.mk ((Turn.of_below g (below_drew (Below.refl _ _))).trans hT)
  clear hR hT hc_g8_0 hc_g8_1 hc_g5_1 hc_g6_0 hc_g6_1 hf_g6_0 hf_g6_1
  refine ⟨_, rfl, ?_⟩
  refine hK.out _ _ ⟨k80, k81, k51⟩ (fun hHeld => ?_)
  clear hK K
  refine norm_ (a' := ?_) ?_ ?_
  rotate_left
  · show Act.put _ (some 53) _ = _
    simp only [Act.put, List.setIfInBounds_toArray, List.set_cons_zero, List.set_cons_succ, i64_w, i32_w]
    rfl
  refine pure_ (i := 7) (N := some 55) (v := ?_) (a' := ?_) #[true, true, true, true, true, true, true, true, false, false] rfl rfl (by kernel_rfl) (fun _ _ _ h => h) (Or.inl ⟨by rfl, ?_⟩) ?_ ?_
  rotate_left
  · intro w'
    go_simp
    with_reducible rfl
  rotate_left
  · simp only [Act.put, List.setIfInBounds_toArray, List.set_cons_zero, List.set_cons_succ, i64_w, i32_w]
    rfl
  refine last_ (i := 8) (N := none) #[true, true, true, true, true, true, true, true, true, false] rfl rfl (by kernel_rfl) (by decide) (fun K hK => ?_)
  refine skip_ (w1 := ?_) (by rfl) rfl ?_ ?_
  rotate_left
  · go_simp
    rfl
  refine hK.out _ _ ?_
  clear hK K
  refine pure_ (i := 9) (N := some 7) (v := ?_) (a' := ?_) #[true, true, true, true, true, true, true, true, true, true] rfl rfl (by kernel_rfl) (fun _ _ _ h => h) (Or.inl ⟨by rfl, ?_⟩) ?_ ?_
  rotate_left
  · intro w'
    go_simp
    with_reducible rfl
  rotate_left
  · simp only [Act.put, List.setIfInBounds_toArray, List.set_cons_zero, List.set_cons_succ, i64_w, i32_w]
    rfl
  refine done_ (by kernel_rfl) ?_
  go_wp2
  exact bodyPost_ret (v := .tuple #[.agg #[.slice A2 (rText xs e most).1.length c2, .int .i64 (rText xs e most).2.1], .bool true]) (by simp [results, Try.results22, go_sem, k60, k61]) rfl ⟨_, rfl,
    RS.under HV2.out ((B8.out.mono HB.out).trans ((Turn.below2 HT9.out HB0.out (Nat.le_trans HB.out B8.out.size)).trans (((Below.refl B0 _).setCell (p := ⟨g6, 0, none⟩) (Nat.le_trans HB.out M6.out) _).setCell (p := ⟨g6, 1, none⟩) (Nat.le_trans HB.out M6.out) _))),
    Rd.below HR9.out (((Below.refl B _).setCell (p := ⟨g6, 0, none⟩) (Nat.le_trans HBB.out M6.out) _).setCell (p := ⟨g6, 1, none⟩) (Nat.le_trans HBB.out M6.out) _),
    ((Turn.of_below g B8.out).trans HT9.out).under (((Below.refl w.heap.size _).setCell (p := ⟨g6, 0, none⟩) M6.out _).setCell (p := ⟨g6, 1, none⟩) M6.out _)⟩
set_option maxHeartbeats 4000000 in
theorem do2 {B0 B g : Nat} (A : Option Addr) (c : Nat) (xs : List Int) (e kd most : Int) (w : World) (hB0 : B0 ≤ g) (hB : B ≤ w.heap.size) (hV : RS B0 w (.agg #[.slice A xs.length c, .int .i64 e]) xs e) (hR : Rd B w g xs e) (hbd : ∀ x ∈ xs, 0 ≤ x ∧ x < 256)
    (hk0 : 0 ≤ kd) (hk1 : kd < 256) (hk : kd % 4 = 2) (hm0 : -2147483648 ≤ most) (hm1 : most < 2147483648) :
    Calls Try.prog 22 #[.pointer (some ⟨g, 0, none⟩), .agg #[.slice A xs.length c, .int .i64 e], .agg #[.int .u8 kd, .int .i32 most]] w (Done B0 B g w (rWord xs e).1 (rWord xs e).2.1) := by
  have hgB : g < B := by obtain ⟨A', c', h1, h2, h3, h4, h5⟩ := hR; exact h5
  have HG := Aside0.mk (show g < w.heap.size by omega)
  have HBB := Aside0.mk hB
  have HB := Aside0.mk (show B0 ≤ w.heap.size by omega)
  have HB0 := Aside0.mk hB0
  have HV := Aside0.mk hV
  have HR := Aside0.mk hR
  have HBD := Aside0.mk hbd
  clear hV hR hbd hB hgB hB0
  have S := Aside0.mk (St.start w)
  go_enter Try.func22, Try.ntmps22
  go_wp2_with (first | ((with_reducible refine gate_dst (N := 4) rfl ?_); refine box_event ?hg (N := 4) ?hd (cs := #[.slice A xs.length c, .int .i64 e]) (t := 41) ?hr ?_; (case hd => rfl); (case hg => rfl); (case hr => first | (go_simp; done) | (go_simp; rfl)); intro g4 hgN w1 hbox hbN; have n0_ := Aside0.mk (St.boxed (by repeat (first | exact S.out | apply St.drewN | apply St.drew)) hgN hbox hbN); clear S; have S := n0_; clear n0_ hgN hbox hbN; have hB_g4 := S.out.blk (g := g4) (cs := #[.slice A xs.length c, .int .i64 e]) (t := 41) (List.mem_of_getElem? (i := 0) rfl); have hc_g4_0 : w1.cell? ⟨g4, 0, none⟩ = some (.slice A xs.length c) := (cell_blk hB_g4 0).trans rfl; have hf_g4_0 := frozen_blk hB_g4 0; have hc_g4_1 : w1.cell? ⟨g4, 1, none⟩ = some (.int .i64 e) := (cell_blk hB_g4 1).trans rfl; have hf_g4_1 := frozen_blk hB_g4 1; clear hB_g4) | ((with_reducible refine gate_dst (N := 5) rfl ?_); refine box_event ?hg (N := 5) ?hd (cs := #[.int .u8 kd, .int .i32 most]) (t := 45) ?hr ?_; (case hd => rfl); (case hg => rfl); (case hr => first | (go_simp; done) | (go_simp; rfl)); intro g5 hgN w2 hbox hbN; have n0_ := Aside0.mk (St.boxed (by repeat (first | exact S.out | apply St.drewN | apply St.drew)) hgN hbox hbN); clear S; have S := n0_; clear n0_ hgN hbox hbN; clear hc_g4_0 hf_g4_0 hc_g4_1 hf_g4_1; have hB_g5 := S.out.blk (g := g5) (cs := #[.int .u8 kd, .int .i32 most]) (t := 45) (List.mem_of_getElem? (i := 0) rfl); have hc_g5_0 : w2.cell? ⟨g5, 0, none⟩ = some (.int .u8 kd) := (cell_blk hB_g5 0).trans rfl; have hf_g5_0 := frozen_blk hB_g5 0; have hc_g5_1 : w2.cell? ⟨g5, 1, none⟩ = some (.int .i32 most) := (cell_blk hB_g5 1).trans rfl; have hf_g5_1 := frozen_blk hB_g5 1; clear hB_g5; have hB_g4 := S.out.blk (g := g4) (cs := #[.slice A xs.length c, .int .i64 e]) (t := 41) (List.mem_of_getElem? (i := 1) rfl); have hc_g4_0 : w2.cell? ⟨g4, 0, none⟩ = some (.slice A xs.length c) := (cell_blk hB_g4 0).trans rfl; have hf_g4_0 := frozen_blk hB_g4 0; have hc_g4_1 : w2.cell? ⟨g4, 1, none⟩ = some (.int .i64 e) := (cell_blk hB_g4 1).trans rfl; have hf_g4_1 := frozen_blk hB_g4 1; clear hB_g4) | ((with_reducible refine gate_dst (N := 6) rfl ?_); refine box_event ?hg (N := 6) ?hd (cs := #[.slice none 0 0, .int .i64 0]) (t := 41) ?hr ?_; (case hd => rfl); (case hg => rfl); (case hr => first | (go_simp; done) | (go_simp; rfl)); intro g6 hgN w3 hbox hbN; have n0_ := Aside0.mk (St.boxed (by repeat (first | exact S.out | apply St.drewN | apply St.drew)) hgN hbox hbN); clear S; have S := n0_; clear n0_ hgN hbox hbN; clear hc_g5_0 hf_g5_0 hc_g5_1 hf_g5_1 hc_g4_0 hf_g4_0 hc_g4_1 hf_g4_1; have hB_g6 := S.out.blk (g := g6) (cs := #[.slice none 0 0, .int .i64 0]) (t := 41) (List.mem_of_getElem? (i := 0) rfl); have hc_g6_0 : w3.cell? ⟨g6, 0, none⟩ = some (.slice none 0 0) := (cell_blk hB_g6 0).trans rfl; have hf_g6_0 := frozen_blk hB_g6 0; have hc_g6_1 : w3.cell? ⟨g6, 1, none⟩ = some (.int .i64 0) := (cell_blk hB_g6 1).trans rfl; have hf_g6_1 := frozen_blk hB_g6 1; clear hB_g6; have hB_g5 := S.out.blk (g := g5) (cs := #[.int .u8 kd, .int .i32 most]) (t := 45) (List.mem_of_getElem? (i := 1) rfl); have hc_g5_0 : w3.cell? ⟨g5, 0, none⟩ = some (.int .u8 kd) := (cell_blk hB_g5 0).trans rfl; have hf_g5_0 := frozen_blk hB_g5 0; have hc_g5_1 : w3.cell? ⟨g5, 1, none⟩ = some (.int .i32 most) := (cell_blk hB_g5 1).trans rfl; have hf_g5_1 := frozen_blk hB_g5 1; clear hB_g5; have hB_g4 := S.out.blk (g := g4) (cs := #[.slice A xs.length c, .int .i64 e]) (t := 41) (List.mem_of_getElem? (i := 2) rfl); have hc_g4_0 : w3.cell? ⟨g4, 0, none⟩ = some (.slice A xs.length c) := (cell_blk hB_g4 0).trans rfl; have hf_g4_0 := frozen_blk hB_g4 0; have hc_g4_1 : w3.cell? ⟨g4, 1, none⟩ = some (.int .i64 e) := (cell_blk hB_g4 1).trans rfl; have hf_g4_1 := frozen_blk hB_g4 1; clear hB_g4) | (go_at_call 30; refine (rwordR (B := B0) (v := .agg #[.slice A xs.length c, .int .i64 e]) (xs := xs) (e := e) _ (Nat.le_trans HB.out S.out.below.size) (HV.out.under (S.out.below.mono HB.out)) HBD.out).mono ?_; have BW := Aside0.mk S.out.below; rintro z w4 ⟨v2, u2, rfl, hRS, hu2, hb⟩; have n0_ := Aside0.mk (St.keep (by repeat (first | exact S.out | apply St.drewN | apply St.drew)) hb); clear S; have S := n0_; clear n0_ hb; clear hc_g6_0 hf_g6_0 hc_g6_1 hf_g6_1 hc_g5_0 hf_g5_0 hc_g5_1 hf_g5_1 hc_g4_0 hf_g4_0 hc_g4_1 hf_g4_1; subst hu2; have HV2 := Aside0.mk (hRS.back (BW.out.mono HB.out)); obtain ⟨A2, c2, rfl, _, _, _⟩ := hRS; have hB_g6 := S.out.blk (g := g6) (cs := #[.slice none 0 0, .int .i64 0]) (t := 41) (List.mem_of_getElem? (i := 0) rfl); have hc_g6_0 : w4.cell? ⟨g6, 0, none⟩ = some (.slice none 0 0) := (cell_blk hB_g6 0).trans rfl; have hf_g6_0 := frozen_blk hB_g6 0; have hc_g6_1 : w4.cell? ⟨g6, 1, none⟩ = some (.int .i64 0) := (cell_blk hB_g6 1).trans rfl; have hf_g6_1 := frozen_blk hB_g6 1; clear hB_g6; have hB_g5 := S.out.blk (g := g5) (cs := #[.int .u8 kd, .int .i32 most]) (t := 45) (List.mem_of_getElem? (i := 1) rfl); have hc_g5_0 : w4.cell? ⟨g5, 0, none⟩ = some (.int .u8 kd) := (cell_blk hB_g5 0).trans rfl; have hf_g5_0 := frozen_blk hB_g5 0; have hc_g5_1 : w4.cell? ⟨g5, 1, none⟩ = some (.int .i32 most) := (cell_blk hB_g5 1).trans rfl; have hf_g5_1 := frozen_blk hB_g5 1; clear hB_g5; have hB_g4 := S.out.blk (g := g4) (cs := #[.slice A xs.length c, .int .i64 e]) (t := 41) (List.mem_of_getElem? (i := 2) rfl); have hc_g4_0 : w4.cell? ⟨g4, 0, none⟩ = some (.slice A xs.length c) := (cell_blk hB_g4 0).trans rfl; have hf_g4_0 := frozen_blk hB_g4 0; have hc_g4_1 : w4.cell? ⟨g4, 1, none⟩ = some (.int .i64 e) := (cell_blk hB_g4 1).trans rfl; have hf_g4_1 := frozen_blk hB_g4 1; clear hB_g4) | ((with_reducible refine gate_dst (N := 12) rfl ?_); refine box_event ?hg (N := 12) ?hd (cs := #[.slice none 0 0, .int .i64 0]) (t := 41) ?hr ?_; (case hd => rfl); (case hg => rfl); (case hr => first | (go_simp; done) | (go_simp; rfl)); intro g8 hgN w5 hbox hbN; have n0_ := Aside0.mk (St.boxed (by repeat (first | exact S.out | apply St.drewN | apply St.drew)) hgN hbox hbN); clear S; have S := n0_; clear n0_ hgN hbox hbN; clear hc_g6_0 hf_g6_0 hc_g6_1 hf_g6_1 hc_g5_0 hf_g5_0 hc_g5_1 hf_g5_1 hc_g4_0 hf_g4_0 hc_g4_1 hf_g4_1; have hB_g8 := S.out.blk (g := g8) (cs := #[.slice none 0 0, .int .i64 0]) (t := 41) (List.mem_of_getElem? (i := 0) rfl); have hc_g8_0 : w5.cell? ⟨g8, 0, none⟩ = some (.slice none 0 0) := (cell_blk hB_g8 0).trans rfl; have hf_g8_0 := frozen_blk hB_g8 0; have hc_g8_1 : w5.cell? ⟨g8, 1, none⟩ = some (.int .i64 0) := (cell_blk hB_g8 1).trans rfl; have hf_g8_1 := frozen_blk hB_g8 1; clear hB_g8; have hB_g6 := S.out.blk (g := g6) (cs := #[.slice none 0 0, .int .i64 0]) (t := 41) (List.mem_of_getElem? (i := 1) rfl); have hc_g6_0 : w5.cell? ⟨g6, 0, none⟩ = some (.slice none 0 0) := (cell_blk hB_g6 0).trans rfl; have hf_g6_0 := frozen_blk hB_g6 0; have hc_g6_1 : w5.cell? ⟨g6, 1, none⟩ = some (.int .i64 0) := (cell_blk hB_g6 1).trans rfl; have hf_g6_1 := frozen_blk hB_g6 1; clear hB_g6; have hB_g5 := S.out.blk (g := g5) (cs := #[.int .u8 kd, .int .i32 most]) (t := 45) (List.mem_of_getElem? (i := 2) rfl); have hc_g5_0 : w5.cell? ⟨g5, 0, none⟩ = some (.int .u8 kd) := (cell_blk hB_g5 0).trans rfl; have hf_g5_0 := frozen_blk hB_g5 0; have hc_g5_1 : w5.cell? ⟨g5, 1, none⟩ = some (.int .i32 most) := (cell_blk hB_g5 1).trans rfl; have hf_g5_1 := frozen_blk hB_g5 1; clear hB_g5; have hB_g4 := S.out.blk (g := g4) (cs := #[.slice A xs.length c, .int .i64 e]) (t := 41) (List.mem_of_getElem? (i := 3) rfl); have hc_g4_0 : w5.cell? ⟨g4, 0, none⟩ = some (.slice A xs.length c) := (cell_blk hB_g4 0).trans rfl; have hf_g4_0 := frozen_blk hB_g4 0; have hc_g4_1 : w5.cell? ⟨g4, 1, none⟩ = some (.int .i64 e) := (cell_blk hB_g4 1).trans rfl; have hf_g4_1 := frozen_blk hB_g4 1; clear hB_g4) | ((with_reducible refine gate_store (t := 41) (p := 12) rfl ?_); refine store_event (t := 41) (p := 12) (v := ?_) (w1 := ?_) ?hg ?ho ?hn ?hr ?_; (case ho => rfl); (case hg => rfl); (case hn => rfl); (case hr => first | (go_simp; done) | (go_simp; rfl)); intro w6 hw; have n0_ : Aside0 (St w w6 [Blk g8 #[.slice A2 (rWord xs e).1.length c2, .int .i64 (rWord xs e).2.1] 41, Blk g6 #[.slice none 0 0, .int .i64 0] 41, Blk g5 #[.int .u8 kd, .int .i32 most] 45, Blk g4 #[.slice A xs.length c, .int .i64 e] 41]) := ⟨by rw [hw]; exact (St.set (pre := []) (post := [Blk g6 #[.slice none 0 0, .int .i64 0] 41, Blk g5 #[.int .u8 kd, .int .i32 most] 45, Blk g4 #[.slice A xs.length c, .int .i64 e] 41]) (g := g8) (cs := #[.slice A2 (rWord xs e).1.length c2, .int .i64 0]) (t := 41) (St.set (pre := []) (post := [Blk g6 #[.slice none 0 0, .int .i64 0] 41, Blk g5 #[.int .u8 kd, .int .i32 most] 45, Blk g4 #[.slice A xs.length c, .int .i64 e] 41]) (g := g8) (cs := #[.slice none 0 0, .int .i64 0]) (t := 41) (by repeat (first | exact S.out | apply St.drewN | apply St.drew)) 0 (.slice A2 (rWord xs e).1.length c2)) 1 (.int .i64 (rWord xs e).2.1))⟩; clear S; have S := n0_; clear n0_ hw; clear hc_g8_0 hf_g8_0 hc_g8_1 hf_g8_1 hc_g6_0 hf_g6_0 hc_g6_1 hf_g6_1 hc_g5_0 hf_g5_0 hc_g5_1 hf_g5_1 hc_g4_0 hf_g4_0 hc_g4_1 hf_g4_1; have hB_g8 := S.out.blk (g := g8) (cs := #[.slice A2 (rWord xs e).1.length c2, .int .i64 (rWord xs e).2.1]) (t := 41) (List.mem_of_getElem? (i := 0) rfl); have hc_g8_0 : w6.cell? ⟨g8, 0, none⟩ = some (.slice A2 (rWord xs e).1.length c2) := (cell_blk hB_g8 0).trans rfl; have hf_g8_0 := frozen_blk hB_g8 0; have hc_g8_1 : w6.cell? ⟨g8, 1, none⟩ = some (.int .i64 (rWord xs e).2.1) := (cell_blk hB_g8 1).trans rfl; have hf_g8_1 := frozen_blk hB_g8 1; clear hB_g8; have hB_g6 := S.out.blk (g := g6) (cs := #[.slice none 0 0, .int .i64 0]) (t := 41) (List.mem_of_getElem? (i := 1) rfl); have hc_g6_0 : w6.cell? ⟨g6, 0, none⟩ = some (.slice none 0 0) := (cell_blk hB_g6 0).trans rfl; have hf_g6_0 := frozen_blk hB_g6 0; have hc_g6_1 : w6.cell? ⟨g6, 1, none⟩ = some (.int .i64 0) := (cell_blk hB_g6 1).trans rfl; have hf_g6_1 := frozen_blk hB_g6 1; clear hB_g6; have hB_g5 := S.out.blk (g := g5) (cs := #[.int .u8 kd, .int .i32 most]) (t := 45) (List.mem_of_getElem? (i := 2) rfl); have hc_g5_0 : w6.cell? ⟨g5, 0, none⟩ = some (.int .u8 kd) := (cell_blk hB_g5 0).trans rfl; have hf_g5_0 := frozen_blk hB_g5 0; have hc_g5_1 : w6.cell? ⟨g5, 1, none⟩ = some (.int .i32 most) := (cell_blk hB_g5 1).trans rfl; have hf_g5_1 := frozen_blk hB_g5 1; clear hB_g5; have hB_g4 := S.out.blk (g := g4) (cs := #[.slice A xs.length c, .int .i64 e]) (t := 41) (List.mem_of_getElem? (i := 3) rfl); have hc_g4_0 : w6.cell? ⟨g4, 0, none⟩ = some (.slice A xs.length c) := (cell_blk hB_g4 0).trans rfl; have hf_g4_0 := frozen_blk hB_g4 0; have hc_g4_1 : w6.cell? ⟨g4, 1, none⟩ = some (.int .i64 e) := (cell_blk hB_g4 1).trans rfl; have hf_g4_1 := frozen_blk hB_g4 1; clear hB_g4))
  have HR8 := Aside0.mk (HR.out.below (S.out.below.mono HBB.out))
  have B8 := Aside0.mk S.out.below
  have q8 := S.out.blk (g := g8) (List.mem_of_getElem? (i := 0) rfl)
  have q6 := S.out.blk (g := g6) (List.mem_of_getElem? (i := 1) rfl)
  have q5 := S.out.blk (g := g5) (List.mem_of_getElem? (i := 2) rfl)
  have n8 := S.out.new _ (List.mem_of_getElem? (i := 0) rfl) g8 rfl
  have n6 := S.out.new _ (List.mem_of_getElem? (i := 1) rfl) g6 rfl
  have n5 := S.out.new _ (List.mem_of_getElem? (i := 2) rfl) g5 rfl
  have L8 := (Array.getElem?_eq_some_iff.1 q8).1
  have L6 := (Array.getElem?_eq_some_iff.1 q6).1
  have L5 := (Array.getElem?_eq_some_iff.1 q5).1
  have N8 : g8 ≠ g := by have := HG.out; omega
  have N6 : g6 ≠ g := by have := HG.out; omega
  have N5 : g5 ≠ g := by have := HG.out; omega
  have M6 := Aside0.mk n6
  clear q8 q6 q5 n8 n6 n5 S
  generalize w6 = W8 at *
  have HU8 := Aside0.mk (show w.heap.size ≤ W8.drew.heap.size from B8.out.size)
  have hwm : IntKind.i64.wrap most = most := IntWalk.i64_in most ⟨by omega, by omega⟩
  refine start_ (n := 7) (S := fun w' => w'.cell? ⟨g8, 0, none⟩ = some (.slice A2 (rWord xs e).1.length c2) ∧ w'.cell? ⟨g8, 1, none⟩ = some (.int .i64 (rWord xs e).2.1) ∧ w'.cell? ⟨g5, 1, none⟩ = some (.int .i32 most)) (ds := [5]) #[false, false, false, false, false, false, false] (by kernel_rfl) rfl rfl ⟨(by rw [World.cell?_drew]; exact hc_g8_0), (by rw [World.cell?_drew]; exact hc_g8_1), (by rw [World.cell?_drew]; exact hc_g5_1)⟩ (fun hHeld => ?_)
  refine pure_ (i := 1) (N := some 64) (v := ?_) (a' := ?_) #[false, true, false, false, false, false, false] rfl rfl (by kernel_rfl) (fun _ _ _ h => h) (Or.inl ⟨by rfl, ?_⟩) ?_ ?_
  rotate_left
  · intro w'
    go_simp
    with_reducible rfl
  rotate_left
  · simp only [Act.put, List.setIfInBounds_toArray, List.set_cons_zero, List.set_cons_succ, i64_w, i32_w]
    rfl
  refine pure_ (i := 3) (N := some 66) (v := ?_) (a' := ?_) #[false, true, false, true, false, false, false] rfl rfl (by kernel_rfl) (fun _ _ _ h => h) (Or.inl ⟨by rfl, ?_⟩) ?_ ?_
  rotate_left
  · intro w'
    go_simp
    with_reducible rfl
  rotate_left
  · simp only [Act.put, List.setIfInBounds_toArray, List.set_cons_zero, List.set_cons_succ, i64_w, i32_w]
    rfl
  refine take_ (i := 0) (N := some 63) (v := ?_) (a' := ?_) #[true, true, false, true, false, false, false] rfl rfl (by kernel_rfl) (fun _ _ _ h => h) (Or.inl ⟨by rfl, ?_⟩) hHeld ?_ ?_
  rotate_left
  · rintro w' ⟨s0, s1, s2⟩
    go_simp
    with_reducible rfl
  rotate_left
  · simp only [Act.put, List.setIfInBounds_toArray, List.set_cons_zero, List.set_cons_succ, i64_w, i32_w]
    rfl
  refine one_ (i := 2) (N := some 65) #[true, true, true, true, false, false, false] rfl rfl (by kernel_rfl) (by decide) (fun K hK => ?_)
  refine goes_ Try.func24 (by kernel_rfl) rfl #[.pointer (some ⟨g, 0, none⟩)] (by rfl) rfl rfl (by simp only [List.map_toArray, List.map_cons, List.map_nil]; rfl) ?_
  with_reducible refine (wordR (B := B) g xs e _ (HR8.out.below (below_drew (Below.refl _ _))) (Nat.le_trans HBB.out HU8.out)).mono ?_
  rintro z w9 ⟨rfl, hR, hT⟩
  have k80 := (Turn_cell hT 0 L8 N8).trans hc_g8_0
  have k81 := (Turn_cell hT 1 L8 N8).trans hc_g8_1
  have k51 := (Turn_cell hT 1 L5 N5).trans hc_g5_1
  have k60 := (Turn_cell hT 0 L6 N6).trans hc_g6_0
  have k61 := (Turn_cell hT 1 L6 N6).trans hc_g6_1
  have f60 := (Turn_frozen hT 0 L6 N6).trans hf_g6_0
  have f61 := (Turn_frozen hT 1 L6 N6).trans hf_g6_1
  have HR9 := Aside0.mk hR
  have HT9 := Aside0.mk ((Turn.of_below g (below_drew (Below.refl _ _))).trans hT)
  clear hR hT hc_g8_0 hc_g8_1 hc_g5_1 hc_g6_0 hc_g6_1 hf_g6_0 hf_g6_1
  refine ⟨_, rfl, ?_⟩
  refine hK.out _ _ ⟨k80, k81, k51⟩ (fun hHeld => ?_)
  clear hK K
  refine norm_ (a' := ?_) ?_ ?_
  rotate_left
  · show Act.put _ (some 65) _ = _
    simp only [Act.put, List.setIfInBounds_toArray, List.set_cons_zero, List.set_cons_succ, i64_w, i32_w]
    rfl
  refine pure_ (i := 4) (N := some 67) (v := ?_) (a' := ?_) #[true, true, true, true, true, false, false] rfl rfl (by kernel_rfl) (fun _ _ _ h => h) (Or.inl ⟨by rfl, ?_⟩) ?_ ?_
  rotate_left
  · intro w'
    go_simp
    with_reducible rfl
  rotate_left
  · simp only [Act.put, List.setIfInBounds_toArray, List.set_cons_zero, List.set_cons_succ, i64_w, i32_w]
    rfl
  refine last_ (i := 5) (N := none) #[true, true, true, true, true, true, false] rfl rfl (by kernel_rfl) (by decide) (fun K hK => ?_)
  refine skip_ (w1 := ?_) (by rfl) rfl ?_ ?_
  rotate_left
  · go_simp
    rfl
  refine hK.out _ _ ?_
  clear hK K
  refine pure_ (i := 6) (N := some 7) (v := ?_) (a' := ?_) #[true, true, true, true, true, true, true] rfl rfl (by kernel_rfl) (fun _ _ _ h => h) (Or.inl ⟨by rfl, ?_⟩) ?_ ?_
  rotate_left
  · intro w'
    go_simp
    with_reducible rfl
  rotate_left
  · simp only [Act.put, List.setIfInBounds_toArray, List.set_cons_zero, List.set_cons_succ, i64_w, i32_w]
    rfl
  refine done_ (by kernel_rfl) ?_
  go_wp2
  exact bodyPost_ret (v := .tuple #[.agg #[.slice A2 (rWord xs e).1.length c2, .int .i64 (rWord xs e).2.1], .bool true]) (by simp [results, Try.results22, go_sem, k60, k61]) rfl ⟨_, rfl,
    RS.under HV2.out ((B8.out.mono HB.out).trans ((Turn.below2 HT9.out HB0.out (Nat.le_trans HB.out B8.out.size)).trans (((Below.refl B0 _).setCell (p := ⟨g6, 0, none⟩) (Nat.le_trans HB.out M6.out) _).setCell (p := ⟨g6, 1, none⟩) (Nat.le_trans HB.out M6.out) _))),
    Rd.below HR9.out (((Below.refl B _).setCell (p := ⟨g6, 0, none⟩) (Nat.le_trans HBB.out M6.out) _).setCell (p := ⟨g6, 1, none⟩) (Nat.le_trans HBB.out M6.out) _),
    ((Turn.of_below g B8.out).trans HT9.out).under (((Below.refl w.heap.size _).setCell (p := ⟨g6, 0, none⟩) M6.out _).setCell (p := ⟨g6, 1, none⟩) M6.out _)⟩
end Go.Proofs.Ytglcbaellbhogaa.Do
