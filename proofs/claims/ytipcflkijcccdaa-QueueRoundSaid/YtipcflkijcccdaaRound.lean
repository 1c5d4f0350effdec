/- The walk of QueueRound. -/
import Derived.Test.YtipcflkijcccdaaAwake
namespace Go.Proofs.Ytipcflkijcccdaa.Round
open Go.RowKit Go.Proofs.Ytipcflkijcccdaa.Sep Go.Proofs.YtipcflkijcccdaaW.PrintWords Go.Proofs.YtipcflkijcccdaaW.PrintLast Go.Proofs.YtipcflkijcccdaaW.PrintMore Go.Proofs.Ytipcflkijcccdaa.X Go.Proofs.Ytipcflkijcccdaa.Qu
set_option linter.unusedVariables false
set_option linter.unusedSimpArgs false

set_option maxHeartbeats 16000000 in
theorem round (A : Option Addr) (l : List Bool) (c : Nat) (w : World) (hC : Kd.C Kd.bool w A l.length l) (hc : l.length ≤ c) (hl : l.length ≤ 140737488351232) :
    Calls Try.prog 5 #[.slice A l.length c] w fun z w' => z = .returned (.bool true) ∧ Below w.heap.size w w' := by
  have HC := Aside0.mk hC
  have S := Aside0.mk (St.start w)
  clear hC
  by_cases hlen : (300 : Int) < (l.length : Int)
  · have hd1 : decide ((l.length : Int) > 300) = true := decide_eq_true hlen
    go_enter Try.func5, Try.ntmps5
    go_wp2_with (first | (go_at_call 7; (with_reducible refine (awake_calls _).mono ?_); rintro e w9 ⟨rfl, hb⟩; have n0_ := Aside0.mk (S.out.keep hb); clear S hb; have S := n0_; clear n0_))
    go_ret
    exact ⟨rfl, S.out.below⟩
  have hd1 : decide ((l.length : Int) > 300) = false := decide_eq_false hlen
  go_enter Try.func5, Try.ntmps5
  go_wp2_with (first | (go_at_call 8; refine (new_calls _).mono ?_; rintro e w1 ⟨g, rfl, hgN, hl, hb⟩; have n0_ := Aside0.mk (St.add (by repeat (first | exact S.out | apply St.drewN | apply St.drew)) hb (RingA g 0 [] (fun _ => False)) (RingA.mk (Ring.new hl)) (RingA.at hgN (fun b hb => hb.elim))); clear S; have S := n0_; clear n0_ hb; clear hl hgN))
  go_loopw [4, 5, 6] (fun v4 v5 v6 wr => ∃ (i : Nat) (L : List It) (m : Int) (D : Nat → Prop), i ≤ l.length ∧ v4 = .int .i64 (L.length : Nat) ∧ v5 = .int .i64 m ∧ v6 = .int .i64 i ∧ 0 ≤ m ∧ m ≤ i ∧ L.length ≤ 8 ∧ Aside0 (∀ p ∈ L, 0 ≤ p.num ∧ (p.obj.length : Int) = p.num % 3) ∧ Aside0 (St w.heap.size w wr [RingA g m L D])) (fun _ _ v6 _ => l.length - (intOf v6).toNat)
  case atStart => exact ⟨0, [], 0, _, Nat.zero_le _, rfl, rfl, rfl, Int.le_refl 0, Int.le_refl 0, by simp, ⟨fun p hp => by cases hp⟩, S⟩
  case round =>
    clear S
    obtain ⟨i, L, m, D, hi, rfl, rfl, rfl, hm0, hmi, h8, HL, S⟩ := hrel
    by_cases hil : i < l.length
    · have hil' : (i : Int) < (l.length : Int) := by omega
      have hd2 : decide ((i : Int) < (l.length : Int)) = true := decide_eq_true hil'
      have hd3 : decide (i < l.length) = true := decide_eq_true hil
      have q0 : (0 : Int) ≤ (i : Int) := by omega
      obtain ⟨ad, cs, rfl, hcl, hk, hcell⟩ := Kd.C_get (Kd.C_below HC.out S.out.below) false (i : Int) q0 hil'
      obtain ⟨b, hb⟩ : ∃ b, l.getD (i : Int).toNat false = b := ⟨_, rfl⟩
      rw [hb] at hk
      obtain rfl : cs = [.bool b] := hk
      have k0 := hcell 0 _ rfl
      rw [Int.toNat_natCast] at k0
      have k1 : wr.cell? (ad.add i) = some (.bool b) := by rw [show i * Kd.bool.sz + 0 = i from Nat.mul_one i] at k0; exact k0
      clear hcell hcl k0 hb
      have hmi' : m < 4611686018427387904 := by omega
      cases b with
      | false =>
        cases L with
        | nil =>
          go_wp2_with (first | (go_at_call 12; refine (ring_pop0 g m D _ (St.ringOf S.out (List.mem_of_getElem? (i := 0) rfl))).mono ?_; rintro e w1 ⟨rfl, hb⟩; have n0_ := Aside0.mk (St.keep (by repeat (first | exact S.out | apply St.drewN | apply St.drew)) hb); clear S; have S := n0_; clear n0_ hb) | ((with_reducible refine gate_dst (N := 7) rfl ?_); refine box_event ?hg (N := 7) ?hd (cs := #[.int .i64 0, .int .u8 0, .string ⟨#[]⟩, .slice none 0 0]) (t := 45) ?hr ?_; (case hd => rfl); (case hg => rfl); (case hr => first | (go_simp; done) | (go_simp; rfl)); intro g7 hgN w2 hbox hbN; have n0_ := Aside0.mk (St.boxed (by repeat (first | exact S.out | apply St.drewN | apply St.drew)) hgN hbox hbN); clear S; have S := n0_; clear n0_ hgN hbox hbN; have hB_g7 := S.out.blk (g := g7) (cs := #[.int .i64 0, .int .u8 0, .string ⟨#[]⟩, .slice none 0 0]) (t := 45) (List.mem_of_getElem? (i := 0) rfl); have hc_g7_0 : w2.cell? ⟨g7, 0, none⟩ = some (.int .i64 0) := (cell_blk hB_g7 0).trans rfl; have hf_g7_0 := frozen_blk hB_g7 0; have hc_g7_1 : w2.cell? ⟨g7, 1, none⟩ = some (.int .u8 0) := (cell_blk hB_g7 1).trans rfl; have hf_g7_1 := frozen_blk hB_g7 1; have hc_g7_2 : w2.cell? ⟨g7, 2, none⟩ = some (.string ⟨#[]⟩) := (cell_blk hB_g7 2).trans rfl; have hf_g7_2 := frozen_blk hB_g7 2; have hc_g7_3 : w2.cell? ⟨g7, 3, none⟩ = some (.slice none 0 0) := (cell_blk hB_g7 3).trans rfl; have hf_g7_3 := frozen_blk hB_g7 3; clear hB_g7) | ((with_reducible refine gate_store (t := 45) (p := 7) rfl ?_); refine store_event (t := 45) (p := 7) (v := ?_) (w1 := ?_) ?hg ?ho ?hn ?hr ?_; (case ho => rfl); (case hg => rfl); (case hn => rfl); (case hr => first | (go_simp; done) | (go_simp; rfl)); intro w3 hw; have n0_ : Aside0 (St w.heap.size w w3 [Blk g7 #[.int .i64 0, .int .u8 0, .string ⟨#[]⟩, .slice none 0 0] 45, RingA g m [] D]) := ⟨by rw [hw]; exact (St.set (pre := []) (post := [RingA g m [] D]) (g := g7) (cs := #[.int .i64 0, .int .u8 0, .string ⟨#[]⟩, .slice none 0 0]) (t := 45) (St.set (pre := []) (post := [RingA g m [] D]) (g := g7) (cs := #[.int .i64 0, .int .u8 0, .string ⟨#[]⟩, .slice none 0 0]) (t := 45) (St.set (pre := []) (post := [RingA g m [] D]) (g := g7) (cs := #[.int .i64 0, .int .u8 0, .string ⟨#[]⟩, .slice none 0 0]) (t := 45) (St.set (pre := []) (post := [RingA g m [] D]) (g := g7) (cs := #[.int .i64 0, .int .u8 0, .string ⟨#[]⟩, .slice none 0 0]) (t := 45) (by repeat (first | exact S.out | apply St.drewN | apply St.drew)) 0 (.int .i64 0)) 1 (.int .u8 0)) 2 (.string ⟨#[]⟩)) 3 (.slice none 0 0))⟩; clear S; have S := n0_; clear n0_ hw; clear hc_g7_0 hf_g7_0 hc_g7_1 hf_g7_1 hc_g7_2 hf_g7_2 hc_g7_3 hf_g7_3; have hB_g7 := S.out.blk (g := g7) (cs := #[.int .i64 0, .int .u8 0, .string ⟨#[]⟩, .slice none 0 0]) (t := 45) (List.mem_of_getElem? (i := 0) rfl); have hc_g7_0 : w3.cell? ⟨g7, 0, none⟩ = some (.int .i64 0) := (cell_blk hB_g7 0).trans rfl; have hf_g7_0 := frozen_blk hB_g7 0; have hc_g7_1 : w3.cell? ⟨g7, 1, none⟩ = some (.int .u8 0) := (cell_blk hB_g7 1).trans rfl; have hf_g7_1 := frozen_blk hB_g7 1; have hc_g7_2 : w3.cell? ⟨g7, 2, none⟩ = some (.string ⟨#[]⟩) := (cell_blk hB_g7 2).trans rfl; have hf_g7_2 := frozen_blk hB_g7 2; have hc_g7_3 : w3.cell? ⟨g7, 3, none⟩ = some (.slice none 0 0) := (cell_blk hB_g7 3).trans rfl; have hf_g7_3 := frozen_blk hB_g7 3; clear hB_g7))
          refine ⟨⟨i + 1, [], m, D, by omega, rfl, rfl, by simp, hm0, by omega, by simp, HL, ⟨S.out.drop (List.sublist_cons_self _ _)⟩⟩, ?_⟩
          simp [intOf]; omega
        | cons p L =>
          obtain ⟨hp0, hp1⟩ := HL.out p (List.mem_cons_self)
          have hp2 : (((p.obj.length : Nat) : Int) == p.num % 3) = true := by simpa using hp1
          have hp3 : (((p.obj.length : Nat) : Int) != p.num % 3) = false := by simp [hp1]
          have hL0 : (0 : Int) ≤ (L.length : Int) := by omega
          have hL1 : (L.length : Int) < 8 := by simp at h8; omega
          have HL2 := Aside0.mk (show ∀ q ∈ L, 0 ≤ q.num ∧ (q.obj.length : Int) = q.num % 3 from fun q hq => HL.out q (List.mem_cons_of_mem _ hq))
          clear HL hp1
          go_wp2_with (first | (go_at_call 12; have c_ := ring_pop g m p L D _ (St.ringOf S.out (List.mem_of_getElem? (i := 0) rfl)); (with_reducible refine c_.mono ?_); clear c_; rintro e w1 ⟨A5, c5, rfl, hc5, hR5, hn5, hd5, hR, hT⟩; have n0_ : Aside0 (St w.heap.size w w1 [RingA g m L D]) := ⟨by exact St.ring (pre := []) (post := []) (show St w.heap.size w _ ([] ++ RingA g m (p :: L) D :: []) from (by repeat (first | exact S.out | apply St.drewN | apply St.drew))) hT hR (fun b hb => .inl hb)⟩; clear S; have S := n0_; clear n0_; clear hc5 hR5 hn5 hd5 hR hT) | ((with_reducible refine gate_dst (N := 7) rfl ?_); refine box_event ?hg (N := 7) ?hd (cs := #[.int .i64 0, .int .u8 0, .string ⟨#[]⟩, .slice none 0 0]) (t := 45) ?hr ?_; (case hd => rfl); (case hg => rfl); (case hr => first | (go_simp; done) | (go_simp; rfl)); intro g7 hgN w2 hbox hbN; have n0_ := Aside0.mk (St.boxed (by repeat (first | exact S.out | apply St.drewN | apply St.drew)) hgN hbox hbN); clear S; have S := n0_; clear n0_ hgN hbox hbN; have hB_g7 := S.out.blk (g := g7) (cs := #[.int .i64 0, .int .u8 0, .string ⟨#[]⟩, .slice none 0 0]) (t := 45) (List.mem_of_getElem? (i := 0) rfl); have hc_g7_0 : w2.cell? ⟨g7, 0, none⟩ = some (.int .i64 0) := (cell_blk hB_g7 0).trans rfl; have hf_g7_0 := frozen_blk hB_g7 0; have hc_g7_1 : w2.cell? ⟨g7, 1, none⟩ = some (.int .u8 0) := (cell_blk hB_g7 1).trans rfl; have hf_g7_1 := frozen_blk hB_g7 1; have hc_g7_2 : w2.cell? ⟨g7, 2, none⟩ = some (.string ⟨#[]⟩) := (cell_blk hB_g7 2).trans rfl; have hf_g7_2 := frozen_blk hB_g7 2; have hc_g7_3 : w2.cell? ⟨g7, 3, none⟩ = some (.slice none 0 0) := (cell_blk hB_g7 3).trans rfl; have hf_g7_3 := frozen_blk hB_g7 3; clear hB_g7) | ((with_reducible refine gate_store (t := 45) (p := 7) rfl ?_); refine store_event (t := 45) (p := 7) (v := ?_) (w1 := ?_) ?hg ?ho ?hn ?hr ?_; (case ho => rfl); (case hg => rfl); (case hn => rfl); (case hr => first | (go_simp; done) | (go_simp; rfl)); intro w3 hw; have n0_ : Aside0 (St w.heap.size w w3 [Blk g7 #[.int .i64 p.num, .int .u8 p.kind, .string p.name, .slice A5 p.obj.length c5] 45, RingA g m L D]) := ⟨by rw [hw]; exact (St.set (pre := []) (post := [RingA g m L D]) (g := g7) (cs := #[.int .i64 p.num, .int .u8 p.kind, .string p.name, .slice none 0 0]) (t := 45) (St.set (pre := []) (post := [RingA g m L D]) (g := g7) (cs := #[.int .i64 p.num, .int .u8 p.kind, .string ⟨#[]⟩, .slice none 0 0]) (t := 45) (St.set (pre := []) (post := [RingA g m L D]) (g := g7) (cs := #[.int .i64 p.num, .int .u8 0, .string ⟨#[]⟩, .slice none 0 0]) (t := 45) (St.set (pre := []) (post := [RingA g m L D]) (g := g7) (cs := #[.int .i64 0, .int .u8 0, .string ⟨#[]⟩, .slice none 0 0]) (t := 45) (by repeat (first | exact S.out | apply St.drewN | apply St.drew)) 0 (.int .i64 p.num)) 1 (.int .u8 p.kind)) 2 (.string p.name)) 3 (.slice A5 p.obj.length c5))⟩; clear S; have S := n0_; clear n0_ hw; clear hc_g7_0 hf_g7_0 hc_g7_1 hf_g7_1 hc_g7_2 hf_g7_2 hc_g7_3 hf_g7_3; have hB_g7 := S.out.blk (g := g7) (cs := #[.int .i64 p.num, .int .u8 p.kind, .string p.name, .slice A5 p.obj.length c5]) (t := 45) (List.mem_of_getElem? (i := 0) rfl); have hc_g7_0 : w3.cell? ⟨g7, 0, none⟩ = some (.int .i64 p.num) := (cell_blk hB_g7 0).trans rfl; have hf_g7_0 := frozen_blk hB_g7 0; have hc_g7_1 : w3.cell? ⟨g7, 1, none⟩ = some (.int .u8 p.kind) := (cell_blk hB_g7 1).trans rfl; have hf_g7_1 := frozen_blk hB_g7 1; have hc_g7_2 : w3.cell? ⟨g7, 2, none⟩ = some (.string p.name) := (cell_blk hB_g7 2).trans rfl; have hf_g7_2 := frozen_blk hB_g7 2; have hc_g7_3 : w3.cell? ⟨g7, 3, none⟩ = some (.slice A5 p.obj.length c5) := (cell_blk hB_g7 3).trans rfl; have hf_g7_3 := frozen_blk hB_g7 3; clear hB_g7))
          have hif : (if 0 < L.length then (L.length : Int) else 0) = (L.length : Int) := by split <;> omega
          refine ⟨⟨i + 1, L, m, D, by omega, by rw [hif], rfl, by simp, hm0, by omega, by omega, HL2, ⟨S.out.drop (List.sublist_cons_self _ _)⟩⟩, ?_⟩
          simp [intOf]; omega
      | true =>
        have hz0 : 0 ≤ m % 3 := by omega
        have hz1 : m % 3 < 3 := by omega
        have hL0 : (0 : Int) ≤ (L.length : Int) := by omega
        have hL1 : (L.length : Int) < 9 := by omega
        by_cases hf : L.length < 8
        · have hd4 : decide ((L.length : Int) < 8) = true := decide_eq_true (by omega)
          go_wp2_with (first | ((with_reducible refine gate_dst (N := 56) rfl ?_); refine Kd.R_make (Kd.int .u8) (w0 := wr) wr.heap.size 5 rfl (N := 56) rfl 31 _ _ rfl (m % 3) rfl rfl Try.underlying31 (.int .u8 0) 1 info5 rfl (by decide) (by decide) (0 : Int) (ok := fun _ => True) (okp := fun _ => False) rfl (fun _ h => h.elim) trivial (by omega) (by omega) (by repeat (first | exact Below.refl _ _ | apply below_drew)) (Nat.le_refl _) ?_; intro v5 w5 ho hb hg hat; obtain ⟨o, ho_⟩ : ∃ o, List.replicate (m % 3).toNat (0 : Int) = o := ⟨_, rfl⟩; have HO := Aside0.mk (show (o.length : Int) = m % 3 by rw [← ho_, List.length_replicate]; omega); rw [ho_] at ho; obtain ⟨A5, c5, rfl, hl5, hC5⟩ := Kd.R_reads ho; have HL5 := Aside0.mk hl5; have HA5 := Aside0.mk (show ∀ k, (Row A5 o).foot k → k ≠ g from fun k hk he => by have h1 := R_new (o := o) ho rfl k hk; have h2 := (St.ringOf S.out (List.mem_of_getElem? (i := 0) rfl)).lt; omega); have n0_ := Aside0.mk (St.add S.out hb (Row A5 o) hC5 (R_new ho rfl)); clear S; have S := n0_; clear n0_ ho hb hg hat ho_ hl5 hC5) | (go_at_call 11; have c_ := ring_push_ok g m L D 0 ⟨#[]⟩ A5 c5 o _ (St.ringOf S.out (List.mem_of_getElem? (i := 1) rfl)) hf hm0 hmi' (S.out.pred (a := Row A5 o) (List.mem_of_getElem? (i := 0) rfl)) HA5.out HL5.out (by have := HO.out; omega); (with_reducible refine c_.mono ?_); clear c_; rintro e w6 ⟨rfl, D2, hD, hR, hT⟩; have n0_ : Aside0 (St w.heap.size w w6 [Row A5 o, RingA g (m + 1) (L ++ [⟨m, 0, ⟨#[]⟩, o⟩]) D2]) := ⟨by exact St.ring (pre := [Row A5 o]) (post := []) (show St w.heap.size w _ ([Row A5 o] ++ RingA g m L D :: []) from (by repeat (first | exact S.out | apply St.drewN | apply St.drew))) hT hR hD⟩; clear S; have S := n0_; clear n0_; clear hD hR hT))
          refine ⟨⟨i + 1, L ++ [⟨m, 0, ⟨#[]⟩, o⟩], m + 1, D2, by omega, by simp, rfl, by simp, by omega, by omega, by simp; omega, ⟨fun p hp => ?_⟩, ⟨S.out.drop (List.sublist_cons_self _ _)⟩⟩, ?_⟩
          · rcases List.mem_append.1 hp with hp | hp
            · exact HL.out p hp
            · obtain rfl := List.mem_singleton.1 hp
              exact ⟨hm0, HO.out⟩
          · simp [intOf]; omega
        · have hd4 : decide ((L.length : Int) < 8) = false := decide_eq_false (by omega)
          go_wp2_with (first | ((with_reducible refine gate_dst (N := 56) rfl ?_); refine Kd.R_make (Kd.int .u8) (w0 := wr) wr.heap.size 5 rfl (N := 56) rfl 31 _ _ rfl (m % 3) rfl rfl Try.underlying31 (.int .u8 0) 1 info5 rfl (by decide) (by decide) (0 : Int) (ok := fun _ => True) (okp := fun _ => False) rfl (fun _ h => h.elim) trivial (by omega) (by omega) (by repeat (first | exact Below.refl _ _ | apply below_drew)) (Nat.le_refl _) ?_; intro v5 w5 ho hb hg hat; obtain ⟨o, ho_⟩ : ∃ o, List.replicate (m % 3).toNat (0 : Int) = o := ⟨_, rfl⟩; have HO := Aside0.mk (show (o.length : Int) = m % 3 by rw [← ho_, List.length_replicate]; omega); rw [ho_] at ho; obtain ⟨A5, c5, rfl, hl5, hC5⟩ := Kd.R_reads ho; have HL5 := Aside0.mk hl5; have HA5 := Aside0.mk (show ∀ k, (Row A5 o).foot k → k ≠ g from fun k hk he => by have h1 := R_new (o := o) ho rfl k hk; have h2 := (St.ringOf S.out (List.mem_of_getElem? (i := 0) rfl)).lt; omega); have n0_ := Aside0.mk (St.add S.out hb (Row A5 o) hC5 (R_new ho rfl)); clear S; have S := n0_; clear n0_ ho hb hg hat ho_ hl5 hC5) | (go_at_call 11; have c_ := ring_push_full g m L D 0 ⟨#[]⟩ A5 c5 o _ (St.ringOf S.out (List.mem_of_getElem? (i := 1) rfl)) hf hm0 hmi' (S.out.pred (a := Row A5 o) (List.mem_of_getElem? (i := 0) rfl)) HA5.out HL5.out (by have := HO.out; omega); (with_reducible refine c_.mono ?_); clear c_; rintro e w6 ⟨rfl, D2, hD, hR, hT⟩; have n0_ : Aside0 (St w.heap.size w w6 [Row A5 o, RingA g (m + 1) L D2]) := ⟨by exact St.ring (pre := [Row A5 o]) (post := []) (show St w.heap.size w _ ([Row A5 o] ++ RingA g m L D :: []) from (by repeat (first | exact S.out | apply St.drewN | apply St.drew))) hT hR hD⟩; clear S; have S := n0_; clear n0_; clear hD hR hT))
          have h8' : L.length = 8 := by omega
          refine ⟨⟨i + 1, L, m + 1, D2, by omega, by simp [h8'], rfl, by simp, by omega, by omega, h8, HL, ⟨S.out.drop (List.sublist_cons_self _ _)⟩⟩, ?_⟩
          simp [intOf]; omega
    · obtain rfl : i = l.length := by omega
      go_wp2_with (first | (go_at_call 14; have c_ := ring_len g m L D _ (St.ringOf S.out (List.mem_of_getElem? (i := 0) rfl)); (with_reducible refine c_.mono ?_); clear c_; rintro e w9 ⟨rfl, rfl⟩) | (go_at_call 13; have c_ := ring_came g m L D _ (St.ringOf S.out (List.mem_of_getElem? (i := 0) rfl)); (with_reducible refine c_.mono ?_); clear c_; rintro e w9 ⟨rfl, rfl⟩) | (go_at_call 7; refine (awake_calls _).mono ?_; rintro e w1 ⟨rfl, hb⟩; have n0_ := Aside0.mk (St.keep (by repeat (first | exact S.out | apply St.drewN | apply St.drew)) hb); clear S; have S := n0_; clear n0_ hb))
      go_ret
      exact ⟨rfl, S.out.below⟩
end Go.Proofs.Ytipcflkijcccdaa.Round
