/- The clock: what turns, what a filter asks. -/
import Derived.Test.YtajmfmgfdgdioaaEv2
import Derived.Test.YtajmfmgfdgdioaaTy
import Derived.Test.YtajmfmgfdgdioaaPCx1
namespace Go.Proofs.Ytajmfmgfdgdioaa.Cl
open Go.RowKit Go.Proofs.Ytajmfmgfdgdioaa.Sep Go.Proofs.YtajmfmgfdgdioaaW.PrintWords Go.Proofs.YtajmfmgfdgdioaaW.PrintLast Go.Proofs.YtajmfmgfdgdioaaW.PrintMore Go.Proofs.Ytajmfmgfdgdioaa.Ev Go.Proofs.Ytajmfmgfdgdioaa.Ty
open Go.Proofs.Ytajmfmgfdgdioaa.PC hiding z46 z59 z67
set_option linter.unusedVariables false
set_option linter.unusedSimpArgs false

/-- What a call does to blocks K and to new ones alone. -/
structure Turn (w w' : World) (K : Nat → Prop) : Prop where
  os : w'.os = w.os
  tape : w'.tape = w.tape
  output : w'.output = w.output
  size : w.heap.size ≤ w'.heap.size
  block : ∀ k, k < w.heap.size → ¬ K k → w'.heap[k]? = w.heap[k]?
theorem Turn.of_below {w w' : World} (K : Nat → Prop) (h : Below w.heap.size w w') : Turn w w' K := ⟨h.os, h.tape, h.output, h.size, fun k hk _ => h.block k hk⟩
theorem Turn.refl (w : World) (K : Nat → Prop) : Turn w w K := Turn.of_below K (Below.refl _ _)
theorem Turn.trans {w w1 w2 : World} {K : Nat → Prop} (h : Turn w w1 K) (k : Turn w1 w2 K) : Turn w w2 K :=
  ⟨k.os.trans h.os, k.tape.trans h.tape, k.output.trans h.output, Nat.le_trans h.size k.size, fun i hi hg => (k.block i (Nat.lt_of_lt_of_le hi h.size) hg).trans (h.block i hi hg)⟩
theorem Turn.mono {w w' : World} {K K' : Nat → Prop} (h : Turn w w' K) (hk : ∀ k, k < w.heap.size → K k → K' k) : Turn w w' K' := ⟨h.os, h.tape, h.output, h.size, fun k h1 h2 => h.block k h1 (fun h3 => h2 (hk k h1 h3))⟩
theorem Turn.below {w w' : World} {K : Nat → Prop} (h : Turn w w' K) {B : Nat} (hB : B ≤ w.heap.size) (hk : ∀ k, K k → B ≤ k) : Below B w w' :=
  ⟨h.os, h.tape, h.output, h.size, fun k h1 => h.block k (Nat.lt_of_lt_of_le h1 hB) (fun h3 => absurd (hk k h3) (Nat.not_le.2 h1))⟩
theorem turn_of {w W : World} {L : List Asn} {B : Nat} {K : Nat → Prop} (S : Aside0 (St B w W L)) {F : Asn → List Asn} (hs : Spot L (Still w (fun k => ¬ K k)) F) : Turn w W K :=
  ⟨S.out.below.os, S.out.below.tape, S.out.below.output, S.out.below.size, fun k h1 h2 => pred_at S.out hs k h2 h1⟩
theorem St.only {w : World} {K : Nat → Prop} {a : Asn} (h : a.pred w) (hf : ∀ k, a.foot k → K k) : Aside0 (St 0 w w [a, Still w (fun k => ¬ K k)]) :=
  ⟨((St.start0 w).cons (Still w (fun k => ¬ K k)) (fun _ _ _ => rfl) (fun k _ => Nat.zero_le k) (fun b hb => by cases hb)).cons a h (fun k _ => Nat.zero_le k)
    (fun b hb k h1 h2 => by
      rcases List.mem_singleton.1 hb with rfl
      exact h2.1 (hf k h1))⟩
theorem cell_turn {w W : World} {K : Nat → Prop} (h : Turn w W K) {ad : Addr} {v : Value} (hk : ¬ K ad.block) (hc : w.cell? ad = some v) : W.cell? ad = some v := by
  have hl := World.block_lt_of_cell? w ad hc
  have hb := h.block ad.block hl hk
  unfold World.cell? at hc ⊢
  rw [hb]; exact hc

theorem late_calls (kk : Nat) (x : S46) (gh : Nat) (A : Option Addr) (c : Nat) (hs : List S59) (p : Bool) (w : World) (hd : w.cell? ⟨gh, 0, none⟩ = some (.slice A hs.length c)) (hC : Kd.C k59 w A hs.length hs) (hc : hs.length ≤ c) (hf : epoch_Passed.f kk hs x.f1 = some p) :
    Calls Try.prog 26 #[.agg #[.int .u16 x.f0, .int .u64 x.f1], .pointer (some ⟨gh, 0, none⟩)] w fun z w' => z = .returned (.bool (!p)) ∧ Below w.heap.size w w' := by
  have HD := Aside0.mk hd
  have HC := Aside0.mk hC
  have HL := Aside0.mk hc
  have HF := Aside0.mk hf
  clear hd hC hc hf
  have S := Aside0.mk (St.start w)
  go_enter Try.func26, Try.ntmps26
  go_wp2_with (first | ((with_reducible refine gate_dst (N := 2) rfl ?_); refine ev_boxs S ?_ 2 rfl rfl rfl ?_; (first | exact want0 rfl | exact want1 rfl rfl rfl rfl); intro g2 w2 S_; clear S; have S := S_; clear S_) | (refine ev_own1 S ?_ rfl o22 rfl (by repeat (first | exact Spot.here _ _ | apply Spot.there)) (by exact rfl) ?_; (first | exact want0 rfl | exact want1 rfl rfl rfl rfl)) | (refine ev_load1 ?_ rfl o22 rfl (old_ S HD.out) ?_; (first | exact want0 rfl | exact want1 rfl rfl rfl rfl)) | (refine ev_own1 S ?_ rfl o23 rfl (by repeat (first | exact Spot.here _ _ | apply Spot.there)) (by exact rfl) ?_; (first | exact want0 rfl | exact want1 rfl rfl rfl rfl)) | (go_at_call 10; have c_ := epoch_Passed.calls kk A c hs x.f1 p _ (Kd.C_below HC.out S.out.below) HL.out HF.out; (with_reducible refine c_.mono ?_); clear c_; rintro z_ w_ ⟨rfl, hb_⟩; have hb2_ := hb_; have S_ := Aside0.mk (S.out.keep hb2_); clear hb2_ hb_; clear S; have S := S_; clear S_))
  go_ret
  exact ⟨rfl, S.out.below⟩

theorem done_calls (kk : Nat) (x : S46) (gh : Nat) (A : Option Addr) (c : Nat) (hs : List S59) (p : Bool) (w : World) (hd : w.cell? ⟨gh, 0, none⟩ = some (.slice A hs.length c)) (hC : Kd.C k59 w A hs.length hs) (hc : hs.length ≤ c) (hf : epoch_Passed.f kk hs x.f1 = some p) :
    Calls Try.prog 30 #[.agg #[.int .u16 x.f0, .int .u64 x.f1], .pointer (some ⟨gh, 0, none⟩)] w fun z w' => z = .returned (.bool (p)) ∧ Below w.heap.size w w' := by
  have HD := Aside0.mk hd
  have HC := Aside0.mk hC
  have HL := Aside0.mk hc
  have HF := Aside0.mk hf
  clear hd hC hc hf
  have S := Aside0.mk (St.start w)
  go_enter Try.func30, Try.ntmps30
  go_wp2_with (first | ((with_reducible refine gate_dst (N := 2) rfl ?_); refine ev_boxs S ?_ 2 rfl rfl rfl ?_; (first | exact want0 rfl | exact want1 rfl rfl rfl rfl); intro g2 w2 S_; clear S; have S := S_; clear S_) | (refine ev_own1 S ?_ rfl o22 rfl (by repeat (first | exact Spot.here _ _ | apply Spot.there)) (by exact rfl) ?_; (first | exact want0 rfl | exact want1 rfl rfl rfl rfl)) | (refine ev_load1 ?_ rfl o22 rfl (old_ S HD.out) ?_; (first | exact want0 rfl | exact want1 rfl rfl rfl rfl)) | (refine ev_own1 S ?_ rfl o23 rfl (by repeat (first | exact Spot.here _ _ | apply Spot.there)) (by exact rfl) ?_; (first | exact want0 rfl | exact want1 rfl rfl rfl rfl)) | (go_at_call 10; have c_ := epoch_Passed.calls kk A c hs x.f1 p _ (Kd.C_below HC.out S.out.below) HL.out HF.out; (with_reducible refine c_.mono ?_); clear c_; rintro z_ w_ ⟨rfl, hb_⟩; have hb2_ := hb_; have S_ := Aside0.mk (S.out.keep hb2_); clear hb2_ hb_; clear S; have S := S_; clear S_))
  go_ret
  exact ⟨rfl, S.out.below⟩
end Go.Proofs.Ytajmfmgfdgdioaa.Cl
